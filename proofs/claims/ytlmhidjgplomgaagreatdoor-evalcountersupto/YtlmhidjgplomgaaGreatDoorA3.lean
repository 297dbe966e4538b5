/-
  Part 3 of the proof that the law EvalCountersUptoCardSaid of the given program answers true for every input of the given statement; the input reads behind the call as it did. (The texts: packed from 16 texts. Names are shortened by the packing program, for the bound on size.)
-/
import Derived.Test.YtlmhidjgplomgaaGreatDoorA2
import Derived.Laws.BytesArg
import Derived.Laws.Bits64b
import Derived.Laws.IdiomStrings
import Derived.Lib.Bytealg
import Derived.Lib.Split
import Derived.Lib.Index
set_option linter.all false
section
set_option maxRecDepth 100000
noncomputable section
namespace TwW
open Go Tw Go.Proofs.Tryz
variable [Eg] {R : Rr} {σ : Hp}

namespace O0
def M : Fw := ⟨prog, 14, f14, [11, 15, 25, 35, 36], [], false, [], [], []⟩
theorem ok : M.Ok := ⟨.cons call11 (.cons call15 (.cons call25 (.cons call35 (.cons call36 (AG.nil))))), mixed, func14, by kernel_rfl⟩
theorem start (h : Al σ fun A8 => Spec prog 25 #[.float .f64 4607182418800017408] (Hp.set σ A8 (.cells #[(.string (ByteArray.mk #[95, 95, 110, 97, 109, 101, 95, 95])), (.string (ByteArray.mk #[120])), (.string (ByteArray.mk #[97])), (.string (ByteArray.mk #[49]))] 56 (0, 0))) (AA R (CI .u64 fun x12 y => Spec prog 25 #[.float .f64 4613937818241073152] y (AA R (CI .u64 fun La AF => Al AF fun Ln => Al (Hp.set AF Ln (.cells #[.int .i64 0, .int .u64 x12, .int .i64 60, .int .u64 La] 50 (0, 0))) fun XV => Spec prog 25 #[.float .f64 4617315517961601024] (Hp.set (Hp.set AF Ln (.cells #[.int .i64 0, .int .u64 x12, .int .i64 60, .int .u64 La] 50 (0, 0))) XV (.cells #[(.string (ByteArray.mk #[95, 95, 110, 97, 109, 101, 95, 95])), (.string (ByteArray.mk #[120])), (.string (ByteArray.mk #[97])), (.string (ByteArray.mk #[50]))] 56 (0, 0))) (AA R (CI .u64 fun aK AH => Al AH fun Pd => Al (Hp.set AH Pd (.cells #[.int .i64 60, .int .u64 aK] 50 (0, 0))) fun JU => Al (Hp.set (Hp.set AH Pd (.cells #[.int .i64 60, .int .u64 aK] 50 (0, 0))) JU (.cells #[(.slice (aD A8 0) 2 2), (.slice (aD Ln 0) 2 2), (.slice (aD XV 0) 2 2), (.slice (aD Pd 0) 1 1)] 40 (0, 0))) fun W2 => Al (Hp.set (Hp.set (Hp.set AH Pd (.cells #[.int .i64 60, .int .u64 aK] 50 (0, 0))) JU (.cells #[(.slice (aD A8 0) 2 2), (.slice (aD Ln 0) 2 2), (.slice (aD XV 0) 2 2), (.slice (aD Pd 0) 1 1)] 40 (0, 0))) W2 (.cells #[.int .i64 1, (.string (ByteArray.mk #[95, 95, 110, 97, 109, 101, 95, 95])), (.string (ByteArray.mk #[120]))] 77 (0, 0))) fun XW => Spec prog 11 #[(.slice (aD XW 0) 2 2), (.slice (aD JU 0) 2 2), .int .i64 60] (Hp.set (Hp.set (Hp.set (Hp.set AH Pd (.cells #[.int .i64 60, .int .u64 aK] 50 (0, 0))) JU (.cells #[(.slice (aD A8 0) 2 2), (.slice (aD Ln 0) 2 2), (.slice (aD XV 0) 2 2), (.slice (aD Pd 0) 1 1)] 40 (0, 0))) W2 (.cells #[.int .i64 1, (.string (ByteArray.mk #[95, 95, 110, 97, 109, 101, 95, 95])), (.string (ByteArray.mk #[120]))] 77 (0, 0))) XW (.cells #[.int .i64 2, .int .i64 0, (.string (ByteArray.mk #[])), (.slice (aD W2 0) 1 1), .int .i64 0, .int .i64 0, .int .i64 0, .slice none 0 0, .bool false, .int .i64 0, .int .i64 5, .int .i64 1, (.string (ByteArray.mk #[])), .slice none 0 0, .int .i64 0, .int .i64 0, .int .i64 0, .slice none 0 0, .bool false, .int .i64 1] 36 (0, 0))) (AA R (fun z AZ => ∃ ACx xn AJP ACy, z = (.tuple #[.slice ACx xn AJP, .int .i64 ACy]) ∧ Spec prog 35 #[(.slice (aD XW 0) 2 2), (.slice (aD JU 0) 2 2), .int .i64 0, .int .i64 60, .int .i64 60] AZ (AA R (fun z CJ => ∃ XX VJ aL aM, z = (.tuple #[.slice XX VJ aL, .int .i64 aM]) ∧ Spec prog 15 #[(.slice (aD XW 0) 2 2)] CJ (AA R (fun z EK => ∃ ACz AC0, z = (.tuple #[.int .i64 ACz, .int .i64 AC0]) ∧ Br (ACy = 0) (Br ((xn : Int) = 1) (Pq ACx fun tf xo => In 0 (xn : Int) ∧ LS EK tf (xo + 1) fun sq n59 su => Spec prog 25 #[.float .f64 4620693217682128896] EK (AA R (CI .u64 fun qK EM => Kp [tf] EK EM ∧ Al EM fun b62 => Spec prog 36 #[.slice sq n59 su, (.slice (aD b62 0) 1 1)] (Hp.set EM b62 (.cells #[.int .i64 60, .int .u64 qK] 50 (0, 0))) (AA R (CB fun t63 I9 => Bo t63 (Br (aM = 0) (Br ((VJ : Int) = 1) (Pq XX fun b76 o76 => In 0 (VJ : Int) ∧ LS I9 b76 (o76 + 1) fun iG VI iH => Br ((VI : Int) = 2) (Br (ACz = 300) (R (.returned (.bool (decide (AC0 = 0)))) I9) (R (.returned (.bool false)) I9)) (R (.returned (.bool false)) I9)) (R (.returned (.bool false)) I9)) (R (.returned (.bool false)) I9)) (R (.returned (.bool false)) I9)))))) (R (.returned (.bool false)) EK)) (R (.returned (.bool false)) EK)))))))))))))) : Spec prog 14 #[] σ R := M.start h ok
end O0
namespace XY
variable {x0 : Int}
def M : Fw := ⟨prog, 24, f24, [], [], false, [], [], []⟩
theorem ok : M.Ok := ⟨AG.nil, mixed, func24, by kernel_rfl⟩
theorem start (h : Df (Go.bits .and .i64 x0 9223372036854775807) fun x4 => R (.returned (.int .i64 x4)) σ) : Spec prog 24 #[.int .i64 x0] σ R := M.start h ok
end XY
namespace JC
variable {p0 : Option Addr} {n0 c0 : Nat}
def M : Fw := ⟨prog, 33, f33, [], [], false, [], [], []⟩
theorem ok : M.Ok := ⟨AG.nil, mixed, func33, by kernel_rfl⟩
theorem start (h : Al σ fun b3 => AJ prog (Builtin.append_ #[37, 37] 37 #[(.slice (aD b3 0) 0 0), .slice p0 n0 c0]) (Hp.set σ b3 (.cells #[] 56 (0, 0))) (CS fun p5 n5 c5 y => R (.returned (.slice p5 n5 c5)) y)) : Spec prog 33 #[.slice p0 n0 c0] σ R := M.start h ok
end JC
namespace Ri
variable {x0 : Int}
def M : Fw := ⟨prog, 81, f81, [], [], false, [], [], []⟩
theorem ok : M.Ok := ⟨AG.nil, mixed, func81, by kernel_rfl⟩
theorem start (h : Al σ fun b1 => R (.returned (.func (.func 127) #[] #[(.pointer (aD b1 0))])) (Hp.set σ b1 (.cells #[.int .i64 x0] 3 (0, 0)))) : Spec prog 81 #[.int .i64 x0] σ R := M.start h ok
end Ri
namespace AT
variable {q0 : Option Addr} {v1 : Value} {x2 x3 : Int} {b9 : Nat}
def M : Fw := ⟨prog, 95, f95, [66, 133, 134, 135, 136, 137, 138], [], false, [], [], [(48, [(0, wQ), (1, wV), (2, wI), (3, wI)]), (3198, [(0, wQ), (1, wV), (2, wI), (3, wI), (9, wA)])]⟩
theorem ok : M.Ok := ⟨.cons call66 (.cons call133 (.cons call134 (.cons call135 (.cons call136 (.cons call137 (.cons call138 (AG.nil))))))), mixed, func95, by kernel_rfl⟩
def aN := M.pt 0
def E3 := M.pt 1
theorem start (h : ∃ (f11 : Nat) (XT XU : Array Value), v1 = .func (.func f11) XT XU ∧ Enters prog f11 ∧ Spec prog f11 (XT ++ #[] ++ XU) σ (AA R (fun z y => z = (.tuple #[]) ∧ aN R q0 v1 x2 x3 y))) : Spec prog 95 #[.pointer q0, v1, .int .i64 x2, .int .i64 x3] σ R := M.Dn h ok [(0, .o (.Q q0)), (1, .o (.V v1)), (2, .o (.I .i64 x2)), (3, .o (.I .i64 x3))] rfl rfl (by kernel_rfl)
theorem OK (h : Spec prog 134 #[] σ (AA R (CS fun aO n12 ZF y => Spec prog 66 #[.pointer q0] y (AA R (fun z AF => ∃ F3 TA VK xp, z = (.agg #[.int .i64 F3, .int .i64 TA, .string VK, .int .i64 xp]) ∧ Spec prog 133 #[.slice aO n12 ZF, .string VK] AF (AA R (CI .i64 fun x16 AH => Spec prog 66 #[.pointer q0] AH (AA R (fun z AZ => ∃ XZ aP aQ AJR, z = (.agg #[.int .i64 XZ, .int .i64 aP, .string aQ, .int .i64 AJR]) ∧ Br (XZ ≠ 5) (Spec prog 66 #[.pointer q0] AZ (AA R (fun z CJ => ∃ qL fE xq xr, z = (.agg #[.int .i64 qL, .int .i64 fE, .string xq, .int .i64 xr]) ∧ Br (qL ≠ 3) (R (.returned (.tuple #[])) CJ) (Br (x16 < x2) (R (.returned (.tuple #[])) CJ) (Br (x3 < x16) (R (.returned (.tuple #[])) CJ) (Br (x2 = 11) (Br (x16 = 12) (R (.returned (.tuple #[])) CJ) (Spec prog 135 #[.pointer q0] CJ (AA R (fun z EK => ∃ Pe Pf VL VM, z = (.agg #[.int .i64 Pe, .int .i64 Pf, .string VL, .int .i64 VM]) ∧ Al EK fun b9 => AJ prog (Instr.storeAt 36 (.pointer (aD b9 0)) (.agg #[.int .i64 6, .int .i64 x16, (.string (ByteArray.mk #[])), .slice none 0 0, .int .i64 0, .int .i64 0, .int .i64 0, .slice none 0 0, .bool false, .int .i64 2])) (Hp.set EK b9 (.cells #[.int .i64 0, .int .i64 0, (.string (ByteArray.mk #[])), .slice none 0 0, .int .i64 0, .int .i64 0, .int .i64 0, .slice none 0 0, .bool false, .int .i64 0] 36 (0, 0))) (fun _ EM => Br (5 ≤ x16) (Br (x16 ≤ 10) (Spec prog 136 #[.pointer q0, .int .i64 3, (.string (ByteArray.mk #[98, 111, 111, 108]))] EM (AA R (CB fun t55 I9 => Bo t55 (Spec prog 135 #[.pointer q0] I9 (AA R (fun z OF => ∃ VN VO VP VQ, z = (.agg #[.int .i64 VN, .int .i64 VO, .string VP, .int .i64 VQ]) ∧ AJ prog (Instr.storeAt 4 (.pointer (aD b9 8)) (.bool true)) OF (fun _ F2 => E3 R q0 v1 x2 x3 b9 F2)))) (E3 R q0 v1 x2 x3 b9 I9)))) (E3 R q0 v1 x2 x3 b9 EM)) (E3 R q0 v1 x2 x3 b9 EM)))))) (Spec prog 135 #[.pointer q0] CJ (AA R (fun z EK => ∃ Pe Pf VL VM, z = (.agg #[.int .i64 Pe, .int .i64 Pf, .string VL, .int .i64 VM]) ∧ Al EK fun b9 => AJ prog (Instr.storeAt 36 (.pointer (aD b9 0)) (.agg #[.int .i64 6, .int .i64 x16, (.string (ByteArray.mk #[])), .slice none 0 0, .int .i64 0, .int .i64 0, .int .i64 0, .slice none 0 0, .bool false, .int .i64 2])) (Hp.set EK b9 (.cells #[.int .i64 0, .int .i64 0, (.string (ByteArray.mk #[])), .slice none 0 0, .int .i64 0, .int .i64 0, .int .i64 0, .slice none 0 0, .bool false, .int .i64 0] 36 (0, 0))) (fun _ EM => Br (5 ≤ x16) (Br (x16 ≤ 10) (Spec prog 136 #[.pointer q0, .int .i64 3, (.string (ByteArray.mk #[98, 111, 111, 108]))] EM (AA R (CB fun t55 I9 => Bo t55 (Spec prog 135 #[.pointer q0] I9 (AA R (fun z OF => ∃ VN VO VP VQ, z = (.agg #[.int .i64 VN, .int .i64 VO, .string VP, .int .i64 VQ]) ∧ AJ prog (Instr.storeAt 4 (.pointer (aD b9 8)) (.bool true)) OF (fun _ F2 => E3 R q0 v1 x2 x3 b9 F2)))) (E3 R q0 v1 x2 x3 b9 I9)))) (E3 R q0 v1 x2 x3 b9 EM)) (E3 R q0 v1 x2 x3 b9 EM))))))))))) (Br (x16 < x2) (R (.returned (.tuple #[])) AZ) (Br (x3 < x16) (R (.returned (.tuple #[])) AZ) (Br (x2 = 11) (Br (x16 = 12) (R (.returned (.tuple #[])) AZ) (Spec prog 135 #[.pointer q0] AZ (AA R (fun z CJ => ∃ Pe Pf VL VM, z = (.agg #[.int .i64 Pe, .int .i64 Pf, .string VL, .int .i64 VM]) ∧ Al CJ fun b9 => AJ prog (Instr.storeAt 36 (.pointer (aD b9 0)) (.agg #[.int .i64 6, .int .i64 x16, (.string (ByteArray.mk #[])), .slice none 0 0, .int .i64 0, .int .i64 0, .int .i64 0, .slice none 0 0, .bool false, .int .i64 2])) (Hp.set CJ b9 (.cells #[.int .i64 0, .int .i64 0, (.string (ByteArray.mk #[])), .slice none 0 0, .int .i64 0, .int .i64 0, .int .i64 0, .slice none 0 0, .bool false, .int .i64 0] 36 (0, 0))) (fun _ EK => Br (5 ≤ x16) (Br (x16 ≤ 10) (Spec prog 136 #[.pointer q0, .int .i64 3, (.string (ByteArray.mk #[98, 111, 111, 108]))] EK (AA R (CB fun t55 EM => Bo t55 (Spec prog 135 #[.pointer q0] EM (AA R (fun z I9 => ∃ VN VO VP VQ, z = (.agg #[.int .i64 VN, .int .i64 VO, .string VP, .int .i64 VQ]) ∧ AJ prog (Instr.storeAt 4 (.pointer (aD b9 8)) (.bool true)) I9 (fun _ OF => E3 R q0 v1 x2 x3 b9 OF)))) (E3 R q0 v1 x2 x3 b9 EM)))) (E3 R q0 v1 x2 x3 b9 EK)) (E3 R q0 v1 x2 x3 b9 EK)))))) (Spec prog 135 #[.pointer q0] AZ (AA R (fun z CJ => ∃ Pe Pf VL VM, z = (.agg #[.int .i64 Pe, .int .i64 Pf, .string VL, .int .i64 VM]) ∧ Al CJ fun b9 => AJ prog (Instr.storeAt 36 (.pointer (aD b9 0)) (.agg #[.int .i64 6, .int .i64 x16, (.string (ByteArray.mk #[])), .slice none 0 0, .int .i64 0, .int .i64 0, .int .i64 0, .slice none 0 0, .bool false, .int .i64 2])) (Hp.set CJ b9 (.cells #[.int .i64 0, .int .i64 0, (.string (ByteArray.mk #[])), .slice none 0 0, .int .i64 0, .int .i64 0, .int .i64 0, .slice none 0 0, .bool false, .int .i64 0] 36 (0, 0))) (fun _ EK => Br (5 ≤ x16) (Br (x16 ≤ 10) (Spec prog 136 #[.pointer q0, .int .i64 3, (.string (ByteArray.mk #[98, 111, 111, 108]))] EK (AA R (CB fun t55 EM => Bo t55 (Spec prog 135 #[.pointer q0] EM (AA R (fun z I9 => ∃ VN VO VP VQ, z = (.agg #[.int .i64 VN, .int .i64 VO, .string VP, .int .i64 VQ]) ∧ AJ prog (Instr.storeAt 4 (.pointer (aD b9 8)) (.bool true)) I9 (fun _ OF => E3 R q0 v1 x2 x3 b9 OF)))) (E3 R q0 v1 x2 x3 b9 EM)))) (E3 R q0 v1 x2 x3 b9 EK)) (E3 R q0 v1 x2 x3 b9 EK))))))))))))))))) : aN R q0 v1 x2 x3 σ := M.of h ok rfl
theorem VE (h : Spec prog 137 #[.pointer q0, (.pointer (aD b9 0)), (.agg #[(.string (ByteArray.mk #[111, 110])), (.string (ByteArray.mk #[105, 103, 110, 111, 114, 105, 110, 103]))]), .agg #[.int .i64 3, .int .i64 4]] σ (AA R (fun z y => z = (.tuple #[]) ∧ ∃ (f65 : Nat) (tg th : Array Value), v1 = .func (.func f65) tg th ∧ Enters prog f65 ∧ Spec prog f65 (tg ++ #[] ++ th) y (AA R (fun z AF => z = (.tuple #[]) ∧ ∃ J7 J8 J9 KA KB KC KD KE KF KG KH KI KJ KK, Au AF b9 0 [.int .i64 J7, .int .i64 J8, .string J9, .slice KA KB KC, .int .i64 KD, .int .i64 KE, .int .i64 KF, .slice KG KH KI, .bool KJ, .int .i64 KK] ∧ Spec prog 138 #[.pointer q0, .agg #[.int .i64 J7, .int .i64 J8, .string J9, .slice KA KB KC, .int .i64 KD, .int .i64 KE, .int .i64 KF, .slice KG KH KI, .bool KJ, .int .i64 KK]] AF (AA R (fun z AH => z = (.tuple #[]) ∧ aN R q0 v1 x2 x3 AH))))))) : E3 R q0 v1 x2 x3 b9 σ := M.of h ok rfl
end AT
namespace AU
variable {q0 DS Da p2 GH HZ G2 Fg p8 fI aO ti : Option Addr} {DP CF DQ DT Ct CK Fc FK Ha Fs Hb IG Fe Ff dD Gu VR Qh : Int} {DR HC : ByteArray} {DU DV DW Db n2 c2 GI GJ Hc Hd G3 G4 Fh Fi n8 c8 n25 fJ n12 ZF n47 qM : Nat} {Cu IH : Bool} {v9 : Value}
def M : Fw := ⟨prog, 103, f103, [146, 147, 148], [4, 6, 11, 14], false, [], [], [(488, [(2, wL), (4, .X 36 [.I .i64, .I .i64, .T, .L, .I .i64, .I .i64, .I .i64, .L, .B, .I .i64]), (6, .X 93 [.I .i64, .I .u64, .L, .L]), (8, wL), (9, wV), (25, wL), (26, wI), (27, wI)]), (2024, [(2, wL), (4, .X 36 [.I .i64, .I .i64, .T, .L, .I .i64, .I .i64, .I .i64, .L, .B, .I .i64]), (6, .X 93 [.I .i64, .I .u64, .L, .L]), (8, wL), (12, wL), (47, wL), (48, wI), (49, wI)]), (8103, [(2, wL), (4, .X 36 [.I .i64, .I .i64, .T, .L, .I .i64, .I .i64, .I .i64, .L, .B, .I .i64]), (6, .X 93 [.I .i64, .I .u64, .L, .L]), (8, wL), (12, wL), (47, wL), (48, wI), (49, wI)])]⟩
theorem ok : M.Ok := ⟨.cons call146 (.cons call147 (.cons call148 (AG.nil))), mixed, func103, by kernel_rfl⟩
def Ep := M.pt 0
def Gz := M.pt 1
def Lf := M.pt 2
theorem start (h : ∀ b4 : Nat, ∀ b6 : Nat, AJ prog (Instr.makeMap 191 none) σ (fun z y => ∃ m17, z = (.map (some m17)) ∧ AJ prog (Instr.mapUpdate 191 (.map (some m17)) (.int .i64 11) (.func (.func 144) #[] #[])) y (fun _ AF => AJ prog (Instr.mapUpdate 191 (.map (some m17)) (.int .i64 12) (.func (.func 145) #[] #[])) AF (fun _ AH => AJ prog (Instr.lookup 191 (.map (some m17)) (.int .i64 CF) false) AH (fun z AZ => ∃ v21, v21 = z ∧ Pq p2 fun Pd kI => In 0 (n2 : Int) ∧ LS AZ Pd (kI + 2) fun fI n25 fJ => Ep R (aD Pd kI) n2 c2 DP CF DR DS DU DV DQ DT Ct Da DW Db Cu CK 0 0 none 0 0 none 0 0 none 0 0 v21 fI n25 fJ (n25 : Int) 0 AZ))))) : Spec prog 103 #[.pointer q0, .agg #[.int .i64 DP, .int .i64 CF, .string DR, .slice DS DU DV, .int .i64 DQ, .int .i64 DT, .int .i64 Ct, .slice Da DW Db, .bool Cu, .int .i64 CK], .slice p2 n2 c2] σ R := M.start h ok
theorem FD (h : Br (Gu < dD) (Pq fI fun XL cw => In Gu (n25 : Int) ∧ ∃ kJ kK kL kN, Au σ XL (cw + Int.toNat Gu * 2) [.slice kJ kK kL, .int .u64 kN] ∧ ∀ A8 : Nat, Spec prog 146 #[.slice kJ kK kL] σ (AA R (CS fun p34 n34 c34 y => ∃ (f38 : Nat) (HF HG : Array Value), v9 = .func (.func f38) HF HG ∧ Enters prog f38 ∧ Spec prog f38 (HF ++ #[.int .u64 kN] ++ HG) y (AA R (CI .u64 fun tj AF => Al AF fun WA => AJ prog (Builtin.append_ #[67, 67] 67 #[.slice p8 n8 c8, (.slice (aD WA 0) 1 1)]) (Hp.set AF WA (.cells #[.slice p34 n34 c34, .int .u64 tj] 71 (0, 0))) (CS fun tF n41 iC AH => AK (Gu + 1) ∧ Ep R p2 n2 c2 Fc FK HC GH GI GJ Ha Fs Hb HZ Hc Hd IH IG Fe Ff G2 G3 G4 Fg Fh Fi tF n41 iC v9 (aD XL cw) n25 fJ dD (Gu + 1) AH)))))) (Spec prog 147 #[] σ (AA R (CS fun iE n43 iF y => Pq p2 fun U8 ZA => In 0 (n2 : Int) ∧ LS y U8 (ZA + 3) fun ti n47 qM => Gz R (aD U8 ZA) n2 c2 Fc FK HC GH GI GJ Ha Fs Hb HZ Hc Hd IH IG Fe Ff G2 G3 G4 Fg Fh Fi p8 n8 c8 iE n43 iF ti n47 qM (n47 : Int) 0 y)))) : Ep R p2 n2 c2 Fc FK HC GH GI GJ Ha Fs Hb HZ Hc Hd IH IG Fe Ff G2 G3 G4 Fg Fh Fi p8 n8 c8 v9 fI n25 fJ dD Gu σ := M.ek h ok rfl fun _ _ => by kernel_rfl
theorem Il (h : Br (Qh < VR) (Pq ti fun b51 o51 => In Qh (n47 : Int) ∧ ∃ AC1 AC2 AC3 AC4 AC5 AC6, Au σ b51 (o51 + Int.toNat Qh * 2) [.slice AC1 AC2 AC3, .slice AC4 AC5 AC6] ∧ ∀ BB : Nat, Pq aO fun tf xo => In FK (n12 : Int) ∧ ∃ v58, Hp.ld σ ⟨tf, (xo + Int.toNat FK * 1), none⟩ = some v58 ∧ ∃ (f63 : Nat) (Kc Kd : Array Value), v58 = .func (.func f63) Kc Kd ∧ Enters prog f63 ∧ Spec prog f63 (Kc ++ #[.slice AC4 AC5 AC6, .agg #[.int .i64 Fc, .int .i64 FK, .string HC, .slice GH GI GJ, .int .i64 Ha, .int .i64 Fs, .int .i64 Hb, .slice HZ Hc Hd, .bool IH, .int .i64 IG], .slice p2 n2 c2] ++ Kd) σ (AA R (fun z y => ∃ AC7 AC8, z = (.tuple #[.int .u64 AC7, .bool AC8]) ∧ Bo AC8 (Spec prog 146 #[.slice AC1 AC2 AC3] y (AA R (CS fun p70 n70 c70 AF => Al AF fun xt => AJ prog (Builtin.append_ #[67, 67] 67 #[.slice p8 n8 c8, (.slice (aD xt 0) 1 1)]) (Hp.set AF xt (.cells #[.slice p70 n70 c70, .int .u64 AC7] 71 (0, 0))) (CS fun xu xv c74 AH => Lf R p2 n2 c2 Fc FK HC GH GI GJ Ha Fs Hb HZ Hc Hd IH IG Fe Ff G2 G3 G4 Fg Fh Fi xu xv c74 (aD tf xo) n12 ZF (aD b51 o51) n47 qM VR Qh AH)))) (Lf R p2 n2 c2 Fc FK HC GH GI GJ Ha Fs Hb HZ Hc Hd IH IG Fe Ff G2 G3 G4 Fg Fh Fi p8 n8 c8 (aD tf xo) n12 ZF (aD b51 o51) n47 qM VR Qh y)))) (Spec prog 148 #[.slice p8 n8 c8] σ (AA R (fun z y => ∃ tn tq tr tu tw tz uA uB ADD, z = (.tuple #[.agg #[.int .i64 tn, .int .u64 tq, .slice tr tu tw, .slice tz uA uB], .int .i64 ADD]) ∧ R (.returned (.tuple #[.agg #[.int .i64 tn, .int .u64 tq, .slice tr tu tw, .slice tz uA uB], .int .i64 ADD])) y)))) : Gz R p2 n2 c2 Fc FK HC GH GI GJ Ha Fs Hb HZ Hc Hd IH IG Fe Ff G2 G3 G4 Fg Fh Fi p8 n8 c8 aO n12 ZF ti n47 qM VR Qh σ := M.ek h ok rfl fun _ _ => by kernel_rfl
theorem Im (h : AK (Qh + 1) ∧ Gz R p2 n2 c2 Fc FK HC GH GI GJ Ha Fs Hb HZ Hc Hd IH IG Fe Ff G2 G3 G4 Fg Fh Fi p8 n8 c8 aO n12 ZF ti n47 qM VR (Qh + 1) σ) : Lf R p2 n2 c2 Fc FK HC GH GI GJ Ha Fs Hb HZ Hc Hd IH IG Fe Ff G2 G3 G4 Fg Fh Fi p8 n8 c8 aO n12 ZF ti n47 qM VR Qh σ := M.ek h ok rfl fun _ _ => by kernel_rfl
end AU
namespace BA
variable {q0 DS Da p2 G2 Fg p8 fI : Option Addr} {DP CF DQ DT Ct CK Fe Ff dD Gu : Int} {DR : ByteArray} {DU DV DW Db n2 c2 G3 G4 Fh Fi n8 c8 n25 fJ : Nat} {Cu : Bool}
def M : Fw := ⟨prog, 106, f106, [146, 148, 162], [4, 6, 10], false, [], [], [(488, [(6, .X 93 [.I .i64, .I .u64, .L, .L]), (8, wL), (25, wL), (26, wI), (27, wI)])]⟩
theorem ok : M.Ok := ⟨.cons call146 (.cons call148 (.cons call162 (AG.nil))), mixed, func106, by kernel_rfl⟩
def qN := M.pt 0
theorem start (h : ∀ b4 : Nat, ∀ b6 : Nat, Pq p2 fun Ov PT => In 0 (n2 : Int) ∧ LI .i64 σ Ov PT fun La => Br (La = 1) (In 0 (n2 : Int) ∧ LI .u64 σ Ov (PT + 1) fun Ck => Spec prog 162 #[.int .u64 Ck] σ (AA R (CI .u64 fun HS y => R (.returned (.tuple #[.agg #[.int .i64 1, .int .u64 HS, .slice none 0 0, .slice none 0 0], .int .i64 0])) y))) (In 0 (n2 : Int) ∧ LS σ Ov (PT + 2) fun fI n25 fJ => qN R 0 0 none 0 0 none 0 0 none 0 0 fI n25 fJ (n25 : Int) 0 σ)) : Spec prog 106 #[.pointer q0, .agg #[.int .i64 DP, .int .i64 CF, .string DR, .slice DS DU DV, .int .i64 DQ, .int .i64 DT, .int .i64 Ct, .slice Da DW Db, .bool Cu, .int .i64 CK], .slice p2 n2 c2] σ R := M.start h ok
theorem dE (h : Br (Gu < dD) (Pq fI fun XL cw => In Gu (n25 : Int) ∧ ∃ kJ kK kL kN, Au σ XL (cw + Int.toNat Gu * 2) [.slice kJ kK kL, .int .u64 kN] ∧ ∀ CR : Nat, Spec prog 146 #[.slice kJ kK kL] σ (AA R (CS fun p34 n34 c34 y => Spec prog 162 #[.int .u64 kN] y (AA R (CI .u64 fun Pb AF => Al AF fun oQ => AJ prog (Builtin.append_ #[67, 67] 67 #[.slice p8 n8 c8, (.slice (aD oQ 0) 1 1)]) (Hp.set AF oQ (.cells #[.slice p34 n34 c34, .int .u64 Pb] 71 (0, 0))) (CS fun xH n40 xI AH => AK (Gu + 1) ∧ qN R Fe Ff G2 G3 G4 Fg Fh Fi xH n40 xI (aD XL cw) n25 fJ dD (Gu + 1) AH)))))) (Spec prog 148 #[.slice p8 n8 c8] σ (AA R (fun z y => ∃ uC uD uE uF uG uH uI uJ Ld, z = (.tuple #[.agg #[.int .i64 uC, .int .u64 uD, .slice uE uF uG, .slice uH uI uJ], .int .i64 Ld]) ∧ R (.returned (.tuple #[.agg #[.int .i64 uC, .int .u64 uD, .slice uE uF uG, .slice uH uI uJ], .int .i64 Ld])) y)))) : qN R Fe Ff G2 G3 G4 Fg Fh Fi p8 n8 c8 fI n25 fJ dD Gu σ := M.hZ h ok rfl fun _ => by kernel_rfl
end BA
namespace De
variable {p0 p5 : Option Addr} {n0 c0 n5 c5 : Nat} {x1 : Int}
def M : Fw := ⟨prog, 107, f107, [], [], false, [], [], [(224, [(1, wU), (5, wL)])]⟩
theorem ok : M.Ok := ⟨AG.nil, mixed, func107, by kernel_rfl⟩
def I7 := M.pt 0
theorem start (h : Al σ fun b6 => AJ prog (Builtin.append_ #[90, 90] 90 #[(.slice (aD b6 0) 0 0), .slice p0 n0 c0]) (Hp.set σ b6 (.cells #[] 5 (0, 0))) (CS fun p8 n8 c8 y => I7 R x1 p8 n8 c8 y)) : Spec prog 107 #[.slice p0 n0 c0, .int .u64 x1] σ R := M.start h ok
theorem BN (h : Br (127 < x1) (Df (IntKind.u8.wrap x1) fun x15 => Df (Go.bits .or .u8 x15 128) fun x16 => Al σ fun b17 => AJ prog (Builtin.append_ #[90, 90] 90 #[.slice p5 n5 c5, (.slice (aD b17 0) 1 1)]) (Hp.set σ b17 (.cells #[.int .u8 x16] 5 (0, 0))) (CS fun p18 n18 c18 y => ((0 : Int) ≤ 7 ∧ 7 ≤ ((IntKind.bits .u64 : Nat) : Int)) ∧ Df (x1 / 2 ^ Int.toNat 7) fun x12 => I7 R x12 p18 n18 c18 y)) (Df (IntKind.u8.wrap x1) fun aK => Al σ fun b22 => AJ prog (Builtin.append_ #[90, 90] 90 #[.slice p5 n5 c5, (.slice (aD b22 0) 1 1)]) (Hp.set σ b22 (.cells #[.int .u8 aK] 5 (0, 0))) (CS fun oH n23 oI y => R (.returned (.slice oH n23 oI)) y))) : I7 R x1 p5 n5 c5 σ := M.of h ok rfl
end De
namespace Rj
variable {x0 : Int}
def M : Fw := ⟨prog, 128, f128, [], [], false, [], [], []⟩
theorem ok : M.Ok := ⟨AG.nil, mixed, func128, by kernel_rfl⟩
theorem start (h : Br (11 ≤ x0) (R (.returned (.bool (decide (x0 ≤ 13)))) σ) (R (.returned (.bool false)) σ)) : Spec prog 128 #[.int .i64 x0] σ R := M.start h ok
end Rj
namespace JD
variable {q0 : Option Addr} {x1 : Int} {s2 : ByteArray}
def M : Fw := ⟨prog, 136, f136, [66], [], false, [], [], []⟩
theorem ok : M.Ok := ⟨.cons call66 (AG.nil), mixed, func136, by kernel_rfl⟩
theorem start (h : Spec prog 66 #[.pointer q0] σ (AA R (fun z y => ∃ Dp D1 s8c x8d, z = (.agg #[.int .i64 Dp, .int .i64 D1, .string s8c, .int .i64 x8d]) ∧ Br (Dp = x1) (Spec prog 66 #[.pointer q0] y (AA R (fun z AF => ∃ F3 TA VK xp, z = (.agg #[.int .i64 F3, .int .i64 TA, .string VK, .int .i64 xp]) ∧ R (.returned (.bool (ByteArray.toList VK == ByteArray.toList s2))) AF))) (R (.returned (.bool false)) y)))) : Spec prog 136 #[.pointer q0, .int .i64 x1, .string s2] σ R := M.start h ok
end JD
namespace Dq
variable {p0 p1 p5 p9 : Option Addr} {n0 c0 n1 c1 n5 c5 n9 c9 : Nat} {x10 x11 : Int}
def M : Fw := ⟨prog, 142, f142, [125, 178, 179, 180], [7], false, [], [], [(232, [(1, wL), (5, wL), (9, wL), (10, wI), (11, wI)])]⟩
theorem ok : M.Ok := ⟨.cons call125 (.cons call178 (.cons call179 (.cons call180 (AG.nil)))), mixed, func142, by kernel_rfl⟩
def A0 := M.pt 0
theorem start (h : Spec prog 178 #[] σ (AA R (CS fun p8 n8 c8 y => A0 R p1 n1 c1 p8 n8 c8 p0 n0 c0 (n0 : Int) 0 y))) : Spec prog 142 #[.slice p0 n0 c0, .slice p1 n1 c1] σ R := M.start h ok
theorem Aa (h : Br (x11 < x10) (Pq p9 fun C7 iB => In x11 (n9 : Int) ∧ ∃ F3 aB VK, Au σ C7 (iB + Int.toNat x11 * 3) [.int .i64 F3, .string aB, .string VK] ∧ ∀ b7 : Nat, Spec prog 125 #[.int .i64 F3] σ (AA R (CB fun t17 y => Bn t17 (R (.returned (.bool false)) y) (Pq p5 fun Pd kI => In F3 (n5 : Int) ∧ ∃ v24, Hp.ld y ⟨Pd, (kI + Int.toNat F3 * 1), none⟩ = some v24 ∧ Spec prog 179 #[.string VK] y (AA R (fun z AF => ∃ MP Lc MQ, z = (.agg #[.slice MP Lc MQ]) ∧ Kp [Pd] y AF ∧ Spec prog 180 #[.slice p1 n1 c1, .string aB] AF (AA R (CT fun s34 AH => Kp [Pd] AF AH ∧ ∃ (f35 : Nat) (Xa Xb : Array Value), v24 = .func (.func f35) Xa Xb ∧ Enters prog f35 ∧ Spec prog f35 (Xa ++ #[.agg #[.slice MP Lc MQ, .string VK], .string s34] ++ Xb) AH (AA R (CB fun t35 AZ => Bn t35 (R (.returned (.bool false)) AZ) (AK (x11 + 1) ∧ A0 R p1 n1 c1 (aD Pd kI) n5 c5 (aD C7 iB) n9 c9 x10 (x11 + 1) AZ))))))))))) (R (.returned (.bool true)) σ)) : A0 R p1 n1 c1 p5 n5 c5 p9 n9 c9 x10 x11 σ := M.of h ok rfl
end Dq
namespace T6
variable {p0 : Option Addr} {n0 c0 : Nat}
def M : Fw := ⟨prog, 146, f146, [150], [], false, [], [], []⟩
theorem ok : M.Ok := ⟨.cons call150 (AG.nil), mixed, func146, by kernel_rfl⟩
theorem start (h : Al σ fun b4 => Spec prog 150 #[.slice p0 n0 c0, (.slice (aD b4 0) 1 1)] (Hp.set σ b4 (.cells #[(.string (ByteArray.mk #[95, 95, 110, 97, 109, 101, 95, 95]))] 9 (0, 0))) (AA R (CS fun p5 n5 c5 y => R (.returned (.slice p5 n5 c5)) y))) : Spec prog 146 #[.slice p0 n0 c0] σ R := M.start h ok
end T6
namespace D3
variable {p0 p2c p2d : Option Addr} {n0 c0 n2c c2c n2d c2d : Nat} {qO x2b x4 : Int}
def M : Fw := ⟨prog, 148, f148, [52, 195], [2], false, [], [], [(464, [(0, wL), (2, .X 93 [.I .i64, .I .u64, .L, .L]), (4, wI)])]⟩
theorem ok : M.Ok := ⟨.cons call52 (.cons call195 (AG.nil)), mixed, func148, by kernel_rfl⟩
def BT := M.pt 0
theorem start (h : ∀ b2 : Nat, Spec prog 195 #[.slice p0 n0 c0, (.func (.func 196) #[] #[])] σ (AA R (fun z y => z = (.tuple #[]) ∧ BT R p0 n0 c0 0 0 none 0 0 none 0 0 1 y))) : Spec prog 148 #[.slice p0 n0 c0] σ R := M.start h ok
theorem A5 (h : Br (x4 < (n0 : Int)) (AK (x4 - 1) ∧ Pq p0 fun Ln U7 => In (x4 - 1) (n0 : Int) ∧ LS σ Ln (U7 + Int.toNat (x4 - 1) * 2) fun p18 n18 c18 => In x4 (n0 : Int) ∧ LS σ Ln (U7 + Int.toNat x4 * 2) fun oH n23 oI => Spec prog 52 #[.slice p18 n18 c18, .slice oH n23 oI] σ (AA R (CI .i64 fun I3 y => Br (I3 = 0) (R (.returned (.tuple #[.agg #[.int .i64 0, .int .u64 0, .slice none 0 0, .slice none 0 0], .int .i64 223])) y) (AK (x4 + 1) ∧ BT R (aD Ln U7) n0 c0 qO x2b p2c n2c c2c p2d n2d c2d (x4 + 1) y)))) (R (.returned (.tuple #[.agg #[.int .i64 2, .int .u64 0, .slice p0 n0 c0, .slice none 0 0], .int .i64 0])) σ)) : BT R p0 n0 c0 qO x2b p2c n2c c2c p2d n2d c2d x4 σ := M.hZ h ok rfl fun _ => by kernel_rfl
end D3
namespace DE
variable {x0 : Int} {b1 b2 : Nat}
def M : Fw := ⟨prog, 158, f158, [156], [], false, [], [], []⟩
theorem ok : M.Ok := ⟨.cons call156 (AG.nil), mixed, func158, by kernel_rfl⟩
theorem start (h : ∃ Fe Ff s6c Fg Fh Fi x6e x6f x6g p6h n6h c6h t6i x6j, Au σ b1 0 [.int .i64 Fe, .int .i64 Ff, .string s6c, .slice Fg Fh Fi, .int .i64 x6e, .int .i64 x6f, .int .i64 x6g, .slice p6h n6h c6h, .bool t6i, .int .i64 x6j] ∧ LI .u64 σ b2 1 fun x8 => Spec prog 156 #[.agg #[.int .i64 Fe, .int .i64 Ff, .string s6c, .slice Fg Fh Fi, .int .i64 x6e, .int .i64 x6f, .int .i64 x6g, .slice p6h n6h c6h, .bool t6i, .int .i64 x6j], .int .u64 x8, .int .u64 x0] σ (AA R (fun z y => ∃ IT Qm, z = (.tuple #[.int .u64 IT, .bool Qm]) ∧ R (.returned (.tuple #[.int .u64 IT, .bool Qm])) y))) : Spec prog 158 #[.int .u64 x0, (.pointer (aD b1 0)), (.pointer (aD b2 0))] σ R := M.start h ok
end DE
namespace DF
variable {q0 : Option Addr}
def M : Fw := ⟨prog, 171, f171, [95], [], false, [], [], []⟩
theorem ok : M.Ok := ⟨.cons call95 (AG.nil), mixed, func171, by kernel_rfl⟩
theorem start (h : Spec prog 95 #[.pointer q0, (.func (.func 212) #[.pointer q0] #[]), .int .i64 1, .int .i64 2] σ (AA R (fun z y => z = (.tuple #[]) ∧ R (.returned (.tuple #[])) y))) : Spec prog 171 #[.pointer q0] σ R := M.start h ok
end DF
namespace Ht
variable {p0 p7 : Option Addr} {n0 c0 n7 c7 : Nat} {s1 : ByteArray} {x8 x9 : Int}
def M : Fw := ⟨prog, 180, f180, [], [6], false, [], [], [(104, [(1, wT), (7, wL), (8, wI), (9, wI)])]⟩
theorem ok : M.Ok := ⟨AG.nil, mixed, func180, by kernel_rfl⟩
def HX := M.pt 0
theorem start (h : HX R s1 p0 n0 c0 (n0 : Int) 0 σ) : Spec prog 180 #[.slice p0 n0 c0, .string s1] σ R := M.start h ok
theorem BY (h : Br (x9 < x8) (Pq p7 fun A8 iD => In x9 (n7 : Int) ∧ ∃ ADE ADF, Au σ A8 (iD + Int.toNat x9 * 2) [.string ADE, .string ADF] ∧ ∀ b6 : Nat, Bo (ByteArray.toList ADE == ByteArray.toList s1) (R (.returned (.string ADF)) σ) (AK (x9 + 1) ∧ HX R s1 (aD A8 iD) n7 c7 x8 (x9 + 1) σ)) (R (.returned (.string (ByteArray.mk #[]))) σ)) : HX R s1 p7 n7 c7 x8 x9 σ := M.of h ok rfl
end Ht
namespace DG
variable {p0 p1 : Option Addr} {n0 c0 n1 c1 : Nat}
def M : Fw := ⟨prog, 191, f191, [192], [], false, [], [], []⟩
theorem ok : M.Ok := ⟨.cons call192 (AG.nil), mixed, func191, by kernel_rfl⟩
theorem start (h : Spec prog 192 #[.slice p0 n0 c0] σ (AA R (CI .u64 fun x6 y => R (.returned (.int .u64 x6)) y))) : Spec prog 191 #[.slice p0 n0 c0, .slice p1 n1 c1] σ R := M.start h ok
end DG
namespace Rk
variable {x0 x1 x2 : Int}
def M : Fw := ⟨prog, 203, f203, [174, 182], [], false, [], [], []⟩
theorem ok : M.Ok := ⟨.cons call174 (.cons call182 (AG.nil)), mixed, func203, by kernel_rfl⟩
theorem start (h : Spec prog 182 #[.int .u64 x1] σ (AA R (fun z y => ∃ x11, (Value.float .f64 x11) = z ∧ Spec prog 182 #[.int .u64 x2] y (AA R (fun z AF => ∃ Bl, (Value.float .f64 Bl) = z ∧ Br (x0 = 1) (AJ prog (binOp .add 51 (Value.float .f64 x11) (Value.float .f64 Bl)) AF (fun z AH => ∃ Ck, (Value.float .f64 Ck) = z ∧ Spec prog 174 #[(Value.float .f64 Ck)] AH (AA R (CI .u64 fun HS AZ => R (.returned (.tuple #[.int .u64 HS, .bool true])) AZ)))) (Br (x0 = 2) (AJ prog (binOp .sub 51 (Value.float .f64 x11) (Value.float .f64 Bl)) AF (fun z AH => ∃ Sz, (Value.float .f64 Sz) = z ∧ Spec prog 174 #[(Value.float .f64 Sz)] AH (AA R (CI .u64 fun dD AZ => R (.returned (.tuple #[.int .u64 dD, .bool true])) AZ)))) (Br (x0 = 3) (AJ prog (binOp .mul 51 (Value.float .f64 x11) (Value.float .f64 Bl)) AF (fun z AH => ∃ x31, (Value.float .f64 x31) = z ∧ Spec prog 174 #[(Value.float .f64 x31)] AH (AA R (CI .u64 fun kG AZ => R (.returned (.tuple #[.int .u64 kG, .bool true])) AZ)))) (Br (x0 = 4) (AJ prog (binOp .quo 51 (Value.float .f64 x11) (Value.float .f64 Bl)) AF (fun z AH => ∃ Pb, (Value.float .f64 Pb) = z ∧ Spec prog 174 #[(Value.float .f64 Pb)] AH (AA R (CI .u64 fun tj AZ => R (.returned (.tuple #[.int .u64 tj, .bool true])) AZ)))) (R (.returned (.tuple #[.int .u64 0, .bool false])) AF))))))))) : Spec prog 203 #[.int .i64 x0, .int .u64 x1, .int .u64 x2] σ R := M.start h ok
end Rk
namespace Rl
variable {t0 : Bool}
def M : Fw := ⟨prog, 205, f205, [143], [], false, [], [], []⟩
theorem ok : M.Ok := ⟨.cons call143 (AG.nil), mixed, func205, by kernel_rfl⟩
theorem start (h : Bo t0 (Spec prog 143 #[.int .i64 1] σ (AA R (CI .u64 fun x4 y => R (.returned (.int .u64 x4)) y))) (Spec prog 143 #[.int .i64 0] σ (AA R (CI .u64 fun x5 y => R (.returned (.int .u64 x5)) y)))) : Spec prog 205 #[.bool t0] σ R := M.start h ok
end Rl
namespace Cg
variable {s0 : ByteArray} {x1 : Int}
def M : Fw := ⟨prog, 214, f214, [231], [], false, [], [], []⟩
theorem ok : M.Ok := ⟨.cons call231 (AG.nil), mixed, func214, by kernel_rfl⟩
theorem start (h : Spec prog 231 #[.string s0, .int .i64 x1] σ (AA R (fun z y => ∃ ADG kO ADH, z = (.tuple #[ADG, .int .i64 kO, ADH]) ∧ Br (kO ≠ ((ByteArray.size s0 : Nat) : Int)) (R (.returned (.tuple #[.float .f64 0, (.iface 264 (.int .i64 2))])) y) (R (.returned (.tuple #[ADG, ADH])) y)))) : Spec prog 214 #[.string s0, .int .i64 x1] σ R := M.start h ok
end Cg
namespace EU
variable {TC : Option Addr} {Lp Qw : Nat} {ZC s1 : ByteArray}
def M : Fw := ⟨prog, 217, f217, [], [2], false, [], [], []⟩
theorem ok : M.Ok := ⟨AG.nil, mixed, func217, by kernel_rfl⟩
theorem start (h : ∀ b2 : Nat, R (.returned (.bool (ByteArray.toList s1 == ByteArray.toList ZC))) σ) : Spec prog 217 #[.agg #[.slice TC Lp Qw, .string ZC], .string s1] σ R := M.start h ok
end EU
namespace Rm
variable {p0 : Option Addr} {n0 c0 : Nat}
def M : Fw := ⟨prog, 225, f225, [174, 240, 241], [], false, [], [], []⟩
theorem ok : M.Ok := ⟨.cons call174 (.cons call240 (.cons call241 (AG.nil))), mixed, func225, by kernel_rfl⟩
theorem start (h : Spec prog 240 #[(.int .i64 (n0 : Int))] σ (AA R (CB fun t7 y => Bn t7 (R (.returned (.tuple #[.int .u64 0, .int .i64 210])) y) ((n0 : Int) ≠ (0 : Int) ∧ Df (Int.tmod 1 (n0 : Int)) fun x12 => Spec prog 241 #[.slice p0 n0 c0, .int .i64 x12] y (AA R (fun z AF => ∃ Bl y13, (Value.complex .f64 Bl y13) = z ∧ ∃ x15, YF prog (Builtin.real_ #[272] 51 #[(Value.complex .f64 Bl y13)]) AF (Value.float .f64 x15) ∧ ∃ x17, YF prog (Builtin.real_ #[272] 51 #[(Value.complex .f64 Bl y13)]) AF (Value.float .f64 x17) ∧ AJ prog (binOp .mul 51 (Value.float .f64 x15) (Value.float .f64 x17)) AF (fun z AH => ∃ T7, (Value.float .f64 T7) = z ∧ ∃ HS, YF prog (Builtin.imag_ #[272] 51 #[(Value.complex .f64 Bl y13)]) AH (Value.float .f64 HS) ∧ ∃ II, YF prog (Builtin.imag_ #[272] 51 #[(Value.complex .f64 Bl y13)]) AH (Value.float .f64 II) ∧ AJ prog (binOp .mul 51 (Value.float .f64 HS) (Value.float .f64 II)) AH (fun z AZ => ∃ CL, (Value.float .f64 CL) = z ∧ AJ prog (binOp .add 51 (Value.float .f64 T7) (Value.float .f64 CL)) AZ (fun z CJ => ∃ I3, (Value.float .f64 I3) = z ∧ Spec prog 174 #[(Value.float .f64 I3)] CJ (AA R (CI .u64 fun Sz EK => R (.returned (.tuple #[.int .u64 Sz, .int .i64 0])) EK))))))))))) : Spec prog 225 #[.slice p0 n0 c0] σ R := M.start h ok
end Rm
namespace O1
def M : Fw := ⟨prog, 267, f267, [], [], false, [], [], []⟩
theorem ok : M.Ok := ⟨AG.nil, mixed, func267, by kernel_rfl⟩
theorem start (h : Al σ fun b1 => R (.returned (.slice (aD b1 0) 13 13)) (Hp.set σ b1 (.cells #[(.string (ByteArray.mk #[])), (.string (ByteArray.mk #[114, 97, 116, 101])), (.string (ByteArray.mk #[105, 110, 99, 114, 101, 97, 115, 101])), (.string (ByteArray.mk #[100, 101, 108, 116, 97])), (.string (ByteArray.mk #[115, 117, 109, 95, 111, 118, 101, 114, 95, 116, 105, 109, 101])), (.string (ByteArray.mk #[97, 118, 103, 95, 111, 118, 101, 114, 95, 116, 105, 109, 101])), (.string (ByteArray.mk #[109, 105, 110, 95, 111, 118, 101, 114, 95, 116, 105, 109, 101])), (.string (ByteArray.mk #[109, 97, 120, 95, 111, 118, 101, 114, 95, 116, 105, 109, 101])), (.string (ByteArray.mk #[99, 111, 117, 110, 116, 95, 111, 118, 101, 114, 95, 116, 105, 109, 101])), (.string (ByteArray.mk #[108, 97, 115, 116, 95, 111, 118, 101, 114, 95, 116, 105, 109, 101])), (.string (ByteArray.mk #[119, 97, 118, 101])), (.string (ByteArray.mk #[97, 98, 115])), (.string (ByteArray.mk #[102, 108, 111, 111, 114]))] 9 (0, 0)))) : Spec prog 267 #[] σ R := M.start h ok
end O1
namespace Aj
variable {q0 : Option Addr} {b2 : Nat} {t4 : Bool}
def M : Fw := ⟨prog, 270, f270, [66, 67, 135, 136, 138, 210, 295, 296, 297, 298], [3], false, [], [], [(124, [(0, wQ), (2, wA), (4, wB)]), (252, [(0, wQ), (2, wA)]), (508, [(0, wQ), (2, wA)]), (255, [(0, wQ), (2, wA)])]⟩
theorem ok : M.Ok := ⟨.cons call66 (.cons call67 (.cons call135 (.cons call136 (.cons call138 (.cons call210 (.cons call295 (.cons call296 (.cons call297 (.cons call298 (AG.nil)))))))))), mixed, func270, by kernel_rfl⟩
def LY := M.pt 0
def LZ := M.pt 1
def PZ := M.pt 2
def VT := M.pt 3
theorem start (h : Al σ fun b2 => AJ prog (Instr.storeAt 36 (.pointer (aD b2 0)) (.agg #[.int .i64 2, .int .i64 0, (.string (ByteArray.mk #[])), .slice none 0 0, .int .i64 0, .int .i64 0, .int .i64 0, .slice none 0 0, .bool false, .int .i64 0])) (Hp.set σ b2 (.cells #[.int .i64 0, .int .i64 0, (.string (ByteArray.mk #[])), .slice none 0 0, .int .i64 0, .int .i64 0, .int .i64 0, .slice none 0 0, .bool false, .int .i64 0] 36 (0, 0))) (fun _ y => Spec prog 66 #[.pointer q0] y (AA R (fun z AF => ∃ FN GK FO GL, z = (.agg #[.int .i64 FN, .int .i64 GK, .string FO, .int .i64 GL]) ∧ ∀ b3 : Nat, Br (FN = 3) (Spec prog 295 #[.string FO] AF (AA R (CB fun t14 AH => Bn t14 (Spec prog 135 #[.pointer q0] AH (AA R (fun z AZ => ∃ Ji OE U9 wx, z = (.agg #[.int .i64 Ji, .int .i64 OE, .string U9, .int .i64 wx]) ∧ Spec prog 296 #[.pointer q0, (.pointer (aD b2 0)), (.agg #[.int .i64 1, (.string (ByteArray.mk #[95, 95, 110, 97, 109, 101, 95, 95])), .string FO]), .agg #[.int .i64 FN, .int .i64 GK, .string FO, .int .i64 GL]] AZ (AA R (fun z CJ => z = (.tuple #[]) ∧ LY R q0 b2 true CJ))))) (LY R q0 b2 false AH)))) (LY R q0 b2 false AF))))) : Spec prog 270 #[.pointer q0] σ R := M.start h ok
theorem IS (h : Spec prog 136 #[.pointer q0, .int .i64 5, (.string (ByteArray.mk #[123]))] σ (AA R (CB fun t27 y => Bo t27 (Spec prog 135 #[.pointer q0] y (AA R (fun z AF => ∃ AJX AJY AJZ AJa, z = (.agg #[.int .i64 AJX, .int .i64 AJY, .string AJZ, .int .i64 AJa]) ∧ Spec prog 297 #[.pointer q0, (.pointer (aD b2 0))] AF (AA R (fun z AH => z = (.tuple #[]) ∧ LZ R q0 b2 AH))))) (Bn t4 (Spec prog 67 #[.pointer q0] y (AA R (fun z AF => z = (.tuple #[]) ∧ LZ R q0 b2 AF))) (LZ R q0 b2 y))))) : LY R q0 b2 t4 σ := M.of h ok rfl
theorem Ij (h : Spec prog 136 #[.pointer q0, .int .i64 5, (.string (ByteArray.mk #[91]))] σ (AA R (CB fun t37 y => Bo t37 (Spec prog 135 #[.pointer q0] y (AA R (fun z AF => ∃ AJb AJc AJd AJe, z = (.agg #[.int .i64 AJb, .int .i64 AJc, .string AJd, .int .i64 AJe]) ∧ Spec prog 298 #[.pointer q0] AF (AA R (CI .i64 fun x41 AH => AJ prog (Instr.storeAt 3 (.pointer (aD b2 0)) (.int .i64 3)) AH (fun _ AZ => AJ prog (Instr.storeAt 2 (.pointer (aD b2 4)) (.int .i64 x41)) AZ (fun _ CJ => Spec prog 210 #[.pointer q0, (.string (ByteArray.mk #[93]))] CJ (AA R (fun z EK => z = (.tuple #[]) ∧ PZ R q0 b2 EK))))))))) (PZ R q0 b2 y)))) : LZ R q0 b2 σ := M.of h ok rfl
theorem P4 (h : Spec prog 136 #[.pointer q0, .int .i64 3, (.string (ByteArray.mk #[111, 102, 102, 115, 101, 116]))] σ (AA R (CB fun t47 y => Bo t47 (Spec prog 135 #[.pointer q0] y (AA R (fun z AF => ∃ AJf AJg AJh AJi, z = (.agg #[.int .i64 AJf, .int .i64 AJg, .string AJh, .int .i64 AJi]) ∧ Spec prog 298 #[.pointer q0] AF (AA R (CI .i64 fun x51 AH => AJ prog (Instr.storeAt 2 (.pointer (aD b2 5)) (.int .i64 x51)) AH (fun _ AZ => VT R q0 b2 AZ)))))) (VT R q0 b2 y)))) : PZ R q0 b2 σ := M.of h ok rfl
theorem VU (h : ∃ XM XN kP XO XP XQ kQ kR kS kT kU kV kW kX, Au σ b2 0 [.int .i64 XM, .int .i64 XN, .string kP, .slice XO XP XQ, .int .i64 kQ, .int .i64 kR, .int .i64 kS, .slice kT kU kV, .bool kW, .int .i64 kX] ∧ Spec prog 138 #[.pointer q0, .agg #[.int .i64 XM, .int .i64 XN, .string kP, .slice XO XP XQ, .int .i64 kQ, .int .i64 kR, .int .i64 kS, .slice kT kU kV, .bool kW, .int .i64 kX]] σ (AA R (fun z y => z = (.tuple #[]) ∧ R (.returned (.tuple #[])) y))) : VT R q0 b2 σ := M.of h ok rfl
end Aj
namespace BC
variable {x0 x1 : Int} {t2 t7 : Bool} {v6 : Value}
def M : Fw := ⟨prog, 282, f282, [], [], false, [], [], [(248, [(1, wI), (6, wV), (7, wB)]), (15988, [(1, wI), (6, wV), (7, wB)])]⟩
theorem ok : M.Ok := ⟨AG.nil, mixed, func282, by kernel_rfl⟩
def xw := M.pt 0
def Jd := M.pt 1
theorem start (h : LI .u64 σ 6 0 fun x10 => (0 ≤ x10 ∧ x10 ≤ ((IntKind.bits .u64 : Nat) : Int)) ∧ Df (x0 / 2 ^ Int.toNat x10) fun x11 => Br (x11 ≠ 0) (R (.returned (.tuple #[.float .f64 0, .bool false])) σ) (AJ prog (convert 48 51 (.int .u64 x0)) σ (fun z y => ∃ La, (Value.float .f64 La) = z ∧ Bo t2 (∃ x17, YF prog (Op.unary .neg (Value.float .f64 La)) y (Value.float .f64 x17) ∧ xw R x1 (Value.float .f64 x17) false y) (xw R x1 (Value.float .f64 La) false y)))) : Spec prog 282 #[.int .u64 x0, .int .i64 x1, .bool t2] σ R := M.start h ok
theorem qP (h : Br (x1 = 0) (R (.returned (.tuple #[v6, .bool true])) σ) (Br (0 < x1) (Br (x1 ≤ 37) (Br (22 < x1) (LS σ 9 0 fun p32 n32 c32 => AK (x1 - 22) ∧ Pq p32 fun b35 o35 => In (x1 - 22) (n32 : Int) ∧ ∃ ZD, Hp.ld σ ⟨b35, (o35 + Int.toNat (x1 - 22) * 1), none⟩ = some (Value.float .f64 ZD) ∧ AJ prog (binOp .mul 51 v6 (Value.float .f64 ZD)) σ (fun z y => ∃ Pb, (Value.float .f64 Pb) = z ∧ Jd R 22 (Value.float .f64 Pb) t7 y)) (Jd R x1 v6 t7 σ)) (Br (x1 < 0) (Br (((-22) : Int) ≤ x1) (LS σ 9 0 fun so oK c58 => Df (IntKind.i64.wrap (0 - x1)) fun qK => Pq so fun b61 o61 => In qK (oK : Int) ∧ ∃ qQ, Hp.ld σ ⟨b61, (o61 + Int.toNat qK * 1), none⟩ = some (Value.float .f64 qQ) ∧ AJ prog (binOp .quo 51 v6 (Value.float .f64 qQ)) σ (fun z y => ∃ x63, (Value.float .f64 x63) = z ∧ R (.returned (.tuple #[(Value.float .f64 x63), .bool true])) y)) (R (.returned (.tuple #[v6, .bool t7])) σ)) (R (.returned (.tuple #[v6, .bool t7])) σ))) (Br (x1 < 0) (Br (((-22) : Int) ≤ x1) (LS σ 9 0 fun so oK c58 => Df (IntKind.i64.wrap (0 - x1)) fun qK => Pq so fun b61 o61 => In qK (oK : Int) ∧ ∃ qQ, Hp.ld σ ⟨b61, (o61 + Int.toNat qK * 1), none⟩ = some (Value.float .f64 qQ) ∧ AJ prog (binOp .quo 51 v6 (Value.float .f64 qQ)) σ (fun z y => ∃ x63, (Value.float .f64 x63) = z ∧ R (.returned (.tuple #[(Value.float .f64 x63), .bool true])) y)) (R (.returned (.tuple #[v6, .bool t7])) σ)) (R (.returned (.tuple #[v6, .bool t7])) σ)))) : xw R x1 v6 t7 σ := M.of h ok rfl
end BC
end TwW
end
end
section
set_option maxRecDepth 100000
noncomputable section
namespace TwW
open Go Tw Go.Proofs.Tryz
variable [Eg] {R : Rr} {σ : Hp}


namespace Be
variable {p0 OL AJl AJm : Option Addr} {n0 c0 n21 MR AJn AJo AJp AJq : Nat} {x7 x8 II CL fG Pc AJr qR AJs AJt x12 : Int} {t9 AJu : Bool} {fH : ByteArray}
def M : Fw := ⟨prog, 15, f15, [37], [11], false, [], [], [(488, [(7, wI), (8, wI), (9, wB), (21, wL), (22, wI), (23, wI)]), (1959, [(7, wI), (8, wI), (9, wB), (21, wL), (22, wI), (23, wI)]), (125342, [(7, wI), (8, wI), (9, wB), (11, .X 36 [.I .i64, .I .i64, .T, .L, .I .i64, .I .i64, .I .i64, .L, .B, .I .i64]), (12, wI), (21, wL), (22, wI), (23, wI)]), (250687, [(7, wI), (8, wI), (21, wL), (22, wI), (23, wI)])]⟩
theorem ok : M.Ok := ⟨.cons call37 (AG.nil), mixed, func15, by kernel_rfl⟩
def xx := M.pt 0
def xy := M.pt 1
def VT := M.pt 2
def XJ := M.pt 3
theorem start (h : Spec prog 37 #[.slice p0 n0 c0] σ (AA R (fun z y => ∃ AJv qS ADK, z = (.tuple #[.int .i64 AJv, .int .i64 qS, .int .i64 ADK]) ∧ Br (ADK ≠ 0) (R (.returned (.tuple #[.int .i64 0, .int .i64 0])) y) (xx R 0 0 false p0 n0 c0 (n0 : Int) 0 y)))) : Spec prog 15 #[.slice p0 n0 c0] σ R := M.start h ok
theorem VV (h : Br (CL < II) (Pq OL fun JU WB => In CL (n21 : Int) ∧ ∃ VW kY kZ ka kc ke OM ON kg kh ki kj kl ko, Au σ JU (WB + Int.toNat CL * 10) [.int .i64 VW, .int .i64 kY, .string kZ, .slice ka kc ke, .int .i64 OM, .int .i64 ON, .int .i64 kg, .slice kh ki kj, .bool kl, .int .i64 ko] ∧ ∀ A8 : Nat, Br (VW ≠ 2) (Br (VW ≠ 3) (xy R x7 x8 t9 (aD JU WB) n21 MR II CL σ) (AK (ON + OM) ∧ Br (VW = 2) (AK ((ON + OM) + 300) ∧ VT R x7 x8 t9 VW kY kZ ka kc ke OM ON kg kh ki kj kl ko (((ON + OM) + 300)) (aD JU WB) n21 MR II CL σ) (VT R x7 x8 t9 VW kY kZ ka kc ke OM ON kg kh ki kj kl ko (ON + OM) (aD JU WB) n21 MR II CL σ))) (AK (ON + OM) ∧ Br (VW = 2) (AK ((ON + OM) + 300) ∧ VT R x7 x8 t9 VW kY kZ ka kc ke OM ON kg kh ki kj kl ko (((ON + OM) + 300)) (aD JU WB) n21 MR II CL σ) (VT R x7 x8 t9 VW kY kZ ka kc ke OM ON kg kh ki kj kl ko (ON + OM) (aD JU WB) n21 MR II CL σ))) (R (.returned (.tuple #[.int .i64 x7, .int .i64 x8])) σ)) : xx R x7 x8 t9 OL n21 MR II CL σ := M.of h ok rfl
theorem dF (h : AK (CL + 1) ∧ xx R x7 x8 t9 OL n21 MR II (CL + 1) σ) : xy R x7 x8 t9 OL n21 MR II CL σ := M.of h ok rfl
theorem VU (h : Bn t9 (XJ R (if x7 < x12 then x12 else x7) qR OL n21 MR II CL σ) (Br (qR < x8) (XJ R (if x7 < x12 then x12 else x7) qR OL n21 MR II CL σ) (XJ R (if x7 < x12 then x12 else x7) x8 OL n21 MR II CL σ))) : VT R x7 x8 t9 fG Pc fH AJl AJn AJo AJr qR AJs AJm AJp AJq AJu AJt x12 OL n21 MR II CL σ := M.hZ h ok rfl fun _ => by kernel_rfl
theorem VF (h : xy R x7 x8 true OL n21 MR II CL σ) : XJ R x7 x8 OL n21 MR II CL σ := M.of h ok rfl
end Be
namespace T8
variable {s0 : ByteArray} {p1 : Option Addr} {n1 c1 : Nat} {x2 : Int}
def M : Fw := ⟨prog, 20, f20, [11, 13, 43], [], false, [], [], []⟩
theorem ok : M.Ok := ⟨.cons call11 (.cons call13 (.cons call43 (AG.nil))), mixed, func20, by kernel_rfl⟩
theorem start (h : Spec prog 43 #[.string s0] σ (AA R (fun z y => ∃ jn jo jq AJw yA, z = (.tuple #[.slice jn jo jq, .int .i64 AJw, .int .i64 yA]) ∧ Br (yA ≠ 0) (R (.returned (.tuple #[.slice none 0 0, .int .i64 yA])) y) (Spec prog 13 #[.slice p1 n1 c1] y (AA R (CS fun Ts n22 Sx AF => Spec prog 11 #[.slice jn jo jq, .slice Ts n22 Sx, .int .i64 x2] AF (AA R (fun z AH => ∃ ADL ADM ADN VX, z = (.tuple #[.slice ADL ADM ADN, .int .i64 VX]) ∧ R (.returned (.tuple #[.slice ADL ADM ADN, .int .i64 VX])) AH)))))))) : Spec prog 20 #[.string s0, .slice p1 n1 c1, .int .i64 x2] σ R := M.start h ok
end T8
namespace NG
variable {TC p0b p1a p1b : Option Addr} {Lp Qw n0b c0b n1a c1a n1b c1b : Nat}
def M : Fw := ⟨prog, 51, f51, [52], [2, 3], false, [], [], []⟩
theorem ok : M.Ok := ⟨.cons call52 (AG.nil), mixed, func51, by kernel_rfl⟩
theorem start (h : ∀ b2 : Nat, ∀ b3 : Nat, Spec prog 52 #[.slice TC Lp Qw, .slice p1a n1a c1a] σ (AA R (CI .i64 fun x9 y => R (.returned (.int .i64 x9)) y))) : Spec prog 51 #[.agg #[.slice TC Lp Qw, .slice p0b n0b c0b], .agg #[.slice p1a n1a c1a, .slice p1b n1b c1b]] σ R := M.start h ok
end NG
namespace Lr
variable {p0 p1 : Option Addr} {n0 c0 n1 c1 : Nat}
def M : Fw := ⟨prog, 52, f52, [75], [], false, [], [], []⟩
theorem ok : M.Ok := ⟨.cons call75 (AG.nil), mixed, func52, by kernel_rfl⟩
theorem start (h : Spec prog 75 #[.slice p0 n0 c0, .slice p1 n1 c1, (.func (.func 76) #[] #[])] σ (AA R (CI .i64 fun x7 y => R (.returned (.int .i64 x7)) y))) : Spec prog 52 #[.slice p0 n0 c0, .slice p1 n1 c1] σ R := M.start h ok
end Lr
namespace Aq
variable {s0 FO : ByteArray} {p5 p6 : Option Addr} {n5 c5 n6 c6 : Nat} {FN GK GL x8 x9 Bl AP7 : Int} {t201 : Bool}
def M : Fw := ⟨prog, 63, f63, [90, 91, 92, 93, 94], [7], false, [], [], [(1788, [(0, wT), (5, wL), (7, .X 131 [.I .i64, .I .i64, .T, .I .i64]), (8, wI)]), (917472, [(0, wT), (5, wL), (7, .X 131 [.I .i64, .I .i64, .T, .I .i64]), (8, wI), (9, wI)]), (58720224, [(0, wT), (5, wL), (7, .X 131 [.I .i64, .I .i64, .T, .I .i64]), (8, wI), (9, wI)]), (117440508, [(0, wT), (5, wL), (6, wL), (7, .X 131 [.I .i64, .I .i64, .T, .I .i64]), (8, wI), (9, wI)]), (15032385517, [(0, wT), (5, wL), (6, wL), (7, .X 131 [.I .i64, .I .i64, .T, .I .i64]), (8, wI), (9, wI), (13, w8), (199, w8), (201, wB)]), (1879048190, [(0, wT), (5, wL), (6, wL), (7, .X 131 [.I .i64, .I .i64, .T, .I .i64]), (8, wI), (9, wI)]), (458750, [(0, wT), (5, wL), (7, .X 131 [.I .i64, .I .i64, .T, .I .i64]), (8, wI)])]⟩
theorem ok : M.Ok := ⟨.cons call90 (.cons call91 (.cons call92 (.cons call93 (.cons call94 (AG.nil))))), mixed, func63, by kernel_rfl⟩
def MT := M.pt 0
def Xc := M.pt 1
def T9 := M.pt 2
def ADO := M.pt 3
def Ke := M.pt 6
theorem start (h : ∀ b7 : Nat, Br ((4096 : Int) < ((ByteArray.size s0 : Nat) : Int)) (R (.returned (.tuple #[.slice none 0 0, .int .i64 0, .int .i64 170])) σ) (MT R s0 none 0 0 0 0 (ByteArray.mk #[]) 0 0 σ)) : Spec prog 63 #[.string s0] σ R := M.start h ok
theorem LH (h : Br (x8 = ((ByteArray.size s0 : Nat) : Int)) (Al σ fun b24 => AJ prog (Builtin.append_ #[121, 121] 121 #[.slice p5 n5 c5, (.slice (aD b24 0) 1 1)]) (Hp.set σ b24 (.cells #[.int .i64 0, .int .i64 x8, (.string (ByteArray.mk #[])), .int .i64 0] 131 (0, 0))) (CS fun fI n25 fJ y => R (.returned (.tuple #[.slice fI n25 fJ, .int .i64 0, .int .i64 0])) y)) (∃ uK : UInt8, 0 ≤ x8 ∧ (ByteArray.data s0)[Int.toNat x8]? = some uK ∧ Br ((((UInt8.toNat uK : Nat) : Int) : Int) = 32) (AK (x8 + 1) ∧ MT R s0 p5 n5 c5 FN GK FO GL (x8 + 1) σ) (Br ((((UInt8.toNat uK : Nat) : Int) : Int) = 9) (AK (x8 + 1) ∧ MT R s0 p5 n5 c5 FN GK FO GL (x8 + 1) σ) (Br ((((UInt8.toNat uK : Nat) : Int) : Int) = 13) (AK (x8 + 1) ∧ MT R s0 p5 n5 c5 FN GK FO GL (x8 + 1) σ) (Br ((((UInt8.toNat uK : Nat) : Int) : Int) = 10) (AK (x8 + 1) ∧ MT R s0 p5 n5 c5 FN GK FO GL (x8 + 1) σ) (Spec prog 90 #[(.int .u8 ((UInt8.toNat uK : Nat) : Int))] σ (AA R (CB fun t49 y => Bo t49 (Xc R s0 p5 n5 c5 FN GK FO GL x8 x8 y) (Spec prog 91 #[(.int .u8 ((UInt8.toNat uK : Nat) : Int))] y (AA R (CB fun t52 AF => Bo t52 (T9 R s0 p5 n5 c5 FN GK FO GL x8 x8 AF) (Br ((((UInt8.toNat uK : Nat) : Int) : Int) = 34) (AK (x8 + 1) ∧ ADO R s0 p5 n5 c5 none 0 0 FN GK FO GL (x8 + 1) x8 AF) (∃ s60, YF prog (Instr.sliceAt 9 (.string s0) (some (.int .i64 x8)) none none) AF (.string s60) ∧ Spec prog 92 #[.string s60] AF (AA R (CT fun s61 AH => Bn ((ByteArray.toList s61 == ByteArray.toList (ByteArray.mk #[]))) (Al AH fun b68 => AJ prog (Builtin.append_ #[121, 121] 121 #[.slice p5 n5 c5, (.slice (aD b68 0) 1 1)]) (Hp.set AH b68 (.cells #[.int .i64 5, .int .i64 x8, .string s61, .int .i64 0] 131 (0, 0))) (CS fun qH n69 qI AZ => AK (x8 + ((ByteArray.size s61 : Nat) : Int)) ∧ MT R s0 qH n69 qI FN GK FO GL ((x8 + ((ByteArray.size s61 : Nat) : Int))) AZ)) (R (.returned (.tuple #[.slice none 0 0, .int .i64 x8, .int .i64 171])) AH)))))))))))))))) : MT R s0 p5 n5 c5 FN GK FO GL x8 σ := M.hZ h ok rfl fun _ => by kernel_rfl
theorem dG (h : Br (x8 < ((ByteArray.size s0 : Nat) : Int)) (∃ u82 : UInt8, 0 ≤ x8 ∧ (ByteArray.data s0)[Int.toNat x8]? = some u82 ∧ Spec prog 90 #[(.int .u8 ((UInt8.toNat u82 : Nat) : Int))] σ (AA R (CB fun t83 y => Bo t83 (AK (x8 + 1) ∧ Xc R s0 p5 n5 c5 FN GK FO GL (x8 + 1) x9 y) (∃ u87 : UInt8, 0 ≤ x8 ∧ (ByteArray.data s0)[Int.toNat x8]? = some u87 ∧ Spec prog 91 #[(.int .u8 ((UInt8.toNat u87 : Nat) : Int))] y (AA R (CB fun t88 AF => Bo t88 (∃ u92 : UInt8, 0 ≤ x8 ∧ (ByteArray.data s0)[Int.toNat x8]? = some u92 ∧ Br ((((UInt8.toNat u92 : Nat) : Int) : Int) ≠ 58) (AK (x8 + 1) ∧ Xc R s0 p5 n5 c5 FN GK FO GL (x8 + 1) x9 AF) (∃ u99 : UInt8, 0 ≤ x8 ∧ (ByteArray.data s0)[Int.toNat x8]? = some u99 ∧ Br ((((UInt8.toNat u99 : Nat) : Int) : Int) = 46) (AK (x8 + 1) ∧ Xc R s0 p5 n5 c5 FN GK FO GL (x8 + 1) x9 AF) (∃ Gd, YF prog (Instr.sliceAt 9 (.string s0) (some (.int .i64 x9)) (some (.int .i64 x8)) none) AF (.string Gd) ∧ Spec prog 93 #[.string Gd] AF (AA R (CI .i64 fun Kf AH => Br (0 < Kf) (Ke R s0 p5 n5 c5 2 x9 Gd Kf x8 AH) (Spec prog 94 #[.string Gd] AH (AA R (CB fun t121 AZ => Bn t121 (R (.returned (.tuple #[.slice none 0 0, .int .i64 x9, .int .i64 172])) AZ) (Ke R s0 p5 n5 c5 1 x9 Gd Kf x8 AZ))))))))) (∃ u99 : UInt8, 0 ≤ x8 ∧ (ByteArray.data s0)[Int.toNat x8]? = some u99 ∧ Br ((((UInt8.toNat u99 : Nat) : Int) : Int) = 46) (AK (x8 + 1) ∧ Xc R s0 p5 n5 c5 FN GK FO GL (x8 + 1) x9 AF) (∃ Gd, YF prog (Instr.sliceAt 9 (.string s0) (some (.int .i64 x9)) (some (.int .i64 x8)) none) AF (.string Gd) ∧ Spec prog 93 #[.string Gd] AF (AA R (CI .i64 fun Kf AH => Br (0 < Kf) (Ke R s0 p5 n5 c5 2 x9 Gd Kf x8 AH) (Spec prog 94 #[.string Gd] AH (AA R (CB fun t121 AZ => Bn t121 (R (.returned (.tuple #[.slice none 0 0, .int .i64 x9, .int .i64 172])) AZ) (Ke R s0 p5 n5 c5 1 x9 Gd Kf x8 AZ)))))))))))))) (∃ Gd, YF prog (Instr.sliceAt 9 (.string s0) (some (.int .i64 x9)) (some (.int .i64 x8)) none) σ (.string Gd) ∧ Spec prog 93 #[.string Gd] σ (AA R (CI .i64 fun Kf y => Br (0 < Kf) (Ke R s0 p5 n5 c5 2 x9 Gd Kf x8 y) (Spec prog 94 #[.string Gd] y (AA R (CB fun t121 AF => Bn t121 (R (.returned (.tuple #[.slice none 0 0, .int .i64 x9, .int .i64 172])) AF) (Ke R s0 p5 n5 c5 1 x9 Gd Kf x8 AF)))))))) : Xc R s0 p5 n5 c5 FN GK FO GL x8 x9 σ := M.hZ h ok rfl fun _ => by kernel_rfl
theorem Xd (h : Br (x8 < ((ByteArray.size s0 : Nat) : Int)) (∃ ADQ : UInt8, 0 ≤ x8 ∧ (ByteArray.data s0)[Int.toNat x8]? = some ADQ ∧ Spec prog 91 #[(.int .u8 ((UInt8.toNat ADQ : Nat) : Int))] σ (AA R (CB fun t136 y => Bo t136 (AK (x8 + 1) ∧ T9 R s0 p5 n5 c5 FN GK FO GL (x8 + 1) x9 y) (∃ ADR : UInt8, 0 ≤ x8 ∧ (ByteArray.data s0)[Int.toNat x8]? = some ADR ∧ Spec prog 90 #[(.int .u8 ((UInt8.toNat ADR : Nat) : Int))] y (AA R (CB fun t141 AF => Bo t141 (AK (x8 + 1) ∧ T9 R s0 p5 n5 c5 FN GK FO GL (x8 + 1) x9 AF) (∃ Xe, YF prog (Instr.sliceAt 9 (.string s0) (some (.int .i64 x9)) (some (.int .i64 x8)) none) AF (.string Xe) ∧ Al AF fun Xf => AJ prog (Builtin.append_ #[121, 121] 121 #[.slice p5 n5 c5, (.slice (aD Xf 0) 1 1)]) (Hp.set AF Xf (.cells #[.int .i64 3, .int .i64 x9, .string Xe, .int .i64 0] 131 (0, 0))) (CS fun kr n154 ks AH => MT R s0 kr n154 ks FN GK FO GL x8 AH)))))))) (∃ Xe, YF prog (Instr.sliceAt 9 (.string s0) (some (.int .i64 x9)) (some (.int .i64 x8)) none) σ (.string Xe) ∧ Al σ fun Xf => AJ prog (Builtin.append_ #[121, 121] 121 #[.slice p5 n5 c5, (.slice (aD Xf 0) 1 1)]) (Hp.set σ Xf (.cells #[.int .i64 3, .int .i64 x9, .string Xe, .int .i64 0] 131 (0, 0))) (CS fun kr n154 ks y => MT R s0 kr n154 ks FN GK FO GL x8 y))) : T9 R s0 p5 n5 c5 FN GK FO GL x8 x9 σ := M.hZ h ok rfl fun _ => by kernel_rfl
theorem Xg (h : Al σ fun ADS => AJ prog (Builtin.append_ #[121, 121] 121 #[.slice p5 n5 c5, (.slice (aD ADS 0) 1 1)]) (Hp.set σ ADS (.cells #[.int .i64 FN, .int .i64 GK, .string FO, .int .i64 GL] 131 (0, 0))) (CS fun AJx n127 AJy y => MT R s0 AJx n127 AJy FN GK FO GL x8 y)) : Ke R s0 p5 n5 c5 FN GK FO GL x8 σ := M.hZ h ok rfl fun _ => by kernel_rfl
end Aq
namespace EV
variable {q0 DS Da p2 : Option Addr} {DP CF DQ DT Ct CK : Int} {DR : ByteArray} {DU DV DW Db n2 c2 : Nat} {Cu : Bool}
def M : Fw := ⟨prog, 84, f84, [124, 128], [4], false, [(1, 10, true)], [], []⟩
theorem ok : M.Ok := ⟨.cons call124 (.cons call128 (AG.nil)), mixed, func84, by kernel_rfl⟩
theorem start (h : ∀ b4 : Nat, Pq p2 fun C7 iB => In 0 (n2 : Int) ∧ LI .i64 σ C7 iB fun x15 => In 1 (n2 : Int) ∧ LI .i64 σ C7 (iB + 1) fun Ck => Br (x15 = 2) (Br (x15 = 1) (Br (x15 = 3) (R (.returned (.tuple #[.int .i64 0, .int .i64 192])) σ) (Br (Ck = 3) (R (.returned (.tuple #[.int .i64 0, .int .i64 192])) σ) (Spec prog 128 #[.int .i64 CF] σ (AA R (CB fun t41 y => Bo t41 (Bm (Ck = 2) (R (.returned (.tuple #[.int .i64 0, .int .i64 192])) y) (Br (Ck = 1) (Spec prog 124 #[.int .i64 CF] y (AA R (CB fun t57 AF => Bo t57 (Bn Cu (R (.returned (.tuple #[.int .i64 0, .int .i64 192])) AF) (R (.returned (.tuple #[(.int .i64 (if x15 < Ck then Ck else x15)), .int .i64 0])) AF)) (R (.returned (.tuple #[(.int .i64 (if x15 < Ck then Ck else x15)), .int .i64 0])) AF)))) (R (.returned (.tuple #[(.int .i64 (if x15 < Ck then Ck else x15)), .int .i64 0])) y))) (Br (Ct ≠ 0) (Bm (Ck = 2) (R (.returned (.tuple #[.int .i64 0, .int .i64 192])) y) (Br (Ck = 1) (Spec prog 124 #[.int .i64 CF] y (AA R (CB fun t57 AF => Bo t57 (Bn Cu (R (.returned (.tuple #[.int .i64 0, .int .i64 192])) AF) (R (.returned (.tuple #[(.int .i64 (if x15 < Ck then Ck else x15)), .int .i64 0])) AF)) (R (.returned (.tuple #[(.int .i64 (if x15 < Ck then Ck else x15)), .int .i64 0])) AF)))) (R (.returned (.tuple #[(.int .i64 (if x15 < Ck then Ck else x15)), .int .i64 0])) y))) (Br (Ck = 1) (Spec prog 124 #[.int .i64 CF] y (AA R (CB fun t57 AF => Bo t57 (Bn Cu (R (.returned (.tuple #[.int .i64 0, .int .i64 192])) AF) (R (.returned (.tuple #[(.int .i64 (if x15 < Ck then Ck else x15)), .int .i64 0])) AF)) (R (.returned (.tuple #[(.int .i64 (if x15 < Ck then Ck else x15)), .int .i64 0])) AF)))) (R (.returned (.tuple #[(.int .i64 (if x15 < Ck then Ck else x15)), .int .i64 0])) y)))))))) (Br (x15 = 3) (R (.returned (.tuple #[.int .i64 0, .int .i64 192])) σ) (Br (Ck = 3) (R (.returned (.tuple #[.int .i64 0, .int .i64 192])) σ) (Spec prog 128 #[.int .i64 CF] σ (AA R (CB fun t41 y => Bo t41 (Bm (Ck = 2) (R (.returned (.tuple #[.int .i64 0, .int .i64 192])) y) (R (.returned (.tuple #[(.int .i64 (if x15 < Ck then Ck else x15)), .int .i64 0])) y)) (Br (Ct ≠ 0) (Bm (Ck = 2) (R (.returned (.tuple #[.int .i64 0, .int .i64 192])) y) (R (.returned (.tuple #[(.int .i64 (if x15 < Ck then Ck else x15)), .int .i64 0])) y)) (R (.returned (.tuple #[(.int .i64 (if x15 < Ck then Ck else x15)), .int .i64 0])) y)))))))) (Br (x15 = 1) (Br (x15 = 3) (R (.returned (.tuple #[.int .i64 0, .int .i64 192])) σ) (Br (Ck = 3) (R (.returned (.tuple #[.int .i64 0, .int .i64 192])) σ) (Spec prog 128 #[.int .i64 CF] σ (AA R (CB fun t41 y => Bo t41 (R (.returned (.tuple #[.int .i64 0, .int .i64 192])) y) (Br (Ct ≠ 0) (R (.returned (.tuple #[.int .i64 0, .int .i64 192])) y) (Br (Ck = 1) (Spec prog 124 #[.int .i64 CF] y (AA R (CB fun t57 AF => Bo t57 (Bn Cu (R (.returned (.tuple #[.int .i64 0, .int .i64 192])) AF) (R (.returned (.tuple #[(.int .i64 (if x15 < Ck then Ck else x15)), .int .i64 0])) AF)) (R (.returned (.tuple #[(.int .i64 (if x15 < Ck then Ck else x15)), .int .i64 0])) AF)))) (R (.returned (.tuple #[(.int .i64 (if x15 < Ck then Ck else x15)), .int .i64 0])) y)))))))) (Br (x15 = 3) (R (.returned (.tuple #[.int .i64 0, .int .i64 192])) σ) (Br (Ck = 3) (R (.returned (.tuple #[.int .i64 0, .int .i64 192])) σ) (Spec prog 128 #[.int .i64 CF] σ (AA R (CB fun t41 y => Bo t41 (R (.returned (.tuple #[.int .i64 0, .int .i64 192])) y) (Br (Ct ≠ 0) (R (.returned (.tuple #[.int .i64 0, .int .i64 192])) y) (R (.returned (.tuple #[(.int .i64 (if x15 < Ck then Ck else x15)), .int .i64 0])) y))))))))) : Spec prog 84 #[.pointer q0, .agg #[.int .i64 DP, .int .i64 CF, .string DR, .slice DS DU DV, .int .i64 DQ, .int .i64 DT, .int .i64 Ct, .slice Da DW Db, .bool Cu, .int .i64 CK], .slice p2 n2 c2] σ R := M.start h ok
end EV
namespace Rn
variable {x0 : Int}
def M : Fw := ⟨prog, 91, f91, [], [], false, [], [], []⟩
theorem ok : M.Ok := ⟨AG.nil, mixed, func91, by kernel_rfl⟩
theorem start (h : Br (97 ≤ x0) (Br (x0 ≤ 122) (R (.returned (.bool true)) σ) (Br (65 ≤ x0) (Br (x0 ≤ 90) (R (.returned (.bool true)) σ) (Br (x0 = 95) (R (.returned (.bool true)) σ) (R (.returned (.bool (decide (x0 = 58)))) σ))) (Br (x0 = 95) (R (.returned (.bool true)) σ) (R (.returned (.bool (decide (x0 = 58)))) σ)))) (Br (65 ≤ x0) (Br (x0 ≤ 90) (R (.returned (.bool true)) σ) (Br (x0 = 95) (R (.returned (.bool true)) σ) (R (.returned (.bool (decide (x0 = 58)))) σ))) (Br (x0 = 95) (R (.returned (.bool true)) σ) (R (.returned (.bool (decide (x0 = 58)))) σ)))) : Spec prog 91 #[.int .u8 x0] σ R := M.start h ok
end Rn
namespace EW
variable {s0 : ByteArray} {t8 : Bool}
def M : Fw := ⟨prog, 92, f92, [130], [], false, [], [], [(28, [(0, wT)]), (213, [(0, wT), (8, wB)])]⟩
theorem ok : M.Ok := ⟨.cons call130 (AG.nil), mixed, func92, by kernel_rfl⟩
def qT := M.pt 0
def Gz := M.pt 1
theorem start (h : Br ((1 : Int) < ((ByteArray.size s0 : Nat) : Int)) (∃ s7, YF prog (Instr.sliceAt 9 (.string s0) none (some (.int .i64 2)) none) σ (.string s7) ∧ Bo ((ByteArray.toList s7 == ByteArray.toList (ByteArray.mk #[61, 61]))) (Gz R s0 true σ) (Bo ((ByteArray.toList s7 == ByteArray.toList (ByteArray.mk #[33, 61]))) (Gz R s0 true σ) (Bo ((ByteArray.toList s7 == ByteArray.toList (ByteArray.mk #[60, 61]))) (Gz R s0 true σ) (Bo ((ByteArray.toList s7 == ByteArray.toList (ByteArray.mk #[62, 61]))) (Gz R s0 true σ) (Bo ((ByteArray.toList s7 == ByteArray.toList (ByteArray.mk #[61, 126]))) (Gz R s0 true σ) (Gz R s0 ((ByteArray.toList s7 == ByteArray.toList (ByteArray.mk #[33, 126]))) σ)))))) (qT R s0 σ)) : Spec prog 92 #[.string s0] σ R := M.start h ok
theorem qU (h : ∃ u18 : UInt8, (0 : Int) ≤ 0 ∧ (ByteArray.data s0)[Int.toNat 0]? = some u18 ∧ Spec prog 130 #[(.string (ByteArray.mk #[60, 62, 61, 43, 45, 42, 47, 40, 41, 123, 125, 91, 93, 44])), (.int .u8 ((UInt8.toNat u18 : Nat) : Int))] σ (AA R (CI .i64 fun Ck y => Br (0 ≤ Ck) (∃ s22, YF prog (Instr.sliceAt 9 (.string s0) none (some (.int .i64 1)) none) y (.string s22) ∧ R (.returned (.string s22)) y) (R (.returned (.string (ByteArray.mk #[]))) y)))) : qT R s0 σ := M.of h ok rfl
theorem Il (h : Bo t8 (∃ s16, YF prog (Instr.sliceAt 9 (.string s0) none (some (.int .i64 2)) none) σ (.string s16) ∧ R (.returned (.string s16)) σ) (qT R s0 σ)) : Gz R s0 t8 σ := M.of h ok rfl
end EW
namespace Bf
variable {q0 DS Da p2 : Option Addr} {DP CF DQ DT Ct CK : Int} {DR : ByteArray} {DU DV DW Db n2 c2 : Nat} {Cu : Bool}
def M : Fw := ⟨prog, 100, f100, [140], [4, 6], false, [], [], []⟩
theorem ok : M.Ok := ⟨.cons call140 (AG.nil), mixed, func100, by kernel_rfl⟩
theorem start (h : ∀ b4 : Nat, ∀ b6 : Nat, Spec prog 140 #[.string DR] σ (AA R (fun z y => ∃ j2 AJz, z = (.tuple #[.int .u64 j2, .bool AJz]) ∧ R (.returned (.tuple #[.agg #[.int .i64 1, .int .u64 j2, .slice none 0 0, .slice none 0 0], .int .i64 0])) y))) : Spec prog 100 #[.pointer q0, .agg #[.int .i64 DP, .int .i64 CF, .string DR, .slice DS DU DV, .int .i64 DQ, .int .i64 DT, .int .i64 Ct, .slice Da DW Db, .bool Cu, .int .i64 CK], .slice p2 n2 c2] σ R := M.start h ok
end Bf
namespace Ro
variable {x0 x1 : Int}
def M : Fw := ⟨prog, 123, f123, [], [], false, [], [], []⟩
theorem ok : M.Ok := ⟨AG.nil, mixed, func123, by kernel_rfl⟩
theorem start (h : Br (x1 ≤ x0) (R (.returned (.bool (decide (x0 < 2147483648)))) σ) (R (.returned (.bool false)) σ)) : Spec prog 123 #[.int .i64 x0, .int .i64 x1] σ R := M.start h ok
end Ro
namespace Rp
variable {s0 : ByteArray}
def M : Fw := ⟨prog, 126, f126, [98], [], false, [], [], []⟩
theorem ok : M.Ok := ⟨.cons call98 (AG.nil), mixed, func126, by kernel_rfl⟩
theorem start (h : Spec prog 98 #[.string s0] σ (AA R (CB fun t4 y => R (.returned (.bool t4)) y))) : Spec prog 126 #[.string s0] σ R := M.start h ok
end Rp
namespace HH
variable {q0 DS Da : Option Addr} {DP CF DQ DT Ct CK : Int} {DR : ByteArray} {DU DV DW Db : Nat} {Cu : Bool}
def M : Fw := ⟨prog, 138, f138, [], [3], false, [(1, 10, false)], [], []⟩
theorem ok : M.Ok := ⟨AG.nil, mixed, func138, by kernel_rfl⟩
theorem start (h : ∀ b3 : Nat, Pq q0 fun b6 o6 => LS σ b6 (o6 + 2) fun p8 n8 c8 => Al σ fun CR => AJ prog (Builtin.append_ #[22, 22] 22 #[.slice p8 n8 c8, (.slice (aD CR 0) 1 1)]) (Hp.set σ CR (.cells #[.int .i64 DP, .int .i64 CF, .string DR, .slice DS DU DV, .int .i64 DQ, .int .i64 DT, .int .i64 Ct, .slice Da DW Db, .bool Cu, .int .i64 CK] 36 (0, 0))) (CS fun LD n11 LF y => AJ prog (Instr.storeAt 22 (.pointer (aD b6 (o6 + 2))) (.slice LD n11 LF)) y (fun _ AF => R (.returned (.tuple #[])) AF))) : Spec prog 138 #[.pointer q0, .agg #[.int .i64 DP, .int .i64 CF, .string DR, .slice DS DU DV, .int .i64 DQ, .int .i64 DT, .int .i64 Ct, .slice Da DW Db, .bool Cu, .int .i64 CK]] σ R := M.start h ok
end HH
namespace EX
variable {p0 : Option Addr} {n0 c0 : Nat}
def M : Fw := ⟨prog, 154, f154, [151, 155, 194], [], false, [], [], []⟩
theorem ok : M.Ok := ⟨.cons call151 (.cons call155 (.cons call194 (AG.nil))), mixed, func154, by kernel_rfl⟩
theorem start (h : Spec prog 151 #[.slice p0 n0 c0] σ (AA R (CI .u64 fun x4 y => Spec prog 155 #[.slice p0 n0 c0] y (AA R (CI .u64 fun x6 AF => Spec prog 194 #[.int .u64 x4, .int .u64 x6] AF (AA R (CI .u64 fun x7 AH => R (.returned (.int .u64 x7)) AH))))))) : Spec prog 154 #[.slice p0 n0 c0] σ R := M.start h ok
end EX
namespace AX
variable {q0 DS Da p2 p3 IW Ic Eh Em I6 p35 oO : Option Addr} {DP CF DQ DT Ct CK IU Gy IZ Ia Ib Ih Dp D1 ZD Pb aJ My : Int} {DR IV : ByteArray} {DU DV DW Db n2 c2 n3 c3 IX IY Ie Ig Ei Ej En Eo n14 HB n35 uL ji ct : Nat} {Cu Jh : Bool} {m10 m12 : Option Nat}
def M : Fw := ⟨prog, 160, f160, [49, 148, 206, 207], [5, 8, 16, 17, 20, 21], false, [], [], [(1000, [(3, wL), (5, .X 36 [.I .i64, .I .i64, .T, .L, .I .i64, .I .i64, .I .i64, .L, .B, .I .i64]), (8, .X 93 [.I .i64, .I .u64, .L, .L]), (10, wM), (12, wM), (14, wL), (35, wL), (36, wI), (37, wI)]), (2024, [(5, .X 36 [.I .i64, .I .i64, .T, .L, .I .i64, .I .i64, .I .i64, .L, .B, .I .i64]), (8, .X 93 [.I .i64, .I .u64, .L, .L]), (10, wM), (14, wL), (66, wL), (67, wI), (68, wI)]), (8103, [(5, .X 36 [.I .i64, .I .i64, .T, .L, .I .i64, .I .i64, .I .i64, .L, .B, .I .i64]), (8, .X 93 [.I .i64, .I .u64, .L, .L]), (10, wM), (14, wL), (66, wL), (67, wI), (68, wI)]), (4007, [(3, wL), (5, .X 36 [.I .i64, .I .i64, .T, .L, .I .i64, .I .i64, .I .i64, .L, .B, .I .i64]), (8, .X 93 [.I .i64, .I .u64, .L, .L]), (10, wM), (12, wM), (14, wL), (35, wL), (36, wI), (37, wI)])]⟩
theorem ok : M.Ok := ⟨.cons call49 (.cons call148 (.cons call206 (.cons call207 (AG.nil)))), mixed, func160, by kernel_rfl⟩
def qV := M.pt 0
def Jd := M.pt 1
def M3 := M.pt 2
def VY := M.pt 3
theorem start (h : ∀ b5 : Nat, ∀ b8 : Nat, Spec prog 206 #[.agg #[.int .i64 DP, .int .i64 CF, .string DR, .slice DS DU DV, .int .i64 DQ, .int .i64 DT, .int .i64 Ct, .slice Da DW Db, .bool Cu, .int .i64 CK], .slice p2 n2 c2] σ (AA R (fun z y => ∃ ADT AJ0, z = (.tuple #[.map ADT, .bool AJ0]) ∧ Spec prog 206 #[.agg #[.int .i64 DP, .int .i64 CF, .string DR, .slice DS DU DV, .int .i64 DQ, .int .i64 DT, .int .i64 Ct, .slice Da DW Db, .bool Cu, .int .i64 CK], .slice p3 n3 c3] y (AA R (fun z AF => ∃ ADU AJ1, z = (.tuple #[.map ADU, .bool AJ1]) ∧ qV R p3 n3 c3 DP CF DR DS DU DV DQ DT Ct Da DW Db Cu CK 0 0 none 0 0 none 0 0 ADT ADU none 0 0 p2 n2 c2 (n2 : Int) 0 AF))))) : Spec prog 160 #[.pointer q0, .agg #[.int .i64 DP, .int .i64 CF, .string DR, .slice DS DU DV, .int .i64 DQ, .int .i64 DT, .int .i64 Ct, .slice Da DW Db, .bool Cu, .int .i64 CK], .slice p2 n2 c2, .slice p3 n3 c3] σ R := M.start h ok
theorem dH (h : Br (Pb < ZD) (Pq p35 fun oQ o39 => In Pb (n35 : Int) ∧ ∃ XX VJ aL aM, Au σ oQ (o39 + Int.toNat Pb * 2) [.slice XX VJ aL, .int .u64 aM] ∧ ∀ Ln : Nat, Spec prog 207 #[.agg #[.int .i64 IU, .int .i64 Gy, .string IV, .slice IW IX IY, .int .i64 IZ, .int .i64 Ia, .int .i64 Ib, .slice Ic Ie Ig, .bool Jh, .int .i64 Ih], .slice XX VJ aL] σ (AA R (CS fun uM n46 qW y => Spec prog 49 #[.slice uM n46 qW] y (AA R (CT fun s47 AF => AJ prog (Instr.lookup 243 (.map m12) (.string s47) true) AF (fun z AH => ∃ ADV ADW ADX ADY ADZ, z = (.tuple #[.agg #[.slice ADV ADW ADX, .int .u64 ADY], .bool ADZ]) ∧ ∀ b17 : Nat, Br (Gy = 12) (Al AH fun fK => AJ prog (Builtin.append_ #[67, 67] 67 #[.slice I6 n14 HB, (.slice (aD fK 0) 1 1)]) (Hp.set AH fK (.cells #[.slice XX VJ aL, .int .u64 aM] 71 (0, 0))) (CS fun oM je oN AZ => VY R p3 n3 c3 IU Gy IV IW IX IY IZ Ia Ib Ic Ie Ig Jh Ih Dp D1 Eh Ei Ej Em En Eo m10 m12 oM je oN (aD oQ o39) n35 uL ZD Pb AZ)) (Bo ADZ (Br (Gy = 11) (Al AH fun fK => AJ prog (Builtin.append_ #[67, 67] 67 #[.slice I6 n14 HB, (.slice (aD fK 0) 1 1)]) (Hp.set AH fK (.cells #[.slice XX VJ aL, .int .u64 aM] 71 (0, 0))) (CS fun oM je oN AZ => VY R p3 n3 c3 IU Gy IV IW IX IY IZ Ia Ib Ic Ie Ig Jh Ih Dp D1 Eh Ei Ej Em En Eo m10 m12 oM je oN (aD oQ o39) n35 uL ZD Pb AZ)) (VY R p3 n3 c3 IU Gy IV IW IX IY IZ Ia Ib Ic Ie Ig Jh Ih Dp D1 Eh Ei Ej Em En Eo m10 m12 I6 n14 HB (aD oQ o39) n35 uL ZD Pb AH)) (Br (Gy = 11) (VY R p3 n3 c3 IU Gy IV IW IX IY IZ Ia Ib Ic Ie Ig Jh Ih Dp D1 Eh Ei Ej Em En Eo m10 m12 I6 n14 HB (aD oQ o39) n35 uL ZD Pb AH) (Al AH fun fK => AJ prog (Builtin.append_ #[67, 67] 67 #[.slice I6 n14 HB, (.slice (aD fK 0) 1 1)]) (Hp.set AH fK (.cells #[.slice XX VJ aL, .int .u64 aM] 71 (0, 0))) (CS fun oM je oN AZ => VY R p3 n3 c3 IU Gy IV IW IX IY IZ Ia Ib Ic Ie Ig Jh Ih Dp D1 Eh Ei Ej Em En Eo m10 m12 oM je oN (aD oQ o39) n35 uL ZD Pb AZ)))))))))) (Jd R IU Gy IV IW IX IY IZ Ia Ib Ic Ie Ig Jh Ih Dp D1 Eh Ei Ej Em En Eo m10 I6 n14 HB p3 n3 c3 (n3 : Int) 0 σ)) : qV R p3 n3 c3 IU Gy IV IW IX IY IZ Ia Ib Ic Ie Ig Jh Ih Dp D1 Eh Ei Ej Em En Eo m10 m12 I6 n14 HB p35 n35 uL ZD Pb σ := M.ek h ok rfl fun _ _ => by kernel_rfl
theorem LC (h : Br (My < aJ) (Pq oO fun b70 o70 => In My (ji : Int) ∧ ∃ yB yC yD ADa, Au σ b70 (o70 + Int.toNat My * 2) [.slice yB yC yD, .int .u64 ADa] ∧ ∀ XV : Nat, Spec prog 207 #[.agg #[.int .i64 IU, .int .i64 Gy, .string IV, .slice IW IX IY, .int .i64 IZ, .int .i64 Ia, .int .i64 Ib, .slice Ic Ie Ig, .bool Jh, .int .i64 Ih], .slice yB yC yD] σ (AA R (CS fun p77 n77 c77 y => Spec prog 49 #[.slice p77 n77 c77] y (AA R (CT fun s78 AF => AJ prog (Instr.lookup 243 (.map m10) (.string s78) true) AF (fun z AH => ∃ ADb ADc ADd ADe ADf, z = (.tuple #[.agg #[.slice ADb ADc ADd, .int .u64 ADe], .bool ADf]) ∧ ∀ b21 : Nat, Bn ADf (Br (Gy = 12) (Al AH fun iA => AJ prog (Builtin.append_ #[67, 67] 67 #[.slice I6 n14 HB, (.slice (aD iA 0) 1 1)]) (Hp.set AH iA (.cells #[.slice yB yC yD, .int .u64 ADa] 71 (0, 0))) (CS fun p92 n92 c92 AZ => M3 R IU Gy IV IW IX IY IZ Ia Ib Ic Ie Ig Jh Ih Dp D1 Eh Ei Ej Em En Eo m10 p92 n92 c92 (aD b70 o70) ji ct aJ My AZ)) (M3 R IU Gy IV IW IX IY IZ Ia Ib Ic Ie Ig Jh Ih Dp D1 Eh Ei Ej Em En Eo m10 I6 n14 HB (aD b70 o70) ji ct aJ My AH)) (M3 R IU Gy IV IW IX IY IZ Ia Ib Ic Ie Ig Jh Ih Dp D1 Eh Ei Ej Em En Eo m10 I6 n14 HB (aD b70 o70) ji ct aJ My AH))))))) (Spec prog 148 #[.slice I6 n14 HB] σ (AA R (fun z y => ∃ uN uO uP uQ uR uS uT uU ADg, z = (.tuple #[.agg #[.int .i64 uN, .int .u64 uO, .slice uP uQ uR, .slice uS uT uU], .int .i64 ADg]) ∧ R (.returned (.tuple #[.agg #[.int .i64 uN, .int .u64 uO, .slice uP uQ uR, .slice uS uT uU], .int .i64 ADg])) y)))) : Jd R IU Gy IV IW IX IY IZ Ia Ib Ic Ie Ig Jh Ih Dp D1 Eh Ei Ej Em En Eo m10 I6 n14 HB oO ji ct aJ My σ := M.ek h ok rfl fun _ _ => by kernel_rfl
theorem VB (h : AK (My + 1) ∧ Jd R IU Gy IV IW IX IY IZ Ia Ib Ic Ie Ig Jh Ih Dp D1 Eh Ei Ej Em En Eo m10 I6 n14 HB oO ji ct aJ (My + 1) σ) : M3 R IU Gy IV IW IX IY IZ Ia Ib Ic Ie Ig Jh Ih Dp D1 Eh Ei Ej Em En Eo m10 I6 n14 HB oO ji ct aJ My σ := M.ek h ok rfl fun _ _ => by kernel_rfl
theorem qX (h : AK (Pb + 1) ∧ qV R p3 n3 c3 IU Gy IV IW IX IY IZ Ia Ib Ic Ie Ig Jh Ih Dp D1 Eh Ei Ej Em En Eo m10 m12 I6 n14 HB p35 n35 uL ZD (Pb + 1) σ) : VY R p3 n3 c3 IU Gy IV IW IX IY IZ Ia Ib Ic Ie Ig Jh Ih Dp D1 Eh Ei Ej Em En Eo m10 m12 I6 n14 HB p35 n35 uL ZD Pb σ := M.ek h ok rfl fun _ _ => by kernel_rfl
end AX
namespace Ls
variable {Ek EI x1 : Int}
def M : Fw := ⟨prog, 177, f177, [], [2], false, [], [], []⟩
theorem ok : M.Ok := ⟨AG.nil, mixed, func177, by kernel_rfl⟩
theorem start (h : ∀ b2 : Nat, Br (Ek ≤ x1) (R (.returned (.int .i64 (-1))) σ) (R (.returned (.int .i64 1)) σ)) : Spec prog 177 #[.agg #[.int .i64 Ek, .int .u64 EI], .int .i64 x1] σ R := M.start h ok
end Ls
namespace F5
variable {ta ZC : ByteArray} {b1 : Nat}
def M : Fw := ⟨prog, 198, f198, [199], [2], false, [], [], []⟩
theorem ok : M.Ok := ⟨.cons call199 (AG.nil), mixed, func198, by kernel_rfl⟩
theorem start (h : ∀ b2 : Nat, LS σ b1 0 fun p4 n4 c4 => Spec prog 199 #[.slice p4 n4 c4, .string ta] σ (AA R (CB fun t7 y => R (.returned (.bool t7)) y))) : Spec prog 198 #[.agg #[.string ta, .string ZC], (.pointer (aD b1 0))] σ R := M.start h ok
end F5
namespace EY
variable {q0 : Option Addr} {s1 : ByteArray}
def M : Fw := ⟨prog, 210, f210, [67, 135, 136], [], false, [], [], [(3, [(0, wQ)])]⟩
theorem ok : M.Ok := ⟨.cons call67 (.cons call135 (.cons call136 (AG.nil))), mixed, func210, by kernel_rfl⟩
def aN := M.pt 0
theorem start (h : Spec prog 136 #[.pointer q0, .int .i64 5, .string s1] σ (AA R (CB fun t6 y => Bn t6 (Spec prog 67 #[.pointer q0] y (AA R (fun z AF => z = (.tuple #[]) ∧ aN R q0 AF))) (aN R q0 y)))) : Spec prog 210 #[.pointer q0, .string s1] σ R := M.start h ok
theorem OK (h : Spec prog 135 #[.pointer q0] σ (AA R (fun z y => ∃ fG Pc fH qJ, z = (.agg #[.int .i64 fG, .int .i64 Pc, .string fH, .int .i64 qJ]) ∧ R (.returned (.tuple #[])) y))) : aN R q0 σ := M.of h ok rfl
end EY
namespace Ci
variable {q0 : Option Addr}
def M : Fw := ⟨prog, 212, f212, [95], [], false, [], [], []⟩
theorem ok : M.Ok := ⟨.cons call95 (AG.nil), mixed, func212, by kernel_rfl⟩
theorem start (h : Spec prog 95 #[.pointer q0, (.func (.func 230) #[.pointer q0] #[]), .int .i64 3, .int .i64 4] σ (AA R (fun z y => z = (.tuple #[]) ∧ R (.returned (.tuple #[])) y))) : Spec prog 212 #[.pointer q0] σ R := M.start h ok
end Ci
namespace EZ
variable {TC : Option Addr} {Lp Qw : Nat} {ZC s1 : ByteArray}
def M : Fw := ⟨prog, 218, f218, [], [2], false, [], [], []⟩
theorem ok : M.Ok := ⟨AG.nil, mixed, func218, by kernel_rfl⟩
theorem start (h : ∀ b2 : Nat, R (.returned (.bool (!(ByteArray.toList s1 == ByteArray.toList ZC)))) σ) : Spec prog 218 #[.agg #[.slice TC Lp Qw, .string ZC], .string s1] σ R := M.start h ok
end EZ
namespace UA
variable {x0 : Int}
def M : Fw := ⟨prog, 240, f240, [], [], false, [], [], []⟩
theorem ok : M.Ok := ⟨AG.nil, mixed, func240, by kernel_rfl⟩
theorem start (h : Br (x0 = 1) (R (.returned (.bool true)) σ) (Br (x0 = 2) (R (.returned (.bool true)) σ) (Br (x0 = 4) (R (.returned (.bool true)) σ) (R (.returned (.bool (decide (x0 = 8)))) σ)))) : Spec prog 240 #[.int .i64 x0] σ R := M.start h ok
end UA
namespace Lt
def M : Fw := ⟨prog, 263, f263, [182], [], false, [], [], []⟩
theorem ok : M.Ok := ⟨.cons call182 (AG.nil), mixed, func263, by kernel_rfl⟩
theorem start (h : Spec prog 182 #[.int .u64 4604544271217802189] σ (AA R (fun z y => ∃ x2, (Value.float .f64 x2) = z ∧ ∃ x5, YF prog (Op.unary .neg (Value.float .f64 x2)) y (Value.float .f64 x5) ∧ ∃ x6 y6, YF prog (Builtin.complex_ #[51, 51] 272 #[(Value.float .f64 x2), (Value.float .f64 x5)]) y (Value.complex .f64 x6 y6) ∧ ∃ x8, YF prog (Op.unary .neg (Value.float .f64 x2)) y (Value.float .f64 x8) ∧ ∃ x10, YF prog (Op.unary .neg (Value.float .f64 x2)) y (Value.float .f64 x10) ∧ ∃ x11 y11, YF prog (Builtin.complex_ #[51, 51] 272 #[(Value.float .f64 x8), (Value.float .f64 x10)]) y (Value.complex .f64 x11 y11) ∧ ∃ Bl, YF prog (Op.unary .neg (Value.float .f64 x2)) y (Value.float .f64 Bl) ∧ ∃ x15 y15, YF prog (Builtin.complex_ #[51, 51] 272 #[(Value.float .f64 Bl), (Value.float .f64 x2)]) y (Value.complex .f64 x15 y15) ∧ ∃ T7 y18, YF prog (Builtin.complex_ #[51, 51] 272 #[(Value.float .f64 x2), (Value.float .f64 x2)]) y (Value.complex .f64 T7 y18) ∧ Al y fun C4 => R (.returned (.slice (aD C4 0) 8 8)) (Hp.set y C4 (.cells #[.complex .f64 4607182418800017408 0, (Value.complex .f64 x6 y6), .complex .f64 0 13830554455654793216, (Value.complex .f64 x11 y11), .complex .f64 13830554455654793216 0, (Value.complex .f64 x15 y15), .complex .f64 0 4607182418800017408, (Value.complex .f64 T7 y18)] 272 (0, 0)))))) : Spec prog 263 #[] σ R := M.start h ok
end Lt
end TwW
end
end
section
set_option maxRecDepth 100000
noncomputable section
namespace TwW
open Go Tw Go.Proofs.Tryz
variable [Eg] {R : Rr} {σ : Hp}

namespace AO
variable {p0 p9 : Option Addr} {n0 c0 n9 c9 : Nat} {x1 x2 x7 x8 x10 x11 x12 Bl La : Int}
def M : Fw := ⟨prog, 7, f7, [14, 20, 23, 24, 25, 26], [], false, [(6, 21, false), (9, 14, true)], [], [(976, [(0, wL), (7, wI), (8, wI), (9, wL), (10, wI)]), (16336, [(0, wL), (8, wI), (9, wL), (11, wI), (12, wI), (13, wI), (14, wI)]), (16339, [(0, wL), (8, wI), (9, wL), (11, wI), (12, wI), (13, wI), (14, wI)])]⟩
theorem ok : M.Ok := ⟨.cons call14 (.cons call20 (.cons call23 (.cons call24 (.cons call25 (.cons call26 (AG.nil)))))), mixed, func7, by kernel_rfl⟩
def TE := M.pt 0
def Hu := M.pt 1
def fL := M.pt 2
theorem start (h : Spec prog 24 #[.int .i64 x1] σ (AA R (CI .i64 fun II y => 50 ≠ (0 : Int) ∧ Df (Int.tmod II 50) fun CL => AK (1 + CL) ∧ Spec prog 24 #[.int .i64 x2] y (AA R (CI .i64 fun dD AF => 500 ≠ (0 : Int) ∧ Df (Int.tmod dD 500) fun Gu => AK (1 + Gu) ∧ Al AF fun XW => Al (Hp.set AF XW (.cells #[(.string (ByteArray.mk #[95, 95, 110, 97, 109, 101, 95, 95])), (.string (ByteArray.mk #[109]))] 56 (0, 0))) fun b32 => TE R p0 n0 c0 (1 + CL) (1 + Gu) (aD b32 0) 1 1 0 (Hp.set (Hp.set AF XW (.cells #[(.string (ByteArray.mk #[95, 95, 110, 97, 109, 101, 95, 95])), (.string (ByteArray.mk #[109]))] 56 (0, 0))) b32 (.cells #[(.slice (aD XW 0) 1 1), .slice none 0 0] 40 (0, 0)))))))) : Spec prog 7 #[.slice p0 n0 c0, .int .i64 x1, .int .i64 x2] σ R := M.start h ok
theorem LJ (h : Br (x10 < (n0 : Int)) (Br (x10 < 200) (Pq p9 fun U8 ZA => In 0 (n9 : Int) ∧ LS σ U8 (ZA + 1) fun ti n47 qM => AK (x10 * x7) ∧ Pq p0 fun Mo o53 => In x10 (n0 : Int) ∧ LI .i64 σ Mo (o53 + Int.toNat x10 * 1) fun x54 => Spec prog 24 #[.int .i64 x54] σ (AA R (CI .i64 fun x55 y => Kp [U8] σ y ∧ 1000 ≠ (0 : Int) ∧ Df (Int.tmod x55 1000) fun jS => AJ prog (convert 3 51 (.int .i64 jS)) y (fun z AF => ∃ x57, (Value.float .f64 x57) = z ∧ Kp [U8] y AF ∧ Spec prog 25 #[(Value.float .f64 x57)] AF (AA R (CI .u64 fun x58 AH => Kp [U8] AF AH ∧ Al AH fun oR => AJ prog (Builtin.append_ #[38, 38] 38 #[.slice ti n47 qM, (.slice (aD oR 0) 1 1)]) (Hp.set AH oR (.cells #[(.int .i64 (x10 * x7)), .int .u64 x58] 50 (0, 0))) (CS fun yE n61 yF AZ => In 0 (n9 : Int) ∧ AJ prog (Instr.storeAt 38 (.pointer (aD U8 (ZA + 1))) (.slice yE n61 yF)) AZ (fun _ CJ => AK (x10 + 1) ∧ TE R (aD Mo o53) n0 c0 x7 x8 (aD U8 ZA) n9 c9 (x10 + 1) CJ)))))))) (Pq p9 fun qY qZ => In 0 (n9 : Int) ∧ LS σ qY (qZ + 1) fun ca S8 V8 => Br ((S8 : Int) = 0) (Spec prog 14 #[] σ (AA R (CB fun t70 y => R (.returned (.bool t70)) y))) (In 0 (n9 : Int) ∧ LS σ qY (qZ + 1) fun xu xv c74 => In 0 (n9 : Int) ∧ LS σ qY (qZ + 1) fun iG VI iH => AK ((VI : Int) - 1) ∧ Pq xu fun b81 o81 => In (((VI : Int) - 1)) (xv : Int) ∧ LI .i64 σ b81 (o81 + Int.toNat ((VI : Int) - 1) * 2) fun x83 => Hu R p0 n0 c0 x8 (aD qY qZ) n9 c9 x83 0 0 0 σ))) (Pq p9 fun qY qZ => In 0 (n9 : Int) ∧ LS σ qY (qZ + 1) fun ca S8 V8 => Br ((S8 : Int) = 0) (Spec prog 14 #[] σ (AA R (CB fun t70 y => R (.returned (.bool t70)) y))) (In 0 (n9 : Int) ∧ LS σ qY (qZ + 1) fun xu xv c74 => In 0 (n9 : Int) ∧ LS σ qY (qZ + 1) fun iG VI iH => AK ((VI : Int) - 1) ∧ Pq xu fun b81 o81 => In (((VI : Int) - 1)) (xv : Int) ∧ LI .i64 σ b81 (o81 + Int.toNat ((VI : Int) - 1) * 2) fun x83 => Hu R p0 n0 c0 x8 (aD qY qZ) n9 c9 x83 0 0 0 σ))) : TE R p0 n0 c0 x7 x8 p9 n9 c9 x10 σ := M.of h ok rfl
theorem P5 (h : Pq p9 fun uV uW => In 0 (n9 : Int) ∧ LS σ uV (uW + 1) fun p88 n88 c88 => Br (La < (n88 : Int)) (In 0 (n9 : Int) ∧ LS σ uV (uW + 1) fun p96 n96 c96 => Pq p96 fun b98 o98 => In La (n96 : Int) ∧ LI .i64 σ b98 (o98 + Int.toNat La * 2) fun AJ5 => AK (x11 - x8) ∧ Br (AJ5 ≤ (x11 - x8)) (fL R p0 n0 c0 x8 (aD uV uW) n9 c9 x11 x12 Bl La σ) (AK (Bl + 1) ∧ Br ((1 : Int) < (Bl + 1)) (AK (La - 1) ∧ Pq p0 fun kt qa => In (La - 1) (n0 : Int) ∧ LI .i64 σ kt (qa + Int.toNat (La - 1) * 1) fun Kf => In La (n0 : Int) ∧ LI .i64 σ kt (qa + Int.toNat La * 1) fun ku => Spec prog 24 #[.int .i64 Kf] σ (AA R (CI .i64 fun kv y => Kp [kt] σ y ∧ 1000 ≠ (0 : Int) ∧ Df (Int.tmod kv 1000) fun qb => Spec prog 24 #[.int .i64 ku] y (AA R (CI .i64 fun AJ6 AF => 1000 ≠ (0 : Int) ∧ Df (Int.tmod AJ6 1000) fun fM => AK (x12 + fM) ∧ Br (qb ≤ fM) (AK ((x12 + fM) - qb) ∧ fL R (aD kt qa) n0 c0 x8 (aD uV uW) n9 c9 x11 (((x12 + fM) - qb)) (Bl + 1) La AF) (fL R (aD kt qa) n0 c0 x8 (aD uV uW) n9 c9 x11 (x12 + fM) (Bl + 1) La AF)))))) (fL R p0 n0 c0 x8 (aD uV uW) n9 c9 x11 x12 (Bl + 1) La σ))) (Spec prog 26 #[.int .i64 x8] σ (AA R (CT fun yG y => (ByteArray.size (ByteArray.mk #[105, 110, 99, 114, 101, 97, 115, 101, 40, 109, 91]) + ByteArray.size yG ≤ 9223372036854775807) ∧ (ByteArray.size ((ByteArray.mk #[105, 110, 99, 114, 101, 97, 115, 101, 40, 109, 91]) ++ yG) + ByteArray.size (ByteArray.mk #[115, 93, 41]) ≤ 9223372036854775807) ∧ Spec prog 20 #[(.string (((ByteArray.mk #[105, 110, 99, 114, 101, 97, 115, 101, 40, 109, 91]) ++ yG) ++ (ByteArray.mk #[115, 93, 41]))), (.slice (aD uV uW) n9 c9), .int .i64 x11] y (AA R (fun z AF => ∃ Xh UB Xi uX, z = (.tuple #[.slice Xh UB Xi, .int .i64 uX]) ∧ Spec prog 26 #[.int .i64 x8] AF (AA R (CT fun yH AH => (ByteArray.size (ByteArray.mk #[114, 97, 116, 101, 40, 109, 91]) + ByteArray.size yH ≤ 9223372036854775807) ∧ (ByteArray.size ((ByteArray.mk #[114, 97, 116, 101, 40, 109, 91]) ++ yH) + ByteArray.size (ByteArray.mk #[115, 93, 41]) ≤ 9223372036854775807) ∧ Spec prog 20 #[(.string (((ByteArray.mk #[114, 97, 116, 101, 40, 109, 91]) ++ yH) ++ (ByteArray.mk #[115, 93, 41]))), (.slice (aD uV uW) n9 c9), .int .i64 x11] AH (AA R (fun z AZ => ∃ Xj Rq Xk uY, z = (.tuple #[.slice Xj Rq Xk, .int .i64 uY]) ∧ Br (uX ≠ 0) (R (.returned (.bool false)) AZ) (Br (uY ≠ 0) (R (.returned (.bool false)) AZ) (Br ((UB : Int) = 1) (Br (1 < Bl) (Br ((Rq : Int) = 1) (Br (1 < Bl) (Br (Bl < 2) (Spec prog 14 #[] AZ (AA R (CB fun t193 CJ => R (.returned (.bool t193)) CJ))) (AJ prog (convert 3 51 (.int .i64 x12)) AZ (fun z CJ => ∃ Rt, (Value.float .f64 Rt) = z ∧ Spec prog 25 #[(Value.float .f64 Rt)] CJ (AA R (CI .u64 fun aR EK => Spec prog 23 #[.slice Xh UB Xi, .int .u64 aR] EK (AA R (CB fun t180 EM => Bo t180 (AJ prog (convert 3 51 (.int .i64 x12)) EM (fun z I9 => ∃ Ru, (Value.float .f64 Ru) = z ∧ AJ prog (convert 2 51 (.int .i64 x8)) I9 (fun z OF => ∃ Rv, (Value.float .f64 Rv) = z ∧ AJ prog (binOp .quo 51 (Value.float .f64 Ru) (Value.float .f64 Rv)) OF (fun z F2 => ∃ Rx, (Value.float .f64 Rx) = z ∧ Spec prog 25 #[(Value.float .f64 Rx)] F2 (AA R (CI .u64 fun aS OG => Spec prog 23 #[.slice Xj Rq Xk, .int .u64 aS] OG (AA R (CB fun t189 OH => Bo t189 (Spec prog 14 #[] OH (AA R (CB fun t193 PY => R (.returned (.bool t193)) PY))) (R (.returned (.bool false)) OH))))))))) (R (.returned (.bool false)) EM)))))))) (R (.returned (.bool false)) AZ)) (Br (1 < Bl) (R (.returned (.bool false)) AZ) (Br (Bl < 2) (Spec prog 14 #[] AZ (AA R (CB fun t193 CJ => R (.returned (.bool t193)) CJ))) (AJ prog (convert 3 51 (.int .i64 x12)) AZ (fun z CJ => ∃ Rt, (Value.float .f64 Rt) = z ∧ Spec prog 25 #[(Value.float .f64 Rt)] CJ (AA R (CI .u64 fun aR EK => Spec prog 23 #[.slice Xh UB Xi, .int .u64 aR] EK (AA R (CB fun t180 EM => Bo t180 (AJ prog (convert 3 51 (.int .i64 x12)) EM (fun z I9 => ∃ Ru, (Value.float .f64 Ru) = z ∧ AJ prog (convert 2 51 (.int .i64 x8)) I9 (fun z OF => ∃ Rv, (Value.float .f64 Rv) = z ∧ AJ prog (binOp .quo 51 (Value.float .f64 Ru) (Value.float .f64 Rv)) OF (fun z F2 => ∃ Rx, (Value.float .f64 Rx) = z ∧ Spec prog 25 #[(Value.float .f64 Rx)] F2 (AA R (CI .u64 fun aS OG => Spec prog 23 #[.slice Xj Rq Xk, .int .u64 aS] OG (AA R (CB fun t189 OH => Bo t189 (Spec prog 14 #[] OH (AA R (CB fun t193 PY => R (.returned (.bool t193)) PY))) (R (.returned (.bool false)) OH))))))))) (R (.returned (.bool false)) EM)))))))))) (R (.returned (.bool false)) AZ)) (Br (1 < Bl) (R (.returned (.bool false)) AZ) (Br ((Rq : Int) = 1) (Br (1 < Bl) (Br (Bl < 2) (Spec prog 14 #[] AZ (AA R (CB fun t193 CJ => R (.returned (.bool t193)) CJ))) (AJ prog (convert 3 51 (.int .i64 x12)) AZ (fun z CJ => ∃ Rt, (Value.float .f64 Rt) = z ∧ Spec prog 25 #[(Value.float .f64 Rt)] CJ (AA R (CI .u64 fun aR EK => Spec prog 23 #[.slice Xh UB Xi, .int .u64 aR] EK (AA R (CB fun t180 EM => Bo t180 (AJ prog (convert 3 51 (.int .i64 x12)) EM (fun z I9 => ∃ Ru, (Value.float .f64 Ru) = z ∧ AJ prog (convert 2 51 (.int .i64 x8)) I9 (fun z OF => ∃ Rv, (Value.float .f64 Rv) = z ∧ AJ prog (binOp .quo 51 (Value.float .f64 Ru) (Value.float .f64 Rv)) OF (fun z F2 => ∃ Rx, (Value.float .f64 Rx) = z ∧ Spec prog 25 #[(Value.float .f64 Rx)] F2 (AA R (CI .u64 fun aS OG => Spec prog 23 #[.slice Xj Rq Xk, .int .u64 aS] OG (AA R (CB fun t189 OH => Bo t189 (Spec prog 14 #[] OH (AA R (CB fun t193 PY => R (.returned (.bool t193)) PY))) (R (.returned (.bool false)) OH))))))))) (R (.returned (.bool false)) EM)))))))) (R (.returned (.bool false)) AZ)) (Br (1 < Bl) (R (.returned (.bool false)) AZ) (Br (Bl < 2) (Spec prog 14 #[] AZ (AA R (CB fun t193 CJ => R (.returned (.bool t193)) CJ))) (AJ prog (convert 3 51 (.int .i64 x12)) AZ (fun z CJ => ∃ Rt, (Value.float .f64 Rt) = z ∧ Spec prog 25 #[(Value.float .f64 Rt)] CJ (AA R (CI .u64 fun aR EK => Spec prog 23 #[.slice Xh UB Xi, .int .u64 aR] EK (AA R (CB fun t180 EM => Bo t180 (AJ prog (convert 3 51 (.int .i64 x12)) EM (fun z I9 => ∃ Ru, (Value.float .f64 Ru) = z ∧ AJ prog (convert 2 51 (.int .i64 x8)) I9 (fun z OF => ∃ Rv, (Value.float .f64 Rv) = z ∧ AJ prog (binOp .quo 51 (Value.float .f64 Ru) (Value.float .f64 Rv)) OF (fun z F2 => ∃ Rx, (Value.float .f64 Rx) = z ∧ Spec prog 25 #[(Value.float .f64 Rx)] F2 (AA R (CI .u64 fun aS OG => Spec prog 23 #[.slice Xj Rq Xk, .int .u64 aS] OG (AA R (CB fun t189 OH => Bo t189 (Spec prog 14 #[] OH (AA R (CB fun t193 PY => R (.returned (.bool t193)) PY))) (R (.returned (.bool false)) OH))))))))) (R (.returned (.bool false)) EM))))))))))))))))))))))) : Hu R p0 n0 c0 x8 p9 n9 c9 x11 x12 Bl La σ := M.of h ok rfl
theorem qc (h : AK (La + 1) ∧ Hu R p0 n0 c0 x8 p9 n9 c9 x11 x12 Bl (La + 1) σ) : fL R p0 n0 c0 x8 p9 n9 c9 x11 x12 Bl La σ := M.of h ok rfl
end AO
namespace Hv
variable {p0 : Option Addr} {n0 c0 : Nat} {x1 x5 : Int}
def M : Fw := ⟨prog, 23, f23, [], [], false, [], [], [(208, [(0, wL), (1, wU), (5, wI)])]⟩
theorem ok : M.Ok := ⟨AG.nil, mixed, func23, by kernel_rfl⟩
def I7 := M.pt 0
theorem start (h : I7 R p0 n0 c0 x1 0 σ) : Spec prog 23 #[.slice p0 n0 c0, .int .u64 x1] σ R := M.start h ok
theorem BN (h : Br (x5 < (n0 : Int)) (Pq p0 fun BB Oq => In x5 (n0 : Int) ∧ LS σ BB ((Oq + Int.toNat x5 * 2) + 1) fun Z5 n16 V7 => Br ((n16 : Int) = 1) (In x5 (n0 : Int) ∧ LS σ BB ((Oq + Int.toNat x5 * 2) + 1) fun p24 n24 c24 => Pq p24 fun JU WB => In 0 (n24 : Int) ∧ LI .u64 σ JU (WB + 1) fun Gu => Br (Gu = x1) (R (.returned (.bool true)) σ) (AK (x5 + 1) ∧ I7 R (aD BB Oq) n0 c0 x1 (x5 + 1) σ)) (AK (x5 + 1) ∧ I7 R (aD BB Oq) n0 c0 x1 (x5 + 1) σ)) (R (.returned (.bool false)) σ)) : I7 R p0 n0 c0 x1 x5 σ := M.of h ok rfl
end Hv
namespace UC
variable {v0 : Value}
def M : Fw := ⟨prog, 25, f25, [], [], false, [], [], []⟩
theorem ok : M.Ok := ⟨AG.nil, mixed, func25, by kernel_rfl⟩
theorem start (h : EN prog 45 #[v0] σ (CI .u64 fun x4 y => R (.returned (.int .u64 x4)) y)) : Spec prog 25 #[v0] σ R := M.Dn h ok [(0, .o (.V v0))] rfl rfl (by kernel_rfl)
end UC
namespace UD
variable {p0 p1 : Option Addr} {n0 c0 n1 c1 : Nat}
def M : Fw := ⟨prog, 28, f28, [37, 46], [], false, [], [], []⟩
theorem ok : M.Ok := ⟨.cons call37 (.cons call46 (AG.nil)), mixed, func28, by kernel_rfl⟩
theorem start (h : Spec prog 37 #[.slice p0 n0 c0] σ (AA R (fun z y => ∃ IT xC ADh, z = (.tuple #[.int .i64 IT, .int .i64 xC, .int .i64 ADh]) ∧ Br (ADh ≠ 0) (R (.returned (.int .i64 220)) y) (Br (IT = 3) (R (.returned (.int .i64 220)) y) (Spec prog 46 #[.slice p1 n1 c1] y (AA R (CI .i64 fun CL AF => Br (CL ≠ 0) (R (.returned (.int .i64 224)) AF) (R (.returned (.int .i64 0)) AF)))))))) : Spec prog 28 #[.slice p0 n0 c0, .slice p1 n1 c1] σ R := M.start h ok
end UD
namespace DH
variable {p0 p5 : Option Addr} {n0 c0 n5 c5 : Nat} {x6 x7 : Int}
def M : Fw := ⟨prog, 46, f46, [52, 68, 69], [4], false, [], [], [(104, [(0, wL), (5, wL), (6, wI), (7, wI)])]⟩
theorem ok : M.Ok := ⟨.cons call52 (.cons call68 (.cons call69 (AG.nil))), mixed, func46, by kernel_rfl⟩
def HX := M.pt 0
theorem start (h : HX R p0 n0 c0 p0 n0 c0 (n0 : Int) 0 σ) : Spec prog 46 #[.slice p0 n0 c0] σ R := M.start h ok
theorem BY (h : Br (x7 < x6) (Pq p5 fun CR fN => In x7 (n5 : Int) ∧ ∃ Xl Xm Xn ADi ADj ADk, Au σ CR (fN + Int.toNat x7 * 2) [.slice Xl Xm Xn, .slice ADi ADj ADk] ∧ ∀ b4 : Nat, Spec prog 68 #[.slice Xl Xm Xn] σ (AA R (CI .i64 fun La y => Br (La ≠ 0) (R (.returned (.int .i64 100)) y) (Spec prog 69 #[.slice ADi ADj ADk] y (AA R (CB fun t19 AF => Bn t19 (R (.returned (.int .i64 100)) AF) (Br (0 < x7) (AK (x7 - 1) ∧ Pq p0 fun XL cw => In (x7 - 1) (n0 : Int) ∧ LS AF XL (cw + Int.toNat (x7 - 1) * 2) fun p31 n31 c31 => Spec prog 52 #[.slice p31 n31 c31, .slice Xl Xm Xn] AF (AA R (CI .i64 fun xO AH => Br (0 ≤ xO) (R (.returned (.int .i64 100)) AH) (AK (x7 + 1) ∧ HX R (aD XL cw) n0 c0 (aD CR fN) n5 c5 x6 (x7 + 1) AH)))) (AK (x7 + 1) ∧ HX R p0 n0 c0 (aD CR fN) n5 c5 x6 (x7 + 1) AF)))))))) (R (.returned (.int .i64 0)) σ)) : HX R p0 n0 c0 p5 n5 c5 x6 x7 σ := M.of h ok rfl
end DH
namespace OO
variable {x0 : Int}
def M : Fw := ⟨prog, 90, f90, [], [], false, [], [], []⟩
theorem ok : M.Ok := ⟨AG.nil, mixed, func90, by kernel_rfl⟩
theorem start (h : Br (48 ≤ x0) (R (.returned (.bool (decide (x0 ≤ 57)))) σ) (R (.returned (.bool false)) σ)) : Spec prog 90 #[.int .u8 x0] σ R := M.start h ok
end OO
namespace Ad
variable {q0 DS Da p2 GH HZ G2 Fg Eh Em Z5 : Option Addr} {DP CF DQ DT Ct CK Fc FK Ha Fs Hb IG Fe Ff Dp D1 x17 T7 : Int} {DR HC : ByteArray} {DU DV DW Db n2 c2 GI GJ Hc Hd G3 G4 Fh Fi Ei Ej En Eo n16 V7 : Nat} {Cu IH : Bool}
def M : Fw := ⟨prog, 101, f101, [141, 142], [4, 6, 8, 10], false, [(7, 15, false)], [], [(232, [(0, wQ), (4, .X 36 [.I .i64, .I .i64, .T, .L, .I .i64, .I .i64, .I .i64, .L, .B, .I .i64]), (6, .X 93 [.I .i64, .I .u64, .L, .L]), (8, .X 93 [.I .i64, .I .u64, .L, .L]), (16, wL), (17, wI), (18, wI)]), (935, [(0, wQ), (4, .X 36 [.I .i64, .I .i64, .T, .L, .I .i64, .I .i64, .I .i64, .L, .B, .I .i64]), (6, .X 93 [.I .i64, .I .u64, .L, .L]), (8, .X 93 [.I .i64, .I .u64, .L, .L]), (16, wL), (17, wI), (18, wI)])]⟩
theorem ok : M.Ok := ⟨.cons call141 (.cons call142 (AG.nil)), mixed, func101, by kernel_rfl⟩
def A0 := M.pt 0
def LZ := M.pt 1
theorem start (h : ∀ b4 : Nat, ∀ b6 : Nat, ∀ b8 : Nat, Pq q0 fun BB Oq => LS σ BB Oq fun Z5 n16 V7 => A0 R (aD BB Oq) DP CF DR DS DU DV DQ DT Ct Da DW Db Cu CK 0 0 none 0 0 none 0 0 2 0 none 0 0 none 0 0 Z5 n16 V7 (n16 : Int) 0 σ) : Spec prog 101 #[.pointer q0, .agg #[.int .i64 DP, .int .i64 CF, .string DR, .slice DS DU DV, .int .i64 DQ, .int .i64 DT, .int .i64 Ct, .slice Da DW Db, .bool Cu, .int .i64 CK], .slice p2 n2 c2] σ R := M.start h ok
theorem Aa (h : Br (T7 < x17) (Pq Z5 fun XV yI => In T7 (n16 : Int) ∧ ∃ yJ yK yL ADl ADm ADn, Au σ XV (yI + Int.toNat T7 * 2) [.slice yJ yK yL, .slice ADl ADm ADn] ∧ ∀ CR : Nat, Pq q0 fun JU WB => LI .i64 σ JU (WB + 1) fun Gu => AK (Gu - Fs) ∧ AK ((Gu - Fs) - 300) ∧ LI .i64 σ JU (WB + 1) fun V9 => AK (V9 - Fs) ∧ Spec prog 141 #[.slice ADl ADm ADn, (.int .i64 ((Gu - Fs) - 300)), (.int .i64 (V9 - Fs))] σ (AA R (CS fun p39 n39 c39 y => Br ((n39 : Int) = 0) (LZ R (aD JU WB) Fc FK HC GH GI GJ Ha Fs Hb HZ Hc Hd IH IG Fe Ff G2 G3 G4 Fg Fh Fi Dp D1 Eh Ei Ej Em En Eo (aD XV yI) n16 V7 x17 T7 y) (AK ((n39 : Int) - 1) ∧ Pq p39 fun Pa o48 => In (((n39 : Int) - 1)) (n39 : Int) ∧ LI .u64 y Pa ((o48 + Int.toNat ((n39 : Int) - 1) * 2) + 1) fun x50 => Br (x50 = 9218868437227405314) (LZ R (aD JU WB) Fc FK HC GH GI GJ Ha Fs Hb HZ Hc Hd IH IG Fe Ff G2 G3 G4 Fg Fh Fi Dp D1 Eh Ei Ej Em En Eo (aD XV yI) n16 V7 x17 T7 y) (Spec prog 142 #[.slice GH GI GJ, .slice yJ yK yL] y (AA R (CB fun t58 AF => Bn t58 (LZ R (aD JU WB) Fc FK HC GH GI GJ Ha Fs Hb HZ Hc Hd IH IG Fe Ff G2 G3 G4 Fg Fh Fi Dp D1 Eh Ei Ej Em En Eo (aD XV yI) n16 V7 x17 T7 AF) (AK ((n39 : Int) - 1) ∧ In (((n39 : Int) - 1)) (n39 : Int) ∧ LI .u64 AF Pa ((o48 + Int.toNat ((n39 : Int) - 1) * 2) + 1) fun x71 => Al AF fun xt => AJ prog (Builtin.append_ #[67, 67] 67 #[.slice Eh Ei Ej, (.slice (aD xt 0) 1 1)]) (Hp.set AF xt (.cells #[.slice yJ yK yL, .int .u64 x71] 71 (0, 0))) (CS fun xu xv c74 AH => LZ R (aD JU WB) Fc FK HC GH GI GJ Ha Fs Hb HZ Hc Hd IH IG Fe Ff G2 G3 G4 Fg Fh Fi Dp D1 xu xv c74 Em En Eo (aD XV yI) n16 V7 x17 T7 AH))))))))) (R (.returned (.tuple #[.agg #[.int .i64 Dp, .int .u64 D1, .slice Eh Ei Ej, .slice Em En Eo], .int .i64 0])) σ)) : A0 R q0 Fc FK HC GH GI GJ Ha Fs Hb HZ Hc Hd IH IG Fe Ff G2 G3 G4 Fg Fh Fi Dp D1 Eh Ei Ej Em En Eo Z5 n16 V7 x17 T7 σ := M.of3 h ok rfl fun _ _ _ => by kernel_rfl
theorem Ij (h : AK (T7 + 1) ∧ A0 R q0 Fc FK HC GH GI GJ Ha Fs Hb HZ Hc Hd IH IG Fe Ff G2 G3 G4 Fg Fh Fi Dp D1 Eh Ei Ej Em En Eo Z5 n16 V7 x17 (T7 + 1) σ) : LZ R q0 Fc FK HC GH GI GJ Ha Fs Hb HZ Hc Hd IH IG Fe Ff G2 G3 G4 Fg Fh Fi Dp D1 Eh Ei Ej Em En Eo Z5 n16 V7 x17 T7 σ := M.of3 h ok rfl fun _ _ _ => by kernel_rfl
end Ad
namespace AS
variable {q0 DS Da p2 GH HZ G2 Fg Eh Em OL aT kx LD uM : Option Addr} {DP CF DQ DT Ct CK Fc FK Ha Fs Hb IG Fe Ff Dp D1 II CL jr VR : Int} {DR HC : ByteArray} {DU DV DW Db n2 c2 GI GJ Hc Hd G3 G4 Fh Fi Ei Ej En Eo n21 MR aU aV ky kz n11 LF n46 qW : Nat} {Cu IH : Bool}
def M : Fw := ⟨prog, 102, f102, [141, 142, 143], [4, 6, 8, 10, 13], false, [], [], [(232, [(0, wQ), (4, .X 36 [.I .i64, .I .i64, .T, .L, .I .i64, .I .i64, .I .i64, .L, .B, .I .i64]), (6, .X 93 [.I .i64, .I .u64, .L, .L]), (8, .X 93 [.I .i64, .I .u64, .L, .L]), (21, wL), (22, wI), (23, wI)]), (239208, [(0, wQ), (4, .X 36 [.I .i64, .I .i64, .T, .L, .I .i64, .I .i64, .I .i64, .L, .B, .I .i64]), (6, .X 93 [.I .i64, .I .u64, .L, .L]), (8, .X 93 [.I .i64, .I .u64, .L, .L]), (10, .X 40 [.L, .L]), (11, wL), (21, wL), (22, wI), (23, wI), (46, wL), (47, wI), (48, wI)]), (935, [(0, wQ), (4, .X 36 [.I .i64, .I .i64, .T, .L, .I .i64, .I .i64, .I .i64, .L, .B, .I .i64]), (6, .X 93 [.I .i64, .I .u64, .L, .L]), (8, .X 93 [.I .i64, .I .u64, .L, .L]), (21, wL), (22, wI), (23, wI)]), (956839, [(0, wQ), (4, .X 36 [.I .i64, .I .i64, .T, .L, .I .i64, .I .i64, .I .i64, .L, .B, .I .i64]), (6, .X 93 [.I .i64, .I .u64, .L, .L]), (8, .X 93 [.I .i64, .I .u64, .L, .L]), (10, .X 40 [.L, .L]), (11, wL), (21, wL), (22, wI), (23, wI), (46, wL), (47, wI), (48, wI)])]⟩
theorem ok : M.Ok := ⟨.cons call141 (.cons call142 (.cons call143 (AG.nil))), mixed, func102, by kernel_rfl⟩
def A0 := M.pt 0
def TF := M.pt 1
def Lf := M.pt 2
def qd := M.pt 3
theorem start (h : ∀ b4 : Nat, ∀ b6 : Nat, Spec prog 143 #[.int .i64 DQ] σ (AA R (CI .u64 fun x16 y => ∀ b8 : Nat, Pq q0 fun C4 jj => LS y C4 jj fun OL n21 MR => A0 R (aD C4 jj) DP CF DR DS DU DV DQ DT Ct Da DW Db Cu CK 0 0 none 0 0 none 0 0 3 x16 none 0 0 none 0 0 OL n21 MR (n21 : Int) 0 y))) : Spec prog 102 #[.pointer q0, .agg #[.int .i64 DP, .int .i64 CF, .string DR, .slice DS DU DV, .int .i64 DQ, .int .i64 DT, .int .i64 Ct, .slice Da DW Db, .bool Cu, .int .i64 CK], .slice p2 n2 c2] σ R := M.start h ok
theorem Aa (h : Br (CL < II) (Pq OL fun JU WB => In CL (n21 : Int) ∧ ∃ ADo ADp ADq yM yN yO, Au σ JU (WB + Int.toNat CL * 2) [.slice ADo ADp ADq, .slice yM yN yO] ∧ ∀ CR : Nat, Pq q0 fun XW o30 => LI .i64 σ XW (o30 + 1) fun kG => AK (kG - Fs) ∧ AK ((kG - Fs) - Ha) ∧ LI .i64 σ XW (o30 + 1) fun W6 => AK (W6 - Fs) ∧ Spec prog 141 #[.slice yM yN yO, (.int .i64 ((kG - Fs) - Ha)), (.int .i64 (W6 - Fs))] σ (AA R (CS fun uM n46 qW y => TF R (aD XW o30) Fc FK HC GH GI GJ Ha Fs Hb HZ Hc Hd IH IG Fe Ff G2 G3 G4 Fg Fh Fi Dp D1 Eh Ei Ej Em En Eo ADo ADp ADq yM yN yO none 0 0 (aD JU WB) n21 MR II CL uM n46 qW (n46 : Int) 0 y))) (R (.returned (.tuple #[.agg #[.int .i64 Dp, .int .u64 D1, .slice Eh Ei Ej, .slice Em En Eo], .int .i64 0])) σ)) : A0 R q0 Fc FK HC GH GI GJ Ha Fs Hb HZ Hc Hd IH IG Fe Ff G2 G3 G4 Fg Fh Fi Dp D1 Eh Ei Ej Em En Eo OL n21 MR II CL σ := M.of3 h ok rfl fun _ _ _ => by kernel_rfl
theorem P6 (h : Br (VR < jr) (Pq uM fun VH o50 => In VR (n46 : Int) ∧ ∃ AJ9 yP, Au σ VH (o50 + Int.toNat VR * 2) [.int .i64 AJ9, .int .u64 yP] ∧ ∀ C7 : Nat, Br (yP ≠ 9218868437227405314) (Al σ fun b58 => AJ prog (Builtin.append_ #[187, 187] 187 #[.slice LD n11 LF, (.slice (aD b58 0) 1 1)]) (Hp.set σ b58 (.cells #[.int .u64 yP] 48 (0, 0))) (CS fun sq n59 su y => qd R q0 Fc FK HC GH GI GJ Ha Fs Hb HZ Hc Hd IH IG Fe Ff G2 G3 G4 Fg Fh Fi Dp D1 Eh Ei Ej Em En Eo aT aU aV kx ky kz sq n59 su OL n21 MR II CL (aD VH o50) n46 qW jr VR y)) (qd R q0 Fc FK HC GH GI GJ Ha Fs Hb HZ Hc Hd IH IG Fe Ff G2 G3 G4 Fg Fh Fi Dp D1 Eh Ei Ej Em En Eo aT aU aV kx ky kz LD n11 LF OL n21 MR II CL (aD VH o50) n46 qW jr VR σ)) (Br (0 < (n11 : Int)) (Spec prog 142 #[.slice GH GI GJ, .slice aT aU aV] σ (AA R (CB fun t69 y => Bo t69 (Al y fun b77 => AJ prog (Builtin.append_ #[91, 91] 91 #[.slice Em En Eo, (.slice (aD b77 0) 1 1)]) (Hp.set y b77 (.cells #[.slice aT aU aV, .slice LD n11 LF] 189 (0, 0))) (CS fun iG VI iH AF => Lf R q0 Fc FK HC GH GI GJ Ha Fs Hb HZ Hc Hd IH IG Fe Ff G2 G3 G4 Fg Fh Fi Dp D1 Eh Ei Ej iG VI iH OL n21 MR II CL AF)) (Lf R q0 Fc FK HC GH GI GJ Ha Fs Hb HZ Hc Hd IH IG Fe Ff G2 G3 G4 Fg Fh Fi Dp D1 Eh Ei Ej Em En Eo OL n21 MR II CL y)))) (Lf R q0 Fc FK HC GH GI GJ Ha Fs Hb HZ Hc Hd IH IG Fe Ff G2 G3 G4 Fg Fh Fi Dp D1 Eh Ei Ej Em En Eo OL n21 MR II CL σ))) : TF R q0 Fc FK HC GH GI GJ Ha Fs Hb HZ Hc Hd IH IG Fe Ff G2 G3 G4 Fg Fh Fi Dp D1 Eh Ei Ej Em En Eo aT aU aV kx ky kz LD n11 LF OL n21 MR II CL uM n46 qW jr VR σ := M.of4 h ok rfl fun _ _ _ _ => by kernel_rfl
theorem Im (h : AK (CL + 1) ∧ A0 R q0 Fc FK HC GH GI GJ Ha Fs Hb HZ Hc Hd IH IG Fe Ff G2 G3 G4 Fg Fh Fi Dp D1 Eh Ei Ej Em En Eo OL n21 MR II (CL + 1) σ) : Lf R q0 Fc FK HC GH GI GJ Ha Fs Hb HZ Hc Hd IH IG Fe Ff G2 G3 G4 Fg Fh Fi Dp D1 Eh Ei Ej Em En Eo OL n21 MR II CL σ := M.of3 h ok rfl fun _ _ _ => by kernel_rfl
theorem qe (h : AK (VR + 1) ∧ TF R q0 Fc FK HC GH GI GJ Ha Fs Hb HZ Hc Hd IH IG Fe Ff G2 G3 G4 Fg Fh Fi Dp D1 Eh Ei Ej Em En Eo aT aU aV kx ky kz LD n11 LF OL n21 MR II CL uM n46 qW jr (VR + 1) σ) : qd R q0 Fc FK HC GH GI GJ Ha Fs Hb HZ Hc Hd IH IG Fe Ff G2 G3 G4 Fg Fh Fi Dp D1 Eh Ei Ej Em En Eo aT aU aV kx ky kz LD n11 LF OL n21 MR II CL uM n46 qW jr VR σ := M.of4 h ok rfl fun _ _ _ _ => by kernel_rfl
end AS
namespace FP
variable {Ek EI PU M1 HY I5 DP CF DQ DT Ct CK x7 x8 : Int} {PW DR : ByteArray} {Tu Qq DS Da p6 : Option Addr} {TB Tv P2 Qr DU DV DW Db n6 c6 : Nat} {MO Cu : Bool}
def M : Fw := ⟨prog, 122, f122, [126], [1], false, [], [], [(104, [(1, .X 36 [.I .i64, .I .i64, .T, .L, .I .i64, .I .i64, .I .i64, .L, .B, .I .i64]), (6, wL), (7, wI), (8, wI)])]⟩
theorem ok : M.Ok := ⟨.cons call126 (AG.nil), mixed, func122, by kernel_rfl⟩
def HX := M.pt 0
theorem start (h : ∀ b1 : Nat, HX R Ek EI PW Tu TB Tv PU M1 HY Qq P2 Qr MO I5 Qq P2 Qr (P2 : Int) 0 σ) : Spec prog 122 #[.agg #[.int .i64 Ek, .int .i64 EI, .string PW, .slice Tu TB Tv, .int .i64 PU, .int .i64 M1, .int .i64 HY, .slice Qq P2 Qr, .bool MO, .int .i64 I5]] σ R := M.start h ok
theorem BY (h : Br (x8 < x7) (Pq p6 fun CR fN => In x8 (n6 : Int) ∧ LT σ CR (fN + Int.toNat x8 * 1) fun s11 => Spec prog 126 #[.string s11] σ (AA R (CB fun t13 y => Bn t13 (R (.returned (.bool false)) y) (AK (x8 + 1) ∧ HX R DP CF DR DS DU DV DQ DT Ct Da DW Db Cu CK (aD CR fN) n6 c6 x7 (x8 + 1) y)))) (Br ((DW : Int) = 0) (R (.returned (.bool true)) σ) (R (.returned (.bool (decide (Ct ≠ 0)))) σ))) : HX R DP CF DR DS DU DV DQ DT Ct Da DW Db Cu CK p6 n6 c6 x7 x8 σ := M.hZ h ok rfl fun _ => by kernel_rfl
end FP
namespace DI
variable {Ek EI PU M1 HY I5 : Int} {PW : ByteArray} {Tu Qq p1 : Option Addr} {TB Tv P2 Qr n1 c1 b2 : Nat} {MO : Bool}
def M : Fw := ⟨prog, 127, f127, [], [3], false, [], [], []⟩
theorem ok : M.Ok := ⟨AG.nil, mixed, func127, by kernel_rfl⟩
theorem start (h : ∀ b3 : Nat, LI .i64 σ b2 0 fun x7 => R (.returned (.tuple #[.int .i64 x7, .int .i64 0])) σ) : Spec prog 127 #[.agg #[.int .i64 Ek, .int .i64 EI, .string PW, .slice Tu TB Tv, .int .i64 PU, .int .i64 M1, .int .i64 HY, .slice Qq P2 Qr, .bool MO, .int .i64 I5], .slice p1 n1 c1, (.pointer (aD b2 0))] σ R := M.start h ok
end DI
namespace NH
variable {x0 : Int}
def M : Fw := ⟨prog, 144, f144, [174, 181, 182], [], false, [], [], []⟩
theorem ok : M.Ok := ⟨.cons call174 (.cons call181 (.cons call182 (AG.nil))), mixed, func144, by kernel_rfl⟩
theorem start (h : Spec prog 182 #[.int .u64 x0] σ (AA R (fun z y => ∃ x4, (Value.float .f64 x4) = z ∧ Spec prog 181 #[(Value.float .f64 x4)] y (AA R (fun z AF => ∃ x5, (Value.float .f64 x5) = z ∧ Spec prog 174 #[(Value.float .f64 x5)] AF (AA R (CI .u64 fun x6 AH => R (.returned (.int .u64 x6)) AH))))))) : Spec prog 144 #[.int .u64 x0] σ R := M.start h ok
end NH
namespace FQ
variable {p0 LD : Option Addr} {n0 c0 n11 LF : Nat} {x3 x12 Bl : Int}
def M : Fw := ⟨prog, 151, f151, [186, 201], [], false, [], [], [(232, [(3, wU), (11, wL), (12, wI), (13, wI)])]⟩
theorem ok : M.Ok := ⟨.cons call186 (.cons call201 (AG.nil)), mixed, func151, by kernel_rfl⟩
def A0 := M.pt 0
theorem start (h : Pq p0 fun b7 o7 => In 0 (n0 : Int) ∧ LI .u64 σ b7 o7 fun x8 => Spec prog 186 #[.int .u64 x8] σ (AA R (CI .u64 fun x9 y => ((0 : Int) ≤ 1 ∧ 1 ≤ (n0 : Int)) ∧ A0 R x9 ((IF (aD b7 o7) (1) c0 1)) (n0 - 1) (c0 - 1) ((((n0 - 1) : Nat) : Int)) 0 y))) : Spec prog 151 #[.slice p0 n0 c0] σ R := M.start h ok
theorem Aa (h : Br (Bl < x12) (Pq LD fun b15 o15 => In Bl (n11 : Int) ∧ LI .u64 σ b15 (o15 + Int.toNat Bl * 1) fun x16 => Spec prog 201 #[.int .u64 x3, .int .u64 x16] σ (AA R (CI .u64 fun Ck y => AK (Bl + 1) ∧ A0 R Ck (aD b15 o15) n11 LF x12 (Bl + 1) y))) (R (.returned (.int .u64 x3)) σ)) : A0 R x3 LD n11 LF x12 Bl σ := M.of h ok rfl
end FQ
namespace Ge
variable {p0 : Option Addr} {n0 c0 : Nat}
def M : Fw := ⟨prog, 152, f152, [202], [], false, [], [], []⟩
theorem ok : M.Ok := ⟨.cons call202 (AG.nil), mixed, func152, by kernel_rfl⟩
theorem start (h : Spec prog 202 #[.int .i64 7, .slice p0 n0 c0] σ (AA R (CI .u64 fun x4 y => R (.returned (.int .u64 x4)) y))) : Spec prog 152 #[.slice p0 n0 c0] σ R := M.start h ok
end Ge
namespace O2
variable {Ek EI PU M1 HY I5 x1 x2 : Int} {PW : ByteArray} {Tu Qq : Option Addr} {TB Tv P2 Qr : Nat} {MO : Bool}
def M : Fw := ⟨prog, 156, f156, [203, 204, 205], [3], false, [], [], []⟩
theorem ok : M.Ok := ⟨.cons call203 (.cons call204 (.cons call205 (AG.nil))), mixed, func156, by kernel_rfl⟩
theorem start (h : ∀ b3 : Nat, Spec prog 203 #[.int .i64 EI, .int .u64 x1, .int .u64 x2] σ (AA R (fun z y => ∃ Qk ADr, z = (.tuple #[.int .u64 Qk, .bool ADr]) ∧ Bo ADr (R (.returned (.tuple #[.int .u64 Qk, .bool true])) y) (Spec prog 204 #[.int .i64 EI, .int .u64 x1, .int .u64 x2] y (AA R (fun z AF => ∃ yQ AKD, z = (.tuple #[.bool yQ, .bool AKD]) ∧ Spec prog 205 #[.bool yQ] AF (AA R (CI .u64 fun x31 AH => R (.returned (.tuple #[.int .u64 x31, .bool yQ])) AH)))))))) : Spec prog 156 #[.agg #[.int .i64 Ek, .int .i64 EI, .string PW, .slice Tu TB Tv, .int .i64 PU, .int .i64 M1, .int .i64 HY, .slice Qq P2 Qr, .bool MO, .int .i64 I5], .int .u64 x1, .int .u64 x2] σ R := M.start h ok
end O2
namespace Gf
variable {s0 : ByteArray} {x1 : Int}
def M : Fw := ⟨prog, 173, f173, [214, 215], [], false, [], [], []⟩
theorem ok : M.Ok := ⟨.cons call214 (.cons call215 (AG.nil)), mixed, func173, by kernel_rfl⟩
theorem start (h : Spec prog 214 #[.string s0, .int .i64 x1] σ (AA R (fun z y => ∃ fB fC, z = (.tuple #[fB, fC]) ∧ ∃ t15, YF prog ((do eqGuard .neq 214 (.tmp 14) (.const .nilIface) fC .nilIface; binOp .neq 214 fC .nilIface)) y (.bool t15) ∧ Bo t15 (Spec prog 215 #[(.string (ByteArray.mk #[80, 97, 114, 115, 101, 70, 108, 111, 97, 116])), .string s0, .int .i64 0, .int .i64 x1, fC] y (AA R (fun z AF => ∃ v20, v20 = z ∧ R (.returned (.tuple #[fB, v20])) AF))) (R (.returned (.tuple #[fB, .nilIface])) y)))) : Spec prog 173 #[.string s0, .int .i64 x1] σ R := M.start h ok
end Gf
namespace dI
variable {v0 : Value}
def M : Fw := ⟨prog, 174, f174, [216], [], false, [], [], []⟩
theorem ok : M.Ok := ⟨.cons call216 (AG.nil), mixed, func174, by kernel_rfl⟩
theorem start (h : Spec prog 216 #[v0] σ (AA R (CB fun t4 y => Bo t4 (R (.returned (.int .u64 9221120237041090560)) y) (EN prog 45 #[v0] y (CI .u64 fun x6 AF => R (.returned (.int .u64 x6)) AF))))) : Spec prog 174 #[v0] σ R := M.Dn h ok [(0, .o (.V v0))] rfl rfl (by kernel_rfl)
end dI
namespace Av
variable {p0 : Option Addr} {n0 c0 : Nat} {x1 x8 x9 x10 : Int} {v2 : Value}
def M : Fw := ⟨prog, 175, f175, [], [], false, [], [], [(480, [(0, wL), (1, wI), (2, wV), (8, wI), (9, wI), (10, wI)])]⟩
theorem ok : M.Ok := ⟨AG.nil, mixed, func175, by kernel_rfl⟩
def BT := M.pt 0
theorem start (h : BT R p0 n0 c0 x1 v2 (n0 : Int) 0 (n0 : Int) σ) : Spec prog 175 #[.slice p0 n0 c0, .int .i64 x1, v2] σ R := M.Dn h ok [(0, .o (.L p0 n0 c0)), (1, .o (.I .i64 x1)), (2, .o (.V v2))] rfl rfl (by kernel_rfl)
theorem A5 (h : Br (x9 < x10) (AK (x9 + x10) ∧ Df (IntKind.u64.wrap (x9 + x10)) fun aK => ((0 : Int) ≤ 1 ∧ 1 ≤ ((IntKind.bits .u64 : Nat) : Int)) ∧ Df (aK / 2 ^ Int.toNat 1) fun II => Df (IntKind.i64.wrap II) fun CL => Pq p0 fun W2 pf => In CL (n0 : Int) ∧ ∃ XR Qy, Au σ W2 (pf + Int.toNat CL * 2) [.int .i64 XR, .int .u64 Qy] ∧ ∃ (f30 : Nat) (uZ ua : Array Value), v2 = .func (.func f30) uZ ua ∧ Enters prog f30 ∧ Spec prog f30 (uZ ++ #[.agg #[.int .i64 XR, .int .u64 Qy], .int .i64 x1] ++ ua) σ (AA R (CI .i64 fun T5 y => Br (T5 < 0) (AK (CL + 1) ∧ BT R (aD W2 pf) n0 c0 x1 v2 x8 (CL + 1) x10 y) (BT R (aD W2 pf) n0 c0 x1 v2 x8 x9 CL y)))) (Br (x9 < x8) (Pq p0 fun cb o43 => In x9 (n0 : Int) ∧ ∃ Pe Pf, Au σ cb (o43 + Int.toNat x9 * 2) [.int .i64 Pe, .int .u64 Pf] ∧ ∃ (f46 : Nat) (ub uc : Array Value), v2 = .func (.func f46) ub uc ∧ Enters prog f46 ∧ Spec prog f46 (ub ++ #[.agg #[.int .i64 Pe, .int .u64 Pf], .int .i64 x1] ++ uc) σ (AA R (CI .i64 fun x46 y => R (.returned (.tuple #[.int .i64 x9, (.bool (decide (x46 = 0)))])) y))) (R (.returned (.tuple #[.int .i64 x9, .bool false])) σ))) : BT R p0 n0 c0 x1 v2 x8 x9 x10 σ := M.of h ok rfl
end Av
namespace Xo
variable {x0 x1 : Int}
def M : Fw := ⟨prog, 190, f190, [203], [], false, [], [], []⟩
theorem ok : M.Ok := ⟨.cons call203 (AG.nil), mixed, func190, by kernel_rfl⟩
theorem start (h : Spec prog 203 #[.int .i64 2, .int .u64 x0, .int .u64 x1] σ (AA R (fun z y => ∃ IT Qm, z = (.tuple #[.int .u64 IT, .bool Qm]) ∧ R (.returned (.int .u64 IT)) y))) : Spec prog 190 #[.int .u64 x0, .int .u64 x1] σ R := M.start h ok
end Xo
namespace Dr
variable {p0 : Option Addr} {n0 c0 : Nat} {x3 x4 : Int}
def M : Fw := ⟨prog, 192, f192, [190, 201, 204], [], false, [], [], [(464, [(0, wL), (3, wU), (4, wI)]), (467, [(0, wL), (3, wU), (4, wI)])]⟩
theorem ok : M.Ok := ⟨.cons call190 (.cons call201 (.cons call204 (AG.nil))), mixed, func192, by kernel_rfl⟩
def BT := M.pt 0
def W4 := M.pt 1
theorem start (h : AK ((n0 : Int) - 1) ∧ Pq p0 fun A8 iD => In (((n0 : Int) - 1)) (n0 : Int) ∧ LI .u64 σ A8 (iD + Int.toNat ((n0 : Int) - 1) * 1) fun x12 => In 0 (n0 : Int) ∧ LI .u64 σ A8 iD fun x15 => Spec prog 190 #[.int .u64 x12, .int .u64 x15] σ (AA R (CI .u64 fun x16 y => BT R (aD A8 iD) n0 c0 x16 1 y))) : Spec prog 192 #[.slice p0 n0 c0] σ R := M.start h ok
theorem A5 (h : Br (x4 < (n0 : Int)) (Pq p0 fun k0 oS => In x4 (n0 : Int) ∧ LI .u64 σ k0 (oS + Int.toNat x4 * 1) fun Gu => AK (x4 - 1) ∧ In (x4 - 1) (n0 : Int) ∧ LI .u64 σ k0 (oS + Int.toNat (x4 - 1) * 1) fun kG => Spec prog 204 #[.int .i64 7, .int .u64 Gu, .int .u64 kG] σ (AA R (fun z y => ∃ ADs kH, z = (.tuple #[.bool ADs, .bool kH]) ∧ Bo ADs (AK (x4 - 1) ∧ In (x4 - 1) (n0 : Int) ∧ LI .u64 y k0 (oS + Int.toNat (x4 - 1) * 1) fun W6 => Spec prog 201 #[.int .u64 x3, .int .u64 W6] y (AA R (CI .u64 fun cg AF => W4 R (aD k0 oS) n0 c0 cg x4 AF))) (W4 R (aD k0 oS) n0 c0 x3 x4 y)))) (R (.returned (.int .u64 x3)) σ)) : BT R p0 n0 c0 x3 x4 σ := M.of h ok rfl
theorem P1 (h : AK (x4 + 1) ∧ BT R p0 n0 c0 x3 (x4 + 1) σ) : W4 R p0 n0 c0 x3 x4 σ := M.of h ok rfl
end Dr
namespace JE
variable {ta ZC : ByteArray} {b1 : Nat}
def M : Fw := ⟨prog, 200, f200, [199], [2], false, [], [], []⟩
theorem ok : M.Ok := ⟨.cons call199 (AG.nil), mixed, func200, by kernel_rfl⟩
theorem start (h : ∀ b2 : Nat, LS σ b1 0 fun p4 n4 c4 => Spec prog 199 #[.slice p4 n4 c4, .string ta] σ (AA R (CB fun t7 y => R (.returned (.bool (!t7))) y))) : Spec prog 200 #[.agg #[.string ta, .string ZC], (.pointer (aD b1 0))] σ R := M.start h ok
end JE
namespace FR
variable {s0 : ByteArray} {x3 : Int}
def M : Fw := ⟨prog, 213, f213, [], [], false, [], [], [(224, [(0, wT), (3, wI)])]⟩
theorem ok : M.Ok := ⟨AG.nil, mixed, func213, by kernel_rfl⟩
def I7 := M.pt 0
theorem start (h : I7 R s0 0 σ) : Spec prog 213 #[.string s0] σ R := M.start h ok
theorem BN (h : Br (x3 < ((ByteArray.size s0 : Nat) : Int)) (∃ u11 : UInt8, 0 ≤ x3 ∧ (ByteArray.data s0)[Int.toNat x3]? = some u11 ∧ Br ((48 : Int) ≤ ((UInt8.toNat u11 : Nat) : Int)) (∃ u17 : UInt8, 0 ≤ x3 ∧ (ByteArray.data s0)[Int.toNat x3]? = some u17 ∧ Br ((((UInt8.toNat u17 : Nat) : Int) : Int) ≤ 57) (AK (x3 + 1) ∧ I7 R s0 (x3 + 1) σ) (R (.returned (.int .i64 x3)) σ)) (R (.returned (.int .i64 x3)) σ)) (R (.returned (.int .i64 x3)) σ)) : I7 R s0 x3 σ := M.of h ok rfl
end FR
namespace Dk
variable {TC : Option Addr} {Lp Qw : Nat} {ZC s1 : ByteArray}
def M : Fw := ⟨prog, 220, f220, [236], [2], false, [], [], []⟩
theorem ok : M.Ok := ⟨.cons call236 (AG.nil), mixed, func220, by kernel_rfl⟩
theorem start (h : ∀ b2 : Nat, Spec prog 236 #[.agg #[.slice TC Lp Qw], .string s1] σ (AA R (CB fun t8 y => R (.returned (.bool (!t8))) y))) : Spec prog 220 #[.agg #[.slice TC Lp Qw, .string ZC], .string s1] σ R := M.start h ok
end Dk
namespace Hw
variable {p0 p5 : Option Addr} {n0 c0 n5 c5 : Nat} {x1 x7 : Int} {v6 : Value}
def M : Fw := ⟨prog, 241, f241, [182, 263], [], false, [], [], [(444, [(0, wL), (1, wI), (5, wL), (6, wV), (7, wI)])]⟩
theorem ok : M.Ok := ⟨.cons call182 (.cons call263 (AG.nil)), mixed, func241, by kernel_rfl⟩
def TE := M.pt 0
theorem start (h : Spec prog 263 #[] σ (AA R (CS fun ZB n10 TD y => TE R p0 n0 c0 x1 ZB n10 TD (.complex .f64 0 0) 0 y))) : Spec prog 241 #[.slice p0 n0 c0, .int .i64 x1] σ R := M.start h ok
theorem LJ (h : Br (x7 = (n0 : Int)) (R (.returned v6) σ) (Pq p0 fun Ty aH => In x7 (n0 : Int) ∧ LI .u64 σ Ty (aH + Int.toNat x7 * 1) fun Ck => AK (x1 * x7) ∧ (n0 : Int) ≠ (0 : Int) ∧ Df (Int.tmod (x1 * x7) (n0 : Int)) fun Gu => (n0 : Int) ≠ (0 : Int) ∧ Df (IntKind.i64.wrap (Int.tdiv 8 (n0 : Int))) fun T5 => AK (Gu * T5) ∧ Pq p5 fun b32 o32 => In (Gu * T5) (n5 : Int) ∧ ∃ x33 y33, Hp.ld σ ⟨b32, (o32 + Int.toNat (Gu * T5) * 1), none⟩ = some (Value.complex .f64 x33 y33) ∧ Spec prog 182 #[.int .u64 Ck] σ (AA R (fun z y => ∃ HS, (Value.float .f64 HS) = z ∧ Kp [b32] σ y ∧ ∃ V9, YF prog (Builtin.real_ #[272] 51 #[v6]) y (Value.float .f64 V9) ∧ ∃ tj, YF prog (Builtin.real_ #[272] 51 #[(Value.complex .f64 x33 y33)]) y (Value.float .f64 tj) ∧ AJ prog (binOp .mul 51 (Value.float .f64 HS) (Value.float .f64 tj)) y (fun z AF => ∃ x39, (Value.float .f64 x39) = z ∧ AJ prog (binOp .add 51 (Value.float .f64 V9) (Value.float .f64 x39)) AF (fun z AH => ∃ oP, (Value.float .f64 oP) = z ∧ ∃ W6, YF prog (Builtin.imag_ #[272] 51 #[v6]) AH (Value.float .f64 W6) ∧ ∃ x45, YF prog (Builtin.imag_ #[272] 51 #[(Value.complex .f64 x33 y33)]) AH (Value.float .f64 x45) ∧ AJ prog (binOp .mul 51 (Value.float .f64 HS) (Value.float .f64 x45)) AH (fun z AZ => ∃ x46, (Value.float .f64 x46) = z ∧ AJ prog (binOp .add 51 (Value.float .f64 W6) (Value.float .f64 x46)) AZ (fun z CJ => ∃ jr, (Value.float .f64 jr) = z ∧ ∃ VR y48, YF prog (Builtin.complex_ #[51, 51] 272 #[(Value.float .f64 oP), (Value.float .f64 jr)]) CJ (Value.complex .f64 VR y48) ∧ AK (x7 + 1) ∧ TE R (aD Ty aH) n0 c0 x1 (aD b32 o32) n5 c5 (Value.complex .f64 VR y48) (x7 + 1) CJ)))))))) : TE R p0 n0 c0 x1 p5 n5 c5 v6 x7 σ := M.of h ok rfl
end Hw
namespace Hx
variable {q0 : Option Addr}
def M : Fw := ⟨prog, 250, f250, [66, 133, 135, 136, 137, 138, 267, 268, 269, 270], [2], false, [], [], []⟩
theorem ok : M.Ok := ⟨.cons call66 (.cons call133 (.cons call135 (.cons call136 (.cons call137 (.cons call138 (.cons call267 (.cons call268 (.cons call269 (.cons call270 (AG.nil)))))))))), mixed, func250, by kernel_rfl⟩
theorem start (h : Spec prog 66 #[.pointer q0] σ (AA R (fun z y => ∃ FN GK FO GL, z = (.agg #[.int .i64 FN, .int .i64 GK, .string FO, .int .i64 GL]) ∧ ∀ b2 : Nat, Spec prog 267 #[] y (AA R (CS fun p8 n8 c8 AF => Spec prog 133 #[.slice p8 n8 c8, .string FO] AF (AA R (CI .i64 fun x11 AH => Spec prog 268 #[] AH (AA R (CS fun aO n12 ZF AZ => Spec prog 133 #[.slice aO n12 ZF, .string FO] AZ (AA R (CI .i64 fun x15 CJ => Br (FN = 1) (Spec prog 135 #[.pointer q0] CJ (AA R (fun z EK => ∃ qL fE xq xr, z = (.agg #[.int .i64 qL, .int .i64 fE, .string xq, .int .i64 xr]) ∧ Spec prog 138 #[.pointer q0, .agg #[.int .i64 1, .int .i64 0, .string FO, .slice none 0 0, .int .i64 0, .int .i64 0, .int .i64 0, .slice none 0 0, .bool false, .int .i64 0]] EK (AA R (fun z EM => z = (.tuple #[]) ∧ R (.returned (.tuple #[])) EM))))) (Spec prog 136 #[.pointer q0, .int .i64 5, (.string (ByteArray.mk #[40]))] CJ (AA R (CB fun t31 EK => Bo t31 (Spec prog 269 #[.pointer q0] EK (AA R (fun z EM => z = (.tuple #[]) ∧ R (.returned (.tuple #[])) EM))) (Br (FN = 3) (Br (0 < x11) (Spec prog 135 #[.pointer q0] EK (AA R (fun z EM => ∃ OI Ld OJ AKG, z = (.agg #[.int .i64 OI, .int .i64 Ld, .string OJ, .int .i64 AKG]) ∧ Spec prog 269 #[.pointer q0] EM (AA R (fun z I9 => z = (.tuple #[]) ∧ Spec prog 138 #[.pointer q0, (.agg #[.int .i64 4, .int .i64 x11, (.string (ByteArray.mk #[])), .slice none 0 0, .int .i64 0, .int .i64 0, .int .i64 0, .slice none 0 0, .bool false, .int .i64 1])] I9 (AA R (fun z OF => z = (.tuple #[]) ∧ R (.returned (.tuple #[])) OF))))))) (Br (FN = 3) (Br (0 < x15) (Spec prog 135 #[.pointer q0] EK (AA R (fun z EM => ∃ VC HT yR yS, z = (.agg #[.int .i64 VC, .int .i64 HT, .string yR, .int .i64 yS]) ∧ Al EM fun b5 => AJ prog (Instr.storeAt 36 (.pointer (aD b5 0)) (.agg #[.int .i64 5, .int .i64 x15, (.string (ByteArray.mk #[])), .slice none 0 0, .int .i64 0, .int .i64 0, .int .i64 0, .slice none 0 0, .bool false, .int .i64 1])) (Hp.set EM b5 (.cells #[.int .i64 0, .int .i64 0, (.string (ByteArray.mk #[])), .slice none 0 0, .int .i64 0, .int .i64 0, .int .i64 0, .slice none 0 0, .bool false, .int .i64 0] 36 (0, 0))) (fun _ I9 => Spec prog 137 #[.pointer q0, (.pointer (aD b5 0)), (.agg #[(.string (ByteArray.mk #[98, 121])), (.string (ByteArray.mk #[119, 105, 116, 104, 111, 117, 116]))]), .agg #[.int .i64 1, .int .i64 2]] I9 (AA R (fun z OF => z = (.tuple #[]) ∧ Spec prog 269 #[.pointer q0] OF (AA R (fun z F2 => z = (.tuple #[]) ∧ ∃ Xp Xq Xr Xs Xt Xu Xv Xw Xx Xy Xz X0 X6 X7, Au F2 b5 0 [.int .i64 Xp, .int .i64 Xq, .string Xr, .slice Xs Xt Xu, .int .i64 Xv, .int .i64 Xw, .int .i64 Xx, .slice Xy Xz X0, .bool X6, .int .i64 X7] ∧ Spec prog 138 #[.pointer q0, .agg #[.int .i64 Xp, .int .i64 Xq, .string Xr, .slice Xs Xt Xu, .int .i64 Xv, .int .i64 Xw, .int .i64 Xx, .slice Xy Xz X0, .bool X6, .int .i64 X7]] F2 (AA R (fun z OG => z = (.tuple #[]) ∧ R (.returned (.tuple #[])) OG)))))))))) (Spec prog 270 #[.pointer q0] EK (AA R (fun z EM => z = (.tuple #[]) ∧ R (.returned (.tuple #[])) EM)))) (Spec prog 270 #[.pointer q0] EK (AA R (fun z EM => z = (.tuple #[]) ∧ R (.returned (.tuple #[])) EM))))) (Br (FN = 3) (Br (0 < x15) (Spec prog 135 #[.pointer q0] EK (AA R (fun z EM => ∃ VC HT yR yS, z = (.agg #[.int .i64 VC, .int .i64 HT, .string yR, .int .i64 yS]) ∧ Al EM fun b5 => AJ prog (Instr.storeAt 36 (.pointer (aD b5 0)) (.agg #[.int .i64 5, .int .i64 x15, (.string (ByteArray.mk #[])), .slice none 0 0, .int .i64 0, .int .i64 0, .int .i64 0, .slice none 0 0, .bool false, .int .i64 1])) (Hp.set EM b5 (.cells #[.int .i64 0, .int .i64 0, (.string (ByteArray.mk #[])), .slice none 0 0, .int .i64 0, .int .i64 0, .int .i64 0, .slice none 0 0, .bool false, .int .i64 0] 36 (0, 0))) (fun _ I9 => Spec prog 137 #[.pointer q0, (.pointer (aD b5 0)), (.agg #[(.string (ByteArray.mk #[98, 121])), (.string (ByteArray.mk #[119, 105, 116, 104, 111, 117, 116]))]), .agg #[.int .i64 1, .int .i64 2]] I9 (AA R (fun z OF => z = (.tuple #[]) ∧ Spec prog 269 #[.pointer q0] OF (AA R (fun z F2 => z = (.tuple #[]) ∧ ∃ Xp Xq Xr Xs Xt Xu Xv Xw Xx Xy Xz X0 X6 X7, Au F2 b5 0 [.int .i64 Xp, .int .i64 Xq, .string Xr, .slice Xs Xt Xu, .int .i64 Xv, .int .i64 Xw, .int .i64 Xx, .slice Xy Xz X0, .bool X6, .int .i64 X7] ∧ Spec prog 138 #[.pointer q0, .agg #[.int .i64 Xp, .int .i64 Xq, .string Xr, .slice Xs Xt Xu, .int .i64 Xv, .int .i64 Xw, .int .i64 Xx, .slice Xy Xz X0, .bool X6, .int .i64 X7]] F2 (AA R (fun z OG => z = (.tuple #[]) ∧ R (.returned (.tuple #[])) OG)))))))))) (Spec prog 270 #[.pointer q0] EK (AA R (fun z EM => z = (.tuple #[]) ∧ R (.returned (.tuple #[])) EM)))) (Spec prog 270 #[.pointer q0] EK (AA R (fun z EM => z = (.tuple #[]) ∧ R (.returned (.tuple #[])) EM))))))))))))))))))) : Spec prog 250 #[.pointer q0] σ R := M.start h ok
end Hx
namespace strings_Index
variable {s0 s1 : ByteArray}
end strings_Index
namespace Ry
def M : Fw := ⟨prog, 268, f268, [], [], false, [], [], []⟩
theorem ok : M.Ok := ⟨AG.nil, mixed, func268, by kernel_rfl⟩
theorem start (h : Al σ fun b1 => R (.returned (.slice (aD b1 0) 6 6)) (Hp.set σ b1 (.cells #[(.string (ByteArray.mk #[])), (.string (ByteArray.mk #[115, 117, 109])), (.string (ByteArray.mk #[109, 105, 110])), (.string (ByteArray.mk #[109, 97, 120])), (.string (ByteArray.mk #[97, 118, 103])), (.string (ByteArray.mk #[99, 111, 117, 110, 116]))] 9 (0, 0)))) : Spec prog 268 #[] σ R := M.start h ok
end Ry
namespace AE
variable {s0 : ByteArray} {x2 x3 x7 x10 x11 x12 x15 x16 x17 Ck HS : Int} {t4 t5 t6 t8 t9 t13 t14 : Bool}
def M : Fw := ⟨prog, 272, f272, [302, 303], [], false, [], [], [(110, [(0, wT), (2, wU), (3, wI), (4, wB), (5, wB), (6, wB), (7, wI), (8, wB), (9, wB)]), (1790, [(0, wT), (2, wU), (3, wI), (4, wB), (5, wB), (6, wB), (7, wI), (8, wB), (9, wB), (10, wU), (11, wI), (12, w8)]), (1834976, [(0, wT), (2, wU), (3, wI), (4, wB), (5, wB), (6, wB), (7, wI), (8, wB), (9, wB), (10, wU), (11, wI), (12, w8), (13, wB), (14, wB), (15, wI), (16, wI), (17, wI)]), (458748, [(0, wT), (2, wU), (3, wI), (4, wB), (5, wB), (6, wB), (7, wI), (8, wB), (9, wB), (10, wU), (12, w8), (13, wB), (14, wB), (15, wI), (16, wI), (17, wI)]), (1835004, [(0, wT), (2, wU), (3, wI), (4, wB), (5, wB), (6, wB), (7, wI), (8, wB), (9, wB), (10, wU), (12, w8), (16, wI), (17, wI)]), (3670012, [(0, wT), (2, wU), (3, wI), (4, wB), (5, wB), (6, wB), (7, wI), (8, wB), (9, wB), (10, wU), (12, w8), (16, wI), (17, wI)]), (7340028, [(0, wT), (2, wU), (3, wI), (4, wB), (5, wB), (6, wB), (7, wI), (8, wB), (9, wB), (16, wI), (17, wI)]), (14680060, [(0, wT), (2, wU), (3, wI), (4, wB), (5, wB), (6, wB), (7, wI), (8, wB), (9, wB)]), (469761724, [(0, wT), (2, wU), (3, wI), (4, wB), (5, wB), (6, wB), (7, wI), (8, wB), (9, wB), (16, wI), (17, wI), (19, wI)]), (15032375264, [(0, wT), (2, wU), (3, wI), (4, wB), (5, wB), (6, wB), (7, wI), (8, wB), (9, wB), (16, wI), (17, wI), (19, wI), (20, wI)]), (15032375267, [(0, wT), (2, wU), (3, wI), (4, wB), (5, wB), (6, wB), (7, wI), (8, wB), (9, wB), (16, wI), (17, wI), (19, wI), (20, wI)]), (1834979, [(0, wT), (2, wU), (3, wI), (4, wB), (5, wB), (6, wB), (7, wI), (8, wB), (9, wB), (10, wU), (11, wI), (12, w8), (13, wB), (14, wB), (15, wI), (16, wI), (17, wI)])]⟩
theorem ok : M.Ok := ⟨.cons call302 (.cons call303 (AG.nil)), mixed, func272, by kernel_rfl⟩
def TF := M.pt 0
def Lf := M.pt 1
def k8 := M.pt 2
def NI := M.pt 3
def dJ := M.pt 4
def k9 := M.pt 5
def lA := M.pt 6
def lB := M.pt 7
def lC := M.pt 8
def FT := M.pt 11
theorem start (h : Br ((((ByteArray.size s0 : Nat) : Int) : Int) ≤ 0) (R (.returned (.tuple #[.int .u64 0, .int .i64 0, .bool false, .bool false, .bool false, .int .i64 0, .bool false])) σ) (∃ u27 : UInt8, (0 : Int) ≤ 0 ∧ (ByteArray.data s0)[Int.toNat 0]? = some u27 ∧ Br ((((UInt8.toNat u27 : Nat) : Int) : Int) = 43) (AK (0 + 1) ∧ TF R s0 0 0 false false false (0 + 1) false false σ) (Br ((((UInt8.toNat u27 : Nat) : Int) : Int) = 45) (AK (0 + 1) ∧ TF R s0 0 0 true false false (0 + 1) false false σ) (TF R s0 0 0 false false false 0 false false σ)))) : Spec prog 272 #[.string s0] σ R := M.start h ok
theorem P6 (h : AK (x7 + 2) ∧ Br (((x7 + 2) : Int) < ((ByteArray.size s0 : Nat) : Int)) (∃ u44 : UInt8, 0 ≤ x7 ∧ (ByteArray.data s0)[Int.toNat x7]? = some u44 ∧ Br ((((UInt8.toNat u44 : Nat) : Int) : Int) = 48) (AK (x7 + 1) ∧ ∃ u51 : UInt8, (0 : Int) ≤ (x7 + 1) ∧ (ByteArray.data s0)[Int.toNat (x7 + 1)]? = some u51 ∧ Spec prog 302 #[(.int .u8 ((UInt8.toNat u51 : Nat) : Int))] σ (AA R (CI .u8 fun qG y => Br (qG = 120) (AK (x7 + 2) ∧ Lf R s0 x2 x3 t4 t5 true (x7 + 2) t8 t9 16 16 112 y) (Lf R s0 x2 x3 t4 t5 t6 x7 t8 t9 10 19 101 y)))) (Lf R s0 x2 x3 t4 t5 t6 x7 t8 t9 10 19 101 σ)) (Lf R s0 x2 x3 t4 t5 t6 x7 t8 t9 10 19 101 σ)) : TF R s0 x2 x3 t4 t5 t6 x7 t8 t9 σ := M.of h ok rfl
theorem Im (h : k8 R s0 x2 x3 t4 t5 t6 x7 t8 t9 x10 x11 x12 false false 0 0 0 σ) : Lf R s0 x2 x3 t4 t5 t6 x7 t8 t9 x10 x11 x12 σ := M.of h ok rfl
theorem dK (h : Br (x7 < ((ByteArray.size s0 : Nat) : Int)) (∃ ZG : UInt8, 0 ≤ x7 ∧ (ByteArray.data s0)[Int.toNat x7]? = some ZG ∧ Br ((((UInt8.toNat ZG : Nat) : Int) : Int) = 95) (FT R s0 x2 x3 t4 t5 t6 x7 t8 true x10 x11 x12 t13 t14 x15 x16 x17 σ) (Br ((((UInt8.toNat ZG : Nat) : Int) : Int) = 46) (Bo t13 (NI R s0 x2 x3 t4 t5 t6 x7 t8 t9 x10 x12 true t14 x15 x16 x17 σ) (FT R s0 x2 x3 t4 t5 t6 x7 t8 t9 x10 x11 x12 true t14 x15 x16 x15 σ)) (Br ((48 : Int) ≤ ((UInt8.toNat ZG : Nat) : Int)) (Br ((((UInt8.toNat ZG : Nat) : Int) : Int) ≤ 57) (Br ((((UInt8.toNat ZG : Nat) : Int) : Int) = 48) (Br (x15 = 0) (AK (x17 - 1) ∧ FT R s0 x2 x3 t4 t5 t6 x7 t8 t9 x10 x11 x12 t13 true x15 x16 (x17 - 1) σ) (AK (x15 + 1) ∧ Br (x16 < x11) (Df (IntKind.u64.wrap (x2 * x10)) fun x99 => Df (IntKind.u8.wrap (((UInt8.toNat ZG : Nat) : Int) - 48)) fun fO => Df (IntKind.u64.wrap fO) fun fP => Df (IntKind.u64.wrap (x99 + fP)) fun aW => AK (x16 + 1) ∧ FT R s0 aW x3 t4 t5 t6 x7 t8 t9 x10 x11 x12 t13 true (x15 + 1) (x16 + 1) x17 σ) (Br ((((UInt8.toNat ZG : Nat) : Int) : Int) ≠ 48) (FT R s0 x2 x3 t4 true t6 x7 t8 t9 x10 x11 x12 t13 true (x15 + 1) x16 x17 σ) (FT R s0 x2 x3 t4 t5 t6 x7 t8 t9 x10 x11 x12 t13 true (x15 + 1) x16 x17 σ)))) (AK (x15 + 1) ∧ Br (x16 < x11) (Df (IntKind.u64.wrap (x2 * x10)) fun x99 => Df (IntKind.u8.wrap (((UInt8.toNat ZG : Nat) : Int) - 48)) fun fO => Df (IntKind.u64.wrap fO) fun fP => Df (IntKind.u64.wrap (x99 + fP)) fun aW => AK (x16 + 1) ∧ FT R s0 aW x3 t4 t5 t6 x7 t8 t9 x10 x11 x12 t13 true (x15 + 1) (x16 + 1) x17 σ) (Br ((((UInt8.toNat ZG : Nat) : Int) : Int) ≠ 48) (FT R s0 x2 x3 t4 true t6 x7 t8 t9 x10 x11 x12 t13 true (x15 + 1) x16 x17 σ) (FT R s0 x2 x3 t4 t5 t6 x7 t8 t9 x10 x11 x12 t13 true (x15 + 1) x16 x17 σ)))) (Br (x10 = 16) (Spec prog 302 #[(.int .u8 ((UInt8.toNat ZG : Nat) : Int))] σ (AA R (CI .u8 fun kv y => Br (97 ≤ kv) (Spec prog 302 #[(.int .u8 ((UInt8.toNat ZG : Nat) : Int))] y (AA R (CI .u8 fun ku AF => Br (ku ≤ 102) (AK (x15 + 1) ∧ Br (x16 < x11) (Df (IntKind.u64.wrap (x2 * 16)) fun yT => Spec prog 302 #[(.int .u8 ((UInt8.toNat ZG : Nat) : Int))] AF (AA R (CI .u8 fun yU AH => Df (IntKind.u8.wrap (yU - 97)) fun yV => Df (IntKind.u8.wrap (yV + 10)) fun yW => Df (IntKind.u64.wrap yW) fun yX => Df (IntKind.u64.wrap (yT + yX)) fun yY => AK (x16 + 1) ∧ FT R s0 yY x3 t4 t5 t6 x7 t8 t9 x10 x11 x12 t13 true (x15 + 1) (x16 + 1) x17 AH))) (FT R s0 x2 x3 t4 true t6 x7 t8 t9 x10 x11 x12 t13 true (x15 + 1) x16 x17 AF)) (NI R s0 x2 x3 t4 t5 t6 x7 t8 t9 x10 x12 t13 t14 x15 x16 x17 AF)))) (NI R s0 x2 x3 t4 t5 t6 x7 t8 t9 x10 x12 t13 t14 x15 x16 x17 y)))) (NI R s0 x2 x3 t4 t5 t6 x7 t8 t9 x10 x12 t13 t14 x15 x16 x17 σ))) (Br (x10 = 16) (Spec prog 302 #[(.int .u8 ((UInt8.toNat ZG : Nat) : Int))] σ (AA R (CI .u8 fun kv y => Br (97 ≤ kv) (Spec prog 302 #[(.int .u8 ((UInt8.toNat ZG : Nat) : Int))] y (AA R (CI .u8 fun ku AF => Br (ku ≤ 102) (AK (x15 + 1) ∧ Br (x16 < x11) (Df (IntKind.u64.wrap (x2 * 16)) fun yT => Spec prog 302 #[(.int .u8 ((UInt8.toNat ZG : Nat) : Int))] AF (AA R (CI .u8 fun yU AH => Df (IntKind.u8.wrap (yU - 97)) fun yV => Df (IntKind.u8.wrap (yV + 10)) fun yW => Df (IntKind.u64.wrap yW) fun yX => Df (IntKind.u64.wrap (yT + yX)) fun yY => AK (x16 + 1) ∧ FT R s0 yY x3 t4 t5 t6 x7 t8 t9 x10 x11 x12 t13 true (x15 + 1) (x16 + 1) x17 AH))) (FT R s0 x2 x3 t4 true t6 x7 t8 t9 x10 x11 x12 t13 true (x15 + 1) x16 x17 AF)) (NI R s0 x2 x3 t4 t5 t6 x7 t8 t9 x10 x12 t13 t14 x15 x16 x17 AF)))) (NI R s0 x2 x3 t4 t5 t6 x7 t8 t9 x10 x12 t13 t14 x15 x16 x17 y)))) (NI R s0 x2 x3 t4 t5 t6 x7 t8 t9 x10 x12 t13 t14 x15 x16 x17 σ))))) (NI R s0 x2 x3 t4 t5 t6 x7 t8 t9 x10 x12 t13 t14 x15 x16 x17 σ)) : k8 R s0 x2 x3 t4 t5 t6 x7 t8 t9 x10 x11 x12 t13 t14 x15 x16 x17 σ := M.of h ok rfl
theorem lD (h : Bn t14 (R (.returned (.tuple #[.int .u64 x2, .int .i64 x3, .bool t4, .bool t5, .bool t6, .int .i64 x7, .bool t8])) σ) (Bn t13 (dJ R s0 x2 x3 t4 t5 t6 x7 t8 t9 x10 x12 x16 x15 σ) (dJ R s0 x2 x3 t4 t5 t6 x7 t8 t9 x10 x12 x16 x17 σ))) : NI R s0 x2 x3 t4 t5 t6 x7 t8 t9 x10 x12 t13 t14 x15 x16 x17 σ := M.of h ok rfl
theorem lE (h : Br (x10 = 16) (AK (x17 * 4) ∧ AK (x16 * 4) ∧ k9 R s0 x2 x3 t4 t5 t6 x7 t8 t9 x10 x12 (x16 * 4) (x17 * 4) σ) (k9 R s0 x2 x3 t4 t5 t6 x7 t8 t9 x10 x12 x16 x17 σ)) : dJ R s0 x2 x3 t4 t5 t6 x7 t8 t9 x10 x12 x16 x17 σ := M.of h ok rfl
theorem lF (h : Br (x7 < ((ByteArray.size s0 : Nat) : Int)) (∃ ADt : UInt8, 0 ≤ x7 ∧ (ByteArray.data s0)[Int.toNat x7]? = some ADt ∧ Spec prog 302 #[(.int .u8 ((UInt8.toNat ADt : Nat) : Int))] σ (AA R (CI .u8 fun AKI y => Br (AKI = x12) (AK (x7 + 1) ∧ Br ((((ByteArray.size s0 : Nat) : Int) : Int) ≤ (x7 + 1)) (R (.returned (.tuple #[.int .u64 x2, .int .i64 x3, .bool t4, .bool t5, .bool t6, (.int .i64 (x7 + 1)), .bool t8])) y) (∃ yZ : UInt8, (0 : Int) ≤ (x7 + 1) ∧ (ByteArray.data s0)[Int.toNat (x7 + 1)]? = some yZ ∧ Br ((((UInt8.toNat yZ : Nat) : Int) : Int) = 43) (AK ((x7 + 1) + 1) ∧ lC R s0 x2 x3 t4 t5 t6 (((x7 + 1) + 1)) t8 t9 x16 x17 1 y) (Br ((((UInt8.toNat yZ : Nat) : Int) : Int) = 45) (AK ((x7 + 1) + 1) ∧ lC R s0 x2 x3 t4 t5 t6 (((x7 + 1) + 1)) t8 t9 x16 x17 (-1) y) (lC R s0 x2 x3 t4 t5 t6 (x7 + 1) t8 t9 x16 x17 1 y)))) (Br (x10 = 16) (R (.returned (.tuple #[.int .u64 x2, .int .i64 x3, .bool t4, .bool t5, .bool t6, .int .i64 x7, .bool t8])) y) (lA R s0 x2 x3 t4 t5 t6 x7 t8 t9 x16 x17 y))))) (Br (x10 = 16) (R (.returned (.tuple #[.int .u64 x2, .int .i64 x3, .bool t4, .bool t5, .bool t6, .int .i64 x7, .bool t8])) σ) (lA R s0 x2 x3 t4 t5 t6 x7 t8 t9 x16 x17 σ))) : k9 R s0 x2 x3 t4 t5 t6 x7 t8 t9 x10 x12 x16 x17 σ := M.of h ok rfl
theorem lG (h : Br (x2 ≠ 0) (AK (x17 - x16) ∧ lB R s0 x2 (x17 - x16) t4 t5 t6 x7 t8 t9 σ) (lB R s0 x2 x3 t4 t5 t6 x7 t8 t9 σ)) : lA R s0 x2 x3 t4 t5 t6 x7 t8 t9 x16 x17 σ := M.of h ok rfl
theorem X8 (h : Bo t9 (∃ ADu, YF prog (Instr.sliceAt 9 (.string s0) none (some (.int .i64 x7)) none) σ (.string ADu) ∧ Spec prog 303 #[.string ADu] σ (AA R (CB fun t250 y => Bn t250 (R (.returned (.tuple #[.int .u64 x2, .int .i64 x3, .bool t4, .bool t5, .bool t6, .int .i64 x7, .bool t8])) y) (R (.returned (.tuple #[.int .u64 x2, .int .i64 x3, .bool t4, .bool t5, .bool t6, .int .i64 x7, .bool true])) y)))) (R (.returned (.tuple #[.int .u64 x2, .int .i64 x3, .bool t4, .bool t5, .bool t6, .int .i64 x7, .bool true])) σ)) : lB R s0 x2 x3 t4 t5 t6 x7 t8 t9 σ := M.of h ok rfl
theorem lH (h : AK (x7 + 1) ∧ k8 R s0 x2 x3 t4 t5 t6 (x7 + 1) t8 t9 x10 x11 x12 t13 t14 x15 x16 x17 σ) : FT R s0 x2 x3 t4 t5 t6 x7 t8 t9 x10 x11 x12 t13 t14 x15 x16 x17 σ := M.of h ok rfl
end AE
namespace Gg
variable {s0 : ByteArray} {t4 : Bool}
def M : Fw := ⟨prog, 295, f295, [133, 267, 268], [], false, [], [], [(53, [(0, wT), (4, wB)])]⟩
theorem ok : M.Ok := ⟨.cons call133 (.cons call267 (.cons call268 (AG.nil))), mixed, func295, by kernel_rfl⟩
def Hu := M.pt 0
theorem start (h : Bo ((ByteArray.toList s0 == ByteArray.toList (ByteArray.mk #[111, 114]))) (Hu R s0 true σ) (Bo ((ByteArray.toList s0 == ByteArray.toList (ByteArray.mk #[97, 110, 100]))) (Hu R s0 true σ) (Bo ((ByteArray.toList s0 == ByteArray.toList (ByteArray.mk #[117, 110, 108, 101, 115, 115]))) (Hu R s0 true σ) (Bo ((ByteArray.toList s0 == ByteArray.toList (ByteArray.mk #[98, 111, 111, 108]))) (Hu R s0 true σ) (Bo ((ByteArray.toList s0 == ByteArray.toList (ByteArray.mk #[111, 110]))) (Hu R s0 true σ) (Bo ((ByteArray.toList s0 == ByteArray.toList (ByteArray.mk #[105, 103, 110, 111, 114, 105, 110, 103]))) (Hu R s0 true σ) (Bo ((ByteArray.toList s0 == ByteArray.toList (ByteArray.mk #[98, 121]))) (Hu R s0 true σ) (Bo ((ByteArray.toList s0 == ByteArray.toList (ByteArray.mk #[119, 105, 116, 104, 111, 117, 116]))) (Hu R s0 true σ) (Hu R s0 ((ByteArray.toList s0 == ByteArray.toList (ByteArray.mk #[111, 102, 102, 115, 101, 116]))) σ))))))))) : Spec prog 295 #[.string s0] σ R := M.start h ok
theorem P5 (h : Bo t4 (R (.returned (.bool true)) σ) (Spec prog 267 #[] σ (AA R (CS fun I6 n14 HB y => Spec prog 133 #[.slice I6 n14 HB, .string s0] y (AA R (CI .i64 fun x16 AF => Br (0 < x16) (R (.returned (.bool true)) AF) (Spec prog 268 #[] AF (AA R (CS fun p19 n19 c19 AH => Spec prog 133 #[.slice p19 n19 c19, .string s0] AH (AA R (CI .i64 fun aK AZ => R (.returned (.bool (decide (0 < aK)))) AZ))))))))))) : Hu R s0 t4 σ := M.of h ok rfl
end Gg
end TwW
end
end
section
set_option maxRecDepth 100000
noncomputable section
namespace TwW
open Go Tw Go.Proofs.Tryz
variable [Eg] {R : Rr} {σ : Hp}

namespace Hy
variable {q0 q1 : Option Addr} {qO x3a x3b x3d : Int} {s2b s2c s3c : ByteArray}
def M : Fw := ⟨prog, 296, f296, [80, 97], [6, 7], false, [(1, 10, false)], [], []⟩
theorem ok : M.Ok := ⟨.cons call80 (.cons call97 (AG.nil)), mixed, func296, by kernel_rfl⟩
theorem start (h : ∀ b6 : Nat, ∀ b7 : Nat, Pq q1 fun CR fN => LS σ CR (fN + 3) fun aO n12 ZF => Al σ fun BB => AJ prog (Builtin.append_ #[33, 33] 33 #[.slice aO n12 ZF, (.slice (aD BB 0) 1 1)]) (Hp.set σ BB (.cells #[.int .i64 qO, .string s2b, .string s2c] 77 (0, 0))) (CS fun cu n15 W8 y => AJ prog (Instr.storeAt 33 (.pointer (aD CR (fN + 3))) (.slice cu n15 W8)) y (fun _ AF => LS AF CR (fN + 3) fun OL n21 MR => Spec prog 80 #[.slice OL n21 MR] AF (AA R (CI .i64 fun II AH => Br (II ≠ 0) (Spec prog 97 #[.pointer q0, .int .i64 183, .agg #[.int .i64 x3a, .int .i64 x3b, .string s3c, .int .i64 x3d]] AH (AA R (fun z AZ => z = (.tuple #[]) ∧ R (.returned (.tuple #[])) AZ))) (R (.returned (.tuple #[])) AH)))))) : Spec prog 296 #[.pointer q0, .pointer q1, .agg #[.int .i64 qO, .string s2b, .string s2c], .agg #[.int .i64 x3a, .int .i64 x3b, .string s3c, .int .i64 x3d]] σ R := M.start h ok
end Hy
end TwW
end
end
section
set_option maxRecDepth 100000
noncomputable section
namespace TwW
open Go Tw Go.Proofs.Tryz
variable [Eg] {R : Rr} {σ : Hp}

namespace UE
variable {x0 : Int}
def M : Fw := ⟨prog, 29, f29, [], [], false, [], [], []⟩
theorem ok : M.Ok := ⟨AG.nil, mixed, func29, by kernel_rfl⟩
theorem start (h : Br (((-1099511627776) : Int) ≤ x0) (R (.returned (.bool (decide (x0 ≤ 1099511627776)))) σ) (R (.returned (.bool false)) σ)) : Spec prog 29 #[.int .i64 x0] σ R := M.start h ok
end UE
namespace CM
variable {p0 p1 : Option Addr} {n0 c0 n1 c1 : Nat} {x5 : Int}
def M : Fw := ⟨prog, 36, f36, [], [], false, [(6, 9, true)], [], [(464, [(0, wL), (1, wL), (5, wI)])]⟩
theorem ok : M.Ok := ⟨AG.nil, mixed, func36, by kernel_rfl⟩
def JN := M.pt 0
theorem start (h : Br ((n0 : Int) ≠ (n1 : Int)) (R (.returned (.bool false)) σ) (JN R p0 n0 c0 p1 n1 c1 0 σ)) : Spec prog 36 #[.slice p0 n0 c0, .slice p1 n1 c1] σ R := M.start h ok
theorem NF (h : Br (x5 < (n0 : Int)) (Pq p0 fun C4 jj => In x5 (n0 : Int) ∧ ∃ Hs VD, Au σ C4 (jj + Int.toNat x5 * 2) [.int .i64 Hs, .int .u64 VD] ∧ Pq p1 fun Pd kI => In x5 (n1 : Int) ∧ ∃ fQ VX, Au σ Pd (kI + Int.toNat x5 * 2) [.int .i64 fQ, .int .u64 VX] ∧ ∃ t25, YF prog ((do eqGuard .neq 50 (.tmp 20) (.tmp 24) (.agg #[.int .i64 Hs, .int .u64 VD]) (.agg #[.int .i64 fQ, .int .u64 VX]); binOp .neq 50 (.agg #[.int .i64 Hs, .int .u64 VD]) (.agg #[.int .i64 fQ, .int .u64 VX]))) σ (.bool t25) ∧ Bo t25 (R (.returned (.bool false)) σ) (AK (x5 + 1) ∧ JN R (aD C4 jj) n0 c0 (aD Pd kI) n1 c1 (x5 + 1) σ)) (R (.returned (.bool true)) σ)) : JN R p0 n0 c0 p1 n1 c1 x5 σ := M.of h ok rfl
end CM
namespace Bz
variable {v0 : Value} {b1 b2 b3 : Nat} {x5 : Int}
def M : Fw := ⟨prog, 71, f71, [], [100000], false, [], [], [(48, [(0, wV), (2, wA), (3, wA), (5, wI)])]⟩
theorem ok : M.Ok := ⟨AG.nil, mixed, func71, by kernel_rfl⟩
def aN := M.pt 0
theorem start (h : LI .i64 σ b1 0 fun x6 => aN R v0 b2 b3 x6 σ) : Spec prog 71 #[v0, (.pointer (aD b1 0)), (.pointer (aD b2 0)), (.pointer (aD b3 0))] σ R := M.Dn h ok [(0, .o (.V v0)), (1, .o (.A b1)), (2, .o (.A b2)), (3, .o (.A b3))] rfl rfl (by kernel_rfl)
theorem OK (h : ∃ l9 : Nat, v0 = .func (.yield l9) #[] #[] ∧ Hi prog l9 #[.int .i64 x5] σ (AA R (CB fun t9 y => Bo t9 (LI .i64 y b2 0 fun x11 => LI .i64 y b3 0 fun x12 => AK (x12 - x5) ∧ Br (x11 ≤ (x12 - x5)) (LI .i64 y b2 0 fun T7 => AK (x5 + T7) ∧ aN R v0 b2 b3 (x5 + T7) y) (R (.returned (.tuple #[])) y)) (R (.returned (.tuple #[])) y)))) : aN R v0 b2 b3 x5 σ := M.of h ok rfl
end Bz
namespace Ea
variable {p0 p3 ZB : Option Addr} {n0 c0 n3 c3 n10 TD : Nat} {x11 x12 : Int}
def M : Fw := ⟨prog, 72, f72, [107, 108], [5], false, [], [], [(232, [(3, wL), (10, wL), (11, wI), (12, wI)])]⟩
theorem ok : M.Ok := ⟨.cons call107 (.cons call108 (AG.nil)), mixed, func72, by kernel_rfl⟩
def A0 := M.pt 0
theorem start (h : Df (IntKind.u64.wrap (n0 : Int)) fun x8 => Spec prog 107 #[.slice none 0 0, .int .u64 x8] σ (AA R (CS fun p9 n9 c9 y => A0 R p9 n9 c9 p0 n0 c0 (n0 : Int) 0 y))) : Spec prog 72 #[.slice p0 n0 c0] σ R := M.start h ok
theorem Aa (h : Br (x12 < x11) (Pq ZB fun BB Oq => In x12 (n10 : Int) ∧ ∃ ADv ADw, Au σ BB (Oq + Int.toNat x12 * 2) [.string ADv, .string ADw] ∧ ∀ b5 : Nat, Spec prog 108 #[.slice p3 n3 c3, .string ADv] σ (AA R (CS fun p19 n19 c19 y => Spec prog 108 #[.slice p19 n19 c19, .string ADw] y (AA R (CS fun Ts n22 Sx AF => AK (x12 + 1) ∧ A0 R Ts n22 Sx (aD BB Oq) n10 TD x11 (x12 + 1) AF))))) (R (.returned (.slice p3 n3 c3)) σ)) : A0 R p3 n3 c3 ZB n10 TD x11 x12 σ := M.of h ok rfl
end Ea
namespace Gh
variable {p0 p6 : Option Addr} {n0 c0 n6 c6 : Nat} {x3 x7 x8 : Int}
def M : Fw := ⟨prog, 77, f77, [], [], false, [], [], [(232, [(3, wI), (6, wL), (7, wI), (8, wI)])]⟩
theorem ok : M.Ok := ⟨AG.nil, mixed, func77, by kernel_rfl⟩
def A0 := M.pt 0
theorem start (h : A0 R 0 p0 n0 c0 (n0 : Int) 0 σ) : Spec prog 77 #[.slice p0 n0 c0] σ R := M.start h ok
theorem Aa (h : Br (x8 < x7) (Pq p6 fun CR fN => In x8 (n6 : Int) ∧ LI .i64 σ CR (fN + Int.toNat x8 * 1) fun x11 => Br (x11 ≠ x3) (R (.returned (.int .i64 x11)) σ) (AK (x8 + 1) ∧ A0 R x3 (aD CR fN) n6 c6 x7 (x8 + 1) σ)) (R (.returned (.int .i64 x3)) σ)) : A0 R x3 p6 n6 c6 x7 x8 σ := M.of h ok rfl
end Gh
namespace Eb
variable {q0 DS Da p2 : Option Addr} {DP CF DQ DT Ct CK : Int} {DR : ByteArray} {DU DV DW Db n2 c2 : Nat} {Cu : Bool}
def M : Fw := ⟨prog, 85, f85, [], [4], false, [], [], []⟩
theorem ok : M.Ok := ⟨AG.nil, mixed, func85, by kernel_rfl⟩
theorem start (h : ∀ b4 : Nat, Pq p2 fun b9 o9 => In 0 (n2 : Int) ∧ LI .i64 σ b9 o9 fun x11 => Br (x11 = 3) (R (.returned (.tuple #[.int .i64 0, .int .i64 191])) σ) (In 0 (n2 : Int) ∧ LI .i64 σ b9 o9 fun x16 => R (.returned (.tuple #[.int .i64 x16, .int .i64 0])) σ)) : Spec prog 85 #[.pointer q0, .agg #[.int .i64 DP, .int .i64 CF, .string DR, .slice DS DU DV, .int .i64 DQ, .int .i64 DT, .int .i64 Ct, .slice Da DW Db, .bool Cu, .int .i64 CK], .slice p2 n2 c2] σ R := M.start h ok
end Eb
namespace Rz
variable {s0 : ByteArray}
def M : Fw := ⟨prog, 94, f94, [131, 132], [], false, [], [], []⟩
theorem ok : M.Ok := ⟨.cons call131 (.cons call132 (AG.nil)), mixed, func94, by kernel_rfl⟩
theorem start (h : Spec prog 131 #[.string s0] σ (AA R (CI .i64 fun x6 y => Br (x6 = 0) (R (.returned (.bool false)) y) (∃ s12, YF prog (Instr.sliceAt 9 (.string s0) none (some (.int .i64 x6)) none) y (.string s12) ∧ Spec prog 132 #[.string s12] y (AA R (CB fun t13 AF => Bo t13 (R (.returned (.bool false)) AF) (Br (x6 = ((ByteArray.size s0 : Nat) : Int)) (R (.returned (.bool (decide (x6 ≤ 15)))) AF) (AK (x6 + 1) ∧ ∃ s24, YF prog (Instr.sliceAt 9 (.string s0) (some (.int .i64 (x6 + 1))) none none) AF (.string s24) ∧ Spec prog 131 #[.string s24] AF (AA R (CI .i64 fun Sz AH => ∃ u28 : UInt8, 0 ≤ x6 ∧ (ByteArray.data s0)[Int.toNat x6]? = some u28 ∧ Br ((((UInt8.toNat u28 : Nat) : Int) : Int) = 46) (Br (0 < Sz) (AK (x6 + 1) ∧ AK ((x6 + 1) + Sz) ∧ Br ((((x6 + 1) + Sz) : Int) = ((ByteArray.size s0 : Nat) : Int)) (AK (x6 + Sz) ∧ R (.returned (.bool (decide (((x6 + Sz) : Int) ≤ 15)))) AH) (R (.returned (.bool false)) AH)) (R (.returned (.bool false)) AH)) (R (.returned (.bool false)) AH))))))))))) : Spec prog 94 #[.string s0] σ R := M.start h ok
end Rz
namespace AQ
variable {q0 DS Da p2 GH HZ G2 Fg p9 Ts cu p79 Xl aO q13 : Option Addr} {DP CF DQ DT Ct CK Fc FK Ha Fs Hb IG Fe Ff CL I3 x80 x81 Pc : Int} {DR HC : ByteArray} {DU DV DW Db n2 c2 GI GJ Hc Hd G3 G4 Fh Fi n9 c9 n22 Sx n15 W8 n79 c79 Xm Xn n12 ZF : Nat} {Cu IH : Bool} {m8 : Option Nat} {oT : Value}
def M : Fw := ⟨prog, 104, f104, [49, 146, 148, 149, 150], [4, 6, 11], false, [(17, 11, false)], [], [(488, [(4, .X 36 [.I .i64, .I .i64, .T, .L, .I .i64, .I .i64, .I .i64, .L, .B, .I .i64]), (6, .X 93 [.I .i64, .I .u64, .L, .L]), (8, wM), (9, wL), (22, wL), (23, wI), (24, wI)]), (4072, [(6, .X 93 [.I .i64, .I .u64, .L, .L]), (14, wV), (15, wL), (79, wL), (80, wI), (81, wI)]), (62670, [(4, .X 36 [.I .i64, .I .i64, .T, .L, .I .i64, .I .i64, .I .i64, .L, .B, .I .i64]), (6, .X 93 [.I .i64, .I .u64, .L, .L]), (8, wM), (9, wL), (11, .X 71 [.L, .I .u64]), (12, wL), (22, wL), (23, wI), (24, wI)]), (125343, [(4, .X 36 [.I .i64, .I .i64, .T, .L, .I .i64, .I .i64, .I .i64, .L, .B, .I .i64]), (6, .X 93 [.I .i64, .I .u64, .L, .L]), (8, wM), (9, wL), (11, .X 71 [.L, .I .u64]), (13, wQ), (22, wL), (23, wI), (24, wI)])]⟩
theorem ok : M.Ok := ⟨.cons call49 (.cons call146 (.cons call148 (.cons call149 (.cons call150 (AG.nil))))), mixed, func104, by kernel_rfl⟩
def Ep := M.pt 0
def qf := M.pt 1
def Jd := M.pt 2
def lI := M.pt 3
theorem start (h : ∀ b4 : Nat, ∀ b6 : Nat, AJ prog (Instr.makeMap 197 none) σ (fun z y => ∃ m18, z = (.map (some m18)) ∧ Pq p2 fun XV yI => In 0 (n2 : Int) ∧ LS y XV (yI + 2) fun Ts n22 Sx => Ep R DP CF DR DS DU DV DQ DT Ct Da DW Db Cu CK 0 0 none 0 0 none 0 0 (some m18) none 0 0 Ts n22 Sx (n22 : Int) 0 y)) : Spec prog 104 #[.pointer q0, .agg #[.int .i64 DP, .int .i64 CF, .string DR, .slice DS DU DV, .int .i64 DQ, .int .i64 DT, .int .i64 Ct, .slice Da DW Db, .bool Cu, .int .i64 CK], .slice p2 n2 c2] σ R := M.start h ok
theorem FD (h : Br (I3 < CL) (Pq Ts fun k0 oS => In I3 (n22 : Int) ∧ ∃ MP Lc MQ XK, Au σ k0 (oS + Int.toNat I3 * 2) [.slice MP Lc MQ, .int .u64 XK] ∧ ∀ A8 : Nat, Br (Hb = 1) (Spec prog 149 #[.slice MP Lc MQ, .slice HZ Hc Hd] σ (AA R (CS fun p36 n36 c36 y => Jd R Fc FK HC GH GI GJ Ha Fs Hb HZ Hc Hd IH IG Fe Ff G2 G3 G4 Fg Fh Fi m8 p9 n9 c9 MP Lc MQ XK p36 n36 c36 (aD k0 oS) n22 Sx CL I3 y))) (Br (Hb = 2) (Spec prog 150 #[.slice MP Lc MQ, .slice HZ Hc Hd] σ (AA R (CS fun iE n43 iF y => Spec prog 146 #[.slice iE n43 iF] y (AA R (CS fun xJ n44 xK AF => Jd R Fc FK HC GH GI GJ Ha Fs Hb HZ Hc Hd IH IG Fe Ff G2 G3 G4 Fg Fh Fi m8 p9 n9 c9 MP Lc MQ XK xJ n44 xK (aD k0 oS) n22 Sx CL I3 AF))))) (Jd R Fc FK HC GH GI GJ Ha Fs Hb HZ Hc Hd IH IG Fe Ff G2 G3 G4 Fg Fh Fi m8 p9 n9 c9 MP Lc MQ XK none 0 0 (aD k0 oS) n22 Sx CL I3 σ))) (AJ prog (Instr.makeMap 202 none) σ (fun z y => ∃ Z8, z = (.map (some Z8)) ∧ AJ prog (Instr.mapUpdate 202 (.map (some Z8)) (.int .i64 1) (.func (.func 151) #[] #[])) y (fun _ AF => AJ prog (Instr.mapUpdate 202 (.map (some Z8)) (.int .i64 2) (.func (.func 152) #[] #[])) AF (fun _ AH => AJ prog (Instr.mapUpdate 202 (.map (some Z8)) (.int .i64 3) (.func (.func 153) #[] #[])) AH (fun _ AZ => AJ prog (Instr.mapUpdate 202 (.map (some Z8)) (.int .i64 4) (.func (.func 154) #[] #[])) AZ (fun _ CJ => AJ prog (Instr.mapUpdate 202 (.map (some Z8)) (.int .i64 5) (.func (.func 155) #[] #[])) CJ (fun _ EK => AJ prog (Instr.lookup 202 (.map (some Z8)) (.int .i64 FK) false) EK (fun z EM => ∃ v78, v78 = z ∧ qf R Fe Ff G2 G3 G4 Fg Fh Fi v78 none 0 0 p9 n9 c9 (n9 : Int) 0 EM))))))))) : Ep R Fc FK HC GH GI GJ Ha Fs Hb HZ Hc Hd IH IG Fe Ff G2 G3 G4 Fg Fh Fi m8 p9 n9 c9 Ts n22 Sx CL I3 σ := M.ek h ok rfl fun _ _ => by kernel_rfl
theorem dL (h : Br (x81 < x80) (Pq p79 fun b83 o83 => In x81 (n79 : Int) ∧ LQ σ b83 (o83 + Int.toNat x81 * 1) fun q84 => Pq q84 fun b87 o87 => LS σ b87 o87 fun p89 n89 c89 => LS σ b87 (o87 + 1) fun pW pX pY => ∃ (f95 : Nat) (X9 YA : Array Value), oT = .func (.func f95) X9 YA ∧ Enters prog f95 ∧ Spec prog f95 (X9 ++ #[.slice pW pX pY] ++ YA) σ (AA R (CI .u64 fun x95 y => Kp [b87] σ y ∧ Al y fun b97 => AJ prog (Builtin.append_ #[67, 67] 67 #[.slice cu n15 W8, (.slice (aD b97 0) 1 1)]) (Hp.set y b97 (.cells #[.slice p89 n89 c89, .int .u64 x95] 71 (0, 0))) (CS fun p98 n98 c98 AF => AK (x81 + 1) ∧ qf R Fe Ff G2 G3 G4 Fg Fh Fi oT p98 n98 c98 (aD b83 o83) n79 c79 x80 (x81 + 1) AF)))) (Spec prog 148 #[.slice cu n15 W8] σ (AA R (fun z y => ∃ lJ lK lL lM lN lO lP lQ ud, z = (.tuple #[.agg #[.int .i64 lJ, .int .u64 lK, .slice lL lM lN, .slice lO lP lQ], .int .i64 ud]) ∧ R (.returned (.tuple #[.agg #[.int .i64 lJ, .int .u64 lK, .slice lL lM lN, .slice lO lP lQ], .int .i64 ud])) y)))) : qf R Fe Ff G2 G3 G4 Fg Fh Fi oT cu n15 W8 p79 n79 c79 x80 x81 σ := M.hZ h ok rfl fun _ => by kernel_rfl
theorem LC (h : Spec prog 49 #[.slice aO n12 ZF] σ (AA R (CT fun s47 y => AJ prog (Instr.lookup 197 (.map m8) (.string s47) false) y (CQ fun q48 AF => Bo (Option.isNone q48) (Al AF fun Mo => Spec prog 49 #[.slice aO n12 ZF] (Hp.set AF Mo (.cells #[.slice aO n12 ZF, .slice none 0 0] 189 (0, 0))) (AA R (CT fun s56 AH => AJ prog (Instr.mapUpdate 197 (.map m8) (.string s56) (.pointer (aD Mo 0))) AH (fun _ AZ => Al AZ fun oR => AJ prog (Builtin.append_ #[198, 198] 198 #[.slice p9 n9 c9, (.slice (aD oR 0) 1 1)]) (Hp.set AZ oR (.cells #[(.pointer (aD Mo 0))] 200 (0, 0))) (CS fun yE n61 yF CJ => lI R Fc FK HC GH GI GJ Ha Fs Hb HZ Hc Hd IH IG Fe Ff G2 G3 G4 Fg Fh Fi m8 yE n61 yF Xl Xm Xn Pc (aD Mo 0) Ts n22 Sx CL I3 CJ))))) (lI R Fc FK HC GH GI GJ Ha Fs Hb HZ Hc Hd IH IG Fe Ff G2 G3 G4 Fg Fh Fi m8 p9 n9 c9 Xl Xm Xn Pc q48 Ts n22 Sx CL I3 AF))))) : Jd R Fc FK HC GH GI GJ Ha Fs Hb HZ Hc Hd IH IG Fe Ff G2 G3 G4 Fg Fh Fi m8 p9 n9 c9 Xl Xm Xn Pc aO n12 ZF Ts n22 Sx CL I3 σ := M.of3 h ok rfl fun _ _ _ => by kernel_rfl
theorem qg (h : Pq q13 fun b64 o64 => LS σ b64 (o64 + 1) fun oO ji ct => Al σ fun b69 => AJ prog (Builtin.append_ #[187, 187] 187 #[.slice oO ji ct, (.slice (aD b69 0) 1 1)]) (Hp.set σ b69 (.cells #[.int .u64 Pc] 48 (0, 0))) (CS fun p70 n70 c70 y => AJ prog (Instr.storeAt 187 (.pointer (aD b64 (o64 + 1))) (.slice p70 n70 c70)) y (fun _ AF => AK (I3 + 1) ∧ Ep R Fc FK HC GH GI GJ Ha Fs Hb HZ Hc Hd IH IG Fe Ff G2 G3 G4 Fg Fh Fi m8 p9 n9 c9 Ts n22 Sx CL (I3 + 1) AF))) : lI R Fc FK HC GH GI GJ Ha Fs Hb HZ Hc Hd IH IG Fe Ff G2 G3 G4 Fg Fh Fi m8 p9 n9 c9 Xl Xm Xn Pc q13 Ts n22 Sx CL I3 σ := M.of3 h ok rfl fun _ _ _ => by kernel_rfl
end AQ
namespace R0
variable {Ek EI PU M1 HY I5 : Int} {PW : ByteArray} {Tu Qq : Option Addr} {TB Tv P2 Qr : Nat} {MO : Bool}
def M : Fw := ⟨prog, 121, f121, [], [1, 2], false, [(12, 7, false), (15, 7, false), (18, 11, false), (21, 15, false)], [], []⟩
theorem ok : M.Ok := ⟨AG.nil, mixed, func121, by kernel_rfl⟩
theorem start (h : ∀ b1 : Nat, ∀ b2 : Nat, Al σ fun b3 => AJ prog (Instr.storeAt 36 (.pointer (aD b3 0)) (.agg #[.int .i64 Ek, .int .i64 0, (.string (ByteArray.mk #[])), .slice none 0 0, .int .i64 0, .int .i64 0, .int .i64 0, .slice none 0 0, .bool false, .int .i64 0])) (Hp.set σ b3 (.cells #[.int .i64 0, .int .i64 0, (.string (ByteArray.mk #[])), .slice none 0 0, .int .i64 0, .int .i64 0, .int .i64 0, .slice none 0 0, .bool false, .int .i64 0] 36 (0, 0))) (fun _ y => Br (Ek = 1) (AJ prog (Instr.storeAt 9 (.pointer (aD b3 2)) (.string PW)) y (fun _ AF => ∃ XZ aP aQ lR lS lT lU lV lW lX lY lZ la lf, Au AF b3 0 [.int .i64 XZ, .int .i64 aP, .string aQ, .slice lR lS lT, .int .i64 lU, .int .i64 lV, .int .i64 lW, .slice lX lY lZ, .bool la, .int .i64 lf] ∧ R (.returned (.agg #[.int .i64 XZ, .int .i64 aP, .string aQ, .slice lR lS lT, .int .i64 lU, .int .i64 lV, .int .i64 lW, .slice lX lY lZ, .bool la, .int .i64 lf])) AF)) (Br (Ek = 2) (AJ prog (Instr.storeAt 2 (.pointer (aD b3 5)) (.int .i64 M1)) y (fun _ AF => ∃ fQ VX ADz AD0 AD1 AD2 AD3 AD4 AD5 AD6 AD7 AD8 AD9 AEA, Au AF b3 0 [.int .i64 fQ, .int .i64 VX, .string ADz, .slice AD0 AD1 AD2, .int .i64 AD3, .int .i64 AD4, .int .i64 AD5, .slice AD6 AD7 AD8, .bool AD9, .int .i64 AEA] ∧ R (.returned (.agg #[.int .i64 fQ, .int .i64 VX, .string ADz, .slice AD0 AD1 AD2, .int .i64 AD3, .int .i64 AD4, .int .i64 AD5, .slice AD6 AD7 AD8, .bool AD9, .int .i64 AEA])) AF)) (Br (Ek = 3) (AJ prog (Instr.storeAt 2 (.pointer (aD b3 4)) (.int .i64 PU)) y (fun _ AF => AJ prog (Instr.storeAt 2 (.pointer (aD b3 5)) (.int .i64 M1)) AF (fun _ AH => ∃ XS AEB AEC AED AEE AEF AEG AEH AEI AEJ AEK AEL AEM AEN, Au AH b3 0 [.int .i64 XS, .int .i64 AEB, .string AEC, .slice AED AEE AEF, .int .i64 AEG, .int .i64 AEH, .int .i64 AEI, .slice AEJ AEK AEL, .bool AEM, .int .i64 AEN] ∧ R (.returned (.agg #[.int .i64 XS, .int .i64 AEB, .string AEC, .slice AED AEE AEF, .int .i64 AEG, .int .i64 AEH, .int .i64 AEI, .slice AEJ AEK AEL, .bool AEM, .int .i64 AEN])) AH))) (Br (Ek = 4) (AJ prog (Instr.storeAt 3 (.pointer (aD b3 1)) (.int .i64 EI)) y (fun _ AF => AJ prog (Instr.storeAt 3 (.pointer (aD b3 9)) (.int .i64 I5)) AF (fun _ AH => ∃ AEO AEP AEQ AER AES AET AEU AEV AEW AEX AEY AEZ AEa AEb, Au AH b3 0 [.int .i64 AEO, .int .i64 AEP, .string AEQ, .slice AER AES AET, .int .i64 AEU, .int .i64 AEV, .int .i64 AEW, .slice AEX AEY AEZ, .bool AEa, .int .i64 AEb] ∧ R (.returned (.agg #[.int .i64 AEO, .int .i64 AEP, .string AEQ, .slice AER AES AET, .int .i64 AEU, .int .i64 AEV, .int .i64 AEW, .slice AEX AEY AEZ, .bool AEa, .int .i64 AEb])) AH))) (Br (Ek = 5) (AJ prog (Instr.storeAt 3 (.pointer (aD b3 1)) (.int .i64 EI)) y (fun _ AF => AJ prog (Instr.storeAt 3 (.pointer (aD b3 9)) (.int .i64 I5)) AF (fun _ AH => AJ prog (Instr.storeAt 3 (.pointer (aD b3 6)) (.int .i64 HY)) AH (fun _ AZ => ∃ XM XN kP XO XP XQ kQ kR kS kT kU kV kW kX, Au AZ b3 0 [.int .i64 XM, .int .i64 XN, .string kP, .slice XO XP XQ, .int .i64 kQ, .int .i64 kR, .int .i64 kS, .slice kT kU kV, .bool kW, .int .i64 kX] ∧ R (.returned (.agg #[.int .i64 XM, .int .i64 XN, .string kP, .slice XO XP XQ, .int .i64 kQ, .int .i64 kR, .int .i64 kS, .slice kT kU kV, .bool kW, .int .i64 kX])) AZ)))) (Br (Ek = 6) (AJ prog (Instr.storeAt 3 (.pointer (aD b3 1)) (.int .i64 EI)) y (fun _ AF => AJ prog (Instr.storeAt 3 (.pointer (aD b3 9)) (.int .i64 I5)) AF (fun _ AH => AJ prog (Instr.storeAt 4 (.pointer (aD b3 8)) (.bool MO)) AH (fun _ AZ => AJ prog (Instr.storeAt 3 (.pointer (aD b3 6)) (.int .i64 HY)) AZ (fun _ CJ => ∃ Xp Xq Xr Xs Xt Xu Xv Xw Xx Xy Xz X0 X6 X7, Au CJ b3 0 [.int .i64 Xp, .int .i64 Xq, .string Xr, .slice Xs Xt Xu, .int .i64 Xv, .int .i64 Xw, .int .i64 Xx, .slice Xy Xz X0, .bool X6, .int .i64 X7] ∧ R (.returned (.agg #[.int .i64 Xp, .int .i64 Xq, .string Xr, .slice Xs Xt Xu, .int .i64 Xv, .int .i64 Xw, .int .i64 Xx, .slice Xy Xz X0, .bool X6, .int .i64 X7])) CJ))))) (AJ prog (Instr.storeAt 3 (.pointer (aD b3 9)) (.int .i64 I5)) y (fun _ AF => ∃ AEc kO AEd AEe AEf AEg AEh AEi AEj AEk AEl AEm AEn AEo, Au AF b3 0 [.int .i64 AEc, .int .i64 kO, .string AEd, .slice AEe AEf AEg, .int .i64 AEh, .int .i64 AEi, .int .i64 AEj, .slice AEk AEl AEm, .bool AEn, .int .i64 AEo] ∧ R (.returned (.agg #[.int .i64 AEc, .int .i64 kO, .string AEd, .slice AEe AEf AEg, .int .i64 AEh, .int .i64 AEi, .int .i64 AEj, .slice AEk AEl AEm, .bool AEn, .int .i64 AEo])) AF))))))))) : Spec prog 121 #[.agg #[.int .i64 Ek, .int .i64 EI, .string PW, .slice Tu TB Tv, .int .i64 PU, .int .i64 M1, .int .i64 HY, .slice Qq P2 Qr, .bool MO, .int .i64 I5]] σ R := M.start h ok
end R0
namespace DJ
variable {p0 p7 : Option Addr} {n0 c0 n7 c7 : Nat} {s1 : ByteArray} {x8 x9 : Int}
def M : Fw := ⟨prog, 133, f133, [], [], false, [], [], [(104, [(1, wT), (7, wL), (8, wI), (9, wI)])]⟩
theorem ok : M.Ok := ⟨AG.nil, mixed, func133, by kernel_rfl⟩
def HX := M.pt 0
theorem start (h : HX R s1 p0 n0 c0 (n0 : Int) 0 σ) : Spec prog 133 #[.slice p0 n0 c0, .string s1] σ R := M.start h ok
theorem BY (h : Br (x9 < x8) (Pq p7 fun Ov PT => In x9 (n7 : Int) ∧ LT σ Ov (PT + Int.toNat x9 * 1) fun xA => Bo (ByteArray.toList xA == ByteArray.toList s1) (Bn ((ByteArray.toList s1 == ByteArray.toList (ByteArray.mk #[]))) (R (.returned (.int .i64 x9)) σ) (AK (x9 + 1) ∧ HX R s1 (aD Ov PT) n7 c7 x8 (x9 + 1) σ)) (AK (x9 + 1) ∧ HX R s1 (aD Ov PT) n7 c7 x8 (x9 + 1) σ)) (R (.returned (.int .i64 0)) σ)) : HX R s1 p7 n7 c7 x8 x9 σ := M.of h ok rfl
end DJ
namespace JF
variable {q0 : Option Addr}
def M : Fw := ⟨prog, 135, f135, [], [2, 3], false, [], [], []⟩
theorem ok : M.Ok := ⟨AG.nil, mixed, func135, by kernel_rfl⟩
theorem start (h : ∀ b2 : Nat, Pq q0 fun b5 o5 => LS σ b5 o5 fun p7 n7 c7 => Pq p7 fun b8 o8 => In 0 (n7 : Int) ∧ ∃ x9a x9b s9c x9d, Au σ b8 o8 [.int .i64 x9a, .int .i64 x9b, .string s9c, .int .i64 x9d] ∧ ∀ b3 : Nat, LS σ b5 o5 fun I6 n14 HB => ((0 : Int) ≤ 1 ∧ 1 ≤ (n14 : Int)) ∧ AJ prog (Instr.storeAt 121 (.pointer (aD b5 o5)) (.slice (IF I6 (1) HB 4) (n14 - 1) (HB - 1))) σ (fun _ y => R (.returned (.agg #[.int .i64 x9a, .int .i64 x9b, .string s9c, .int .i64 x9d])) y)) : Spec prog 135 #[.pointer q0] σ R := M.start h ok
end JF
namespace R3
variable {x0 : Int}
def M : Fw := ⟨prog, 143, f143, [], [], false, [], [], []⟩
theorem ok : M.Ok := ⟨AG.nil, mixed, func143, by kernel_rfl⟩
theorem start (h : AJ prog (convert 2 51 (.int .i64 x0)) σ (fun z y => ∃ x4, (Value.float .f64 x4) = z ∧ EN prog 45 #[(Value.float .f64 x4)] y (CI .u64 fun x5 AF => R (.returned (.int .u64 x5)) AF))) : Spec prog 143 #[.int .i64 x0] σ R := M.start h ok
end R3
namespace Kg
def M : Fw := ⟨prog, 147, f147, [184, 188], [], false, [], [], []⟩
theorem ok : M.Ok := ⟨.cons call184 (.cons call188 (AG.nil)), mixed, func147, by kernel_rfl⟩
theorem start (h : Spec prog 184 #[(.func (.func 151) #[] #[])] σ (AA R (fun z y => ∃ f1 a1 c1, (Value.func f1 a1 c1) = z ∧ Spec prog 184 #[(.func (.func 154) #[] #[])] y (AA R (fun z AF => ∃ f2 a2 c2, (Value.func f2 a2 c2) = z ∧ Spec prog 184 #[(.func (.func 152) #[] #[])] AF (AA R (fun z AH => ∃ f3 a3 c3, (Value.func f3 a3 c3) = z ∧ Spec prog 184 #[(.func (.func 153) #[] #[])] AH (AA R (fun z AZ => ∃ f4 a4 c4, (Value.func f4 a4 c4) = z ∧ Spec prog 184 #[(.func (.func 155) #[] #[])] AZ (AA R (fun z CJ => ∃ f5 a5 c5, (Value.func f5 a5 c5) = z ∧ Spec prog 184 #[(.func (.func 185) #[] #[])] CJ (AA R (fun z EK => ∃ f6 a6 c6, (Value.func f6 a6 c6) = z ∧ Spec prog 184 #[(.func (.func 187) #[] #[])] EK (AA R (fun z EM => ∃ f7 a7 c7, (Value.func f7 a7 c7) = z ∧ Spec prog 188 #[(.func (.func 189) #[] #[])] EM (AA R (fun z I9 => ∃ f8 a8 c8, (Value.func f8 a8 c8) = z ∧ Spec prog 188 #[(.func (.func 191) #[] #[])] I9 (AA R (fun z OF => ∃ f9 a9 c9, (Value.func f9 a9 c9) = z ∧ Spec prog 188 #[(.func (.func 193) #[] #[])] OF (AA R (fun z F2 => ∃ f10 a10 TD, (Value.func f10 a10 TD) = z ∧ Al F2 fun A8 => R (.returned (.slice (aD A8 0) 11 11)) (Hp.set F2 A8 (.cells #[.nilFunc, (Value.func f10 a10 TD), (Value.func f9 a9 c9), (Value.func f8 a8 c8), (Value.func f1 a1 c1), (Value.func f2 a2 c2), (Value.func f3 a3 c3), (Value.func f4 a4 c4), (Value.func f5 a5 c5), (Value.func f6 a6 c6), (Value.func f7 a7 c7)] 195 (0, 0)))))))))))))))))))))))) : Spec prog 147 #[] σ R := M.start h ok
end Kg
namespace Lu
variable {p0 p1 : Option Addr} {n0 c0 n1 c1 : Nat}
def M : Fw := ⟨prog, 150, f150, [197], [], false, [], [], []⟩
theorem ok : M.Ok := ⟨.cons call197 (AG.nil), mixed, func150, by kernel_rfl⟩
theorem start (h : Al σ fun b3 => Spec prog 197 #[.slice p0 n0 c0, (.func (.func 200) #[] #[(.pointer (aD b3 0))])] (Hp.set σ b3 (.cells #[.slice p1 n1 c1] 34 (0, 0))) (AA R (CS fun p7 n7 c7 y => R (.returned (.slice p7 n7 c7)) y))) : Spec prog 150 #[.slice p0 n0 c0, .slice p1 n1 c1] σ R := M.start h ok
end Lu
namespace O3
variable {x0 : Int}
def M : Fw := ⟨prog, 162, f162, [186], [], false, [], [], []⟩
theorem ok : M.Ok := ⟨.cons call186 (AG.nil), mixed, func162, by kernel_rfl⟩
theorem start (h : Df (Go.bits .xor .u64 x0 9223372036854775808) fun x4 => Spec prog 186 #[.int .u64 x4] σ (AA R (CI .u64 fun x5 y => R (.returned (.int .u64 x5)) y))) : Spec prog 162 #[.int .u64 x0] σ R := M.start h ok
end O3
namespace Lv
variable {Ek EI x1 : Int}
def M : Fw := ⟨prog, 176, f176, [], [2], false, [], [], []⟩
theorem ok : M.Ok := ⟨AG.nil, mixed, func176, by kernel_rfl⟩
theorem start (h : ∀ b2 : Nat, Br (Ek ≤ x1) (R (.returned (.int .i64 (-1))) σ) (R (.returned (.int .i64 1)) σ)) : Spec prog 176 #[.agg #[.int .i64 Ek, .int .u64 EI], .int .i64 x1] σ R := M.start h ok
end Lv
namespace R4
variable {v0 : Value}
def M : Fw := ⟨prog, 183, f183, [], [], false, [], [], []⟩
theorem ok : M.Ok := ⟨AG.nil, mixed, func183, by kernel_rfl⟩
theorem start (h : EN prog 222 #[v0] σ (fun z y => ∃ x4, (Value.float .f64 x4) = z ∧ R (.returned (Value.float .f64 x4)) y)) : Spec prog 183 #[v0] σ R := M.Dn h ok [(0, .o (.V v0))] rfl rfl (by kernel_rfl)
end R4
namespace DK
variable {p0 p1 : Option Addr} {n0 c0 n1 c1 : Nat}
def M : Fw := ⟨prog, 193, f193, [192, 194], [], false, [], [], []⟩
theorem ok : M.Ok := ⟨.cons call192 (.cons call194 (AG.nil)), mixed, func193, by kernel_rfl⟩
theorem start (h : Pq p1 fun b8 o8 => In 0 (n1 : Int) ∧ LI .u64 σ b8 (o8 + 1) fun x10 => Spec prog 192 #[.slice p0 n0 c0] σ (AA R (CI .u64 fun x6 y => Kp [b8] σ y ∧ Spec prog 194 #[.int .u64 x6, .int .u64 x10] y (AA R (CI .u64 fun x11 AF => R (.returned (.int .u64 x11)) AF))))) : Spec prog 193 #[.slice p0 n0 c0, .slice p1 n1 c1] σ R := M.start h ok
end DK
namespace eval_add
variable {x0 x1 : Int}
def M : Fw := ⟨prog, 201, f201, [203], [], false, [], [], []⟩
theorem ok : M.Ok := ⟨.cons call203 (AG.nil), mixed, func201, by kernel_rfl⟩
theorem start (h : Spec prog 203 #[.int .i64 1, .int .u64 x0, .int .u64 x1] σ (AA R (fun z y => ∃ IT Qm, z = (.tuple #[.int .u64 IT, .bool Qm]) ∧ R (.returned (.int .u64 IT)) y))) : Spec prog 201 #[.int .u64 x0, .int .u64 x1] σ R := M.start h ok
end eval_add
namespace NJ
variable {x0 x1 x2 : Int}
def M : Fw := ⟨prog, 204, f204, [182], [], false, [], [], []⟩
theorem ok : M.Ok := ⟨.cons call182 (AG.nil), mixed, func204, by kernel_rfl⟩
theorem start (h : Spec prog 182 #[.int .u64 x1] σ (AA R (fun z y => ∃ x11, (Value.float .f64 x11) = z ∧ Spec prog 182 #[.int .u64 x2] y (AA R (fun z AF => ∃ Bl, (Value.float .f64 Bl) = z ∧ Br (x0 = 5) (∃ t19, YF prog ((do eqGuard .eql 51 (.tmp 17) (.tmp 18) (Value.float .f64 x11) (Value.float .f64 Bl); binOp .eql 51 (Value.float .f64 x11) (Value.float .f64 Bl))) AF (.bool t19) ∧ R (.returned (.tuple #[.bool t19, .bool true])) AF) (Br (x0 = 6) (∃ t24, YF prog ((do eqGuard .neq 51 (.tmp 22) (.tmp 23) (Value.float .f64 x11) (Value.float .f64 Bl); binOp .neq 51 (Value.float .f64 x11) (Value.float .f64 Bl))) AF (.bool t24) ∧ R (.returned (.tuple #[.bool t24, .bool true])) AF) (Br (x0 = 7) (∃ t29, YF prog ((do eqGuard .lss 51 (.tmp 27) (.tmp 28) (Value.float .f64 x11) (Value.float .f64 Bl); binOp .lss 51 (Value.float .f64 x11) (Value.float .f64 Bl))) AF (.bool t29) ∧ R (.returned (.tuple #[.bool t29, .bool true])) AF) (Br (x0 = 8) (∃ t34, YF prog ((do eqGuard .leq 51 (.tmp 32) (.tmp 33) (Value.float .f64 x11) (Value.float .f64 Bl); binOp .leq 51 (Value.float .f64 x11) (Value.float .f64 Bl))) AF (.bool t34) ∧ R (.returned (.tuple #[.bool t34, .bool true])) AF) (Br (x0 = 9) (∃ t39, YF prog ((do eqGuard .gtr 51 (.tmp 37) (.tmp 38) (Value.float .f64 x11) (Value.float .f64 Bl); binOp .gtr 51 (Value.float .f64 x11) (Value.float .f64 Bl))) AF (.bool t39) ∧ R (.returned (.tuple #[.bool t39, .bool true])) AF) (Br (x0 = 10) (∃ t44, YF prog ((do eqGuard .geq 51 (.tmp 42) (.tmp 43) (Value.float .f64 x11) (Value.float .f64 Bl); binOp .geq 51 (Value.float .f64 x11) (Value.float .f64 Bl))) AF (.bool t44) ∧ R (.returned (.tuple #[.bool t44, .bool true])) AF) (R (.returned (.tuple #[.bool false, .bool false])) AF))))))))))) : Spec prog 204 #[.int .i64 x0, .int .u64 x1, .int .u64 x2] σ R := M.start h ok
end NJ
namespace Gi
variable {Ek EI PU M1 HY I5 qO x2b x2e x2f x2g x2j x11 x12 : Int} {PW s2c : ByteArray} {Tu Qq p1 p2d p2h ZB : Option Addr} {TB Tv P2 Qr n1 c1 n2d c2d n2h c2h n10 TD : Nat} {MO t2i : Bool} {m6 : Option Nat}
def M : Fw := ⟨prog, 206, f206, [49, 207], [2, 8], false, [(5, 7, false)], [], [(232, [(1, wL), (2, .X 36 [.I .i64, .I .i64, .T, .L, .I .i64, .I .i64, .I .i64, .L, .B, .I .i64]), (6, wM), (10, wL), (11, wI), (12, wI)])]⟩
theorem ok : M.Ok := ⟨.cons call49 (.cons call207 (AG.nil)), mixed, func206, by kernel_rfl⟩
def A0 := M.pt 0
theorem start (h : ∀ b2 : Nat, AJ prog (Instr.makeMap 243 none) σ (fun z y => ∃ m9, z = (.map (some m9)) ∧ A0 R p1 n1 c1 Ek EI PW Tu TB Tv PU M1 HY Qq P2 Qr MO I5 (some m9) p1 n1 c1 (n1 : Int) 0 y)) : Spec prog 206 #[.agg #[.int .i64 Ek, .int .i64 EI, .string PW, .slice Tu TB Tv, .int .i64 PU, .int .i64 M1, .int .i64 HY, .slice Qq P2 Qr, .bool MO, .int .i64 I5], .slice p1 n1 c1] σ R := M.start h ok
theorem Aa (h : Br (x12 < x11) (Pq ZB fun BB Oq => In x12 (n10 : Int) ∧ ∃ ya yb yc qS, Au σ BB (Oq + Int.toNat x12 * 2) [.slice ya yb yc, .int .u64 qS] ∧ ∀ b8 : Nat, Spec prog 207 #[.agg #[.int .i64 qO, .int .i64 x2b, .string s2c, .slice p2d n2d c2d, .int .i64 x2e, .int .i64 x2f, .int .i64 x2g, .slice p2h n2h c2h, .bool t2i, .int .i64 x2j], .slice ya yb yc] σ (AA R (CS fun p20 n20 c20 y => Spec prog 49 #[.slice p20 n20 c20] y (AA R (CT fun xB AF => AJ prog (Instr.mapUpdate 243 (.map m6) (.string xB) (.agg #[.slice ya yb yc, .int .u64 qS])) AF (fun _ AH => AK (x12 + 1) ∧ A0 R p1 n1 c1 qO x2b s2c p2d n2d c2d x2e x2f x2g p2h n2h c2h t2i x2j m6 (aD BB Oq) n10 TD x11 (x12 + 1) AH)))))) (∃ dD, YF prog (Builtin.len_ #[243] 3 #[.map m6]) σ (.int .i64 dD) ∧ R (.returned (.tuple #[.map m6, (.bool (decide (dD = (n1 : Int))))])) σ)) : A0 R p1 n1 c1 qO x2b s2c p2d n2d c2d x2e x2f x2g p2h n2h c2h t2i x2j m6 ZB n10 TD x11 x12 σ := M.hZ h ok rfl fun _ => by kernel_rfl
end Gi
namespace Dl
variable {TC : Option Addr} {Lp Qw : Nat} {ZC s1 : ByteArray}
def M : Fw := ⟨prog, 219, f219, [236], [2], false, [], [], []⟩
theorem ok : M.Ok := ⟨.cons call236 (AG.nil), mixed, func219, by kernel_rfl⟩
theorem start (h : ∀ b2 : Nat, Spec prog 236 #[.agg #[.slice TC Lp Qw], .string s1] σ (AA R (CB fun t8 y => R (.returned (.bool t8)) y))) : Spec prog 219 #[.agg #[.slice TC Lp Qw, .string ZC], .string s1] σ R := M.start h ok
end Dl
namespace Cy
variable {q0 : Option Addr} {b1 : Nat}
def M : Fw := ⟨prog, 269, f269, [67, 136, 251], [], false, [], [], [(7, [(1, wA)])]⟩
theorem ok : M.Ok := ⟨.cons call67 (.cons call136 (.cons call251 (AG.nil))), mixed, func269, by kernel_rfl⟩
def HX := M.pt 0
theorem start (h : Al σ fun b1 => LQ (Hp.set σ b1 (.cells #[.pointer q0] 124 (0, 0))) b1 0 fun q2 => Spec prog 136 #[.pointer q2, .int .i64 5, (.string (ByteArray.mk #[40]))] (Hp.set σ b1 (.cells #[.pointer q0] 124 (0, 0))) (AA R (CB fun t3 y => Bn t3 (LQ y b1 0 fun q5 => Spec prog 67 #[.pointer q5] y (AA R (fun z AF => z = (.tuple #[]) ∧ HX R b1 AF))) (HX R b1 y)))) : Spec prog 269 #[.pointer q0] σ R := M.start h ok
theorem BY (h : LQ σ b1 0 fun q7 => Spec prog 251 #[.pointer q7, (.func (.func 294) #[] #[(.pointer (aD b1 0))])] σ (AA R (fun z y => z = (.tuple #[]) ∧ R (.returned (.tuple #[])) y))) : HX R b1 σ := M.of h ok rfl
end Cy
end TwW
end
end
section
namespace Tw
open Go
variable [Eg]
def Ax (τ : Hp) : List (Nat × Obj) → Hp
 | [] => τ
 | (b, o) :: L => (Ax τ L).set b o
abbrev names (L : List (Nat × Obj)) : List Nat := L.map Prod.fst
section
variable {τ : Hp} {L : List (Nat × Obj)} {b i : Nat} {o o' : Obj}
theorem Hz (h : b ∉ names L) : Ax τ L b = τ b := by
 induction L with
 | nil => rfl
 | cons p L ih =>
   simp only [names, List.map_cons, List.mem_cons, not_or] at h
   simp only [Ax, Hp.AI h.1]
   exact ih h.2
theorem Ec : ∀ {L : List (Nat × Obj)} {i : Nat}, (names L).Nodup → L[i]? = some (b, o) → Ax τ L b = some o
 | p :: L, 0, _, h => by simp at h; subst h; exact Hp.AB _ _ _
 | p :: L, i + 1, hn, h => by
   simp only [List.getElem?_cons_succ] at h
   have hm : b ∈ names L := List.mem_map.2 ⟨_, List.mem_of_getElem? h, rfl⟩
   have hn := List.nodup_cons.1 (show (p.1 :: names L).Nodup from hn)
   have A3 : b ≠ p.1 := fun e => hn.1 (e ▸ hm)
   simp only [Ax, Hp.AI A3]
   exact Ec hn.2 h
theorem Hp.BP {σ : Hp} {a b : Nat} {o u : Obj} (h : a ≠ b) : (σ.set a o).set b u = (σ.set b u).set a o := by
 funext k
 simp only [Hp.set]
 by_cases h1 : k = a
 · subst h1; simp [h]
 · simp [h1]
theorem NK : ∀ {L : List (Nat × Obj)} {i : Nat}, (names L).Nodup → L[i]? = some (b, o) → (Ax τ L).set b o' = Ax τ (L.set i (b, o'))
 | p :: L, 0, _, h => by simp at h; subst h; exact Hp.set_set
 | p :: L, i + 1, hn, h => by
   simp only [List.getElem?_cons_succ] at h
   have hm : b ∈ names L := List.mem_map.2 ⟨_, List.mem_of_getElem? h, rfl⟩
   have hn := List.nodup_cons.1 (show (p.1 :: names L).Nodup from hn)
   have A3 : b ≠ p.1 := fun e => hn.1 (e ▸ hm)
   simp only [Ax, List.set_cons_succ]
   rw [Hp.BP (Ne.symm A3), NK hn.2 h]
theorem Gj : ∀ {L : List (Nat × Obj)}, b ∉ names L → (Ax τ L).set b o = Ax (τ.set b o) L
 | [], _ => rfl
 | p :: L, h => by
   simp only [names, List.map_cons, List.mem_cons, not_or] at h
   simp only [Ax]
   rw [Hp.BP (Ne.symm h.1), Gj h.2]
theorem UF : ∀ {L : List (Nat × Obj)}, b ∈ names L → Ax τ L b ≠ none
 | p :: L, h => by
   by_cases hb : b = p.1
   · subst hb; simp only [Ax, Hp.AB]; simp
   · simp only [names, List.map_cons, List.mem_cons] at h
     simp only [Ax, Hp.AI hb]
     exact UF (h.resolve_left hb)
theorem B4 (h : Ax τ L b = none) : b ∉ names L ∧ τ b = none := by
 have hs : ∀ {L : List (Nat × Obj)}, b ∉ names L → Ax τ L b = τ b := Hz
 have hn : b ∉ names L := fun hm => UF hm h
 exact ⟨hn, (hs hn).symm.trans h⟩
def O4 (L : List (Nat × Obj)) (τ : Hp) : Prop := ∀ b ∈ names L, τ b = none
theorem O4.ext {τ : Hp} : ∀ {L : List (Nat × Obj)}, (names L).Nodup → O4 L τ → Ext τ (Ax τ L)
 | [], _, _ => .refl τ
 | p :: L, hn, h => by
   have hn := List.nodup_cons.1 (show (p.1 :: names L).Nodup from hn)
   have ih := O4.ext hn.2 (fun b hb => h b (List.mem_cons_of_mem _ hb))
   refine ih.trans (.set ?_)
   rw [Hz hn.1]
   exact h _ (List.mem_cons_self ..)
theorem O4.set {τ : Hp} {b : Nat} {o : Obj} (h : O4 L τ) (hb : b ∉ names L) : O4 L (τ.set b o) := fun c hc => by
 have A3 : c ≠ b := fun e => hb (e ▸ hc)
 rw [Hp.AI A3]; exact h c hc
end
theorem Spec.Ed {P : Program} {f : FuncId} {args : Array Value} {τ : Hp} : ∀ {L : List (Nat × Obj)} {R : Rr}, (names L).Nodup → O4 L τ →
   Spec P f args τ (fun e τ' => O4 L τ' → R e (Ax τ' L)) → Spec P f args (Ax τ L) R
 | [], R, _, _, h => h.mono fun e τ' hr => hr (fun b hb => by cases hb)
 | p :: L, R, hn, ho, h => by
   have hn := List.nodup_cons.1 (show (p.1 :: names L).Nodup from hn)
   refine Spec.Ak (by rw [Hz hn.1]; exact ho _ (List.mem_cons_self ..)) ?_
   refine Spec.Ed hn.2 (fun b hb => ho b (List.mem_cons_of_mem _ hb)) (h.mono fun e τ' hr TG Ft => hr fun b hb => ?_)
   rcases List.mem_cons.1 (show b ∈ p.1 :: names L from hb) with rfl | hb
   · rw [Hz hn.1] at Ft; exact Ft
   · exact TG b hb
theorem AJ.Ed {P : Program} {α : Type} {m : Sem α} {τ : Hp} : ∀ {L : List (Nat × Obj)} {Φ : α → Hp → Prop}, (names L).Nodup → O4 L τ →
   AJ P m τ (fun v τ' => O4 L τ' → Φ v (Ax τ' L)) → AJ P m (Ax τ L) Φ
 | [], R, _, _, h => h.mono fun e τ' hr => hr (fun b hb => by cases hb)
 | p :: L, R, hn, ho, h => by
   have hn := List.nodup_cons.1 (show (p.1 :: names L).Nodup from hn)
   refine AJ.Ak (by rw [Hz hn.1]; exact ho _ (List.mem_cons_self ..)) ?_
   refine AJ.Ed hn.2 (fun b hb => ho b (List.mem_cons_of_mem _ hb)) (h.mono fun e τ' hr TG Ft => hr fun b hb => ?_)
   rcases List.mem_cons.1 (show b ∈ p.1 :: names L from hb) with rfl | hb
   · rw [Hz hn.1] at Ft; exact Ft
   · exact TG b hb
theorem AJ.R5 {P : Program} {τ : Hp} {L : List (Nat × Obj)} {i b n o : Nat} {T t : TypeId} {c c' : Array Value} {v : Value} {Φ : Unit → Hp → Prop} (hz : ∀ w, (Go.sizeOf T).run P w = .ok n w) (hn : (names L).Nodup) (hi : L[i]? = some (b, .cells c t (0, 0)))
   (hv : v.cells.size = n) (hl : Nat.ble (o + n) c.size = true) (h1 : (v.cells.toList.all fun u => u.oneCell') = true) (hc : Mm c o v.cells.toList = c') (h : Φ () (Ax τ (L.set i (b, .cells c' t (0, 0))))) :
   AJ P (Instr.storeAt T (.pointer (some ⟨b, o, none⟩)) v) (Ax τ L) Φ := by
 subst hc
 refine AJ.store hz (Ec hn hi) hv (Nat.le_of_ble_eq_true hl) (fun u hu => List.all_eq_true.1 h1 u hu) ?_
 rw [NK hn hi]; exact h
theorem YB {τ : Hp} {L : List (Nat × Obj)} {i b o : Nat} {t : TypeId} {c : Array Value} {v : Value} (hn : (names L).Nodup) (hi : L[i]? = some (b, .cells c t (0, 0))) (h : c[o]? = some v) : Hp.ld (Ax τ L) ⟨b, o, none⟩ = some v := by
 simp [Hp.ld, Ec hn hi, h]
end Tw
end
section
namespace Tw
open Go Go.MapKept
variable [Eg]
def QO (p : Option Addr) : List Nat := match p with
 | some a => [a.block]
 | none => []
structure Loc (A : Hp → Prop) (σ : Hp) (S : List Nat) : Prop where
 here : A σ
 known : ∀ b ∈ S, σ b ≠ none
 loc : ∀ σ', (∀ b ∈ S, σ' b = σ b) → A σ'
section
variable {P : Program} {σ : Hp} {α : Type}
theorem AJ.obj {m : Sem α} {b : Nat} {o o' : Obj} {v : α} {Φ : α → Hp → Prop} (hb : σ b = some o) (hm : ∀ w, Sat σ w → ∃ w1 : World, (w1 = w ∨ w1 = w.drew) ∧ m.run P w = .ok v (ChangeMaps.setBlock w1 b o')) (h : Φ v (σ.set b o')) : AJ P m σ Φ := fun w F hs hF => by
 obtain ⟨w1, hw, CX⟩ := hm w hs
 have As : b < w.heap.size := (Array.getElem?_eq_some_iff.1 (hs b o hb)).1
 have Mq : w1.heap = w.heap := by rcases hw with rfl | rfl <;> rfl
 refine ⟨v, _, _, CX, h, fun k u hk => ?_, fun k hk => ?_, ?_, ?_, ?_⟩
 · simp only [ChangeMaps.setBlock, Mq]
   by_cases Fz : k = b
   · subst Fz; rw [Hp.AB] at hk; cases hk; simp [As]
   · rw [Hp.AI Fz] at hk; simp [Ne.symm Fz, hs k u hk]
 · have Fz : k ≠ b := fun e => by have := (hF k hk).2; rw [e, hb] at this; cases this
   refine ⟨by rw [Hp.AI Fz]; exact (hF k hk).2, ?_⟩
   simp [ChangeMaps.setBlock, Mq, Ne.symm Fz]
 · rcases hw with rfl | rfl
   · exact .same rfl rfl rfl
   · exact ⟨rfl, rfl, fun _ => ⟨1, rfl⟩⟩
 · rcases hw with rfl | rfl <;> rfl
 · simp [ChangeMaps.setBlock, Mq]
theorem AJ.new {m : Sem α} {o : Obj} {v : Nat → α} {Φ : α → Hp → Prop} (hm : ∀ w, Sat σ w → m.run P w = .ok (v w.heap.size) (w.alloc o)) (h : ∀ b, σ b = none → Φ (v b) (σ.set b o)) : AJ P m σ Φ := fun w F hs hF =>
 ⟨_, _, _, hm w hs, h _ (FH hs), Fin.alloc hs hF _ rfl (.same rfl rfl rfl) rfl⟩
class lg (P : Program) (T : TypeId) (K V : outParam TypeId) : Prop where
 cA : P.underlying T = some (.map K V)
 key : P.underlying K = some .string
def BH (σ : Hp) (b : Nat) (l : List MapEntry) (clock : Nat) : Prop := σ b = some (.map l.toArray clock) ∧ Stamped l.toArray clock ∧ ∀ x ∈ l, IsKey .string x.key
theorem BH.mono {σ σ' : Hp} {b : Nat} {l : List MapEntry} {clock : Nat} (h : BH σ b l clock) (hx : Ext σ σ') : BH σ' b l clock := ⟨hx _ _ h.1, h.2⟩
theorem BH.loc {σ σ' : Hp} {b : Nat} {l : List MapEntry} {clock : Nat} (h : BH σ b l clock) (hx : σ' b = σ b) : BH σ' b l clock := ⟨hx.trans h.1, h.2⟩
theorem BH.nodup {σ : Hp} {b : Nat} {l : List MapEntry} {clock : Nat} (h : BH σ b l clock) : (l.map (·.key)).Nodup := h.2.1.2.2
theorem E5 {s : ByteArray} {l : List MapEntry} (hk : ∀ x ∈ l, IsKey .string x.key) :
   (Instr.findNow .string (.string s) l 0 = some none ∧ ∀ x ∈ l, x.key ≠ .string s) ∨ ∃ l1 e l2, l = l1 ++ e :: l2 ∧ e.key = .string s ∧ Instr.findNow .string (.string s) l 0 = some (some (l1.length, e.val)) := by
 rcases findNow_spec (d := .string) (k := .string s) trivial l 0 hk with h | ⟨j, e, h1, h2, h3⟩
 · exact .inl h
 · obtain ⟨hj, rfl⟩ := List.getElem?_eq_some_iff.1 h2
   refine .inr ⟨l.take j, l[j], l.drop (j + 1), ?_, h3, ?_⟩
   · rw [List.getElem_cons_drop, List.take_append_drop]
   · rw [h1]; simp [Nat.min_eq_left (Nat.le_of_lt hj)]
section
variable {T K V ty : TypeId} {b clock : Nat} {l : List MapEntry} {s : ByteArray}
theorem D4 {Φ : Value → Hp → Prop} (h : ∀ b, σ b = none → Φ (.map (some b)) (σ.set b (.map #[] 0))) : AJ P (Instr.makeMap T none) σ Φ :=
 AJ.new (v := fun b => .map (some b)) (fun w _ => by simp [Instr.makeMap, Result.andThen]) h
theorem BH.fresh {b : Nat} {σ : Hp} : BH (σ.set b (.map #[] 0)) b [] 0 := ⟨Hp.AB _ _ _, stamped_empty 0, by simp⟩
theorem OP [t : lg P T K V] (hm : BH σ b l clock) {z : Value} (hz : ∀ w, (zeroValue V).run P w = .ok z w) {Q : Value → Prop}
   (h0 : (∀ x ∈ l, x.key ≠ .string s) → Q z) (h1 : ∀ l1 e l2, l = l1 ++ e :: l2 → e.key = .string s → Q e.val) : ∃ v, Q v ∧ YF P (Instr.lookup T (.map (some b)) (.string s) false) σ v := by
 rcases E5 (s := s) hm.2.2 with ⟨hf, hn⟩ | ⟨l1, e, l2, hl, he, hf⟩
 · refine ⟨z, h0 hn, fun w hs => ?_⟩
   have := hs _ _ hm.1
   simp [Instr.lookup, run_underlying t.cA, run_getObj_map this, run_checkKey t.key (k := .string s) trivial, run_findKey t.key hf, hz, Result.andThen]
 · refine ⟨e.val, h1 l1 e l2 hl he, fun w hs => ?_⟩
   have := hs _ _ hm.1
   simp [Instr.lookup, run_underlying t.cA, run_getObj_map this, run_checkKey t.key (k := .string s) trivial, run_findKey t.key hf, Result.andThen]
theorem MU [t : lg P T K V] (hm : BH σ b l clock) {z : Value} (hz : ∀ w, (zeroValue V).run P w = .ok z w) {Φ : Value → Hp → Prop}
   (h0 : (∀ x ∈ l, x.key ≠ .string s) → Φ z σ) (h1 : ∀ l1 e l2, l = l1 ++ e :: l2 → e.key = .string s → Φ e.val σ) : AJ P (Instr.lookup T (.map (some b)) (.string s) false) σ Φ := by
 obtain ⟨v, hq, hy⟩ := OP (T := T) (K := K) (s := s) (Q := fun v => Φ v σ) hm hz h0 h1
 exact AJ.pu hy hq
theorem lh [t : lg P T K V] (hm : BH σ b l clock) : YF P (Builtin.len_ #[T] ty #[.map (some b)]) σ (.int .i64 l.length) := fun w hs => by
 have := hs _ _ hm.1
 simp [Builtin.len_, run_underlying t.cA, run_getObj_map this, goInt, Result.andThen]
abbrev Mx (s : ByteArray) (v : Value) (n : Nat) : MapEntry := { key := .string s, val := v, born := n }
theorem HU [t : lg P T K V] (hm : BH σ b l clock) {v : Value} {Φ : Unit → Hp → Prop}
   (h0 : (∀ x ∈ l, x.key ≠ .string s) → ∀ σ', σ' = σ.set b (.map (l ++ [Mx s v clock]).toArray (clock + 1)) → BH σ' b (l ++ [Mx s v clock]) (clock + 1) → Φ () σ')
   (h1 : ∀ l1 e l2, l = l1 ++ e :: l2 → e.key = .string s → ∀ σ', σ' = σ.set b (.map (l1 ++ Mx s v e.born :: l2).toArray clock) → BH σ' b (l1 ++ Mx s v e.born :: l2) clock → Φ () σ') :
   AJ P (Instr.mapUpdate T (.map (some b)) (.string s) v) σ Φ := by
 obtain ⟨hb, CP, hk⟩ := hm
 rcases E5 (s := s) hk with ⟨hf, hn⟩ | ⟨l1, e, l2, hl, he, hf⟩
 · have YC : (l ++ [Mx s v clock]).toArray = l.toArray.push (Mx s v clock) := by simp
   refine AJ.obj (v := ()) (o' := .map (l ++ [Mx s v clock]).toArray (clock + 1)) hb (fun w hs => ⟨w, .inl rfl, ?_⟩) (h0 hn _ rfl ⟨Hp.AB _ _ _, ?_, ?_⟩)
   · have := hs _ _ hb
     rw [YC]
     simp only [Instr.mapUpdate, Sem.run_bind, run_underlying t.cA, run_getObj_map this, run_checkKey t.key (k := .string s) trivial, run_findKey t.key hf, Result.andThen_ok]
     simp [setObj, Sem.run, this, ChangeMaps.setBlock]
   · rw [YC]; exact stamped_push CP (by simpa using hn)
   · intro x hx
     rcases List.mem_append.1 hx with hx | hx
     · exact hk x hx
     · rw [List.mem_singleton] at hx; subst hx; trivial
 · subst hl
   have lj : (l1 ++ Mx s v e.born :: l2).toArray = (l1 ++ e :: l2).toArray.modify l1.length (fun e => { e with key := .string s, val := v }) := by
     rw [← Array.toList_inj]
     apply List.ext_getElem?
     intro j
     simp only [Array.getElem?_toList, Array.getElem?_modify, List.getElem?_toArray]
     by_cases hj : l1.length = j
     · subst hj; simp
     · rw [if_neg hj]
       rcases Nat.lt_or_ge j l1.length with h | h
       · rw [List.getElem?_append_left h, List.getElem?_append_left h]
       · have : ∃ k, j = l1.length + (k + 1) := ⟨j - l1.length - 1, by omega⟩
         obtain ⟨k, rfl⟩ := this
         simp [List.getElem?_append_right]
   have fR : (l1 ++ e :: l2).toArray[l1.length]? = some e := by simp
   refine AJ.obj (v := ()) (o' := .map (l1 ++ Mx s v e.born :: l2).toArray clock) hb (fun w hs => ⟨w, .inl rfl, ?_⟩) (h1 l1 e l2 rfl he _ rfl ⟨Hp.AB _ _ _, ?_, ?_⟩)
   · have := hs _ _ hb
     rw [lj]
     simp only [Instr.mapUpdate, Sem.run_bind, run_underlying t.cA, run_getObj_map this, run_checkKey t.key (k := .string s) trivial, run_findKey t.key hf, Result.andThen_ok, fR, Option.map_some, Option.getD_some, he,
       run_keyThatStays (d := .string) (k := .string s) trivial]
     simp [setObj, Sem.run, this, ChangeMaps.setBlock]
   · rw [lj]; exact stamped_modify CP _ _ (fun _ _ => rfl) (fun e' _ WC => by rw [fR] at WC; cases WC; exact he.symm)
   · intro x hx
     rcases List.mem_append.1 hx with hx | hx
     · exact hk x (List.mem_append_left _ hx)
     · rcases List.mem_cons.1 hx with rfl | hx
       · trivial
       · exact hk x (List.mem_append_right _ (List.mem_cons_of_mem _ hx))
end
end
end Tw
end
section
theorem Tw.Hp.AW {σ : Tw.Hp} {b k : Nat} {o : Go.Obj} (h : (σ.set b o) k = none) : k ≠ b ∧ σ k = none := by
 have A3 : k ≠ b := fun e => by rw [e, Tw.Hp.AB] at h; cases h
 exact ⟨A3, by rw [Tw.Hp.AI A3] at h; exact h⟩
namespace lk
open Go Go.MapKept Tw
variable [Eg]
section
variable {P : Program} {σ : Hp}
class oU (P : Program) (T : TypeId) (K V : outParam TypeId) : Prop where
 cA : P.underlying T = some (.map K V)
 key : P.underlying K = some (.int .i64)
def BH (σ : Hp) (b : Nat) (l : List MapEntry) (clock : Nat) : Prop := σ b = some (.map l.toArray clock) ∧ Stamped l.toArray clock ∧ ∀ x ∈ l, IsKey (.int .i64) x.key
theorem BH.loc {σ σ' : Hp} {b : Nat} {l : List MapEntry} {clock : Nat} (h : BH σ b l clock) (hx : σ' b = σ b) : BH σ' b l clock := ⟨hx.trans h.1, h.2⟩
theorem E5 {s : Int} {l : List MapEntry} (hk : ∀ x ∈ l, IsKey (.int .i64) x.key) :
   (Instr.findNow (.int .i64) (.int .i64 s) l 0 = some none ∧ ∀ x ∈ l, x.key ≠ .int .i64 s) ∨ ∃ l1 e l2, l = l1 ++ e :: l2 ∧ e.key = .int .i64 s ∧ Instr.findNow (.int .i64) (.int .i64 s) l 0 = some (some (l1.length, e.val)) := by
 rcases findNow_spec (d := .int .i64) (k := .int .i64 s) rfl l 0 hk with h | ⟨j, e, h1, h2, h3⟩
 · exact .inl h
 · obtain ⟨hj, rfl⟩ := List.getElem?_eq_some_iff.1 h2
   refine .inr ⟨l.take j, l[j], l.drop (j + 1), ?_, h3, ?_⟩
   · rw [List.getElem_cons_drop, List.take_append_drop]
   · rw [h1]; simp [Nat.min_eq_left (Nat.le_of_lt hj)]
section
variable {T K V ty : TypeId} {b clock : Nat} {l : List MapEntry} {s : Int}
theorem BH.fresh {b : Nat} {σ : Hp} : BH (σ.set b (.map #[] 0)) b [] 0 := ⟨Hp.AB _ _ _, stamped_empty 0, by simp⟩
theorem OP [t : oU P T K V] (hm : BH σ b l clock) {z : Value} (hz : ∀ w, (zeroValue V).run P w = .ok z w) {Q : Value → Prop}
   (h0 : (∀ x ∈ l, x.key ≠ .int .i64 s) → Q z) (h1 : ∀ l1 e l2, l = l1 ++ e :: l2 → e.key = .int .i64 s → Q e.val) : ∃ v, Q v ∧ YF P (Instr.lookup T (.map (some b)) (.int .i64 s) false) σ v := by
 rcases E5 (s := s) hm.2.2 with ⟨hf, hn⟩ | ⟨l1, e, l2, hl, he, hf⟩
 · refine ⟨z, h0 hn, fun w hs => ?_⟩
   have := hs _ _ hm.1
   simp [Instr.lookup, run_underlying t.cA, run_getObj_map this, run_checkKey t.key (k := .int .i64 s) rfl, run_findKey t.key hf, hz, Result.andThen]
 · refine ⟨e.val, h1 l1 e l2 hl he, fun w hs => ?_⟩
   have := hs _ _ hm.1
   simp [Instr.lookup, run_underlying t.cA, run_getObj_map this, run_checkKey t.key (k := .int .i64 s) rfl, run_findKey t.key hf, Result.andThen]
theorem MU [t : oU P T K V] (hm : BH σ b l clock) {z : Value} (hz : ∀ w, (zeroValue V).run P w = .ok z w) {Φ : Value → Hp → Prop}
   (h0 : (∀ x ∈ l, x.key ≠ .int .i64 s) → Φ z σ) (h1 : ∀ l1 e l2, l = l1 ++ e :: l2 → e.key = .int .i64 s → Φ e.val σ) : AJ P (Instr.lookup T (.map (some b)) (.int .i64 s) false) σ Φ := by
 obtain ⟨v, hq, hy⟩ := OP (T := T) (K := K) (s := s) (Q := fun v => Φ v σ) hm hz h0 h1
 exact AJ.pu hy hq
theorem lh [t : oU P T K V] (hm : BH σ b l clock) : YF P (Builtin.len_ #[T] ty #[.map (some b)]) σ (.int .i64 l.length) := fun w hs => by
 have := hs _ _ hm.1
 simp [Builtin.len_, run_underlying t.cA, run_getObj_map this, goInt, Result.andThen]
abbrev Mx (s : Int) (v : Value) (n : Nat) : MapEntry := { key := .int .i64 s, val := v, born := n }
theorem HU [t : oU P T K V] (hm : BH σ b l clock) {v : Value} {Φ : Unit → Hp → Prop}
   (h0 : (∀ x ∈ l, x.key ≠ .int .i64 s) → ∀ σ', σ' = σ.set b (.map (l ++ [Mx s v clock]).toArray (clock + 1)) → BH σ' b (l ++ [Mx s v clock]) (clock + 1) → Φ () σ')
   (h1 : ∀ l1 e l2, l = l1 ++ e :: l2 → e.key = .int .i64 s → ∀ σ', σ' = σ.set b (.map (l1 ++ Mx s v e.born :: l2).toArray clock) → BH σ' b (l1 ++ Mx s v e.born :: l2) clock → Φ () σ') :
   AJ P (Instr.mapUpdate T (.map (some b)) (.int .i64 s) v) σ Φ := by
 obtain ⟨hb, CP, hk⟩ := hm
 rcases E5 (s := s) hk with ⟨hf, hn⟩ | ⟨l1, e, l2, hl, he, hf⟩
 · have YC : (l ++ [Mx s v clock]).toArray = l.toArray.push (Mx s v clock) := by simp
   refine AJ.obj (v := ()) (o' := .map (l ++ [Mx s v clock]).toArray (clock + 1)) hb (fun w hs => ⟨w, .inl rfl, ?_⟩) (h0 hn _ rfl ⟨Hp.AB _ _ _, ?_, ?_⟩)
   · have := hs _ _ hb
     rw [YC]
     simp only [Instr.mapUpdate, Sem.run_bind, run_underlying t.cA, run_getObj_map this, run_checkKey t.key (k := .int .i64 s) rfl, run_findKey t.key hf, Result.andThen_ok]
     simp [setObj, Sem.run, this, ChangeMaps.setBlock]
   · rw [YC]; exact stamped_push CP (by simpa using hn)
   · intro x hx
     rcases List.mem_append.1 hx with hx | hx
     · exact hk x hx
     · rw [List.mem_singleton] at hx; subst hx; rfl
 · subst hl
   have lj : (l1 ++ Mx s v e.born :: l2).toArray = (l1 ++ e :: l2).toArray.modify l1.length (fun e => { e with key := .int .i64 s, val := v }) := by
     rw [← Array.toList_inj]
     apply List.ext_getElem?
     intro j
     simp only [Array.getElem?_toList, Array.getElem?_modify, List.getElem?_toArray]
     by_cases hj : l1.length = j
     · subst hj; simp
     · rw [if_neg hj]
       rcases Nat.lt_or_ge j l1.length with h | h
       · rw [List.getElem?_append_left h, List.getElem?_append_left h]
       · have : ∃ k, j = l1.length + (k + 1) := ⟨j - l1.length - 1, by omega⟩
         obtain ⟨k, rfl⟩ := this
         simp [List.getElem?_append_right]
   have fR : (l1 ++ e :: l2).toArray[l1.length]? = some e := by simp
   refine AJ.obj (v := ()) (o' := .map (l1 ++ Mx s v e.born :: l2).toArray clock) hb (fun w hs => ⟨w, .inl rfl, ?_⟩) (h1 l1 e l2 rfl he _ rfl ⟨Hp.AB _ _ _, ?_, ?_⟩)
   · have := hs _ _ hb
     rw [lj]
     simp only [Instr.mapUpdate, Sem.run_bind, run_underlying t.cA, run_getObj_map this, run_checkKey t.key (k := .int .i64 s) rfl, run_findKey t.key hf, Result.andThen_ok, fR, Option.map_some, Option.getD_some, he,
       run_keyThatStays (d := .int .i64) (k := .int .i64 s) rfl]
     simp [setObj, Sem.run, this, ChangeMaps.setBlock]
   · rw [lj]; exact stamped_modify CP _ _ (fun _ _ => rfl) (fun e' _ WC => by rw [fR] at WC; cases WC; exact he.symm)
   · intro x hx
     rcases List.mem_append.1 hx with hx | hx
     · exact hk x (List.mem_append_left _ hx)
     · rcases List.mem_cons.1 hx with rfl | hx
       · rfl
       · exact hk x (List.mem_append_right _ (List.mem_cons_of_mem _ hx))
end
end
end lk
end
section
namespace Tw
open Go
variable [Eg]
def R6 (s : ByteArray) : List Value := s.data.toList.map fun b => .int .u8 b.toNat
theorem ll {s : ByteArray} : (R6 s).length = s.size := by simp [R6]
theorem lq {s : ByteArray} : Fy (R6 s) := fun u hu => by obtain ⟨x, _, rfl⟩ := List.mem_map.1 hu; rfl
section append
variable {P : Program} {T E ty : TypeId} {bs : Nat} {σ : Hp} {p : Option Addr} {n c m : Nat} {cs ys : List Value} {Φ : Value → Hp → Prop}
theorem R7 {str : ByteArray} (w : World) (size : Nat) : (Builtin.firstCells size str.size (.string str)).run P w = .ok (R6 str).toArray w := by
 have hx : (Array.map (fun b : UInt8 => Value.int IntKind.u8 (b.toNat : Int)) str.data).extract 0 str.size = (R6 str).toArray := by
   have hs : str.size = (Array.map (fun b : UInt8 => Value.int IntKind.u8 (b.toNat : Int)) str.data).size := by rw [Array.size_map]; rfl
   rw [hs, Array.extract_size]
   apply Array.ext'
   simp [R6]
 have A4 : Array.map (fun b : UInt8 => Value.int IntKind.u8 (b.toNat : Int)) str.data = (R6 str).toArray := by apply Array.ext'; simp [R6]
 simp [Builtin.firstCells, A4]
theorem qh [h : JZ P T E 1 bs] {U : TypeId} {str : ByteArray} (hU : P.underlying U = some .string) (BI : A6 1 σ p n c cs) (hm : str.size = m) (sV : R6 str = ys) (hb : (n + m) * bs ≤ 140737488355328)
   (hΦ : ∀ p' c' σ', A6 1 σ' p' (n + m) c' (cs ++ ys) → Ext (σ.del p) (σ'.del p') → ((p' = p ∧ c' = c ∧ n + m ≤ c) ∨ (c < n + m ∧ Ext σ σ' ∧ ∀ a, p' = some a → σ a.block = none)) → Φ (.slice p' (n + m) c') σ') :
   AJ P (Builtin.append_ #[T, U] ty #[.slice p n c, .string str]) σ Φ := by
 obtain ⟨ht, ⟨i, z, hi, hz, JO, rfl, hzs⟩, QK, iX⟩ := h
 have h1 : Fy ys := sV ▸ lq
 have hyl : ys.length = m * 1 := by rw [← sV, ← hm, Nat.mul_one]; exact ll
 have h62 : n + m ≤ 140737488355328 := Nat.le_trans (Nat.le_mul_of_pos_right _ iX) hb
 intro w F hs hF
 have hf := R7 (P := P) (str := str) w 1
 rw [sV, hm] at hf
 have og := fun w' : World => R7 (P := P) (str := str) w' 1
 rw [sV, hm] at og
 have Ms := fun w' (hw : Sat σ w') => Kv (P := P) (d := c) w' hw BI.rd
 have hlen : (cs ++ ys).length = (n + m) * 1 := by rw [List.length_append, BI.1, hyl, Nat.add_mul]
 by_cases G7 : n + m ≤ c
 · -- there is room
   rcases BI.2.2 with ⟨hp, hn, hc⟩ | ⟨b, o, arr, T', rfl, hblk, gy, HW, Mn⟩
   · subst hp hn hc
     have hm : m = 0 := by omega
     subst hm
     have sV : ys = [] := List.eq_nil_of_length_eq_zero (by simpa using hyl)
     have Mn : cs = [] := List.eq_nil_of_length_eq_zero (by simpa using BI.1)
     subst sV Mn
     refine ⟨.slice none 0 0, w, σ, ?_, hΦ none 0 σ A6.nil (Ext.refl _) (.inl ⟨rfl, rfl, G7⟩), hs, fun b hb => ⟨(hF b hb).2, rfl⟩, .same rfl rfl rfl, rfl, Nat.le_refl _⟩
     simp [Builtin.append_, run_underlying ht, run_underlying hU, JO, hm, Go.sizeOf, typeInfo, hi, Builtin.lenOf, hf]
   · have hw := hs _ _ hblk
     have vS : o + n * 1 + 0 + ys.length ≤ arr.size := by
       rw [hyl]
       have : (n + m) * 1 ≤ c * 1 := Nat.mul_le_mul_right _ G7
       rw [Nat.add_mul] at this
       omega
     have CP := ED (P := P) b (o + n * 1) T' ys 0 arr w hw vS h1
     simp only [Nat.add_zero, Nat.mul_one] at CP
     refine ⟨.slice (some ⟨b, o, none⟩) (n + m) c, w.setRow b (Mm arr (o + n) ys), σ.set b (.cells (Mm arr (o + n) ys) T' (0, 0)), ?_, hΦ _ _ _ ⟨hlen, by omega, .inr ⟨b, o, _, T', rfl, Hp.AB _ _ _, G7, by rw [Hh]; exact HW, ?_⟩⟩ (by rw [Hp.IM]; exact Ext.refl _) (.inl ⟨rfl, rfl, G7⟩), ?_⟩
     · simp [Builtin.append_, run_underlying ht, run_underlying hU, JO, hm, Go.sizeOf, typeInfo, hi, Builtin.lenOf, G7, hf, Bb, CP]
     · refine List.ext_getElem? fun j => ?_
       rw [List.getElem?_take]
       simp only [List.getElem?_drop, Array.getElem?_toList]
       rw [Ps _ _ _ _ (by omega), List.getElem?_append]
       have e1 : cs.length = n * 1 := BI.1
       have e2 : ys.length = m * 1 := hyl
       have e3 : (n + m) * 1 = n * 1 + m * 1 := Nat.add_mul ..
       by_cases vT : j < cs.length
       · rw [if_pos (by omega), if_neg (by omega), if_pos vT, ← Mn, List.getElem?_take, if_pos (by omega)]
         simp
       · rw [if_neg vT]
         by_cases hj2 : j < (n + m) * 1
         · rw [if_pos hj2, if_pos (by omega), show o + j - (o + n) = j - cs.length by omega]
         · rw [if_neg hj2, List.getElem?_eq_none (by omega)]
     · refine ⟨fun k u hk => ?_, fun k hk => ?_, .same rfl rfl rfl, rfl, by simp⟩
       · by_cases Fz : k = b
         · subst Fz; rw [Hp.AB] at hk; cases hk; exact setRow_heap w k arr _ T' (0, 0) hw
         · rw [Hp.AI Fz] at hk; rw [setRow_other _ _ _ _ Fz]; exact hs k u hk
       · have Fz : k ≠ b := fun h => by have := (hF k hk).2; rw [h, hblk] at this; cases this
         exact ⟨by rw [Hp.AI Fz]; exact (hF k hk).2, setRow_other _ _ _ _ Fz⟩
 · -- it AA9
   have ABA : Builtin.nextslicecap (n + m) c * i.bytes ≤ 281474976710656 := growslice_fits (by omega) hb
   have hgc := grownCap_ge w (n + m) c E
   have S4 : Sat σ w.drew := hs
   have CX : (Builtin.append_ #[T, U] ty #[.slice p n c, .string str]).run P w =
       .ok (.slice (some ⟨w.heap.size, 0, none⟩) (n + m) (grownCap w (n + m) c E))
         (w.drew.alloc (.cells (cs.toArray ++ ys.toArray ++ Builtin.zeroCells z.cells (grownCap w (n + m) c E - (n + m))) E)) := by
     have vU : ¬ (9223372036854775807 < ((n : Int) + (m : Int))) := by omega
     have vV : ¬ (281474976710656 < Builtin.nextslicecap (n + m) c * i.bytes) := by omega
     simp [Builtin.append_, run_underlying ht, run_underlying hU, JO, hm, Go.sizeOf, typeInfo, zeroValue, hi, hz, Builtin.lenOf, G7, vU, vV, Question.forced, og, Ms _ S4, newRow, grownCap]
     congr 2
     apply Array.ext'
     simp [List.append_assoc]
   refine ⟨_, _, σ.set w.heap.size _, CX, hΦ _ _ _ ⟨hlen, by omega, .inr ⟨w.heap.size, 0, _, E, rfl, Hp.AB _ _ _, hgc, ?_, ?_⟩⟩ ?_ (.inr ⟨by omega, Ext.set (FH hs), fun a ha => by cases ha; exact FH hs⟩), Fin.alloc hs hF _ rfl ⟨rfl, rfl, fun _ => ⟨1, rfl⟩⟩ rfl⟩
   · simp only [Array.size_append, List.size_toArray, size_zeroCells, hzs, BI.1, hyl, ← Nat.add_mul]
     have : n + m + (grownCap w (n + m) c E - (n + m)) = grownCap w (n + m) c E := by omega
     rw [this]; omega
   · simp only [Array.toList_append, List.drop_zero]
     rw [← hlen]
     exact List.take_left
   · rw [Hp.Mr (FH hs)]
     exact Ext.IL σ p
end append
end Tw
end
section
namespace Tw
open Go
variable [Eg]
def Hp.or (N M : Hp) : Hp := fun k => match N k with | some o => some o | none => M k
def Dis (N M : Hp) : Prop := ∀ k, M k ≠ none → N k = none
theorem Hp.qi {N M : Hp} {k : Nat} {o : Obj} (h : N k = some o) : N.or M k = some o := by simp [Hp.or, h]
theorem Hp.aX {N M : Hp} {k : Nat} (h : N k = none) : N.or M k = M k := by simp [Hp.or, h]
theorem Ext.qi (N M : Hp) : Ext N (N.or M) := fun _ _ h => Hp.qi h
theorem Ext.aX {N M : Hp} (hd : Dis N M) : Ext M (N.or M) := fun k o h => by rw [Hp.aX (hd k (by rw [h]; simp))]; exact h
theorem Ext.lr {N M σ : Hp} (h1 : Ext N σ) (h2 : Ext M σ) : Ext (N.or M) σ := fun k o h => by
 unfold Hp.or at h
 split at h
 · rename_i u hu; cases h; exact h1 _ _ hu
 · exact h2 _ _ h
end Tw
end
section
namespace TwW
open Go Tw Go.Proofs.Tryz
theorem Ac {σ : Hp} {b o : Nat} {c : Array Value} {t : TypeId} {fr : Nat × Nat} {v : Value} (h : σ b = some (.cells c t fr)) (hv : c[o]? = some v) : σ.ld ⟨b, o, none⟩ = some v := by simp [Hp.ld, h, hv]
section
variable {σ : Hp} {d : Nat} {S : List Nat} {R : Rr}
end
end TwW
namespace TwW
open Go Tw Go.Proofs.Tryz
section
variable {σ : Hp} {d : Nat} {S : List Nat} {R : Rr}
theorem A6.cap {s : Nat} {σ : Hp} {p : Option Addr} {n c : Nat} {cs : List Value} (h : A6 s σ p n c cs) : n ≤ c := by
 rcases h.2.2 with ⟨_, h1, h2⟩ | ⟨b, o, arr, T, _, _, h3, _⟩
 · omega
 · exact h3
end
end TwW
namespace TwW
open Go Tw Go.Proofs.Tryz
def uv (x : Nat) : List Int := if h : 128 ≤ x then ((x % 128 + 128 : Nat) : Int) :: uv (x / 128) else [(x : Int)]
termination_by x
decreasing_by omega
theorem lu {x : Nat} (h : 128 ≤ x) : uv x = ((x % 128 + 128 : Nat) : Int) :: uv (x / 128) := by rw [uv, dif_pos h]
theorem NL {x : Nat} (h : ¬ 128 ≤ x) : uv x = [(x : Int)] := by rw [uv, dif_neg h]
theorem lv : ∀ (k x : Nat), x < 128 ^ (k + 1) → (uv x).length ≤ k + 1
 | 0, x, h => by rw [NL (by simpa using h)]; simp
 | k + 1, x, h => by
   by_cases hx : 128 ≤ x
   · rw [lu hx]
     have := lv k (x / 128) (by rw [Nat.div_lt_iff_lt_mul (by decide)]; rw [Nat.pow_succ] at h; exact h)
     simp; omega
   · rw [NL hx]; simp
theorem Kh {x : Nat} (h : x < 18446744073709551616) : (uv x).length ≤ 10 := lv 9 x (by omega)
set_option maxRecDepth 100000 in
theorem AEq : ∀ y : Fin 256, Go.bits .or .u8 (y.1 : Int) 128 = ((y.1 % 128 + 128 : Nat) : Int) := by decide
theorem NM {R : Rr} {σ : Hp} {p : Option Addr} {n c x : Nat} {xs : List Int} (hr : Di .u8 σ p n xs) (hn : n ≤ 70368744177664) (hx : x < 18446744073709551616)
   (h : ∀ p' n' c' σ', DX .u8 (σ.new σ') p' n' c' (xs ++ uv x) → Ext σ σ' → R (.returned (.slice p' n' c')) σ') : Spec prog 107 #[.slice p n c, .int .u64 x] σ R := by
 refine De.start fun b hb => ?_
 refine Dj A6.empty ((Ex.of_map hr).mono (.set hb)) Fy.Pu (by omega) fun p' c' σ' BI Io => ?_
 have hq : ∀ a : Addr, (some (⟨b, 0, none⟩ : Addr)) = some a → σ a.block = none := fun a ha => by cases ha; exact hb
 have ho := A6.QL BI (GF hq Io (.set hb))
 have he := Kw hq Io (.set hb)
 refine ⟨p', 0 + n, c', rfl, ?_⟩
 rw [Nat.zero_add] at ho ⊢
 have hlen := hr.1
 suffices H : ∀ (k x n' : Nat) p' c' σ' ys, x < 128 ^ (k + 1) → n' + k ≤ n + 9 → DX .u8 (σ.new σ') p' n' c' ys → Ext σ σ' → (∀ p' n' c' σ', DX .u8 (σ.new σ') p' n' c' (ys ++ uv x) → Ext σ σ' → R (.returned (.slice p' n' c')) σ') → De.I7 R x p' n' c' σ' from
   H 9 x n p' c' σ' xs (by omega) (by omega) ho he h
 intro k
 induction k with
 | zero =>
   intro x n' p' c' σ' ys hx WJ ho he h
   refine De.BN ⟨fun As => by omega, fun _ aK yd b2 PN => ?_⟩
   have aY : aK = (x : Int) := by rw [yd]; simp [IntKind.wrap, IntKind.bits, IntKind.signed]; omega
   subst aY
   refine DX.JL he ho (by omega) (fun p2 c2 σ2 BW oV _ => ⟨p2, n' + 1, c2, rfl, h _ _ _ _ ?_ oV⟩) PN
   rw [NL (by omega)]; exact BW
 | succ k ih =>
   intro x n' p' c' σ' ys hx WJ ho he h
   refine De.BN ⟨fun As x15 AKW x16 AKX b2 PN => ?_, fun fR aK yd b2 PN => ?_⟩
   · have h15 : x15 = ((x % 256 : Nat) : Int) := by rw [AKW]; simp [IntKind.wrap, IntKind.bits, IntKind.signed]
     have h16 : x16 = ((x % 128 + 128 : Nat) : Int) := by
       rw [AKX, h15, AEq ⟨x % 256, Nat.mod_lt _ (by decide)⟩]
       have : x % 256 % 128 = x % 128 := by omega
       rw [this]
     subst h16
     refine DX.JL he ho (by omega) (fun p2 c2 σ2 BW oV _ => ⟨p2, n' + 1, c2, rfl, by simp [IntKind.bits], fun x12 AKY => ?_⟩) PN
     have WD : x12 = ((x / 128 : Nat) : Int) := by rw [AKY]; simp
     subst WD
     refine ih (x / 128) (n' + 1) p2 c2 σ2 _ (by rw [Nat.div_lt_iff_lt_mul (by decide)]; rw [Nat.pow_succ] at hx; exact hx) (by omega) BW oV fun p3 n3 c3 σ3 FB he3 => h p3 n3 c3 σ3 ?_ he3
     rw [lu (by omega)]
     simpa using FB
   · have aY : aK = (x : Int) := by rw [yd]; simp [IntKind.wrap, IntKind.bits, IntKind.signed]; omega
     subst aY
     refine DX.JL he ho (by omega) (fun p2 c2 σ2 BW oV _ => ⟨p2, n' + 1, c2, rfl, h _ _ _ _ ?_ oV⟩) PN
     rw [NL (by omega)]; exact BW
end TwW
namespace TwW
open Go Tw Go.RowKit Go.Proofs.Tryz
theorem Ex.at1 {σ : Hp} {p : Option Addr} {n k : Nat} {L : List Value} {v : Value} (h : Ex 1 σ p n L) (hk : L[k]? = some v) : ∃ b o, p = some ⟨b, o, none⟩ ∧ σ.ld ⟨b, o + k * 1, none⟩ = some v := by
 obtain ⟨h1, _, h2⟩ := h
 have As := (List.getElem?_eq_some_iff.1 hk).1
 rcases h2 with h2 | ⟨b, o, hp, hl⟩
 · simp at h1; omega
 · refine ⟨b, o, hp, ?_⟩
   rw [Nat.mul_one]
   exact hl.get hk
section
variable {σ τ : Hp} {d : Nat} {R : Rr}
end
section
variable {dir : ByteArray} {cnt : Nat}
end
end TwW
namespace TwW
open Go Tw Go.RowKit Go.Proofs.Tryz
def ye (s : ByteArray) : List Int := s.data.toList.map fun b => (b.toNat : Int)
theorem dM {s : ByteArray} : (ye s).length = s.size := by simp [ye]
theorem lx {s : ByteArray} : R6 s = (ye s).map (.int .u8) := by simp [R6, ye]
section
variable {σ : Hp} {R : Rr}
theorem NN {p : Option Addr} {n c : Nat} {xs : List Int} {s : ByteArray} (hr : Di .u8 σ p n xs) (hn : n ≤ 1048576) (hs : s.size ≤ 1048576)
   (h : ∀ p' n' c' σ', DX .u8 (σ.new σ') p' n' c' (xs ++ uv s.size ++ ye s) → Ext σ σ' → R (.returned (.slice p' n' c')) σ') : Spec prog 108 #[.slice p n c, .string s] σ R := by
 refine Lo.start fun x8 h8 => ?_
 have e8 : x8 = (s.size : Int) := by rw [h8]; simp [IntKind.wrap, IntKind.bits, IntKind.signed]; omega
 subst e8
 refine NM hr (by omega) (by omega) fun p' n' c' σ1 ho Cd => ⟨p', n', c', rfl, ?_⟩
 have hq : ∀ a, p' = some a → σ a.block = none := fun a ha => by
   have h2 := A6.block ho a ha
   cases hh : (σ.new σ1) a.block with
   | none => exact absurd hh h2
   | some o => exact (AY.1 hh).1
 have hl : (xs ++ uv s.size).length = n' := by have := ho.1; simpa using this
 have R8 := Kh (x := s.size) (by omega)
 have hxl : xs.length = n := hr.1
 rw [List.length_append] at hl
 refine qh underlying9 (A6.mono (Ext.CY _ _) ho) rfl lx (by omega) fun p2 c2 σ2 BW A4 _ => ⟨p2, _, c2, rfl, ?_⟩
 have PN := GF hq A4 Cd
 refine h p2 _ c2 σ2 ?_ (Kw hq A4 Cd)
 have := A6.QL BW PN
 simpa [DX] using this
theorem O5 {p : Option Addr} {n c : Nat} {xs : List Int} (h : DX .u8 σ p n c xs) : xs.length = n := by have := h.1; simpa using this
theorem dO {s : ByteArray} : (ByteArray.toList s == ByteArray.toList (ByteArray.mk #[])) = decide (s.size = 0) := by
 rw [ByteArray.toList_eq, ByteArray.toList_eq]
 by_cases h : s.size = 0
 · have : s = ⟨#[]⟩ := ByteArray.ext (Array.eq_empty_of_size_eq_zero h)
   subst this; rfl
 · rw [decide_eq_false h]
   simp only [beq_eq_false_iff_ne]
   intro e
   apply h
   have := congrArg List.length e
   simpa using this
end
end TwW
namespace TwW
open Go Tw Go.RowKit Go.Proofs.Tryz
abbrev Lb := ByteArray × ByteArray
def CG (_ : Hp) (vs : List Value) (x : Lb) : Prop := vs = [.string x.1, .string x.2]
theorem CG.mono : Gw CG := fun _ _ _ _ _ h => h
abbrev Fj := Ag 2 CG
section
variable {σ : Hp} {R : Rr}
theorem Fj.at {p : Option Addr} {n i : Nat} {ls : List Lb} {x : Lb} (hr : Fj σ p n ls) (hx : ls[i]? = some x) : ∃ b o, p = some ⟨b, o, none⟩ ∧ Au σ b (o + i * 2) [.string x.1, .string x.2] := by
 obtain ⟨b, o, vs, hp, rfl, hl⟩ := Ag.idx hr hx
 exact ⟨b, o, hp, hl⟩
theorem YD {s t : ByteArray} : (s.toList == t.toList) = decide (s = t) := by
 rw [ByteArray.toList_eq, ByteArray.toList_eq]
 by_cases h : s = t
 · subst h; simp
 · rw [decide_eq_false h, beq_eq_false_iff_ne]
   exact fun e => h (ByteArray.ext (Array.toList_inj.1 e))
theorem P7 {α : Type} {xs : List α} {k : Nat} {y : α} (hy : xs[k]? = some y) : xs.drop k = y :: xs.drop (k + 1) := by
 obtain ⟨h, rfl⟩ := List.getElem?_eq_some_iff.1 hy
 exact List.drop_eq_getElem_cons h
def Dm : List Lb → ByteArray → ByteArray
 | [], _ => ⟨#[]⟩
 | x :: l, k => if x.1 = k then x.2 else Dm l k
theorem TH {p : Option Addr} {n c : Nat} {ls : List Lb} {k : ByteArray} (hr : Fj σ p n ls) (h : R (.returned (.string (Dm ls k))) σ) : Spec prog 180 #[.slice p n c, .string k] σ R := by
 refine Ht.start ?_
 suffices H : ∀ d i : Nat, n - i = d → i ≤ n → Dm ls k = Dm (ls.drop i) k → Ht.HX R k p n c n i σ from H n 0 rfl (Nat.zero_le _) rfl
 intro d
 induction d with
 | zero =>
   intro i hd hi he
   refine Ht.BY ⟨fun As => by omega, fun _ => ?_⟩
   rw [List.drop_of_length_le (by rw [hr.1]; omega)] at he
   rw [he] at h; exact h
 | succ d ih =>
   intro i hd hi he
   refine Ht.BY ⟨fun _ => ?_, fun hh => by omega⟩
   have Bh : i < n := by omega
   obtain ⟨x, hx⟩ := hr.ex Bh
   obtain ⟨b, o, rfl, hl⟩ := Fj.at hr hx
   rw [P7 hx, Dm] at he
   refine ⟨b, o, rfl, by omega, x.1, x.2, by simpa using hl, fun _ => ⟨fun hk => ?_, fun hk => ⟨AN Bh hr.big, ih (i + 1) (by omega) (by omega) ?_⟩⟩⟩
   · rw [YD, decide_eq_true_eq] at hk
     rw [if_pos hk] at he
     rw [he] at h; exact h
   · rw [YD, decide_eq_false_iff_not] at hk
     rwa [if_neg hk] at he
theorem qj {s : ByteArray} {ok : UInt8 → Bool} {pt : Int → Prop} {G : Bool → Prop}
   (WO : G true → pt s.size) (I1 : ∀ (k : Nat) (u : UInt8), k < s.size → s.data[Int.toNat (k : Int)]? = some u → AK ((k : Int) + 1) → (ok u = true → pt ((k : Int) + 1)) → (ok u = false → G false) → pt k)
   (h : G (s.data.toList.all ok)) (hb : s.size ≤ 4611686018427387904) : pt 0 := by
 have HW : s.data.toList.length = s.size := rfl
 suffices H : ∀ d k : Nat, s.size - k = d → k ≤ s.size → (s.data.toList.take k).all ok = true → pt k from H s.size 0 rfl (Nat.zero_le _) rfl
 intro d
 induction d with
 | zero =>
   intro k hd hk JK
   rw [List.take_of_length_le (by omega)] at JK
   rw [JK] at h
   have : k = s.size := by omega
   rw [this]; exact WO h
 | succ d ih =>
   intro k hd hk JK
   have IJ : k < s.size := by omega
   obtain ⟨u, hu⟩ : ∃ u, s.data.toList[k]? = some u := ⟨_, List.getElem?_eq_getElem (by omega)⟩
   refine I1 k u IJ (by simpa using hu) (by unfold AK; omega) (fun hc => ih (k + 1) (by omega) (by omega) (by rw [Ab hu, List.all_append, JK]; simpa using hc)) fun hc => ?_
   have : s.data.toList.all ok = false := by
     rw [List.all_eq_false]
     exact ⟨u, List.mem_of_getElem? hu, by simp [hc]⟩
   rwa [this] at h
def dgt (u : UInt8) : Bool := decide (48 ≤ u.toNat ∧ u.toNat ≤ 57)
def nch (u : UInt8) : Bool := decide (u.toNat = 95 ∨ (48 ≤ u.toNat ∧ u.toNat ≤ 57) ∨ (65 ≤ u.toNat ∧ u.toNat ≤ 90) ∨ (97 ≤ u.toNat ∧ u.toNat ≤ 122))
def Er (s : ByteArray) : Bool := decide (0 < s.size) && decide (s.size ≤ 64) && !(s.data.toList.head?.any dgt) && s.data.toList.all nch
theorem Ki {s : ByteArray} (h : R (.returned (.bool (Er s))) σ) : Spec prog 98 #[.string s] σ R := by
 have HW : s.data.toList.length = s.size := rfl
 refine E4.start ⟨fun h0 => ?_, fun h0 => ⟨fun h1 => ?_, fun h1 => ?_⟩⟩
 · rw [dO, decide_eq_true_eq] at h0
   simpa [Er, h0] using h
 · have : ¬ s.size ≤ 64 := by omega
   simpa [Er, this] using h
 · rw [dO, decide_eq_false_iff_not] at h0
   obtain ⟨u, hu⟩ : ∃ u, s.data.toList[0]? = some u := ⟨_, List.getElem?_eq_getElem (by omega)⟩
   have Cz : s.data[Int.toNat (0 : Int)]? = some u := by simpa using hu
   have hh : s.data.toList.head? = some u := by rw [← hu]; cases s.data.toList <;> rfl
   have rest : dgt u = false → E4.JN R s 0 σ := fun hd => by
     have e : Er s = s.data.toList.all nch := by simp [Er, show 0 < s.size by omega, show s.size ≤ 64 by omega, hh, hd]
     rw [e] at h
     refine qj (s := s) (pt := fun k => E4.JN R s k σ) (ok := nch) (G := fun t => R (.returned (.bool t)) σ) (fun g => E4.NF ⟨fun As => by omega, fun _ => g⟩) (fun k u hk hu hi good bad => ?_) h (by omega)
     simp only [nch, decide_eq_true_eq, decide_eq_false_iff_not] at good bad
     refine E4.NF ⟨fun As => ⟨u, by omega, hu, ?_⟩, fun fR => by omega⟩
     clear h
     generalize u.toNat = n at good bad
     repeat' (first | refine ⟨fun _ => ?_, fun _ => ?_⟩ | exact ⟨hi, good (by omega)⟩ | exact bad (by omega))
   simp only [dgt, decide_eq_false_iff_not] at rest
   refine ⟨u, by omega, Cz, fun h2 => ⟨u, by omega, Cz, fun h3 => ?_, fun h3 => rest (by omega)⟩, fun h2 => rest (by omega)⟩
   have : dgt u = true := by simp [dgt]; omega
   simpa [Er, hh, this] using h
def vl : Nat → Nat → Nat → List UInt8 → Bool
 | 0, _, _, [] => true
 | _ + 1, _, _, [] => false
 | 0, _, _, c :: r =>
   if c.toNat < 128 then vl 0 128 191 r
   else if 194 ≤ c.toNat ∧ c.toNat ≤ 223 then vl 1 128 191 r
   else if 224 ≤ c.toNat ∧ c.toNat ≤ 239 then (if c.toNat = 224 then vl 2 160 191 r else if c.toNat = 237 then vl 2 128 159 r else vl 2 128 191 r)
   else if 240 ≤ c.toNat ∧ c.toNat ≤ 244 then (if c.toNat = 240 then vl 3 144 191 r else if c.toNat = 244 then vl 3 128 143 r else vl 3 128 191 r)
   else false
 | m + 1, lo, hi, c :: r => if c.toNat < lo ∨ hi < c.toNat then false else vl m 128 191 r
def TI (s : ByteArray) : Bool := vl 0 128 191 s.data.toList
theorem vl0 (l : List UInt8) (a b c d : Nat) : vl 0 a b l = vl 0 c d l := by cases l <;> rfl
attribute [local irreducible] Ai.BT Ai.G1 Ai.j3 in
theorem Pg {s : ByteArray} (hb : s.size ≤ 4611686018427387904) (h : R (.returned (.bool (TI s))) σ) : Spec prog 99 #[.string s] σ R := by
 have HW : s.data.toList.length = s.size := rfl
 refine Ai.start ?_
 suffices H : ∀ d : Nat, (∀ k : Nat, s.size - k = d → k ≤ s.size → TI s = vl 0 128 191 (s.data.toList.drop k) → Ai.BT R s k σ) ∧
     (∀ (k m lo hi : Nat), s.size - k = d → k ≤ s.size → TI s = vl m lo hi (s.data.toList.drop k) → m ≤ 3 → Ai.j3 R s k m lo hi σ) from (H s.size).1 0 (by omega) (by omega) rfl
 intro d
 induction d with
 | zero =>
   have A : ∀ k : Nat, s.size - k = 0 → k ≤ s.size → TI s = vl 0 128 191 (s.data.toList.drop k) → Ai.BT R s k σ := fun k hd hk he => by
     refine Ai.A5 ⟨fun _ => ?_, fun A3 => by omega⟩
     rw [List.drop_of_length_le (by omega)] at he
     rw [he] at h; exact h
   refine ⟨A, fun k m lo hi hd hk he hm => Ai.dB ⟨fun h0 => A k hd hk ?_, fun h0 => ⟨fun _ => ?_, fun A3 => by omega⟩⟩⟩
   · have : m = 0 := by omega
     subst this; rw [he]; exact vl0 _ _ _ _ _
   · obtain ⟨m', rfl⟩ : ∃ m', m = m' + 1 := ⟨m - 1, by omega⟩
     rw [List.drop_of_length_le (by omega)] at he
     rw [he] at h; exact h
 | succ d ih =>
   have A : ∀ k : Nat, s.size - k = d + 1 → k ≤ s.size → TI s = vl 0 128 191 (s.data.toList.drop k) → Ai.BT R s k σ := fun k hd hk he => by
     have IJ : k < s.size := by omega
     obtain ⟨u, hu⟩ : ∃ u, s.data.toList[k]? = some u := ⟨_, List.getElem?_eq_getElem (by omega)⟩
     have Cz : s.data[Int.toNat (k : Int)]? = some u := by simpa using hu
     have hi : AK ((k : Int) + 1) := by unfold AK; omega
     rw [P7 hu, vl] at he
     have st : ∀ (m lo hi : Nat), m ≤ 3 → TI s = vl m lo hi (s.data.toList.drop (k + 1)) → Ai.G1 R s k m lo hi σ := fun m lo hh hm he => Ai.qF ⟨hi, ih.2 (k + 1) m lo hh (by omega) (by omega) he hm⟩
     have nx : TI s = vl 0 128 191 (s.data.toList.drop (k + 1)) → Ai.BT R s ((k : Int) + 1) σ := fun he => ih.1 (k + 1) (by omega) (by omega) he
     have no : TI s = false → R (.returned (.bool false)) σ := fun e => by rw [e] at h; exact h
     refine Ai.A5 ⟨fun A3 => by omega, fun _ => ⟨u, by omega, Cz, ?_⟩⟩
     generalize s.data.toList.drop (k + 1) = r at he st nx
     clear ih h hu Cz
     generalize u.toNat = n at he
     have st1 := st 1 128 191 (by omega)
     have st2 := st 2 160 191 (by omega)
     have sY := st 2 128 159 (by omega)
     have st4 := st 2 128 191 (by omega)
     have st5 := st 3 144 191 (by omega)
     have st6 := st 3 128 143 (by omega)
     have st7 := st 3 128 191 (by omega)
     repeat' (first | refine ⟨fun _ => ?_, fun _ => ?_⟩ | refine ⟨hi, nx ?_⟩ | refine st1 ?_ | refine st2 ?_ | refine sY ?_ | refine st4 ?_ | refine st5 ?_ | refine st6 ?_ | refine st7 ?_ | refine no ?_)
     all_goals first | (exfalso; clear he; omega) | (rw [he]; repeat' (first | rfl | rw [if_pos (by omega)] | rw [if_neg (by omega)]))
   refine ⟨A, fun k m lo hi hd hk he hm => Ai.dB ⟨fun h0 => A k hd hk ?_, fun h0 => ⟨fun A3 => by omega, fun _ => ?_⟩⟩⟩
   · have : m = 0 := by omega
     subst this; rw [he]; exact vl0 _ _ _ _ _
   · obtain ⟨m', rfl⟩ : ∃ m', m = m' + 1 := ⟨m - 1, by omega⟩
     have IJ : k < s.size := by omega
     obtain ⟨u, hu⟩ : ∃ u, s.data.toList[k]? = some u := ⟨_, List.getElem?_eq_getElem (by omega)⟩
     have Cz : s.data[Int.toNat (k : Int)]? = some u := by simpa using hu
     rw [P7 hu, vl] at he
     refine ⟨u, by omega, Cz, fun h1 => ?_, fun h1 => ⟨u, by omega, Cz, fun h2 => ?_, fun h2 => ⟨by unfold AK; omega, by unfold AK; omega, ?_⟩⟩⟩
     · rw [if_pos (by omega)] at he
       rw [he] at h; exact h
     · rw [if_pos (by omega)] at he
       rw [he] at h; exact h
     · rw [if_neg (by omega)] at he
       have := ih.2 (k + 1) m' 128 191 (by omega) (by omega) he (by omega)
       have e1 : ((m' + 1 : Nat) : Int) - 1 = (m' : Nat) := by omega
       rw [e1]; exact this
end
end TwW
namespace TwW
open Go Tw Go.RowKit Go.Proofs.Tryz
section
variable {σ : Hp} {R : Rr}
def sle (a b : ByteArray) : Bool := Op.bytesLess a.toList b.toList || a.toList == b.toList
theorem yf {x y : Operand} {a b : ByteArray} {T : TypeId} : YF prog (do eqGuard .leq T x y (.string a) (.string b); binOp .leq T (.string a) (.string b)) σ (.bool (sle a b)) := fun w _ => by
 simp [eqGuard, binOp, Op.stringOp, sle]
def O6 : Option ByteArray → List Lb → Int
 | _, [] => 0
 | pv, x :: l => if Er x.1 = false then 31 else if x.2.size = 0 ∨ 256 < x.2.size ∨ TI x.2 = false then 32 else if pv.any (sle x.1 ·) = true then 33 else O6 (some x.1) l
def OQ (ls : List Lb) : Int := if 16 < ls.length then 30 else O6 none ls
theorem Ph {p : Option Addr} {n c : Nat} {ls : List Lb} (hr : Fj σ p n ls) (h : R (.returned (.int .i64 (OQ ls))) σ) : Spec prog 68 #[.slice p n c] σ R := by
 have hn : ls.length = n := hr.1
 refine D0.start ⟨fun h1 => ?_, fun h1 => ?_⟩
 · rw [OQ, if_pos (by omega)] at h; exact h
 rw [OQ, if_neg (by omega)] at h
 let pv : Nat → Option ByteArray := fun i => if i = 0 then none else (ls[i - 1]?).map (·.1)
 suffices H : ∀ d i : Nat, n - i = d → i ≤ n → O6 none ls = O6 (pv i) (ls.drop i) → D0.LY R p n c p n c n i σ from H n 0 rfl (Nat.zero_le _) rfl
 intro d
 induction d with
 | zero =>
   intro i hd hi he
   refine D0.IS ⟨fun As => by omega, fun _ => ?_⟩
   rw [List.drop_of_length_le (by omega)] at he
   rw [he] at h; exact h
 | succ d ih =>
   intro i hd hi he
   have Bh : i < n := by omega
   obtain ⟨x, hx⟩ := hr.ex Bh
   obtain ⟨b, o, rfl, hl⟩ := Fj.at hr hx
   rw [P7 hx, O6] at he
   have out : ∀ e : Int, O6 none ls = e → R (.returned (.int .i64 e)) σ := fun e h1 => h1 ▸ h
   refine D0.IS ⟨fun _ => ?_, fun hh => by omega⟩
   refine ⟨b, o, rfl, by omega, x.1, x.2, by simpa using hl, fun _ => Ki ⟨_, rfl, fun h1 => out _ ?_, fun h1 => ?_⟩⟩
   · rw [he, if_pos h1]
   rw [if_neg (by simp [h1])] at he
   rw [dO]
   refine ⟨fun h2 => out _ ?_, fun h2 => ⟨fun h3 => out _ ?_, fun h3 => Pg (by omega) ⟨_, rfl, fun h4 => out _ ?_, fun h4 => ?_⟩⟩⟩
   · rw [he, if_pos (.inl (by simpa using h2))]
   · rw [he, if_pos (.inr (.inl (by omega)))]
   · rw [he, if_pos (.inr (.inr h4))]
   rw [if_neg (by rw [decide_eq_false_iff_not] at h2; simp [h2, h4]; omega)] at he
   have nx : pv (i + 1) = some x.1 := by simp [pv, hx]
   have go : (pv i).any (sle x.1 ·) = false → D0.LY R (aD b o) n c (aD b o) n c n ((i : Int) + 1) σ := fun h5 => by
     rw [if_neg (by simp [h5]), ← nx] at he
     exact ih (i + 1) (by omega) (by omega) he
   refine ⟨fun h5 => ?_, fun h5 => ⟨AN Bh hr.big, go ?_⟩⟩
   · obtain ⟨y, hy⟩ := hr.ex (k := i - 1) (by omega)
     obtain ⟨b', o', hp, cW⟩ := Fj.at hr hy
     cases hp
     have e1 : ((i : Int) - 1).toNat = i - 1 := by omega
     have hpv : pv i = some y.1 := by simp [pv, hy, show i ≠ 0 by omega]
     refine ⟨by have := hr.big; unfold AK; omega, b, o, rfl, by omega, y.1, by rw [e1]; exact cW.1, _, yf, fun h6 => out _ ?_, fun h6 => ⟨AN Bh hr.big, go ?_⟩⟩
     · rw [he, if_pos (by rw [hpv]; exact h6)]
     · rw [hpv]; exact h6
   · have : i = 0 := by omega
     simp [pv, this]
theorem UG : ∀ {ls : List Lb} {pv : Option ByteArray}, O6 pv ls = 0 → ∀ x ∈ ls, Er x.1 = true ∧ 0 < x.2.size ∧ x.2.size ≤ 256 ∧ TI x.2 = true
 | [], _, _, _, hx => by cases hx
 | y :: l, pv, h, x, hx => by
   rw [O6] at h
   split at h
   · cases h
   split at h
   · cases h
   split at h
   · cases h
   rename_i h1 h2 h3
   rcases List.mem_cons.1 hx with rfl | hx
   · simp only [not_or, Bool.not_eq_false] at h1 h2
     exact ⟨h1, by omega, by omega, h2.2.2⟩
   · exact UG h x hx
def Ao (ls : List Lb) : Prop := ls.length ≤ 16 ∧ ∀ x ∈ ls, x.1.size ≤ 256 ∧ x.2.size ≤ 256
theorem Ao.of {ls : List Lb} (h : OQ ls = 0) : Ao ls := by
 unfold OQ at h
 split at h
 · cases h
 · refine ⟨by omega, fun x hx => ?_⟩
   obtain ⟨h1, _, h2, _⟩ := UG h x hx
   simp [Er] at h1
   exact ⟨by omega, h2⟩
theorem CG.one (σ : Hp) (vs : List Value) (x : Lb) (h : CG σ vs x) : Fy vs := by
 rw [h]
 intro u hu
 simp only [List.mem_cons, List.not_mem_nil, or_false] at hu
 rcases hu with rfl | rfl <;> rfl
theorem H0 {σ1 : Hp} {q : Option Addr} {j c b : Nat} {ls : List Lb} {ty : TypeId} {Φ : Value → Hp → Prop} (ht : Fj σ1 q j ls) (hb : j ≤ 1000000000)
   (hΦ : ∀ p' c' σ', F0 2 CG (σ1.new σ') p' j c' ls → Ext σ1 σ' → Φ (.slice p' j c') σ') (hn : σ1 b = none) :
   AJ prog (Builtin.append_ #[37, 37] ty #[.slice (some ⟨b, 0, none⟩) 0 0, .slice q j c]) (σ1.set b (.cells #[] 56 (0, 0))) Φ := by
 obtain ⟨h1, cs, h2, h3⟩ := ht
 refine Dj A6.empty (h2.mono (.set hn)) (Ch.vX CG.one h3 (by decide)) (by omega) fun p' c' σ' BI Io => ?_
 have hq : ∀ a : Addr, (some (⟨b, 0, none⟩ : Addr)) = some a → σ1 a.block = none := fun a ha => by cases ha; exact hn
 rw [Nat.zero_add] at BI ⊢
 rw [List.nil_append] at BI
 exact hΦ p' c' σ' ⟨h1, cs, A6.QL BI (GF hq Io (.set hn)), h3⟩ (Kw hq Io (.set hn))
def UH (x : Lb) : List Int := uv x.1.size ++ ye x.1 ++ (uv x.2.size ++ ye x.2)
def yh (ls : List Lb) : List Int := uv ls.length ++ ls.flatMap UH
theorem fS {x : Lb} (h : x.1.size ≤ 256 ∧ x.2.size ≤ 256) : (UH x).length ≤ 532 := by
 have h1 := Kh (x := x.1.size) (by omega)
 have h2 := Kh (x := x.2.size) (by omega)
 simp only [UH, List.length_append, dM]
 omega
theorem ly {ls : List Lb} (h : ∀ x ∈ ls, x.1.size ≤ 256 ∧ x.2.size ≤ 256) : (ls.flatMap UH).length ≤ ls.length * 532 := by
 induction ls with
 | nil => simp
 | cons x l ih =>
   have := ih fun y hy => h y (List.mem_cons_of_mem _ hy)
   have := fS (h x (by simp))
   rw [List.flatMap_cons, List.length_append, List.length_cons]
   omega
theorem VZ {p : Option Addr} {n c : Nat} {ls : List Lb} (hr : Fj σ p n ls) (hs : Ao ls) (h : ∀ p' n' c' σ', DX .u8 (σ.new σ') p' n' c' (yh ls) → Ext σ σ' → R (.returned (.slice p' n' c')) σ') : Spec prog 72 #[.slice p n c] σ R := by
 have hn : ls.length = n := hr.1
 have h16 := hs.1
 refine Ea.start fun x8 h8 => ?_
 have e8 : x8 = (n : Int) := by rw [h8]; simp [IntKind.wrap, IntKind.bits, IntKind.signed]; omega
 subst e8
 refine NM Ag.nil (by omega) (by omega) fun p1 n1 c1 σ1 Z0 Cd => ⟨p1, n1, c1, rfl, ?_⟩
 rw [List.nil_append] at Z0
 suffices H : ∀ d k : Nat, ∀ p3 n3 c3 σ3, n - k = d → k ≤ n → DX .u8 (σ.new σ3) p3 n3 c3 (uv n ++ (ls.take k).flatMap UH) → Ext σ σ3 → Ea.A0 R p3 n3 c3 p n c n k σ3 from H n 0 p1 n1 c1 σ1 rfl (Nat.zero_le _) (by simpa using Z0) Cd
 intro d
 induction d with
 | zero =>
   intro k p3 n3 c3 σ3 hd hk ho hx
   refine Ea.Aa ⟨fun As => by omega, fun _ => h p3 n3 c3 σ3 ?_ hx⟩
   rw [List.take_of_length_le (by omega)] at ho
   rw [yh, hn]; exact ho
 | succ d ih =>
   intro k p3 n3 c3 σ3 hd hk ho hx
   have IJ : k < n := by omega
   obtain ⟨y, hy⟩ := hr.ex IJ
   obtain ⟨b, o, rfl, hl⟩ := Fj.at hr hy
   have iI := hs.2 y (List.mem_of_getElem? hy)
   have hl3 := O5 ho
   have R8 := Kh (x := n) (by omega)
   have hfl := ly (ls := ls.take k) fun x hx => hs.2 x (List.mem_of_mem_take hx)
   rw [List.length_append] at hl3
   rw [List.length_take] at hfl
   have h3b : n3 ≤ 9000 := by omega
   refine Ea.Aa ⟨fun _ => ⟨b, o, rfl, by omega, y.1, y.2, by simpa using hl.mono hx, fun _ => ?_⟩, fun hh => by omega⟩
   refine NN (DX.rd (A6.mono (Ext.CY _ _) ho)) (by omega) (by omega) fun p4 n4 c4 σ4 Lw Mp => ⟨p4, n4, c4, rfl, ?_⟩
   have hl4 := O5 Lw
   have fT := Kh (x := y.1.size) (by omega)
   simp only [List.length_append, dM] at hl4
   refine NN (DX.rd (A6.mono (Ext.CY _ _) Lw)) (by omega) (by omega) fun p5 n5 c5 σ5 P8 TJ => ⟨p5, n5, c5, rfl, AN IJ hr.big, ?_⟩
   refine ih (k + 1) p5 n5 c5 σ5 (by omega) (by omega) ?_ (hx.trans (Mp.trans TJ))
   have := A6.mono (Ext.C5 (hx.trans Mp)) P8
   rw [Ab hy, List.flatMap_append]
   simpa [UH, DX] using this
end
end TwW
namespace TwW
open Go Tw Go.RowKit Go.Proofs.Tryz
section
variable {σ σ' τ : Hp} {R : Rr}
def FU (x : ByteArray) (xs : List ByteArray) : Bool := xs.any fun y => decide (x = y)
theorem R9 {x : ByteArray} {xs : List ByteArray} : FU x xs = true ↔ x ∈ xs := by simp [FU]
theorem Kj {p : Option Addr} {n c : Nat} {x : ByteArray} {xs : List ByteArray} (hr : Ex 1 σ p n (xs.map .string)) (h : R (.returned (.bool (FU x xs))) σ) : Spec prog 199 #[.slice p n c, .string x] σ R := by
 have hn : xs.length = n := by have := hr.1; simpa using this
 have MV : n ≤ 4611686018427387904 := hr.2.1
 have key : ∀ i : Int, (0 ≤ i ↔ x ∈ xs) → AA R (CI .i64 fun x7 y => R (.returned (.bool (decide (0 ≤ x7)))) y) (.returned (.int .i64 i)) σ := fun i hi => ⟨i, rfl, by
   dsimp only
   rw [show decide (0 ≤ i) = FU x xs by rw [Bool.eq_iff_iff, R9, decide_eq_true_eq]; exact hi]; exact h⟩
 refine EO.start (BE.start ?_)
 suffices H : ∀ d k : Nat, n - k = d → k ≤ n → x ∉ xs.take k → BE.HX (AA R (CI .i64 fun x7 y => R (.returned (.bool (decide (0 ≤ x7)))) y)) p n c x n k σ from H n 0 rfl (Nat.zero_le _) (by simp)
 intro d
 induction d with
 | zero =>
   intro k hd hk Dh
   refine BE.BY ⟨fun As => by omega, fun _ => key (-1) ?_⟩
   rw [List.take_of_length_le (by omega)] at Dh
   exact ⟨fun h => absurd h (by decide), fun h => absurd h Dh⟩
 | succ d ih =>
   intro k hd hk Dh
   have IJ : k < n := by omega
   obtain ⟨y, hy⟩ : ∃ y, xs[k]? = some y := ⟨_, List.getElem?_eq_getElem (by omega)⟩
   obtain ⟨b, o, rfl, hl⟩ := Ex.at1 hr (k := k) (v := .string y) (by rw [List.getElem?_map, hy]; rfl)
   refine BE.BY ⟨fun _ => ⟨b, o, rfl, by omega, y, by simpa using hl, fun he => key k ⟨fun _ => ?_, fun _ => by omega⟩, fun A3 => ⟨AN IJ MV, ih (k + 1) (by omega) (by omega) ?_⟩⟩, fun fR => by omega⟩
   · rw [YD, decide_eq_true_eq] at he
     rw [he]; exact List.mem_of_getElem? hy
   · rw [YD, decide_eq_false_iff_not] at A3
     rw [S3 hy]
     rintro (h1 | h1)
     · exact Dh h1
     · exact A3 h1
theorem O7 {f : Nat} {cap : Array Value} {g : Lb → Bool} {p : Option Addr} {n c : Nat} {ls : List Lb} (Nv : Enters prog f) (hr : Fj σ p n ls) (hn : n ≤ 1000000)
   (hf : ∀ (σ' : Hp) (x : Lb) (R' : Rr), Ext σ σ' → R' (.returned (.bool (g x))) σ' → Spec prog f (#[] ++ #[.agg #[.string x.1, .string x.2]] ++ cap) σ' R')
   (h : ∀ p' n' c' σ', F0 2 CG (σ.new σ') p' n' c' (ls.filter g) → Ext σ σ' → R (.returned (.slice p' n' c')) σ') : Spec prog 197 #[.slice p n c, .func (.func f) #[] cap] σ R := by
 have qk : ls.length = n := hr.1
 refine CE.start ?_
 suffices H : ∀ d k : Nat, ∀ p5 n5 c5 σ5, n - k = d → k ≤ n → F0 2 CG (σ.new σ5) p5 n5 c5 ((ls.take k).filter g) → Ext σ σ5 → CE.A0 R (.func (.func f) #[] cap) p5 n5 c5 p n c n k σ5 from H n 0 none 0 0 σ rfl (Nat.zero_le _) F0.nil (.refl _)
 intro d
 induction d with
 | zero =>
   intro k p5 n5 c5 σ5 hd hk ho hx
   refine CE.Aa ⟨fun As => by omega, fun _ => h p5 n5 c5 σ5 ?_ hx⟩
   rw [List.take_of_length_le (by omega)] at ho; exact ho
 | succ d ih =>
   intro k p5 n5 c5 σ5 hd hk ho hx
   have IJ : k < n := by omega
   obtain ⟨x, fU⟩ := hr.ex IJ
   obtain ⟨b, o, rfl, hl⟩ := Fj.at hr fU
   have hn5 : n5 ≤ n := by
     have h1 := ho.1
     have h2 := List.length_filter_le g (ls.take k)
     rw [List.length_take] at h2
     omega
   have ht : (ls.take (k + 1)).filter g = (ls.take k).filter g ++ if g x then [x] else [] := by
     rw [Ab fU, List.filter_append]
     by_cases hg : g x <;> simp [hg]
   refine CE.Aa ⟨fun _ => ⟨b, o, rfl, by omega, x.1, x.2, by simpa using hl.mono hx, fun _ => ⟨f, #[], cap, rfl, Nv, hf σ5 x _ hx ⟨_, rfl, fun hg C4 AKZ => ?_, fun hg => ?_⟩⟩⟩, fun hh => by omega⟩
   · refine F0.JL CG.mono (vs := [.string x.1, .string x.2]) (x := x) hx ho rfl (CG.one σ _ _ rfl) rfl (by omega) (fun p' c' σ' Ms YE => ⟨_, _, _, rfl, CE.P1 ⟨AN IJ hr.big, ih (k + 1) _ _ _ _ (by omega) (by omega) ?_ YE⟩⟩) AKZ
     rw [ht, if_pos hg]; exact Ms
   · refine CE.P1 ⟨AN IJ hr.big, ih (k + 1) _ _ _ _ (by omega) (by omega) ?_ hx⟩
     rw [ht, if_neg (by simp [hg]), List.append_nil]; exact ho
theorem AEt : Enters prog 200 := fun args w => call200 args w
theorem Ip {p q : Option Addr} {n c m d : Nat} {ls : List Lb} {ns : List ByteArray} (hr : Fj σ p n ls) (hn : n ≤ 1000000) (hs : Ex 1 σ q m (ns.map .string))
   (h : ∀ p' n' c' σ', F0 2 CG (σ.new σ') p' n' c' (ls.filter fun x => !FU x.1 ns) → Ext σ σ' → R (.returned (.slice p' n' c')) σ') : Spec prog 150 #[.slice p n c, .slice q m d] σ R := by
 refine Lu.start fun b3 dP => ?_
 have Dt : Ext σ (σ.set b3 (.cells #[.slice q m d] 34 (0, 0))) := .set dP
 refine O7 (f := 200) (g := fun x => !FU x.1 ns) AEt (hr.mono CG.mono Dt) hn (fun σ' x R' hx LK => ?_) fun p' n' c' σ' ho hx => ⟨_, _, _, rfl, h p' n' c' σ' ?_ (Dt.trans hx)⟩
 · refine JE.start fun _ => ⟨q, m, d, Ac (hx _ _ (Hp.AB _ _ _)) rfl, Kj (hs.mono (Dt.trans hx)) ⟨_, rfl, LK⟩⟩
 · exact ho.mono CG.mono (Ext.C5 Dt)
end
end TwW
namespace TwW
open Go Tw Go.RowKit Go.Proofs.Tryz
section
variable {σ σ' τ : Hp} {R : Rr}
theorem SA {α : Type} {b : Nat} {T : TypeId} {f : α → Value} {x : α} {ρ : Hp} (h : ρ b = some (.cells #[f x] T (0, 0))) : Ex 1 ρ (some ⟨b, 0, none⟩) 1 ([x].map f) := ⟨rfl, by omega, .inr ⟨b, 0, rfl, ⟨Ac h rfl, trivial⟩⟩⟩
end
end TwW
end
section
namespace TwW
open Go Tw
structure Mt where
 kind : Int
 name : ByteArray
 val : ByteArray
structure Nd where
 kind : Int
 op : Int
 text : ByteArray
 mt : List Mt
 width : Int
 back : Int
 EB : Int
 names : List ByteArray
 bool : Bool
 parts : Int
structure Sr where
 ls : List Lb
 ps : List (Int × Int)
structure El where
 ls : List Lb
 v : Int
structure Rg where
 ls : List Lb
 vs : List Int
structure Vv where
 kind : Int
 v : Int
 vec : List El
 N5 : List Rg
structure Fl where
 num : ByteArray → Int
 abs : Int → Int
 floor : Int → Int
 whole : Int → Int
 lz : Int → Int
 over : Int → List Int → Int → Option Int
 fold : Int → List Int → Int
 Pj : Int → Int → Int → Int × Bool
 aZ : List Mt → List Lb → Bool
 cmpL : List Lb → List Lb → Int
abbrev Gk : Int := 9218868437227405314
def B8 : ByteArray := ⟨#[95, 95, 110, 97, 109, 101, 95, 95]⟩
def F6 (ls : List Lb) : ByteArray := strOfNums (yh ls)
section
variable {α : Type}
def Va : List (ByteArray × α) → ByteArray → α → List (ByteArray × α)
 | [], k, x => [(k, x)]
 | (a, b) :: l, k, x => if a = k then (k, x) :: l else (a, b) :: Va l k x
def DO : List (ByteArray × α) → ByteArray → Option α
 | [], _ => none
 | (a, b) :: l, k => if a = k then some b else DO l k
end
def C0 (ls : List Lb) : List Lb := ls.filter fun x => !FU x.1 [B8]
def YG (ns : List ByteArray) (ls : List Lb) : List Lb := ls.filter fun x => FU x.1 ns
def YH (ns : List ByteArray) (ls : List Lb) : List Lb := ls.filter fun x => !FU x.1 ns
section
variable (F : Fl)
def ad (x : El) : List El → List El
 | [] => [x]
 | y :: l => if F.cmpL x.ls y.ls ≤ 0 then x :: y :: l else y :: ad x l
def l0 (l : List El) : List El := l.foldr (ad F) []
def DL (l : List El) : Option (List El) := if l.Pairwise (fun a b => F.cmpL a.ls b.ls ≠ 0) then some (l0 F l) else none
def E6 (ps : List (Int × Int)) (Dg Gm : Int) : List (Int × Int) := ps.filter fun p => decide (Dg < p.1) && decide (p.1 ≤ Gm)
def Vb (n : Nd) (ss : List Sr) (at_ : Int) : List El := ss.filterMap fun s => match (E6 s.ps (at_ - n.back - 300) (at_ - n.back)).getLast? with
 | none => none
 | some p => if p.2 = Gk ∨ F.aZ n.mt s.ls = false then none else some ⟨s.ls, p.2⟩
def Fk (n : Nd) (ss : List Sr) (at_ : Int) : List Rg := ss.filterMap fun s =>
 let vs := ((E6 s.ps (at_ - n.back - n.width) (at_ - n.back)).filter fun p => decide (p.2 ≠ Gk)).map Prod.snd
 bif !vs.isEmpty && F.aZ n.mt s.ls then some ⟨s.ls, vs⟩ else none
def Ly (n : Nd) (p : Vv) : List El := (p.vec.map fun x => ⟨C0 x.ls, if n.op = 11 then F.abs x.v else F.floor x.v⟩) ++ p.N5.filterMap fun s => (F.over n.op s.vs p.v).map fun v => ⟨C0 s.ls, v⟩
def Fm (n : Nd) (ls : List Lb) : List Lb := if n.EB = 1 then YG n.names ls else if n.EB = 2 then C0 (YH n.names ls) else []
def Lg (ls : List Lb) (v : Int) : List Rg → List Rg
 | [] => [⟨ls, [v]⟩]
 | g :: l => if F6 g.ls = F6 ls then ⟨g.ls, g.vs ++ [v]⟩ :: l else g :: Lg ls v l
def fV (n : Nd) (p : Vv) : List El := (p.vec.foldl (fun gs x => Lg (Fm n x.ls) x.v gs) []).map fun g => ⟨g.ls, F.fold n.op g.vs⟩
def FV (op : Int) : Bool := decide (5 ≤ op) && decide (op ≤ 10)
def YI (n : Nd) (vec : List El) (f : Int → Int × Bool) : List El := vec.filterMap fun x =>
 if FV n.op = false ∨ n.bool = true then some ⟨C0 x.ls, (f x.v).1⟩ else if (f x.v).2 then some x else none
def No (n : Nd) (ls : List Lb) : List Lb := if n.EB = 3 then YG n.names ls else C0 (YH n.names ls)
def Vc (n : Nd) (l : List El) : List (ByteArray × El) := l.foldl (fun m x => Va m (F6 (No n x.ls)) x) []
def UI (n : Nd) (l : List El) (k : List Lb) : Option El := DO (Vc n l) (F6 k)
def fW (n : Nd) (l : List El) : Bool := decide ((Vc n l).length = l.length)
def SB (n : Nd) (x y : List El) : List El :=
 (x.filter fun e => decide (n.op = 12) || ((UI n y (No n e.ls)).isSome == decide (n.op = 11))) ++ y.filter fun e => (UI n x (No n e.ls)).isNone && decide (n.op = 12)
def UJ (n : Nd) (x y : List El) : Option (List El) := if fW n x && fW n y then some (x.filterMap fun e => match UI n y (No n e.ls) with
 | none => none
 | some o => if FV n.op = false ∨ n.bool = true then some ⟨No n e.ls, (F.Pj n.op e.v o.v).1⟩ else if (F.Pj n.op e.v o.v).2 then some e else none) else none
def ql (n : Nd) (x y : Vv) : Option Vv :=
 if x.kind = 1 ∧ y.kind = 1 then some ⟨1, (F.Pj n.op x.v y.v).1, [], []⟩
 else ((if x.kind = 1 then some (YI n y.vec (F.Pj n.op x.v)) else if y.kind = 1 then some (YI n x.vec fun v => F.Pj n.op v y.v) else if 11 ≤ n.op ∧ n.op ≤ 13 then some (SB n x.vec y.vec) else UJ F n x.vec y.vec).bind (DL F)).map fun l => ⟨2, 0, l, []⟩
def l3 (p : Vv) : Option Vv := if p.kind = 1 then some ⟨1, F.lz p.v, [], []⟩ else (DL F (p.vec.map fun x => ⟨C0 x.ls, F.lz x.v⟩)).map fun l => ⟨2, 0, l, []⟩
def Gn (ss : List Sr) (at_ : Int) (n : Nd) (l : List Vv) : Option Vv :=
 if n.kind = 1 then some ⟨1, F.num n.text, [], []⟩
 else if n.kind = 2 then some ⟨2, 0, Vb F n ss at_, []⟩
 else if n.kind = 3 then some ⟨3, F.whole n.width, [], Fk F n ss at_⟩
 else match l with
   | [p] => if n.kind = 4 then (DL F (Ly F n p)).map fun l => ⟨2, 0, l, []⟩ else if n.kind = 5 then (DL F (fV F n p)).map fun l => ⟨2, 0, l, []⟩ else if n.kind = 7 then l3 F p else none
   | [p, q] => if n.kind = 6 then ql F n p q else none
   | _ => none
def MW (ss : List Sr) (at_ : Int) : List Nd → List Vv → Option (List Vv)
 | [], st => some st
 | n :: t, st => (Gn F ss at_ n (st.drop (st.length - n.parts.toNat))).bind fun v => MW ss at_ t (st.take (st.length - n.parts.toNat) ++ [v])
def Bg (t : List Nd) (ss : List Sr) (at_ : Int) : Option (List El) := (MW F ss at_ t []).bind fun st => st.head?.map fun v => if v.kind = 1 then [⟨[], v.v⟩] else v.vec
end
section
variable {F : Fl}
end
end TwW
end
section
namespace TwW
open Go Tw
structure Lz {α : Type} (c : α → α → Int) : Prop where
 eq : ∀ x y, c x y = 0 ↔ x = y
 Vd : ∀ x y, c x y < 0 ↔ 0 < c y x
 trans : ∀ x y z, c x y < 0 → c y z < 0 → c x z < 0
def H3 {α : Type} (c : α → α → Int) : List α → List α → Int
 | [], [] => 0
 | [], _ :: _ => -1
 | _ :: _, [] => 1
 | x :: l, y :: m => if c x y = 0 then H3 c l m else c x y
def SC {α β : Type} (c : α → α → Int) (d : β → β → Int) (x y : α × β) : Int := if c x.1 y.1 = 0 then d x.2 y.2 else c x.1 y.1
theorem Lz.H3 {α : Type} {c : α → α → Int} (h : Lz c) : Lz (H3 c) := by
 refine ⟨fun l => ?_, fun l => ?_, fun l => ?_⟩
 · induction l with
   | nil => intro m; cases m <;> simp [TwW.H3]
   | cons x l ih =>
     intro m
     cases m with
     | nil => simp [TwW.H3]
     | cons y m =>
       unfold TwW.H3
       by_cases hc : c x y = 0
       · rw [if_pos hc, ih]; simp [(h.eq x y).1 hc]
       · rw [if_neg hc]; simp [hc, mt (h.eq x y).2 hc]
 · induction l with
   | nil => intro m; cases m <;> simp [TwW.H3]
   | cons x l ih =>
     intro m
     cases m with
     | nil => simp [TwW.H3]
     | cons y m =>
       unfold TwW.H3
       by_cases hc : c x y = 0
       · have YJ := (h.eq x y).1 hc
         rw [if_pos hc, if_pos ((h.eq y x).2 YJ.symm), ih]
       · have hc' : c y x ≠ 0 := fun e => hc ((h.eq x y).2 ((h.eq y x).1 e).symm)
         rw [if_neg hc, if_neg hc', h.Vd]
 · induction l with
   | nil =>
     intro m k h1 h2
     cases m with
     | nil => simp [TwW.H3] at h1
     | cons y m =>
       cases k with
       | nil => simp [TwW.H3] at h2
       | cons z k => simp [TwW.H3]
   | cons x l ih =>
     intro m k h1 h2
     cases m with
     | nil => simp [TwW.H3] at h1
     | cons y m =>
       cases k with
       | nil => simp [TwW.H3] at h2
       | cons z k =>
         unfold TwW.H3 at h1 h2 ⊢
         by_cases YJ : c x y = 0
         · rw [if_pos YJ] at h1
           have e := (h.eq x y).1 YJ
           subst e
           by_cases ae : c x z = 0
           · rw [if_pos ae] at h2 ⊢; exact ih m k h1 h2
           · rw [if_neg ae] at h2 ⊢; exact h2
         · rw [if_neg YJ] at h1
           by_cases ae : c y z = 0
           · rw [if_pos ae] at h2
             have e := (h.eq y z).1 ae
             subst e
             rw [if_neg YJ]; exact h1
           · rw [if_neg ae] at h2
             have h3 := h.trans x y z h1 h2
             rw [if_neg (by omega)]; exact h3
theorem Lz.SC {α β : Type} {c : α → α → Int} {d : β → β → Int} (h : Lz c) (g : Lz d) : Lz (SC c d) := by
 refine ⟨fun x y => ?_, fun x y => ?_, fun x y z h1 h2 => ?_⟩
 · obtain ⟨x1, x2⟩ := x
   obtain ⟨y1, y2⟩ := y
   unfold TwW.SC
   by_cases hc : c x1 y1 = 0
   · simp only [hc, if_pos]; rw [g.eq]; simp [(h.eq x1 y1).1 hc]
   · simp only [hc, if_false]; simp [hc, mt (h.eq x1 y1).2 hc]
 · unfold TwW.SC
   by_cases hc : c x.1 y.1 = 0
   · rw [if_pos hc, if_pos ((h.eq _ _).2 ((h.eq _ _).1 hc).symm), g.Vd]
   · rw [if_neg hc, if_neg (fun e => hc ((h.eq _ _).2 ((h.eq _ _).1 e).symm)), h.Vd]
 · unfold TwW.SC at h1 h2 ⊢
   by_cases YJ : c x.1 y.1 = 0
   · rw [if_pos YJ] at h1
     rw [(h.eq _ _).1 YJ]
     by_cases ae : c y.1 z.1 = 0
     · rw [if_pos ae] at h2 ⊢; exact g.trans _ _ _ h1 h2
     · rw [if_neg ae] at h2 ⊢; exact h2
   · rw [if_neg YJ] at h1
     by_cases ae : c y.1 z.1 = 0
     · rw [if_pos ae] at h2
       rw [← (h.eq _ _).1 ae, if_neg YJ]; exact h1
     · rw [if_neg ae] at h2
       have h3 := h.trans _ _ _ h1 h2
       rw [if_neg (by omega)]; exact h3
def af (a b : UInt8) : Int := if a < b then -1 else if b < a then 1 else 0
theorem Ve {a b : UInt8} : af a b < 0 ↔ a.toNat < b.toNat := by
 unfold af
 by_cases h : a < b
 · have := UInt8.lt_iff_toNat_lt.1 h; simp [h, this]
 · have h' := mt UInt8.lt_iff_toNat_lt.2 h
   rw [if_neg h]
   by_cases g : b < a <;> simp [g] <;> omega
theorem dQ {a b : UInt8} : 0 < af a b ↔ b.toNat < a.toNat := by
 unfold af
 by_cases h : a < b
 · have := UInt8.lt_iff_toNat_lt.1 h; simp [h]; omega
 · rw [if_neg h]
   by_cases g : b < a
   · have := UInt8.lt_iff_toNat_lt.1 g; simp [g, this]
   · have h' := mt UInt8.lt_iff_toNat_lt.2 g; simp [g]; omega
theorem qm : Lz af := by
 refine ⟨fun x y => ?_, fun x y => ?_, fun x y z h1 h2 => ?_⟩
 · have h1 := @Ve x y
   have h2 := @dQ x y
   rw [← UInt8.toNat_inj]; omega
 · rw [Ve, dQ]
 · rw [Ve] at *; omega
theorem l4 : ∀ a b : List UInt8, H3 af a b = Lib.compareBytes a b
 | [], [] => rfl
 | [], _ :: _ => rfl
 | _ :: _, [] => rfl
 | x :: l, y :: m => by
   unfold H3 Lib.compareBytes
   rw [← l4 l m]
   unfold af
   by_cases h1 : x < y
   · simp [h1]
   · by_cases h2 : y < x <;> simp [h1, h2]
def JP (a b : ByteArray) : Int := Lib.compareBytes a.data.toList b.data.toList
theorem dR : Lz JP := by
 have h := qm.H3
 refine ⟨fun x y => ?_, fun x y => ?_, fun x y z h1 h2 => ?_⟩
 · unfold JP
   rw [← l4, h.eq]
   exact ⟨fun e => by cases x; cases y; simp at e; rw [e], fun e => by rw [e]⟩
 · unfold JP; rw [← l4, ← l4]; exact h.Vd _ _
 · unfold JP at *; rw [← l4] at *; exact h.trans _ _ _ h1 h2
def CN : List Lb → List Lb → Int := H3 (SC JP JP)
theorem A1 : Lz CN := (dR.SC dR).H3
section
variable {F : Fl} (hF : F.cmpL = CN)
theorem OR (x : El) : ∀ l : List El, (ad F x l).Perm (x :: l)
 | [] => List.Perm.refl _
 | y :: l => by
   unfold ad
   split
   · exact List.Perm.refl _
   · exact ((OR x l).cons y).trans (List.Perm.swap ..)
theorem Iq : ∀ l : List El, (l0 F l).Perm l
 | [] => List.Perm.refl _
 | x :: l => (OR x _).trans ((Iq l).cons x)
include hF
theorem le_trans' {x y z : El} (h1 : F.cmpL x.ls y.ls ≤ 0) (h2 : F.cmpL y.ls z.ls ≤ 0) : F.cmpL x.ls z.ls ≤ 0 := by
 rw [hF] at *
 rcases Int.lt_or_eq_of_le h1 with g1 | g1
 · rcases Int.lt_or_eq_of_le h2 with g2 | g2
   · exact Int.le_of_lt (A1.trans _ _ _ g1 g2)
   · rw [← (A1.eq _ _).1 g2]; exact h1
 · rw [(A1.eq _ _).1 g1]; exact h2
theorem O8 (x : El) : ∀ l : List El, l.Pairwise (fun a b => F.cmpL a.ls b.ls ≤ 0) → (ad F x l).Pairwise fun a b => F.cmpL a.ls b.ls ≤ 0
 | [], _ => by simp [ad]
 | y :: l, h => by
   rw [List.pairwise_cons] at h
   unfold ad
   split
   · rename_i YJ
     refine List.pairwise_cons.2 ⟨fun z hz => ?_, List.pairwise_cons.2 h⟩
     rcases List.mem_cons.1 hz with rfl | hz
     · exact YJ
     · exact le_trans' hF YJ (h.1 z hz)
   · rename_i YJ
     refine List.pairwise_cons.2 ⟨fun z hz => ?_, O8 x l h.2⟩
     rcases List.mem_cons.1 ((OR x l).mem_iff.1 hz) with rfl | hz
     · have h1 : 0 < F.cmpL z.ls y.ls := by omega
       rw [hF] at *
       exact Int.le_of_lt ((A1.Vd _ _).2 h1)
     · exact h.1 z hz
theorem NO : ∀ l : List El, (l0 F l).Pairwise fun a b => F.cmpL a.ls b.ls ≤ 0
 | [] => List.Pairwise.nil
 | x :: l => O8 hF x _ (NO l)
theorem fX {l m : List El} (hp : m.Perm l) (hs : m.Pairwise fun a b => F.cmpL a.ls b.ls < 0) : DL F l = some m := by
 have A3 : m.Pairwise fun a b => F.cmpL a.ls b.ls ≠ 0 := hs.imp fun h => by omega
 have AKa : l.Pairwise fun a b => F.cmpL a.ls b.ls ≠ 0 := (hp.pairwise_iff fun {a b} h e => by
   rw [hF] at *
   exact h ((A1.eq _ _).2 ((A1.eq _ _).1 e).symm)).1 A3
 unfold DL
 rw [if_pos AKa]
 refine congrArg some (List.Perm.eq_of_pairwise (le := fun a b : El => F.cmpL a.ls b.ls ≤ 0) (fun a b ha hb h1 h2 => ?_) (NO hF l) (hs.imp fun h => Int.le_of_lt h) ((Iq l).trans hp.symm))
 have hab : F.cmpL a.ls b.ls = 0 := by
   refine Int.le_antisymm h1 (Int.not_lt.1 fun h3 => ?_)
   rw [hF] at *
   have := (A1.Vd _ _).1 h3
   omega
 have ham := ((Iq (F := F) l).trans hp.symm).mem_iff.1 ha
 obtain ⟨i, hi, rfl⟩ := List.mem_iff_getElem.1 ham
 obtain ⟨j, hj, rfl⟩ := List.mem_iff_getElem.1 hb
 have oW := List.pairwise_iff_getElem.1 A3
 rcases Nat.lt_trichotomy i j with h | h | h
 · exact absurd hab (oW i j hi hj h)
 · subst h; rfl
 · have h4 := oW j i hj hi h
   rw [hF] at hab h4
   exact absurd ((A1.eq _ _).2 ((A1.eq _ _).1 hab).symm) h4
theorem fY {l m : List El} (hp : m.Perm l) (h : ¬ m.Pairwise fun a b => F.cmpL a.ls b.ls ≠ 0) : DL F l = none := by
 unfold DL
 rw [if_neg fun hl => h ((hp.pairwise_iff fun {a b} h e => by
   rw [hF] at *
   exact h ((A1.eq _ _).2 ((A1.eq _ _).1 e).symm)).2 hl)]
end
end TwW
end
section
namespace TwW
open Go Tw
def D9 (c : UInt8) (s : ByteArray) : List ByteArray := Lib.splitB ⟨#[c]⟩ 0 (Lib.countB s ⟨#[c]⟩) s
def fZ : List ByteArray → ByteArray → Bool
 | [], _ => true
 | t :: r, s => if Lib.index s.data.toList t.data.toList < 0 then false else fZ r (s.extract ((Lib.index s.data.toList t.data.toList).toNat + t.size) s.size)
def yi (l : List ByteArray) (s : ByteArray) : Bool :=
 let a := l.head?.getD ⟨#[]⟩
 let z := l.getLast?.getD ⟨#[]⟩
 if l.length = 1 then decide (s = a) else
   if s.size < a.size + z.size ∨ s.extract 0 a.size ≠ a ∨ s.extract (s.size - z.size) s.size ≠ z then false else fZ l.tail.dropLast (s.extract a.size (s.size - z.size))
def YK (p s : ByteArray) : Bool := (D9 124 p).any fun x => yi (D9 42 x) s
def O9 (m : Mt) (ls : List Lb) : Bool :=
 let v := Dm ls m.name
 if m.kind = 1 then decide (v = m.val) else if m.kind = 2 then decide (v ≠ m.val) else if m.kind = 3 then YK m.val v else if m.kind = 4 then !YK m.val v else false
def Kk (ms : List Mt) (ls : List Lb) : Bool := ms.all fun m => O9 m ls
def BQ (u : UInt8) : Bool := decide (48 ≤ u.toNat ∧ u.toNat ≤ 57)
end TwW
end
section
namespace TwW
open Go Tw
def L9 (v least : Int) : Bool := decide (least ≤ v) && decide (v < 2147483648)
section
variable (l5 : ByteArray → Bool) (ANz : ByteArray → Bool)
def OS (n : Nd) : Bool := n.names.all l5 && (decide (n.names.length = 0) || decide (n.EB ≠ 0))
def JG (ms : List Mt) : Int := if 8 < ms.length then 41 else if ms.all (fun m => decide (1 ≤ m.kind ∧ m.kind ≤ 4) && l5 m.name && decide (m.val.size ≤ 256)) then 0 else 40
end
end TwW
end
section
namespace TwW
open Go Tw Go.RowKit Go.Proofs.Tryz
abbrev Pt := Int × Int
def Gp (_ : Hp) (vs : List Value) (x : Pt) : Prop := vs = [.int .i64 x.1, .int .u64 x.2]
theorem Gp.mono : Gw Gp := fun _ _ _ _ _ h => h
def GM (σ : Hp) (vs : List Value) (s : Sr) : Prop := ∃ p n c q m d, vs = [.slice p n c, .slice q m d] ∧ Fj σ p n s.ls ∧ Ag 2 Gp σ q m s.ps ∧ m ≤ d
theorem GM.mono : Gw GM := fun _ _ _ _ hx ⟨p, n, c, q, m, d, hv, h1, h2, h3⟩ => ⟨p, n, c, q, m, d, hv, h1.mono CG.mono hx, h2.mono Gp.mono hx, h3⟩
def Np (_ : Hp) (vs : List Value) (m : Mt) : Prop := vs = [.int .i64 m.kind, .string m.name, .string m.val]
theorem Np.mono : Gw Np := fun _ _ _ _ _ h => h
def MX (σ : Hp) (vs : List Value) (n : Nd) : Prop := ∃ p k c q m d, vs = [.int .i64 n.kind, .int .i64 n.op, .string n.text, .slice p k c, .int .i64 n.width, .int .i64 n.back, .int .i64 n.EB, .slice q m d, .bool n.bool, .int .i64 n.parts] ∧ Ag 3 Np σ p k n.mt ∧ Ex 1 σ q m (n.names.map .string)
theorem MX.mono : Gw MX := fun _ _ _ _ hx ⟨p, k, c, q, m, d, hv, h1, h2⟩ => ⟨p, k, c, q, m, d, hv, h1.mono Np.mono hx, h2.mono hx⟩
def Bj (σ : Hp) (vs : List Value) (x : El) : Prop := ∃ p n c, vs = [.slice p n c, .int .u64 x.v] ∧ Fj σ p n x.ls
theorem Bj.mono : Gw Bj := fun _ _ _ _ hx ⟨p, n, c, hv, h⟩ => ⟨p, n, c, hv, h.mono CG.mono hx⟩
def SD (σ : Hp) (vs : List Value) (x : Rg) : Prop := ∃ p n c q m d, vs = [.slice p n c, .slice q m d] ∧ Fj σ p n x.ls ∧ Di .u64 σ q m x.vs ∧ m ≤ d
theorem SD.mono : Gw SD := fun _ _ _ _ hx ⟨p, n, c, q, m, d, hv, h1, h2, h3⟩ => ⟨p, n, c, q, m, d, hv, h1.mono CG.mono hx, h2.mono hx, h3⟩
def MY (σ : Hp) (vs : List Value) (x : Vv) : Prop := ∃ p n c q m d, vs = [.int .i64 x.kind, .int .u64 x.v, .slice p n c, .slice q m d] ∧ Ag 2 Bj σ p n x.vec ∧ Ag 2 SD σ q m x.N5
theorem MY.mono : Gw MY := fun _ _ _ _ hx ⟨p, n, c, q, m, d, hv, h1, h2⟩ => ⟨p, n, c, q, m, d, hv, h1.mono Bj.mono hx, h2.mono SD.mono hx⟩
theorem Ag.sub {α : Type} {s : Nat} {E : Hp → List Value → α → Prop} {σ : Hp} {p : Option Addr} {n c i m : Nat} {xs : List α} (h : Ag s E σ p n xs) (hs : 0 < s) (yj : i + m ≤ n) (hc : n ≤ c) : Ag s E σ (IF p i c s) m ((xs.drop i).take m) := by
 obtain ⟨h1, cs, ⟨h2, h3, h4⟩, h5, h6⟩ := h
 refine ⟨by rw [List.length_take, List.length_drop]; omega, (cs.drop (i * s)).take (m * s), ⟨?_, by omega, ?_⟩, ?_, fun j x hj => ?_⟩
 · have : i * s + m * s ≤ n * s := by rw [← Nat.add_mul]; exact Nat.mul_le_mul_right _ yj
   rw [List.length_take, List.length_drop]; omega
 · rcases Nat.eq_zero_or_pos m with hm | hm
   · exact .inl hm
   · rcases h4 with h4 | ⟨b, o, rfl, h4⟩
     · omega
     · refine .inr ⟨b, o + i * s, ?_, ?_⟩
       · unfold IF
         rw [if_neg (by omega)]
         simp [Bb]
       · exact h4.part
 · have : i * s + m * s ≤ n * s := by rw [← Nat.add_mul]; exact Nat.mul_le_mul_right _ yj
   rw [List.length_take, List.length_drop, List.length_take, List.length_drop]
   have : min m (xs.length - i) = m := by omega
   rw [this]; omega
 · rw [List.getElem?_take] at hj
   split at hj
   · rename_i hjm
     rw [List.getElem?_drop] at hj
     have := h6 (i + j) x hj
     have e : ((((cs.drop (i * s)).take (m * s)).drop (j * s)).take s) = (cs.drop ((i + j) * s)).take s := by
       have hle : j * s + s ≤ m * s := by rw [← Nat.succ_mul]; exact Nat.mul_le_mul_right _ hjm
       rw [List.drop_take, List.take_take, List.drop_drop, Nat.add_mul]
       congr 1
       omega
     rw [e]; exact this
   · cases hj
section
variable {σ σ' τ : Hp} {R : Rr}
theorem fa {a b : ByteArray} : YN prog 168 #[.string a, .string b] σ (.int .i64 (JP a b)) := fun w _ => by
 rw [run_callFunc_extern Go.Proofs.Tryz.func168 (by kernel_rfl) (by kernel_rfl) (by kernel_rfl) (e := Extern.BytealgCompare.compare) (by kernel_rfl), Lib.run_compareString]
 rfl
theorem PA [Eg] {a b : ByteArray} (h : R (.returned (.int .i64 (JP a b))) σ) : Spec prog 78 #[.string a, .string b] σ R :=
 JB.start (Bq.start (.y fa ⟨_, rfl, _, rfl, h⟩))
theorem ah [Eg] {x y : Lb} (h : ∀ σ', Ext σ σ' → R (.returned (.int .i64 (SC JP JP x y))) σ') : Spec prog 76 #[.agg #[.string x.1, .string x.2], .agg #[.string y.1, .string y.2]] σ R := by
 refine JA.start fun _ _ => PA ⟨_, rfl, PA ⟨_, rfl, fun b hb => ?_⟩⟩
 have hh := h _ (.set hb (o := .cells #[.int .i64 (JP x.1 y.1), .int .i64 (JP x.2 y.2)] 3 (0, 0)))
 unfold SC at hh
 generalize JP x.1 y.1 = u at *
 generalize JP x.2 y.2 = v at *
 refine Gh.start (Gh.Aa ⟨fun _ => ⟨b, 0, rfl, by omega, u, by simp [Hp.ld, Hp.AB], fun h0 => ⟨_, rfl, ?_⟩, fun h0 => ⟨by unfold AK; omega, Gh.Aa ⟨fun _ => ⟨b, 0, rfl, by omega, v, by simp [Hp.ld, Hp.AB], fun h1 => ⟨_, rfl, ?_⟩, fun h1 => ⟨by unfold AK; omega, Gh.Aa ⟨fun h2 => by omega, fun _ => ⟨_, rfl, ?_⟩⟩⟩⟩, fun h2 => by omega⟩⟩⟩, fun h2 => by omega⟩)
 · rw [if_neg h0] at hh; exact hh
 · rw [if_pos (Decidable.not_not.1 h0)] at hh; exact hh
 · have h1' : v = 0 := Decidable.not_not.1 h1
   rw [if_pos (Decidable.not_not.1 h0), h1'] at hh
   rw [← h1'] at hh ⊢
   exact hh
theorem AKb : Enters prog 76 := fun args w => call76 args w
theorem A2 {α : Type} {xs : List α} {k : Nat} {y : α} (hy : xs[k]? = some y) : xs.drop k = y :: xs.drop (k + 1) := by
 obtain ⟨h, rfl⟩ := List.getElem?_eq_some_iff.1 hy
 exact List.drop_eq_getElem_cons h
theorem LL [Eg] {p q : Option Addr} {n c m d : Nat} {ls ms : List Lb} (hr : Fj σ p n ls) (hs : Fj σ q m ms) (h : ∀ σ', Ext σ σ' → R (.returned (.int .i64 (CN ls ms))) σ') : Spec prog 52 #[.slice p n c, .slice q m d] σ R := by
 have hl : ls.length = n := hr.1
 have hm : ms.length = m := hs.1
 refine Lr.start (Aw.start ?_)
 suffices H : ∀ g k : Nat, ∀ σ', n - k = g → k ≤ n → k ≤ m → Ext σ σ' → CN ls ms = CN (ls.drop k) (ms.drop k) → Aw.HX (AA R (CI .i64 fun x7 y => R (.returned (.int .i64 x7)) y)) p n c q m d (.func (.func 76) #[] #[]) p n c n k σ' from H n 0 σ rfl (Nat.zero_le _) (Nat.zero_le _) (.refl _) rfl
 intro g
 induction g with
 | zero =>
   intro k σ' hg hk uf hx he
   have bw : k = n := by omega
   rw [List.drop_eq_nil_of_le (by omega)] at he
   refine Aw.BY ⟨fun As => by omega, fun _ => ⟨fun hnm => ⟨_, rfl, ?_⟩, fun hnm => ⟨_, rfl, ?_⟩⟩⟩
   · obtain ⟨y, hy⟩ := hs.ex (k := k) (by omega)
     rw [A2 hy] at he
     have := h σ' hx
     rw [he] at this; exact this
   · rw [List.drop_eq_nil_of_le (by omega)] at he
     have := h σ' hx
     rw [he] at this; exact this
 | succ g ih =>
   intro k σ' hg hk uf hx he
   obtain ⟨x, fU⟩ := hr.ex (k := k) (by omega)
   obtain ⟨b, o, rfl, ZH⟩ := Fj.at hr fU
   rw [A2 fU] at he
   refine Aw.BY ⟨fun _ => ⟨b, o, rfl, by omega, x.1, x.2, by simpa using ZH.mono hx, fun _ => ⟨fun hY => ⟨_, rfl, ?_⟩, fun hY => ?_⟩⟩, fun hh => by omega⟩
   · rw [show ms.drop k = [] from List.drop_eq_nil_of_le (by omega)] at he
     have := h σ' hx
     rw [he] at this; exact this
   · obtain ⟨y, hyk⟩ := hs.ex (k := k) (by omega)
     obtain ⟨b', o', rfl, ai⟩ := Fj.at hs hyk
     rw [A2 hyk] at he
     have I1 : CN ls ms = if SC JP JP x y = 0 then CN (ls.drop (k + 1)) (ms.drop (k + 1)) else SC JP JP x y := he
     refine ⟨b', o', rfl, by omega, y.1, y.2, by simpa using ai.mono hx, fun _ => ⟨76, #[], #[], rfl, AKb, ah fun σ2 A4 => ⟨_, rfl, fun A3 => ⟨_, rfl, ?_⟩, fun heq => ⟨AN (by omega : k < n) hr.big, ih (k + 1) σ2 (by omega) (by omega) (by omega) (hx.trans A4) ?_⟩⟩⟩⟩
     · have := h σ2 (hx.trans A4)
       rw [I1, if_neg A3] at this; exact this
     · rw [I1, if_pos (Decidable.not_not.1 heq)]
def MZ : List Pt → Bool
 | [] => false
 | [_] => true
 | a :: b :: l => decide (a.1 < b.1) && MZ (b :: l)
theorem Kl : ∀ ps : List Pt, MZ ps = true ↔ 0 < ps.length ∧ ∀ j a b, ps[j]? = some a → ps[j + 1]? = some b → a.1 < b.1
 | [] => by simp [MZ]
 | [a] => by simp [MZ]
 | a :: b :: l => by
   simp only [MZ, Bool.and_eq_true, decide_eq_true_eq]
   rw [Kl (b :: l)]
   constructor
   · rintro ⟨h1, h2, h3⟩
     refine ⟨by simp, fun j x y hx hy => ?_⟩
     cases j with
     | zero => simp at hx hy; subst hx; subst hy; exact h1
     | succ j => exact h3 j x y (by simpa using hx) (by simpa using hy)
   · rintro ⟨h1, h2⟩
     exact ⟨h2 0 a b rfl rfl, by simp, fun j x y hx hy => h2 (j + 1) x y (by simpa using hx) (by simpa using hy)⟩
theorem Gp.at {p : Option Addr} {n i : Nat} {ps : List Pt} {x : Pt} (hr : Ag 2 Gp σ p n ps) (hx : ps[i]? = some x) : ∃ b o, p = some ⟨b, o, none⟩ ∧ Au σ b (o + i * 2) [.int .i64 x.1, .int .u64 x.2] := by
 obtain ⟨b, o, vs, hp, rfl, hl⟩ := Ag.idx hr hx
 exact ⟨b, o, hp, hl⟩
theorem YL {p : Option Addr} {n c : Nat} {ps : List Pt} (hr : Ag 2 Gp σ p n ps) (h : R (.returned (.bool (MZ ps))) σ) : Spec prog 69 #[.slice p n c] σ R := by
 have hl : ps.length = n := hr.1
 refine Dc.start ?_
 have fin : (∀ j a b, ps[j]? = some a → ps[j + 1]? = some b → a.1 < b.1) → R (.returned (.bool (decide (0 < (n : Int))))) σ := fun hh => by
   have e : MZ ps = decide (0 < (n : Int)) := by
     rw [Bool.eq_iff_iff, Kl, decide_eq_true_eq]
     exact ⟨fun h => by omega, fun h => ⟨by omega, hh⟩⟩
   rw [e] at h; exact h
 suffices H : ∀ g k : Nat, n - k = g → 1 ≤ k → (∀ j a b, j + 1 < k → ps[j]? = some a → ps[j + 1]? = some b → a.1 < b.1) → Dc.I7 R p n c k σ from H (n - 1) 1 rfl (Nat.le_refl _) (fun j a b hj => by omega)
 intro g
 induction g with
 | zero =>
   intro k hg hk Dh
   refine Dc.BN ⟨fun As => by omega, fun _ => fin fun j a b ha hb => Dh j a b ?_ ha hb⟩
   have := (List.getElem?_eq_some_iff.1 hb).1; omega
 | succ g ih =>
   intro k hg hk Dh
   obtain ⟨x, hx⟩ := hr.ex (k := k) (by omega)
   obtain ⟨y, hy⟩ := hr.ex (k := k - 1) (by omega)
   obtain ⟨b, o, rfl, ZH⟩ := Gp.at hr hx
   obtain ⟨_, _, he, ai⟩ := Gp.at hr hy
   cases he
   have e1 : Int.toNat ((k : Int) - 1) = k - 1 := by omega
   refine Dc.BN ⟨fun _ => ⟨b, o, rfl, by omega, x.1, by simpa using ZH.1, by unfold AK; have := hr.big; omega, by omega, y.1, by rw [e1]; simpa using ai.1, fun hle => ?_, fun ug => ⟨AN (by omega : k < n) hr.big, ih (k + 1) (by omega) (by omega) fun j a b' hj ha hb => ?_⟩⟩, fun hh => by omega⟩
   · have e : MZ ps = false := by
       rw [Bool.eq_false_iff, ne_eq, Kl]
       exact fun hh => by
         have := hh.2 (k - 1) y x hy (by rw [show k - 1 + 1 = k by omega]; exact hx)
         omega
     rw [e] at h; exact h
   · by_cases oh : j + 1 = k
     · rw [oh, hx] at hb; cases hb
       rw [show j = k - 1 by omega, hy] at ha; cases ha
       omega
     · exact Dh j a b' (by omega) ha hb
def JQ : Option (List Lb) → List Sr → Bool
 | _, [] => true
 | q, s :: l => decide (OQ s.ls = 0) && MZ s.ps && (match q with | none => true | some q => decide (CN q s.ls < 0)) && JQ (some s.ls) l
theorem UK (q : Option (List Lb)) (s : Sr) (l : List Sr) : JQ q (s :: l) = (decide (OQ s.ls = 0) && MZ s.ps && (match q with | none => true | some q => decide (CN q s.ls < 0)) && JQ (some s.ls) l) := by
 cases q <;> rfl
theorem GM.at {p : Option Addr} {n i : Nat} {ss : List Sr} {s : Sr} (hr : Ag 2 GM σ p n ss) (hx : ss[i]? = some s) : ∃ b o p1 n1 c1 q m d, p = some ⟨b, o, none⟩ ∧ Au σ b (o + i * 2) [.slice p1 n1 c1, .slice q m d] ∧ Fj σ p1 n1 s.ls ∧ Ag 2 Gp σ q m s.ps ∧ m ≤ d := by
 obtain ⟨b, o, vs, hp, ⟨p1, n1, c1, q, m, d, rfl, h1, h2, h3⟩, hl⟩ := Ag.idx hr hx
 exact ⟨b, o, p1, n1, c1, q, m, d, hp, hl, h1, h2, h3⟩
theorem YM {p : Option Addr} {n c : Nat} {ss : List Sr} (hr : Ag 2 GM σ p n ss) (h : ∀ σ', Ext σ σ' → R (.returned (.int .i64 (if JQ none ss then 0 else 100))) σ') : Spec prog 46 #[.slice p n c] σ R := by
 have hl : ss.length = n := hr.1
 refine DH.start ?_
 suffices H : ∀ g k : Nat, ∀ σ', n - k = g → k ≤ n → Ext σ σ' → JQ none ss = JQ (if k = 0 then none else (ss[k - 1]?).map (·.ls)) (ss.drop k) → DH.HX R p n c p n c n k σ' from H n 0 σ rfl (Nat.zero_le _) (.refl _) rfl
 intro g
 induction g with
 | zero =>
   intro k σ' hg hk hx he
   rw [List.drop_eq_nil_of_le (by omega)] at he
   refine DH.BY ⟨fun As => by omega, fun _ => ?_⟩
   have := h σ' hx
   rw [he] at this; exact this
 | succ g ih =>
   intro k σ' hg hk hx he
   have IJ : k < n := by omega
   obtain ⟨s, hs⟩ := hr.ex IJ
   obtain ⟨b, o, p1, n1, c1, q, m, d, rfl, YO, h1, h2, h3⟩ := GM.at hr hs
   rw [A2 hs, UK] at he
   have bad : (decide (OQ s.ls = 0) && MZ s.ps && (match (if k = 0 then none else (ss[k - 1]?).map (·.ls)) with | none => true | some q => decide (CN q s.ls < 0))) = false → ∀ σ2, Ext σ σ2 → R (.returned (.int .i64 100)) σ2 := fun hf σ2 A4 => by
     have := h σ2 A4
     rw [he, hf] at this; exact this
   refine DH.BY ⟨fun _ => ⟨b, o, rfl, by omega, p1, n1, c1, q, m, d, by simpa using YO.mono hx, fun _ => Ph (h1.mono CG.mono hx) ⟨_, rfl, fun A3 => bad (by simp [A3]) σ' hx, fun h0 => YL (h2.mono Gp.mono hx) ⟨_, rfl, fun hf => bad (by simp [hf]) σ' hx, fun ht => ?_⟩⟩⟩, fun hh => by omega⟩
   have dS := Decidable.not_not.1 h0
   have iJ : MZ s.ps = true := ht
   have next : ∀ σ2, Ext σ σ2 → (match (if k = 0 then none else (ss[k - 1]?).map (·.ls)) with | none => true | some q => decide (CN q s.ls < 0)) = true → AK ((k : Int) + 1) ∧ DH.HX R (aD b o) n c (aD b o) n c n ((k : Int) + 1) σ2 := fun σ2 A4 hm => by
     refine ⟨AN IJ hr.big, ih (k + 1) σ2 (by omega) (by omega) A4 ?_⟩
     rw [he, hm, dS, iJ]
     simp [hs]
   refine ⟨fun QK => ⟨by unfold AK; have := hr.big; omega, b, o, rfl, by omega, ?_⟩, fun QK => next σ' hx (by rw [if_pos (by omega)])⟩
   obtain ⟨s', S4⟩ := hr.ex (k := k - 1) (by omega)
   obtain ⟨_, _, p1', n1', c1', _, _, _, WC, AKd, h1', _, _⟩ := GM.at hr S4
   cases WC
   have e1 : Int.toNat ((k : Int) - 1) = k - 1 := by omega
   refine ⟨p1', n1', c1', by rw [e1]; simpa using (AKd.mono hx).1, LL (h1'.mono CG.mono hx) (h1.mono CG.mono hx) fun σ2 A4 => ⟨_, rfl, fun fR => bad ?_ σ2 (hx.trans A4), fun As => next σ2 (hx.trans A4) ?_⟩⟩
   · rw [if_neg (by omega), S4]
     simp; omega
   · rw [if_neg (by omega), S4]
     simp; omega
end
end TwW
end
section
namespace TwW
open Go Tw Go.RowKit Go.Proofs.Tryz
def H4 (x : Nat) : Bool := !(FloatKind.f64.format.order x x == some .eq)
def toF (x : Nat) : Nat := if H4 x then 9221120237041090560 else x
theorem SE (d : Ieee.Datum) : d.order d = if d.isNaN then none else some .eq := by
 cases d with
 | nan => rfl
 | infinity s => cases s <;> rfl
 | number s m i => simp [Ieee.Datum.order, Ieee.Datum.isNaN, Std.ReflCmp.compare_self]
theorem NQ (x : Nat) : H4 x = true ↔ 9218868437227405312 < x % 9223372036854775808 := by
 have h1 : H4 x = (Ieee.double.read x).isNaN := by
   show (!((Ieee.double.read x).order (Ieee.double.read x) == some .eq)) = _
   rw [SE]
   cases (Ieee.double.read x).isNaN <;> rfl
 rw [h1]
 have e1 : Ieee.double.signWeight = 9223372036854775808 := by decide
 have e2 : Ieee.double.binade = 4503599627370496 := by decide
 have e3 : Ieee.double.infRung = 9218868437227405312 := by decide
 unfold Ieee.Format.read
 simp only [e1, e2, e3]
 split
 · simp [Ieee.Datum.isNaN]; omega
 · split
   · simp [Ieee.Datum.isNaN]; omega
   · split
     · simp [Ieee.Datum.isNaN]; omega
     · simp [Ieee.Datum.isNaN]; omega
theorem YQ : H4 9221120237041090560 = true := (NQ _).2 (by decide)
theorem aj (a b t : Nat) : H4 (Question.cut (.nanBits .f64 a b) t) = true := by
 rw [NQ]
 show 9218868437227405312 < ((t % 2) * 9223372036854775808 + 9218868437227405312 + 1 + (t / 2) % 4503599627370495) % 9223372036854775808
 have h1 := Nat.mod_lt (t / 2) (show 0 < 4503599627370495 by decide)
 generalize (t / 2) % 4503599627370495 = r at *
 rcases Nat.mod_two_eq_zero_or_one t with h | h <;> rw [h] <;> omega
theorem toF_drawn (a b t : Nat) : toF (Question.cut (.nanBits .f64 a b) t) = 9221120237041090560 := by unfold toF; rw [aj]; rfl
def uh (op : Int) (a b : Nat) : Option Nat := if op = 1 then Ieee.double.add a b else if op = 2 then Ieee.double.sub a b else if op = 3 then Ieee.double.mul a b else Ieee.double.div a b
def AEv : Option Nat → Nat
 | some r => toF r
 | none => 9221120237041090560
def AEw (a b : Nat) : Option Nat → Sem Value
 | some r => pure (.float .f64 r)
 | none => do pure (.float .f64 (← choose (.nanBits .f64 a b)))
def UL (op : Int) (a b : Nat) : Nat := AEv (uh op a b)
def fCm (op : Int) (a b : Nat) : Bool :=
 let c := Ieee.double.order a b
 if op = 5 then c == some .eq else if op = 6 then c != some .eq else if op = 7 then c == some .lt else if op = 8 then c == some .lt || c == some .eq else if op = 9 then c == some .gt else if op = 10 then c == some .gt || c == some .eq else false
section
variable [Eg] {σ : Hp} {R : Rr}
theorem NR {b : Nat} : YN prog 45 #[.float .f64 b] σ (.int .u64 b) := fun w _ => by
 rw [run_callFunc_extern Go.Proofs.Tryz.func45 (by kernel_rfl) (by kernel_rfl) (by kernel_rfl) (e := Extern.MathFloatBits.float64bits) (by kernel_rfl)]
 rfl
theorem l6 {x : Int} : YN prog 22 #[.int .u64 x] σ (.float .f64 x.toNat) := fun w _ => by
 rw [run_callFunc_extern Go.Proofs.Tryz.func22 (by kernel_rfl) (by kernel_rfl) (by kernel_rfl) (e := Extern.MathFloatBits.float64frombits) (by kernel_rfl)]
 rfl
theorem ak {x : Nat} (h : R (.returned (.bool (H4 x))) σ) : Spec prog 216 #[.float .f64 x] σ R :=
 Qv.start ⟨H4 x, fun w _ => rfl, h⟩
theorem F7 {x : Int} (h : R (.returned (.float .f64 x.toNat)) σ) : Spec prog 182 #[.int .u64 x] σ R :=
 cd.start (.y l6 ⟨_, rfl, h⟩)
theorem GA {x : Nat} (h : R (.returned (.int .u64 (toF x : Nat))) σ) : Spec prog 174 #[.float .f64 x] σ R := by
 refine dI.start (ak ⟨_, rfl, fun ht => ?_, fun hf => .y NR ⟨_, rfl, ?_⟩⟩)
 · rw [show toF x = 9221120237041090560 by unfold toF; rw [ht]; rfl] at h; exact h
 · rw [show toF x = x by unfold toF; rw [hf]; rfl] at h; exact h
def dT (x : Int) : Int := (toF x.toNat : Nat)
theorem FW {x : Int} (h : R (.returned (.int .u64 (dT x))) σ) : Spec prog 186 #[.int .u64 x] σ R :=
 Oz.start (F7 ⟨_, rfl, GA ⟨_, rfl, h⟩⟩)
theorem l7 {m : Sem Value} {q : Question} {f : Nat → Value} {Φ : Value → Hp → Prop} (hm : ∀ w, m.run prog w = .ok (f (q.cut (w.tape w.drawn q))) { w with drawn := w.drawn + 1 }) (h : ∀ t, Φ (f (q.cut t)) σ) : AJ prog m σ Φ := fun w F hs hF =>
 ⟨_, _, σ, hm w, h _, ⟨fun b o hb => hs b o hb, fun b hb => ⟨(hF b hb).2, rfl⟩, (CW.same rfl rfl rfl).drew, rfl, Nat.le_refl _⟩⟩
theorem H5 {m : Sem Value} {v : Value} {Φ : Value → Hp → Prop} (hm : ∀ w, m.run prog w = .ok v w) (h : Φ v σ) : AJ prog m σ Φ := fun w F hs hF =>
 ⟨_, _, σ, hm w, h, ⟨hs, fun b hb => ⟨(hF b hb).2, rfl⟩, .same rfl rfl rfl, rfl, Nat.le_refl _⟩⟩
theorem LM {op : BinOp} {a b : Nat} {Φ : Value → Hp → Prop} (r : Option Nat) (hr : ∀ w, (Go.binOp op 51 (.float .f64 a) (.float .f64 b)).run prog w = (AEw a b r).run prog w)
   (h : ∀ x : Nat, toF x = AEv r → Φ (.float .f64 x) σ) : AJ prog (Go.binOp op 51 (.float .f64 a) (.float .f64 b)) σ Φ := by
 cases r with
 | some r => exact H5 (v := .float .f64 r) (fun w => (hr w).trans rfl) (h r rfl)
 | none => exact l7 (q := .nanBits .f64 a b) (f := fun x => .float .f64 x) (fun w => (hr w).trans rfl) (fun t => h _ (toF_drawn a b t))
theorem P9 {a b : Nat} {Φ : Value → Hp → Prop} (h : ∀ x : Nat, toF x = UL 1 a b → Φ (.float .f64 x) σ) : AJ prog (Go.binOp .add 51 (.float .f64 a) (.float .f64 b)) σ Φ :=
 LM (Ieee.double.add a b) (fun w => by refine (show _ = (Op.floatArith .add .f64 a b).run prog w from rfl).trans ?_; unfold Op.floatArith; simp only [FloatKind.format]; cases Ieee.double.add a b <;> rfl) h
theorem qo {a b : Nat} {Φ : Value → Hp → Prop} (h : ∀ x : Nat, toF x = UL 2 a b → Φ (.float .f64 x) σ) : AJ prog (Go.binOp .sub 51 (.float .f64 a) (.float .f64 b)) σ Φ :=
 LM (Ieee.double.sub a b) (fun w => by refine (show _ = (Op.floatArith .sub .f64 a b).run prog w from rfl).trans ?_; unfold Op.floatArith; simp only [FloatKind.format]; cases Ieee.double.sub a b <;> rfl) h
theorem NS {a b : Nat} {Φ : Value → Hp → Prop} (h : ∀ x : Nat, toF x = UL 3 a b → Φ (.float .f64 x) σ) : AJ prog (Go.binOp .mul 51 (.float .f64 a) (.float .f64 b)) σ Φ :=
 LM (Ieee.double.mul a b) (fun w => by refine (show _ = (Op.floatArith .mul .f64 a b).run prog w from rfl).trans ?_; unfold Op.floatArith; simp only [FloatKind.format]; cases Ieee.double.mul a b <;> rfl) h
theorem dU {a b : Nat} {Φ : Value → Hp → Prop} (h : ∀ x : Nat, toF x = UL 4 a b → Φ (.float .f64 x) σ) : AJ prog (Go.binOp .quo 51 (.float .f64 a) (.float .f64 b)) σ Φ :=
 LM (Ieee.double.div a b) (fun w => by refine (show _ = (Op.floatArith .quo .f64 a b).run prog w from rfl).trans ?_; unfold Op.floatArith; simp only [FloatKind.format]; cases Ieee.double.div a b <;> rfl) h
def Ma (op a b : Int) : Int := (UL op a.toNat b.toNat : Nat)
theorem Ir {op a b : Int} (h : R (.returned (if 1 ≤ op ∧ op ≤ 4 then .tuple #[.int .u64 (Ma op a b), .bool true] else .tuple #[.int .u64 0, .bool false])) σ) : Spec prog 203 #[.int .i64 op, .int .u64 a, .int .u64 b] σ R := by
 refine Rk.start (F7 ⟨_, rfl, F7 ⟨_, rfl, fun h1 => P9 fun x hx => ⟨_, rfl, GA ⟨_, rfl, ?_⟩⟩, fun h1 => ⟨fun h2 => qo fun x hx => ⟨_, rfl, GA ⟨_, rfl, ?_⟩⟩, fun h2 => ⟨fun h3 => NS fun x hx => ⟨_, rfl, GA ⟨_, rfl, ?_⟩⟩, fun h3 => ⟨fun h4 => dU fun x hx => ⟨_, rfl, GA ⟨_, rfl, ?_⟩⟩, fun h4 => ?_⟩⟩⟩⟩⟩)
 · subst h1; rw [hx]; exact h
 · subst h2; rw [hx]; exact h
 · subst h3; rw [hx]; exact h
 · subst h4; rw [hx]; exact h
 · rw [if_neg (by omega)] at h; exact h
end
end TwW
end
