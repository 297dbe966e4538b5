/-
  Part 3 of the proof that the law EvalGroupsUptoCardSaid of the given program answers true for every input of the given statement; the input reads behind the call as it did. (The texts: packed from 18 texts. Names are shortened by the packing program, for the bound on size.)
-/
import Derived.Test.YtlmhidjgplomgaaGreatDoorA2
import Derived.Laws.BytesArg
import Derived.Laws.Bits64b
import Derived.Laws.IdiomStrings
import Derived.Lib.Bytealg
import Derived.Lib.Split
import Derived.Lib.Index
set_option linter.all false
section
set_option maxRecDepth 100000
noncomputable section
namespace TwW
open Go Tw Go.Proofs.Tryz
variable [Ev] {R : Rr} {σ : Hp}

namespace O6
def M : Fw := ⟨prog, 14, f14, [11, 15, 25, 35, 36], [], false, [], [], []⟩
theorem ok : M.Ok := ⟨.cons call11 (.cons call15 (.cons call25 (.cons call35 (.cons call36 (AG.nil))))), mixed, func14, by kernel_rfl⟩
theorem start (h : Al σ fun BA => Spec prog 25 #[.float .f64 4607182418800017408] (Hp.set σ BA (.cells #[(.string (ByteArray.mk #[95, 95, 110, 97, 109, 101, 95, 95])), (.string (ByteArray.mk #[120])), (.string (ByteArray.mk #[97])), (.string (ByteArray.mk #[49]))] 56 (0, 0))) (AA R (CI .u64 fun x12 y => Spec prog 25 #[.float .f64 4613937818241073152] y (AA R (CI .u64 fun Y6 AF => Al AF fun Lm => Al (Hp.set AF Lm (.cells #[.int .i64 0, .int .u64 x12, .int .i64 60, .int .u64 Y6] 50 (0, 0))) fun XR => Spec prog 25 #[.float .f64 4617315517961601024] (Hp.set (Hp.set AF Lm (.cells #[.int .i64 0, .int .u64 x12, .int .i64 60, .int .u64 Y6] 50 (0, 0))) XR (.cells #[(.string (ByteArray.mk #[95, 95, 110, 97, 109, 101, 95, 95])), (.string (ByteArray.mk #[120])), (.string (ByteArray.mk #[97])), (.string (ByteArray.mk #[50]))] 56 (0, 0))) (AA R (CI .u64 fun aK AH => Al AH fun Ns => Al (Hp.set AH Ns (.cells #[.int .i64 60, .int .u64 aK] 50 (0, 0))) fun LA => Al (Hp.set (Hp.set AH Ns (.cells #[.int .i64 60, .int .u64 aK] 50 (0, 0))) LA (.cells #[(.slice (aD BA 0) 2 2), (.slice (aD Lm 0) 2 2), (.slice (aD XR 0) 2 2), (.slice (aD Ns 0) 1 1)] 40 (0, 0))) fun Wy => Al (Hp.set (Hp.set (Hp.set AH Ns (.cells #[.int .i64 60, .int .u64 aK] 50 (0, 0))) LA (.cells #[(.slice (aD BA 0) 2 2), (.slice (aD Lm 0) 2 2), (.slice (aD XR 0) 2 2), (.slice (aD Ns 0) 1 1)] 40 (0, 0))) Wy (.cells #[.int .i64 1, (.string (ByteArray.mk #[95, 95, 110, 97, 109, 101, 95, 95])), (.string (ByteArray.mk #[120]))] 77 (0, 0))) fun fN => Spec prog 11 #[(.slice (aD fN 0) 2 2), (.slice (aD LA 0) 2 2), .int .i64 60] (Hp.set (Hp.set (Hp.set (Hp.set AH Ns (.cells #[.int .i64 60, .int .u64 aK] 50 (0, 0))) LA (.cells #[(.slice (aD BA 0) 2 2), (.slice (aD Lm 0) 2 2), (.slice (aD XR 0) 2 2), (.slice (aD Ns 0) 1 1)] 40 (0, 0))) Wy (.cells #[.int .i64 1, (.string (ByteArray.mk #[95, 95, 110, 97, 109, 101, 95, 95])), (.string (ByteArray.mk #[120]))] 77 (0, 0))) fN (.cells #[.int .i64 2, .int .i64 0, (.string (ByteArray.mk #[])), (.slice (aD Wy 0) 1 1), .int .i64 0, .int .i64 0, .int .i64 0, .slice none 0 0, .bool false, .int .i64 0, .int .i64 5, .int .i64 1, (.string (ByteArray.mk #[])), .slice none 0 0, .int .i64 0, .int .i64 0, .int .i64 0, .slice none 0 0, .bool false, .int .i64 1] 36 (0, 0))) (AA R (fun z AZ => ∃ AC5 xp AJP AC6, z = (.tuple #[.slice AC5 xp AJP, .int .i64 AC6]) ∧ Spec prog 35 #[(.slice (aD fN 0) 2 2), (.slice (aD LA 0) 2 2), .int .i64 0, .int .i64 60, .int .i64 60] AZ (AA R (fun z D4 => ∃ XS VD aL aM, z = (.tuple #[.slice XS VD aL, .int .i64 aM]) ∧ Spec prog 15 #[(.slice (aD fN 0) 2 2)] D4 (AA R (fun z CR => ∃ AC7 AC8, z = (.tuple #[.int .i64 AC7, .int .i64 AC8]) ∧ Br (AC6 = 0) (Br ((xp : Int) = 1) (Pq AC5 fun te xq => In 0 (xp : Int) ∧ LS CR te (xq + 1) fun sa n59 sb => Spec prog 25 #[.float .f64 4620693217682128896] CR (AA R (CI .u64 fun qF EM => Kp [te] CR EM ∧ Al EM fun b62 => Spec prog 36 #[.slice sa n59 sb, (.slice (aD b62 0) 1 1)] (Hp.set EM b62 (.cells #[.int .i64 60, .int .u64 qF] 50 (0, 0))) (AA R (CB fun t63 Lc => Bo t63 (Br (aM = 0) (Br ((VD : Int) = 1) (Pq XS fun b76 o76 => In 0 (VD : Int) ∧ LS Lc b76 (o76 + 1) fun oI kP oJ => Br ((kP : Int) = 2) (Br (AC7 = 300) (R (.returned (.bool (decide (AC8 = 0)))) Lc) (R (.returned (.bool false)) Lc)) (R (.returned (.bool false)) Lc)) (R (.returned (.bool false)) Lc)) (R (.returned (.bool false)) Lc)) (R (.returned (.bool false)) Lc)))))) (R (.returned (.bool false)) CR)) (R (.returned (.bool false)) CR)))))))))))))) : Spec prog 14 #[] σ R := M.start h ok
end O6
namespace JH
variable {p0 : Option Addr} {n0 c0 : Nat}
def M : Fw := ⟨prog, 33, f33, [], [], false, [], [], []⟩
theorem ok : M.Ok := ⟨AG.nil, mixed, func33, by kernel_rfl⟩
theorem start (h : Al σ fun b3 => AJ prog (Builtin.append_ #[37, 37] 37 #[(.slice (aD b3 0) 0 0), .slice p0 n0 c0]) (Hp.set σ b3 (.cells #[] 56 (0, 0))) (CS fun p5 n5 c5 y => R (.returned (.slice p5 n5 c5)) y)) : Spec prog 33 #[.slice p0 n0 c0] σ R := M.start h ok
end JH
namespace Rx
variable {x0 : Int}
def M : Fw := ⟨prog, 81, f81, [], [], false, [], [], []⟩
theorem ok : M.Ok := ⟨AG.nil, mixed, func81, by kernel_rfl⟩
theorem start (h : Al σ fun b1 => R (.returned (.func (.func 127) #[] #[(.pointer (aD b1 0))])) (Hp.set σ b1 (.cells #[.int .i64 x0] 3 (0, 0)))) : Spec prog 81 #[.int .i64 x0] σ R := M.start h ok
end Rx
namespace AS
variable {q0 : Option Addr} {v1 : Value} {x2 x3 : Int} {b9 : Nat}
def M : Fw := ⟨prog, 95, f95, [66, 133, 134, 135, 136, 137, 138], [], false, [], [], [(48, [(0, wQ), (1, wV), (2, wI), (3, wI)]), (3198, [(0, wQ), (1, wV), (2, wI), (3, wI), (9, wA)])]⟩
theorem ok : M.Ok := ⟨.cons call66 (.cons call133 (.cons call134 (.cons call135 (.cons call136 (.cons call137 (.cons call138 (AG.nil))))))), mixed, func95, by kernel_rfl⟩
def aN := M.pt 0
def FH := M.pt 1
theorem start (h : ∃ (f11 : Nat) (XP XQ : Array Value), v1 = .func (.func f11) XP XQ ∧ Enters prog f11 ∧ Spec prog f11 (XP ++ #[] ++ XQ) σ (AA R (fun z y => z = (.tuple #[]) ∧ aN R q0 v1 x2 x3 y))) : Spec prog 95 #[.pointer q0, v1, .int .i64 x2, .int .i64 x3] σ R := M.D2 h ok [(0, .o (.Q q0)), (1, .o (.V v1)), (2, .o (.I .i64 x2)), (3, .o (.I .i64 x3))] rfl rfl (by kernel_rfl)
theorem ON (h : Spec prog 134 #[] σ (AA R (CS fun aO n12 ZB y => Spec prog 66 #[.pointer q0] y (AA R (fun z AF => ∃ GH TI VE xr, z = (.agg #[.int .i64 GH, .int .i64 TI, .string VE, .int .i64 xr]) ∧ Spec prog 133 #[.slice aO n12 ZB, .string VE] AF (AA R (CI .i64 fun x16 AH => Spec prog 66 #[.pointer q0] AH (AA R (fun z AZ => ∃ XT aP aQ AJR, z = (.agg #[.int .i64 XT, .int .i64 aP, .string aQ, .int .i64 AJR]) ∧ Br (XT ≠ 5) (Spec prog 66 #[.pointer q0] AZ (AA R (fun z D4 => ∃ qG fJ xt xu, z = (.agg #[.int .i64 qG, .int .i64 fJ, .string xt, .int .i64 xu]) ∧ Br (qG ≠ 3) (R (.returned (.tuple #[])) D4) (Br (x16 < x2) (R (.returned (.tuple #[])) D4) (Br (x3 < x16) (R (.returned (.tuple #[])) D4) (Br (x2 = 11) (Br (x16 = 12) (R (.returned (.tuple #[])) D4) (Spec prog 135 #[.pointer q0] D4 (AA R (fun z CR => ∃ Pm Pn VF VH, z = (.agg #[.int .i64 Pm, .int .i64 Pn, .string VF, .int .i64 VH]) ∧ Al CR fun b9 => AJ prog (Instr.storeAt 36 (.pointer (aD b9 0)) (.agg #[.int .i64 6, .int .i64 x16, (.string (ByteArray.mk #[])), .slice none 0 0, .int .i64 0, .int .i64 0, .int .i64 0, .slice none 0 0, .bool false, .int .i64 2])) (Hp.set CR b9 (.cells #[.int .i64 0, .int .i64 0, (.string (ByteArray.mk #[])), .slice none 0 0, .int .i64 0, .int .i64 0, .int .i64 0, .slice none 0 0, .bool false, .int .i64 0] 36 (0, 0))) (fun _ EM => Br (5 ≤ x16) (Br (x16 ≤ 10) (Spec prog 136 #[.pointer q0, .int .i64 3, (.string (ByteArray.mk #[98, 111, 111, 108]))] EM (AA R (CB fun t55 Lc => Bo t55 (Spec prog 135 #[.pointer q0] Lc (AA R (fun z Q7 => ∃ VI VJ VK VL, z = (.agg #[.int .i64 VI, .int .i64 VJ, .string VK, .int .i64 VL]) ∧ AJ prog (Instr.storeAt 4 (.pointer (aD b9 8)) (.bool true)) Q7 (fun _ Hb => FH R q0 v1 x2 x3 b9 Hb)))) (FH R q0 v1 x2 x3 b9 Lc)))) (FH R q0 v1 x2 x3 b9 EM)) (FH R q0 v1 x2 x3 b9 EM)))))) (Spec prog 135 #[.pointer q0] D4 (AA R (fun z CR => ∃ Pm Pn VF VH, z = (.agg #[.int .i64 Pm, .int .i64 Pn, .string VF, .int .i64 VH]) ∧ Al CR fun b9 => AJ prog (Instr.storeAt 36 (.pointer (aD b9 0)) (.agg #[.int .i64 6, .int .i64 x16, (.string (ByteArray.mk #[])), .slice none 0 0, .int .i64 0, .int .i64 0, .int .i64 0, .slice none 0 0, .bool false, .int .i64 2])) (Hp.set CR b9 (.cells #[.int .i64 0, .int .i64 0, (.string (ByteArray.mk #[])), .slice none 0 0, .int .i64 0, .int .i64 0, .int .i64 0, .slice none 0 0, .bool false, .int .i64 0] 36 (0, 0))) (fun _ EM => Br (5 ≤ x16) (Br (x16 ≤ 10) (Spec prog 136 #[.pointer q0, .int .i64 3, (.string (ByteArray.mk #[98, 111, 111, 108]))] EM (AA R (CB fun t55 Lc => Bo t55 (Spec prog 135 #[.pointer q0] Lc (AA R (fun z Q7 => ∃ VI VJ VK VL, z = (.agg #[.int .i64 VI, .int .i64 VJ, .string VK, .int .i64 VL]) ∧ AJ prog (Instr.storeAt 4 (.pointer (aD b9 8)) (.bool true)) Q7 (fun _ Hb => FH R q0 v1 x2 x3 b9 Hb)))) (FH R q0 v1 x2 x3 b9 Lc)))) (FH R q0 v1 x2 x3 b9 EM)) (FH R q0 v1 x2 x3 b9 EM))))))))))) (Br (x16 < x2) (R (.returned (.tuple #[])) AZ) (Br (x3 < x16) (R (.returned (.tuple #[])) AZ) (Br (x2 = 11) (Br (x16 = 12) (R (.returned (.tuple #[])) AZ) (Spec prog 135 #[.pointer q0] AZ (AA R (fun z D4 => ∃ Pm Pn VF VH, z = (.agg #[.int .i64 Pm, .int .i64 Pn, .string VF, .int .i64 VH]) ∧ Al D4 fun b9 => AJ prog (Instr.storeAt 36 (.pointer (aD b9 0)) (.agg #[.int .i64 6, .int .i64 x16, (.string (ByteArray.mk #[])), .slice none 0 0, .int .i64 0, .int .i64 0, .int .i64 0, .slice none 0 0, .bool false, .int .i64 2])) (Hp.set D4 b9 (.cells #[.int .i64 0, .int .i64 0, (.string (ByteArray.mk #[])), .slice none 0 0, .int .i64 0, .int .i64 0, .int .i64 0, .slice none 0 0, .bool false, .int .i64 0] 36 (0, 0))) (fun _ CR => Br (5 ≤ x16) (Br (x16 ≤ 10) (Spec prog 136 #[.pointer q0, .int .i64 3, (.string (ByteArray.mk #[98, 111, 111, 108]))] CR (AA R (CB fun t55 EM => Bo t55 (Spec prog 135 #[.pointer q0] EM (AA R (fun z Lc => ∃ VI VJ VK VL, z = (.agg #[.int .i64 VI, .int .i64 VJ, .string VK, .int .i64 VL]) ∧ AJ prog (Instr.storeAt 4 (.pointer (aD b9 8)) (.bool true)) Lc (fun _ Q7 => FH R q0 v1 x2 x3 b9 Q7)))) (FH R q0 v1 x2 x3 b9 EM)))) (FH R q0 v1 x2 x3 b9 CR)) (FH R q0 v1 x2 x3 b9 CR)))))) (Spec prog 135 #[.pointer q0] AZ (AA R (fun z D4 => ∃ Pm Pn VF VH, z = (.agg #[.int .i64 Pm, .int .i64 Pn, .string VF, .int .i64 VH]) ∧ Al D4 fun b9 => AJ prog (Instr.storeAt 36 (.pointer (aD b9 0)) (.agg #[.int .i64 6, .int .i64 x16, (.string (ByteArray.mk #[])), .slice none 0 0, .int .i64 0, .int .i64 0, .int .i64 0, .slice none 0 0, .bool false, .int .i64 2])) (Hp.set D4 b9 (.cells #[.int .i64 0, .int .i64 0, (.string (ByteArray.mk #[])), .slice none 0 0, .int .i64 0, .int .i64 0, .int .i64 0, .slice none 0 0, .bool false, .int .i64 0] 36 (0, 0))) (fun _ CR => Br (5 ≤ x16) (Br (x16 ≤ 10) (Spec prog 136 #[.pointer q0, .int .i64 3, (.string (ByteArray.mk #[98, 111, 111, 108]))] CR (AA R (CB fun t55 EM => Bo t55 (Spec prog 135 #[.pointer q0] EM (AA R (fun z Lc => ∃ VI VJ VK VL, z = (.agg #[.int .i64 VI, .int .i64 VJ, .string VK, .int .i64 VL]) ∧ AJ prog (Instr.storeAt 4 (.pointer (aD b9 8)) (.bool true)) Lc (fun _ Q7 => FH R q0 v1 x2 x3 b9 Q7)))) (FH R q0 v1 x2 x3 b9 EM)))) (FH R q0 v1 x2 x3 b9 CR)) (FH R q0 v1 x2 x3 b9 CR))))))))))))))))) : aN R q0 v1 x2 x3 σ := M.of h ok rfl
theorem VA (h : Spec prog 137 #[.pointer q0, (.pointer (aD b9 0)), (.agg #[(.string (ByteArray.mk #[111, 110])), (.string (ByteArray.mk #[105, 103, 110, 111, 114, 105, 110, 103]))]), .agg #[.int .i64 3, .int .i64 4]] σ (AA R (fun z y => z = (.tuple #[]) ∧ ∃ (f65 : Nat) (tf tg : Array Value), v1 = .func (.func f65) tf tg ∧ Enters prog f65 ∧ Spec prog f65 (tf ++ #[] ++ tg) y (AA R (fun z AF => z = (.tuple #[]) ∧ ∃ J7 J8 J9 KA KB KC KD KE KF KG KH KI KJ KK, Aq AF b9 0 [.int .i64 J7, .int .i64 J8, .string J9, .slice KA KB KC, .int .i64 KD, .int .i64 KE, .int .i64 KF, .slice KG KH KI, .bool KJ, .int .i64 KK] ∧ Spec prog 138 #[.pointer q0, .agg #[.int .i64 J7, .int .i64 J8, .string J9, .slice KA KB KC, .int .i64 KD, .int .i64 KE, .int .i64 KF, .slice KG KH KI, .bool KJ, .int .i64 KK]] AF (AA R (fun z AH => z = (.tuple #[]) ∧ aN R q0 v1 x2 x3 AH))))))) : FH R q0 v1 x2 x3 b9 σ := M.of h ok rfl
end AS
namespace AT
variable {q0 Dc Dp p2 GU Hj G5 Fz p8 fO aO p47 : Option Addr} {DY CN DZ Dd C5 CY Fu Fa Hk GB Hl IL Fv Fy iL JU VM Qr : Int} {Da HH : ByteArray} {De Dg Dh Dq n2 c2 GV GX Hm Hn G6 G7 F0 F2 n8 c8 n25 fP n12 ZB n47 xv : Nat} {C6 IM : Bool} {v9 : Value}
def M : Fw := ⟨prog, 103, f103, [146, 147, 148], [4, 6, 11, 14], false, [], [], [(488, [(2, wL), (4, .X 36 [.I .i64, .I .i64, .T, .L, .I .i64, .I .i64, .I .i64, .L, .B, .I .i64]), (6, .X 93 [.I .i64, .I .u64, .L, .L]), (8, wL), (9, wV), (25, wL), (26, wI), (27, wI)]), (2024, [(2, wL), (4, .X 36 [.I .i64, .I .i64, .T, .L, .I .i64, .I .i64, .I .i64, .L, .B, .I .i64]), (6, .X 93 [.I .i64, .I .u64, .L, .L]), (8, wL), (12, wL), (47, wL), (48, wI), (49, wI)]), (8103, [(2, wL), (4, .X 36 [.I .i64, .I .i64, .T, .L, .I .i64, .I .i64, .I .i64, .L, .B, .I .i64]), (6, .X 93 [.I .i64, .I .u64, .L, .L]), (8, wL), (12, wL), (47, wL), (48, wI), (49, wI)])]⟩
theorem ok : M.Ok := ⟨.cons call146 (.cons call147 (.cons call148 (AG.nil))), mixed, func103, by kernel_rfl⟩
def E5 := M.pt 0
def G2 := M.pt 1
def Lg := M.pt 2
theorem start (h : ∀ b4 : Nat, ∀ b6 : Nat, AJ prog (Instr.makeMap 191 none) σ (fun z y => ∃ m17, z = (.map (some m17)) ∧ AJ prog (Instr.mapUpdate 191 (.map (some m17)) (.int .i64 11) (.func (.func 144) #[] #[])) y (fun _ AF => AJ prog (Instr.mapUpdate 191 (.map (some m17)) (.int .i64 12) (.func (.func 145) #[] #[])) AF (fun _ AH => AJ prog (Instr.lookup 191 (.map (some m17)) (.int .i64 CN) false) AH (fun z AZ => ∃ v21, v21 = z ∧ Pq p2 fun Ns cg => In 0 (n2 : Int) ∧ LS AZ Ns (cg + 2) fun fO n25 fP => E5 R (aD Ns cg) n2 c2 DY CN Da Dc De Dg DZ Dd C5 Dp Dh Dq C6 CY 0 0 none 0 0 none 0 0 none 0 0 v21 fO n25 fP (n25 : Int) 0 AZ))))) : Spec prog 103 #[.pointer q0, .agg #[.int .i64 DY, .int .i64 CN, .string Da, .slice Dc De Dg, .int .i64 DZ, .int .i64 Dd, .int .i64 C5, .slice Dp Dh Dq, .bool C6, .int .i64 CY], .slice p2 n2 c2] σ R := M.start h ok
theorem FT (h : Br (JU < iL) (Pq fO fun XH dB => In JU (n25 : Int) ∧ ∃ kQ kR kS kT, Aq σ XH (dB + Int.toNat JU * 2) [.slice kQ kR kS, .int .u64 kT] ∧ ∀ BA : Nat, Spec prog 146 #[.slice kQ kR kS] σ (AA R (CS fun p34 n34 c34 y => ∃ (f38 : Nat) (HK HL : Array Value), v9 = .func (.func f38) HK HL ∧ Enters prog f38 ∧ Spec prog f38 (HK ++ #[.int .u64 kT] ++ HL) y (AA R (CI .u64 fun th AF => Al AF fun V5 => AJ prog (Builtin.append_ #[67, 67] 67 #[.slice p8 n8 c8, (.slice (aD V5 0) 1 1)]) (Hp.set AF V5 (.cells #[.slice p34 n34 c34, .int .u64 th] 71 (0, 0))) (CS fun sn n41 iH AH => AN (JU + 1) ∧ E5 R p2 n2 c2 Fu Fa HH GU GV GX Hk GB Hl Hj Hm Hn IM IL Fv Fy G5 G6 G7 Fz F0 F2 sn n41 iH v9 (aD XH dB) n25 fP iL (JU + 1) AH)))))) (Spec prog 147 #[] σ (AA R (CS fun iJ n43 iK y => Pq p2 fun iF iG => In 0 (n2 : Int) ∧ LS y iF (iG + 3) fun p47 n47 xv => G2 R (aD iF iG) n2 c2 Fu Fa HH GU GV GX Hk GB Hl Hj Hm Hn IM IL Fv Fy G5 G6 G7 Fz F0 F2 p8 n8 c8 iJ n43 iK p47 n47 xv (n47 : Int) 0 y)))) : E5 R p2 n2 c2 Fu Fa HH GU GV GX Hk GB Hl Hj Hm Hn IM IL Fv Fy G5 G6 G7 Fz F0 F2 p8 n8 c8 v9 fO n25 fP iL JU σ := M.ey h ok rfl fun _ _ => by kernel_rfl
theorem Ir (h : Br (Qr < VM) (Pq p47 fun b51 o51 => In Qr (n47 : Int) ∧ ∃ AC9 ADA ADB ADC ADD ADE, Aq σ b51 (o51 + Int.toNat Qr * 2) [.slice AC9 ADA ADB, .slice ADC ADD ADE] ∧ ∀ BP : Nat, Pq aO fun te xq => In Fa (n12 : Int) ∧ ∃ v58, Hp.ld σ ⟨te, (xq + Int.toNat Fa * 1), none⟩ = some v58 ∧ ∃ (f63 : Nat) (Kc Kd : Array Value), v58 = .func (.func f63) Kc Kd ∧ Enters prog f63 ∧ Spec prog f63 (Kc ++ #[.slice ADC ADD ADE, .agg #[.int .i64 Fu, .int .i64 Fa, .string HH, .slice GU GV GX, .int .i64 Hk, .int .i64 GB, .int .i64 Hl, .slice Hj Hm Hn, .bool IM, .int .i64 IL], .slice p2 n2 c2] ++ Kd) σ (AA R (fun z y => ∃ ADF ADG, z = (.tuple #[.int .u64 ADF, .bool ADG]) ∧ Bo ADG (Spec prog 146 #[.slice AC9 ADA ADB] y (AA R (CS fun p70 n70 c70 AF => Al AF fun xw => AJ prog (Builtin.append_ #[67, 67] 67 #[.slice p8 n8 c8, (.slice (aD xw 0) 1 1)]) (Hp.set AF xw (.cells #[.slice p70 n70 c70, .int .u64 ADF] 71 (0, 0))) (CS fun p74 n74 c74 AH => Lg R p2 n2 c2 Fu Fa HH GU GV GX Hk GB Hl Hj Hm Hn IM IL Fv Fy G5 G6 G7 Fz F0 F2 p74 n74 c74 (aD te xq) n12 ZB (aD b51 o51) n47 xv VM Qr AH)))) (Lg R p2 n2 c2 Fu Fa HH GU GV GX Hk GB Hl Hj Hm Hn IM IL Fv Fy G5 G6 G7 Fz F0 F2 p8 n8 c8 (aD te xq) n12 ZB (aD b51 o51) n47 xv VM Qr y)))) (Spec prog 148 #[.slice p8 n8 c8] σ (AA R (fun z y => ∃ ti tj tn tq tr tu tw tz MO, z = (.tuple #[.agg #[.int .i64 ti, .int .u64 tj, .slice tn tq tr, .slice tu tw tz], .int .i64 MO]) ∧ R (.returned (.tuple #[.agg #[.int .i64 ti, .int .u64 tj, .slice tn tq tr, .slice tu tw tz], .int .i64 MO])) y)))) : G2 R p2 n2 c2 Fu Fa HH GU GV GX Hk GB Hl Hj Hm Hn IM IL Fv Fy G5 G6 G7 Fz F0 F2 p8 n8 c8 aO n12 ZB p47 n47 xv VM Qr σ := M.ey h ok rfl fun _ _ => by kernel_rfl
theorem Is (h : AN (Qr + 1) ∧ G2 R p2 n2 c2 Fu Fa HH GU GV GX Hk GB Hl Hj Hm Hn IM IL Fv Fy G5 G6 G7 Fz F0 F2 p8 n8 c8 aO n12 ZB p47 n47 xv VM (Qr + 1) σ) : Lg R p2 n2 c2 Fu Fa HH GU GV GX Hk GB Hl Hj Hm Hn IM IL Fv Fy G5 G6 G7 Fz F0 F2 p8 n8 c8 aO n12 ZB p47 n47 xv VM Qr σ := M.ey h ok rfl fun _ _ => by kernel_rfl
end AT
namespace BE
variable {q0 Dc Dp p2 G5 Fz p8 fO : Option Addr} {DY CN DZ Dd C5 CY Fv Fy iL JU : Int} {Da : ByteArray} {De Dg Dh Dq n2 c2 G6 G7 F0 F2 n8 c8 n25 fP : Nat} {C6 : Bool}
def M : Fw := ⟨prog, 106, f106, [146, 148, 162], [4, 6, 10], false, [], [], [(488, [(6, .X 93 [.I .i64, .I .u64, .L, .L]), (8, wL), (25, wL), (26, wI), (27, wI)])]⟩
theorem ok : M.Ok := ⟨.cons call146 (.cons call148 (.cons call162 (AG.nil))), mixed, func106, by kernel_rfl⟩
def qH := M.pt 0
theorem start (h : ∀ b4 : Nat, ∀ b6 : Nat, Pq p2 fun O0 Pd => In 0 (n2 : Int) ∧ LI .i64 σ O0 Pd fun Y6 => Br (Y6 = 1) (In 0 (n2 : Int) ∧ LI .u64 σ O0 (Pd + 1) fun Dn => Spec prog 162 #[.int .u64 Dn] σ (AA R (CI .u64 fun Ha y => R (.returned (.tuple #[.agg #[.int .i64 1, .int .u64 Ha, .slice none 0 0, .slice none 0 0], .int .i64 0])) y))) (In 0 (n2 : Int) ∧ LS σ O0 (Pd + 2) fun fO n25 fP => qH R 0 0 none 0 0 none 0 0 none 0 0 fO n25 fP (n25 : Int) 0 σ)) : Spec prog 106 #[.pointer q0, .agg #[.int .i64 DY, .int .i64 CN, .string Da, .slice Dc De Dg, .int .i64 DZ, .int .i64 Dd, .int .i64 C5, .slice Dp Dh Dq, .bool C6, .int .i64 CY], .slice p2 n2 c2] σ R := M.start h ok
theorem dG (h : Br (JU < iL) (Pq fO fun XH dB => In JU (n25 : Int) ∧ ∃ kQ kR kS kT, Aq σ XH (dB + Int.toNat JU * 2) [.slice kQ kR kS, .int .u64 kT] ∧ ∀ Cd : Nat, Spec prog 146 #[.slice kQ kR kS] σ (AA R (CS fun p34 n34 c34 y => Spec prog 162 #[.int .u64 kT] y (AA R (CI .u64 fun Pj AF => Al AF fun oK => AJ prog (Builtin.append_ #[67, 67] 67 #[.slice p8 n8 c8, (.slice (aD oK 0) 1 1)]) (Hp.set AF oK (.cells #[.slice p34 n34 c34, .int .u64 Pj] 71 (0, 0))) (CS fun xD n40 xE AH => AN (JU + 1) ∧ qH R Fv Fy G5 G6 G7 Fz F0 F2 xD n40 xE (aD XH dB) n25 fP iL (JU + 1) AH)))))) (Spec prog 148 #[.slice p8 n8 c8] σ (AA R (fun z y => ∃ uA uB uC uD uE uF uG uH Lf, z = (.tuple #[.agg #[.int .i64 uA, .int .u64 uB, .slice uC uD uE, .slice uF uG uH], .int .i64 Lf]) ∧ R (.returned (.tuple #[.agg #[.int .i64 uA, .int .u64 uB, .slice uC uD uE, .slice uF uG uH], .int .i64 Lf])) y)))) : qH R Fv Fy G5 G6 G7 Fz F0 F2 p8 n8 c8 fO n25 fP iL JU σ := M.iB h ok rfl fun _ => by kernel_rfl
end BE
namespace Du
variable {p0 p5 : Option Addr} {n0 c0 n5 c5 : Nat} {x1 : Int}
def M : Fw := ⟨prog, 107, f107, [], [], false, [], [], [(224, [(1, wU), (5, wL)])]⟩
theorem ok : M.Ok := ⟨AG.nil, mixed, func107, by kernel_rfl⟩
def Hi := M.pt 0
theorem start (h : Al σ fun b6 => AJ prog (Builtin.append_ #[90, 90] 90 #[(.slice (aD b6 0) 0 0), .slice p0 n0 c0]) (Hp.set σ b6 (.cells #[] 5 (0, 0))) (CS fun p8 n8 c8 y => Hi R x1 p8 n8 c8 y)) : Spec prog 107 #[.slice p0 n0 c0, .int .u64 x1] σ R := M.start h ok
theorem BD (h : Br (127 < x1) (Df (IntKind.u8.wrap x1) fun x15 => Df (Go.bits .or .u8 x15 128) fun x16 => Al σ fun b17 => AJ prog (Builtin.append_ #[90, 90] 90 #[.slice p5 n5 c5, (.slice (aD b17 0) 1 1)]) (Hp.set σ b17 (.cells #[.int .u8 x16] 5 (0, 0))) (CS fun p18 n18 c18 y => ((0 : Int) ≤ 7 ∧ 7 ≤ ((IntKind.bits .u64 : Nat) : Int)) ∧ Df (x1 / 2 ^ Int.toNat 7) fun x12 => Hi R x12 p18 n18 c18 y)) (Df (IntKind.u8.wrap x1) fun aK => Al σ fun b22 => AJ prog (Builtin.append_ #[90, 90] 90 #[.slice p5 n5 c5, (.slice (aD b22 0) 1 1)]) (Hp.set σ b22 (.cells #[.int .u8 aK] 5 (0, 0))) (CS fun nw n23 nz y => R (.returned (.slice nw n23 nz)) y))) : Hi R x1 p5 n5 c5 σ := M.of h ok rfl
end Du
namespace Ry
variable {x0 : Int}
def M : Fw := ⟨prog, 128, f128, [], [], false, [], [], []⟩
theorem ok : M.Ok := ⟨AG.nil, mixed, func128, by kernel_rfl⟩
theorem start (h : Br (11 ≤ x0) (R (.returned (.bool (decide (x0 ≤ 13)))) σ) (R (.returned (.bool false)) σ)) : Spec prog 128 #[.int .i64 x0] σ R := M.start h ok
end Ry
namespace JI
variable {q0 : Option Addr} {x1 : Int} {s2 : ByteArray}
def M : Fw := ⟨prog, 136, f136, [66], [], false, [], [], []⟩
theorem ok : M.Ok := ⟨.cons call66 (AG.nil), mixed, func136, by kernel_rfl⟩
theorem start (h : Spec prog 66 #[.pointer q0] σ (AA R (fun z y => ∃ D3 ED s8c x8d, z = (.agg #[.int .i64 D3, .int .i64 ED, .string s8c, .int .i64 x8d]) ∧ Br (D3 = x1) (Spec prog 66 #[.pointer q0] y (AA R (fun z AF => ∃ GH TI VE xr, z = (.agg #[.int .i64 GH, .int .i64 TI, .string VE, .int .i64 xr]) ∧ R (.returned (.bool (ByteArray.toList VE == ByteArray.toList s2))) AF))) (R (.returned (.bool false)) y)))) : Spec prog 136 #[.pointer q0, .int .i64 x1, .string s2] σ R := M.start h ok
end JI
namespace D5
variable {p0 p1 p5 p9 : Option Addr} {n0 c0 n1 c1 n5 c5 n9 c9 : Nat} {x10 x11 : Int}
def M : Fw := ⟨prog, 142, f142, [125, 178, 179, 180], [7], false, [], [], [(232, [(1, wL), (5, wL), (9, wL), (10, wI), (11, wI)])]⟩
theorem ok : M.Ok := ⟨.cons call125 (.cons call178 (.cons call179 (.cons call180 (AG.nil)))), mixed, func142, by kernel_rfl⟩
def A2 := M.pt 0
theorem start (h : Spec prog 178 #[] σ (AA R (CS fun p8 n8 c8 y => A2 R p1 n1 c1 p8 n8 c8 p0 n0 c0 (n0 : Int) 0 y))) : Spec prog 142 #[.slice p0 n0 c0, .slice p1 n1 c1] σ R := M.start h ok
theorem AY (h : Br (x11 < x10) (Pq p9 fun DF iE => In x11 (n9 : Int) ∧ ∃ GH Z8 VE, Aq σ DF (iE + Int.toNat x11 * 3) [.int .i64 GH, .string Z8, .string VE] ∧ ∀ b7 : Nat, Spec prog 125 #[.int .i64 GH] σ (AA R (CB fun t17 y => Bn t17 (R (.returned (.bool false)) y) (Pq p5 fun Ns cg => In GH (n5 : Int) ∧ ∃ v24, Hp.ld y ⟨Ns, (cg + Int.toNat GH * 1), none⟩ = some v24 ∧ Spec prog 179 #[.string VE] y (AA R (fun z AF => ∃ MQ Ld MR, z = (.agg #[.slice MQ Ld MR]) ∧ Kp [Ns] y AF ∧ Spec prog 180 #[.slice p1 n1 c1, .string Z8] AF (AA R (CT fun s34 AH => Kp [Ns] AF AH ∧ ∃ (f35 : Nat) (XU XV : Array Value), v24 = .func (.func f35) XU XV ∧ Enters prog f35 ∧ Spec prog f35 (XU ++ #[.agg #[.slice MQ Ld MR, .string VE], .string s34] ++ XV) AH (AA R (CB fun t35 AZ => Bn t35 (R (.returned (.bool false)) AZ) (AN (x11 + 1) ∧ A2 R p1 n1 c1 (aD Ns cg) n5 c5 (aD DF iE) n9 c9 x10 (x11 + 1) AZ))))))))))) (R (.returned (.bool true)) σ)) : A2 R p1 n1 c1 p5 n5 c5 p9 n9 c9 x10 x11 σ := M.of h ok rfl
end D5
namespace UB
variable {p0 : Option Addr} {n0 c0 : Nat}
def M : Fw := ⟨prog, 146, f146, [150], [], false, [], [], []⟩
theorem ok : M.Ok := ⟨.cons call150 (AG.nil), mixed, func146, by kernel_rfl⟩
theorem start (h : Al σ fun b4 => Spec prog 150 #[.slice p0 n0 c0, (.slice (aD b4 0) 1 1)] (Hp.set σ b4 (.cells #[(.string (ByteArray.mk #[95, 95, 110, 97, 109, 101, 95, 95]))] 9 (0, 0))) (AA R (CS fun p5 n5 c5 y => R (.returned (.slice p5 n5 c5)) y))) : Spec prog 146 #[.slice p0 n0 c0] σ R := M.start h ok
end UB
namespace EF
variable {p0 p2c p2d : Option Addr} {n0 c0 n2c c2c n2d c2d : Nat} {qI x2b x4 : Int}
def M : Fw := ⟨prog, 148, f148, [52, 195], [2], false, [], [], [(464, [(0, wL), (2, .X 93 [.I .i64, .I .u64, .L, .L]), (4, wI)])]⟩
theorem ok : M.Ok := ⟨.cons call52 (.cons call195 (AG.nil)), mixed, func148, by kernel_rfl⟩
def CL := M.pt 0
theorem start (h : ∀ b2 : Nat, Spec prog 195 #[.slice p0 n0 c0, (.func (.func 196) #[] #[])] σ (AA R (fun z y => z = (.tuple #[]) ∧ CL R p0 n0 c0 0 0 none 0 0 none 0 0 1 y))) : Spec prog 148 #[.slice p0 n0 c0] σ R := M.start h ok
theorem BF (h : Br (x4 < (n0 : Int)) (AN (x4 - 1) ∧ Pq p0 fun Lm U4 => In (x4 - 1) (n0 : Int) ∧ LS σ Lm (U4 + Int.toNat (x4 - 1) * 2) fun p18 n18 c18 => In x4 (n0 : Int) ∧ LS σ Lm (U4 + Int.toNat x4 * 2) fun nw n23 nz => Spec prog 52 #[.slice p18 n18 c18, .slice nw n23 nz] σ (AA R (CI .i64 fun JA y => Br (JA = 0) (R (.returned (.tuple #[.agg #[.int .i64 0, .int .u64 0, .slice none 0 0, .slice none 0 0], .int .i64 223])) y) (AN (x4 + 1) ∧ CL R (aD Lm U4) n0 c0 qI x2b p2c n2c c2c p2d n2d c2d (x4 + 1) y)))) (R (.returned (.tuple #[.agg #[.int .i64 2, .int .u64 0, .slice p0 n0 c0, .slice none 0 0], .int .i64 0])) σ)) : CL R p0 n0 c0 qI x2b p2c n2c c2c p2d n2d c2d x4 σ := M.iB h ok rfl fun _ => by kernel_rfl
end EF
namespace DN
variable {x0 : Int} {b1 b2 : Nat}
def M : Fw := ⟨prog, 158, f158, [156], [], false, [], [], []⟩
theorem ok : M.Ok := ⟨.cons call156 (AG.nil), mixed, func158, by kernel_rfl⟩
theorem start (h : ∃ Fv Fy s6c Fz F0 F2 x6e x6f x6g p6h n6h c6h t6i x6j, Aq σ b1 0 [.int .i64 Fv, .int .i64 Fy, .string s6c, .slice Fz F0 F2, .int .i64 x6e, .int .i64 x6f, .int .i64 x6g, .slice p6h n6h c6h, .bool t6i, .int .i64 x6j] ∧ LI .u64 σ b2 1 fun x8 => Spec prog 156 #[.agg #[.int .i64 Fv, .int .i64 Fy, .string s6c, .slice Fz F0 F2, .int .i64 x6e, .int .i64 x6f, .int .i64 x6g, .slice p6h n6h c6h, .bool t6i, .int .i64 x6j], .int .u64 x8, .int .u64 x0] σ (AA R (fun z y => ∃ IY Qy, z = (.tuple #[.int .u64 IY, .bool Qy]) ∧ R (.returned (.tuple #[.int .u64 IY, .bool Qy])) y))) : Spec prog 158 #[.int .u64 x0, (.pointer (aD b1 0)), (.pointer (aD b2 0))] σ R := M.start h ok
end DN
namespace DO
variable {q0 : Option Addr}
def M : Fw := ⟨prog, 171, f171, [95], [], false, [], [], []⟩
theorem ok : M.Ok := ⟨.cons call95 (AG.nil), mixed, func171, by kernel_rfl⟩
theorem start (h : Spec prog 95 #[.pointer q0, (.func (.func 212) #[.pointer q0] #[]), .int .i64 1, .int .i64 2] σ (AA R (fun z y => z = (.tuple #[]) ∧ R (.returned (.tuple #[])) y))) : Spec prog 171 #[.pointer q0] σ R := M.start h ok
end DO
namespace H5
variable {p0 p7 : Option Addr} {n0 c0 n7 c7 : Nat} {s1 : ByteArray} {x8 x9 : Int}
def M : Fw := ⟨prog, 180, f180, [], [6], false, [], [], [(104, [(1, wT), (7, wL), (8, wI), (9, wI)])]⟩
theorem ok : M.Ok := ⟨AG.nil, mixed, func180, by kernel_rfl⟩
def Hg := M.pt 0
theorem start (h : Hg R s1 p0 n0 c0 (n0 : Int) 0 σ) : Spec prog 180 #[.slice p0 n0 c0, .string s1] σ R := M.start h ok
theorem Bd (h : Br (x9 < x8) (Pq p7 fun BA iI => In x9 (n7 : Int) ∧ ∃ ADK ADL, Aq σ BA (iI + Int.toNat x9 * 2) [.string ADK, .string ADL] ∧ ∀ b6 : Nat, Bo (ByteArray.toList ADK == ByteArray.toList s1) (R (.returned (.string ADL)) σ) (AN (x9 + 1) ∧ Hg R s1 (aD BA iI) n7 c7 x8 (x9 + 1) σ)) (R (.returned (.string (ByteArray.mk #[]))) σ)) : Hg R s1 p7 n7 c7 x8 x9 σ := M.of h ok rfl
end H5
namespace DP
variable {p0 p1 : Option Addr} {n0 c0 n1 c1 : Nat}
def M : Fw := ⟨prog, 191, f191, [192], [], false, [], [], []⟩
theorem ok : M.Ok := ⟨.cons call192 (AG.nil), mixed, func191, by kernel_rfl⟩
theorem start (h : Spec prog 192 #[.slice p0 n0 c0] σ (AA R (CI .u64 fun x6 y => R (.returned (.int .u64 x6)) y))) : Spec prog 191 #[.slice p0 n0 c0, .slice p1 n1 c1] σ R := M.start h ok
end DP
namespace Rz
variable {x0 x1 x2 : Int}
def M : Fw := ⟨prog, 203, f203, [174, 182], [], false, [], [], []⟩
theorem ok : M.Ok := ⟨.cons call174 (.cons call182 (AG.nil)), mixed, func203, by kernel_rfl⟩
theorem start (h : Spec prog 182 #[.int .u64 x1] σ (AA R (fun z y => ∃ x11, (Value.float .f64 x11) = z ∧ Spec prog 182 #[.int .u64 x2] y (AA R (fun z AF => ∃ E8, (Value.float .f64 E8) = z ∧ Br (x0 = 1) (AJ prog (binOp .add 51 (Value.float .f64 x11) (Value.float .f64 E8)) AF (fun z AH => ∃ Dn, (Value.float .f64 Dn) = z ∧ Spec prog 174 #[(Value.float .f64 Dn)] AH (AA R (CI .u64 fun Ha AZ => R (.returned (.tuple #[.int .u64 Ha, .bool true])) AZ)))) (Br (x0 = 2) (AJ prog (binOp .sub 51 (Value.float .f64 x11) (Value.float .f64 E8)) AF (fun z AH => ∃ S8, (Value.float .f64 S8) = z ∧ Spec prog 174 #[(Value.float .f64 S8)] AH (AA R (CI .u64 fun iL AZ => R (.returned (.tuple #[.int .u64 iL, .bool true])) AZ)))) (Br (x0 = 3) (AJ prog (binOp .mul 51 (Value.float .f64 x11) (Value.float .f64 E8)) AF (fun z AH => ∃ x31, (Value.float .f64 x31) = z ∧ Spec prog 174 #[(Value.float .f64 x31)] AH (AA R (CI .u64 fun kN AZ => R (.returned (.tuple #[.int .u64 kN, .bool true])) AZ)))) (Br (x0 = 4) (AJ prog (binOp .quo 51 (Value.float .f64 x11) (Value.float .f64 E8)) AF (fun z AH => ∃ Pj, (Value.float .f64 Pj) = z ∧ Spec prog 174 #[(Value.float .f64 Pj)] AH (AA R (CI .u64 fun th AZ => R (.returned (.tuple #[.int .u64 th, .bool true])) AZ)))) (R (.returned (.tuple #[.int .u64 0, .bool false])) AF))))))))) : Spec prog 203 #[.int .i64 x0, .int .u64 x1, .int .u64 x2] σ R := M.start h ok
end Rz
namespace R0
variable {t0 : Bool}
def M : Fw := ⟨prog, 205, f205, [143], [], false, [], [], []⟩
theorem ok : M.Ok := ⟨.cons call143 (AG.nil), mixed, func205, by kernel_rfl⟩
theorem start (h : Bo t0 (Spec prog 143 #[.int .i64 1] σ (AA R (CI .u64 fun x4 y => R (.returned (.int .u64 x4)) y))) (Spec prog 143 #[.int .i64 0] σ (AA R (CI .u64 fun x5 y => R (.returned (.int .u64 x5)) y)))) : Spec prog 205 #[.bool t0] σ R := M.start h ok
end R0
namespace Ct
variable {s0 : ByteArray} {x1 : Int}
def M : Fw := ⟨prog, 214, f214, [231], [], false, [], [], []⟩
theorem ok : M.Ok := ⟨.cons call231 (AG.nil), mixed, func214, by kernel_rfl⟩
theorem start (h : Spec prog 231 #[.string s0, .int .i64 x1] σ (AA R (fun z y => ∃ ADM kU ADN, z = (.tuple #[ADM, .int .i64 kU, ADN]) ∧ Br (kU ≠ ((ByteArray.size s0 : Nat) : Int)) (R (.returned (.tuple #[.float .f64 0, (.iface 264 (.int .i64 2))])) y) (R (.returned (.tuple #[ADM, ADN])) y)))) : Spec prog 214 #[.string s0, .int .i64 x1] σ R := M.start h ok
end Ct
namespace Ee
variable {TL : Option Addr} {Lo Q6 : Nat} {Y8 s1 : ByteArray}
def M : Fw := ⟨prog, 217, f217, [], [2], false, [], [], []⟩
theorem ok : M.Ok := ⟨AG.nil, mixed, func217, by kernel_rfl⟩
theorem start (h : ∀ b2 : Nat, R (.returned (.bool (ByteArray.toList s1 == ByteArray.toList Y8))) σ) : Spec prog 217 #[.agg #[.slice TL Lo Q6, .string Y8], .string s1] σ R := M.start h ok
end Ee
namespace R3
variable {p0 : Option Addr} {n0 c0 : Nat}
def M : Fw := ⟨prog, 225, f225, [174, 240, 241], [], false, [], [], []⟩
theorem ok : M.Ok := ⟨.cons call174 (.cons call240 (.cons call241 (AG.nil))), mixed, func225, by kernel_rfl⟩
theorem start (h : Spec prog 240 #[(.int .i64 (n0 : Int))] σ (AA R (CB fun t7 y => Bn t7 (R (.returned (.tuple #[.int .u64 0, .int .i64 210])) y) ((n0 : Int) ≠ (0 : Int) ∧ Df (Int.tmod 1 (n0 : Int)) fun x12 => Spec prog 241 #[.slice p0 n0 c0, .int .i64 x12] y (AA R (fun z AF => ∃ E8 y13, (Value.complex .f64 E8 y13) = z ∧ ∃ x15, YF prog (Builtin.real_ #[272] 51 #[(Value.complex .f64 E8 y13)]) AF (Value.float .f64 x15) ∧ ∃ x17, YF prog (Builtin.real_ #[272] 51 #[(Value.complex .f64 E8 y13)]) AF (Value.float .f64 x17) ∧ AJ prog (binOp .mul 51 (Value.float .f64 x15) (Value.float .f64 x17)) AF (fun z AH => ∃ UC, (Value.float .f64 UC) = z ∧ ∃ Ha, YF prog (Builtin.imag_ #[272] 51 #[(Value.complex .f64 E8 y13)]) AH (Value.float .f64 Ha) ∧ ∃ JJ, YF prog (Builtin.imag_ #[272] 51 #[(Value.complex .f64 E8 y13)]) AH (Value.float .f64 JJ) ∧ AJ prog (binOp .mul 51 (Value.float .f64 Ha) (Value.float .f64 JJ)) AH (fun z AZ => ∃ D6, (Value.float .f64 D6) = z ∧ AJ prog (binOp .add 51 (Value.float .f64 UC) (Value.float .f64 D6)) AZ (fun z D4 => ∃ JA, (Value.float .f64 JA) = z ∧ Spec prog 174 #[(Value.float .f64 JA)] D4 (AA R (CI .u64 fun S8 CR => R (.returned (.tuple #[.int .u64 S8, .int .i64 0])) CR))))))))))) : Spec prog 225 #[.slice p0 n0 c0] σ R := M.start h ok
end R3
namespace O7
def M : Fw := ⟨prog, 267, f267, [], [], false, [], [], []⟩
theorem ok : M.Ok := ⟨AG.nil, mixed, func267, by kernel_rfl⟩
theorem start (h : Al σ fun b1 => R (.returned (.slice (aD b1 0) 13 13)) (Hp.set σ b1 (.cells #[(.string (ByteArray.mk #[])), (.string (ByteArray.mk #[114, 97, 116, 101])), (.string (ByteArray.mk #[105, 110, 99, 114, 101, 97, 115, 101])), (.string (ByteArray.mk #[100, 101, 108, 116, 97])), (.string (ByteArray.mk #[115, 117, 109, 95, 111, 118, 101, 114, 95, 116, 105, 109, 101])), (.string (ByteArray.mk #[97, 118, 103, 95, 111, 118, 101, 114, 95, 116, 105, 109, 101])), (.string (ByteArray.mk #[109, 105, 110, 95, 111, 118, 101, 114, 95, 116, 105, 109, 101])), (.string (ByteArray.mk #[109, 97, 120, 95, 111, 118, 101, 114, 95, 116, 105, 109, 101])), (.string (ByteArray.mk #[99, 111, 117, 110, 116, 95, 111, 118, 101, 114, 95, 116, 105, 109, 101])), (.string (ByteArray.mk #[108, 97, 115, 116, 95, 111, 118, 101, 114, 95, 116, 105, 109, 101])), (.string (ByteArray.mk #[119, 97, 118, 101])), (.string (ByteArray.mk #[97, 98, 115])), (.string (ByteArray.mk #[102, 108, 111, 111, 114]))] 9 (0, 0)))) : Spec prog 267 #[] σ R := M.start h ok
end O7
namespace Aj
variable {q0 : Option Addr} {b2 : Nat} {t4 : Bool}
def M : Fw := ⟨prog, 270, f270, [66, 67, 135, 136, 138, 210, 295, 296, 297, 298], [3], false, [], [], [(124, [(0, wQ), (2, wA), (4, wB)]), (252, [(0, wQ), (2, wA)]), (508, [(0, wQ), (2, wA)]), (255, [(0, wQ), (2, wA)])]⟩
theorem ok : M.Ok := ⟨.cons call66 (.cons call67 (.cons call135 (.cons call136 (.cons call138 (.cons call210 (.cons call295 (.cons call296 (.cons call297 (.cons call298 (AG.nil)))))))))), mixed, func270, by kernel_rfl⟩
def LY := M.pt 0
def La := M.pt 1
def Ph := M.pt 2
def VN := M.pt 3
theorem start (h : Al σ fun b2 => AJ prog (Instr.storeAt 36 (.pointer (aD b2 0)) (.agg #[.int .i64 2, .int .i64 0, (.string (ByteArray.mk #[])), .slice none 0 0, .int .i64 0, .int .i64 0, .int .i64 0, .slice none 0 0, .bool false, .int .i64 0])) (Hp.set σ b2 (.cells #[.int .i64 0, .int .i64 0, (.string (ByteArray.mk #[])), .slice none 0 0, .int .i64 0, .int .i64 0, .int .i64 0, .slice none 0 0, .bool false, .int .i64 0] 36 (0, 0))) (fun _ y => Spec prog 66 #[.pointer q0] y (AA R (fun z AF => ∃ Ff GY Fg GZ, z = (.agg #[.int .i64 Ff, .int .i64 GY, .string Fg, .int .i64 GZ]) ∧ ∀ b3 : Nat, Br (Ff = 3) (Spec prog 295 #[.string Fg] AF (AA R (CB fun t14 AH => Bn t14 (Spec prog 135 #[.pointer q0] AH (AA R (fun z AZ => ∃ Ji OI U5 wo, z = (.agg #[.int .i64 Ji, .int .i64 OI, .string U5, .int .i64 wo]) ∧ Spec prog 296 #[.pointer q0, (.pointer (aD b2 0)), (.agg #[.int .i64 1, (.string (ByteArray.mk #[95, 95, 110, 97, 109, 101, 95, 95])), .string Fg]), .agg #[.int .i64 Ff, .int .i64 GY, .string Fg, .int .i64 GZ]] AZ (AA R (fun z D4 => z = (.tuple #[]) ∧ LY R q0 b2 true D4))))) (LY R q0 b2 false AH)))) (LY R q0 b2 false AF))))) : Spec prog 270 #[.pointer q0] σ R := M.start h ok
theorem IX (h : Spec prog 136 #[.pointer q0, .int .i64 5, (.string (ByteArray.mk #[123]))] σ (AA R (CB fun t27 y => Bo t27 (Spec prog 135 #[.pointer q0] y (AA R (fun z AF => ∃ AJY AJZ AJa AJb, z = (.agg #[.int .i64 AJY, .int .i64 AJZ, .string AJa, .int .i64 AJb]) ∧ Spec prog 297 #[.pointer q0, (.pointer (aD b2 0))] AF (AA R (fun z AH => z = (.tuple #[]) ∧ La R q0 b2 AH))))) (Bn t4 (Spec prog 67 #[.pointer q0] y (AA R (fun z AF => z = (.tuple #[]) ∧ La R q0 b2 AF))) (La R q0 b2 y))))) : LY R q0 b2 t4 σ := M.of h ok rfl
theorem Ip (h : Spec prog 136 #[.pointer q0, .int .i64 5, (.string (ByteArray.mk #[91]))] σ (AA R (CB fun t37 y => Bo t37 (Spec prog 135 #[.pointer q0] y (AA R (fun z AF => ∃ AJc AJd AJe AJf, z = (.agg #[.int .i64 AJc, .int .i64 AJd, .string AJe, .int .i64 AJf]) ∧ Spec prog 298 #[.pointer q0] AF (AA R (CI .i64 fun x41 AH => AJ prog (Instr.storeAt 3 (.pointer (aD b2 0)) (.int .i64 3)) AH (fun _ AZ => AJ prog (Instr.storeAt 2 (.pointer (aD b2 4)) (.int .i64 x41)) AZ (fun _ D4 => Spec prog 210 #[.pointer q0, (.string (ByteArray.mk #[93]))] D4 (AA R (fun z CR => z = (.tuple #[]) ∧ Ph R q0 b2 CR))))))))) (Ph R q0 b2 y)))) : La R q0 b2 σ := M.of h ok rfl
theorem QD (h : Spec prog 136 #[.pointer q0, .int .i64 3, (.string (ByteArray.mk #[111, 102, 102, 115, 101, 116]))] σ (AA R (CB fun t47 y => Bo t47 (Spec prog 135 #[.pointer q0] y (AA R (fun z AF => ∃ AJg AJh AJi AJj, z = (.agg #[.int .i64 AJg, .int .i64 AJh, .string AJi, .int .i64 AJj]) ∧ Spec prog 298 #[.pointer q0] AF (AA R (CI .i64 fun x51 AH => AJ prog (Instr.storeAt 2 (.pointer (aD b2 5)) (.int .i64 x51)) AH (fun _ AZ => VN R q0 b2 AZ)))))) (VN R q0 b2 y)))) : Ph R q0 b2 σ := M.of h ok rfl
theorem VO (h : ∃ XI XJ kV XK XL XM kW kX kY kZ ka kc ke kg, Aq σ b2 0 [.int .i64 XI, .int .i64 XJ, .string kV, .slice XK XL XM, .int .i64 kW, .int .i64 kX, .int .i64 kY, .slice kZ ka kc, .bool ke, .int .i64 kg] ∧ Spec prog 138 #[.pointer q0, .agg #[.int .i64 XI, .int .i64 XJ, .string kV, .slice XK XL XM, .int .i64 kW, .int .i64 kX, .int .i64 kY, .slice kZ ka kc, .bool ke, .int .i64 kg]] σ (AA R (fun z y => z = (.tuple #[]) ∧ R (.returned (.tuple #[])) y))) : VN R q0 b2 σ := M.of h ok rfl
end Aj
namespace BG
variable {x0 x1 : Int} {t2 t7 : Bool} {v6 : Value}
def M : Fw := ⟨prog, 282, f282, [], [], false, [], [], [(248, [(1, wI), (6, wV), (7, wB)]), (15988, [(1, wI), (6, wV), (7, wB)])]⟩
theorem ok : M.Ok := ⟨AG.nil, mixed, func282, by kernel_rfl⟩
def xx := M.pt 0
def Jd := M.pt 1
theorem start (h : LI .u64 σ 6 0 fun x10 => (0 ≤ x10 ∧ x10 ≤ ((IntKind.bits .u64 : Nat) : Int)) ∧ Df (x0 / 2 ^ Int.toNat x10) fun x11 => Br (x11 ≠ 0) (R (.returned (.tuple #[.float .f64 0, .bool false])) σ) (AJ prog (convert 48 51 (.int .u64 x0)) σ (fun z y => ∃ Y6, (Value.float .f64 Y6) = z ∧ Bo t2 (∃ x17, YF prog (Op.unary .neg (Value.float .f64 Y6)) y (Value.float .f64 x17) ∧ xx R x1 (Value.float .f64 x17) false y) (xx R x1 (Value.float .f64 Y6) false y)))) : Spec prog 282 #[.int .u64 x0, .int .i64 x1, .bool t2] σ R := M.start h ok
theorem qJ (h : Br (x1 = 0) (R (.returned (.tuple #[v6, .bool true])) σ) (Br (0 < x1) (Br (x1 ≤ 37) (Br (22 < x1) (LS σ 9 0 fun p32 n32 c32 => AN (x1 - 22) ∧ Pq p32 fun tX tY => In (x1 - 22) (n32 : Int) ∧ ∃ Y9, Hp.ld σ ⟨tX, (tY + Int.toNat (x1 - 22) * 1), none⟩ = some (Value.float .f64 Y9) ∧ AJ prog (binOp .mul 51 v6 (Value.float .f64 Y9)) σ (fun z y => ∃ Pj, (Value.float .f64 Pj) = z ∧ Jd R 22 (Value.float .f64 Pj) t7 y)) (Jd R x1 v6 t7 σ)) (Br (x1 < 0) (Br (((-22) : Int) ≤ x1) (LS σ 9 0 fun sZ oA c58 => Df (IntKind.i64.wrap (0 - x1)) fun qF => Pq sZ fun b61 o61 => In qF (oA : Int) ∧ ∃ qK, Hp.ld σ ⟨b61, (o61 + Int.toNat qF * 1), none⟩ = some (Value.float .f64 qK) ∧ AJ prog (binOp .quo 51 v6 (Value.float .f64 qK)) σ (fun z y => ∃ x63, (Value.float .f64 x63) = z ∧ R (.returned (.tuple #[(Value.float .f64 x63), .bool true])) y)) (R (.returned (.tuple #[v6, .bool t7])) σ)) (R (.returned (.tuple #[v6, .bool t7])) σ))) (Br (x1 < 0) (Br (((-22) : Int) ≤ x1) (LS σ 9 0 fun sZ oA c58 => Df (IntKind.i64.wrap (0 - x1)) fun qF => Pq sZ fun b61 o61 => In qF (oA : Int) ∧ ∃ qK, Hp.ld σ ⟨b61, (o61 + Int.toNat qF * 1), none⟩ = some (Value.float .f64 qK) ∧ AJ prog (binOp .quo 51 v6 (Value.float .f64 qK)) σ (fun z y => ∃ x63, (Value.float .f64 x63) = z ∧ R (.returned (.tuple #[(Value.float .f64 x63), .bool true])) y)) (R (.returned (.tuple #[v6, .bool t7])) σ)) (R (.returned (.tuple #[v6, .bool t7])) σ)))) : xx R x1 v6 t7 σ := M.of h ok rfl
end BG
end TwW
end
end
section
set_option maxRecDepth 100000
noncomputable section
namespace TwW
open Go Tw Go.Proofs.Tryz
variable [Ev] {R : Rr} {σ : Hp}


namespace Bk
variable {p0 My AJm AJn : Option Addr} {n0 c0 n21 LZ AJo AJp AJq AJr : Nat} {x7 x8 JJ D6 fL Pk AJs qL AJt AJu x12 : Int} {t9 AJv : Bool} {fM : ByteArray}
def M : Fw := ⟨prog, 15, f15, [37], [11], false, [], [], [(488, [(7, wI), (8, wI), (9, wB), (21, wL), (22, wI), (23, wI)]), (1959, [(7, wI), (8, wI), (9, wB), (21, wL), (22, wI), (23, wI)]), (125342, [(7, wI), (8, wI), (9, wB), (11, .X 36 [.I .i64, .I .i64, .T, .L, .I .i64, .I .i64, .I .i64, .L, .B, .I .i64]), (12, wI), (21, wL), (22, wI), (23, wI)]), (250687, [(7, wI), (8, wI), (21, wL), (22, wI), (23, wI)])]⟩
theorem ok : M.Ok := ⟨.cons call37 (AG.nil), mixed, func15, by kernel_rfl⟩
def xy := M.pt 0
def yA := M.pt 1
def VN := M.pt 2
def XF := M.pt 3
theorem start (h : Spec prog 37 #[.slice p0 n0 c0] σ (AA R (fun z y => ∃ AJw qM ADQ, z = (.tuple #[.int .i64 AJw, .int .i64 qM, .int .i64 ADQ]) ∧ Br (ADQ ≠ 0) (R (.returned (.tuple #[.int .i64 0, .int .i64 0])) y) (xy R 0 0 false p0 n0 c0 (n0 : Int) 0 y)))) : Spec prog 15 #[.slice p0 n0 c0] σ R := M.start h ok
theorem VP (h : Br (D6 < JJ) (Pq My fun LA ZC => In D6 (n21 : Int) ∧ ∃ VQ kh ki kj kl ko OO OP kr ks kt ku kv kx, Aq σ LA (ZC + Int.toNat D6 * 10) [.int .i64 VQ, .int .i64 kh, .string ki, .slice kj kl ko, .int .i64 OO, .int .i64 OP, .int .i64 kr, .slice ks kt ku, .bool kv, .int .i64 kx] ∧ ∀ BA : Nat, Br (VQ ≠ 2) (Br (VQ ≠ 3) (yA R x7 x8 t9 (aD LA ZC) n21 LZ JJ D6 σ) (AN (OP + OO) ∧ Br (VQ = 2) (AN ((OP + OO) + 300) ∧ VN R x7 x8 t9 VQ kh ki kj kl ko OO OP kr ks kt ku kv kx (((OP + OO) + 300)) (aD LA ZC) n21 LZ JJ D6 σ) (VN R x7 x8 t9 VQ kh ki kj kl ko OO OP kr ks kt ku kv kx (OP + OO) (aD LA ZC) n21 LZ JJ D6 σ))) (AN (OP + OO) ∧ Br (VQ = 2) (AN ((OP + OO) + 300) ∧ VN R x7 x8 t9 VQ kh ki kj kl ko OO OP kr ks kt ku kv kx (((OP + OO) + 300)) (aD LA ZC) n21 LZ JJ D6 σ) (VN R x7 x8 t9 VQ kh ki kj kl ko OO OP kr ks kt ku kv kx (OP + OO) (aD LA ZC) n21 LZ JJ D6 σ))) (R (.returned (.tuple #[.int .i64 x7, .int .i64 x8])) σ)) : xy R x7 x8 t9 My n21 LZ JJ D6 σ := M.of h ok rfl
theorem dH (h : AN (D6 + 1) ∧ xy R x7 x8 t9 My n21 LZ JJ (D6 + 1) σ) : yA R x7 x8 t9 My n21 LZ JJ D6 σ := M.of h ok rfl
theorem VO (h : Bn t9 (XF R (if x7 < x12 then x12 else x7) qL My n21 LZ JJ D6 σ) (Br (qL < x8) (XF R (if x7 < x12 then x12 else x7) qL My n21 LZ JJ D6 σ) (XF R (if x7 < x12 then x12 else x7) x8 My n21 LZ JJ D6 σ))) : VN R x7 x8 t9 fL Pk fM AJm AJo AJp AJs qL AJt AJn AJq AJr AJv AJu x12 My n21 LZ JJ D6 σ := M.iB h ok rfl fun _ => by kernel_rfl
theorem VB (h : yA R x7 x8 true My n21 LZ JJ D6 σ) : XF R x7 x8 My n21 LZ JJ D6 σ := M.of h ok rfl
end Bk
namespace UD
variable {s0 : ByteArray} {p1 : Option Addr} {n1 c1 : Nat} {x2 : Int}
def M : Fw := ⟨prog, 20, f20, [11, 13, 43], [], false, [], [], []⟩
theorem ok : M.Ok := ⟨.cons call11 (.cons call13 (.cons call43 (AG.nil))), mixed, func20, by kernel_rfl⟩
theorem start (h : Spec prog 43 #[.string s0] σ (AA R (fun z y => ∃ jt ju jv AJx yB, z = (.tuple #[.slice jt ju jv, .int .i64 AJx, .int .i64 yB]) ∧ Br (yB ≠ 0) (R (.returned (.tuple #[.slice none 0 0, .int .i64 yB])) y) (Spec prog 13 #[.slice p1 n1 c1] y (AA R (CS fun T1 n22 S7 AF => Spec prog 11 #[.slice jt ju jv, .slice T1 n22 S7, .int .i64 x2] AF (AA R (fun z AH => ∃ ADR ADS ADT VR, z = (.tuple #[.slice ADR ADS ADT, .int .i64 VR]) ∧ R (.returned (.tuple #[.slice ADR ADS ADT, .int .i64 VR])) AH)))))))) : Spec prog 20 #[.string s0, .slice p1 n1 c1, .int .i64 x2] σ R := M.start h ok
end UD
namespace NC
variable {TL p0b p1a p1b : Option Addr} {Lo Q6 n0b c0b n1a c1a n1b c1b : Nat}
def M : Fw := ⟨prog, 51, f51, [52], [2, 3], false, [], [], []⟩
theorem ok : M.Ok := ⟨.cons call52 (AG.nil), mixed, func51, by kernel_rfl⟩
theorem start (h : ∀ b2 : Nat, ∀ b3 : Nat, Spec prog 52 #[.slice TL Lo Q6, .slice p1a n1a c1a] σ (AA R (CI .i64 fun x9 y => R (.returned (.int .i64 x9)) y))) : Spec prog 51 #[.agg #[.slice TL Lo Q6, .slice p0b n0b c0b], .agg #[.slice p1a n1a c1a, .slice p1b n1b c1b]] σ R := M.start h ok
end NC
namespace Lq
variable {p0 p1 : Option Addr} {n0 c0 n1 c1 : Nat}
def M : Fw := ⟨prog, 52, f52, [75], [], false, [], [], []⟩
theorem ok : M.Ok := ⟨.cons call75 (AG.nil), mixed, func52, by kernel_rfl⟩
theorem start (h : Spec prog 75 #[.slice p0 n0 c0, .slice p1 n1 c1, (.func (.func 76) #[] #[])] σ (AA R (CI .i64 fun x7 y => R (.returned (.int .i64 x7)) y))) : Spec prog 52 #[.slice p0 n0 c0, .slice p1 n1 c1] σ R := M.start h ok
end Lq
namespace R4
def M : Fw := ⟨prog, 62, f62, [], [], false, [], [], []⟩
theorem ok : M.Ok := ⟨AG.nil, mixed, func62, by kernel_rfl⟩
theorem start (h : Al σ fun b1 => R (.returned (.slice (aD b1 0) 5 5)) (Hp.set σ b1 (.cells #[(.string (ByteArray.mk #[115, 117, 109])), (.string (ByteArray.mk #[109, 105, 110])), (.string (ByteArray.mk #[109, 97, 120])), (.string (ByteArray.mk #[97, 118, 103])), (.string (ByteArray.mk #[99, 111, 117, 110, 116]))] 9 (0, 0)))) : Spec prog 62 #[] σ R := M.start h ok
end R4
namespace Ap
variable {s0 Fg : ByteArray} {p5 p6 : Option Addr} {n5 c5 n6 c6 : Nat} {Ff GY GZ x8 x9 E8 AP3 : Int} {t201 : Bool}
def M : Fw := ⟨prog, 63, f63, [90, 91, 92, 93, 94], [7], false, [], [], [(1788, [(0, wT), (5, wL), (7, .X 131 [.I .i64, .I .i64, .T, .I .i64]), (8, wI)]), (917472, [(0, wT), (5, wL), (7, .X 131 [.I .i64, .I .i64, .T, .I .i64]), (8, wI), (9, wI)]), (58720224, [(0, wT), (5, wL), (7, .X 131 [.I .i64, .I .i64, .T, .I .i64]), (8, wI), (9, wI)]), (117440508, [(0, wT), (5, wL), (6, wL), (7, .X 131 [.I .i64, .I .i64, .T, .I .i64]), (8, wI), (9, wI)]), (15032385517, [(0, wT), (5, wL), (6, wL), (7, .X 131 [.I .i64, .I .i64, .T, .I .i64]), (8, wI), (9, wI), (13, w8), (199, w8), (201, wB)]), (1879048190, [(0, wT), (5, wL), (6, wL), (7, .X 131 [.I .i64, .I .i64, .T, .I .i64]), (8, wI), (9, wI)]), (458750, [(0, wT), (5, wL), (7, .X 131 [.I .i64, .I .i64, .T, .I .i64]), (8, wI)])]⟩
theorem ok : M.Ok := ⟨.cons call90 (.cons call91 (.cons call92 (.cons call93 (.cons call94 (AG.nil))))), mixed, func63, by kernel_rfl⟩
def MT := M.pt 0
def XW := M.pt 1
def UE := M.pt 2
def ADU := M.pt 3
def Ke := M.pt 6
theorem start (h : ∀ b7 : Nat, Br ((4096 : Int) < ((ByteArray.size s0 : Nat) : Int)) (R (.returned (.tuple #[.slice none 0 0, .int .i64 0, .int .i64 170])) σ) (MT R s0 none 0 0 0 0 (ByteArray.mk #[]) 0 0 σ)) : Spec prog 63 #[.string s0] σ R := M.start h ok
theorem LH (h : Br (x8 = ((ByteArray.size s0 : Nat) : Int)) (Al σ fun pZ => AJ prog (Builtin.append_ #[121, 121] 121 #[.slice p5 n5 c5, (.slice (aD pZ 0) 1 1)]) (Hp.set σ pZ (.cells #[.int .i64 0, .int .i64 x8, (.string (ByteArray.mk #[])), .int .i64 0] 131 (0, 0))) (CS fun fO n25 fP y => R (.returned (.tuple #[.slice fO n25 fP, .int .i64 0, .int .i64 0])) y)) (∃ uI : UInt8, 0 ≤ x8 ∧ (ByteArray.data s0)[Int.toNat x8]? = some uI ∧ Br ((((UInt8.toNat uI : Nat) : Int) : Int) = 32) (AN (x8 + 1) ∧ MT R s0 p5 n5 c5 Ff GY Fg GZ (x8 + 1) σ) (Br ((((UInt8.toNat uI : Nat) : Int) : Int) = 9) (AN (x8 + 1) ∧ MT R s0 p5 n5 c5 Ff GY Fg GZ (x8 + 1) σ) (Br ((((UInt8.toNat uI : Nat) : Int) : Int) = 13) (AN (x8 + 1) ∧ MT R s0 p5 n5 c5 Ff GY Fg GZ (x8 + 1) σ) (Br ((((UInt8.toNat uI : Nat) : Int) : Int) = 10) (AN (x8 + 1) ∧ MT R s0 p5 n5 c5 Ff GY Fg GZ (x8 + 1) σ) (Spec prog 90 #[(.int .u8 ((UInt8.toNat uI : Nat) : Int))] σ (AA R (CB fun t49 y => Bo t49 (XW R s0 p5 n5 c5 Ff GY Fg GZ x8 x8 y) (Spec prog 91 #[(.int .u8 ((UInt8.toNat uI : Nat) : Int))] y (AA R (CB fun t52 AF => Bo t52 (UE R s0 p5 n5 c5 Ff GY Fg GZ x8 x8 AF) (Br ((((UInt8.toNat uI : Nat) : Int) : Int) = 34) (AN (x8 + 1) ∧ ADU R s0 p5 n5 c5 none 0 0 Ff GY Fg GZ (x8 + 1) x8 AF) (∃ s60, YF prog (Instr.sliceAt 9 (.string s0) (some (.int .i64 x8)) none none) AF (.string s60) ∧ Spec prog 92 #[.string s60] AF (AA R (CT fun s61 AH => Bn ((ByteArray.toList s61 == ByteArray.toList (ByteArray.mk #[]))) (Al AH fun b68 => AJ prog (Builtin.append_ #[121, 121] 121 #[.slice p5 n5 c5, (.slice (aD b68 0) 1 1)]) (Hp.set AH b68 (.cells #[.int .i64 5, .int .i64 x8, .string s61, .int .i64 0] 131 (0, 0))) (CS fun qC n69 qD AZ => AN (x8 + ((ByteArray.size s61 : Nat) : Int)) ∧ MT R s0 qC n69 qD Ff GY Fg GZ ((x8 + ((ByteArray.size s61 : Nat) : Int))) AZ)) (R (.returned (.tuple #[.slice none 0 0, .int .i64 x8, .int .i64 171])) AH)))))))))))))))) : MT R s0 p5 n5 c5 Ff GY Fg GZ x8 σ := M.iB h ok rfl fun _ => by kernel_rfl
theorem dI (h : Br (x8 < ((ByteArray.size s0 : Nat) : Int)) (∃ u82 : UInt8, 0 ≤ x8 ∧ (ByteArray.data s0)[Int.toNat x8]? = some u82 ∧ Spec prog 90 #[(.int .u8 ((UInt8.toNat u82 : Nat) : Int))] σ (AA R (CB fun t83 y => Bo t83 (AN (x8 + 1) ∧ XW R s0 p5 n5 c5 Ff GY Fg GZ (x8 + 1) x9 y) (∃ u87 : UInt8, 0 ≤ x8 ∧ (ByteArray.data s0)[Int.toNat x8]? = some u87 ∧ Spec prog 91 #[(.int .u8 ((UInt8.toNat u87 : Nat) : Int))] y (AA R (CB fun t88 AF => Bo t88 (∃ u92 : UInt8, 0 ≤ x8 ∧ (ByteArray.data s0)[Int.toNat x8]? = some u92 ∧ Br ((((UInt8.toNat u92 : Nat) : Int) : Int) ≠ 58) (AN (x8 + 1) ∧ XW R s0 p5 n5 c5 Ff GY Fg GZ (x8 + 1) x9 AF) (∃ u99 : UInt8, 0 ≤ x8 ∧ (ByteArray.data s0)[Int.toNat x8]? = some u99 ∧ Br ((((UInt8.toNat u99 : Nat) : Int) : Int) = 46) (AN (x8 + 1) ∧ XW R s0 p5 n5 c5 Ff GY Fg GZ (x8 + 1) x9 AF) (∃ Gm, YF prog (Instr.sliceAt 9 (.string s0) (some (.int .i64 x9)) (some (.int .i64 x8)) none) AF (.string Gm) ∧ Spec prog 93 #[.string Gm] AF (AA R (CI .i64 fun MU AH => Br (0 < MU) (Ke R s0 p5 n5 c5 2 x9 Gm MU x8 AH) (Spec prog 94 #[.string Gm] AH (AA R (CB fun t121 AZ => Bn t121 (R (.returned (.tuple #[.slice none 0 0, .int .i64 x9, .int .i64 172])) AZ) (Ke R s0 p5 n5 c5 1 x9 Gm MU x8 AZ))))))))) (∃ u99 : UInt8, 0 ≤ x8 ∧ (ByteArray.data s0)[Int.toNat x8]? = some u99 ∧ Br ((((UInt8.toNat u99 : Nat) : Int) : Int) = 46) (AN (x8 + 1) ∧ XW R s0 p5 n5 c5 Ff GY Fg GZ (x8 + 1) x9 AF) (∃ Gm, YF prog (Instr.sliceAt 9 (.string s0) (some (.int .i64 x9)) (some (.int .i64 x8)) none) AF (.string Gm) ∧ Spec prog 93 #[.string Gm] AF (AA R (CI .i64 fun MU AH => Br (0 < MU) (Ke R s0 p5 n5 c5 2 x9 Gm MU x8 AH) (Spec prog 94 #[.string Gm] AH (AA R (CB fun t121 AZ => Bn t121 (R (.returned (.tuple #[.slice none 0 0, .int .i64 x9, .int .i64 172])) AZ) (Ke R s0 p5 n5 c5 1 x9 Gm MU x8 AZ)))))))))))))) (∃ Gm, YF prog (Instr.sliceAt 9 (.string s0) (some (.int .i64 x9)) (some (.int .i64 x8)) none) σ (.string Gm) ∧ Spec prog 93 #[.string Gm] σ (AA R (CI .i64 fun MU y => Br (0 < MU) (Ke R s0 p5 n5 c5 2 x9 Gm MU x8 y) (Spec prog 94 #[.string Gm] y (AA R (CB fun t121 AF => Bn t121 (R (.returned (.tuple #[.slice none 0 0, .int .i64 x9, .int .i64 172])) AF) (Ke R s0 p5 n5 c5 1 x9 Gm MU x8 AF)))))))) : XW R s0 p5 n5 c5 Ff GY Fg GZ x8 x9 σ := M.iB h ok rfl fun _ => by kernel_rfl
theorem XX (h : Br (x8 < ((ByteArray.size s0 : Nat) : Int)) (∃ ADW : UInt8, 0 ≤ x8 ∧ (ByteArray.data s0)[Int.toNat x8]? = some ADW ∧ Spec prog 91 #[(.int .u8 ((UInt8.toNat ADW : Nat) : Int))] σ (AA R (CB fun t136 y => Bo t136 (AN (x8 + 1) ∧ UE R s0 p5 n5 c5 Ff GY Fg GZ (x8 + 1) x9 y) (∃ ADX : UInt8, 0 ≤ x8 ∧ (ByteArray.data s0)[Int.toNat x8]? = some ADX ∧ Spec prog 90 #[(.int .u8 ((UInt8.toNat ADX : Nat) : Int))] y (AA R (CB fun t141 AF => Bo t141 (AN (x8 + 1) ∧ UE R s0 p5 n5 c5 Ff GY Fg GZ (x8 + 1) x9 AF) (∃ XY, YF prog (Instr.sliceAt 9 (.string s0) (some (.int .i64 x9)) (some (.int .i64 x8)) none) AF (.string XY) ∧ Al AF fun XZ => AJ prog (Builtin.append_ #[121, 121] 121 #[.slice p5 n5 c5, (.slice (aD XZ 0) 1 1)]) (Hp.set AF XZ (.cells #[.int .i64 3, .int .i64 x9, .string XY, .int .i64 0] 131 (0, 0))) (CS fun ky n154 kz AH => MT R s0 ky n154 kz Ff GY Fg GZ x8 AH)))))))) (∃ XY, YF prog (Instr.sliceAt 9 (.string s0) (some (.int .i64 x9)) (some (.int .i64 x8)) none) σ (.string XY) ∧ Al σ fun XZ => AJ prog (Builtin.append_ #[121, 121] 121 #[.slice p5 n5 c5, (.slice (aD XZ 0) 1 1)]) (Hp.set σ XZ (.cells #[.int .i64 3, .int .i64 x9, .string XY, .int .i64 0] 131 (0, 0))) (CS fun ky n154 kz y => MT R s0 ky n154 kz Ff GY Fg GZ x8 y))) : UE R s0 p5 n5 c5 Ff GY Fg GZ x8 x9 σ := M.iB h ok rfl fun _ => by kernel_rfl
theorem Xa (h : Al σ fun ADY => AJ prog (Builtin.append_ #[121, 121] 121 #[.slice p5 n5 c5, (.slice (aD ADY 0) 1 1)]) (Hp.set σ ADY (.cells #[.int .i64 Ff, .int .i64 GY, .string Fg, .int .i64 GZ] 131 (0, 0))) (CS fun AJy n127 AJz y => MT R s0 AJy n127 AJz Ff GY Fg GZ x8 y)) : Ke R s0 p5 n5 c5 Ff GY Fg GZ x8 σ := M.iB h ok rfl fun _ => by kernel_rfl
end Ap
namespace Ef
variable {q0 Dc Dp p2 : Option Addr} {DY CN DZ Dd C5 CY : Int} {Da : ByteArray} {De Dg Dh Dq n2 c2 : Nat} {C6 : Bool}
def M : Fw := ⟨prog, 84, f84, [124, 128], [4], false, [(1, 10, true)], [], []⟩
theorem ok : M.Ok := ⟨.cons call124 (.cons call128 (AG.nil)), mixed, func84, by kernel_rfl⟩
theorem start (h : ∀ b4 : Nat, Pq p2 fun DF iE => In 0 (n2 : Int) ∧ LI .i64 σ DF iE fun x15 => In 1 (n2 : Int) ∧ LI .i64 σ DF (iE + 1) fun Dn => Br (x15 = 2) (Br (x15 = 1) (Br (x15 = 3) (R (.returned (.tuple #[.int .i64 0, .int .i64 192])) σ) (Br (Dn = 3) (R (.returned (.tuple #[.int .i64 0, .int .i64 192])) σ) (Spec prog 128 #[.int .i64 CN] σ (AA R (CB fun t41 y => Bo t41 (Bm (Dn = 2) (R (.returned (.tuple #[.int .i64 0, .int .i64 192])) y) (Br (Dn = 1) (Spec prog 124 #[.int .i64 CN] y (AA R (CB fun t57 AF => Bo t57 (Bn C6 (R (.returned (.tuple #[.int .i64 0, .int .i64 192])) AF) (R (.returned (.tuple #[(.int .i64 (if x15 < Dn then Dn else x15)), .int .i64 0])) AF)) (R (.returned (.tuple #[(.int .i64 (if x15 < Dn then Dn else x15)), .int .i64 0])) AF)))) (R (.returned (.tuple #[(.int .i64 (if x15 < Dn then Dn else x15)), .int .i64 0])) y))) (Br (C5 ≠ 0) (Bm (Dn = 2) (R (.returned (.tuple #[.int .i64 0, .int .i64 192])) y) (Br (Dn = 1) (Spec prog 124 #[.int .i64 CN] y (AA R (CB fun t57 AF => Bo t57 (Bn C6 (R (.returned (.tuple #[.int .i64 0, .int .i64 192])) AF) (R (.returned (.tuple #[(.int .i64 (if x15 < Dn then Dn else x15)), .int .i64 0])) AF)) (R (.returned (.tuple #[(.int .i64 (if x15 < Dn then Dn else x15)), .int .i64 0])) AF)))) (R (.returned (.tuple #[(.int .i64 (if x15 < Dn then Dn else x15)), .int .i64 0])) y))) (Br (Dn = 1) (Spec prog 124 #[.int .i64 CN] y (AA R (CB fun t57 AF => Bo t57 (Bn C6 (R (.returned (.tuple #[.int .i64 0, .int .i64 192])) AF) (R (.returned (.tuple #[(.int .i64 (if x15 < Dn then Dn else x15)), .int .i64 0])) AF)) (R (.returned (.tuple #[(.int .i64 (if x15 < Dn then Dn else x15)), .int .i64 0])) AF)))) (R (.returned (.tuple #[(.int .i64 (if x15 < Dn then Dn else x15)), .int .i64 0])) y)))))))) (Br (x15 = 3) (R (.returned (.tuple #[.int .i64 0, .int .i64 192])) σ) (Br (Dn = 3) (R (.returned (.tuple #[.int .i64 0, .int .i64 192])) σ) (Spec prog 128 #[.int .i64 CN] σ (AA R (CB fun t41 y => Bo t41 (Bm (Dn = 2) (R (.returned (.tuple #[.int .i64 0, .int .i64 192])) y) (R (.returned (.tuple #[(.int .i64 (if x15 < Dn then Dn else x15)), .int .i64 0])) y)) (Br (C5 ≠ 0) (Bm (Dn = 2) (R (.returned (.tuple #[.int .i64 0, .int .i64 192])) y) (R (.returned (.tuple #[(.int .i64 (if x15 < Dn then Dn else x15)), .int .i64 0])) y)) (R (.returned (.tuple #[(.int .i64 (if x15 < Dn then Dn else x15)), .int .i64 0])) y)))))))) (Br (x15 = 1) (Br (x15 = 3) (R (.returned (.tuple #[.int .i64 0, .int .i64 192])) σ) (Br (Dn = 3) (R (.returned (.tuple #[.int .i64 0, .int .i64 192])) σ) (Spec prog 128 #[.int .i64 CN] σ (AA R (CB fun t41 y => Bo t41 (R (.returned (.tuple #[.int .i64 0, .int .i64 192])) y) (Br (C5 ≠ 0) (R (.returned (.tuple #[.int .i64 0, .int .i64 192])) y) (Br (Dn = 1) (Spec prog 124 #[.int .i64 CN] y (AA R (CB fun t57 AF => Bo t57 (Bn C6 (R (.returned (.tuple #[.int .i64 0, .int .i64 192])) AF) (R (.returned (.tuple #[(.int .i64 (if x15 < Dn then Dn else x15)), .int .i64 0])) AF)) (R (.returned (.tuple #[(.int .i64 (if x15 < Dn then Dn else x15)), .int .i64 0])) AF)))) (R (.returned (.tuple #[(.int .i64 (if x15 < Dn then Dn else x15)), .int .i64 0])) y)))))))) (Br (x15 = 3) (R (.returned (.tuple #[.int .i64 0, .int .i64 192])) σ) (Br (Dn = 3) (R (.returned (.tuple #[.int .i64 0, .int .i64 192])) σ) (Spec prog 128 #[.int .i64 CN] σ (AA R (CB fun t41 y => Bo t41 (R (.returned (.tuple #[.int .i64 0, .int .i64 192])) y) (Br (C5 ≠ 0) (R (.returned (.tuple #[.int .i64 0, .int .i64 192])) y) (R (.returned (.tuple #[(.int .i64 (if x15 < Dn then Dn else x15)), .int .i64 0])) y))))))))) : Spec prog 84 #[.pointer q0, .agg #[.int .i64 DY, .int .i64 CN, .string Da, .slice Dc De Dg, .int .i64 DZ, .int .i64 Dd, .int .i64 C5, .slice Dp Dh Dq, .bool C6, .int .i64 CY], .slice p2 n2 c2] σ R := M.start h ok
end Ef
namespace R5
variable {x0 : Int}
def M : Fw := ⟨prog, 91, f91, [], [], false, [], [], []⟩
theorem ok : M.Ok := ⟨AG.nil, mixed, func91, by kernel_rfl⟩
theorem start (h : Br (97 ≤ x0) (Br (x0 ≤ 122) (R (.returned (.bool true)) σ) (Br (65 ≤ x0) (Br (x0 ≤ 90) (R (.returned (.bool true)) σ) (Br (x0 = 95) (R (.returned (.bool true)) σ) (R (.returned (.bool (decide (x0 = 58)))) σ))) (Br (x0 = 95) (R (.returned (.bool true)) σ) (R (.returned (.bool (decide (x0 = 58)))) σ)))) (Br (65 ≤ x0) (Br (x0 ≤ 90) (R (.returned (.bool true)) σ) (Br (x0 = 95) (R (.returned (.bool true)) σ) (R (.returned (.bool (decide (x0 = 58)))) σ))) (Br (x0 = 95) (R (.returned (.bool true)) σ) (R (.returned (.bool (decide (x0 = 58)))) σ)))) : Spec prog 91 #[.int .u8 x0] σ R := M.start h ok
end R5
namespace Eg
variable {s0 : ByteArray} {t8 : Bool}
def M : Fw := ⟨prog, 92, f92, [130], [], false, [], [], [(28, [(0, wT)]), (213, [(0, wT), (8, wB)])]⟩
theorem ok : M.Ok := ⟨.cons call130 (AG.nil), mixed, func92, by kernel_rfl⟩
def qN := M.pt 0
def G2 := M.pt 1
theorem start (h : Br ((1 : Int) < ((ByteArray.size s0 : Nat) : Int)) (∃ s7, YF prog (Instr.sliceAt 9 (.string s0) none (some (.int .i64 2)) none) σ (.string s7) ∧ Bo ((ByteArray.toList s7 == ByteArray.toList (ByteArray.mk #[61, 61]))) (G2 R s0 true σ) (Bo ((ByteArray.toList s7 == ByteArray.toList (ByteArray.mk #[33, 61]))) (G2 R s0 true σ) (Bo ((ByteArray.toList s7 == ByteArray.toList (ByteArray.mk #[60, 61]))) (G2 R s0 true σ) (Bo ((ByteArray.toList s7 == ByteArray.toList (ByteArray.mk #[62, 61]))) (G2 R s0 true σ) (Bo ((ByteArray.toList s7 == ByteArray.toList (ByteArray.mk #[61, 126]))) (G2 R s0 true σ) (G2 R s0 ((ByteArray.toList s7 == ByteArray.toList (ByteArray.mk #[33, 126]))) σ)))))) (qN R s0 σ)) : Spec prog 92 #[.string s0] σ R := M.start h ok
theorem qO (h : ∃ u18 : UInt8, (0 : Int) ≤ 0 ∧ (ByteArray.data s0)[Int.toNat 0]? = some u18 ∧ Spec prog 130 #[(.string (ByteArray.mk #[60, 62, 61, 43, 45, 42, 47, 40, 41, 123, 125, 91, 93, 44])), (.int .u8 ((UInt8.toNat u18 : Nat) : Int))] σ (AA R (CI .i64 fun Dn y => Br (0 ≤ Dn) (∃ s22, YF prog (Instr.sliceAt 9 (.string s0) none (some (.int .i64 1)) none) y (.string s22) ∧ R (.returned (.string s22)) y) (R (.returned (.string (ByteArray.mk #[]))) y)))) : qN R s0 σ := M.of h ok rfl
theorem Ir (h : Bo t8 (∃ s16, YF prog (Instr.sliceAt 9 (.string s0) none (some (.int .i64 2)) none) σ (.string s16) ∧ R (.returned (.string s16)) σ) (qN R s0 σ)) : G2 R s0 t8 σ := M.of h ok rfl
end Eg
namespace Bl
variable {q0 Dc Dp p2 : Option Addr} {DY CN DZ Dd C5 CY : Int} {Da : ByteArray} {De Dg Dh Dq n2 c2 : Nat} {C6 : Bool}
def M : Fw := ⟨prog, 100, f100, [140], [4, 6], false, [], [], []⟩
theorem ok : M.Ok := ⟨.cons call140 (AG.nil), mixed, func100, by kernel_rfl⟩
theorem start (h : ∀ b4 : Nat, ∀ b6 : Nat, Spec prog 140 #[.string Da] σ (AA R (fun z y => ∃ j7 AJ0, z = (.tuple #[.int .u64 j7, .bool AJ0]) ∧ R (.returned (.tuple #[.agg #[.int .i64 1, .int .u64 j7, .slice none 0 0, .slice none 0 0], .int .i64 0])) y))) : Spec prog 100 #[.pointer q0, .agg #[.int .i64 DY, .int .i64 CN, .string Da, .slice Dc De Dg, .int .i64 DZ, .int .i64 Dd, .int .i64 C5, .slice Dp Dh Dq, .bool C6, .int .i64 CY], .slice p2 n2 c2] σ R := M.start h ok
end Bl
namespace R6
variable {x0 x1 : Int}
def M : Fw := ⟨prog, 123, f123, [], [], false, [], [], []⟩
theorem ok : M.Ok := ⟨AG.nil, mixed, func123, by kernel_rfl⟩
theorem start (h : Br (x1 ≤ x0) (R (.returned (.bool (decide (x0 < 2147483648)))) σ) (R (.returned (.bool false)) σ)) : Spec prog 123 #[.int .i64 x0, .int .i64 x1] σ R := M.start h ok
end R6
namespace R7
variable {s0 : ByteArray}
def M : Fw := ⟨prog, 126, f126, [98], [], false, [], [], []⟩
theorem ok : M.Ok := ⟨.cons call98 (AG.nil), mixed, func126, by kernel_rfl⟩
theorem start (h : Spec prog 98 #[.string s0] σ (AA R (CB fun t4 y => R (.returned (.bool t4)) y))) : Spec prog 126 #[.string s0] σ R := M.start h ok
end R7
namespace HM
variable {q0 Dc Dp : Option Addr} {DY CN DZ Dd C5 CY : Int} {Da : ByteArray} {De Dg Dh Dq : Nat} {C6 : Bool}
def M : Fw := ⟨prog, 138, f138, [], [3], false, [(1, 10, false)], [], []⟩
theorem ok : M.Ok := ⟨AG.nil, mixed, func138, by kernel_rfl⟩
theorem start (h : ∀ b3 : Nat, Pq q0 fun b6 o6 => LS σ b6 (o6 + 2) fun p8 n8 c8 => Al σ fun Cd => AJ prog (Builtin.append_ #[22, 22] 22 #[.slice p8 n8 c8, (.slice (aD Cd 0) 1 1)]) (Hp.set σ Cd (.cells #[.int .i64 DY, .int .i64 CN, .string Da, .slice Dc De Dg, .int .i64 DZ, .int .i64 Dd, .int .i64 C5, .slice Dp Dh Dq, .bool C6, .int .i64 CY] 36 (0, 0))) (CS fun LD n11 LF y => AJ prog (Instr.storeAt 22 (.pointer (aD b6 (o6 + 2))) (.slice LD n11 LF)) y (fun _ AF => R (.returned (.tuple #[])) AF))) : Spec prog 138 #[.pointer q0, .agg #[.int .i64 DY, .int .i64 CN, .string Da, .slice Dc De Dg, .int .i64 DZ, .int .i64 Dd, .int .i64 C5, .slice Dp Dh Dq, .bool C6, .int .i64 CY]] σ R := M.start h ok
end HM
namespace Eh
variable {p0 : Option Addr} {n0 c0 : Nat}
def M : Fw := ⟨prog, 154, f154, [151, 155, 194], [], false, [], [], []⟩
theorem ok : M.Ok := ⟨.cons call151 (.cons call155 (.cons call194 (AG.nil))), mixed, func154, by kernel_rfl⟩
theorem start (h : Spec prog 151 #[.slice p0 n0 c0] σ (AA R (CI .u64 fun x4 y => Spec prog 155 #[.slice p0 n0 c0] y (AA R (CI .u64 fun x6 AF => Spec prog 194 #[.int .u64 x4, .int .u64 x6] AF (AA R (CI .u64 fun x7 AH => R (.returned (.int .u64 x7)) AH))))))) : Spec prog 154 #[.slice p0 n0 c0] σ R := M.start h ok
end Eh
namespace AV
variable {q0 Dc Dp p2 p3 Ib Ij Ew E2 JD p35 oE : Option Addr} {DY CN DZ Dd C5 CY IZ G1 Ig Ih Ii Im D3 ED Y9 Pj aH Mv : Int} {Da Ia : ByteArray} {De Dg Dh Dq n2 c2 n3 c3 Ic Ie Ik Il Ex Ey E3 E4 n14 HG n35 uJ jq cw : Nat} {C6 Jh : Bool} {m10 m12 : Option Nat}
def M : Fw := ⟨prog, 160, f160, [49, 148, 206, 207], [5, 8, 16, 17, 20, 21], false, [], [], [(1000, [(3, wL), (5, .X 36 [.I .i64, .I .i64, .T, .L, .I .i64, .I .i64, .I .i64, .L, .B, .I .i64]), (8, .X 93 [.I .i64, .I .u64, .L, .L]), (10, wM), (12, wM), (14, wL), (35, wL), (36, wI), (37, wI)]), (2024, [(5, .X 36 [.I .i64, .I .i64, .T, .L, .I .i64, .I .i64, .I .i64, .L, .B, .I .i64]), (8, .X 93 [.I .i64, .I .u64, .L, .L]), (10, wM), (14, wL), (66, wL), (67, wI), (68, wI)]), (8103, [(5, .X 36 [.I .i64, .I .i64, .T, .L, .I .i64, .I .i64, .I .i64, .L, .B, .I .i64]), (8, .X 93 [.I .i64, .I .u64, .L, .L]), (10, wM), (14, wL), (66, wL), (67, wI), (68, wI)]), (4007, [(3, wL), (5, .X 36 [.I .i64, .I .i64, .T, .L, .I .i64, .I .i64, .I .i64, .L, .B, .I .i64]), (8, .X 93 [.I .i64, .I .u64, .L, .L]), (10, wM), (12, wM), (14, wL), (35, wL), (36, wI), (37, wI)])]⟩
theorem ok : M.Ok := ⟨.cons call49 (.cons call148 (.cons call206 (.cons call207 (AG.nil)))), mixed, func160, by kernel_rfl⟩
def qP := M.pt 0
def Jd := M.pt 1
def M0 := M.pt 2
def VT := M.pt 3
theorem start (h : ∀ b5 : Nat, ∀ b8 : Nat, Spec prog 206 #[.agg #[.int .i64 DY, .int .i64 CN, .string Da, .slice Dc De Dg, .int .i64 DZ, .int .i64 Dd, .int .i64 C5, .slice Dp Dh Dq, .bool C6, .int .i64 CY], .slice p2 n2 c2] σ (AA R (fun z y => ∃ ADZ AJ1, z = (.tuple #[.map ADZ, .bool AJ1]) ∧ Spec prog 206 #[.agg #[.int .i64 DY, .int .i64 CN, .string Da, .slice Dc De Dg, .int .i64 DZ, .int .i64 Dd, .int .i64 C5, .slice Dp Dh Dq, .bool C6, .int .i64 CY], .slice p3 n3 c3] y (AA R (fun z AF => ∃ ADa AJ2, z = (.tuple #[.map ADa, .bool AJ2]) ∧ qP R p3 n3 c3 DY CN Da Dc De Dg DZ Dd C5 Dp Dh Dq C6 CY 0 0 none 0 0 none 0 0 ADZ ADa none 0 0 p2 n2 c2 (n2 : Int) 0 AF))))) : Spec prog 160 #[.pointer q0, .agg #[.int .i64 DY, .int .i64 CN, .string Da, .slice Dc De Dg, .int .i64 DZ, .int .i64 Dd, .int .i64 C5, .slice Dp Dh Dq, .bool C6, .int .i64 CY], .slice p2 n2 c2, .slice p3 n3 c3] σ R := M.start h ok
theorem dJ (h : Br (Pj < Y9) (Pq p35 fun oK o39 => In Pj (n35 : Int) ∧ ∃ XS VD aL aM, Aq σ oK (o39 + Int.toNat Pj * 2) [.slice XS VD aL, .int .u64 aM] ∧ ∀ Lm : Nat, Spec prog 207 #[.agg #[.int .i64 IZ, .int .i64 G1, .string Ia, .slice Ib Ic Ie, .int .i64 Ig, .int .i64 Ih, .int .i64 Ii, .slice Ij Ik Il, .bool Jh, .int .i64 Im], .slice XS VD aL] σ (AA R (CS fun oF n46 oG y => Spec prog 49 #[.slice oF n46 oG] y (AA R (CT fun s47 AF => AJ prog (Instr.lookup 243 (.map m12) (.string s47) true) AF (fun z AH => ∃ ADb ADc ADd ADe ADf, z = (.tuple #[.agg #[.slice ADb ADc ADd, .int .u64 ADe], .bool ADf]) ∧ ∀ b17 : Nat, Br (G1 = 12) (Al AH fun fQ => AJ prog (Builtin.append_ #[67, 67] 67 #[.slice JD n14 HG, (.slice (aD fQ 0) 1 1)]) (Hp.set AH fQ (.cells #[.slice XS VD aL, .int .u64 aM] 71 (0, 0))) (CS fun oC jl oD AZ => VT R p3 n3 c3 IZ G1 Ia Ib Ic Ie Ig Ih Ii Ij Ik Il Jh Im D3 ED Ew Ex Ey E2 E3 E4 m10 m12 oC jl oD (aD oK o39) n35 uJ Y9 Pj AZ)) (Bo ADf (Br (G1 = 11) (Al AH fun fQ => AJ prog (Builtin.append_ #[67, 67] 67 #[.slice JD n14 HG, (.slice (aD fQ 0) 1 1)]) (Hp.set AH fQ (.cells #[.slice XS VD aL, .int .u64 aM] 71 (0, 0))) (CS fun oC jl oD AZ => VT R p3 n3 c3 IZ G1 Ia Ib Ic Ie Ig Ih Ii Ij Ik Il Jh Im D3 ED Ew Ex Ey E2 E3 E4 m10 m12 oC jl oD (aD oK o39) n35 uJ Y9 Pj AZ)) (VT R p3 n3 c3 IZ G1 Ia Ib Ic Ie Ig Ih Ii Ij Ik Il Jh Im D3 ED Ew Ex Ey E2 E3 E4 m10 m12 JD n14 HG (aD oK o39) n35 uJ Y9 Pj AH)) (Br (G1 = 11) (VT R p3 n3 c3 IZ G1 Ia Ib Ic Ie Ig Ih Ii Ij Ik Il Jh Im D3 ED Ew Ex Ey E2 E3 E4 m10 m12 JD n14 HG (aD oK o39) n35 uJ Y9 Pj AH) (Al AH fun fQ => AJ prog (Builtin.append_ #[67, 67] 67 #[.slice JD n14 HG, (.slice (aD fQ 0) 1 1)]) (Hp.set AH fQ (.cells #[.slice XS VD aL, .int .u64 aM] 71 (0, 0))) (CS fun oC jl oD AZ => VT R p3 n3 c3 IZ G1 Ia Ib Ic Ie Ig Ih Ii Ij Ik Il Jh Im D3 ED Ew Ex Ey E2 E3 E4 m10 m12 oC jl oD (aD oK o39) n35 uJ Y9 Pj AZ)))))))))) (Jd R IZ G1 Ia Ib Ic Ie Ig Ih Ii Ij Ik Il Jh Im D3 ED Ew Ex Ey E2 E3 E4 m10 JD n14 HG p3 n3 c3 (n3 : Int) 0 σ)) : qP R p3 n3 c3 IZ G1 Ia Ib Ic Ie Ig Ih Ii Ij Ik Il Jh Im D3 ED Ew Ex Ey E2 E3 E4 m10 m12 JD n14 HG p35 n35 uJ Y9 Pj σ := M.ey h ok rfl fun _ _ => by kernel_rfl
theorem LC (h : Br (Mv < aH) (Pq oE fun b70 o70 => In Mv (jq : Int) ∧ ∃ yC yD yE ADg, Aq σ b70 (o70 + Int.toNat Mv * 2) [.slice yC yD yE, .int .u64 ADg] ∧ ∀ XR : Nat, Spec prog 207 #[.agg #[.int .i64 IZ, .int .i64 G1, .string Ia, .slice Ib Ic Ie, .int .i64 Ig, .int .i64 Ih, .int .i64 Ii, .slice Ij Ik Il, .bool Jh, .int .i64 Im], .slice yC yD yE] σ (AA R (CS fun p77 n77 c77 y => Spec prog 49 #[.slice p77 n77 c77] y (AA R (CT fun s78 AF => AJ prog (Instr.lookup 243 (.map m10) (.string s78) true) AF (fun z AH => ∃ ADh ADi ADj ADk ADl, z = (.tuple #[.agg #[.slice ADh ADi ADj, .int .u64 ADk], .bool ADl]) ∧ ∀ b21 : Nat, Bn ADl (Br (G1 = 12) (Al AH fun iD => AJ prog (Builtin.append_ #[67, 67] 67 #[.slice JD n14 HG, (.slice (aD iD 0) 1 1)]) (Hp.set AH iD (.cells #[.slice yC yD yE, .int .u64 ADg] 71 (0, 0))) (CS fun p92 n92 c92 AZ => M0 R IZ G1 Ia Ib Ic Ie Ig Ih Ii Ij Ik Il Jh Im D3 ED Ew Ex Ey E2 E3 E4 m10 p92 n92 c92 (aD b70 o70) jq cw aH Mv AZ)) (M0 R IZ G1 Ia Ib Ic Ie Ig Ih Ii Ij Ik Il Jh Im D3 ED Ew Ex Ey E2 E3 E4 m10 JD n14 HG (aD b70 o70) jq cw aH Mv AH)) (M0 R IZ G1 Ia Ib Ic Ie Ig Ih Ii Ij Ik Il Jh Im D3 ED Ew Ex Ey E2 E3 E4 m10 JD n14 HG (aD b70 o70) jq cw aH Mv AH))))))) (Spec prog 148 #[.slice JD n14 HG] σ (AA R (fun z y => ∃ uK uL uM uN uO uP uQ uR MP, z = (.tuple #[.agg #[.int .i64 uK, .int .u64 uL, .slice uM uN uO, .slice uP uQ uR], .int .i64 MP]) ∧ R (.returned (.tuple #[.agg #[.int .i64 uK, .int .u64 uL, .slice uM uN uO, .slice uP uQ uR], .int .i64 MP])) y)))) : Jd R IZ G1 Ia Ib Ic Ie Ig Ih Ii Ij Ik Il Jh Im D3 ED Ew Ex Ey E2 E3 E4 m10 JD n14 HG oE jq cw aH Mv σ := M.ey h ok rfl fun _ _ => by kernel_rfl
theorem U7 (h : AN (Mv + 1) ∧ Jd R IZ G1 Ia Ib Ic Ie Ig Ih Ii Ij Ik Il Jh Im D3 ED Ew Ex Ey E2 E3 E4 m10 JD n14 HG oE jq cw aH (Mv + 1) σ) : M0 R IZ G1 Ia Ib Ic Ie Ig Ih Ii Ij Ik Il Jh Im D3 ED Ew Ex Ey E2 E3 E4 m10 JD n14 HG oE jq cw aH Mv σ := M.ey h ok rfl fun _ _ => by kernel_rfl
theorem qQ (h : AN (Pj + 1) ∧ qP R p3 n3 c3 IZ G1 Ia Ib Ic Ie Ig Ih Ii Ij Ik Il Jh Im D3 ED Ew Ex Ey E2 E3 E4 m10 m12 JD n14 HG p35 n35 uJ Y9 (Pj + 1) σ) : VT R p3 n3 c3 IZ G1 Ia Ib Ic Ie Ig Ih Ii Ij Ik Il Jh Im D3 ED Ew Ex Ey E2 E3 E4 m10 m12 JD n14 HG p35 n35 uJ Y9 Pj σ := M.ey h ok rfl fun _ _ => by kernel_rfl
end AV
namespace Lr
variable {E1 EW x1 : Int}
def M : Fw := ⟨prog, 177, f177, [], [2], false, [], [], []⟩
theorem ok : M.Ok := ⟨AG.nil, mixed, func177, by kernel_rfl⟩
theorem start (h : ∀ b2 : Nat, Br (E1 ≤ x1) (R (.returned (.int .i64 (-1))) σ) (R (.returned (.int .i64 1)) σ)) : Spec prog 177 #[.agg #[.int .i64 E1, .int .u64 EW], .int .i64 x1] σ R := M.start h ok
end Lr
namespace GI
variable {tZ Y8 : ByteArray} {b1 : Nat}
def M : Fw := ⟨prog, 198, f198, [199], [2], false, [], [], []⟩
theorem ok : M.Ok := ⟨.cons call199 (AG.nil), mixed, func198, by kernel_rfl⟩
theorem start (h : ∀ b2 : Nat, LS σ b1 0 fun p4 n4 c4 => Spec prog 199 #[.slice p4 n4 c4, .string tZ] σ (AA R (CB fun t7 y => R (.returned (.bool t7)) y))) : Spec prog 198 #[.agg #[.string tZ, .string Y8], (.pointer (aD b1 0))] σ R := M.start h ok
end GI
namespace Ei
variable {q0 : Option Addr} {s1 : ByteArray}
def M : Fw := ⟨prog, 210, f210, [67, 135, 136], [], false, [], [], [(3, [(0, wQ)])]⟩
theorem ok : M.Ok := ⟨.cons call67 (.cons call135 (.cons call136 (AG.nil))), mixed, func210, by kernel_rfl⟩
def aN := M.pt 0
theorem start (h : Spec prog 136 #[.pointer q0, .int .i64 5, .string s1] σ (AA R (CB fun t6 y => Bn t6 (Spec prog 67 #[.pointer q0] y (AA R (fun z AF => z = (.tuple #[]) ∧ aN R q0 AF))) (aN R q0 y)))) : Spec prog 210 #[.pointer q0, .string s1] σ R := M.start h ok
theorem ON (h : Spec prog 135 #[.pointer q0] σ (AA R (fun z y => ∃ fL Pk fM qE, z = (.agg #[.int .i64 fL, .int .i64 Pk, .string fM, .int .i64 qE]) ∧ R (.returned (.tuple #[])) y))) : aN R q0 σ := M.of h ok rfl
end Ei
namespace Cu
variable {q0 : Option Addr}
def M : Fw := ⟨prog, 212, f212, [95], [], false, [], [], []⟩
theorem ok : M.Ok := ⟨.cons call95 (AG.nil), mixed, func212, by kernel_rfl⟩
theorem start (h : Spec prog 95 #[.pointer q0, (.func (.func 230) #[.pointer q0] #[]), .int .i64 3, .int .i64 4] σ (AA R (fun z y => z = (.tuple #[]) ∧ R (.returned (.tuple #[])) y))) : Spec prog 212 #[.pointer q0] σ R := M.start h ok
end Cu
namespace Ej
variable {TL : Option Addr} {Lo Q6 : Nat} {Y8 s1 : ByteArray}
def M : Fw := ⟨prog, 218, f218, [], [2], false, [], [], []⟩
theorem ok : M.Ok := ⟨AG.nil, mixed, func218, by kernel_rfl⟩
theorem start (h : ∀ b2 : Nat, R (.returned (.bool (!(ByteArray.toList s1 == ByteArray.toList Y8)))) σ) : Spec prog 218 #[.agg #[.slice TL Lo Q6, .string Y8], .string s1] σ R := M.start h ok
end Ej
namespace UF
variable {x0 : Int}
def M : Fw := ⟨prog, 240, f240, [], [], false, [], [], []⟩
theorem ok : M.Ok := ⟨AG.nil, mixed, func240, by kernel_rfl⟩
theorem start (h : Br (x0 = 1) (R (.returned (.bool true)) σ) (Br (x0 = 2) (R (.returned (.bool true)) σ) (Br (x0 = 4) (R (.returned (.bool true)) σ) (R (.returned (.bool (decide (x0 = 8)))) σ)))) : Spec prog 240 #[.int .i64 x0] σ R := M.start h ok
end UF
namespace Ls
def M : Fw := ⟨prog, 263, f263, [182], [], false, [], [], []⟩
theorem ok : M.Ok := ⟨.cons call182 (AG.nil), mixed, func263, by kernel_rfl⟩
theorem start (h : Spec prog 182 #[.int .u64 4604544271217802189] σ (AA R (fun z y => ∃ x2, (Value.float .f64 x2) = z ∧ ∃ x5, YF prog (Op.unary .neg (Value.float .f64 x2)) y (Value.float .f64 x5) ∧ ∃ x6 y6, YF prog (Builtin.complex_ #[51, 51] 272 #[(Value.float .f64 x2), (Value.float .f64 x5)]) y (Value.complex .f64 x6 y6) ∧ ∃ x8, YF prog (Op.unary .neg (Value.float .f64 x2)) y (Value.float .f64 x8) ∧ ∃ x10, YF prog (Op.unary .neg (Value.float .f64 x2)) y (Value.float .f64 x10) ∧ ∃ x11 y11, YF prog (Builtin.complex_ #[51, 51] 272 #[(Value.float .f64 x8), (Value.float .f64 x10)]) y (Value.complex .f64 x11 y11) ∧ ∃ E8, YF prog (Op.unary .neg (Value.float .f64 x2)) y (Value.float .f64 E8) ∧ ∃ x15 y15, YF prog (Builtin.complex_ #[51, 51] 272 #[(Value.float .f64 E8), (Value.float .f64 x2)]) y (Value.complex .f64 x15 y15) ∧ ∃ UC y18, YF prog (Builtin.complex_ #[51, 51] 272 #[(Value.float .f64 x2), (Value.float .f64 x2)]) y (Value.complex .f64 UC y18) ∧ Al y fun CV => R (.returned (.slice (aD CV 0) 8 8)) (Hp.set y CV (.cells #[.complex .f64 4607182418800017408 0, (Value.complex .f64 x6 y6), .complex .f64 0 13830554455654793216, (Value.complex .f64 x11 y11), .complex .f64 13830554455654793216 0, (Value.complex .f64 x15 y15), .complex .f64 0 4607182418800017408, (Value.complex .f64 UC y18)] 272 (0, 0)))))) : Spec prog 263 #[] σ R := M.start h ok
end Ls
end TwW
end
end
section
set_option maxRecDepth 100000
noncomputable section
namespace TwW
open Go Tw Go.Proofs.Tryz
variable [Ev] {R : Rr} {σ : Hp}

namespace UG
variable {v0 : Value}
def M : Fw := ⟨prog, 25, f25, [], [], false, [], [], []⟩
theorem ok : M.Ok := ⟨AG.nil, mixed, func25, by kernel_rfl⟩
theorem start (h : EN prog 45 #[v0] σ (CI .u64 fun x4 y => R (.returned (.int .u64 x4)) y)) : Spec prog 25 #[v0] σ R := M.D2 h ok [(0, .o (.V v0))] rfl rfl (by kernel_rfl)
end UG
namespace UH
variable {p0 p1 : Option Addr} {n0 c0 n1 c1 : Nat}
def M : Fw := ⟨prog, 28, f28, [37, 46], [], false, [], [], []⟩
theorem ok : M.Ok := ⟨.cons call37 (.cons call46 (AG.nil)), mixed, func28, by kernel_rfl⟩
theorem start (h : Spec prog 37 #[.slice p0 n0 c0] σ (AA R (fun z y => ∃ IY w7 ADm, z = (.tuple #[.int .i64 IY, .int .i64 w7, .int .i64 ADm]) ∧ Br (ADm ≠ 0) (R (.returned (.int .i64 220)) y) (Br (IY = 3) (R (.returned (.int .i64 220)) y) (Spec prog 46 #[.slice p1 n1 c1] y (AA R (CI .i64 fun D6 AF => Br (D6 ≠ 0) (R (.returned (.int .i64 224)) AF) (R (.returned (.int .i64 0)) AF)))))))) : Spec prog 28 #[.slice p0 n0 c0, .slice p1 n1 c1] σ R := M.start h ok
end UH
namespace DQ
variable {p0 p5 : Option Addr} {n0 c0 n5 c5 : Nat} {x6 x7 : Int}
def M : Fw := ⟨prog, 46, f46, [52, 68, 69], [4], false, [], [], [(104, [(0, wL), (5, wL), (6, wI), (7, wI)])]⟩
theorem ok : M.Ok := ⟨.cons call52 (.cons call68 (.cons call69 (AG.nil))), mixed, func46, by kernel_rfl⟩
def Hg := M.pt 0
theorem start (h : Hg R p0 n0 c0 p0 n0 c0 (n0 : Int) 0 σ) : Spec prog 46 #[.slice p0 n0 c0] σ R := M.start h ok
theorem Bd (h : Br (x7 < x6) (Pq p5 fun Cd fR => In x7 (n5 : Int) ∧ ∃ Xb Xc Xd ADn ADo ADp, Aq σ Cd (fR + Int.toNat x7 * 2) [.slice Xb Xc Xd, .slice ADn ADo ADp] ∧ ∀ b4 : Nat, Spec prog 68 #[.slice Xb Xc Xd] σ (AA R (CI .i64 fun Y6 y => Br (Y6 ≠ 0) (R (.returned (.int .i64 100)) y) (Spec prog 69 #[.slice ADn ADo ADp] y (AA R (CB fun t19 AF => Bn t19 (R (.returned (.int .i64 100)) AF) (Br (0 < x7) (AN (x7 - 1) ∧ Pq p0 fun XH dB => In (x7 - 1) (n0 : Int) ∧ LS AF XH (dB + Int.toNat (x7 - 1) * 2) fun p31 n31 c31 => Spec prog 52 #[.slice p31 n31 c31, .slice Xb Xc Xd] AF (AA R (CI .i64 fun xQ AH => Br (0 ≤ xQ) (R (.returned (.int .i64 100)) AH) (AN (x7 + 1) ∧ Hg R (aD XH dB) n0 c0 (aD Cd fR) n5 c5 x6 (x7 + 1) AH)))) (AN (x7 + 1) ∧ Hg R p0 n0 c0 (aD Cd fR) n5 c5 x6 (x7 + 1) AF)))))))) (R (.returned (.int .i64 0)) σ)) : Hg R p0 n0 c0 p5 n5 c5 x6 x7 σ := M.of h ok rfl
end DQ
namespace Fh
variable {p0 : Option Addr} {n0 c0 : Nat} {s1 : ByteArray} {x5 : Int}
def M : Fw := ⟨prog, 60, f60, [], [], false, [], [], [(208, [(0, wL), (1, wT), (5, wI)])]⟩
theorem ok : M.Ok := ⟨AG.nil, mixed, func60, by kernel_rfl⟩
def Hi := M.pt 0
theorem start (h : Hi R p0 n0 c0 s1 0 σ) : Spec prog 60 #[.slice p0 n0 c0, .string s1] σ R := M.start h ok
theorem BD (h : Br (x5 < (n0 : Int)) (Pq p0 fun BP P8 => In x5 (n0 : Int) ∧ LT σ BP (P8 + Int.toNat x5 * 1) fun s15 => Bo (ByteArray.toList s15 == ByteArray.toList s1) (R (.returned (.int .i64 x5)) σ) (AN (x5 + 1) ∧ Hi R (aD BP P8) n0 c0 s1 (x5 + 1) σ)) (R (.returned (.int .i64 (-1))) σ)) : Hi R p0 n0 c0 s1 x5 σ := M.of h ok rfl
end Fh
namespace OQ
variable {x0 : Int}
def M : Fw := ⟨prog, 90, f90, [], [], false, [], [], []⟩
theorem ok : M.Ok := ⟨AG.nil, mixed, func90, by kernel_rfl⟩
theorem start (h : Br (48 ≤ x0) (R (.returned (.bool (decide (x0 ≤ 57)))) σ) (R (.returned (.bool false)) σ)) : Spec prog 90 #[.int .u8 x0] σ R := M.start h ok
end OQ
namespace Ab
variable {q0 Dc Dp p2 GU Hj G5 Fz Ew E2 cb : Option Addr} {DY CN DZ Dd C5 CY Fu Fa Hk GB Hl IL Fv Fy D3 ED x17 UC : Int} {Da HH : ByteArray} {De Dg Dh Dq n2 c2 GV GX Hm Hn G6 G7 F0 F2 Ex Ey E3 E4 n16 Ws : Nat} {C6 IM : Bool}
def M : Fw := ⟨prog, 101, f101, [141, 142], [4, 6, 8, 10], false, [(7, 15, false)], [], [(232, [(0, wQ), (4, .X 36 [.I .i64, .I .i64, .T, .L, .I .i64, .I .i64, .I .i64, .L, .B, .I .i64]), (6, .X 93 [.I .i64, .I .u64, .L, .L]), (8, .X 93 [.I .i64, .I .u64, .L, .L]), (16, wL), (17, wI), (18, wI)]), (935, [(0, wQ), (4, .X 36 [.I .i64, .I .i64, .T, .L, .I .i64, .I .i64, .I .i64, .L, .B, .I .i64]), (6, .X 93 [.I .i64, .I .u64, .L, .L]), (8, .X 93 [.I .i64, .I .u64, .L, .L]), (16, wL), (17, wI), (18, wI)])]⟩
theorem ok : M.Ok := ⟨.cons call141 (.cons call142 (AG.nil)), mixed, func101, by kernel_rfl⟩
def A2 := M.pt 0
def La := M.pt 1
theorem start (h : ∀ b4 : Nat, ∀ b6 : Nat, ∀ b8 : Nat, Pq q0 fun BP P8 => LS σ BP P8 fun cb n16 Ws => A2 R (aD BP P8) DY CN Da Dc De Dg DZ Dd C5 Dp Dh Dq C6 CY 0 0 none 0 0 none 0 0 2 0 none 0 0 none 0 0 cb n16 Ws (n16 : Int) 0 σ) : Spec prog 101 #[.pointer q0, .agg #[.int .i64 DY, .int .i64 CN, .string Da, .slice Dc De Dg, .int .i64 DZ, .int .i64 Dd, .int .i64 C5, .slice Dp Dh Dq, .bool C6, .int .i64 CY], .slice p2 n2 c2] σ R := M.start h ok
theorem AY (h : Br (UC < x17) (Pq cb fun XR yF => In UC (n16 : Int) ∧ ∃ yG yH yI ADq ADr ADs, Aq σ XR (yF + Int.toNat UC * 2) [.slice yG yH yI, .slice ADq ADr ADs] ∧ ∀ Cd : Nat, Pq q0 fun LA ZC => LI .i64 σ LA (ZC + 1) fun JU => AN (JU - GB) ∧ AN ((JU - GB) - 300) ∧ LI .i64 σ LA (ZC + 1) fun V4 => AN (V4 - GB) ∧ Spec prog 141 #[.slice ADq ADr ADs, (.int .i64 ((JU - GB) - 300)), (.int .i64 (V4 - GB))] σ (AA R (CS fun p39 n39 c39 y => Br ((n39 : Int) = 0) (La R (aD LA ZC) Fu Fa HH GU GV GX Hk GB Hl Hj Hm Hn IM IL Fv Fy G5 G6 G7 Fz F0 F2 D3 ED Ew Ex Ey E2 E3 E4 (aD XR yF) n16 Ws x17 UC y) (AN ((n39 : Int) - 1) ∧ Pq p39 fun OJ o48 => In (((n39 : Int) - 1)) (n39 : Int) ∧ LI .u64 y OJ ((o48 + Int.toNat ((n39 : Int) - 1) * 2) + 1) fun x50 => Br (x50 = 9218868437227405314) (La R (aD LA ZC) Fu Fa HH GU GV GX Hk GB Hl Hj Hm Hn IM IL Fv Fy G5 G6 G7 Fz F0 F2 D3 ED Ew Ex Ey E2 E3 E4 (aD XR yF) n16 Ws x17 UC y) (Spec prog 142 #[.slice GU GV GX, .slice yG yH yI] y (AA R (CB fun t58 AF => Bn t58 (La R (aD LA ZC) Fu Fa HH GU GV GX Hk GB Hl Hj Hm Hn IM IL Fv Fy G5 G6 G7 Fz F0 F2 D3 ED Ew Ex Ey E2 E3 E4 (aD XR yF) n16 Ws x17 UC AF) (AN ((n39 : Int) - 1) ∧ In (((n39 : Int) - 1)) (n39 : Int) ∧ LI .u64 AF OJ ((o48 + Int.toNat ((n39 : Int) - 1) * 2) + 1) fun x71 => Al AF fun xw => AJ prog (Builtin.append_ #[67, 67] 67 #[.slice Ew Ex Ey, (.slice (aD xw 0) 1 1)]) (Hp.set AF xw (.cells #[.slice yG yH yI, .int .u64 x71] 71 (0, 0))) (CS fun p74 n74 c74 AH => La R (aD LA ZC) Fu Fa HH GU GV GX Hk GB Hl Hj Hm Hn IM IL Fv Fy G5 G6 G7 Fz F0 F2 D3 ED p74 n74 c74 E2 E3 E4 (aD XR yF) n16 Ws x17 UC AH))))))))) (R (.returned (.tuple #[.agg #[.int .i64 D3, .int .u64 ED, .slice Ew Ex Ey, .slice E2 E3 E4], .int .i64 0])) σ)) : A2 R q0 Fu Fa HH GU GV GX Hk GB Hl Hj Hm Hn IM IL Fv Fy G5 G6 G7 Fz F0 F2 D3 ED Ew Ex Ey E2 E3 E4 cb n16 Ws x17 UC σ := M.of3 h ok rfl fun _ _ _ => by kernel_rfl
theorem Ip (h : AN (UC + 1) ∧ A2 R q0 Fu Fa HH GU GV GX Hk GB Hl Hj Hm Hn IM IL Fv Fy G5 G6 G7 Fz F0 F2 D3 ED Ew Ex Ey E2 E3 E4 cb n16 Ws x17 (UC + 1) σ) : La R q0 Fu Fa HH GU GV GX Hk GB Hl Hj Hm Hn IM IL Fv Fy G5 G6 G7 Fz F0 F2 D3 ED Ew Ex Ey E2 E3 E4 cb n16 Ws x17 UC σ := M.of3 h ok rfl fun _ _ _ => by kernel_rfl
end Ab
namespace AQ
variable {q0 Dc Dp p2 GU Hj G5 Fz Ew E2 My aR k0 LD oF : Option Addr} {DY CN DZ Dd C5 CY Fu Fa Hk GB Hl IL Fv Fy D3 ED JJ D6 jw VM : Int} {Da HH : ByteArray} {De Dg Dh Dq n2 c2 GV GX Hm Hn G6 G7 F0 F2 Ex Ey E3 E4 n21 LZ aS aT k8 k9 n11 LF n46 oG : Nat} {C6 IM : Bool}
def M : Fw := ⟨prog, 102, f102, [141, 142, 143], [4, 6, 8, 10, 13], false, [], [], [(232, [(0, wQ), (4, .X 36 [.I .i64, .I .i64, .T, .L, .I .i64, .I .i64, .I .i64, .L, .B, .I .i64]), (6, .X 93 [.I .i64, .I .u64, .L, .L]), (8, .X 93 [.I .i64, .I .u64, .L, .L]), (21, wL), (22, wI), (23, wI)]), (239208, [(0, wQ), (4, .X 36 [.I .i64, .I .i64, .T, .L, .I .i64, .I .i64, .I .i64, .L, .B, .I .i64]), (6, .X 93 [.I .i64, .I .u64, .L, .L]), (8, .X 93 [.I .i64, .I .u64, .L, .L]), (10, .X 40 [.L, .L]), (11, wL), (21, wL), (22, wI), (23, wI), (46, wL), (47, wI), (48, wI)]), (935, [(0, wQ), (4, .X 36 [.I .i64, .I .i64, .T, .L, .I .i64, .I .i64, .I .i64, .L, .B, .I .i64]), (6, .X 93 [.I .i64, .I .u64, .L, .L]), (8, .X 93 [.I .i64, .I .u64, .L, .L]), (21, wL), (22, wI), (23, wI)]), (956839, [(0, wQ), (4, .X 36 [.I .i64, .I .i64, .T, .L, .I .i64, .I .i64, .I .i64, .L, .B, .I .i64]), (6, .X 93 [.I .i64, .I .u64, .L, .L]), (8, .X 93 [.I .i64, .I .u64, .L, .L]), (10, .X 40 [.L, .L]), (11, wL), (21, wL), (22, wI), (23, wI), (46, wL), (47, wI), (48, wI)])]⟩
theorem ok : M.Ok := ⟨.cons call141 (.cons call142 (.cons call143 (AG.nil))), mixed, func102, by kernel_rfl⟩
def A2 := M.pt 0
def TP := M.pt 1
def Lg := M.pt 2
def qR := M.pt 3
theorem start (h : ∀ b4 : Nat, ∀ b6 : Nat, Spec prog 143 #[.int .i64 DZ] σ (AA R (CI .u64 fun x16 y => ∀ b8 : Nat, Pq q0 fun CV V3 => LS y CV V3 fun My n21 LZ => A2 R (aD CV V3) DY CN Da Dc De Dg DZ Dd C5 Dp Dh Dq C6 CY 0 0 none 0 0 none 0 0 3 x16 none 0 0 none 0 0 My n21 LZ (n21 : Int) 0 y))) : Spec prog 102 #[.pointer q0, .agg #[.int .i64 DY, .int .i64 CN, .string Da, .slice Dc De Dg, .int .i64 DZ, .int .i64 Dd, .int .i64 C5, .slice Dp Dh Dq, .bool C6, .int .i64 CY], .slice p2 n2 c2] σ R := M.start h ok
theorem AY (h : Br (D6 < JJ) (Pq My fun LA ZC => In D6 (n21 : Int) ∧ ∃ ADt ADu ADv yJ yK yL, Aq σ LA (ZC + Int.toNat D6 * 2) [.slice ADt ADu ADv, .slice yJ yK yL] ∧ ∀ Cd : Nat, Pq q0 fun fN o30 => LI .i64 σ fN (o30 + 1) fun kN => AN (kN - GB) ∧ AN ((kN - GB) - Hk) ∧ LI .i64 σ fN (o30 + 1) fun W2 => AN (W2 - GB) ∧ Spec prog 141 #[.slice yJ yK yL, (.int .i64 ((kN - GB) - Hk)), (.int .i64 (W2 - GB))] σ (AA R (CS fun oF n46 oG y => TP R (aD fN o30) Fu Fa HH GU GV GX Hk GB Hl Hj Hm Hn IM IL Fv Fy G5 G6 G7 Fz F0 F2 D3 ED Ew Ex Ey E2 E3 E4 ADt ADu ADv yJ yK yL none 0 0 (aD LA ZC) n21 LZ JJ D6 oF n46 oG (n46 : Int) 0 y))) (R (.returned (.tuple #[.agg #[.int .i64 D3, .int .u64 ED, .slice Ew Ex Ey, .slice E2 E3 E4], .int .i64 0])) σ)) : A2 R q0 Fu Fa HH GU GV GX Hk GB Hl Hj Hm Hn IM IL Fv Fy G5 G6 G7 Fz F0 F2 D3 ED Ew Ex Ey E2 E3 E4 My n21 LZ JJ D6 σ := M.of3 h ok rfl fun _ _ _ => by kernel_rfl
theorem QE (h : Br (VM < jw) (Pq oF fun VC o50 => In VM (n46 : Int) ∧ ∃ AJ5 yM, Aq σ VC (o50 + Int.toNat VM * 2) [.int .i64 AJ5, .int .u64 yM] ∧ ∀ DF : Nat, Br (yM ≠ 9218868437227405314) (Al σ fun b58 => AJ prog (Builtin.append_ #[187, 187] 187 #[.slice LD n11 LF, (.slice (aD b58 0) 1 1)]) (Hp.set σ b58 (.cells #[.int .u64 yM] 48 (0, 0))) (CS fun sa n59 sb y => qR R q0 Fu Fa HH GU GV GX Hk GB Hl Hj Hm Hn IM IL Fv Fy G5 G6 G7 Fz F0 F2 D3 ED Ew Ex Ey E2 E3 E4 aR aS aT k0 k8 k9 sa n59 sb My n21 LZ JJ D6 (aD VC o50) n46 oG jw VM y)) (qR R q0 Fu Fa HH GU GV GX Hk GB Hl Hj Hm Hn IM IL Fv Fy G5 G6 G7 Fz F0 F2 D3 ED Ew Ex Ey E2 E3 E4 aR aS aT k0 k8 k9 LD n11 LF My n21 LZ JJ D6 (aD VC o50) n46 oG jw VM σ)) (Br (0 < (n11 : Int)) (Spec prog 142 #[.slice GU GV GX, .slice aR aS aT] σ (AA R (CB fun t69 y => Bo t69 (Al y fun b77 => AJ prog (Builtin.append_ #[91, 91] 91 #[.slice E2 E3 E4, (.slice (aD b77 0) 1 1)]) (Hp.set y b77 (.cells #[.slice aR aS aT, .slice LD n11 LF] 189 (0, 0))) (CS fun oI kP oJ AF => Lg R q0 Fu Fa HH GU GV GX Hk GB Hl Hj Hm Hn IM IL Fv Fy G5 G6 G7 Fz F0 F2 D3 ED Ew Ex Ey oI kP oJ My n21 LZ JJ D6 AF)) (Lg R q0 Fu Fa HH GU GV GX Hk GB Hl Hj Hm Hn IM IL Fv Fy G5 G6 G7 Fz F0 F2 D3 ED Ew Ex Ey E2 E3 E4 My n21 LZ JJ D6 y)))) (Lg R q0 Fu Fa HH GU GV GX Hk GB Hl Hj Hm Hn IM IL Fv Fy G5 G6 G7 Fz F0 F2 D3 ED Ew Ex Ey E2 E3 E4 My n21 LZ JJ D6 σ))) : TP R q0 Fu Fa HH GU GV GX Hk GB Hl Hj Hm Hn IM IL Fv Fy G5 G6 G7 Fz F0 F2 D3 ED Ew Ex Ey E2 E3 E4 aR aS aT k0 k8 k9 LD n11 LF My n21 LZ JJ D6 oF n46 oG jw VM σ := M.of4 h ok rfl fun _ _ _ _ => by kernel_rfl
theorem Is (h : AN (D6 + 1) ∧ A2 R q0 Fu Fa HH GU GV GX Hk GB Hl Hj Hm Hn IM IL Fv Fy G5 G6 G7 Fz F0 F2 D3 ED Ew Ex Ey E2 E3 E4 My n21 LZ JJ (D6 + 1) σ) : Lg R q0 Fu Fa HH GU GV GX Hk GB Hl Hj Hm Hn IM IL Fv Fy G5 G6 G7 Fz F0 F2 D3 ED Ew Ex Ey E2 E3 E4 My n21 LZ JJ D6 σ := M.of3 h ok rfl fun _ _ _ => by kernel_rfl
theorem qS (h : AN (VM + 1) ∧ TP R q0 Fu Fa HH GU GV GX Hk GB Hl Hj Hm Hn IM IL Fv Fy G5 G6 G7 Fz F0 F2 D3 ED Ew Ex Ey E2 E3 E4 aR aS aT k0 k8 k9 LD n11 LF My n21 LZ JJ D6 oF n46 oG jw (VM + 1) σ) : qR R q0 Fu Fa HH GU GV GX Hk GB Hl Hj Hm Hn IM IL Fv Fy G5 G6 G7 Fz F0 F2 D3 ED Ew Ex Ey E2 E3 E4 aR aS aT k0 k8 k9 LD n11 LF My n21 LZ JJ D6 oF n46 oG jw VM σ := M.of4 h ok rfl fun _ _ _ _ => by kernel_rfl
end AQ
namespace Fi
variable {E1 EW Pe Mz Hh JC DY CN DZ Dd C5 CY x7 x8 : Int} {Pf Da : ByteArray} {T5 Q1 Dc Dp p6 : Option Addr} {TJ T6 QB Q2 De Dg Dh Dq n6 c6 : Nat} {MN C6 : Bool}
def M : Fw := ⟨prog, 122, f122, [126], [1], false, [], [], [(104, [(1, .X 36 [.I .i64, .I .i64, .T, .L, .I .i64, .I .i64, .I .i64, .L, .B, .I .i64]), (6, wL), (7, wI), (8, wI)])]⟩
theorem ok : M.Ok := ⟨.cons call126 (AG.nil), mixed, func122, by kernel_rfl⟩
def Hg := M.pt 0
theorem start (h : ∀ b1 : Nat, Hg R E1 EW Pf T5 TJ T6 Pe Mz Hh Q1 QB Q2 MN JC Q1 QB Q2 (QB : Int) 0 σ) : Spec prog 122 #[.agg #[.int .i64 E1, .int .i64 EW, .string Pf, .slice T5 TJ T6, .int .i64 Pe, .int .i64 Mz, .int .i64 Hh, .slice Q1 QB Q2, .bool MN, .int .i64 JC]] σ R := M.start h ok
theorem Bd (h : Br (x8 < x7) (Pq p6 fun Cd fR => In x8 (n6 : Int) ∧ LT σ Cd (fR + Int.toNat x8 * 1) fun s11 => Spec prog 126 #[.string s11] σ (AA R (CB fun t13 y => Bn t13 (R (.returned (.bool false)) y) (AN (x8 + 1) ∧ Hg R DY CN Da Dc De Dg DZ Dd C5 Dp Dh Dq C6 CY (aD Cd fR) n6 c6 x7 (x8 + 1) y)))) (Br ((Dh : Int) = 0) (R (.returned (.bool true)) σ) (R (.returned (.bool (decide (C5 ≠ 0)))) σ))) : Hg R DY CN Da Dc De Dg DZ Dd C5 Dp Dh Dq C6 CY p6 n6 c6 x7 x8 σ := M.iB h ok rfl fun _ => by kernel_rfl
end Fi
namespace DR
variable {E1 EW Pe Mz Hh JC : Int} {Pf : ByteArray} {T5 Q1 p1 : Option Addr} {TJ T6 QB Q2 n1 c1 b2 : Nat} {MN : Bool}
def M : Fw := ⟨prog, 127, f127, [], [3], false, [], [], []⟩
theorem ok : M.Ok := ⟨AG.nil, mixed, func127, by kernel_rfl⟩
theorem start (h : ∀ b3 : Nat, LI .i64 σ b2 0 fun x7 => R (.returned (.tuple #[.int .i64 x7, .int .i64 0])) σ) : Spec prog 127 #[.agg #[.int .i64 E1, .int .i64 EW, .string Pf, .slice T5 TJ T6, .int .i64 Pe, .int .i64 Mz, .int .i64 Hh, .slice Q1 QB Q2, .bool MN, .int .i64 JC], .slice p1 n1 c1, (.pointer (aD b2 0))] σ R := M.start h ok
end DR
namespace ND
variable {x0 : Int}
def M : Fw := ⟨prog, 144, f144, [174, 181, 182], [], false, [], [], []⟩
theorem ok : M.Ok := ⟨.cons call174 (.cons call181 (.cons call182 (AG.nil))), mixed, func144, by kernel_rfl⟩
theorem start (h : Spec prog 182 #[.int .u64 x0] σ (AA R (fun z y => ∃ x4, (Value.float .f64 x4) = z ∧ Spec prog 181 #[(Value.float .f64 x4)] y (AA R (fun z AF => ∃ x5, (Value.float .f64 x5) = z ∧ Spec prog 174 #[(Value.float .f64 x5)] AF (AA R (CI .u64 fun x6 AH => R (.returned (.int .u64 x6)) AH))))))) : Spec prog 144 #[.int .u64 x0] σ R := M.start h ok
end ND
namespace Fj
variable {p0 LD : Option Addr} {n0 c0 n11 LF : Nat} {x3 x12 E8 : Int}
def M : Fw := ⟨prog, 151, f151, [186, 201], [], false, [], [], [(232, [(3, wU), (11, wL), (12, wI), (13, wI)])]⟩
theorem ok : M.Ok := ⟨.cons call186 (.cons call201 (AG.nil)), mixed, func151, by kernel_rfl⟩
def A2 := M.pt 0
theorem start (h : Pq p0 fun b7 o7 => In 0 (n0 : Int) ∧ LI .u64 σ b7 o7 fun x8 => Spec prog 186 #[.int .u64 x8] σ (AA R (CI .u64 fun x9 y => ((0 : Int) ≤ 1 ∧ 1 ≤ (n0 : Int)) ∧ A2 R x9 ((IK (aD b7 o7) (1) c0 1)) (n0 - 1) (c0 - 1) ((((n0 - 1) : Nat) : Int)) 0 y))) : Spec prog 151 #[.slice p0 n0 c0] σ R := M.start h ok
theorem AY (h : Br (E8 < x12) (Pq LD fun b15 o15 => In E8 (n11 : Int) ∧ LI .u64 σ b15 (o15 + Int.toNat E8 * 1) fun x16 => Spec prog 201 #[.int .u64 x3, .int .u64 x16] σ (AA R (CI .u64 fun Dn y => AN (E8 + 1) ∧ A2 R Dn (aD b15 o15) n11 LF x12 (E8 + 1) y))) (R (.returned (.int .u64 x3)) σ)) : A2 R x3 LD n11 LF x12 E8 σ := M.of h ok rfl
end Fj
namespace Gn
variable {p0 : Option Addr} {n0 c0 : Nat}
def M : Fw := ⟨prog, 152, f152, [202], [], false, [], [], []⟩
theorem ok : M.Ok := ⟨.cons call202 (AG.nil), mixed, func152, by kernel_rfl⟩
theorem start (h : Spec prog 202 #[.int .i64 7, .slice p0 n0 c0] σ (AA R (CI .u64 fun x4 y => R (.returned (.int .u64 x4)) y))) : Spec prog 152 #[.slice p0 n0 c0] σ R := M.start h ok
end Gn
namespace O8
variable {E1 EW Pe Mz Hh JC x1 x2 : Int} {Pf : ByteArray} {T5 Q1 : Option Addr} {TJ T6 QB Q2 : Nat} {MN : Bool}
def M : Fw := ⟨prog, 156, f156, [203, 204, 205], [3], false, [], [], []⟩
theorem ok : M.Ok := ⟨.cons call203 (.cons call204 (.cons call205 (AG.nil))), mixed, func156, by kernel_rfl⟩
theorem start (h : ∀ b3 : Nat, Spec prog 203 #[.int .i64 EW, .int .u64 x1, .int .u64 x2] σ (AA R (fun z y => ∃ Qv ADw, z = (.tuple #[.int .u64 Qv, .bool ADw]) ∧ Bo ADw (R (.returned (.tuple #[.int .u64 Qv, .bool true])) y) (Spec prog 204 #[.int .i64 EW, .int .u64 x1, .int .u64 x2] y (AA R (fun z AF => ∃ yN AJ9, z = (.tuple #[.bool yN, .bool AJ9]) ∧ Spec prog 205 #[.bool yN] AF (AA R (CI .u64 fun x31 AH => R (.returned (.tuple #[.int .u64 x31, .bool yN])) AH)))))))) : Spec prog 156 #[.agg #[.int .i64 E1, .int .i64 EW, .string Pf, .slice T5 TJ T6, .int .i64 Pe, .int .i64 Mz, .int .i64 Hh, .slice Q1 QB Q2, .bool MN, .int .i64 JC], .int .u64 x1, .int .u64 x2] σ R := M.start h ok
end O8
namespace Gp
variable {s0 : ByteArray} {x1 : Int}
def M : Fw := ⟨prog, 173, f173, [214, 215], [], false, [], [], []⟩
theorem ok : M.Ok := ⟨.cons call214 (.cons call215 (AG.nil)), mixed, func173, by kernel_rfl⟩
theorem start (h : Spec prog 214 #[.string s0, .int .i64 x1] σ (AA R (fun z y => ∃ fG fH, z = (.tuple #[fG, fH]) ∧ ∃ t15, YF prog ((do eqGuard .neq 214 (.tmp 14) (.const .nilIface) fH .nilIface; binOp .neq 214 fH .nilIface)) y (.bool t15) ∧ Bo t15 (Spec prog 215 #[(.string (ByteArray.mk #[80, 97, 114, 115, 101, 70, 108, 111, 97, 116])), .string s0, .int .i64 0, .int .i64 x1, fH] y (AA R (fun z AF => ∃ v20, v20 = z ∧ R (.returned (.tuple #[fG, v20])) AF))) (R (.returned (.tuple #[fG, .nilIface])) y)))) : Spec prog 173 #[.string s0, .int .i64 x1] σ R := M.start h ok
end Gp
namespace dK
variable {v0 : Value}
def M : Fw := ⟨prog, 174, f174, [216], [], false, [], [], []⟩
theorem ok : M.Ok := ⟨.cons call216 (AG.nil), mixed, func174, by kernel_rfl⟩
theorem start (h : Spec prog 216 #[v0] σ (AA R (CB fun t4 y => Bo t4 (R (.returned (.int .u64 9221120237041090560)) y) (EN prog 45 #[v0] y (CI .u64 fun x6 AF => R (.returned (.int .u64 x6)) AF))))) : Spec prog 174 #[v0] σ R := M.D2 h ok [(0, .o (.V v0))] rfl rfl (by kernel_rfl)
end dK
namespace As
variable {p0 : Option Addr} {n0 c0 : Nat} {x1 x8 x9 x10 : Int} {v2 : Value}
def M : Fw := ⟨prog, 175, f175, [], [], false, [], [], [(480, [(0, wL), (1, wI), (2, wV), (8, wI), (9, wI), (10, wI)])]⟩
theorem ok : M.Ok := ⟨AG.nil, mixed, func175, by kernel_rfl⟩
def CL := M.pt 0
theorem start (h : CL R p0 n0 c0 x1 v2 (n0 : Int) 0 (n0 : Int) σ) : Spec prog 175 #[.slice p0 n0 c0, .int .i64 x1, v2] σ R := M.D2 h ok [(0, .o (.L p0 n0 c0)), (1, .o (.I .i64 x1)), (2, .o (.V v2))] rfl rfl (by kernel_rfl)
theorem BF (h : Br (x9 < x10) (AN (x9 + x10) ∧ Df (IntKind.u64.wrap (x9 + x10)) fun aK => ((0 : Int) ≤ 1 ∧ 1 ≤ ((IntKind.bits .u64 : Nat) : Int)) ∧ Df (aK / 2 ^ Int.toNat 1) fun JJ => Df (IntKind.i64.wrap JJ) fun D6 => Pq p0 fun Wy pX => In D6 (n0 : Int) ∧ ∃ XN Q8, Aq σ Wy (pX + Int.toNat D6 * 2) [.int .i64 XN, .int .u64 Q8] ∧ ∃ (f30 : Nat) (uS uT : Array Value), v2 = .func (.func f30) uS uT ∧ Enters prog f30 ∧ Spec prog f30 (uS ++ #[.agg #[.int .i64 XN, .int .u64 Q8], .int .i64 x1] ++ uT) σ (AA R (CI .i64 fun UA y => Br (UA < 0) (AN (D6 + 1) ∧ CL R (aD Wy pX) n0 c0 x1 v2 x8 (D6 + 1) x10 y) (CL R (aD Wy pX) n0 c0 x1 v2 x8 x9 D6 y)))) (Br (x9 < x8) (Pq p0 fun cd o43 => In x9 (n0 : Int) ∧ ∃ Pm Pn, Aq σ cd (o43 + Int.toNat x9 * 2) [.int .i64 Pm, .int .u64 Pn] ∧ ∃ (f46 : Nat) (uU uV : Array Value), v2 = .func (.func f46) uU uV ∧ Enters prog f46 ∧ Spec prog f46 (uU ++ #[.agg #[.int .i64 Pm, .int .u64 Pn], .int .i64 x1] ++ uV) σ (AA R (CI .i64 fun x46 y => R (.returned (.tuple #[.int .i64 x9, (.bool (decide (x46 = 0)))])) y))) (R (.returned (.tuple #[.int .i64 x9, .bool false])) σ))) : CL R p0 n0 c0 x1 v2 x8 x9 x10 σ := M.of h ok rfl
end As
namespace Xe
variable {x0 x1 : Int}
def M : Fw := ⟨prog, 190, f190, [203], [], false, [], [], []⟩
theorem ok : M.Ok := ⟨.cons call203 (AG.nil), mixed, func190, by kernel_rfl⟩
theorem start (h : Spec prog 203 #[.int .i64 2, .int .u64 x0, .int .u64 x1] σ (AA R (fun z y => ∃ IY Qy, z = (.tuple #[.int .u64 IY, .bool Qy]) ∧ R (.returned (.int .u64 IY)) y))) : Spec prog 190 #[.int .u64 x0, .int .u64 x1] σ R := M.start h ok
end Xe
namespace D7
variable {p0 : Option Addr} {n0 c0 : Nat} {x3 x4 : Int}
def M : Fw := ⟨prog, 192, f192, [190, 201, 204], [], false, [], [], [(464, [(0, wL), (3, wU), (4, wI)]), (467, [(0, wL), (3, wU), (4, wI)])]⟩
theorem ok : M.Ok := ⟨.cons call190 (.cons call201 (.cons call204 (AG.nil))), mixed, func192, by kernel_rfl⟩
def CL := M.pt 0
def W0 := M.pt 1
theorem start (h : AN ((n0 : Int) - 1) ∧ Pq p0 fun BA iI => In (((n0 : Int) - 1)) (n0 : Int) ∧ LI .u64 σ BA (iI + Int.toNat ((n0 : Int) - 1) * 1) fun x12 => In 0 (n0 : Int) ∧ LI .u64 σ BA iI fun x15 => Spec prog 190 #[.int .u64 x12, .int .u64 x15] σ (AA R (CI .u64 fun x16 y => CL R (aD BA iI) n0 c0 x16 1 y))) : Spec prog 192 #[.slice p0 n0 c0] σ R := M.start h ok
theorem BF (h : Br (x4 < (n0 : Int)) (Pq p0 fun lA oL => In x4 (n0 : Int) ∧ LI .u64 σ lA (oL + Int.toNat x4 * 1) fun JU => AN (x4 - 1) ∧ In (x4 - 1) (n0 : Int) ∧ LI .u64 σ lA (oL + Int.toNat (x4 - 1) * 1) fun kN => Spec prog 204 #[.int .i64 7, .int .u64 JU, .int .u64 kN] σ (AA R (fun z y => ∃ ADx kO, z = (.tuple #[.bool ADx, .bool kO]) ∧ Bo ADx (AN (x4 - 1) ∧ In (x4 - 1) (n0 : Int) ∧ LI .u64 y lA (oL + Int.toNat (x4 - 1) * 1) fun W2 => Spec prog 201 #[.int .u64 x3, .int .u64 W2] y (AA R (CI .u64 fun cp AF => W0 R (aD lA oL) n0 c0 cp x4 AF))) (W0 R (aD lA oL) n0 c0 x3 x4 y)))) (R (.returned (.int .u64 x3)) σ)) : CL R p0 n0 c0 x3 x4 σ := M.of h ok rfl
theorem QA (h : AN (x4 + 1) ∧ CL R p0 n0 c0 x3 (x4 + 1) σ) : W0 R p0 n0 c0 x3 x4 σ := M.of h ok rfl
end D7
namespace JK
variable {tZ Y8 : ByteArray} {b1 : Nat}
def M : Fw := ⟨prog, 200, f200, [199], [2], false, [], [], []⟩
theorem ok : M.Ok := ⟨.cons call199 (AG.nil), mixed, func200, by kernel_rfl⟩
theorem start (h : ∀ b2 : Nat, LS σ b1 0 fun p4 n4 c4 => Spec prog 199 #[.slice p4 n4 c4, .string tZ] σ (AA R (CB fun t7 y => R (.returned (.bool (!t7))) y))) : Spec prog 200 #[.agg #[.string tZ, .string Y8], (.pointer (aD b1 0))] σ R := M.start h ok
end JK
namespace Fk
variable {s0 : ByteArray} {x3 : Int}
def M : Fw := ⟨prog, 213, f213, [], [], false, [], [], [(224, [(0, wT), (3, wI)])]⟩
theorem ok : M.Ok := ⟨AG.nil, mixed, func213, by kernel_rfl⟩
def Hi := M.pt 0
theorem start (h : Hi R s0 0 σ) : Spec prog 213 #[.string s0] σ R := M.start h ok
theorem BD (h : Br (x3 < ((ByteArray.size s0 : Nat) : Int)) (∃ u11 : UInt8, 0 ≤ x3 ∧ (ByteArray.data s0)[Int.toNat x3]? = some u11 ∧ Br ((48 : Int) ≤ ((UInt8.toNat u11 : Nat) : Int)) (∃ u17 : UInt8, 0 ≤ x3 ∧ (ByteArray.data s0)[Int.toNat x3]? = some u17 ∧ Br ((((UInt8.toNat u17 : Nat) : Int) : Int) ≤ 57) (AN (x3 + 1) ∧ Hi R s0 (x3 + 1) σ) (R (.returned (.int .i64 x3)) σ)) (R (.returned (.int .i64 x3)) σ)) (R (.returned (.int .i64 x3)) σ)) : Hi R s0 x3 σ := M.of h ok rfl
end Fk
namespace D0
variable {TL : Option Addr} {Lo Q6 : Nat} {Y8 s1 : ByteArray}
def M : Fw := ⟨prog, 220, f220, [236], [2], false, [], [], []⟩
theorem ok : M.Ok := ⟨.cons call236 (AG.nil), mixed, func220, by kernel_rfl⟩
theorem start (h : ∀ b2 : Nat, Spec prog 236 #[.agg #[.slice TL Lo Q6], .string s1] σ (AA R (CB fun t8 y => R (.returned (.bool (!t8))) y))) : Spec prog 220 #[.agg #[.slice TL Lo Q6, .string Y8], .string s1] σ R := M.start h ok
end D0
namespace H6
variable {p0 p5 : Option Addr} {n0 c0 n5 c5 : Nat} {x1 x7 : Int} {v6 : Value}
def M : Fw := ⟨prog, 241, f241, [182, 263], [], false, [], [], [(444, [(0, wL), (1, wI), (5, wL), (6, wV), (7, wI)])]⟩
theorem ok : M.Ok := ⟨.cons call182 (.cons call263 (AG.nil)), mixed, func241, by kernel_rfl⟩
def qT := M.pt 0
theorem start (h : Spec prog 263 #[] σ (AA R (CS fun Y7 n10 TM y => qT R p0 n0 c0 x1 Y7 n10 TM (.complex .f64 0 0) 0 y))) : Spec prog 241 #[.slice p0 n0 c0, .int .i64 x1] σ R := M.start h ok
theorem dL (h : Br (x7 = (n0 : Int)) (R (.returned v6) σ) (Pq p0 fun T8 aF => In x7 (n0 : Int) ∧ LI .u64 σ T8 (aF + Int.toNat x7 * 1) fun Dn => AN (x1 * x7) ∧ (n0 : Int) ≠ (0 : Int) ∧ Df (Int.tmod (x1 * x7) (n0 : Int)) fun JU => (n0 : Int) ≠ (0 : Int) ∧ Df (IntKind.i64.wrap (Int.tdiv 8 (n0 : Int))) fun UA => AN (JU * UA) ∧ Pq p5 fun b32 o32 => In (JU * UA) (n5 : Int) ∧ ∃ x33 y33, Hp.ld σ ⟨b32, (o32 + Int.toNat (JU * UA) * 1), none⟩ = some (Value.complex .f64 x33 y33) ∧ Spec prog 182 #[.int .u64 Dn] σ (AA R (fun z y => ∃ Ha, (Value.float .f64 Ha) = z ∧ Kp [b32] σ y ∧ ∃ V4, YF prog (Builtin.real_ #[272] 51 #[v6]) y (Value.float .f64 V4) ∧ ∃ th, YF prog (Builtin.real_ #[272] 51 #[(Value.complex .f64 x33 y33)]) y (Value.float .f64 th) ∧ AJ prog (binOp .mul 51 (Value.float .f64 Ha) (Value.float .f64 th)) y (fun z AF => ∃ x39, (Value.float .f64 x39) = z ∧ AJ prog (binOp .add 51 (Value.float .f64 V4) (Value.float .f64 x39)) AF (fun z AH => ∃ oH, (Value.float .f64 oH) = z ∧ ∃ W2, YF prog (Builtin.imag_ #[272] 51 #[v6]) AH (Value.float .f64 W2) ∧ ∃ x45, YF prog (Builtin.imag_ #[272] 51 #[(Value.complex .f64 x33 y33)]) AH (Value.float .f64 x45) ∧ AJ prog (binOp .mul 51 (Value.float .f64 Ha) (Value.float .f64 x45)) AH (fun z AZ => ∃ x46, (Value.float .f64 x46) = z ∧ AJ prog (binOp .add 51 (Value.float .f64 W2) (Value.float .f64 x46)) AZ (fun z D4 => ∃ jw, (Value.float .f64 jw) = z ∧ ∃ VM y48, YF prog (Builtin.complex_ #[51, 51] 272 #[(Value.float .f64 oH), (Value.float .f64 jw)]) D4 (Value.complex .f64 VM y48) ∧ AN (x7 + 1) ∧ qT R (aD T8 aF) n0 c0 x1 (aD b32 o32) n5 c5 (Value.complex .f64 VM y48) (x7 + 1) D4)))))))) : qT R p0 n0 c0 x1 p5 n5 c5 v6 x7 σ := M.of h ok rfl
end H6
namespace H7
variable {q0 : Option Addr}
def M : Fw := ⟨prog, 250, f250, [66, 133, 135, 136, 137, 138, 267, 268, 269, 270], [2], false, [], [], []⟩
theorem ok : M.Ok := ⟨.cons call66 (.cons call133 (.cons call135 (.cons call136 (.cons call137 (.cons call138 (.cons call267 (.cons call268 (.cons call269 (.cons call270 (AG.nil)))))))))), mixed, func250, by kernel_rfl⟩
theorem start (h : Spec prog 66 #[.pointer q0] σ (AA R (fun z y => ∃ Ff GY Fg GZ, z = (.agg #[.int .i64 Ff, .int .i64 GY, .string Fg, .int .i64 GZ]) ∧ ∀ b2 : Nat, Spec prog 267 #[] y (AA R (CS fun p8 n8 c8 AF => Spec prog 133 #[.slice p8 n8 c8, .string Fg] AF (AA R (CI .i64 fun x11 AH => Spec prog 268 #[] AH (AA R (CS fun aO n12 ZB AZ => Spec prog 133 #[.slice aO n12 ZB, .string Fg] AZ (AA R (CI .i64 fun x15 D4 => Br (Ff = 1) (Spec prog 135 #[.pointer q0] D4 (AA R (fun z CR => ∃ qG fJ xt xu, z = (.agg #[.int .i64 qG, .int .i64 fJ, .string xt, .int .i64 xu]) ∧ Spec prog 138 #[.pointer q0, .agg #[.int .i64 1, .int .i64 0, .string Fg, .slice none 0 0, .int .i64 0, .int .i64 0, .int .i64 0, .slice none 0 0, .bool false, .int .i64 0]] CR (AA R (fun z EM => z = (.tuple #[]) ∧ R (.returned (.tuple #[])) EM))))) (Spec prog 136 #[.pointer q0, .int .i64 5, (.string (ByteArray.mk #[40]))] D4 (AA R (CB fun t31 CR => Bo t31 (Spec prog 269 #[.pointer q0] CR (AA R (fun z EM => z = (.tuple #[]) ∧ R (.returned (.tuple #[])) EM))) (Br (Ff = 3) (Br (0 < x11) (Spec prog 135 #[.pointer q0] CR (AA R (fun z EM => ∃ OL Lf OM AKD, z = (.agg #[.int .i64 OL, .int .i64 Lf, .string OM, .int .i64 AKD]) ∧ Spec prog 269 #[.pointer q0] EM (AA R (fun z Lc => z = (.tuple #[]) ∧ Spec prog 138 #[.pointer q0, (.agg #[.int .i64 4, .int .i64 x11, (.string (ByteArray.mk #[])), .slice none 0 0, .int .i64 0, .int .i64 0, .int .i64 0, .slice none 0 0, .bool false, .int .i64 1])] Lc (AA R (fun z Q7 => z = (.tuple #[]) ∧ R (.returned (.tuple #[])) Q7))))))) (Br (Ff = 3) (Br (0 < x15) (Spec prog 135 #[.pointer q0] CR (AA R (fun z EM => ∃ U8 Hc yO yP, z = (.agg #[.int .i64 U8, .int .i64 Hc, .string yO, .int .i64 yP]) ∧ Al EM fun b5 => AJ prog (Instr.storeAt 36 (.pointer (aD b5 0)) (.agg #[.int .i64 5, .int .i64 x15, (.string (ByteArray.mk #[])), .slice none 0 0, .int .i64 0, .int .i64 0, .int .i64 0, .slice none 0 0, .bool false, .int .i64 1])) (Hp.set EM b5 (.cells #[.int .i64 0, .int .i64 0, (.string (ByteArray.mk #[])), .slice none 0 0, .int .i64 0, .int .i64 0, .int .i64 0, .slice none 0 0, .bool false, .int .i64 0] 36 (0, 0))) (fun _ Lc => Spec prog 137 #[.pointer q0, (.pointer (aD b5 0)), (.agg #[(.string (ByteArray.mk #[98, 121])), (.string (ByteArray.mk #[119, 105, 116, 104, 111, 117, 116]))]), .agg #[.int .i64 1, .int .i64 2]] Lc (AA R (fun z Q7 => z = (.tuple #[]) ∧ Spec prog 269 #[.pointer q0] Q7 (AA R (fun z Hb => z = (.tuple #[]) ∧ ∃ Xf Xg Xh Xi Xj Xk Xl Xm Xn Xo Xp Xq Xr Xs, Aq Hb b5 0 [.int .i64 Xf, .int .i64 Xg, .string Xh, .slice Xi Xj Xk, .int .i64 Xl, .int .i64 Xm, .int .i64 Xn, .slice Xo Xp Xq, .bool Xr, .int .i64 Xs] ∧ Spec prog 138 #[.pointer q0, .agg #[.int .i64 Xf, .int .i64 Xg, .string Xh, .slice Xi Xj Xk, .int .i64 Xl, .int .i64 Xm, .int .i64 Xn, .slice Xo Xp Xq, .bool Xr, .int .i64 Xs]] Hb (AA R (fun z aB => z = (.tuple #[]) ∧ R (.returned (.tuple #[])) aB)))))))))) (Spec prog 270 #[.pointer q0] CR (AA R (fun z EM => z = (.tuple #[]) ∧ R (.returned (.tuple #[])) EM)))) (Spec prog 270 #[.pointer q0] CR (AA R (fun z EM => z = (.tuple #[]) ∧ R (.returned (.tuple #[])) EM))))) (Br (Ff = 3) (Br (0 < x15) (Spec prog 135 #[.pointer q0] CR (AA R (fun z EM => ∃ U8 Hc yO yP, z = (.agg #[.int .i64 U8, .int .i64 Hc, .string yO, .int .i64 yP]) ∧ Al EM fun b5 => AJ prog (Instr.storeAt 36 (.pointer (aD b5 0)) (.agg #[.int .i64 5, .int .i64 x15, (.string (ByteArray.mk #[])), .slice none 0 0, .int .i64 0, .int .i64 0, .int .i64 0, .slice none 0 0, .bool false, .int .i64 1])) (Hp.set EM b5 (.cells #[.int .i64 0, .int .i64 0, (.string (ByteArray.mk #[])), .slice none 0 0, .int .i64 0, .int .i64 0, .int .i64 0, .slice none 0 0, .bool false, .int .i64 0] 36 (0, 0))) (fun _ Lc => Spec prog 137 #[.pointer q0, (.pointer (aD b5 0)), (.agg #[(.string (ByteArray.mk #[98, 121])), (.string (ByteArray.mk #[119, 105, 116, 104, 111, 117, 116]))]), .agg #[.int .i64 1, .int .i64 2]] Lc (AA R (fun z Q7 => z = (.tuple #[]) ∧ Spec prog 269 #[.pointer q0] Q7 (AA R (fun z Hb => z = (.tuple #[]) ∧ ∃ Xf Xg Xh Xi Xj Xk Xl Xm Xn Xo Xp Xq Xr Xs, Aq Hb b5 0 [.int .i64 Xf, .int .i64 Xg, .string Xh, .slice Xi Xj Xk, .int .i64 Xl, .int .i64 Xm, .int .i64 Xn, .slice Xo Xp Xq, .bool Xr, .int .i64 Xs] ∧ Spec prog 138 #[.pointer q0, .agg #[.int .i64 Xf, .int .i64 Xg, .string Xh, .slice Xi Xj Xk, .int .i64 Xl, .int .i64 Xm, .int .i64 Xn, .slice Xo Xp Xq, .bool Xr, .int .i64 Xs]] Hb (AA R (fun z aB => z = (.tuple #[]) ∧ R (.returned (.tuple #[])) aB)))))))))) (Spec prog 270 #[.pointer q0] CR (AA R (fun z EM => z = (.tuple #[]) ∧ R (.returned (.tuple #[])) EM)))) (Spec prog 270 #[.pointer q0] CR (AA R (fun z EM => z = (.tuple #[]) ∧ R (.returned (.tuple #[])) EM))))))))))))))))))) : Spec prog 250 #[.pointer q0] σ R := M.start h ok
end H7
namespace strings_Index
variable {s0 s1 : ByteArray}
end strings_Index
namespace R8
def M : Fw := ⟨prog, 268, f268, [], [], false, [], [], []⟩
theorem ok : M.Ok := ⟨AG.nil, mixed, func268, by kernel_rfl⟩
theorem start (h : Al σ fun b1 => R (.returned (.slice (aD b1 0) 6 6)) (Hp.set σ b1 (.cells #[(.string (ByteArray.mk #[])), (.string (ByteArray.mk #[115, 117, 109])), (.string (ByteArray.mk #[109, 105, 110])), (.string (ByteArray.mk #[109, 97, 120])), (.string (ByteArray.mk #[97, 118, 103])), (.string (ByteArray.mk #[99, 111, 117, 110, 116]))] 9 (0, 0)))) : Spec prog 268 #[] σ R := M.start h ok
end R8
namespace AE
variable {s0 : ByteArray} {x2 x3 x7 x10 x11 x12 x15 x16 x17 Dn Ha : Int} {t4 t5 t6 t8 t9 t13 t14 : Bool}
def M : Fw := ⟨prog, 272, f272, [302, 303], [], false, [], [], [(110, [(0, wT), (2, wU), (3, wI), (4, wB), (5, wB), (6, wB), (7, wI), (8, wB), (9, wB)]), (1790, [(0, wT), (2, wU), (3, wI), (4, wB), (5, wB), (6, wB), (7, wI), (8, wB), (9, wB), (10, wU), (11, wI), (12, w8)]), (1834976, [(0, wT), (2, wU), (3, wI), (4, wB), (5, wB), (6, wB), (7, wI), (8, wB), (9, wB), (10, wU), (11, wI), (12, w8), (13, wB), (14, wB), (15, wI), (16, wI), (17, wI)]), (458748, [(0, wT), (2, wU), (3, wI), (4, wB), (5, wB), (6, wB), (7, wI), (8, wB), (9, wB), (10, wU), (12, w8), (13, wB), (14, wB), (15, wI), (16, wI), (17, wI)]), (1835004, [(0, wT), (2, wU), (3, wI), (4, wB), (5, wB), (6, wB), (7, wI), (8, wB), (9, wB), (10, wU), (12, w8), (16, wI), (17, wI)]), (3670012, [(0, wT), (2, wU), (3, wI), (4, wB), (5, wB), (6, wB), (7, wI), (8, wB), (9, wB), (10, wU), (12, w8), (16, wI), (17, wI)]), (7340028, [(0, wT), (2, wU), (3, wI), (4, wB), (5, wB), (6, wB), (7, wI), (8, wB), (9, wB), (16, wI), (17, wI)]), (14680060, [(0, wT), (2, wU), (3, wI), (4, wB), (5, wB), (6, wB), (7, wI), (8, wB), (9, wB)]), (469761724, [(0, wT), (2, wU), (3, wI), (4, wB), (5, wB), (6, wB), (7, wI), (8, wB), (9, wB), (16, wI), (17, wI), (19, wI)]), (15032375264, [(0, wT), (2, wU), (3, wI), (4, wB), (5, wB), (6, wB), (7, wI), (8, wB), (9, wB), (16, wI), (17, wI), (19, wI), (20, wI)]), (15032375267, [(0, wT), (2, wU), (3, wI), (4, wB), (5, wB), (6, wB), (7, wI), (8, wB), (9, wB), (16, wI), (17, wI), (19, wI), (20, wI)]), (1834979, [(0, wT), (2, wU), (3, wI), (4, wB), (5, wB), (6, wB), (7, wI), (8, wB), (9, wB), (10, wU), (11, wI), (12, w8), (13, wB), (14, wB), (15, wI), (16, wI), (17, wI)])]⟩
theorem ok : M.Ok := ⟨.cons call302 (.cons call303 (AG.nil)), mixed, func272, by kernel_rfl⟩
def TP := M.pt 0
def Lg := M.pt 1
def lB := M.pt 2
def NF := M.pt 3
def dM := M.pt 4
def lC := M.pt 5
def lD := M.pt 6
def lE := M.pt 7
def lF := M.pt 8
def Fm := M.pt 11
theorem start (h : Br ((((ByteArray.size s0 : Nat) : Int) : Int) ≤ 0) (R (.returned (.tuple #[.int .u64 0, .int .i64 0, .bool false, .bool false, .bool false, .int .i64 0, .bool false])) σ) (∃ u27 : UInt8, (0 : Int) ≤ 0 ∧ (ByteArray.data s0)[Int.toNat 0]? = some u27 ∧ Br ((((UInt8.toNat u27 : Nat) : Int) : Int) = 43) (AN (0 + 1) ∧ TP R s0 0 0 false false false (0 + 1) false false σ) (Br ((((UInt8.toNat u27 : Nat) : Int) : Int) = 45) (AN (0 + 1) ∧ TP R s0 0 0 true false false (0 + 1) false false σ) (TP R s0 0 0 false false false 0 false false σ)))) : Spec prog 272 #[.string s0] σ R := M.start h ok
theorem QE (h : AN (x7 + 2) ∧ Br (((x7 + 2) : Int) < ((ByteArray.size s0 : Nat) : Int)) (∃ u44 : UInt8, 0 ≤ x7 ∧ (ByteArray.data s0)[Int.toNat x7]? = some u44 ∧ Br ((((UInt8.toNat u44 : Nat) : Int) : Int) = 48) (AN (x7 + 1) ∧ ∃ u51 : UInt8, (0 : Int) ≤ (x7 + 1) ∧ (ByteArray.data s0)[Int.toNat (x7 + 1)]? = some u51 ∧ Spec prog 302 #[(.int .u8 ((UInt8.toNat u51 : Nat) : Int))] σ (AA R (CI .u8 fun qB y => Br (qB = 120) (AN (x7 + 2) ∧ Lg R s0 x2 x3 t4 t5 true (x7 + 2) t8 t9 16 16 112 y) (Lg R s0 x2 x3 t4 t5 t6 x7 t8 t9 10 19 101 y)))) (Lg R s0 x2 x3 t4 t5 t6 x7 t8 t9 10 19 101 σ)) (Lg R s0 x2 x3 t4 t5 t6 x7 t8 t9 10 19 101 σ)) : TP R s0 x2 x3 t4 t5 t6 x7 t8 t9 σ := M.of h ok rfl
theorem Is (h : lB R s0 x2 x3 t4 t5 t6 x7 t8 t9 x10 x11 x12 false false 0 0 0 σ) : Lg R s0 x2 x3 t4 t5 t6 x7 t8 t9 x10 x11 x12 σ := M.of h ok rfl
theorem dO (h : Br (x7 < ((ByteArray.size s0 : Nat) : Int)) (∃ ZD : UInt8, 0 ≤ x7 ∧ (ByteArray.data s0)[Int.toNat x7]? = some ZD ∧ Br ((((UInt8.toNat ZD : Nat) : Int) : Int) = 95) (Fm R s0 x2 x3 t4 t5 t6 x7 t8 true x10 x11 x12 t13 t14 x15 x16 x17 σ) (Br ((((UInt8.toNat ZD : Nat) : Int) : Int) = 46) (Bo t13 (NF R s0 x2 x3 t4 t5 t6 x7 t8 t9 x10 x12 true t14 x15 x16 x17 σ) (Fm R s0 x2 x3 t4 t5 t6 x7 t8 t9 x10 x11 x12 true t14 x15 x16 x15 σ)) (Br ((48 : Int) ≤ ((UInt8.toNat ZD : Nat) : Int)) (Br ((((UInt8.toNat ZD : Nat) : Int) : Int) ≤ 57) (Br ((((UInt8.toNat ZD : Nat) : Int) : Int) = 48) (Br (x15 = 0) (AN (x17 - 1) ∧ Fm R s0 x2 x3 t4 t5 t6 x7 t8 t9 x10 x11 x12 t13 true x15 x16 (x17 - 1) σ) (AN (x15 + 1) ∧ Br (x16 < x11) (Df (IntKind.u64.wrap (x2 * x10)) fun x99 => Df (IntKind.u8.wrap (((UInt8.toNat ZD : Nat) : Int) - 48)) fun fS => Df (IntKind.u64.wrap fS) fun fT => Df (IntKind.u64.wrap (x99 + fT)) fun aU => AN (x16 + 1) ∧ Fm R s0 aU x3 t4 t5 t6 x7 t8 t9 x10 x11 x12 t13 true (x15 + 1) (x16 + 1) x17 σ) (Br ((((UInt8.toNat ZD : Nat) : Int) : Int) ≠ 48) (Fm R s0 x2 x3 t4 true t6 x7 t8 t9 x10 x11 x12 t13 true (x15 + 1) x16 x17 σ) (Fm R s0 x2 x3 t4 t5 t6 x7 t8 t9 x10 x11 x12 t13 true (x15 + 1) x16 x17 σ)))) (AN (x15 + 1) ∧ Br (x16 < x11) (Df (IntKind.u64.wrap (x2 * x10)) fun x99 => Df (IntKind.u8.wrap (((UInt8.toNat ZD : Nat) : Int) - 48)) fun fS => Df (IntKind.u64.wrap fS) fun fT => Df (IntKind.u64.wrap (x99 + fT)) fun aU => AN (x16 + 1) ∧ Fm R s0 aU x3 t4 t5 t6 x7 t8 t9 x10 x11 x12 t13 true (x15 + 1) (x16 + 1) x17 σ) (Br ((((UInt8.toNat ZD : Nat) : Int) : Int) ≠ 48) (Fm R s0 x2 x3 t4 true t6 x7 t8 t9 x10 x11 x12 t13 true (x15 + 1) x16 x17 σ) (Fm R s0 x2 x3 t4 t5 t6 x7 t8 t9 x10 x11 x12 t13 true (x15 + 1) x16 x17 σ)))) (Br (x10 = 16) (Spec prog 302 #[(.int .u8 ((UInt8.toNat ZD : Nat) : Int))] σ (AA R (CI .u8 fun yQ y => Br (97 ≤ yQ) (Spec prog 302 #[(.int .u8 ((UInt8.toNat ZD : Nat) : Int))] y (AA R (CI .u8 fun yR AF => Br (yR ≤ 102) (AN (x15 + 1) ∧ Br (x16 < x11) (Df (IntKind.u64.wrap (x2 * 16)) fun yS => Spec prog 302 #[(.int .u8 ((UInt8.toNat ZD : Nat) : Int))] AF (AA R (CI .u8 fun yT AH => Df (IntKind.u8.wrap (yT - 97)) fun yU => Df (IntKind.u8.wrap (yU + 10)) fun yV => Df (IntKind.u64.wrap yV) fun yW => Df (IntKind.u64.wrap (yS + yW)) fun yX => AN (x16 + 1) ∧ Fm R s0 yX x3 t4 t5 t6 x7 t8 t9 x10 x11 x12 t13 true (x15 + 1) (x16 + 1) x17 AH))) (Fm R s0 x2 x3 t4 true t6 x7 t8 t9 x10 x11 x12 t13 true (x15 + 1) x16 x17 AF)) (NF R s0 x2 x3 t4 t5 t6 x7 t8 t9 x10 x12 t13 t14 x15 x16 x17 AF)))) (NF R s0 x2 x3 t4 t5 t6 x7 t8 t9 x10 x12 t13 t14 x15 x16 x17 y)))) (NF R s0 x2 x3 t4 t5 t6 x7 t8 t9 x10 x12 t13 t14 x15 x16 x17 σ))) (Br (x10 = 16) (Spec prog 302 #[(.int .u8 ((UInt8.toNat ZD : Nat) : Int))] σ (AA R (CI .u8 fun yQ y => Br (97 ≤ yQ) (Spec prog 302 #[(.int .u8 ((UInt8.toNat ZD : Nat) : Int))] y (AA R (CI .u8 fun yR AF => Br (yR ≤ 102) (AN (x15 + 1) ∧ Br (x16 < x11) (Df (IntKind.u64.wrap (x2 * 16)) fun yS => Spec prog 302 #[(.int .u8 ((UInt8.toNat ZD : Nat) : Int))] AF (AA R (CI .u8 fun yT AH => Df (IntKind.u8.wrap (yT - 97)) fun yU => Df (IntKind.u8.wrap (yU + 10)) fun yV => Df (IntKind.u64.wrap yV) fun yW => Df (IntKind.u64.wrap (yS + yW)) fun yX => AN (x16 + 1) ∧ Fm R s0 yX x3 t4 t5 t6 x7 t8 t9 x10 x11 x12 t13 true (x15 + 1) (x16 + 1) x17 AH))) (Fm R s0 x2 x3 t4 true t6 x7 t8 t9 x10 x11 x12 t13 true (x15 + 1) x16 x17 AF)) (NF R s0 x2 x3 t4 t5 t6 x7 t8 t9 x10 x12 t13 t14 x15 x16 x17 AF)))) (NF R s0 x2 x3 t4 t5 t6 x7 t8 t9 x10 x12 t13 t14 x15 x16 x17 y)))) (NF R s0 x2 x3 t4 t5 t6 x7 t8 t9 x10 x12 t13 t14 x15 x16 x17 σ))))) (NF R s0 x2 x3 t4 t5 t6 x7 t8 t9 x10 x12 t13 t14 x15 x16 x17 σ)) : lB R s0 x2 x3 t4 t5 t6 x7 t8 t9 x10 x11 x12 t13 t14 x15 x16 x17 σ := M.of h ok rfl
theorem lG (h : Bn t14 (R (.returned (.tuple #[.int .u64 x2, .int .i64 x3, .bool t4, .bool t5, .bool t6, .int .i64 x7, .bool t8])) σ) (Bn t13 (dM R s0 x2 x3 t4 t5 t6 x7 t8 t9 x10 x12 x16 x15 σ) (dM R s0 x2 x3 t4 t5 t6 x7 t8 t9 x10 x12 x16 x17 σ))) : NF R s0 x2 x3 t4 t5 t6 x7 t8 t9 x10 x12 t13 t14 x15 x16 x17 σ := M.of h ok rfl
theorem lH (h : Br (x10 = 16) (AN (x17 * 4) ∧ AN (x16 * 4) ∧ lC R s0 x2 x3 t4 t5 t6 x7 t8 t9 x10 x12 (x16 * 4) (x17 * 4) σ) (lC R s0 x2 x3 t4 t5 t6 x7 t8 t9 x10 x12 x16 x17 σ)) : dM R s0 x2 x3 t4 t5 t6 x7 t8 t9 x10 x12 x16 x17 σ := M.of h ok rfl
theorem lI (h : Br (x7 < ((ByteArray.size s0 : Nat) : Int)) (∃ ADy : UInt8, 0 ≤ x7 ∧ (ByteArray.data s0)[Int.toNat x7]? = some ADy ∧ Spec prog 302 #[(.int .u8 ((UInt8.toNat ADy : Nat) : Int))] σ (AA R (CI .u8 fun AKF y => Br (AKF = x12) (AN (x7 + 1) ∧ Br ((((ByteArray.size s0 : Nat) : Int) : Int) ≤ (x7 + 1)) (R (.returned (.tuple #[.int .u64 x2, .int .i64 x3, .bool t4, .bool t5, .bool t6, (.int .i64 (x7 + 1)), .bool t8])) y) (∃ yY : UInt8, (0 : Int) ≤ (x7 + 1) ∧ (ByteArray.data s0)[Int.toNat (x7 + 1)]? = some yY ∧ Br ((((UInt8.toNat yY : Nat) : Int) : Int) = 43) (AN ((x7 + 1) + 1) ∧ lF R s0 x2 x3 t4 t5 t6 (((x7 + 1) + 1)) t8 t9 x16 x17 1 y) (Br ((((UInt8.toNat yY : Nat) : Int) : Int) = 45) (AN ((x7 + 1) + 1) ∧ lF R s0 x2 x3 t4 t5 t6 (((x7 + 1) + 1)) t8 t9 x16 x17 (-1) y) (lF R s0 x2 x3 t4 t5 t6 (x7 + 1) t8 t9 x16 x17 1 y)))) (Br (x10 = 16) (R (.returned (.tuple #[.int .u64 x2, .int .i64 x3, .bool t4, .bool t5, .bool t6, .int .i64 x7, .bool t8])) y) (lD R s0 x2 x3 t4 t5 t6 x7 t8 t9 x16 x17 y))))) (Br (x10 = 16) (R (.returned (.tuple #[.int .u64 x2, .int .i64 x3, .bool t4, .bool t5, .bool t6, .int .i64 x7, .bool t8])) σ) (lD R s0 x2 x3 t4 t5 t6 x7 t8 t9 x16 x17 σ))) : lC R s0 x2 x3 t4 t5 t6 x7 t8 t9 x10 x12 x16 x17 σ := M.of h ok rfl
theorem lJ (h : Br (x2 ≠ 0) (AN (x17 - x16) ∧ lE R s0 x2 (x17 - x16) t4 t5 t6 x7 t8 t9 σ) (lE R s0 x2 x3 t4 t5 t6 x7 t8 t9 σ)) : lD R s0 x2 x3 t4 t5 t6 x7 t8 t9 x16 x17 σ := M.of h ok rfl
theorem Xt (h : Bo t9 (∃ ADz, YF prog (Instr.sliceAt 9 (.string s0) none (some (.int .i64 x7)) none) σ (.string ADz) ∧ Spec prog 303 #[.string ADz] σ (AA R (CB fun t250 y => Bn t250 (R (.returned (.tuple #[.int .u64 x2, .int .i64 x3, .bool t4, .bool t5, .bool t6, .int .i64 x7, .bool t8])) y) (R (.returned (.tuple #[.int .u64 x2, .int .i64 x3, .bool t4, .bool t5, .bool t6, .int .i64 x7, .bool true])) y)))) (R (.returned (.tuple #[.int .u64 x2, .int .i64 x3, .bool t4, .bool t5, .bool t6, .int .i64 x7, .bool true])) σ)) : lE R s0 x2 x3 t4 t5 t6 x7 t8 t9 σ := M.of h ok rfl
theorem lK (h : AN (x7 + 1) ∧ lB R s0 x2 x3 t4 t5 t6 (x7 + 1) t8 t9 x10 x11 x12 t13 t14 x15 x16 x17 σ) : Fm R s0 x2 x3 t4 t5 t6 x7 t8 t9 x10 x11 x12 t13 t14 x15 x16 x17 σ := M.of h ok rfl
end AE
namespace Gq
variable {s0 : ByteArray} {t4 : Bool}
def M : Fw := ⟨prog, 295, f295, [133, 267, 268], [], false, [], [], [(53, [(0, wT), (4, wB)])]⟩
theorem ok : M.Ok := ⟨.cons call133 (.cons call267 (.cons call268 (AG.nil))), mixed, func295, by kernel_rfl⟩
def Po := M.pt 0
theorem start (h : Bo ((ByteArray.toList s0 == ByteArray.toList (ByteArray.mk #[111, 114]))) (Po R s0 true σ) (Bo ((ByteArray.toList s0 == ByteArray.toList (ByteArray.mk #[97, 110, 100]))) (Po R s0 true σ) (Bo ((ByteArray.toList s0 == ByteArray.toList (ByteArray.mk #[117, 110, 108, 101, 115, 115]))) (Po R s0 true σ) (Bo ((ByteArray.toList s0 == ByteArray.toList (ByteArray.mk #[98, 111, 111, 108]))) (Po R s0 true σ) (Bo ((ByteArray.toList s0 == ByteArray.toList (ByteArray.mk #[111, 110]))) (Po R s0 true σ) (Bo ((ByteArray.toList s0 == ByteArray.toList (ByteArray.mk #[105, 103, 110, 111, 114, 105, 110, 103]))) (Po R s0 true σ) (Bo ((ByteArray.toList s0 == ByteArray.toList (ByteArray.mk #[98, 121]))) (Po R s0 true σ) (Bo ((ByteArray.toList s0 == ByteArray.toList (ByteArray.mk #[119, 105, 116, 104, 111, 117, 116]))) (Po R s0 true σ) (Po R s0 ((ByteArray.toList s0 == ByteArray.toList (ByteArray.mk #[111, 102, 102, 115, 101, 116]))) σ))))))))) : Spec prog 295 #[.string s0] σ R := M.start h ok
theorem qU (h : Bo t4 (R (.returned (.bool true)) σ) (Spec prog 267 #[] σ (AA R (CS fun JD n14 HG y => Spec prog 133 #[.slice JD n14 HG, .string s0] y (AA R (CI .i64 fun x16 AF => Br (0 < x16) (R (.returned (.bool true)) AF) (Spec prog 268 #[] AF (AA R (CS fun p19 n19 c19 AH => Spec prog 133 #[.slice p19 n19 c19, .string s0] AH (AA R (CI .i64 fun aK AZ => R (.returned (.bool (decide (0 < aK)))) AZ))))))))))) : Po R s0 t4 σ := M.of h ok rfl
end Gq
namespace H8
variable {q0 q1 : Option Addr} {qI x3a x3b x3d : Int} {s2b s2c s3c : ByteArray}
def M : Fw := ⟨prog, 296, f296, [80, 97], [6, 7], false, [(1, 10, false)], [], []⟩
theorem ok : M.Ok := ⟨.cons call80 (.cons call97 (AG.nil)), mixed, func296, by kernel_rfl⟩
theorem start (h : ∀ b6 : Nat, ∀ b7 : Nat, Pq q1 fun Cd fR => LS σ Cd (fR + 3) fun aO n12 ZB => Al σ fun BP => AJ prog (Builtin.append_ #[33, 33] 33 #[.slice aO n12 ZB, (.slice (aD BP 0) 1 1)]) (Hp.set σ BP (.cells #[.int .i64 qI, .string s2b, .string s2c] 77 (0, 0))) (CS fun cz n15 W4 y => AJ prog (Instr.storeAt 33 (.pointer (aD Cd (fR + 3))) (.slice cz n15 W4)) y (fun _ AF => LS AF Cd (fR + 3) fun My n21 LZ => Spec prog 80 #[.slice My n21 LZ] AF (AA R (CI .i64 fun JJ AH => Br (JJ ≠ 0) (Spec prog 97 #[.pointer q0, .int .i64 183, .agg #[.int .i64 x3a, .int .i64 x3b, .string s3c, .int .i64 x3d]] AH (AA R (fun z AZ => z = (.tuple #[]) ∧ R (.returned (.tuple #[])) AZ))) (R (.returned (.tuple #[])) AH)))))) : Spec prog 296 #[.pointer q0, .pointer q1, .agg #[.int .i64 qI, .string s2b, .string s2c], .agg #[.int .i64 x3a, .int .i64 x3b, .string s3c, .int .i64 x3d]] σ R := M.start h ok
end H8
end TwW
end
end
section
set_option maxRecDepth 100000
noncomputable section
namespace TwW
open Go Tw Go.Proofs.Tryz
variable [Ev] {R : Rr} {σ : Hp}

namespace UI
variable {x0 : Int}
def M : Fw := ⟨prog, 29, f29, [], [], false, [], [], []⟩
theorem ok : M.Ok := ⟨AG.nil, mixed, func29, by kernel_rfl⟩
theorem start (h : Br (((-1099511627776) : Int) ≤ x0) (R (.returned (.bool (decide (x0 ≤ 1099511627776)))) σ) (R (.returned (.bool false)) σ)) : Spec prog 29 #[.int .i64 x0] σ R := M.start h ok
end UI
namespace CZ
variable {p0 p1 : Option Addr} {n0 c0 n1 c1 : Nat} {x5 : Int}
def M : Fw := ⟨prog, 36, f36, [], [], false, [(6, 9, true)], [], [(464, [(0, wL), (1, wL), (5, wI)])]⟩
theorem ok : M.Ok := ⟨AG.nil, mixed, func36, by kernel_rfl⟩
def DG := M.pt 0
theorem start (h : Br ((n0 : Int) ≠ (n1 : Int)) (R (.returned (.bool false)) σ) (DG R p0 n0 c0 p1 n1 c1 0 σ)) : Spec prog 36 #[.slice p0 n0 c0, .slice p1 n1 c1] σ R := M.start h ok
theorem Cs (h : Br (x5 < (n0 : Int)) (Pq p0 fun CV V3 => In x5 (n0 : Int) ∧ ∃ H4 U9, Aq σ CV (V3 + Int.toNat x5 * 2) [.int .i64 H4, .int .u64 U9] ∧ Pq p1 fun Ns cg => In x5 (n1 : Int) ∧ ∃ fU VR, Aq σ Ns (cg + Int.toNat x5 * 2) [.int .i64 fU, .int .u64 VR] ∧ ∃ t25, YF prog ((do eqGuard .neq 50 (.tmp 20) (.tmp 24) (.agg #[.int .i64 H4, .int .u64 U9]) (.agg #[.int .i64 fU, .int .u64 VR]); binOp .neq 50 (.agg #[.int .i64 H4, .int .u64 U9]) (.agg #[.int .i64 fU, .int .u64 VR]))) σ (.bool t25) ∧ Bo t25 (R (.returned (.bool false)) σ) (AN (x5 + 1) ∧ DG R (aD CV V3) n0 c0 (aD Ns cg) n1 c1 (x5 + 1) σ)) (R (.returned (.bool true)) σ)) : DG R p0 n0 c0 p1 n1 c1 x5 σ := M.of h ok rfl
end CZ
namespace CA
variable {v0 : Value} {b1 b2 b3 : Nat} {x5 : Int}
def M : Fw := ⟨prog, 71, f71, [], [100000], false, [], [], [(48, [(0, wV), (2, wA), (3, wA), (5, wI)])]⟩
theorem ok : M.Ok := ⟨AG.nil, mixed, func71, by kernel_rfl⟩
def aN := M.pt 0
theorem start (h : LI .i64 σ b1 0 fun x6 => aN R v0 b2 b3 x6 σ) : Spec prog 71 #[v0, (.pointer (aD b1 0)), (.pointer (aD b2 0)), (.pointer (aD b3 0))] σ R := M.D2 h ok [(0, .o (.V v0)), (1, .o (.A b1)), (2, .o (.A b2)), (3, .o (.A b3))] rfl rfl (by kernel_rfl)
theorem ON (h : ∃ l9 : Nat, v0 = .func (.yield l9) #[] #[] ∧ Ht prog l9 #[.int .i64 x5] σ (AA R (CB fun t9 y => Bo t9 (LI .i64 y b2 0 fun x11 => LI .i64 y b3 0 fun x12 => AN (x12 - x5) ∧ Br (x11 ≤ (x12 - x5)) (LI .i64 y b2 0 fun UC => AN (x5 + UC) ∧ aN R v0 b2 b3 (x5 + UC) y) (R (.returned (.tuple #[])) y)) (R (.returned (.tuple #[])) y)))) : aN R v0 b2 b3 x5 σ := M.of h ok rfl
end CA
namespace Ek
variable {p0 p3 Y7 : Option Addr} {n0 c0 n3 c3 n10 TM : Nat} {x11 x12 : Int}
def M : Fw := ⟨prog, 72, f72, [107, 108], [5], false, [], [], [(232, [(3, wL), (10, wL), (11, wI), (12, wI)])]⟩
theorem ok : M.Ok := ⟨.cons call107 (.cons call108 (AG.nil)), mixed, func72, by kernel_rfl⟩
def A2 := M.pt 0
theorem start (h : Df (IntKind.u64.wrap (n0 : Int)) fun x8 => Spec prog 107 #[.slice none 0 0, .int .u64 x8] σ (AA R (CS fun p9 n9 c9 y => A2 R p9 n9 c9 p0 n0 c0 (n0 : Int) 0 y))) : Spec prog 72 #[.slice p0 n0 c0] σ R := M.start h ok
theorem AY (h : Br (x12 < x11) (Pq Y7 fun BP P8 => In x12 (n10 : Int) ∧ ∃ AD0 AD1, Aq σ BP (P8 + Int.toNat x12 * 2) [.string AD0, .string AD1] ∧ ∀ b5 : Nat, Spec prog 108 #[.slice p3 n3 c3, .string AD0] σ (AA R (CS fun p19 n19 c19 y => Spec prog 108 #[.slice p19 n19 c19, .string AD1] y (AA R (CS fun T1 n22 S7 AF => AN (x12 + 1) ∧ A2 R T1 n22 S7 (aD BP P8) n10 TM x11 (x12 + 1) AF))))) (R (.returned (.slice p3 n3 c3)) σ)) : A2 R p3 n3 c3 Y7 n10 TM x11 x12 σ := M.of h ok rfl
end Ek
namespace Gr
variable {p0 p6 : Option Addr} {n0 c0 n6 c6 : Nat} {x3 x7 x8 : Int}
def M : Fw := ⟨prog, 77, f77, [], [], false, [], [], [(232, [(3, wI), (6, wL), (7, wI), (8, wI)])]⟩
theorem ok : M.Ok := ⟨AG.nil, mixed, func77, by kernel_rfl⟩
def A2 := M.pt 0
theorem start (h : A2 R 0 p0 n0 c0 (n0 : Int) 0 σ) : Spec prog 77 #[.slice p0 n0 c0] σ R := M.start h ok
theorem AY (h : Br (x8 < x7) (Pq p6 fun Cd fR => In x8 (n6 : Int) ∧ LI .i64 σ Cd (fR + Int.toNat x8 * 1) fun x11 => Br (x11 ≠ x3) (R (.returned (.int .i64 x11)) σ) (AN (x8 + 1) ∧ A2 R x3 (aD Cd fR) n6 c6 x7 (x8 + 1) σ)) (R (.returned (.int .i64 x3)) σ)) : A2 R x3 p6 n6 c6 x7 x8 σ := M.of h ok rfl
end Gr
namespace Em
variable {q0 Dc Dp p2 : Option Addr} {DY CN DZ Dd C5 CY : Int} {Da : ByteArray} {De Dg Dh Dq n2 c2 : Nat} {C6 : Bool}
def M : Fw := ⟨prog, 85, f85, [], [4], false, [], [], []⟩
theorem ok : M.Ok := ⟨AG.nil, mixed, func85, by kernel_rfl⟩
theorem start (h : ∀ b4 : Nat, Pq p2 fun b9 o9 => In 0 (n2 : Int) ∧ LI .i64 σ b9 o9 fun x11 => Br (x11 = 3) (R (.returned (.tuple #[.int .i64 0, .int .i64 191])) σ) (In 0 (n2 : Int) ∧ LI .i64 σ b9 o9 fun x16 => R (.returned (.tuple #[.int .i64 x16, .int .i64 0])) σ)) : Spec prog 85 #[.pointer q0, .agg #[.int .i64 DY, .int .i64 CN, .string Da, .slice Dc De Dg, .int .i64 DZ, .int .i64 Dd, .int .i64 C5, .slice Dp Dh Dq, .bool C6, .int .i64 CY], .slice p2 n2 c2] σ R := M.start h ok
end Em
namespace R9
variable {s0 : ByteArray}
def M : Fw := ⟨prog, 94, f94, [131, 132], [], false, [], [], []⟩
theorem ok : M.Ok := ⟨.cons call131 (.cons call132 (AG.nil)), mixed, func94, by kernel_rfl⟩
theorem start (h : Spec prog 131 #[.string s0] σ (AA R (CI .i64 fun x6 y => Br (x6 = 0) (R (.returned (.bool false)) y) (∃ s12, YF prog (Instr.sliceAt 9 (.string s0) none (some (.int .i64 x6)) none) y (.string s12) ∧ Spec prog 132 #[.string s12] y (AA R (CB fun t13 AF => Bo t13 (R (.returned (.bool false)) AF) (Br (x6 = ((ByteArray.size s0 : Nat) : Int)) (R (.returned (.bool (decide (x6 ≤ 15)))) AF) (AN (x6 + 1) ∧ ∃ s24, YF prog (Instr.sliceAt 9 (.string s0) (some (.int .i64 (x6 + 1))) none none) AF (.string s24) ∧ Spec prog 131 #[.string s24] AF (AA R (CI .i64 fun S8 AH => ∃ u28 : UInt8, 0 ≤ x6 ∧ (ByteArray.data s0)[Int.toNat x6]? = some u28 ∧ Br ((((UInt8.toNat u28 : Nat) : Int) : Int) = 46) (Br (0 < S8) (AN (x6 + 1) ∧ AN ((x6 + 1) + S8) ∧ Br ((((x6 + 1) + S8) : Int) = ((ByteArray.size s0 : Nat) : Int)) (AN (x6 + S8) ∧ R (.returned (.bool (decide (((x6 + S8) : Int) ≤ 15)))) AH) (R (.returned (.bool false)) AH)) (R (.returned (.bool false)) AH)) (R (.returned (.bool false)) AH))))))))))) : Spec prog 94 #[.string s0] σ R := M.start h ok
end R9
namespace AO
variable {q0 Dc Dp p2 GU Hj G5 Fz p9 T1 cz p79 Xb aO q13 : Option Addr} {DY CN DZ Dd C5 CY Fu Fa Hk GB Hl IL Fv Fy D6 JA x80 x81 Pk : Int} {Da HH : ByteArray} {De Dg Dh Dq n2 c2 GV GX Hm Hn G6 G7 F0 F2 n9 c9 n22 S7 n15 W4 n79 c79 Xc Xd n12 ZB : Nat} {C6 IM : Bool} {m8 : Option Nat} {oM : Value}
def M : Fw := ⟨prog, 104, f104, [49, 146, 148, 149, 150], [4, 6, 11], false, [(17, 11, false)], [], [(488, [(4, .X 36 [.I .i64, .I .i64, .T, .L, .I .i64, .I .i64, .I .i64, .L, .B, .I .i64]), (6, .X 93 [.I .i64, .I .u64, .L, .L]), (8, wM), (9, wL), (22, wL), (23, wI), (24, wI)]), (4072, [(6, .X 93 [.I .i64, .I .u64, .L, .L]), (14, wV), (15, wL), (79, wL), (80, wI), (81, wI)]), (62670, [(4, .X 36 [.I .i64, .I .i64, .T, .L, .I .i64, .I .i64, .I .i64, .L, .B, .I .i64]), (6, .X 93 [.I .i64, .I .u64, .L, .L]), (8, wM), (9, wL), (11, .X 71 [.L, .I .u64]), (12, wL), (22, wL), (23, wI), (24, wI)]), (125343, [(4, .X 36 [.I .i64, .I .i64, .T, .L, .I .i64, .I .i64, .I .i64, .L, .B, .I .i64]), (6, .X 93 [.I .i64, .I .u64, .L, .L]), (8, wM), (9, wL), (11, .X 71 [.L, .I .u64]), (13, wQ), (22, wL), (23, wI), (24, wI)])]⟩
theorem ok : M.Ok := ⟨.cons call49 (.cons call146 (.cons call148 (.cons call149 (.cons call150 (AG.nil))))), mixed, func104, by kernel_rfl⟩
def E5 := M.pt 0
def qV := M.pt 1
def Jd := M.pt 2
def lL := M.pt 3
theorem start (h : ∀ b4 : Nat, ∀ b6 : Nat, AJ prog (Instr.makeMap 197 none) σ (fun z y => ∃ m18, z = (.map (some m18)) ∧ Pq p2 fun XR yF => In 0 (n2 : Int) ∧ LS y XR (yF + 2) fun T1 n22 S7 => E5 R DY CN Da Dc De Dg DZ Dd C5 Dp Dh Dq C6 CY 0 0 none 0 0 none 0 0 (some m18) none 0 0 T1 n22 S7 (n22 : Int) 0 y)) : Spec prog 104 #[.pointer q0, .agg #[.int .i64 DY, .int .i64 CN, .string Da, .slice Dc De Dg, .int .i64 DZ, .int .i64 Dd, .int .i64 C5, .slice Dp Dh Dq, .bool C6, .int .i64 CY], .slice p2 n2 c2] σ R := M.start h ok
theorem FT (h : Br (JA < D6) (Pq T1 fun lA oL => In JA (n22 : Int) ∧ ∃ MQ Ld MR XG, Aq σ lA (oL + Int.toNat JA * 2) [.slice MQ Ld MR, .int .u64 XG] ∧ ∀ BA : Nat, Br (Hl = 1) (Spec prog 149 #[.slice MQ Ld MR, .slice Hj Hm Hn] σ (AA R (CS fun p36 n36 c36 y => Jd R Fu Fa HH GU GV GX Hk GB Hl Hj Hm Hn IM IL Fv Fy G5 G6 G7 Fz F0 F2 m8 p9 n9 c9 MQ Ld MR XG p36 n36 c36 (aD lA oL) n22 S7 D6 JA y))) (Br (Hl = 2) (Spec prog 150 #[.slice MQ Ld MR, .slice Hj Hm Hn] σ (AA R (CS fun iJ n43 iK y => Spec prog 146 #[.slice iJ n43 iK] y (AA R (CS fun xF n44 xG AF => Jd R Fu Fa HH GU GV GX Hk GB Hl Hj Hm Hn IM IL Fv Fy G5 G6 G7 Fz F0 F2 m8 p9 n9 c9 MQ Ld MR XG xF n44 xG (aD lA oL) n22 S7 D6 JA AF))))) (Jd R Fu Fa HH GU GV GX Hk GB Hl Hj Hm Hn IM IL Fv Fy G5 G6 G7 Fz F0 F2 m8 p9 n9 c9 MQ Ld MR XG none 0 0 (aD lA oL) n22 S7 D6 JA σ))) (AJ prog (Instr.makeMap 202 none) σ (fun z y => ∃ Z5, z = (.map (some Z5)) ∧ AJ prog (Instr.mapUpdate 202 (.map (some Z5)) (.int .i64 1) (.func (.func 151) #[] #[])) y (fun _ AF => AJ prog (Instr.mapUpdate 202 (.map (some Z5)) (.int .i64 2) (.func (.func 152) #[] #[])) AF (fun _ AH => AJ prog (Instr.mapUpdate 202 (.map (some Z5)) (.int .i64 3) (.func (.func 153) #[] #[])) AH (fun _ AZ => AJ prog (Instr.mapUpdate 202 (.map (some Z5)) (.int .i64 4) (.func (.func 154) #[] #[])) AZ (fun _ D4 => AJ prog (Instr.mapUpdate 202 (.map (some Z5)) (.int .i64 5) (.func (.func 155) #[] #[])) D4 (fun _ CR => AJ prog (Instr.lookup 202 (.map (some Z5)) (.int .i64 Fa) false) CR (fun z EM => ∃ v78, v78 = z ∧ qV R Fv Fy G5 G6 G7 Fz F0 F2 v78 none 0 0 p9 n9 c9 (n9 : Int) 0 EM))))))))) : E5 R Fu Fa HH GU GV GX Hk GB Hl Hj Hm Hn IM IL Fv Fy G5 G6 G7 Fz F0 F2 m8 p9 n9 c9 T1 n22 S7 D6 JA σ := M.ey h ok rfl fun _ _ => by kernel_rfl
theorem dP (h : Br (x81 < x80) (Pq p79 fun b83 o83 => In x81 (n79 : Int) ∧ LQ σ b83 (o83 + Int.toNat x81 * 1) fun q84 => Pq q84 fun b87 o87 => LS σ b87 o87 fun p89 n89 c89 => LS σ b87 (o87 + 1) fun pP pQ pR => ∃ (f95 : Nat) (Xu Xv : Array Value), oM = .func (.func f95) Xu Xv ∧ Enters prog f95 ∧ Spec prog f95 (Xu ++ #[.slice pP pQ pR] ++ Xv) σ (AA R (CI .u64 fun x95 y => Kp [b87] σ y ∧ Al y fun b97 => AJ prog (Builtin.append_ #[67, 67] 67 #[.slice cz n15 W4, (.slice (aD b97 0) 1 1)]) (Hp.set y b97 (.cells #[.slice p89 n89 c89, .int .u64 x95] 71 (0, 0))) (CS fun p98 n98 c98 AF => AN (x81 + 1) ∧ qV R Fv Fy G5 G6 G7 Fz F0 F2 oM p98 n98 c98 (aD b83 o83) n79 c79 x80 (x81 + 1) AF)))) (Spec prog 148 #[.slice cz n15 W4] σ (AA R (fun z y => ∃ lM lN lO lP lQ lR lS lT uW, z = (.tuple #[.agg #[.int .i64 lM, .int .u64 lN, .slice lO lP lQ, .slice lR lS lT], .int .i64 uW]) ∧ R (.returned (.tuple #[.agg #[.int .i64 lM, .int .u64 lN, .slice lO lP lQ, .slice lR lS lT], .int .i64 uW])) y)))) : qV R Fv Fy G5 G6 G7 Fz F0 F2 oM cz n15 W4 p79 n79 c79 x80 x81 σ := M.iB h ok rfl fun _ => by kernel_rfl
theorem LC (h : Spec prog 49 #[.slice aO n12 ZB] σ (AA R (CT fun s47 y => AJ prog (Instr.lookup 197 (.map m8) (.string s47) false) y (CQ fun q48 AF => Bo (Option.isNone q48) (Al AF fun OK => Spec prog 49 #[.slice aO n12 ZB] (Hp.set AF OK (.cells #[.slice aO n12 ZB, .slice none 0 0] 189 (0, 0))) (AA R (CT fun s56 AH => AJ prog (Instr.mapUpdate 197 (.map m8) (.string s56) (.pointer (aD OK 0))) AH (fun _ AZ => Al AZ fun b60 => AJ prog (Builtin.append_ #[198, 198] 198 #[.slice p9 n9 c9, (.slice (aD b60 0) 1 1)]) (Hp.set AZ b60 (.cells #[(.pointer (aD OK 0))] 200 (0, 0))) (CS fun p61 n61 c61 D4 => lL R Fu Fa HH GU GV GX Hk GB Hl Hj Hm Hn IM IL Fv Fy G5 G6 G7 Fz F0 F2 m8 p61 n61 c61 Xb Xc Xd Pk (aD OK 0) T1 n22 S7 D6 JA D4))))) (lL R Fu Fa HH GU GV GX Hk GB Hl Hj Hm Hn IM IL Fv Fy G5 G6 G7 Fz F0 F2 m8 p9 n9 c9 Xb Xc Xd Pk q48 T1 n22 S7 D6 JA AF))))) : Jd R Fu Fa HH GU GV GX Hk GB Hl Hj Hm Hn IM IL Fv Fy G5 G6 G7 Fz F0 F2 m8 p9 n9 c9 Xb Xc Xd Pk aO n12 ZB T1 n22 S7 D6 JA σ := M.of3 h ok rfl fun _ _ _ => by kernel_rfl
theorem qW (h : Pq q13 fun b64 o64 => LS σ b64 (o64 + 1) fun oE jq cw => Al σ fun b69 => AJ prog (Builtin.append_ #[187, 187] 187 #[.slice oE jq cw, (.slice (aD b69 0) 1 1)]) (Hp.set σ b69 (.cells #[.int .u64 Pk] 48 (0, 0))) (CS fun p70 n70 c70 y => AJ prog (Instr.storeAt 187 (.pointer (aD b64 (o64 + 1))) (.slice p70 n70 c70)) y (fun _ AF => AN (JA + 1) ∧ E5 R Fu Fa HH GU GV GX Hk GB Hl Hj Hm Hn IM IL Fv Fy G5 G6 G7 Fz F0 F2 m8 p9 n9 c9 T1 n22 S7 D6 (JA + 1) AF))) : lL R Fu Fa HH GU GV GX Hk GB Hl Hj Hm Hn IM IL Fv Fy G5 G6 G7 Fz F0 F2 m8 p9 n9 c9 Xb Xc Xd Pk q13 T1 n22 S7 D6 JA σ := M.of3 h ok rfl fun _ _ _ => by kernel_rfl
end AO
namespace SA
variable {E1 EW Pe Mz Hh JC : Int} {Pf : ByteArray} {T5 Q1 : Option Addr} {TJ T6 QB Q2 : Nat} {MN : Bool}
def M : Fw := ⟨prog, 121, f121, [], [1, 2], false, [(12, 7, false), (15, 7, false), (18, 11, false), (21, 15, false)], [], []⟩
theorem ok : M.Ok := ⟨AG.nil, mixed, func121, by kernel_rfl⟩
theorem start (h : ∀ b1 : Nat, ∀ b2 : Nat, Al σ fun b3 => AJ prog (Instr.storeAt 36 (.pointer (aD b3 0)) (.agg #[.int .i64 E1, .int .i64 0, (.string (ByteArray.mk #[])), .slice none 0 0, .int .i64 0, .int .i64 0, .int .i64 0, .slice none 0 0, .bool false, .int .i64 0])) (Hp.set σ b3 (.cells #[.int .i64 0, .int .i64 0, (.string (ByteArray.mk #[])), .slice none 0 0, .int .i64 0, .int .i64 0, .int .i64 0, .slice none 0 0, .bool false, .int .i64 0] 36 (0, 0))) (fun _ y => Br (E1 = 1) (AJ prog (Instr.storeAt 9 (.pointer (aD b3 2)) (.string Pf)) y (fun _ AF => ∃ XT aP aQ lU lV lW lX lY lZ la lf lg lh lj, Aq AF b3 0 [.int .i64 XT, .int .i64 aP, .string aQ, .slice lU lV lW, .int .i64 lX, .int .i64 lY, .int .i64 lZ, .slice la lf lg, .bool lh, .int .i64 lj] ∧ R (.returned (.agg #[.int .i64 XT, .int .i64 aP, .string aQ, .slice lU lV lW, .int .i64 lX, .int .i64 lY, .int .i64 lZ, .slice la lf lg, .bool lh, .int .i64 lj])) AF)) (Br (E1 = 2) (AJ prog (Instr.storeAt 2 (.pointer (aD b3 5)) (.int .i64 Mz)) y (fun _ AF => ∃ fU VR AD6 AD7 AD8 AD9 AEA AEB AEC AED AEE AEF AEG AEH, Aq AF b3 0 [.int .i64 fU, .int .i64 VR, .string AD6, .slice AD7 AD8 AD9, .int .i64 AEA, .int .i64 AEB, .int .i64 AEC, .slice AED AEE AEF, .bool AEG, .int .i64 AEH] ∧ R (.returned (.agg #[.int .i64 fU, .int .i64 VR, .string AD6, .slice AD7 AD8 AD9, .int .i64 AEA, .int .i64 AEB, .int .i64 AEC, .slice AED AEE AEF, .bool AEG, .int .i64 AEH])) AF)) (Br (E1 = 3) (AJ prog (Instr.storeAt 2 (.pointer (aD b3 4)) (.int .i64 Pe)) y (fun _ AF => AJ prog (Instr.storeAt 2 (.pointer (aD b3 5)) (.int .i64 Mz)) AF (fun _ AH => ∃ XO AEI AEJ AEK AEL AEM AEN AEO AEP AEQ AER AES AET AEU, Aq AH b3 0 [.int .i64 XO, .int .i64 AEI, .string AEJ, .slice AEK AEL AEM, .int .i64 AEN, .int .i64 AEO, .int .i64 AEP, .slice AEQ AER AES, .bool AET, .int .i64 AEU] ∧ R (.returned (.agg #[.int .i64 XO, .int .i64 AEI, .string AEJ, .slice AEK AEL AEM, .int .i64 AEN, .int .i64 AEO, .int .i64 AEP, .slice AEQ AER AES, .bool AET, .int .i64 AEU])) AH))) (Br (E1 = 4) (AJ prog (Instr.storeAt 3 (.pointer (aD b3 1)) (.int .i64 EW)) y (fun _ AF => AJ prog (Instr.storeAt 3 (.pointer (aD b3 9)) (.int .i64 JC)) AF (fun _ AH => ∃ AEV AEW AEX AEY AEZ AEa AEb AEc AEd AEe AEf AEg AEh AEi, Aq AH b3 0 [.int .i64 AEV, .int .i64 AEW, .string AEX, .slice AEY AEZ AEa, .int .i64 AEb, .int .i64 AEc, .int .i64 AEd, .slice AEe AEf AEg, .bool AEh, .int .i64 AEi] ∧ R (.returned (.agg #[.int .i64 AEV, .int .i64 AEW, .string AEX, .slice AEY AEZ AEa, .int .i64 AEb, .int .i64 AEc, .int .i64 AEd, .slice AEe AEf AEg, .bool AEh, .int .i64 AEi])) AH))) (Br (E1 = 5) (AJ prog (Instr.storeAt 3 (.pointer (aD b3 1)) (.int .i64 EW)) y (fun _ AF => AJ prog (Instr.storeAt 3 (.pointer (aD b3 9)) (.int .i64 JC)) AF (fun _ AH => AJ prog (Instr.storeAt 3 (.pointer (aD b3 6)) (.int .i64 Hh)) AH (fun _ AZ => ∃ XI XJ kV XK XL XM kW kX kY kZ ka kc ke kg, Aq AZ b3 0 [.int .i64 XI, .int .i64 XJ, .string kV, .slice XK XL XM, .int .i64 kW, .int .i64 kX, .int .i64 kY, .slice kZ ka kc, .bool ke, .int .i64 kg] ∧ R (.returned (.agg #[.int .i64 XI, .int .i64 XJ, .string kV, .slice XK XL XM, .int .i64 kW, .int .i64 kX, .int .i64 kY, .slice kZ ka kc, .bool ke, .int .i64 kg])) AZ)))) (Br (E1 = 6) (AJ prog (Instr.storeAt 3 (.pointer (aD b3 1)) (.int .i64 EW)) y (fun _ AF => AJ prog (Instr.storeAt 3 (.pointer (aD b3 9)) (.int .i64 JC)) AF (fun _ AH => AJ prog (Instr.storeAt 4 (.pointer (aD b3 8)) (.bool MN)) AH (fun _ AZ => AJ prog (Instr.storeAt 3 (.pointer (aD b3 6)) (.int .i64 Hh)) AZ (fun _ D4 => ∃ Xf Xg Xh Xi Xj Xk Xl Xm Xn Xo Xp Xq Xr Xs, Aq D4 b3 0 [.int .i64 Xf, .int .i64 Xg, .string Xh, .slice Xi Xj Xk, .int .i64 Xl, .int .i64 Xm, .int .i64 Xn, .slice Xo Xp Xq, .bool Xr, .int .i64 Xs] ∧ R (.returned (.agg #[.int .i64 Xf, .int .i64 Xg, .string Xh, .slice Xi Xj Xk, .int .i64 Xl, .int .i64 Xm, .int .i64 Xn, .slice Xo Xp Xq, .bool Xr, .int .i64 Xs])) D4))))) (AJ prog (Instr.storeAt 3 (.pointer (aD b3 9)) (.int .i64 JC)) y (fun _ AF => ∃ AEj kU AEk AEl AEm AEn AEo AEp AEq AEr AEs AEt AEu AEv, Aq AF b3 0 [.int .i64 AEj, .int .i64 kU, .string AEk, .slice AEl AEm AEn, .int .i64 AEo, .int .i64 AEp, .int .i64 AEq, .slice AEr AEs AEt, .bool AEu, .int .i64 AEv] ∧ R (.returned (.agg #[.int .i64 AEj, .int .i64 kU, .string AEk, .slice AEl AEm AEn, .int .i64 AEo, .int .i64 AEp, .int .i64 AEq, .slice AEr AEs AEt, .bool AEu, .int .i64 AEv])) AF))))))))) : Spec prog 121 #[.agg #[.int .i64 E1, .int .i64 EW, .string Pf, .slice T5 TJ T6, .int .i64 Pe, .int .i64 Mz, .int .i64 Hh, .slice Q1 QB Q2, .bool MN, .int .i64 JC]] σ R := M.start h ok
end SA
namespace DS
variable {p0 p7 : Option Addr} {n0 c0 n7 c7 : Nat} {s1 : ByteArray} {x8 x9 : Int}
def M : Fw := ⟨prog, 133, f133, [], [], false, [], [], [(104, [(1, wT), (7, wL), (8, wI), (9, wI)])]⟩
theorem ok : M.Ok := ⟨AG.nil, mixed, func133, by kernel_rfl⟩
def Hg := M.pt 0
theorem start (h : Hg R s1 p0 n0 c0 (n0 : Int) 0 σ) : Spec prog 133 #[.slice p0 n0 c0, .string s1] σ R := M.start h ok
theorem Bd (h : Br (x9 < x8) (Pq p7 fun O0 Pd => In x9 (n7 : Int) ∧ LT σ O0 (Pd + Int.toNat x9 * 1) fun wz => Bo (ByteArray.toList wz == ByteArray.toList s1) (Bn ((ByteArray.toList s1 == ByteArray.toList (ByteArray.mk #[]))) (R (.returned (.int .i64 x9)) σ) (AN (x9 + 1) ∧ Hg R s1 (aD O0 Pd) n7 c7 x8 (x9 + 1) σ)) (AN (x9 + 1) ∧ Hg R s1 (aD O0 Pd) n7 c7 x8 (x9 + 1) σ)) (R (.returned (.int .i64 0)) σ)) : Hg R s1 p7 n7 c7 x8 x9 σ := M.of h ok rfl
end DS
namespace JL
variable {q0 : Option Addr}
def M : Fw := ⟨prog, 135, f135, [], [2, 3], false, [], [], []⟩
theorem ok : M.Ok := ⟨AG.nil, mixed, func135, by kernel_rfl⟩
theorem start (h : ∀ b2 : Nat, Pq q0 fun b5 o5 => LS σ b5 o5 fun p7 n7 c7 => Pq p7 fun b8 o8 => In 0 (n7 : Int) ∧ ∃ x9a x9b s9c x9d, Aq σ b8 o8 [.int .i64 x9a, .int .i64 x9b, .string s9c, .int .i64 x9d] ∧ ∀ b3 : Nat, LS σ b5 o5 fun JD n14 HG => ((0 : Int) ≤ 1 ∧ 1 ≤ (n14 : Int)) ∧ AJ prog (Instr.storeAt 121 (.pointer (aD b5 o5)) (.slice (IK JD (1) HG 4) (n14 - 1) (HG - 1))) σ (fun _ y => R (.returned (.agg #[.int .i64 x9a, .int .i64 x9b, .string s9c, .int .i64 x9d])) y)) : Spec prog 135 #[.pointer q0] σ R := M.start h ok
end JL
namespace SB
variable {x0 : Int}
def M : Fw := ⟨prog, 143, f143, [], [], false, [], [], []⟩
theorem ok : M.Ok := ⟨AG.nil, mixed, func143, by kernel_rfl⟩
theorem start (h : AJ prog (convert 2 51 (.int .i64 x0)) σ (fun z y => ∃ x4, (Value.float .f64 x4) = z ∧ EN prog 45 #[(Value.float .f64 x4)] y (CI .u64 fun x5 AF => R (.returned (.int .u64 x5)) AF))) : Spec prog 143 #[.int .i64 x0] σ R := M.start h ok
end SB
namespace Kf
def M : Fw := ⟨prog, 147, f147, [184, 188], [], false, [], [], []⟩
theorem ok : M.Ok := ⟨.cons call184 (.cons call188 (AG.nil)), mixed, func147, by kernel_rfl⟩
theorem start (h : Spec prog 184 #[(.func (.func 151) #[] #[])] σ (AA R (fun z y => ∃ f1 a1 c1, (Value.func f1 a1 c1) = z ∧ Spec prog 184 #[(.func (.func 154) #[] #[])] y (AA R (fun z AF => ∃ f2 a2 c2, (Value.func f2 a2 c2) = z ∧ Spec prog 184 #[(.func (.func 152) #[] #[])] AF (AA R (fun z AH => ∃ f3 a3 c3, (Value.func f3 a3 c3) = z ∧ Spec prog 184 #[(.func (.func 153) #[] #[])] AH (AA R (fun z AZ => ∃ f4 a4 c4, (Value.func f4 a4 c4) = z ∧ Spec prog 184 #[(.func (.func 155) #[] #[])] AZ (AA R (fun z D4 => ∃ f5 a5 c5, (Value.func f5 a5 c5) = z ∧ Spec prog 184 #[(.func (.func 185) #[] #[])] D4 (AA R (fun z CR => ∃ f6 a6 c6, (Value.func f6 a6 c6) = z ∧ Spec prog 184 #[(.func (.func 187) #[] #[])] CR (AA R (fun z EM => ∃ f7 a7 c7, (Value.func f7 a7 c7) = z ∧ Spec prog 188 #[(.func (.func 189) #[] #[])] EM (AA R (fun z Lc => ∃ f8 a8 c8, (Value.func f8 a8 c8) = z ∧ Spec prog 188 #[(.func (.func 191) #[] #[])] Lc (AA R (fun z Q7 => ∃ f9 a9 c9, (Value.func f9 a9 c9) = z ∧ Spec prog 188 #[(.func (.func 193) #[] #[])] Q7 (AA R (fun z Hb => ∃ f10 a10 TM, (Value.func f10 a10 TM) = z ∧ Al Hb fun BA => R (.returned (.slice (aD BA 0) 11 11)) (Hp.set Hb BA (.cells #[.nilFunc, (Value.func f10 a10 TM), (Value.func f9 a9 c9), (Value.func f8 a8 c8), (Value.func f1 a1 c1), (Value.func f2 a2 c2), (Value.func f3 a3 c3), (Value.func f4 a4 c4), (Value.func f5 a5 c5), (Value.func f6 a6 c6), (Value.func f7 a7 c7)] 195 (0, 0)))))))))))))))))))))))) : Spec prog 147 #[] σ R := M.start h ok
end Kf
namespace Lt
variable {p0 p1 : Option Addr} {n0 c0 n1 c1 : Nat}
def M : Fw := ⟨prog, 150, f150, [197], [], false, [], [], []⟩
theorem ok : M.Ok := ⟨.cons call197 (AG.nil), mixed, func150, by kernel_rfl⟩
theorem start (h : Al σ fun b3 => Spec prog 197 #[.slice p0 n0 c0, (.func (.func 200) #[] #[(.pointer (aD b3 0))])] (Hp.set σ b3 (.cells #[.slice p1 n1 c1] 34 (0, 0))) (AA R (CS fun p7 n7 c7 y => R (.returned (.slice p7 n7 c7)) y))) : Spec prog 150 #[.slice p0 n0 c0, .slice p1 n1 c1] σ R := M.start h ok
end Lt
namespace O9
variable {x0 : Int}
def M : Fw := ⟨prog, 162, f162, [186], [], false, [], [], []⟩
theorem ok : M.Ok := ⟨.cons call186 (AG.nil), mixed, func162, by kernel_rfl⟩
theorem start (h : Df (Go.bits .xor .u64 x0 9223372036854775808) fun x4 => Spec prog 186 #[.int .u64 x4] σ (AA R (CI .u64 fun x5 y => R (.returned (.int .u64 x5)) y))) : Spec prog 162 #[.int .u64 x0] σ R := M.start h ok
end O9
namespace Lu
variable {E1 EW x1 : Int}
def M : Fw := ⟨prog, 176, f176, [], [2], false, [], [], []⟩
theorem ok : M.Ok := ⟨AG.nil, mixed, func176, by kernel_rfl⟩
theorem start (h : ∀ b2 : Nat, Br (E1 ≤ x1) (R (.returned (.int .i64 (-1))) σ) (R (.returned (.int .i64 1)) σ)) : Spec prog 176 #[.agg #[.int .i64 E1, .int .u64 EW], .int .i64 x1] σ R := M.start h ok
end Lu
namespace SC
variable {v0 : Value}
def M : Fw := ⟨prog, 183, f183, [], [], false, [], [], []⟩
theorem ok : M.Ok := ⟨AG.nil, mixed, func183, by kernel_rfl⟩
theorem start (h : EN prog 222 #[v0] σ (fun z y => ∃ x4, (Value.float .f64 x4) = z ∧ R (.returned (Value.float .f64 x4)) y)) : Spec prog 183 #[v0] σ R := M.D2 h ok [(0, .o (.V v0))] rfl rfl (by kernel_rfl)
end SC
namespace DT
variable {p0 p1 : Option Addr} {n0 c0 n1 c1 : Nat}
def M : Fw := ⟨prog, 193, f193, [192, 194], [], false, [], [], []⟩
theorem ok : M.Ok := ⟨.cons call192 (.cons call194 (AG.nil)), mixed, func193, by kernel_rfl⟩
theorem start (h : Pq p1 fun b8 o8 => In 0 (n1 : Int) ∧ LI .u64 σ b8 (o8 + 1) fun x10 => Spec prog 192 #[.slice p0 n0 c0] σ (AA R (CI .u64 fun x6 y => Kp [b8] σ y ∧ Spec prog 194 #[.int .u64 x6, .int .u64 x10] y (AA R (CI .u64 fun x11 AF => R (.returned (.int .u64 x11)) AF))))) : Spec prog 193 #[.slice p0 n0 c0, .slice p1 n1 c1] σ R := M.start h ok
end DT
namespace eval_add
variable {x0 x1 : Int}
def M : Fw := ⟨prog, 201, f201, [203], [], false, [], [], []⟩
theorem ok : M.Ok := ⟨.cons call203 (AG.nil), mixed, func201, by kernel_rfl⟩
theorem start (h : Spec prog 203 #[.int .i64 1, .int .u64 x0, .int .u64 x1] σ (AA R (fun z y => ∃ IY Qy, z = (.tuple #[.int .u64 IY, .bool Qy]) ∧ R (.returned (.int .u64 IY)) y))) : Spec prog 201 #[.int .u64 x0, .int .u64 x1] σ R := M.start h ok
end eval_add
namespace NG
variable {x0 x1 x2 : Int}
def M : Fw := ⟨prog, 204, f204, [182], [], false, [], [], []⟩
theorem ok : M.Ok := ⟨.cons call182 (AG.nil), mixed, func204, by kernel_rfl⟩
theorem start (h : Spec prog 182 #[.int .u64 x1] σ (AA R (fun z y => ∃ x11, (Value.float .f64 x11) = z ∧ Spec prog 182 #[.int .u64 x2] y (AA R (fun z AF => ∃ E8, (Value.float .f64 E8) = z ∧ Br (x0 = 5) (∃ t19, YF prog ((do eqGuard .eql 51 (.tmp 17) (.tmp 18) (Value.float .f64 x11) (Value.float .f64 E8); binOp .eql 51 (Value.float .f64 x11) (Value.float .f64 E8))) AF (.bool t19) ∧ R (.returned (.tuple #[.bool t19, .bool true])) AF) (Br (x0 = 6) (∃ t24, YF prog ((do eqGuard .neq 51 (.tmp 22) (.tmp 23) (Value.float .f64 x11) (Value.float .f64 E8); binOp .neq 51 (Value.float .f64 x11) (Value.float .f64 E8))) AF (.bool t24) ∧ R (.returned (.tuple #[.bool t24, .bool true])) AF) (Br (x0 = 7) (∃ t29, YF prog ((do eqGuard .lss 51 (.tmp 27) (.tmp 28) (Value.float .f64 x11) (Value.float .f64 E8); binOp .lss 51 (Value.float .f64 x11) (Value.float .f64 E8))) AF (.bool t29) ∧ R (.returned (.tuple #[.bool t29, .bool true])) AF) (Br (x0 = 8) (∃ t34, YF prog ((do eqGuard .leq 51 (.tmp 32) (.tmp 33) (Value.float .f64 x11) (Value.float .f64 E8); binOp .leq 51 (Value.float .f64 x11) (Value.float .f64 E8))) AF (.bool t34) ∧ R (.returned (.tuple #[.bool t34, .bool true])) AF) (Br (x0 = 9) (∃ t39, YF prog ((do eqGuard .gtr 51 (.tmp 37) (.tmp 38) (Value.float .f64 x11) (Value.float .f64 E8); binOp .gtr 51 (Value.float .f64 x11) (Value.float .f64 E8))) AF (.bool t39) ∧ R (.returned (.tuple #[.bool t39, .bool true])) AF) (Br (x0 = 10) (∃ t44, YF prog ((do eqGuard .geq 51 (.tmp 42) (.tmp 43) (Value.float .f64 x11) (Value.float .f64 E8); binOp .geq 51 (Value.float .f64 x11) (Value.float .f64 E8))) AF (.bool t44) ∧ R (.returned (.tuple #[.bool t44, .bool true])) AF) (R (.returned (.tuple #[.bool false, .bool false])) AF))))))))))) : Spec prog 204 #[.int .i64 x0, .int .u64 x1, .int .u64 x2] σ R := M.start h ok
end NG
namespace Gs
variable {E1 EW Pe Mz Hh JC qI x2b x2e x2f x2g x2j x11 x12 : Int} {Pf s2c : ByteArray} {T5 Q1 p1 p2d p2h Y7 : Option Addr} {TJ T6 QB Q2 n1 c1 n2d c2d n2h c2h n10 TM : Nat} {MN t2i : Bool} {m6 : Option Nat}
def M : Fw := ⟨prog, 206, f206, [49, 207], [2, 8], false, [(5, 7, false)], [], [(232, [(1, wL), (2, .X 36 [.I .i64, .I .i64, .T, .L, .I .i64, .I .i64, .I .i64, .L, .B, .I .i64]), (6, wM), (10, wL), (11, wI), (12, wI)])]⟩
theorem ok : M.Ok := ⟨.cons call49 (.cons call207 (AG.nil)), mixed, func206, by kernel_rfl⟩
def A2 := M.pt 0
theorem start (h : ∀ b2 : Nat, AJ prog (Instr.makeMap 243 none) σ (fun z y => ∃ m9, z = (.map (some m9)) ∧ A2 R p1 n1 c1 E1 EW Pf T5 TJ T6 Pe Mz Hh Q1 QB Q2 MN JC (some m9) p1 n1 c1 (n1 : Int) 0 y)) : Spec prog 206 #[.agg #[.int .i64 E1, .int .i64 EW, .string Pf, .slice T5 TJ T6, .int .i64 Pe, .int .i64 Mz, .int .i64 Hh, .slice Q1 QB Q2, .bool MN, .int .i64 JC], .slice p1 n1 c1] σ R := M.start h ok
theorem AY (h : Br (x12 < x11) (Pq Y7 fun BP P8 => In x12 (n10 : Int) ∧ ∃ yZ ya yb qM, Aq σ BP (P8 + Int.toNat x12 * 2) [.slice yZ ya yb, .int .u64 qM] ∧ ∀ b8 : Nat, Spec prog 207 #[.agg #[.int .i64 qI, .int .i64 x2b, .string s2c, .slice p2d n2d c2d, .int .i64 x2e, .int .i64 x2f, .int .i64 x2g, .slice p2h n2h c2h, .bool t2i, .int .i64 x2j], .slice yZ ya yb] σ (AA R (CS fun p20 n20 c20 y => Spec prog 49 #[.slice p20 n20 c20] y (AA R (CT fun w6 AF => AJ prog (Instr.mapUpdate 243 (.map m6) (.string w6) (.agg #[.slice yZ ya yb, .int .u64 qM])) AF (fun _ AH => AN (x12 + 1) ∧ A2 R p1 n1 c1 qI x2b s2c p2d n2d c2d x2e x2f x2g p2h n2h c2h t2i x2j m6 (aD BP P8) n10 TM x11 (x12 + 1) AH)))))) (∃ iL, YF prog (Builtin.len_ #[243] 3 #[.map m6]) σ (.int .i64 iL) ∧ R (.returned (.tuple #[.map m6, (.bool (decide (iL = (n1 : Int))))])) σ)) : A2 R p1 n1 c1 qI x2b s2c p2d n2d c2d x2e x2f x2g p2h n2h c2h t2i x2j m6 Y7 n10 TM x11 x12 σ := M.iB h ok rfl fun _ => by kernel_rfl
end Gs
namespace D1
variable {TL : Option Addr} {Lo Q6 : Nat} {Y8 s1 : ByteArray}
def M : Fw := ⟨prog, 219, f219, [236], [2], false, [], [], []⟩
theorem ok : M.Ok := ⟨.cons call236 (AG.nil), mixed, func219, by kernel_rfl⟩
theorem start (h : ∀ b2 : Nat, Spec prog 236 #[.agg #[.slice TL Lo Q6], .string s1] σ (AA R (CB fun t8 y => R (.returned (.bool t8)) y))) : Spec prog 219 #[.agg #[.slice TL Lo Q6, .string Y8], .string s1] σ R := M.start h ok
end D1
namespace C9
variable {q0 : Option Addr} {b1 : Nat}
def M : Fw := ⟨prog, 269, f269, [67, 136, 251], [], false, [], [], [(7, [(1, wA)])]⟩
theorem ok : M.Ok := ⟨.cons call67 (.cons call136 (.cons call251 (AG.nil))), mixed, func269, by kernel_rfl⟩
def Hg := M.pt 0
theorem start (h : Al σ fun b1 => LQ (Hp.set σ b1 (.cells #[.pointer q0] 124 (0, 0))) b1 0 fun q2 => Spec prog 136 #[.pointer q2, .int .i64 5, (.string (ByteArray.mk #[40]))] (Hp.set σ b1 (.cells #[.pointer q0] 124 (0, 0))) (AA R (CB fun t3 y => Bn t3 (LQ y b1 0 fun q5 => Spec prog 67 #[.pointer q5] y (AA R (fun z AF => z = (.tuple #[]) ∧ Hg R b1 AF))) (Hg R b1 y)))) : Spec prog 269 #[.pointer q0] σ R := M.start h ok
theorem Bd (h : LQ σ b1 0 fun q7 => Spec prog 251 #[.pointer q7, (.func (.func 294) #[] #[(.pointer (aD b1 0))])] σ (AA R (fun z y => z = (.tuple #[]) ∧ R (.returned (.tuple #[])) y))) : Hg R b1 σ := M.of h ok rfl
end C9
end TwW
end
end
section
namespace Tw
open Go
variable [Ev]
def Aw (τ : Hp) : List (Nat × Obj) → Hp
 | [] => τ
 | (b, o) :: L => (Aw τ L).set b o
abbrev names (L : List (Nat × Obj)) : List Nat := L.map Prod.fst
section
variable {τ : Hp} {L : List (Nat × Obj)} {b i : Nat} {o o' : Obj}
theorem H9 (h : b ∉ names L) : Aw τ L b = τ b := by
 induction L with
 | nil => rfl
 | cons p L ih =>
   simp only [names, List.map_cons, List.mem_cons, not_or] at h
   simp only [Aw, Hp.AI h.1]
   exact ih h.2
theorem En : ∀ {L : List (Nat × Obj)} {i : Nat}, (names L).Nodup → L[i]? = some (b, o) → Aw τ L b = some o
 | p :: L, 0, _, h => by simp at h; subst h; exact Hp.AB _ _ _
 | p :: L, i + 1, hn, h => by
   simp only [List.getElem?_cons_succ] at h
   have hm : b ∈ names L := List.mem_map.2 ⟨_, List.mem_of_getElem? h, rfl⟩
   have hn := List.nodup_cons.1 (show (p.1 :: names L).Nodup from hn)
   have A4 : b ≠ p.1 := fun e => hn.1 (e ▸ hm)
   simp only [Aw, Hp.AI A4]
   exact En hn.2 h
theorem Hp.BU {σ : Hp} {a b : Nat} {o u : Obj} (h : a ≠ b) : (σ.set a o).set b u = (σ.set b u).set a o := by
 funext k
 simp only [Hp.set]
 by_cases h1 : k = a
 · subst h1; simp [h]
 · simp [h1]
theorem NH : ∀ {L : List (Nat × Obj)} {i : Nat}, (names L).Nodup → L[i]? = some (b, o) → (Aw τ L).set b o' = Aw τ (L.set i (b, o'))
 | p :: L, 0, _, h => by simp at h; subst h; exact Hp.set_set
 | p :: L, i + 1, hn, h => by
   simp only [List.getElem?_cons_succ] at h
   have hm : b ∈ names L := List.mem_map.2 ⟨_, List.mem_of_getElem? h, rfl⟩
   have hn := List.nodup_cons.1 (show (p.1 :: names L).Nodup from hn)
   have A4 : b ≠ p.1 := fun e => hn.1 (e ▸ hm)
   simp only [Aw, List.set_cons_succ]
   rw [Hp.BU (Ne.symm A4), NH hn.2 h]
theorem Gt : ∀ {L : List (Nat × Obj)}, b ∉ names L → (Aw τ L).set b o = Aw (τ.set b o) L
 | [], _ => rfl
 | p :: L, h => by
   simp only [names, List.map_cons, List.mem_cons, not_or] at h
   simp only [Aw]
   rw [Hp.BU (Ne.symm h.1), Gt h.2]
theorem UJ : ∀ {L : List (Nat × Obj)}, b ∈ names L → Aw τ L b ≠ none
 | p :: L, h => by
   by_cases hb : b = p.1
   · subst hb; simp only [Aw, Hp.AB]; simp
   · simp only [names, List.map_cons, List.mem_cons] at h
     simp only [Aw, Hp.AI hb]
     exact UJ (h.resolve_left hb)
theorem CC (h : Aw τ L b = none) : b ∉ names L ∧ τ b = none := by
 have hs : ∀ {L : List (Nat × Obj)}, b ∉ names L → Aw τ L b = τ b := H9
 have hn : b ∉ names L := fun hm => UJ hm h
 exact ⟨hn, (hs hn).symm.trans h⟩
def PA (L : List (Nat × Obj)) (τ : Hp) : Prop := ∀ b ∈ names L, τ b = none
theorem PA.ext {τ : Hp} : ∀ {L : List (Nat × Obj)}, (names L).Nodup → PA L τ → Ext τ (Aw τ L)
 | [], _, _ => .refl τ
 | p :: L, hn, h => by
   have hn := List.nodup_cons.1 (show (p.1 :: names L).Nodup from hn)
   have ih := PA.ext hn.2 (fun b hb => h b (List.mem_cons_of_mem _ hb))
   refine ih.trans (.set ?_)
   rw [H9 hn.1]
   exact h _ (List.mem_cons_self ..)
theorem PA.set {τ : Hp} {b : Nat} {o : Obj} (h : PA L τ) (hb : b ∉ names L) : PA L (τ.set b o) := fun c hc => by
 have A4 : c ≠ b := fun e => hb (e ▸ hc)
 rw [Hp.AI A4]; exact h c hc
end
theorem Spec.Eo {P : Program} {f : FuncId} {args : Array Value} {τ : Hp} : ∀ {L : List (Nat × Obj)} {R : Rr}, (names L).Nodup → PA L τ →
   Spec P f args τ (fun e τ' => PA L τ' → R e (Aw τ' L)) → Spec P f args (Aw τ L) R
 | [], R, _, _, h => h.mono fun e τ' hr => hr (fun b hb => by cases hb)
 | p :: L, R, hn, ho, h => by
   have hn := List.nodup_cons.1 (show (p.1 :: names L).Nodup from hn)
   refine Spec.Ak (by rw [H9 hn.1]; exact ho _ (List.mem_cons_self ..)) ?_
   refine Spec.Eo hn.2 (fun b hb => ho b (List.mem_cons_of_mem _ hb)) (h.mono fun e τ' hr TQ GC => hr fun b hb => ?_)
   rcases List.mem_cons.1 (show b ∈ p.1 :: names L from hb) with rfl | hb
   · rw [H9 hn.1] at GC; exact GC
   · exact TQ b hb
theorem AJ.Eo {P : Program} {α : Type} {m : Sem α} {τ : Hp} : ∀ {L : List (Nat × Obj)} {Φ : α → Hp → Prop}, (names L).Nodup → PA L τ →
   AJ P m τ (fun v τ' => PA L τ' → Φ v (Aw τ' L)) → AJ P m (Aw τ L) Φ
 | [], R, _, _, h => h.mono fun e τ' hr => hr (fun b hb => by cases hb)
 | p :: L, R, hn, ho, h => by
   have hn := List.nodup_cons.1 (show (p.1 :: names L).Nodup from hn)
   refine AJ.Ak (by rw [H9 hn.1]; exact ho _ (List.mem_cons_self ..)) ?_
   refine AJ.Eo hn.2 (fun b hb => ho b (List.mem_cons_of_mem _ hb)) (h.mono fun e τ' hr TQ GC => hr fun b hb => ?_)
   rcases List.mem_cons.1 (show b ∈ p.1 :: names L from hb) with rfl | hb
   · rw [H9 hn.1] at GC; exact GC
   · exact TQ b hb
theorem AJ.SD {P : Program} {τ : Hp} {L : List (Nat × Obj)} {i b n o : Nat} {T t : TypeId} {c c' : Array Value} {v : Value} {Φ : Unit → Hp → Prop} (hz : ∀ w, (Go.sizeOf T).run P w = .ok n w) (hn : (names L).Nodup) (hi : L[i]? = some (b, .cells c t (0, 0)))
   (hv : v.cells.size = n) (hl : Nat.ble (o + n) c.size = true) (h1 : (v.cells.toList.all fun u => u.oneCell') = true) (hc : Mk c o v.cells.toList = c') (h : Φ () (Aw τ (L.set i (b, .cells c' t (0, 0))))) :
   AJ P (Instr.storeAt T (.pointer (some ⟨b, o, none⟩)) v) (Aw τ L) Φ := by
 subst hc
 refine AJ.store hz (En hn hi) hv (Nat.le_of_ble_eq_true hl) (fun u hu => List.all_eq_true.1 h1 u hu) ?_
 rw [NH hn hi]; exact h
theorem Xw {τ : Hp} {L : List (Nat × Obj)} {i b o : Nat} {t : TypeId} {c : Array Value} {v : Value} (hn : (names L).Nodup) (hi : L[i]? = some (b, .cells c t (0, 0))) (h : c[o]? = some v) : Hp.ld (Aw τ L) ⟨b, o, none⟩ = some v := by
 simp [Hp.ld, En hn hi, h]
end Tw
end
section
namespace Tw
open Go Go.MapKept
variable [Ev]
def QX (p : Option Addr) : List Nat := match p with
 | some a => [a.block]
 | none => []
structure Loc (A : Hp → Prop) (σ : Hp) (S : List Nat) : Prop where
 here : A σ
 known : ∀ b ∈ S, σ b ≠ none
 loc : ∀ σ', (∀ b ∈ S, σ' b = σ b) → A σ'
section
variable {P : Program} {σ : Hp} {α : Type}
theorem AJ.obj {m : Sem α} {b : Nat} {o o' : Obj} {v : α} {Φ : α → Hp → Prop} (hb : σ b = some o) (hm : ∀ w, Sat σ w → ∃ w1 : World, (w1 = w ∨ w1 = w.drew) ∧ m.run P w = .ok v (ChangeMaps.setBlock w1 b o')) (h : Φ v (σ.set b o')) : AJ P m σ Φ := fun w F hs hF => by
 obtain ⟨w1, hw, Ci⟩ := hm w hs
 have Au : b < w.heap.size := (Array.getElem?_eq_some_iff.1 (hs b o hb)).1
 have Mn : w1.heap = w.heap := by rcases hw with rfl | rfl <;> rfl
 refine ⟨v, _, _, Ci, h, fun k u hk => ?_, fun k hk => ?_, ?_, ?_, ?_⟩
 · simp only [ChangeMaps.setBlock, Mn]
   by_cases HC : k = b
   · subst HC; rw [Hp.AB] at hk; cases hk; simp [Au]
   · rw [Hp.AI HC] at hk; simp [Ne.symm HC, hs k u hk]
 · have HC : k ≠ b := fun e => by have := (hF k hk).2; rw [e, hb] at this; cases this
   refine ⟨by rw [Hp.AI HC]; exact (hF k hk).2, ?_⟩
   simp [ChangeMaps.setBlock, Mn, Ne.symm HC]
 · rcases hw with rfl | rfl
   · exact .same rfl rfl rfl
   · exact ⟨rfl, rfl, fun _ => ⟨1, rfl⟩⟩
 · rcases hw with rfl | rfl <;> rfl
 · simp [ChangeMaps.setBlock, Mn]
theorem AJ.new {m : Sem α} {o : Obj} {v : Nat → α} {Φ : α → Hp → Prop} (hm : ∀ w, Sat σ w → m.run P w = .ok (v w.heap.size) (w.alloc o)) (h : ∀ b, σ b = none → Φ (v b) (σ.set b o)) : AJ P m σ Φ := fun w F hs hF =>
 ⟨_, _, _, hm w hs, h _ (FX hs), Fin.alloc hs hF _ rfl (.same rfl rfl rfl) rfl⟩
class lk (P : Program) (T : TypeId) (K V : outParam TypeId) : Prop where
 cB : P.underlying T = some (.map K V)
 key : P.underlying K = some .string
def BO (σ : Hp) (b : Nat) (l : List MapEntry) (clock : Nat) : Prop := σ b = some (.map l.toArray clock) ∧ Stamped l.toArray clock ∧ ∀ x ∈ l, IsKey .string x.key
theorem BO.mono {σ σ' : Hp} {b : Nat} {l : List MapEntry} {clock : Nat} (h : BO σ b l clock) (hx : Ext σ σ') : BO σ' b l clock := ⟨hx _ _ h.1, h.2⟩
theorem BO.loc {σ σ' : Hp} {b : Nat} {l : List MapEntry} {clock : Nat} (h : BO σ b l clock) (hx : σ' b = σ b) : BO σ' b l clock := ⟨hx.trans h.1, h.2⟩
theorem BO.nodup {σ : Hp} {b : Nat} {l : List MapEntry} {clock : Nat} (h : BO σ b l clock) : (l.map (·.key)).Nodup := h.2.1.2.2
theorem FJ {s : ByteArray} {l : List MapEntry} (hk : ∀ x ∈ l, IsKey .string x.key) :
   (Instr.findNow .string (.string s) l 0 = some none ∧ ∀ x ∈ l, x.key ≠ .string s) ∨ ∃ l1 e l2, l = l1 ++ e :: l2 ∧ e.key = .string s ∧ Instr.findNow .string (.string s) l 0 = some (some (l1.length, e.val)) := by
 rcases findNow_spec (d := .string) (k := .string s) trivial l 0 hk with h | ⟨j, e, h1, h2, h3⟩
 · exact .inl h
 · obtain ⟨hj, rfl⟩ := List.getElem?_eq_some_iff.1 h2
   refine .inr ⟨l.take j, l[j], l.drop (j + 1), ?_, h3, ?_⟩
   · rw [List.getElem_cons_drop, List.take_append_drop]
   · rw [h1]; simp [Nat.min_eq_left (Nat.le_of_lt hj)]
section
variable {T K V ty : TypeId} {b clock : Nat} {l : List MapEntry} {s : ByteArray}
theorem EG {Φ : Value → Hp → Prop} (h : ∀ b, σ b = none → Φ (.map (some b)) (σ.set b (.map #[] 0))) : AJ P (Instr.makeMap T none) σ Φ :=
 AJ.new (v := fun b => .map (some b)) (fun w _ => by simp [Instr.makeMap, Result.andThen]) h
theorem BO.fresh {b : Nat} {σ : Hp} : BO (σ.set b (.map #[] 0)) b [] 0 := ⟨Hp.AB _ _ _, stamped_empty 0, by simp⟩
theorem OR [t : lk P T K V] (hm : BO σ b l clock) {z : Value} (hz : ∀ w, (zeroValue V).run P w = .ok z w) {Q : Value → Prop}
   (h0 : (∀ x ∈ l, x.key ≠ .string s) → Q z) (h1 : ∀ l1 e l2, l = l1 ++ e :: l2 → e.key = .string s → Q e.val) : ∃ v, Q v ∧ YF P (Instr.lookup T (.map (some b)) (.string s) false) σ v := by
 rcases FJ (s := s) hm.2.2 with ⟨hf, hn⟩ | ⟨l1, e, l2, hl, he, hf⟩
 · refine ⟨z, h0 hn, fun w hs => ?_⟩
   have := hs _ _ hm.1
   simp [Instr.lookup, run_underlying t.cB, run_getObj_map this, run_checkKey t.key (k := .string s) trivial, run_findKey t.key hf, hz, Result.andThen]
 · refine ⟨e.val, h1 l1 e l2 hl he, fun w hs => ?_⟩
   have := hs _ _ hm.1
   simp [Instr.lookup, run_underlying t.cB, run_getObj_map this, run_checkKey t.key (k := .string s) trivial, run_findKey t.key hf, Result.andThen]
theorem MV [t : lk P T K V] (hm : BO σ b l clock) {z : Value} (hz : ∀ w, (zeroValue V).run P w = .ok z w) {Φ : Value → Hp → Prop}
   (h0 : (∀ x ∈ l, x.key ≠ .string s) → Φ z σ) (h1 : ∀ l1 e l2, l = l1 ++ e :: l2 → e.key = .string s → Φ e.val σ) : AJ P (Instr.lookup T (.map (some b)) (.string s) false) σ Φ := by
 obtain ⟨v, hq, hy⟩ := OR (T := T) (K := K) (s := s) (Q := fun v => Φ v σ) hm hz h0 h1
 exact AJ.pu hy hq
theorem ll [t : lk P T K V] (hm : BO σ b l clock) : YF P (Builtin.len_ #[T] ty #[.map (some b)]) σ (.int .i64 l.length) := fun w hs => by
 have := hs _ _ hm.1
 simp [Builtin.len_, run_underlying t.cB, run_getObj_map this, goInt, Result.andThen]
abbrev Mu (s : ByteArray) (v : Value) (n : Nat) : MapEntry := { key := .string s, val := v, born := n }
theorem Hd [t : lk P T K V] (hm : BO σ b l clock) {v : Value} {Φ : Unit → Hp → Prop}
   (h0 : (∀ x ∈ l, x.key ≠ .string s) → ∀ σ', σ' = σ.set b (.map (l ++ [Mu s v clock]).toArray (clock + 1)) → BO σ' b (l ++ [Mu s v clock]) (clock + 1) → Φ () σ')
   (h1 : ∀ l1 e l2, l = l1 ++ e :: l2 → e.key = .string s → ∀ σ', σ' = σ.set b (.map (l1 ++ Mu s v e.born :: l2).toArray clock) → BO σ' b (l1 ++ Mu s v e.born :: l2) clock → Φ () σ') :
   AJ P (Instr.mapUpdate T (.map (some b)) (.string s) v) σ Φ := by
 obtain ⟨hb, Cc, hk⟩ := hm
 rcases FJ (s := s) hk with ⟨hf, hn⟩ | ⟨l1, e, l2, hl, he, hf⟩
 · have Xx : (l ++ [Mu s v clock]).toArray = l.toArray.push (Mu s v clock) := by simp
   refine AJ.obj (v := ()) (o' := .map (l ++ [Mu s v clock]).toArray (clock + 1)) hb (fun w hs => ⟨w, .inl rfl, ?_⟩) (h0 hn _ rfl ⟨Hp.AB _ _ _, ?_, ?_⟩)
   · have := hs _ _ hb
     rw [Xx]
     simp only [Instr.mapUpdate, Sem.run_bind, run_underlying t.cB, run_getObj_map this, run_checkKey t.key (k := .string s) trivial, run_findKey t.key hf, Result.andThen_ok]
     simp [setObj, Sem.run, this, ChangeMaps.setBlock]
   · rw [Xx]; exact stamped_push Cc (by simpa using hn)
   · intro x hx
     rcases List.mem_append.1 hx with hx | hx
     · exact hk x hx
     · rw [List.mem_singleton] at hx; subst hx; trivial
 · subst hl
   have lq : (l1 ++ Mu s v e.born :: l2).toArray = (l1 ++ e :: l2).toArray.modify l1.length (fun e => { e with key := .string s, val := v }) := by
     rw [← Array.toList_inj]
     apply List.ext_getElem?
     intro j
     simp only [Array.getElem?_toList, Array.getElem?_modify, List.getElem?_toArray]
     by_cases hj : l1.length = j
     · subst hj; simp
     · rw [if_neg hj]
       rcases Nat.lt_or_ge j l1.length with h | h
       · rw [List.getElem?_append_left h, List.getElem?_append_left h]
       · have : ∃ k, j = l1.length + (k + 1) := ⟨j - l1.length - 1, by omega⟩
         obtain ⟨k, rfl⟩ := this
         simp [List.getElem?_append_right]
   have fV : (l1 ++ e :: l2).toArray[l1.length]? = some e := by simp
   refine AJ.obj (v := ()) (o' := .map (l1 ++ Mu s v e.born :: l2).toArray clock) hb (fun w hs => ⟨w, .inl rfl, ?_⟩) (h1 l1 e l2 rfl he _ rfl ⟨Hp.AB _ _ _, ?_, ?_⟩)
   · have := hs _ _ hb
     rw [lq]
     simp only [Instr.mapUpdate, Sem.run_bind, run_underlying t.cB, run_getObj_map this, run_checkKey t.key (k := .string s) trivial, run_findKey t.key hf, Result.andThen_ok, fV, Option.map_some, Option.getD_some, he,
       run_keyThatStays (d := .string) (k := .string s) trivial]
     simp [setObj, Sem.run, this, ChangeMaps.setBlock]
   · rw [lq]; exact stamped_modify Cc _ _ (fun _ _ => rfl) (fun e' _ V6 => by rw [fV] at V6; cases V6; exact he.symm)
   · intro x hx
     rcases List.mem_append.1 hx with hx | hx
     · exact hk x (List.mem_append_left _ hx)
     · rcases List.mem_cons.1 hx with rfl | hx
       · trivial
       · exact hk x (List.mem_append_right _ (List.mem_cons_of_mem _ hx))
end
end
end Tw
end
section
theorem Tw.Hp.AU {σ : Tw.Hp} {b k : Nat} {o : Go.Obj} (h : (σ.set b o) k = none) : k ≠ b ∧ σ k = none := by
 have A4 : k ≠ b := fun e => by rw [e, Tw.Hp.AB] at h; cases h
 exact ⟨A4, by rw [Tw.Hp.AI A4] at h; exact h⟩
namespace lr
open Go Go.MapKept Tw
variable [Ev]
section
variable {P : Program} {σ : Hp}
class oN (P : Program) (T : TypeId) (K V : outParam TypeId) : Prop where
 cB : P.underlying T = some (.map K V)
 key : P.underlying K = some (.int .i64)
def BO (σ : Hp) (b : Nat) (l : List MapEntry) (clock : Nat) : Prop := σ b = some (.map l.toArray clock) ∧ Stamped l.toArray clock ∧ ∀ x ∈ l, IsKey (.int .i64) x.key
theorem BO.loc {σ σ' : Hp} {b : Nat} {l : List MapEntry} {clock : Nat} (h : BO σ b l clock) (hx : σ' b = σ b) : BO σ' b l clock := ⟨hx.trans h.1, h.2⟩
theorem FJ {s : Int} {l : List MapEntry} (hk : ∀ x ∈ l, IsKey (.int .i64) x.key) :
   (Instr.findNow (.int .i64) (.int .i64 s) l 0 = some none ∧ ∀ x ∈ l, x.key ≠ .int .i64 s) ∨ ∃ l1 e l2, l = l1 ++ e :: l2 ∧ e.key = .int .i64 s ∧ Instr.findNow (.int .i64) (.int .i64 s) l 0 = some (some (l1.length, e.val)) := by
 rcases findNow_spec (d := .int .i64) (k := .int .i64 s) rfl l 0 hk with h | ⟨j, e, h1, h2, h3⟩
 · exact .inl h
 · obtain ⟨hj, rfl⟩ := List.getElem?_eq_some_iff.1 h2
   refine .inr ⟨l.take j, l[j], l.drop (j + 1), ?_, h3, ?_⟩
   · rw [List.getElem_cons_drop, List.take_append_drop]
   · rw [h1]; simp [Nat.min_eq_left (Nat.le_of_lt hj)]
section
variable {T K V ty : TypeId} {b clock : Nat} {l : List MapEntry} {s : Int}
theorem BO.fresh {b : Nat} {σ : Hp} : BO (σ.set b (.map #[] 0)) b [] 0 := ⟨Hp.AB _ _ _, stamped_empty 0, by simp⟩
theorem OR [t : oN P T K V] (hm : BO σ b l clock) {z : Value} (hz : ∀ w, (zeroValue V).run P w = .ok z w) {Q : Value → Prop}
   (h0 : (∀ x ∈ l, x.key ≠ .int .i64 s) → Q z) (h1 : ∀ l1 e l2, l = l1 ++ e :: l2 → e.key = .int .i64 s → Q e.val) : ∃ v, Q v ∧ YF P (Instr.lookup T (.map (some b)) (.int .i64 s) false) σ v := by
 rcases FJ (s := s) hm.2.2 with ⟨hf, hn⟩ | ⟨l1, e, l2, hl, he, hf⟩
 · refine ⟨z, h0 hn, fun w hs => ?_⟩
   have := hs _ _ hm.1
   simp [Instr.lookup, run_underlying t.cB, run_getObj_map this, run_checkKey t.key (k := .int .i64 s) rfl, run_findKey t.key hf, hz, Result.andThen]
 · refine ⟨e.val, h1 l1 e l2 hl he, fun w hs => ?_⟩
   have := hs _ _ hm.1
   simp [Instr.lookup, run_underlying t.cB, run_getObj_map this, run_checkKey t.key (k := .int .i64 s) rfl, run_findKey t.key hf, Result.andThen]
theorem MV [t : oN P T K V] (hm : BO σ b l clock) {z : Value} (hz : ∀ w, (zeroValue V).run P w = .ok z w) {Φ : Value → Hp → Prop}
   (h0 : (∀ x ∈ l, x.key ≠ .int .i64 s) → Φ z σ) (h1 : ∀ l1 e l2, l = l1 ++ e :: l2 → e.key = .int .i64 s → Φ e.val σ) : AJ P (Instr.lookup T (.map (some b)) (.int .i64 s) false) σ Φ := by
 obtain ⟨v, hq, hy⟩ := OR (T := T) (K := K) (s := s) (Q := fun v => Φ v σ) hm hz h0 h1
 exact AJ.pu hy hq
theorem ll [t : oN P T K V] (hm : BO σ b l clock) : YF P (Builtin.len_ #[T] ty #[.map (some b)]) σ (.int .i64 l.length) := fun w hs => by
 have := hs _ _ hm.1
 simp [Builtin.len_, run_underlying t.cB, run_getObj_map this, goInt, Result.andThen]
abbrev Mu (s : Int) (v : Value) (n : Nat) : MapEntry := { key := .int .i64 s, val := v, born := n }
theorem Hd [t : oN P T K V] (hm : BO σ b l clock) {v : Value} {Φ : Unit → Hp → Prop}
   (h0 : (∀ x ∈ l, x.key ≠ .int .i64 s) → ∀ σ', σ' = σ.set b (.map (l ++ [Mu s v clock]).toArray (clock + 1)) → BO σ' b (l ++ [Mu s v clock]) (clock + 1) → Φ () σ')
   (h1 : ∀ l1 e l2, l = l1 ++ e :: l2 → e.key = .int .i64 s → ∀ σ', σ' = σ.set b (.map (l1 ++ Mu s v e.born :: l2).toArray clock) → BO σ' b (l1 ++ Mu s v e.born :: l2) clock → Φ () σ') :
   AJ P (Instr.mapUpdate T (.map (some b)) (.int .i64 s) v) σ Φ := by
 obtain ⟨hb, Cc, hk⟩ := hm
 rcases FJ (s := s) hk with ⟨hf, hn⟩ | ⟨l1, e, l2, hl, he, hf⟩
 · have Xx : (l ++ [Mu s v clock]).toArray = l.toArray.push (Mu s v clock) := by simp
   refine AJ.obj (v := ()) (o' := .map (l ++ [Mu s v clock]).toArray (clock + 1)) hb (fun w hs => ⟨w, .inl rfl, ?_⟩) (h0 hn _ rfl ⟨Hp.AB _ _ _, ?_, ?_⟩)
   · have := hs _ _ hb
     rw [Xx]
     simp only [Instr.mapUpdate, Sem.run_bind, run_underlying t.cB, run_getObj_map this, run_checkKey t.key (k := .int .i64 s) rfl, run_findKey t.key hf, Result.andThen_ok]
     simp [setObj, Sem.run, this, ChangeMaps.setBlock]
   · rw [Xx]; exact stamped_push Cc (by simpa using hn)
   · intro x hx
     rcases List.mem_append.1 hx with hx | hx
     · exact hk x hx
     · rw [List.mem_singleton] at hx; subst hx; rfl
 · subst hl
   have lq : (l1 ++ Mu s v e.born :: l2).toArray = (l1 ++ e :: l2).toArray.modify l1.length (fun e => { e with key := .int .i64 s, val := v }) := by
     rw [← Array.toList_inj]
     apply List.ext_getElem?
     intro j
     simp only [Array.getElem?_toList, Array.getElem?_modify, List.getElem?_toArray]
     by_cases hj : l1.length = j
     · subst hj; simp
     · rw [if_neg hj]
       rcases Nat.lt_or_ge j l1.length with h | h
       · rw [List.getElem?_append_left h, List.getElem?_append_left h]
       · have : ∃ k, j = l1.length + (k + 1) := ⟨j - l1.length - 1, by omega⟩
         obtain ⟨k, rfl⟩ := this
         simp [List.getElem?_append_right]
   have fV : (l1 ++ e :: l2).toArray[l1.length]? = some e := by simp
   refine AJ.obj (v := ()) (o' := .map (l1 ++ Mu s v e.born :: l2).toArray clock) hb (fun w hs => ⟨w, .inl rfl, ?_⟩) (h1 l1 e l2 rfl he _ rfl ⟨Hp.AB _ _ _, ?_, ?_⟩)
   · have := hs _ _ hb
     rw [lq]
     simp only [Instr.mapUpdate, Sem.run_bind, run_underlying t.cB, run_getObj_map this, run_checkKey t.key (k := .int .i64 s) rfl, run_findKey t.key hf, Result.andThen_ok, fV, Option.map_some, Option.getD_some, he,
       run_keyThatStays (d := .int .i64) (k := .int .i64 s) rfl]
     simp [setObj, Sem.run, this, ChangeMaps.setBlock]
   · rw [lq]; exact stamped_modify Cc _ _ (fun _ _ => rfl) (fun e' _ V6 => by rw [fV] at V6; cases V6; exact he.symm)
   · intro x hx
     rcases List.mem_append.1 hx with hx | hx
     · exact hk x (List.mem_append_left _ hx)
     · rcases List.mem_cons.1 hx with rfl | hx
       · rfl
       · exact hk x (List.mem_append_right _ (List.mem_cons_of_mem _ hx))
end
end
end lr
end
section
namespace Tw
open Go
variable [Ev]
def SE (s : ByteArray) : List Value := s.data.toList.map fun b => .int .u8 b.toNat
theorem lu {s : ByteArray} : (SE s).length = s.size := by simp [SE]
theorem lv {s : ByteArray} : GF (SE s) := fun u hu => by obtain ⟨x, _, rfl⟩ := List.mem_map.1 hu; rfl
section append
variable {P : Program} {T E ty : TypeId} {bs : Nat} {σ : Hp} {p : Option Addr} {n c m : Nat} {cs ys : List Value} {Φ : Value → Hp → Prop}
theorem SF {str : ByteArray} (w : World) (size : Nat) : (Builtin.firstCells size str.size (.string str)).run P w = .ok (SE str).toArray w := by
 have hx : (Array.map (fun b : UInt8 => Value.int IntKind.u8 (b.toNat : Int)) str.data).extract 0 str.size = (SE str).toArray := by
   have hs : str.size = (Array.map (fun b : UInt8 => Value.int IntKind.u8 (b.toNat : Int)) str.data).size := by rw [Array.size_map]; rfl
   rw [hs, Array.extract_size]
   apply Array.ext'
   simp [SE]
 have A6 : Array.map (fun b : UInt8 => Value.int IntKind.u8 (b.toNat : Int)) str.data = (SE str).toArray := by apply Array.ext'; simp [SE]
 simp [Builtin.firstCells, A6]
theorem qX [h : JY P T E 1 bs] {U : TypeId} {str : ByteArray} (hU : P.underlying U = some .string) (BY : A9 1 σ p n c cs) (hm : str.size = m) (sM : SE str = ys) (hb : (n + m) * bs ≤ 140737488355328)
   (hΦ : ∀ p' c' σ', A9 1 σ' p' (n + m) c' (cs ++ ys) → Ext (σ.del p) (σ'.del p') → ((p' = p ∧ c' = c ∧ n + m ≤ c) ∨ (c < n + m ∧ Ext σ σ' ∧ ∀ a, p' = some a → σ a.block = none)) → Φ (.slice p' (n + m) c') σ') :
   AJ P (Builtin.append_ #[T, U] ty #[.slice p n c, .string str]) σ Φ := by
 obtain ⟨ht, ⟨i, z, hi, hz, Ho, rfl, hzs⟩, QT, ic⟩ := h
 have h1 : GF ys := sM ▸ lv
 have hyl : ys.length = m * 1 := by rw [← sM, ← hm, Nat.mul_one]; exact lu
 have h62 : n + m ≤ 140737488355328 := Nat.le_trans (Nat.le_mul_of_pos_right _ ic) hb
 intro w F hs hF
 have hf := SF (P := P) (str := str) w 1
 rw [sM, hm] at hf
 have oX := fun w' : World => SF (P := P) (str := str) w' 1
 rw [sM, hm] at oX
 have Mp := fun w' (hw : Sat σ w') => Ku (P := P) (d := c) w' hw BY.rd
 have hlen : (cs ++ ys).length = (n + m) * 1 := by rw [List.length_append, BY.1, hyl, Nat.add_mul]
 by_cases HB : n + m ≤ c
 · -- there is room
   rcases BY.2.2 with ⟨hp, hn, hc⟩ | ⟨b, o, arr, T', rfl, hblk, hY, Hf, Ml⟩
   · subst hp hn hc
     have hm : m = 0 := by omega
     subst hm
     have sM : ys = [] := List.eq_nil_of_length_eq_zero (by simpa using hyl)
     have Ml : cs = [] := List.eq_nil_of_length_eq_zero (by simpa using BY.1)
     subst sM Ml
     refine ⟨.slice none 0 0, w, σ, ?_, hΦ none 0 σ A9.nil (Ext.refl _) (.inl ⟨rfl, rfl, HB⟩), hs, fun b hb => ⟨(hF b hb).2, rfl⟩, .same rfl rfl rfl, rfl, Nat.le_refl _⟩
     simp [Builtin.append_, run_underlying ht, run_underlying hU, Ho, hm, Go.sizeOf, typeInfo, hi, Builtin.lenOf, hf]
   · have hw := hs _ _ hblk
     have vK : o + n * 1 + 0 + ys.length ≤ arr.size := by
       rw [hyl]
       have : (n + m) * 1 ≤ c * 1 := Nat.mul_le_mul_right _ HB
       rw [Nat.add_mul] at this
       omega
     have Cc := ES (P := P) b (o + n * 1) T' ys 0 arr w hw vK h1
     simp only [Nat.add_zero, Nat.mul_one] at Cc
     refine ⟨.slice (some ⟨b, o, none⟩) (n + m) c, w.setRow b (Mk arr (o + n) ys), σ.set b (.cells (Mk arr (o + n) ys) T' (0, 0)), ?_, hΦ _ _ _ ⟨hlen, by omega, .inr ⟨b, o, _, T', rfl, Hp.AB _ _ _, HB, by rw [Hs]; exact Hf, ?_⟩⟩ (by rw [Hp.IT]; exact Ext.refl _) (.inl ⟨rfl, rfl, HB⟩), ?_⟩
     · simp [Builtin.append_, run_underlying ht, run_underlying hU, Ho, hm, Go.sizeOf, typeInfo, hi, Builtin.lenOf, HB, hf, Bi, Cc]
     · refine List.ext_getElem? fun j => ?_
       rw [List.getElem?_take]
       simp only [List.getElem?_drop, Array.getElem?_toList]
       rw [P1 _ _ _ _ (by omega), List.getElem?_append]
       have e1 : cs.length = n * 1 := BY.1
       have e2 : ys.length = m * 1 := hyl
       have e3 : (n + m) * 1 = n * 1 + m * 1 := Nat.add_mul ..
       by_cases vL : j < cs.length
       · rw [if_pos (by omega), if_neg (by omega), if_pos vL, ← Ml, List.getElem?_take, if_pos (by omega)]
         simp
       · rw [if_neg vL]
         by_cases hj2 : j < (n + m) * 1
         · rw [if_pos hj2, if_pos (by omega), show o + j - (o + n) = j - cs.length by omega]
         · rw [if_neg hj2, List.getElem?_eq_none (by omega)]
     · refine ⟨fun k u hk => ?_, fun k hk => ?_, .same rfl rfl rfl, rfl, by simp⟩
       · by_cases HC : k = b
         · subst HC; rw [Hp.AB] at hk; cases hk; exact setRow_heap w k arr _ T' (0, 0) hw
         · rw [Hp.AI HC] at hk; rw [setRow_other _ _ _ _ HC]; exact hs k u hk
       · have HC : k ≠ b := fun h => by have := (hF k hk).2; rw [h, hblk] at this; cases this
         exact ⟨by rw [Hp.AI HC]; exact (hF k hk).2, setRow_other _ _ _ _ HC⟩
 · -- it AA8
   have AA9 : Builtin.nextslicecap (n + m) c * i.bytes ≤ 281474976710656 := growslice_fits (by omega) hb
   have hgc := grownCap_ge w (n + m) c E
   have TD : Sat σ w.drew := hs
   have Ci : (Builtin.append_ #[T, U] ty #[.slice p n c, .string str]).run P w =
       .ok (.slice (some ⟨w.heap.size, 0, none⟩) (n + m) (grownCap w (n + m) c E))
         (w.drew.alloc (.cells (cs.toArray ++ ys.toArray ++ Builtin.zeroCells z.cells (grownCap w (n + m) c E - (n + m))) E)) := by
     have vM : ¬ (9223372036854775807 < ((n : Int) + (m : Int))) := by omega
     have vN : ¬ (281474976710656 < Builtin.nextslicecap (n + m) c * i.bytes) := by omega
     simp [Builtin.append_, run_underlying ht, run_underlying hU, Ho, hm, Go.sizeOf, typeInfo, zeroValue, hi, hz, Builtin.lenOf, HB, vM, vN, Question.forced, oX, Mp _ TD, newRow, grownCap]
     congr 2
     apply Array.ext'
     simp [List.append_assoc]
   refine ⟨_, _, σ.set w.heap.size _, Ci, hΦ _ _ _ ⟨hlen, by omega, .inr ⟨w.heap.size, 0, _, E, rfl, Hp.AB _ _ _, hgc, ?_, ?_⟩⟩ ?_ (.inr ⟨by omega, Ext.set (FX hs), fun a ha => by cases ha; exact FX hs⟩), Fin.alloc hs hF _ rfl ⟨rfl, rfl, fun _ => ⟨1, rfl⟩⟩ rfl⟩
   · simp only [Array.size_append, List.size_toArray, size_zeroCells, hzs, BY.1, hyl, ← Nat.add_mul]
     have : n + m + (grownCap w (n + m) c E - (n + m)) = grownCap w (n + m) c E := by omega
     rw [this]; omega
   · simp only [Array.toList_append, List.drop_zero]
     rw [← hlen]
     exact List.take_left
   · rw [Hp.Mo (FX hs)]
     exact Ext.IS σ p
end append
end Tw
end
section
namespace Tw
open Go
variable [Ev]
def Hp.or (N M : Hp) : Hp := fun k => match N k with | some o => some o | none => M k
def Dis (N M : Hp) : Prop := ∀ k, M k ≠ none → N k = none
theorem Hp.qY {N M : Hp} {k : Nat} {o : Obj} (h : N k = some o) : N.or M k = some o := by simp [Hp.or, h]
theorem Hp.aV {N M : Hp} {k : Nat} (h : N k = none) : N.or M k = M k := by simp [Hp.or, h]
theorem Ext.qY (N M : Hp) : Ext N (N.or M) := fun _ _ h => Hp.qY h
theorem Ext.aV {N M : Hp} (hd : Dis N M) : Ext M (N.or M) := fun k o h => by rw [Hp.aV (hd k (by rw [h]; simp))]; exact h
theorem Ext.lx {N M σ : Hp} (h1 : Ext N σ) (h2 : Ext M σ) : Ext (N.or M) σ := fun k o h => by
 unfold Hp.or at h
 split at h
 · rename_i u hu; cases h; exact h1 _ _ hu
 · exact h2 _ _ h
end Tw
end
section
namespace TwW
open Go Tw Go.Proofs.Tryz
theorem Ac {σ : Hp} {b o : Nat} {c : Array Value} {t : TypeId} {fr : Nat × Nat} {v : Value} (h : σ b = some (.cells c t fr)) (hv : c[o]? = some v) : σ.ld ⟨b, o, none⟩ = some v := by simp [Hp.ld, h, hv]
section
variable {σ : Hp} {d : Nat} {S : List Nat} {R : Rr}
end
end TwW
namespace TwW
open Go Tw Go.Proofs.Tryz
section
variable {σ : Hp} {d : Nat} {S : List Nat} {R : Rr}
theorem A9.cap {s : Nat} {σ : Hp} {p : Option Addr} {n c : Nat} {cs : List Value} (h : A9 s σ p n c cs) : n ≤ c := by
 rcases h.2.2 with ⟨_, h1, h2⟩ | ⟨b, o, arr, T, _, _, h3, _⟩
 · omega
 · exact h3
end
end TwW
namespace TwW
open Go Tw Go.Proofs.Tryz
def uv (x : Nat) : List Int := if h : 128 ≤ x then ((x % 128 + 128 : Nat) : Int) :: uv (x / 128) else [(x : Int)]
termination_by x
decreasing_by omega
theorem MW {x : Nat} (h : 128 ≤ x) : uv x = ((x % 128 + 128 : Nat) : Int) :: uv (x / 128) := by rw [uv, dif_pos h]
theorem Ep {x : Nat} (h : ¬ 128 ≤ x) : uv x = [(x : Int)] := by rw [uv, dif_neg h]
theorem ly : ∀ (k x : Nat), x < 128 ^ (k + 1) → (uv x).length ≤ k + 1
 | 0, x, h => by rw [Ep (by simpa using h)]; simp
 | k + 1, x, h => by
   by_cases hx : 128 ≤ x
   · rw [MW hx]
     have := ly k (x / 128) (by rw [Nat.div_lt_iff_lt_mul (by decide)]; rw [Nat.pow_succ] at h; exact h)
     simp; omega
   · rw [Ep hx]; simp
theorem Kg {x : Nat} (h : x < 18446744073709551616) : (uv x).length ≤ 10 := ly 9 x (by omega)
set_option maxRecDepth 100000 in
theorem AEx : ∀ y : Fin 256, Go.bits .or .u8 (y.1 : Int) 128 = ((y.1 % 128 + 128 : Nat) : Int) := by decide
theorem NI {R : Rr} {σ : Hp} {p : Option Addr} {n c x : Nat} {xs : List Int} (hr : E7 .u8 σ p n xs) (hn : n ≤ 70368744177664) (hx : x < 18446744073709551616)
   (h : ∀ p' n' c' σ', Dj .u8 (σ.new σ') p' n' c' (xs ++ uv x) → Ext σ σ' → R (.returned (.slice p' n' c')) σ') : Spec prog 107 #[.slice p n c, .int .u64 x] σ R := by
 refine Du.start fun b hb => ?_
 refine Dz A9.empty ((Ez.of_map hr).mono (.set hb)) GF.P2 (by omega) fun p' c' σ' BY Iu => ?_
 have hq : ∀ a : Addr, (some (⟨b, 0, none⟩ : Addr)) = some a → σ a.block = none := fun a ha => by cases ha; exact hb
 have ho := A9.QU BY (GO hq Iu (.set hb))
 have he := Kv hq Iu (.set hb)
 refine ⟨p', 0 + n, c', rfl, ?_⟩
 rw [Nat.zero_add] at ho ⊢
 have hlen := hr.1
 suffices H : ∀ (k x n' : Nat) p' c' σ' ys, x < 128 ^ (k + 1) → n' + k ≤ n + 9 → Dj .u8 (σ.new σ') p' n' c' ys → Ext σ σ' → (∀ p' n' c' σ', Dj .u8 (σ.new σ') p' n' c' (ys ++ uv x) → Ext σ σ' → R (.returned (.slice p' n' c')) σ') → Du.Hi R x p' n' c' σ' from
   H 9 x n p' c' σ' xs (by omega) (by omega) ho he h
 intro k
 induction k with
 | zero =>
   intro x n' p' c' σ' ys hx WD ho he h
   refine Du.BD ⟨fun Au => by omega, fun _ aK yc b2 PY => ?_⟩
   have aW : aK = (x : Int) := by rw [yc]; simp [IntKind.wrap, IntKind.bits, IntKind.signed]; omega
   subst aW
   refine Dj.JZ he ho (by omega) (fun p2 c2 σ2 Bb oO _ => ⟨p2, n' + 1, c2, rfl, h _ _ _ _ ?_ oO⟩) PY
   rw [Ep (by omega)]; exact Bb
 | succ k ih =>
   intro x n' p' c' σ' ys hx WD ho he h
   refine Du.BD ⟨fun Au x15 AKT x16 AKU b2 PY => ?_, fun fV aK yc b2 PY => ?_⟩
   · have h15 : x15 = ((x % 256 : Nat) : Int) := by rw [AKT]; simp [IntKind.wrap, IntKind.bits, IntKind.signed]
     have h16 : x16 = ((x % 128 + 128 : Nat) : Int) := by
       rw [AKU, h15, AEx ⟨x % 256, Nat.mod_lt _ (by decide)⟩]
       have : x % 256 % 128 = x % 128 := by omega
       rw [this]
     subst h16
     refine Dj.JZ he ho (by omega) (fun p2 c2 σ2 Bb oO _ => ⟨p2, n' + 1, c2, rfl, by simp [IntKind.bits], fun x12 AKV => ?_⟩) PY
     have V7 : x12 = ((x / 128 : Nat) : Int) := by rw [AKV]; simp
     subst V7
     refine ih (x / 128) (n' + 1) p2 c2 σ2 _ (by rw [Nat.div_lt_iff_lt_mul (by decide)]; rw [Nat.pow_succ] at hx; exact hx) (by omega) Bb oO fun p3 n3 c3 σ3 FQ he3 => h p3 n3 c3 σ3 ?_ he3
     rw [MW (by omega)]
     simpa using FQ
   · have aW : aK = (x : Int) := by rw [yc]; simp [IntKind.wrap, IntKind.bits, IntKind.signed]; omega
     subst aW
     refine Dj.JZ he ho (by omega) (fun p2 c2 σ2 Bb oO _ => ⟨p2, n' + 1, c2, rfl, h _ _ _ _ ?_ oO⟩) PY
     rw [Ep (by omega)]; exact Bb
theorem aX : ∀ (v w : Nat) (r s : List Int), uv v ++ r = uv w ++ s → v = w ∧ r = s := by
 intro v
 induction v using Nat.strongRecOn with
 | _ v ih =>
 intro w r s h
 by_cases hv : 128 ≤ v <;> by_cases hw : 128 ≤ w
 · rw [MW hv, MW hw] at h
   simp only [List.cons_append, List.cons.injEq] at h
   have := ih (v / 128) (by omega) (w / 128) r s h.2
   exact ⟨by omega, this.2⟩
 · rw [MW hv, Ep hw] at h
   simp only [List.cons_append, List.cons.injEq] at h
   omega
 · rw [Ep hv, MW hw] at h
   simp only [List.cons_append, List.cons.injEq] at h
   omega
 · rw [Ep hv, Ep hw] at h
   simp only [List.cons_append, List.nil_append, List.cons.injEq] at h
   exact ⟨by omega, h.2⟩
end TwW
namespace TwW
open Go Tw Go.RowKit Go.Proofs.Tryz
theorem Ez.at1 {σ : Hp} {p : Option Addr} {n k : Nat} {L : List Value} {v : Value} (h : Ez 1 σ p n L) (hk : L[k]? = some v) : ∃ b o, p = some ⟨b, o, none⟩ ∧ σ.ld ⟨b, o + k * 1, none⟩ = some v := by
 obtain ⟨h1, _, h2⟩ := h
 have Au := (List.getElem?_eq_some_iff.1 hk).1
 rcases h2 with h2 | ⟨b, o, hp, hl⟩
 · simp at h1; omega
 · refine ⟨b, o, hp, ?_⟩
   rw [Nat.mul_one]
   exact hl.get hk
section
variable {σ τ : Hp} {d : Nat} {R : Rr}
end
section
variable {dir : ByteArray} {cnt : Nat}
end
end TwW
namespace TwW
open Go Tw Go.RowKit Go.Proofs.Tryz
def ZE (s : ByteArray) : List Int := s.data.toList.map fun b => (b.toNat : Int)
theorem LJ {s : ByteArray} : (ZE s).length = s.size := by simp [ZE]
theorem lz {s : ByteArray} : SE s = (ZE s).map (.int .u8) := by simp [SE, ZE]
theorem SG (l : List UInt8) : strOfNums (l.map fun b => (b.toNat : Int)) = ⟨l.toArray⟩ := by
 apply ByteArray.ext
 apply Array.toList_inj.1
 rw [strOfNums_data, List.map_map]
 conv => rhs; rw [← List.map_id l]
 exact List.map_congr_left fun a _ => by simp
theorem UK {s : ByteArray} : strOfNums (ZE s) = s := by
 rw [ZE, SG]
theorem dQ {s t : ByteArray} (h : ZE s = ZE t) : s = t := by rw [← UK (s := s), h, UK]
section
variable {σ : Hp} {R : Rr}
theorem NJ {p : Option Addr} {n c : Nat} {xs : List Int} {s : ByteArray} (hr : E7 .u8 σ p n xs) (hn : n ≤ 1048576) (hs : s.size ≤ 1048576)
   (h : ∀ p' n' c' σ', Dj .u8 (σ.new σ') p' n' c' (xs ++ uv s.size ++ ZE s) → Ext σ σ' → R (.returned (.slice p' n' c')) σ') : Spec prog 108 #[.slice p n c, .string s] σ R := by
 refine Ln.start fun x8 h8 => ?_
 have e8 : x8 = (s.size : Int) := by rw [h8]; simp [IntKind.wrap, IntKind.bits, IntKind.signed]; omega
 subst e8
 refine NI hr (by omega) (by omega) fun p' n' c' σ1 ho CD => ⟨p', n', c', rfl, ?_⟩
 have hq : ∀ a, p' = some a → σ a.block = none := fun a ha => by
   have h2 := A9.block ho a ha
   cases hh : (σ.new σ1) a.block with
   | none => exact absurd hh h2
   | some o => exact (AX.1 hh).1
 have hl : (xs ++ uv s.size).length = n' := by have := ho.1; simpa using this
 have SH := Kg (x := s.size) (by omega)
 have uX : xs.length = n := hr.1
 rw [List.length_append] at hl
 refine qX underlying9 (A9.mono (Ext.Cj _ _) ho) rfl lz (by omega) fun p2 c2 σ2 Bb A6 _ => ⟨p2, _, c2, rfl, ?_⟩
 have PY := GO hq A6 CD
 refine h p2 _ c2 σ2 ?_ (Kv hq A6 CD)
 have := A9.QU Bb PY
 simpa [Dj] using this
theorem PC {p : Option Addr} {n c : Nat} {xs : List Int} (h : Dj .u8 σ p n c xs) : xs.length = n := by have := h.1; simpa using this
theorem dR {s : ByteArray} : (ByteArray.toList s == ByteArray.toList (ByteArray.mk #[])) = decide (s.size = 0) := by
 rw [ByteArray.toList_eq, ByteArray.toList_eq]
 by_cases h : s.size = 0
 · have : s = ⟨#[]⟩ := ByteArray.ext (Array.eq_empty_of_size_eq_zero h)
   subst this; rfl
 · rw [decide_eq_false h]
   simp only [beq_eq_false_iff_ne]
   intro e
   apply h
   have := congrArg List.length e
   simpa using this
end
end TwW
namespace TwW
open Go Tw Go.RowKit Go.Proofs.Tryz
abbrev Lb := ByteArray × ByteArray
def CH (_ : Hp) (vs : List Value) (x : Lb) : Prop := vs = [.string x.1, .string x.2]
theorem CH.mono : Gz CH := fun _ _ _ _ _ h => h
abbrev FV := Af 2 CH
section
variable {σ : Hp} {R : Rr}
theorem FV.at {p : Option Addr} {n i : Nat} {ls : List Lb} {x : Lb} (hr : FV σ p n ls) (hx : ls[i]? = some x) : ∃ b o, p = some ⟨b, o, none⟩ ∧ Aq σ b (o + i * 2) [.string x.1, .string x.2] := by
 obtain ⟨b, o, vs, hp, rfl, hl⟩ := Af.idx hr hx
 exact ⟨b, o, hp, hl⟩
theorem QF {s t : ByteArray} : (s.toList == t.toList) = decide (s = t) := by
 rw [ByteArray.toList_eq, ByteArray.toList_eq]
 by_cases h : s = t
 · subst h; simp
 · rw [decide_eq_false h, beq_eq_false_iff_ne]
   exact fun e => h (ByteArray.ext (Array.toList_inj.1 e))
theorem QG {α : Type} {xs : List α} {k : Nat} {y : α} (hy : xs[k]? = some y) : xs.drop k = y :: xs.drop (k + 1) := by
 obtain ⟨h, rfl⟩ := List.getElem?_eq_some_iff.1 hy
 exact List.drop_eq_getElem_cons h
def Dl : List Lb → ByteArray → ByteArray
 | [], _ => ⟨#[]⟩
 | x :: l, k => if x.1 = k then x.2 else Dl l k
theorem TR {p : Option Addr} {n c : Nat} {ls : List Lb} {k : ByteArray} (hr : FV σ p n ls) (h : R (.returned (.string (Dl ls k))) σ) : Spec prog 180 #[.slice p n c, .string k] σ R := by
 refine H5.start ?_
 suffices H : ∀ d i : Nat, n - i = d → i ≤ n → Dl ls k = Dl (ls.drop i) k → H5.Hg R k p n c n i σ from H n 0 rfl (Nat.zero_le _) rfl
 intro d
 induction d with
 | zero =>
   intro i hd hi he
   refine H5.Bd ⟨fun Au => by omega, fun _ => ?_⟩
   rw [List.drop_of_length_le (by rw [hr.1]; omega)] at he
   rw [he] at h; exact h
 | succ d ih =>
   intro i hd hi he
   refine H5.Bd ⟨fun _ => ?_, fun hh => by omega⟩
   have Be : i < n := by omega
   obtain ⟨x, hx⟩ := hr.ex Be
   obtain ⟨b, o, rfl, hl⟩ := FV.at hr hx
   rw [QG hx, Dl] at he
   refine ⟨b, o, rfl, by omega, x.1, x.2, by simpa using hl, fun _ => ⟨fun hk => ?_, fun hk => ⟨AL Be hr.big, ih (i + 1) (by omega) (by omega) ?_⟩⟩⟩
   · rw [QF, decide_eq_true_eq] at hk
     rw [if_pos hk] at he
     rw [he] at h; exact h
   · rw [QF, decide_eq_false_iff_not] at hk
     rwa [if_neg hk] at he
theorem dS {s : ByteArray} {ok : UInt8 → Bool} {pt : Int → Prop} {G : Bool → Prop}
   (iq : G true → pt s.size) (I8 : ∀ (k : Nat) (u : UInt8), k < s.size → s.data[Int.toNat (k : Int)]? = some u → AN ((k : Int) + 1) → (ok u = true → pt ((k : Int) + 1)) → (ok u = false → G false) → pt k)
   (h : G (s.data.toList.all ok)) (hb : s.size ≤ 4611686018427387904) : pt 0 := by
 have Hf : s.data.toList.length = s.size := rfl
 suffices H : ∀ d k : Nat, s.size - k = d → k ≤ s.size → (s.data.toList.take k).all ok = true → pt k from H s.size 0 rfl (Nat.zero_le _) rfl
 intro d
 induction d with
 | zero =>
   intro k hd hk JP
   rw [List.take_of_length_le (by omega)] at JP
   rw [JP] at h
   have : k = s.size := by omega
   rw [this]; exact iq h
 | succ d ih =>
   intro k hd hk JP
   have IN : k < s.size := by omega
   obtain ⟨u, hu⟩ : ∃ u, s.data.toList[k]? = some u := ⟨_, List.getElem?_eq_getElem (by omega)⟩
   refine I8 k u IN (by simpa using hu) (by unfold AN; omega) (fun hc => ih (k + 1) (by omega) (by omega) (by rw [Aa hu, List.all_append, JP]; simpa using hc)) fun hc => ?_
   have : s.data.toList.all ok = false := by
     rw [List.all_eq_false]
     exact ⟨u, List.mem_of_getElem? hu, by simp [hc]⟩
   rwa [this] at h
def dgt (u : UInt8) : Bool := decide (48 ≤ u.toNat ∧ u.toNat ≤ 57)
def nch (u : UInt8) : Bool := decide (u.toNat = 95 ∨ (48 ≤ u.toNat ∧ u.toNat ≤ 57) ∨ (65 ≤ u.toNat ∧ u.toNat ≤ 90) ∨ (97 ≤ u.toNat ∧ u.toNat ≤ 122))
def Db (s : ByteArray) : Bool := decide (0 < s.size) && decide (s.size ≤ 64) && !(s.data.toList.head?.any dgt) && s.data.toList.all nch
theorem Kh {s : ByteArray} (h : R (.returned (.bool (Db s))) σ) : Spec prog 98 #[.string s] σ R := by
 have Hf : s.data.toList.length = s.size := rfl
 refine FI.start ⟨fun h0 => ?_, fun h0 => ⟨fun h1 => ?_, fun h1 => ?_⟩⟩
 · rw [dR, decide_eq_true_eq] at h0
   simpa [Db, h0] using h
 · have : ¬ s.size ≤ 64 := by omega
   simpa [Db, this] using h
 · rw [dR, decide_eq_false_iff_not] at h0
   obtain ⟨u, hu⟩ : ∃ u, s.data.toList[0]? = some u := ⟨_, List.getElem?_eq_getElem (by omega)⟩
   have Cy : s.data[Int.toNat (0 : Int)]? = some u := by simpa using hu
   have hh : s.data.toList.head? = some u := by rw [← hu]; cases s.data.toList <;> rfl
   have rest : dgt u = false → FI.DG R s 0 σ := fun hd => by
     have e : Db s = s.data.toList.all nch := by simp [Db, show 0 < s.size by omega, show s.size ≤ 64 by omega, hh, hd]
     rw [e] at h
     refine dS (s := s) (pt := fun k => FI.DG R s k σ) (ok := nch) (G := fun t => R (.returned (.bool t)) σ) (fun g => FI.Cs ⟨fun Au => by omega, fun _ => g⟩) (fun k u hk hu hi good bad => ?_) h (by omega)
     simp only [nch, decide_eq_true_eq, decide_eq_false_iff_not] at good bad
     refine FI.Cs ⟨fun Au => ⟨u, by omega, hu, ?_⟩, fun fV => by omega⟩
     clear h
     generalize u.toNat = n at good bad
     repeat' (first | refine ⟨fun _ => ?_, fun _ => ?_⟩ | exact ⟨hi, good (by omega)⟩ | exact bad (by omega))
   simp only [dgt, decide_eq_false_iff_not] at rest
   refine ⟨u, by omega, Cy, fun h2 => ⟨u, by omega, Cy, fun h3 => ?_, fun h3 => rest (by omega)⟩, fun h2 => rest (by omega)⟩
   have : dgt u = true := by simp [dgt]; omega
   simpa [Db, hh, this] using h
def vl : Nat → Nat → Nat → List UInt8 → Bool
 | 0, _, _, [] => true
 | _ + 1, _, _, [] => false
 | 0, _, _, c :: r =>
   if c.toNat < 128 then vl 0 128 191 r
   else if 194 ≤ c.toNat ∧ c.toNat ≤ 223 then vl 1 128 191 r
   else if 224 ≤ c.toNat ∧ c.toNat ≤ 239 then (if c.toNat = 224 then vl 2 160 191 r else if c.toNat = 237 then vl 2 128 159 r else vl 2 128 191 r)
   else if 240 ≤ c.toNat ∧ c.toNat ≤ 244 then (if c.toNat = 240 then vl 3 144 191 r else if c.toNat = 244 then vl 3 128 143 r else vl 3 128 191 r)
   else false
 | m + 1, lo, hi, c :: r => if c.toNat < lo ∨ hi < c.toNat then false else vl m 128 191 r
def TS (s : ByteArray) : Bool := vl 0 128 191 s.data.toList
theorem vl0 (l : List UInt8) (a b c d : Nat) : vl 0 a b l = vl 0 c d l := by cases l <;> rfl
attribute [local irreducible] Ai.CL Ai.G4 Ai.j8 in
theorem Pp {s : ByteArray} (hb : s.size ≤ 4611686018427387904) (h : R (.returned (.bool (TS s))) σ) : Spec prog 99 #[.string s] σ R := by
 have Hf : s.data.toList.length = s.size := rfl
 refine Ai.start ?_
 suffices H : ∀ d : Nat, (∀ k : Nat, s.size - k = d → k ≤ s.size → TS s = vl 0 128 191 (s.data.toList.drop k) → Ai.CL R s k σ) ∧
     (∀ (k m lo hi : Nat), s.size - k = d → k ≤ s.size → TS s = vl m lo hi (s.data.toList.drop k) → m ≤ 3 → Ai.j8 R s k m lo hi σ) from (H s.size).1 0 (by omega) (by omega) rfl
 intro d
 induction d with
 | zero =>
   have A : ∀ k : Nat, s.size - k = 0 → k ≤ s.size → TS s = vl 0 128 191 (s.data.toList.drop k) → Ai.CL R s k σ := fun k hd hk he => by
     refine Ai.BF ⟨fun _ => ?_, fun A4 => by omega⟩
     rw [List.drop_of_length_le (by omega)] at he
     rw [he] at h; exact h
   refine ⟨A, fun k m lo hi hd hk he hm => Ai.dE ⟨fun h0 => A k hd hk ?_, fun h0 => ⟨fun _ => ?_, fun A4 => by omega⟩⟩⟩
   · have : m = 0 := by omega
     subst this; rw [he]; exact vl0 _ _ _ _ _
   · obtain ⟨m', rfl⟩ : ∃ m', m = m' + 1 := ⟨m - 1, by omega⟩
     rw [List.drop_of_length_le (by omega)] at he
     rw [he] at h; exact h
 | succ d ih =>
   have A : ∀ k : Nat, s.size - k = d + 1 → k ≤ s.size → TS s = vl 0 128 191 (s.data.toList.drop k) → Ai.CL R s k σ := fun k hd hk he => by
     have IN : k < s.size := by omega
     obtain ⟨u, hu⟩ : ∃ u, s.data.toList[k]? = some u := ⟨_, List.getElem?_eq_getElem (by omega)⟩
     have Cy : s.data[Int.toNat (k : Int)]? = some u := by simpa using hu
     have hi : AN ((k : Int) + 1) := by unfold AN; omega
     rw [QG hu, vl] at he
     have st : ∀ (m lo hi : Nat), m ≤ 3 → TS s = vl m lo hi (s.data.toList.drop (k + 1)) → Ai.G4 R s k m lo hi σ := fun m lo hh hm he => Ai.qA ⟨hi, ih.2 (k + 1) m lo hh (by omega) (by omega) he hm⟩
     have nx : TS s = vl 0 128 191 (s.data.toList.drop (k + 1)) → Ai.CL R s ((k : Int) + 1) σ := fun he => ih.1 (k + 1) (by omega) (by omega) he
     have no : TS s = false → R (.returned (.bool false)) σ := fun e => by rw [e] at h; exact h
     refine Ai.BF ⟨fun A4 => by omega, fun _ => ⟨u, by omega, Cy, ?_⟩⟩
     generalize s.data.toList.drop (k + 1) = r at he st nx
     clear ih h hu Cy
     generalize u.toNat = n at he
     have st1 := st 1 128 191 (by omega)
     have st2 := st 2 160 191 (by omega)
     have sN := st 2 128 159 (by omega)
     have st4 := st 2 128 191 (by omega)
     have st5 := st 3 144 191 (by omega)
     have st6 := st 3 128 143 (by omega)
     have st7 := st 3 128 191 (by omega)
     repeat' (first | refine ⟨fun _ => ?_, fun _ => ?_⟩ | refine ⟨hi, nx ?_⟩ | refine st1 ?_ | refine st2 ?_ | refine sN ?_ | refine st4 ?_ | refine st5 ?_ | refine st6 ?_ | refine st7 ?_ | refine no ?_)
     all_goals first | (exfalso; clear he; omega) | (rw [he]; repeat' (first | rfl | rw [if_pos (by omega)] | rw [if_neg (by omega)]))
   refine ⟨A, fun k m lo hi hd hk he hm => Ai.dE ⟨fun h0 => A k hd hk ?_, fun h0 => ⟨fun A4 => by omega, fun _ => ?_⟩⟩⟩
   · have : m = 0 := by omega
     subst this; rw [he]; exact vl0 _ _ _ _ _
   · obtain ⟨m', rfl⟩ : ∃ m', m = m' + 1 := ⟨m - 1, by omega⟩
     have IN : k < s.size := by omega
     obtain ⟨u, hu⟩ : ∃ u, s.data.toList[k]? = some u := ⟨_, List.getElem?_eq_getElem (by omega)⟩
     have Cy : s.data[Int.toNat (k : Int)]? = some u := by simpa using hu
     rw [QG hu, vl] at he
     refine ⟨u, by omega, Cy, fun h1 => ?_, fun h1 => ⟨u, by omega, Cy, fun h2 => ?_, fun h2 => ⟨by unfold AN; omega, by unfold AN; omega, ?_⟩⟩⟩
     · rw [if_pos (by omega)] at he
       rw [he] at h; exact h
     · rw [if_pos (by omega)] at he
       rw [he] at h; exact h
     · rw [if_neg (by omega)] at he
       have := ih.2 (k + 1) m' 128 191 (by omega) (by omega) he (by omega)
       have e1 : ((m' + 1 : Nat) : Int) - 1 = (m' : Nat) := by omega
       rw [e1]; exact this
end
end TwW
namespace TwW
open Go Tw Go.RowKit Go.Proofs.Tryz
section
variable {σ : Hp} {R : Rr}
def sle (a b : ByteArray) : Bool := Op.bytesLess a.toList b.toList || a.toList == b.toList
theorem yd {x y : Operand} {a b : ByteArray} {T : TypeId} : YF prog (do eqGuard .leq T x y (.string a) (.string b); binOp .leq T (.string a) (.string b)) σ (.bool (sle a b)) := fun w _ => by
 simp [eqGuard, binOp, Op.stringOp, sle]
def PD : Option ByteArray → List Lb → Int
 | _, [] => 0
 | pv, x :: l => if Db x.1 = false then 31 else if x.2.size = 0 ∨ 256 < x.2.size ∨ TS x.2 = false then 32 else if pv.any (sle x.1 ·) = true then 33 else PD (some x.1) l
def SI (ls : List Lb) : Int := if 16 < ls.length then 30 else PD none ls
theorem Pr {p : Option Addr} {n c : Nat} {ls : List Lb} (hr : FV σ p n ls) (h : R (.returned (.int .i64 (SI ls))) σ) : Spec prog 68 #[.slice p n c] σ R := by
 have hn : ls.length = n := hr.1
 refine EC.start ⟨fun h1 => ?_, fun h1 => ?_⟩
 · rw [SI, if_pos (by omega)] at h; exact h
 rw [SI, if_neg (by omega)] at h
 let pv : Nat → Option ByteArray := fun i => if i = 0 then none else (ls[i - 1]?).map (·.1)
 suffices H : ∀ d i : Nat, n - i = d → i ≤ n → PD none ls = PD (pv i) (ls.drop i) → EC.LY R p n c p n c n i σ from H n 0 rfl (Nat.zero_le _) rfl
 intro d
 induction d with
 | zero =>
   intro i hd hi he
   refine EC.IX ⟨fun Au => by omega, fun _ => ?_⟩
   rw [List.drop_of_length_le (by omega)] at he
   rw [he] at h; exact h
 | succ d ih =>
   intro i hd hi he
   have Be : i < n := by omega
   obtain ⟨x, hx⟩ := hr.ex Be
   obtain ⟨b, o, rfl, hl⟩ := FV.at hr hx
   rw [QG hx, PD] at he
   have out : ∀ e : Int, PD none ls = e → R (.returned (.int .i64 e)) σ := fun e h1 => h1 ▸ h
   refine EC.IX ⟨fun _ => ?_, fun hh => by omega⟩
   refine ⟨b, o, rfl, by omega, x.1, x.2, by simpa using hl, fun _ => Kh ⟨_, rfl, fun h1 => out _ ?_, fun h1 => ?_⟩⟩
   · rw [he, if_pos h1]
   rw [if_neg (by simp [h1])] at he
   rw [dR]
   refine ⟨fun h2 => out _ ?_, fun h2 => ⟨fun h3 => out _ ?_, fun h3 => Pp (by omega) ⟨_, rfl, fun h4 => out _ ?_, fun h4 => ?_⟩⟩⟩
   · rw [he, if_pos (.inl (by simpa using h2))]
   · rw [he, if_pos (.inr (.inl (by omega)))]
   · rw [he, if_pos (.inr (.inr h4))]
   rw [if_neg (by rw [decide_eq_false_iff_not] at h2; simp [h2, h4]; omega)] at he
   have nx : pv (i + 1) = some x.1 := by simp [pv, hx]
   have go : (pv i).any (sle x.1 ·) = false → EC.LY R (aD b o) n c (aD b o) n c n ((i : Int) + 1) σ := fun h5 => by
     rw [if_neg (by simp [h5]), ← nx] at he
     exact ih (i + 1) (by omega) (by omega) he
   refine ⟨fun h5 => ?_, fun h5 => ⟨AL Be hr.big, go ?_⟩⟩
   · obtain ⟨y, hy⟩ := hr.ex (k := i - 1) (by omega)
     obtain ⟨b', o', hp, cX⟩ := FV.at hr hy
     cases hp
     have e1 : ((i : Int) - 1).toNat = i - 1 := by omega
     have hpv : pv i = some y.1 := by simp [pv, hy, show i ≠ 0 by omega]
     refine ⟨by have := hr.big; unfold AN; omega, b, o, rfl, by omega, y.1, by rw [e1]; exact cX.1, _, yd, fun h6 => out _ ?_, fun h6 => ⟨AL Be hr.big, go ?_⟩⟩
     · rw [he, if_pos (by rw [hpv]; exact h6)]
     · rw [hpv]; exact h6
   · have : i = 0 := by omega
     simp [pv, this]
theorem UL : ∀ {ls : List Lb} {pv : Option ByteArray}, PD pv ls = 0 → ∀ x ∈ ls, Db x.1 = true ∧ 0 < x.2.size ∧ x.2.size ≤ 256 ∧ TS x.2 = true
 | [], _, _, _, hx => by cases hx
 | y :: l, pv, h, x, hx => by
   rw [PD] at h
   split at h
   · cases h
   split at h
   · cases h
   split at h
   · cases h
   rename_i h1 h2 h3
   rcases List.mem_cons.1 hx with rfl | hx
   · simp only [not_or, Bool.not_eq_false] at h1 h2
     exact ⟨h1, by omega, by omega, h2.2.2⟩
   · exact UL h x hx
def Ao (ls : List Lb) : Prop := ls.length ≤ 16 ∧ ∀ x ∈ ls, x.1.size ≤ 256 ∧ x.2.size ≤ 256
theorem Ao.of {ls : List Lb} (h : SI ls = 0) : Ao ls := by
 unfold SI at h
 split at h
 · cases h
 · refine ⟨by omega, fun x hx => ?_⟩
   obtain ⟨h1, _, h2, _⟩ := UL h x hx
   simp [Db] at h1
   exact ⟨by omega, h2⟩
theorem CH.one (σ : Hp) (vs : List Value) (x : Lb) (h : CH σ vs x) : GF vs := by
 rw [h]
 intro u hu
 simp only [List.mem_cons, List.not_mem_nil, or_false] at hu
 rcases hu with rfl | rfl <;> rfl
theorem IA {σ1 : Hp} {q : Option Addr} {j c b : Nat} {ls : List Lb} {ty : TypeId} {Φ : Value → Hp → Prop} (ht : FV σ1 q j ls) (hb : j ≤ 1000000000)
   (hΦ : ∀ p' c' σ', GG 2 CH (σ1.new σ') p' j c' ls → Ext σ1 σ' → Φ (.slice p' j c') σ') (hn : σ1 b = none) :
   AJ prog (Builtin.append_ #[37, 37] ty #[.slice (some ⟨b, 0, none⟩) 0 0, .slice q j c]) (σ1.set b (.cells #[] 56 (0, 0))) Φ := by
 obtain ⟨h1, cs, h2, h3⟩ := ht
 refine Dz A9.empty (h2.mono (.set hn)) (Ch.vP CH.one h3 (by decide)) (by omega) fun p' c' σ' BY Iu => ?_
 have hq : ∀ a : Addr, (some (⟨b, 0, none⟩ : Addr)) = some a → σ1 a.block = none := fun a ha => by cases ha; exact hn
 rw [Nat.zero_add] at BY ⊢
 rw [List.nil_append] at BY
 exact hΦ p' c' σ' ⟨h1, cs, A9.QU BY (GO hq Iu (.set hn)), h3⟩ (Kv hq Iu (.set hn))
def Lv (x : Lb) : List Int := uv x.1.size ++ ZE x.1 ++ (uv x.2.size ++ ZE x.2)
def fW (ls : List Lb) : List Int := uv ls.length ++ ls.flatMap Lv
theorem fX {x : Lb} (h : x.1.size ≤ 256 ∧ x.2.size ≤ 256) : (Lv x).length ≤ 532 := by
 have h1 := Kg (x := x.1.size) (by omega)
 have h2 := Kg (x := x.2.size) (by omega)
 simp only [Lv, List.length_append, LJ]
 omega
theorem l3 {ls : List Lb} (h : ∀ x ∈ ls, x.1.size ≤ 256 ∧ x.2.size ≤ 256) : (ls.flatMap Lv).length ≤ ls.length * 532 := by
 induction ls with
 | nil => simp
 | cons x l ih =>
   have := ih fun y hy => h y (List.mem_cons_of_mem _ hy)
   have := fX (h x (by simp))
   rw [List.flatMap_cons, List.length_append, List.length_cons]
   omega
theorem VU {p : Option Addr} {n c : Nat} {ls : List Lb} (hr : FV σ p n ls) (hs : Ao ls) (h : ∀ p' n' c' σ', Dj .u8 (σ.new σ') p' n' c' (fW ls) → Ext σ σ' → R (.returned (.slice p' n' c')) σ') : Spec prog 72 #[.slice p n c] σ R := by
 have hn : ls.length = n := hr.1
 have h16 := hs.1
 refine Ek.start fun x8 h8 => ?_
 have e8 : x8 = (n : Int) := by rw [h8]; simp [IntKind.wrap, IntKind.bits, IntKind.signed]; omega
 subst e8
 refine NI Af.nil (by omega) (by omega) fun p1 n1 c1 σ1 Zy CD => ⟨p1, n1, c1, rfl, ?_⟩
 rw [List.nil_append] at Zy
 suffices H : ∀ d k : Nat, ∀ p3 n3 c3 σ3, n - k = d → k ≤ n → Dj .u8 (σ.new σ3) p3 n3 c3 (uv n ++ (ls.take k).flatMap Lv) → Ext σ σ3 → Ek.A2 R p3 n3 c3 p n c n k σ3 from H n 0 p1 n1 c1 σ1 rfl (Nat.zero_le _) (by simpa using Zy) CD
 intro d
 induction d with
 | zero =>
   intro k p3 n3 c3 σ3 hd hk ho hx
   refine Ek.AY ⟨fun Au => by omega, fun _ => h p3 n3 c3 σ3 ?_ hx⟩
   rw [List.take_of_length_le (by omega)] at ho
   rw [fW, hn]; exact ho
 | succ d ih =>
   intro k p3 n3 c3 σ3 hd hk ho hx
   have IN : k < n := by omega
   obtain ⟨y, hy⟩ := hr.ex IN
   obtain ⟨b, o, rfl, hl⟩ := FV.at hr hy
   have iM := hs.2 y (List.mem_of_getElem? hy)
   have hl3 := PC ho
   have SH := Kg (x := n) (by omega)
   have hfl := l3 (ls := ls.take k) fun x hx => hs.2 x (List.mem_of_mem_take hx)
   rw [List.length_append] at hl3
   rw [List.length_take] at hfl
   have h3b : n3 ≤ 9000 := by omega
   refine Ek.AY ⟨fun _ => ⟨b, o, rfl, by omega, y.1, y.2, by simpa using hl.mono hx, fun _ => ?_⟩, fun hh => by omega⟩
   refine NJ (Dj.rd (A9.mono (Ext.Cj _ _) ho)) (by omega) (by omega) fun p4 n4 c4 σ4 NK Mm => ⟨p4, n4, c4, rfl, ?_⟩
   have hl4 := PC NK
   have fY := Kg (x := y.1.size) (by omega)
   simp only [List.length_append, LJ] at hl4
   refine NJ (Dj.rd (A9.mono (Ext.Cj _ _) NK)) (by omega) (by omega) fun p5 n5 c5 σ5 QH TT => ⟨p5, n5, c5, rfl, AL IN hr.big, ?_⟩
   refine ih (k + 1) p5 n5 c5 σ5 (by omega) (by omega) ?_ (hx.trans (Mm.trans TT))
   have := A9.mono (Ext.DD (hx.trans Mm)) QH
   rw [Aa hy, List.flatMap_append]
   simpa [Lv, Dj] using this
end
end TwW
namespace TwW
open Go Tw Go.RowKit Go.Proofs.Tryz
section
variable {σ σ' τ : Hp} {R : Rr}
def CO (x : ByteArray) (xs : List ByteArray) : Bool := xs.any fun y => decide (x = y)
theorem A7 {x : ByteArray} {xs : List ByteArray} : CO x xs = true ↔ x ∈ xs := by simp [CO]
theorem Ki {p : Option Addr} {n c : Nat} {x : ByteArray} {xs : List ByteArray} (hr : Ez 1 σ p n (xs.map .string)) (h : R (.returned (.bool (CO x xs))) σ) : Spec prog 199 #[.slice p n c, .string x] σ R := by
 have hn : xs.length = n := by have := hr.1; simpa using this
 have MX : n ≤ 4611686018427387904 := hr.2.1
 have key : ∀ i : Int, (0 ≤ i ↔ x ∈ xs) → AA R (CI .i64 fun x7 y => R (.returned (.bool (decide (0 ≤ x7)))) y) (.returned (.int .i64 i)) σ := fun i hi => ⟨i, rfl, by
   dsimp only
   rw [show decide (0 ≤ i) = CO x xs by rw [Bool.eq_iff_iff, A7, decide_eq_true_eq]; exact hi]; exact h⟩
 refine EZ.start (BI.start ?_)
 suffices H : ∀ d k : Nat, n - k = d → k ≤ n → x ∉ xs.take k → BI.Hg (AA R (CI .i64 fun x7 y => R (.returned (.bool (decide (0 ≤ x7)))) y)) p n c x n k σ from H n 0 rfl (Nat.zero_le _) (by simp)
 intro d
 induction d with
 | zero =>
   intro k hd hk Dy
   refine BI.Bd ⟨fun Au => by omega, fun _ => key (-1) ?_⟩
   rw [List.take_of_length_le (by omega)] at Dy
   exact ⟨fun h => absurd h (by decide), fun h => absurd h Dy⟩
 | succ d ih =>
   intro k hd hk Dy
   have IN : k < n := by omega
   obtain ⟨y, hy⟩ : ∃ y, xs[k]? = some y := ⟨_, List.getElem?_eq_getElem (by omega)⟩
   obtain ⟨b, o, rfl, hl⟩ := Ez.at1 hr (k := k) (v := .string y) (by rw [List.getElem?_map, hy]; rfl)
   refine BI.Bd ⟨fun _ => ⟨b, o, rfl, by omega, y, by simpa using hl, fun he => key k ⟨fun _ => ?_, fun _ => by omega⟩, fun A4 => ⟨AL IN MX, ih (k + 1) (by omega) (by omega) ?_⟩⟩, fun fV => by omega⟩
   · rw [QF, decide_eq_true_eq] at he
     rw [he]; exact List.mem_of_getElem? hy
   · rw [QF, decide_eq_false_iff_not] at A4
     rw [HV hy]
     rintro (h1 | h1)
     · exact Dy h1
     · exact A4 h1
theorem PE {f : Nat} {cap : Array Value} {g : Lb → Bool} {p : Option Addr} {n c : Nat} {ls : List Lb} (N0 : Enters prog f) (hr : FV σ p n ls) (hn : n ≤ 1000000)
   (hf : ∀ (σ' : Hp) (x : Lb) (R' : Rr), Ext σ σ' → R' (.returned (.bool (g x))) σ' → Spec prog f (#[] ++ #[.agg #[.string x.1, .string x.2]] ++ cap) σ' R')
   (h : ∀ p' n' c' σ', GG 2 CH (σ.new σ') p' n' c' (ls.filter g) → Ext σ σ' → R (.returned (.slice p' n' c')) σ') : Spec prog 197 #[.slice p n c, .func (.func f) #[] cap] σ R := by
 have qZ : ls.length = n := hr.1
 refine CM.start ?_
 suffices H : ∀ d k : Nat, ∀ p5 n5 c5 σ5, n - k = d → k ≤ n → GG 2 CH (σ.new σ5) p5 n5 c5 ((ls.take k).filter g) → Ext σ σ5 → CM.A2 R (.func (.func f) #[] cap) p5 n5 c5 p n c n k σ5 from H n 0 none 0 0 σ rfl (Nat.zero_le _) GG.nil (.refl _)
 intro d
 induction d with
 | zero =>
   intro k p5 n5 c5 σ5 hd hk ho hx
   refine CM.AY ⟨fun Au => by omega, fun _ => h p5 n5 c5 σ5 ?_ hx⟩
   rw [List.take_of_length_le (by omega)] at ho; exact ho
 | succ d ih =>
   intro k p5 n5 c5 σ5 hd hk ho hx
   have IN : k < n := by omega
   obtain ⟨x, fZ⟩ := hr.ex IN
   obtain ⟨b, o, rfl, hl⟩ := FV.at hr fZ
   have hn5 : n5 ≤ n := by
     have h1 := ho.1
     have h2 := List.length_filter_le g (ls.take k)
     rw [List.length_take] at h2
     omega
   have ht : (ls.take (k + 1)).filter g = (ls.take k).filter g ++ if g x then [x] else [] := by
     rw [Aa fZ, List.filter_append]
     by_cases hg : g x <;> simp [hg]
   refine CM.AY ⟨fun _ => ⟨b, o, rfl, by omega, x.1, x.2, by simpa using hl.mono hx, fun _ => ⟨f, #[], cap, rfl, N0, hf σ5 x _ hx ⟨_, rfl, fun hg CV AKW => ?_, fun hg => ?_⟩⟩⟩, fun hh => by omega⟩
   · refine GG.JZ CH.mono (vs := [.string x.1, .string x.2]) (x := x) hx ho rfl (CH.one σ _ _ rfl) rfl (by omega) (fun p' c' σ' Mp Xy => ⟨_, _, _, rfl, CM.QA ⟨AL IN hr.big, ih (k + 1) _ _ _ _ (by omega) (by omega) ?_ Xy⟩⟩) AKW
     rw [ht, if_pos hg]; exact Mp
   · refine CM.QA ⟨AL IN hr.big, ih (k + 1) _ _ _ _ (by omega) (by omega) ?_ hx⟩
     rw [ht, if_neg (by simp [hg]), List.append_nil]; exact ho
theorem AE1 : Enters prog 200 := fun args w => call200 args w
theorem Iv {p q : Option Addr} {n c m d : Nat} {ls : List Lb} {ns : List ByteArray} (hr : FV σ p n ls) (hn : n ≤ 1000000) (hs : Ez 1 σ q m (ns.map .string))
   (h : ∀ p' n' c' σ', GG 2 CH (σ.new σ') p' n' c' (ls.filter fun x => !CO x.1 ns) → Ext σ σ' → R (.returned (.slice p' n' c')) σ') : Spec prog 150 #[.slice p n c, .slice q m d] σ R := by
 refine Lt.start fun b3 ZF => ?_
 have D8 : Ext σ (σ.set b3 (.cells #[.slice q m d] 34 (0, 0))) := .set ZF
 refine PE (f := 200) (g := fun x => !CO x.1 ns) AE1 (hr.mono CH.mono D8) hn (fun σ' x R' hx LK => ?_) fun p' n' c' σ' ho hx => ⟨_, _, _, rfl, h p' n' c' σ' ?_ (D8.trans hx)⟩
 · refine JK.start fun _ => ⟨q, m, d, Ac (hx _ _ (Hp.AB _ _ _)) rfl, Ki (hs.mono (D8.trans hx)) ⟨_, rfl, LK⟩⟩
 · exact ho.mono CH.mono (Ext.DD D8)
end
end TwW
namespace TwW
open Go Tw Go.RowKit Go.Proofs.Tryz
section
variable {σ σ' τ : Hp} {R : Rr}
theorem VV {α : Type} {b : Nat} {T : TypeId} {f : α → Value} {x : α} {ρ : Hp} (h : ρ b = some (.cells #[f x] T (0, 0))) : Ez 1 ρ (some ⟨b, 0, none⟩) 1 ([x].map f) := ⟨rfl, by omega, .inr ⟨b, 0, rfl, ⟨Ac h rfl, trivial⟩⟩⟩
end
end TwW
end
section
namespace TwW
open Go Tw
structure Mt where
 kind : Int
 name : ByteArray
 val : ByteArray
structure Nd where
 kind : Int
 op : Int
 text : ByteArray
 mt : List Mt
 width : Int
 back : Int
 EO : Int
 names : List ByteArray
 bool : Bool
 parts : Int
structure Sr where
 ls : List Lb
 ps : List (Int × Int)
structure El where
 ls : List Lb
 v : Int
structure Rg where
 ls : List Lb
 vs : List Int
structure Vv where
 kind : Int
 v : Int
 vec : List El
 N9 : List Rg
structure Fl where
 num : ByteArray → Int
 abs : Int → Int
 floor : Int → Int
 whole : Int → Int
 l4 : Int → Int
 over : Int → List Int → Int → Option Int
 fold : Int → List Int → Int
 Ps : Int → Int → Int → Int × Bool
 fa : List Mt → List Lb → Bool
 cmpL : List Lb → List Lb → Int
abbrev JM : Int := 9218868437227405314
def CJ : ByteArray := ⟨#[95, 95, 110, 97, 109, 101, 95, 95]⟩
def FK (ls : List Lb) : ByteArray := strOfNums (fW ls)
section
variable {α : Type}
def VW : List (ByteArray × α) → ByteArray → α → List (ByteArray × α)
 | [], k, x => [(k, x)]
 | (a, b) :: l, k, x => if a = k then (k, x) :: l else (a, b) :: VW l k x
def DW : List (ByteArray × α) → ByteArray → Option α
 | [], _ => none
 | (a, b) :: l, k => if a = k then some b else DW l k
end
def BJ (ls : List Lb) : List Lb := ls.filter fun x => !CO x.1 [CJ]
def PF (ns : List ByteArray) (ls : List Lb) : List Lb := ls.filter fun x => CO x.1 ns
def NL (ns : List ByteArray) (ls : List Lb) : List Lb := ls.filter fun x => !CO x.1 ns
section
variable (F : Fl)
def aY (x : El) : List El → List El
 | [] => [x]
 | y :: l => if F.cmpL x.ls y.ls ≤ 0 then x :: y :: l else y :: aY x l
def dT (l : List El) : List El := l.foldr (aY F) []
def Cp (l : List El) : Option (List El) := if l.Pairwise (fun a b => F.cmpL a.ls b.ls ≠ 0) then some (dT F l) else none
def F3 (ps : List (Int × Int)) (Dx Gu : Int) : List (Int × Int) := ps.filter fun p => decide (Dx < p.1) && decide (p.1 ≤ Gu)
def A0 (n : Nd) (ss : List Sr) (at_ : Int) : List El := ss.filterMap fun s => match (F3 s.ps (at_ - n.back - 300) (at_ - n.back)).getLast? with
 | none => none
 | some p => if p.2 = JM ∨ F.fa n.mt s.ls = false then none else some ⟨s.ls, p.2⟩
def aZ (n : Nd) (ss : List Sr) (at_ : Int) : List Rg := ss.filterMap fun s =>
 let vs := ((F3 s.ps (at_ - n.back - n.width) (at_ - n.back)).filter fun p => decide (p.2 ≠ JM)).map Prod.snd
 bif !vs.isEmpty && F.fa n.mt s.ls then some ⟨s.ls, vs⟩ else none
def UM (n : Nd) (p : Vv) : List El := (p.vec.map fun x => ⟨BJ x.ls, if n.op = 11 then F.abs x.v else F.floor x.v⟩) ++ p.N9.filterMap fun s => (F.over n.op s.vs p.v).map fun v => ⟨BJ s.ls, v⟩
def A3 (n : Nd) (ls : List Lb) : List Lb := if n.EO = 1 then PF n.names ls else if n.EO = 2 then BJ (NL n.names ls) else []
def FL (ls : List Lb) (v : Int) : List Rg → List Rg
 | [] => [⟨ls, [v]⟩]
 | g :: l => if FK g.ls = FK ls then ⟨g.ls, g.vs ++ [v]⟩ :: l else g :: FL ls v l
def Kj (n : Nd) (p : Vv) : List El := (p.vec.foldl (fun gs x => FL (A3 n x.ls) x.v gs) []).map fun g => ⟨g.ls, F.fold n.op g.vs⟩
def Er (op : Int) : Bool := decide (5 ≤ op) && decide (op ≤ 10)
def OS (n : Nd) (vec : List El) (f : Int → Int × Bool) : List El := vec.filterMap fun x =>
 if Er n.op = false ∨ n.bool = true then some ⟨BJ x.ls, (f x.v).1⟩ else if (f x.v).2 then some x else none
def Nt (n : Nd) (ls : List Lb) : List Lb := if n.EO = 3 then PF n.names ls else BJ (NL n.names ls)
def VX (n : Nd) (l : List El) : List (ByteArray × El) := l.foldl (fun m x => VW m (FK (Nt n x.ls)) x) []
def UN (n : Nd) (l : List El) (k : List Lb) : Option El := DW (VX n l) (FK k)
def fc (n : Nd) (l : List El) : Bool := decide ((VX n l).length = l.length)
def SJ (n : Nd) (x y : List El) : List El :=
 (x.filter fun e => decide (n.op = 12) || ((UN n y (Nt n e.ls)).isSome == decide (n.op = 11))) ++ y.filter fun e => (UN n x (Nt n e.ls)).isNone && decide (n.op = 12)
def UO (n : Nd) (x y : List El) : Option (List El) := if fc n x && fc n y then some (x.filterMap fun e => match UN n y (Nt n e.ls) with
 | none => none
 | some o => if Er n.op = false ∨ n.bool = true then some ⟨Nt n e.ls, (F.Ps n.op e.v o.v).1⟩ else if (F.Ps n.op e.v o.v).2 then some e else none) else none
def l5 (n : Nd) (x y : Vv) : Option Vv :=
 if x.kind = 1 ∧ y.kind = 1 then some ⟨1, (F.Ps n.op x.v y.v).1, [], []⟩
 else ((if x.kind = 1 then some (OS n y.vec (F.Ps n.op x.v)) else if y.kind = 1 then some (OS n x.vec fun v => F.Ps n.op v y.v) else if 11 ≤ n.op ∧ n.op ≤ 13 then some (SJ n x.vec y.vec) else UO F n x.vec y.vec).bind (Cp F)).map fun l => ⟨2, 0, l, []⟩
def l6 (p : Vv) : Option Vv := if p.kind = 1 then some ⟨1, F.l4 p.v, [], []⟩ else (Cp F (p.vec.map fun x => ⟨BJ x.ls, F.l4 x.v⟩)).map fun l => ⟨2, 0, l, []⟩
def EH (ss : List Sr) (at_ : Int) (n : Nd) (l : List Vv) : Option Vv :=
 if n.kind = 1 then some ⟨1, F.num n.text, [], []⟩
 else if n.kind = 2 then some ⟨2, 0, A0 F n ss at_, []⟩
 else if n.kind = 3 then some ⟨3, F.whole n.width, [], aZ F n ss at_⟩
 else match l with
   | [p] => if n.kind = 4 then (Cp F (UM F n p)).map fun l => ⟨2, 0, l, []⟩ else if n.kind = 5 then (Cp F (Kj F n p)).map fun l => ⟨2, 0, l, []⟩ else if n.kind = 7 then l6 F p else none
   | [p, q] => if n.kind = 6 then l5 F n p q else none
   | _ => none
def Iw (ss : List Sr) (at_ : Int) : List Nd → List Vv → Option (List Vv)
 | [], st => some st
 | n :: t, st => (EH F ss at_ n (st.drop (st.length - n.parts.toNat))).bind fun v => Iw ss at_ t (st.take (st.length - n.parts.toNat) ++ [v])
def BC (t : List Nd) (ss : List Sr) (at_ : Int) : Option (List El) := (Iw F ss at_ t []).bind fun st => st.head?.map fun v => if v.kind = 1 then [⟨[], v.v⟩] else v.vec
end
section
variable {F : Fl}
end
end TwW
end
section
namespace TwW
open Go Tw
structure Lw {α : Type} (c : α → α → Int) : Prop where
 eq : ∀ x y, c x y = 0 ↔ x = y
 VY : ∀ x y, c x y < 0 ↔ 0 < c y x
 trans : ∀ x y z, c x y < 0 → c y z < 0 → c x z < 0
def IB {α : Type} (c : α → α → Int) : List α → List α → Int
 | [], [] => 0
 | [], _ :: _ => -1
 | _ :: _, [] => 1
 | x :: l, y :: m => if c x y = 0 then IB c l m else c x y
def SK {α β : Type} (c : α → α → Int) (d : β → β → Int) (x y : α × β) : Int := if c x.1 y.1 = 0 then d x.2 y.2 else c x.1 y.1
theorem Lw.IB {α : Type} {c : α → α → Int} (h : Lw c) : Lw (IB c) := by
 refine ⟨fun l => ?_, fun l => ?_, fun l => ?_⟩
 · induction l with
   | nil => intro m; cases m <;> simp [TwW.IB]
   | cons x l ih =>
     intro m
     cases m with
     | nil => simp [TwW.IB]
     | cons y m =>
       unfold TwW.IB
       by_cases hc : c x y = 0
       · rw [if_pos hc, ih]; simp [(h.eq x y).1 hc]
       · rw [if_neg hc]; simp [hc, mt (h.eq x y).2 hc]
 · induction l with
   | nil => intro m; cases m <;> simp [TwW.IB]
   | cons x l ih =>
     intro m
     cases m with
     | nil => simp [TwW.IB]
     | cons y m =>
       unfold TwW.IB
       by_cases hc : c x y = 0
       · have Xz := (h.eq x y).1 hc
         rw [if_pos hc, if_pos ((h.eq y x).2 Xz.symm), ih]
       · have ye : c y x ≠ 0 := fun e => hc ((h.eq x y).2 ((h.eq y x).1 e).symm)
         rw [if_neg hc, if_neg ye, h.VY]
 · induction l with
   | nil =>
     intro m k h1 h2
     cases m with
     | nil => simp [TwW.IB] at h1
     | cons y m =>
       cases k with
       | nil => simp [TwW.IB] at h2
       | cons z k => simp [TwW.IB]
   | cons x l ih =>
     intro m k h1 h2
     cases m with
     | nil => simp [TwW.IB] at h1
     | cons y m =>
       cases k with
       | nil => simp [TwW.IB] at h2
       | cons z k =>
         unfold TwW.IB at h1 h2 ⊢
         by_cases Xz : c x y = 0
         · rw [if_pos Xz] at h1
           have e := (h.eq x y).1 Xz
           subst e
           by_cases ad : c x z = 0
           · rw [if_pos ad] at h2 ⊢; exact ih m k h1 h2
           · rw [if_neg ad] at h2 ⊢; exact h2
         · rw [if_neg Xz] at h1
           by_cases ad : c y z = 0
           · rw [if_pos ad] at h2
             have e := (h.eq y z).1 ad
             subst e
             rw [if_neg Xz]; exact h1
           · rw [if_neg ad] at h2
             have h3 := h.trans x y z h1 h2
             rw [if_neg (by omega)]; exact h3
theorem Lw.SK {α β : Type} {c : α → α → Int} {d : β → β → Int} (h : Lw c) (g : Lw d) : Lw (SK c d) := by
 refine ⟨fun x y => ?_, fun x y => ?_, fun x y z h1 h2 => ?_⟩
 · obtain ⟨x1, x2⟩ := x
   obtain ⟨y1, y2⟩ := y
   unfold TwW.SK
   by_cases hc : c x1 y1 = 0
   · simp only [hc, if_pos]; rw [g.eq]; simp [(h.eq x1 y1).1 hc]
   · simp only [hc, if_false]; simp [hc, mt (h.eq x1 y1).2 hc]
 · unfold TwW.SK
   by_cases hc : c x.1 y.1 = 0
   · rw [if_pos hc, if_pos ((h.eq _ _).2 ((h.eq _ _).1 hc).symm), g.VY]
   · rw [if_neg hc, if_neg (fun e => hc ((h.eq _ _).2 ((h.eq _ _).1 e).symm)), h.VY]
 · unfold TwW.SK at h1 h2 ⊢
   by_cases Xz : c x.1 y.1 = 0
   · rw [if_pos Xz] at h1
     rw [(h.eq _ _).1 Xz]
     by_cases ad : c y.1 z.1 = 0
     · rw [if_pos ad] at h2 ⊢; exact g.trans _ _ _ h1 h2
     · rw [if_neg ad] at h2 ⊢; exact h2
   · rw [if_neg Xz] at h1
     by_cases ad : c y.1 z.1 = 0
     · rw [if_pos ad] at h2
       rw [← (h.eq _ _).1 ad, if_neg Xz]; exact h1
     · rw [if_neg ad] at h2
       have h3 := h.trans _ _ _ h1 h2
       rw [if_neg (by omega)]; exact h3
def ae (a b : UInt8) : Int := if a < b then -1 else if b < a then 1 else 0
theorem VZ {a b : UInt8} : ae a b < 0 ↔ a.toNat < b.toNat := by
 unfold ae
 by_cases h : a < b
 · have := UInt8.lt_iff_toNat_lt.1 h; simp [h, this]
 · have h' := mt UInt8.lt_iff_toNat_lt.2 h
   rw [if_neg h]
   by_cases g : b < a <;> simp [g] <;> omega
theorem dU {a b : UInt8} : 0 < ae a b ↔ b.toNat < a.toNat := by
 unfold ae
 by_cases h : a < b
 · have := UInt8.lt_iff_toNat_lt.1 h; simp [h]; omega
 · rw [if_neg h]
   by_cases g : b < a
   · have := UInt8.lt_iff_toNat_lt.1 g; simp [g, this]
   · have h' := mt UInt8.lt_iff_toNat_lt.2 g; simp [g]; omega
theorem qa : Lw ae := by
 refine ⟨fun x y => ?_, fun x y => ?_, fun x y z h1 h2 => ?_⟩
 · have h1 := @VZ x y
   have h2 := @dU x y
   rw [← UInt8.toNat_inj]; omega
 · rw [VZ, dU]
 · rw [VZ] at *; omega
theorem l7 : ∀ a b : List UInt8, IB ae a b = Lib.compareBytes a b
 | [], [] => rfl
 | [], _ :: _ => rfl
 | _ :: _, [] => rfl
 | x :: l, y :: m => by
   unfold IB Lib.compareBytes
   rw [← l7 l m]
   unfold ae
   by_cases h1 : x < y
   · simp [h1]
   · by_cases h2 : y < x <;> simp [h1, h2]
def JR (a b : ByteArray) : Int := Lib.compareBytes a.data.toList b.data.toList
theorem dV : Lw JR := by
 have h := qa.IB
 refine ⟨fun x y => ?_, fun x y => ?_, fun x y z h1 h2 => ?_⟩
 · unfold JR
   rw [← l7, h.eq]
   exact ⟨fun e => by cases x; cases y; simp at e; rw [e], fun e => by rw [e]⟩
 · unfold JR; rw [← l7, ← l7]; exact h.VY _ _
 · unfold JR at *; rw [← l7] at *; exact h.trans _ _ _ h1 h2
def Ca : List Lb → List Lb → Int := IB (SK JR JR)
theorem Ax : Lw Ca := (dV.SK dV).IB
section
variable {F : Fl} (hF : F.cmpL = Ca)
theorem OT (x : El) : ∀ l : List El, (aY F x l).Perm (x :: l)
 | [] => List.Perm.refl _
 | y :: l => by
   unfold aY
   split
   · exact List.Perm.refl _
   · exact ((OT x l).cons y).trans (List.Perm.swap ..)
theorem Ix : ∀ l : List El, (dT F l).Perm l
 | [] => List.Perm.refl _
 | x :: l => (OT x _).trans ((Ix l).cons x)
include hF
theorem le_trans' {x y z : El} (h1 : F.cmpL x.ls y.ls ≤ 0) (h2 : F.cmpL y.ls z.ls ≤ 0) : F.cmpL x.ls z.ls ≤ 0 := by
 rw [hF] at *
 rcases Int.lt_or_eq_of_le h1 with g1 | g1
 · rcases Int.lt_or_eq_of_le h2 with g2 | g2
   · exact Int.le_of_lt (Ax.trans _ _ _ g1 g2)
   · rw [← (Ax.eq _ _).1 g2]; exact h1
 · rw [(Ax.eq _ _).1 g1]; exact h2
theorem PH (x : El) : ∀ l : List El, l.Pairwise (fun a b => F.cmpL a.ls b.ls ≤ 0) → (aY F x l).Pairwise fun a b => F.cmpL a.ls b.ls ≤ 0
 | [], _ => by simp [aY]
 | y :: l, h => by
   rw [List.pairwise_cons] at h
   unfold aY
   split
   · rename_i Xz
     refine List.pairwise_cons.2 ⟨fun z hz => ?_, List.pairwise_cons.2 h⟩
     rcases List.mem_cons.1 hz with rfl | hz
     · exact Xz
     · exact le_trans' hF Xz (h.1 z hz)
   · rename_i Xz
     refine List.pairwise_cons.2 ⟨fun z hz => ?_, PH x l h.2⟩
     rcases List.mem_cons.1 ((OT x l).mem_iff.1 hz) with rfl | hz
     · have h1 : 0 < F.cmpL z.ls y.ls := by omega
       rw [hF] at *
       exact Int.le_of_lt ((Ax.VY _ _).2 h1)
     · exact h.1 z hz
theorem NM : ∀ l : List El, (dT F l).Pairwise fun a b => F.cmpL a.ls b.ls ≤ 0
 | [] => List.Pairwise.nil
 | x :: l => PH hF x _ (NM l)
theorem fe {l m : List El} (hp : m.Perm l) (hs : m.Pairwise fun a b => F.cmpL a.ls b.ls < 0) : Cp F l = some m := by
 have A4 : m.Pairwise fun a b => F.cmpL a.ls b.ls ≠ 0 := hs.imp fun h => by omega
 have AKX : l.Pairwise fun a b => F.cmpL a.ls b.ls ≠ 0 := (hp.pairwise_iff fun {a b} h e => by
   rw [hF] at *
   exact h ((Ax.eq _ _).2 ((Ax.eq _ _).1 e).symm)).1 A4
 unfold Cp
 rw [if_pos AKX]
 refine congrArg some (List.Perm.eq_of_pairwise (le := fun a b : El => F.cmpL a.ls b.ls ≤ 0) (fun a b ha hb h1 h2 => ?_) (NM hF l) (hs.imp fun h => Int.le_of_lt h) ((Ix l).trans hp.symm))
 have S9 : F.cmpL a.ls b.ls = 0 := by
   refine Int.le_antisymm h1 (Int.not_lt.1 fun h3 => ?_)
   rw [hF] at *
   have := (Ax.VY _ _).1 h3
   omega
 have ham := ((Ix (F := F) l).trans hp.symm).mem_iff.1 ha
 obtain ⟨i, hi, rfl⟩ := List.mem_iff_getElem.1 ham
 obtain ⟨j, hj, rfl⟩ := List.mem_iff_getElem.1 hb
 have oP := List.pairwise_iff_getElem.1 A4
 rcases Nat.lt_trichotomy i j with h | h | h
 · exact absurd S9 (oP i j hi hj h)
 · subst h; rfl
 · have h4 := oP j i hj hi h
   rw [hF] at S9 h4
   exact absurd ((Ax.eq _ _).2 ((Ax.eq _ _).1 S9).symm) h4
theorem fg {l m : List El} (hp : m.Perm l) (h : ¬ m.Pairwise fun a b => F.cmpL a.ls b.ls ≠ 0) : Cp F l = none := by
 unfold Cp
 rw [if_neg fun hl => h ((hp.pairwise_iff fun {a b} h e => by
   rw [hF] at *
   exact h ((Ax.eq _ _).2 ((Ax.eq _ _).1 e).symm)).2 hl)]
end
end TwW
end
section
namespace TwW
open Go Tw
def EL (c : UInt8) (s : ByteArray) : List ByteArray := Lib.splitB ⟨#[c]⟩ 0 (Lib.countB s ⟨#[c]⟩) s
def fh : List ByteArray → ByteArray → Bool
 | [], _ => true
 | t :: r, s => if Lib.index s.data.toList t.data.toList < 0 then false else fh r (s.extract ((Lib.index s.data.toList t.data.toList).toNat + t.size) s.size)
def yf (l : List ByteArray) (s : ByteArray) : Bool :=
 let a := l.head?.getD ⟨#[]⟩
 let z := l.getLast?.getD ⟨#[]⟩
 if l.length = 1 then decide (s = a) else
   if s.size < a.size + z.size ∨ s.extract 0 a.size ≠ a ∨ s.extract (s.size - z.size) s.size ≠ z then false else fh l.tail.dropLast (s.extract a.size (s.size - z.size))
def X0 (p s : ByteArray) : Bool := (EL 124 p).any fun x => yf (EL 42 x) s
def NN (m : Mt) (ls : List Lb) : Bool :=
 let v := Dl ls m.name
 if m.kind = 1 then decide (v = m.val) else if m.kind = 2 then decide (v ≠ m.val) else if m.kind = 3 then X0 m.val v else if m.kind = 4 then !X0 m.val v else false
def JN (ms : List Mt) (ls : List Lb) : Bool := ms.all fun m => NN m ls
def Bf (u : UInt8) : Bool := decide (48 ≤ u.toNat ∧ u.toNat ≤ 57)
end TwW
end
section
namespace TwW
open Go Tw
def Ly (v least : Int) : Bool := decide (least ≤ v) && decide (v < 2147483648)
section
variable (l8 : ByteArray → Bool) (ANu : ByteArray → Bool)
def OU (n : Nd) : Bool := n.names.all l8 && (decide (n.names.length = 0) || decide (n.EO ≠ 0))
def Gv (ms : List Mt) : Int := if 8 < ms.length then 41 else if ms.all (fun m => decide (1 ≤ m.kind ∧ m.kind ≤ 4) && l8 m.name && decide (m.val.size ≤ 256)) then 0 else 40
end
end TwW
end
section
namespace TwW
open Go Tw Go.RowKit Go.Proofs.Tryz
abbrev Pt := Int × Int
def JO (_ : Hp) (vs : List Value) (x : Pt) : Prop := vs = [.int .i64 x.1, .int .u64 x.2]
theorem JO.mono : Gz JO := fun _ _ _ _ _ h => h
def EP (σ : Hp) (vs : List Value) (s : Sr) : Prop := ∃ p n c q m d, vs = [.slice p n c, .slice q m d] ∧ FV σ p n s.ls ∧ Af 2 JO σ q m s.ps ∧ m ≤ d
theorem EP.mono : Gz EP := fun _ _ _ _ hx ⟨p, n, c, q, m, d, hv, h1, h2, h3⟩ => ⟨p, n, c, q, m, d, hv, h1.mono CH.mono hx, h2.mono JO.mono hx, h3⟩
def Nu (_ : Hp) (vs : List Value) (m : Mt) : Prop := vs = [.int .i64 m.kind, .string m.name, .string m.val]
theorem Nu.mono : Gz Nu := fun _ _ _ _ _ h => h
def MY (σ : Hp) (vs : List Value) (n : Nd) : Prop := ∃ p k c q m d, vs = [.int .i64 n.kind, .int .i64 n.op, .string n.text, .slice p k c, .int .i64 n.width, .int .i64 n.back, .int .i64 n.EO, .slice q m d, .bool n.bool, .int .i64 n.parts] ∧ Af 3 Nu σ p k n.mt ∧ Ez 1 σ q m (n.names.map .string)
theorem MY.mono : Gz MY := fun _ _ _ _ hx ⟨p, k, c, q, m, d, hv, h1, h2⟩ => ⟨p, k, c, q, m, d, hv, h1.mono Nu.mono hx, h2.mono hx⟩
def Bq (σ : Hp) (vs : List Value) (x : El) : Prop := ∃ p n c, vs = [.slice p n c, .int .u64 x.v] ∧ FV σ p n x.ls
theorem Bq.mono : Gz Bq := fun _ _ _ _ hx ⟨p, n, c, hv, h⟩ => ⟨p, n, c, hv, h.mono CH.mono hx⟩
def SL (σ : Hp) (vs : List Value) (x : Rg) : Prop := ∃ p n c q m d, vs = [.slice p n c, .slice q m d] ∧ FV σ p n x.ls ∧ E7 .u64 σ q m x.vs ∧ m ≤ d
theorem SL.mono : Gz SL := fun _ _ _ _ hx ⟨p, n, c, q, m, d, hv, h1, h2, h3⟩ => ⟨p, n, c, q, m, d, hv, h1.mono CH.mono hx, h2.mono hx, h3⟩
def MZ (σ : Hp) (vs : List Value) (x : Vv) : Prop := ∃ p n c q m d, vs = [.int .i64 x.kind, .int .u64 x.v, .slice p n c, .slice q m d] ∧ Af 2 Bq σ p n x.vec ∧ Af 2 SL σ q m x.N9
theorem MZ.mono : Gz MZ := fun _ _ _ _ hx ⟨p, n, c, q, m, d, hv, h1, h2⟩ => ⟨p, n, c, q, m, d, hv, h1.mono Bq.mono hx, h2.mono SL.mono hx⟩
theorem Af.sub {α : Type} {s : Nat} {E : Hp → List Value → α → Prop} {σ : Hp} {p : Option Addr} {n c i m : Nat} {xs : List α} (h : Af s E σ p n xs) (hs : 0 < s) (him : i + m ≤ n) (hc : n ≤ c) : Af s E σ (IK p i c s) m ((xs.drop i).take m) := by
 obtain ⟨h1, cs, ⟨h2, h3, h4⟩, h5, h6⟩ := h
 refine ⟨by rw [List.length_take, List.length_drop]; omega, (cs.drop (i * s)).take (m * s), ⟨?_, by omega, ?_⟩, ?_, fun j x hj => ?_⟩
 · have : i * s + m * s ≤ n * s := by rw [← Nat.add_mul]; exact Nat.mul_le_mul_right _ him
   rw [List.length_take, List.length_drop]; omega
 · rcases Nat.eq_zero_or_pos m with hm | hm
   · exact .inl hm
   · rcases h4 with h4 | ⟨b, o, rfl, h4⟩
     · omega
     · refine .inr ⟨b, o + i * s, ?_, ?_⟩
       · unfold IK
         rw [if_neg (by omega)]
         simp [Bi]
       · exact h4.part
 · have : i * s + m * s ≤ n * s := by rw [← Nat.add_mul]; exact Nat.mul_le_mul_right _ him
   rw [List.length_take, List.length_drop, List.length_take, List.length_drop]
   have : min m (xs.length - i) = m := by omega
   rw [this]; omega
 · rw [List.getElem?_take] at hj
   split at hj
   · rename_i hjm
     rw [List.getElem?_drop] at hj
     have := h6 (i + j) x hj
     have e : ((((cs.drop (i * s)).take (m * s)).drop (j * s)).take s) = (cs.drop ((i + j) * s)).take s := by
       have hle : j * s + s ≤ m * s := by rw [← Nat.succ_mul]; exact Nat.mul_le_mul_right _ hjm
       rw [List.drop_take, List.take_take, List.drop_drop, Nat.add_mul]
       congr 1
       omega
     rw [e]; exact this
   · cases hj
section
variable {σ σ' τ : Hp} {R : Rr}
theorem fi {a b : ByteArray} : YN prog 168 #[.string a, .string b] σ (.int .i64 (JR a b)) := fun w _ => by
 rw [run_callFunc_extern Go.Proofs.Tryz.func168 (by kernel_rfl) (by kernel_rfl) (by kernel_rfl) (e := Extern.BytealgCompare.compare) (by kernel_rfl), Lib.run_compareString]
 rfl
theorem PI [Ev] {a b : ByteArray} (h : R (.returned (.int .i64 (JR a b))) σ) : Spec prog 78 #[.string a, .string b] σ R :=
 JG.start (By.start (.y fi ⟨_, rfl, _, rfl, h⟩))
theorem af [Ev] {x y : Lb} (h : ∀ σ', Ext σ σ' → R (.returned (.int .i64 (SK JR JR x y))) σ') : Spec prog 76 #[.agg #[.string x.1, .string x.2], .agg #[.string y.1, .string y.2]] σ R := by
 refine JF.start fun _ _ => PI ⟨_, rfl, PI ⟨_, rfl, fun b hb => ?_⟩⟩
 have hh := h _ (.set hb (o := .cells #[.int .i64 (JR x.1 y.1), .int .i64 (JR x.2 y.2)] 3 (0, 0)))
 unfold SK at hh
 generalize JR x.1 y.1 = u at *
 generalize JR x.2 y.2 = v at *
 refine Gr.start (Gr.AY ⟨fun _ => ⟨b, 0, rfl, by omega, u, by simp [Hp.ld, Hp.AB], fun h0 => ⟨_, rfl, ?_⟩, fun h0 => ⟨by unfold AN; omega, Gr.AY ⟨fun _ => ⟨b, 0, rfl, by omega, v, by simp [Hp.ld, Hp.AB], fun h1 => ⟨_, rfl, ?_⟩, fun h1 => ⟨by unfold AN; omega, Gr.AY ⟨fun h2 => by omega, fun _ => ⟨_, rfl, ?_⟩⟩⟩⟩, fun h2 => by omega⟩⟩⟩, fun h2 => by omega⟩)
 · rw [if_neg h0] at hh; exact hh
 · rw [if_pos (Decidable.not_not.1 h0)] at hh; exact hh
 · have h1' : v = 0 := Decidable.not_not.1 h1
   rw [if_pos (Decidable.not_not.1 h0), h1'] at hh
   rw [← h1'] at hh ⊢
   exact hh
theorem AKY : Enters prog 76 := fun args w => call76 args w
theorem A8 {α : Type} {xs : List α} {k : Nat} {y : α} (hy : xs[k]? = some y) : xs.drop k = y :: xs.drop (k + 1) := by
 obtain ⟨h, rfl⟩ := List.getElem?_eq_some_iff.1 hy
 exact List.drop_eq_getElem_cons h
theorem LL [Ev] {p q : Option Addr} {n c m d : Nat} {ls ms : List Lb} (hr : FV σ p n ls) (hs : FV σ q m ms) (h : ∀ σ', Ext σ σ' → R (.returned (.int .i64 (Ca ls ms))) σ') : Spec prog 52 #[.slice p n c, .slice q m d] σ R := by
 have hl : ls.length = n := hr.1
 have hm : ms.length = m := hs.1
 refine Lq.start (Av.start ?_)
 suffices H : ∀ g k : Nat, ∀ σ', n - k = g → k ≤ n → k ≤ m → Ext σ σ' → Ca ls ms = Ca (ls.drop k) (ms.drop k) → Av.Hg (AA R (CI .i64 fun x7 y => R (.returned (.int .i64 x7)) y)) p n c q m d (.func (.func 76) #[] #[]) p n c n k σ' from H n 0 σ rfl (Nat.zero_le _) (Nat.zero_le _) (.refl _) rfl
 intro g
 induction g with
 | zero =>
   intro k σ' hg hk uY hx he
   have bz : k = n := by omega
   rw [List.drop_eq_nil_of_le (by omega)] at he
   refine Av.Bd ⟨fun Au => by omega, fun _ => ⟨fun hnm => ⟨_, rfl, ?_⟩, fun hnm => ⟨_, rfl, ?_⟩⟩⟩
   · obtain ⟨y, hy⟩ := hs.ex (k := k) (by omega)
     rw [A8 hy] at he
     have := h σ' hx
     rw [he] at this; exact this
   · rw [List.drop_eq_nil_of_le (by omega)] at he
     have := h σ' hx
     rw [he] at this; exact this
 | succ g ih =>
   intro k σ' hg hk uY hx he
   obtain ⟨x, fZ⟩ := hr.ex (k := k) (by omega)
   obtain ⟨b, o, rfl, ZG⟩ := FV.at hr fZ
   rw [A8 fZ] at he
   refine Av.Bd ⟨fun _ => ⟨b, o, rfl, by omega, x.1, x.2, by simpa using ZG.mono hx, fun _ => ⟨fun iA => ⟨_, rfl, ?_⟩, fun iA => ?_⟩⟩, fun hh => by omega⟩
   · rw [show ms.drop k = [] from List.drop_eq_nil_of_le (by omega)] at he
     have := h σ' hx
     rw [he] at this; exact this
   · obtain ⟨y, hyk⟩ := hs.ex (k := k) (by omega)
     obtain ⟨b', o', rfl, ah⟩ := FV.at hs hyk
     rw [A8 hyk] at he
     have I8 : Ca ls ms = if SK JR JR x y = 0 then Ca (ls.drop (k + 1)) (ms.drop (k + 1)) else SK JR JR x y := he
     refine ⟨b', o', rfl, by omega, y.1, y.2, by simpa using ah.mono hx, fun _ => ⟨76, #[], #[], rfl, AKY, af fun σ2 A6 => ⟨_, rfl, fun A4 => ⟨_, rfl, ?_⟩, fun heq => ⟨AL (by omega : k < n) hr.big, ih (k + 1) σ2 (by omega) (by omega) (by omega) (hx.trans A6) ?_⟩⟩⟩⟩
     · have := h σ2 (hx.trans A6)
       rw [I8, if_neg A4] at this; exact this
     · rw [I8, if_pos (Decidable.not_not.1 heq)]
def NO : List Pt → Bool
 | [] => false
 | [_] => true
 | a :: b :: l => decide (a.1 < b.1) && NO (b :: l)
theorem NQ : ∀ ps : List Pt, NO ps = true ↔ 0 < ps.length ∧ ∀ j a b, ps[j]? = some a → ps[j + 1]? = some b → a.1 < b.1
 | [] => by simp [NO]
 | [a] => by simp [NO]
 | a :: b :: l => by
   simp only [NO, Bool.and_eq_true, decide_eq_true_eq]
   rw [NQ (b :: l)]
   constructor
   · rintro ⟨h1, h2, h3⟩
     refine ⟨by simp, fun j x y hx hy => ?_⟩
     cases j with
     | zero => simp at hx hy; subst hx; subst hy; exact h1
     | succ j => exact h3 j x y (by simpa using hx) (by simpa using hy)
   · rintro ⟨h1, h2⟩
     exact ⟨h2 0 a b rfl rfl, by simp, fun j x y hx hy => h2 (j + 1) x y (by simpa using hx) (by simpa using hy)⟩
theorem JO.at {p : Option Addr} {n i : Nat} {ps : List Pt} {x : Pt} (hr : Af 2 JO σ p n ps) (hx : ps[i]? = some x) : ∃ b o, p = some ⟨b, o, none⟩ ∧ Aq σ b (o + i * 2) [.int .i64 x.1, .int .u64 x.2] := by
 obtain ⟨b, o, vs, hp, rfl, hl⟩ := Af.idx hr hx
 exact ⟨b, o, hp, hl⟩
theorem X8 {p : Option Addr} {n c : Nat} {ps : List Pt} (hr : Af 2 JO σ p n ps) (h : R (.returned (.bool (NO ps))) σ) : Spec prog 69 #[.slice p n c] σ R := by
 have hl : ps.length = n := hr.1
 refine Dr.start ?_
 have fin : (∀ j a b, ps[j]? = some a → ps[j + 1]? = some b → a.1 < b.1) → R (.returned (.bool (decide (0 < (n : Int))))) σ := fun hh => by
   have e : NO ps = decide (0 < (n : Int)) := by
     rw [Bool.eq_iff_iff, NQ, decide_eq_true_eq]
     exact ⟨fun h => by omega, fun h => ⟨by omega, hh⟩⟩
   rw [e] at h; exact h
 suffices H : ∀ g k : Nat, n - k = g → 1 ≤ k → (∀ j a b, j + 1 < k → ps[j]? = some a → ps[j + 1]? = some b → a.1 < b.1) → Dr.Hi R p n c k σ from H (n - 1) 1 rfl (Nat.le_refl _) (fun j a b hj => by omega)
 intro g
 induction g with
 | zero =>
   intro k hg hk Dy
   refine Dr.BD ⟨fun Au => by omega, fun _ => fin fun j a b ha hb => Dy j a b ?_ ha hb⟩
   have := (List.getElem?_eq_some_iff.1 hb).1; omega
 | succ g ih =>
   intro k hg hk Dy
   obtain ⟨x, hx⟩ := hr.ex (k := k) (by omega)
   obtain ⟨y, hy⟩ := hr.ex (k := k - 1) (by omega)
   obtain ⟨b, o, rfl, ZG⟩ := JO.at hr hx
   obtain ⟨_, _, he, ah⟩ := JO.at hr hy
   cases he
   have e1 : Int.toNat ((k : Int) - 1) = k - 1 := by omega
   refine Dr.BD ⟨fun _ => ⟨b, o, rfl, by omega, x.1, by simpa using ZG.1, by unfold AN; have := hr.big; omega, by omega, y.1, by rw [e1]; simpa using ah.1, fun hle => ?_, fun hgt => ⟨AL (by omega : k < n) hr.big, ih (k + 1) (by omega) (by omega) fun j a b' hj ha hb => ?_⟩⟩, fun hh => by omega⟩
   · have e : NO ps = false := by
       rw [Bool.eq_false_iff, ne_eq, NQ]
       exact fun hh => by
         have := hh.2 (k - 1) y x hy (by rw [show k - 1 + 1 = k by omega]; exact hx)
         omega
     rw [e] at h; exact h
   · by_cases oY : j + 1 = k
     · rw [oY, hx] at hb; cases hb
       rw [show j = k - 1 by omega, hy] at ha; cases ha
       omega
     · exact Dy j a b' (by omega) ha hb
def He : Option (List Lb) → List Sr → Bool
 | _, [] => true
 | q, s :: l => decide (SI s.ls = 0) && NO s.ps && (match q with | none => true | some q => decide (Ca q s.ls < 0)) && He (some s.ls) l
theorem UP (q : Option (List Lb)) (s : Sr) (l : List Sr) : He q (s :: l) = (decide (SI s.ls = 0) && NO s.ps && (match q with | none => true | some q => decide (Ca q s.ls < 0)) && He (some s.ls) l) := by
 cases q <;> rfl
theorem EP.at {p : Option Addr} {n i : Nat} {ss : List Sr} {s : Sr} (hr : Af 2 EP σ p n ss) (hx : ss[i]? = some s) : ∃ b o p1 n1 c1 q m d, p = some ⟨b, o, none⟩ ∧ Aq σ b (o + i * 2) [.slice p1 n1 c1, .slice q m d] ∧ FV σ p1 n1 s.ls ∧ Af 2 JO σ q m s.ps ∧ m ≤ d := by
 obtain ⟨b, o, vs, hp, ⟨p1, n1, c1, q, m, d, rfl, h1, h2, h3⟩, hl⟩ := Af.idx hr hx
 exact ⟨b, o, p1, n1, c1, q, m, d, hp, hl, h1, h2, h3⟩
theorem X9 {p : Option Addr} {n c : Nat} {ss : List Sr} (hr : Af 2 EP σ p n ss) (h : ∀ σ', Ext σ σ' → R (.returned (.int .i64 (if He none ss then 0 else 100))) σ') : Spec prog 46 #[.slice p n c] σ R := by
 have hl : ss.length = n := hr.1
 refine DQ.start ?_
 suffices H : ∀ g k : Nat, ∀ σ', n - k = g → k ≤ n → Ext σ σ' → He none ss = He (if k = 0 then none else (ss[k - 1]?).map (·.ls)) (ss.drop k) → DQ.Hg R p n c p n c n k σ' from H n 0 σ rfl (Nat.zero_le _) (.refl _) rfl
 intro g
 induction g with
 | zero =>
   intro k σ' hg hk hx he
   rw [List.drop_eq_nil_of_le (by omega)] at he
   refine DQ.Bd ⟨fun Au => by omega, fun _ => ?_⟩
   have := h σ' hx
   rw [he] at this; exact this
 | succ g ih =>
   intro k σ' hg hk hx he
   have IN : k < n := by omega
   obtain ⟨s, hs⟩ := hr.ex IN
   obtain ⟨b, o, p1, n1, c1, q, m, d, rfl, UQ, h1, h2, h3⟩ := EP.at hr hs
   rw [A8 hs, UP] at he
   have bad : (decide (SI s.ls = 0) && NO s.ps && (match (if k = 0 then none else (ss[k - 1]?).map (·.ls)) with | none => true | some q => decide (Ca q s.ls < 0))) = false → ∀ σ2, Ext σ σ2 → R (.returned (.int .i64 100)) σ2 := fun hf σ2 A6 => by
     have := h σ2 A6
     rw [he, hf] at this; exact this
   refine DQ.Bd ⟨fun _ => ⟨b, o, rfl, by omega, p1, n1, c1, q, m, d, by simpa using UQ.mono hx, fun _ => Pr (h1.mono CH.mono hx) ⟨_, rfl, fun A4 => bad (by simp [A4]) σ' hx, fun h0 => X8 (h2.mono JO.mono hx) ⟨_, rfl, fun hf => bad (by simp [hf]) σ' hx, fun ht => ?_⟩⟩⟩, fun hh => by omega⟩
   have dW := Decidable.not_not.1 h0
   have iN : NO s.ps = true := ht
   have next : ∀ σ2, Ext σ σ2 → (match (if k = 0 then none else (ss[k - 1]?).map (·.ls)) with | none => true | some q => decide (Ca q s.ls < 0)) = true → AN ((k : Int) + 1) ∧ DQ.Hg R (aD b o) n c (aD b o) n c n ((k : Int) + 1) σ2 := fun σ2 A6 hm => by
     refine ⟨AL IN hr.big, ih (k + 1) σ2 (by omega) (by omega) A6 ?_⟩
     rw [he, hm, dW, iN]
     simp [hs]
   refine ⟨fun QT => ⟨by unfold AN; have := hr.big; omega, b, o, rfl, by omega, ?_⟩, fun QT => next σ' hx (by rw [if_pos (by omega)])⟩
   obtain ⟨s', TD⟩ := hr.ex (k := k - 1) (by omega)
   obtain ⟨_, _, p1', n1', c1', _, _, _, V6, AKa, h1', _, _⟩ := EP.at hr TD
   cases V6
   have e1 : Int.toNat ((k : Int) - 1) = k - 1 := by omega
   refine ⟨p1', n1', c1', by rw [e1]; simpa using (AKa.mono hx).1, LL (h1'.mono CH.mono hx) (h1.mono CH.mono hx) fun σ2 A6 => ⟨_, rfl, fun fV => bad ?_ σ2 (hx.trans A6), fun Au => next σ2 (hx.trans A6) ?_⟩⟩
   · rw [if_neg (by omega), TD]
     simp; omega
   · rw [if_neg (by omega), TD]
     simp; omega
end
end TwW
end
section
namespace TwW
open Go Tw Go.RowKit Go.Proofs.Tryz
def Kk (x : Nat) : Bool := !(FloatKind.f64.format.order x x == some .eq)
def toF (x : Nat) : Nat := if Kk x then 9221120237041090560 else x
theorem SM (d : Ieee.Datum) : d.order d = if d.isNaN then none else some .eq := by
 cases d with
 | nan => rfl
 | infinity s => cases s <;> rfl
 | number s m i => simp [Ieee.Datum.order, Ieee.Datum.isNaN, Std.ReflCmp.compare_self]
theorem NR (x : Nat) : Kk x = true ↔ 9218868437227405312 < x % 9223372036854775808 := by
 have h1 : Kk x = (Ieee.double.read x).isNaN := by
   show (!((Ieee.double.read x).order (Ieee.double.read x) == some .eq)) = _
   rw [SM]
   cases (Ieee.double.read x).isNaN <;> rfl
 rw [h1]
 have e1 : Ieee.double.signWeight = 9223372036854775808 := by decide
 have e2 : Ieee.double.binade = 4503599627370496 := by decide
 have e3 : Ieee.double.infRung = 9218868437227405312 := by decide
 unfold Ieee.Format.read
 simp only [e1, e2, e3]
 split
 · simp [Ieee.Datum.isNaN]; omega
 · split
   · simp [Ieee.Datum.isNaN]; omega
   · split
     · simp [Ieee.Datum.isNaN]; omega
     · simp [Ieee.Datum.isNaN]; omega
theorem YA : Kk 9221120237041090560 = true := (NR _).2 (by decide)
theorem ai (a b t : Nat) : Kk (Question.cut (.nanBits .f64 a b) t) = true := by
 rw [NR]
 show 9218868437227405312 < ((t % 2) * 9223372036854775808 + 9218868437227405312 + 1 + (t / 2) % 4503599627370495) % 9223372036854775808
 have h1 := Nat.mod_lt (t / 2) (show 0 < 4503599627370495 by decide)
 generalize (t / 2) % 4503599627370495 = r at *
 rcases Nat.mod_two_eq_zero_or_one t with h | h <;> rw [h] <;> omega
theorem toF_drawn (a b t : Nat) : toF (Question.cut (.nanBits .f64 a b) t) = 9221120237041090560 := by unfold toF; rw [ai]; rfl
def fAr (op : Int) (a b : Nat) : Option Nat := if op = 1 then Ieee.double.add a b else if op = 2 then Ieee.double.sub a b else if op = 3 then Ieee.double.mul a b else Ieee.double.div a b
def AE3 : Option Nat → Nat
 | some r => toF r
 | none => 9221120237041090560
def AKb (a b : Nat) : Option Nat → Sem Value
 | some r => pure (.float .f64 r)
 | none => do pure (.float .f64 (← choose (.nanBits .f64 a b)))
def V8 (op : Int) (a b : Nat) : Nat := AE3 (fAr op a b)
def fCm (op : Int) (a b : Nat) : Bool :=
 let c := Ieee.double.order a b
 if op = 5 then c == some .eq else if op = 6 then c != some .eq else if op = 7 then c == some .lt else if op = 8 then c == some .lt || c == some .eq else if op = 9 then c == some .gt else if op = 10 then c == some .gt || c == some .eq else false
section
variable [Ev] {σ : Hp} {R : Rr}
theorem NS {b : Nat} : YN prog 45 #[.float .f64 b] σ (.int .u64 b) := fun w _ => by
 rw [run_callFunc_extern Go.Proofs.Tryz.func45 (by kernel_rfl) (by kernel_rfl) (by kernel_rfl) (e := Extern.MathFloatBits.float64bits) (by kernel_rfl)]
 rfl
theorem mA {x : Int} : YN prog 22 #[.int .u64 x] σ (.float .f64 x.toNat) := fun w _ => by
 rw [run_callFunc_extern Go.Proofs.Tryz.func22 (by kernel_rfl) (by kernel_rfl) (by kernel_rfl) (e := Extern.MathFloatBits.float64frombits) (by kernel_rfl)]
 rfl
theorem aj {x : Nat} (h : R (.returned (.bool (Kk x))) σ) : Spec prog 216 #[.float .f64 x] σ R :=
 Q5.start ⟨Kk x, fun w _ => rfl, h⟩
theorem GJ {x : Int} (h : R (.returned (.float .f64 x.toNat)) σ) : Spec prog 182 #[.int .u64 x] σ R :=
 ck.start (.y mA ⟨_, rfl, h⟩)
theorem GK {x : Nat} (h : R (.returned (.int .u64 (toF x : Nat))) σ) : Spec prog 174 #[.float .f64 x] σ R := by
 refine dK.start (aj ⟨_, rfl, fun ht => ?_, fun hf => .y NS ⟨_, rfl, ?_⟩⟩)
 · rw [show toF x = 9221120237041090560 by unfold toF; rw [ht]; rfl] at h; exact h
 · rw [show toF x = x by unfold toF; rw [hf]; rfl] at h; exact h
def YB (x : Int) : Int := (toF x.toNat : Nat)
theorem Fo {x : Int} (h : R (.returned (.int .u64 (YB x))) σ) : Spec prog 186 #[.int .u64 x] σ R :=
 O5.start (GJ ⟨_, rfl, GK ⟨_, rfl, h⟩⟩)
theorem mB {m : Sem Value} {q : Question} {f : Nat → Value} {Φ : Value → Hp → Prop} (hm : ∀ w, m.run prog w = .ok (f (q.cut (w.tape w.drawn q))) { w with drawn := w.drawn + 1 }) (h : ∀ t, Φ (f (q.cut t)) σ) : AJ prog m σ Φ := fun w F hs hF =>
 ⟨_, _, σ, hm w, h _, ⟨fun b o hb => hs b o hb, fun b hb => ⟨(hF b hb).2, rfl⟩, (Cg.same rfl rfl rfl).drew, rfl, Nat.le_refl _⟩⟩
theorem SN {m : Sem Value} {v : Value} {Φ : Value → Hp → Prop} (hm : ∀ w, m.run prog w = .ok v w) (h : Φ v σ) : AJ prog m σ Φ := fun w F hs hF =>
 ⟨_, _, σ, hm w, h, ⟨hs, fun b hb => ⟨(hF b hb).2, rfl⟩, .same rfl rfl rfl, rfl, Nat.le_refl _⟩⟩
theorem LM {op : BinOp} {a b : Nat} {Φ : Value → Hp → Prop} (r : Option Nat) (hr : ∀ w, (Go.binOp op 51 (.float .f64 a) (.float .f64 b)).run prog w = (AKb a b r).run prog w)
   (h : ∀ x : Nat, toF x = AE3 r → Φ (.float .f64 x) σ) : AJ prog (Go.binOp op 51 (.float .f64 a) (.float .f64 b)) σ Φ := by
 cases r with
 | some r => exact SN (v := .float .f64 r) (fun w => (hr w).trans rfl) (h r rfl)
 | none => exact mB (q := .nanBits .f64 a b) (f := fun x => .float .f64 x) (fun w => (hr w).trans rfl) (fun t => h _ (toF_drawn a b t))
theorem QI {a b : Nat} {Φ : Value → Hp → Prop} (h : ∀ x : Nat, toF x = V8 1 a b → Φ (.float .f64 x) σ) : AJ prog (Go.binOp .add 51 (.float .f64 a) (.float .f64 b)) σ Φ :=
 LM (Ieee.double.add a b) (fun w => by refine (show _ = (Op.floatArith .add .f64 a b).run prog w from rfl).trans ?_; unfold Op.floatArith; simp only [FloatKind.format]; cases Ieee.double.add a b <;> rfl) h
theorem qb {a b : Nat} {Φ : Value → Hp → Prop} (h : ∀ x : Nat, toF x = V8 2 a b → Φ (.float .f64 x) σ) : AJ prog (Go.binOp .sub 51 (.float .f64 a) (.float .f64 b)) σ Φ :=
 LM (Ieee.double.sub a b) (fun w => by refine (show _ = (Op.floatArith .sub .f64 a b).run prog w from rfl).trans ?_; unfold Op.floatArith; simp only [FloatKind.format]; cases Ieee.double.sub a b <;> rfl) h
theorem NT {a b : Nat} {Φ : Value → Hp → Prop} (h : ∀ x : Nat, toF x = V8 3 a b → Φ (.float .f64 x) σ) : AJ prog (Go.binOp .mul 51 (.float .f64 a) (.float .f64 b)) σ Φ :=
 LM (Ieee.double.mul a b) (fun w => by refine (show _ = (Op.floatArith .mul .f64 a b).run prog w from rfl).trans ?_; unfold Op.floatArith; simp only [FloatKind.format]; cases Ieee.double.mul a b <;> rfl) h
theorem dX {a b : Nat} {Φ : Value → Hp → Prop} (h : ∀ x : Nat, toF x = V8 4 a b → Φ (.float .f64 x) σ) : AJ prog (Go.binOp .quo 51 (.float .f64 a) (.float .f64 b)) σ Φ :=
 LM (Ieee.double.div a b) (fun w => by refine (show _ = (Op.floatArith .quo .f64 a b).run prog w from rfl).trans ?_; unfold Op.floatArith; simp only [FloatKind.format]; cases Ieee.double.div a b <;> rfl) h
def PJ (op a b : Int) : Int := (V8 op a.toNat b.toNat : Nat)
theorem Iy {op a b : Int} (h : R (.returned (if 1 ≤ op ∧ op ≤ 4 then .tuple #[.int .u64 (PJ op a b), .bool true] else .tuple #[.int .u64 0, .bool false])) σ) : Spec prog 203 #[.int .i64 op, .int .u64 a, .int .u64 b] σ R := by
 refine Rz.start (GJ ⟨_, rfl, GJ ⟨_, rfl, fun h1 => QI fun x hx => ⟨_, rfl, GK ⟨_, rfl, ?_⟩⟩, fun h1 => ⟨fun h2 => qb fun x hx => ⟨_, rfl, GK ⟨_, rfl, ?_⟩⟩, fun h2 => ⟨fun h3 => NT fun x hx => ⟨_, rfl, GK ⟨_, rfl, ?_⟩⟩, fun h3 => ⟨fun h4 => dX fun x hx => ⟨_, rfl, GK ⟨_, rfl, ?_⟩⟩, fun h4 => ?_⟩⟩⟩⟩⟩)
 · subst h1; rw [hx]; exact h
 · subst h2; rw [hx]; exact h
 · subst h3; rw [hx]; exact h
 · subst h4; rw [hx]; exact h
 · rw [if_neg (by omega)] at h; exact h
end
end TwW
end
section
namespace TwW
open Go Tw Go.RowKit Go.Proofs.Tryz
section
variable [Ev] {σ : Hp} {R : Rr}
def YC (op a b : Int) : Bool := fCm op a.toNat b.toNat
theorem Iz {op a b : Int} (h : R (.returned (.tuple #[.bool (YC op a b), .bool (decide (5 ≤ op ∧ op ≤ 10))])) σ) : Spec prog 204 #[.int .i64 op, .int .u64 a, .int .u64 b] σ R := by
 have fin : ∀ {k : Int} {t : Bool}, op = k → 5 ≤ k → k ≤ 10 → fCm k a.toNat b.toNat = t → R (.returned (.tuple #[.bool t, .bool true])) σ := fun hk h5 SH ht => by
   subst hk
   rw [show YC op a b = fCm op a.toNat b.toNat from rfl, ht, show decide (5 ≤ op ∧ op ≤ 10) = true from decide_eq_true ⟨h5, SH⟩] at h
   exact h
 refine NG.start (GJ ⟨_, rfl, GJ ⟨_, rfl,
   fun h1 => ⟨_, fun w _ => rfl, fin h1 (by decide) (by decide) rfl⟩, fun h1 =>
   ⟨fun h2 => ⟨_, fun w _ => rfl, fin h2 (by decide) (by decide) rfl⟩, fun h2 =>
   ⟨fun h3 => ⟨_, fun w _ => rfl, fin h3 (by decide) (by decide) rfl⟩, fun h3 =>
   ⟨fun h4 => ⟨_, fun w _ => rfl, fin h4 (by decide) (by decide) rfl⟩, fun h4 =>
   ⟨fun h5 => ⟨_, fun w _ => rfl, fin h5 (by decide) (by decide) rfl⟩, fun h5 =>
   ⟨fun h6 => ⟨_, fun w _ => rfl, fin h6 (by decide) (by decide) rfl⟩, fun h6 => ?_⟩⟩⟩⟩⟩⟩⟩)
 rw [show decide (5 ≤ op ∧ op ≤ 10) = false from decide_eq_false (by omega), show YC op a b = false by unfold YC fCm; simp only [h1, h2, h3, h4, h5, h6, if_false]] at h
 exact h
def ak (x : Int) : Int := (toF (Go.bits .andNot .u64 x 9223372036854775808).toNat : Nat)
theorem mC {x : Int} (hx : 0 ≤ x) (h : R (.returned (.int .u64 (ak x))) σ) : Spec prog 144 #[.int .u64 x] σ R := by
 refine ND.start (GJ ⟨_, rfl, W3.start (.y NS ⟨_, rfl, fun x5 h5 => .y mA ⟨_, rfl, _, rfl, GK ⟨_, rfl, ?_⟩⟩⟩)⟩)
 rw [show ak x = (toF x5.toNat : Nat) by unfold ak; rw [h5, Int.toNat_of_nonneg hx]] at h
 exact h
def Ma (x : Nat) : Nat := match Ieee.double.read x with
 | .nan _ _ => 9221120237041090560
 | d => toF (Ieee.double.write (d.integral .down))
def Va (x : Int) : Int := (Ma x.toNat : Nat)
theorem LN (x : Nat) : Kk x = (Ieee.double.read x).isNaN := by
 show (!((Ieee.double.read x).order (Ieee.double.read x) == some .eq)) = _
 rw [SM]
 cases (Ieee.double.read x).isNaN <;> rfl
theorem al (s : Bool) (t : Nat) : Kk (Ieee.double.write (.nan s (Ieee.double.quiet t))) = true := by
 rw [NR]
 have e1 : Ieee.double.signWeight = 9223372036854775808 := by decide
 have e2 : Ieee.double.binade = 4503599627370496 := by decide
 have e3 : Ieee.double.infRung = 9218868437227405312 := by decide
 have hp : (Ieee.double.quiet t % 4503599627370496).testBit 51 = true := by
   rw [show 4503599627370496 = 2 ^ 52 from rfl, Nat.testBit_mod_two_pow]
   show (decide (51 < 52) && (t ||| 2 ^ 51).testBit 51) = true
   rw [Nat.testBit_or, Nat.testBit_two_pow_self]
   simp
 have hp0 : 0 < Ieee.double.quiet t % 4503599627370496 := by
   apply Nat.pos_of_ne_zero
   intro h0
   rw [h0] at hp
   simp at hp
 have Au := Nat.mod_lt (Ieee.double.quiet t) (show 0 < 4503599627370496 by decide)
 show 9218868437227405312 < Ieee.double.word s (Ieee.double.infRung + Ieee.double.quiet t % Ieee.double.binade) % 9223372036854775808
 unfold Ieee.Format.word
 rw [e1, e2, e3]
 generalize Ieee.double.quiet t % 4503599627370496 = p at *
 cases s
 · rw [if_neg (by decide)]; omega
 · rw [if_pos rfl]; omega
def flo (x : Nat) : Sem Value := match Ieee.double.read x with
 | .nan s t => if Ieee.double.quiet t = t then pure (.float .f64 x) else do
   let kept ← choose (.extern "math.Floor,Ceil,Trunc,RoundToEven.signallingNaN kept" 2)
   pure (.float .f64 (if kept == 1 then x else Ieee.double.write (.nan s (Ieee.double.quiet t))))
 | d => pure (.float .f64 (Ieee.double.write (d.integral .down)))
theorem mD {x : Nat} {Φ : Value → Hp → Prop} (h : ∀ y : Nat, toF y = Ma x → Φ (.float .f64 y) σ) : EN prog 222 #[.float .f64 x] σ Φ := by
 have Ci : ∀ w, (callFunc 222 #[.float .f64 x]).run prog w = ((flo x).run prog w).andThen fun v w' => .ok (.value v) w' := fun w => by
   rw [run_callFunc_extern Go.Proofs.Tryz.func222 (by kernel_rfl) (by kernel_rfl) (by kernel_rfl) (e := Extern.MathFloor.toIntegral "math.archFloor" .down) (by kernel_rfl)]
   rfl
 have same : ∀ y, flo x = pure (.float .f64 y) → toF y = Ma x → EN prog 222 #[.float .f64 x] σ Φ := fun y hy hf => .y (v := .float .f64 y) (fun w _ => by rw [Ci, hy]; rfl) (h y hf)
 cases hd : Ieee.double.read x with
 | number s m i => exact same _ (by unfold flo; rw [hd]) (by unfold Ma; rw [hd])
 | infinity s => exact same _ (by unfold flo; rw [hd]) (by unfold Ma; rw [hd])
 | nan s t =>
   have hx : Kk x = true := by rw [LN, hd]; rfl
   have hn : Ma x = 9221120237041090560 := by unfold Ma; rw [hd]
   have e1 : toF x = 9221120237041090560 := by unfold toF; rw [hx]; rfl
   by_cases hq : Ieee.double.quiet t = t
   · exact same x (by unfold flo; rw [hd]; simp only [hq, if_true]) (by rw [e1, hn])
   · intro w F hs hF
     refine ⟨.float .f64 (if (Question.cut (.extern "math.Floor,Ceil,Trunc,RoundToEven.signallingNaN kept" 2) (w.tape w.drawn (.extern "math.Floor,Ceil,Trunc,RoundToEven.signallingNaN kept" 2))) == 1 then x else Ieee.double.write (.nan s (Ieee.double.quiet t))), { w with drawn := w.drawn + 1 }, σ, ?_, ?_, ⟨fun b o hb => hs b o hb, fun b hb => ⟨(hF b hb).2, rfl⟩, (Cg.same rfl rfl rfl).drew, rfl, Nat.le_refl _⟩⟩
     · rw [Ci]
       unfold flo
       rw [hd]
       simp only [hq, if_false]
       rfl
     · refine h _ ?_
       rw [hn]
       split
       · exact e1
       · unfold toF; rw [al]; rfl
theorem aq {x : Int} (h : R (.returned (.int .u64 (Va x))) σ) : Spec prog 145 #[.int .u64 x] σ R :=
 Iq.start (GJ ⟨_, rfl, SC.start (mD fun y hy => ⟨_, rfl, _, rfl, GK ⟨_, rfl, by rw [hy]; exact h⟩⟩)⟩)
def Bg (n : Int) : Int := (FloatKind.f64.nearest n : Nat)
theorem I0 {n : Int} (h : R (.returned (.int .u64 (Bg n))) σ) : Spec prog 143 #[.int .i64 n] σ R :=
 SB.start (SN (v := .float .f64 (FloatKind.f64.nearest n)) (fun w => by kernel_rfl) ⟨_, rfl, .y NS ⟨_, rfl, h⟩⟩)
theorem au {b : Bool} (h : R (.returned (.int .u64 (if b then Bg 1 else Bg 0))) σ) : Spec prog 205 #[.bool b] σ R :=
 R0.start ⟨fun ht => I0 ⟨_, rfl, by rw [ht] at h; exact h⟩, fun hf => I0 ⟨_, rfl, by rw [hf] at h; exact h⟩⟩
theorem YD {a b : Int} (h : R (.returned (.int .u64 (PJ 1 a b))) σ) : Spec prog 201 #[.int .u64 a, .int .u64 b] σ R := eval_add.start (Iy ⟨_, _, rfl, h⟩)
theorem YE {a b : Int} (h : R (.returned (.int .u64 (PJ 2 a b))) σ) : Spec prog 190 #[.int .u64 a, .int .u64 b] σ R := Xe.start (Iy ⟨_, _, rfl, h⟩)
theorem YG {a b : Int} (h : R (.returned (.int .u64 (PJ 4 a b))) σ) : Spec prog 194 #[.int .u64 a, .int .u64 b] σ R := XD.start (Iy ⟨_, _, rfl, h⟩)
theorem mE {a : Int} (h : R (.returned (.bool (decide (YB a = 9221120237041090560)))) σ) : Spec prog 229 #[.int .u64 a] σ R := XE.start (Fo ⟨_, rfl, h⟩)
def uZ (x : Int) : Int := YB (Go.bits .xor .u64 x 9223372036854775808)
theorem PK {x : Int} (h : R (.returned (.int .u64 (uZ x))) σ) : Spec prog 162 #[.int .u64 x] σ R := O9.start fun x4 h4 => Fo ⟨_, rfl, by rw [h4]; exact h⟩
end
end TwW
end
section
namespace TwW
open Go Tw Go.RowKit Go.Proofs.Tryz
section
variable [Ev] {σ : Hp} {R : Rr}
def Vb : List Int → Int
 | [] => 0
 | v :: l => l.foldl (PJ 1) (YB v)
theorem SO {p : Option Addr} {n c : Nat} {vs : List Int} (hr : E7 .u64 σ p n vs) (h0 : 0 < n) (hc : n ≤ c) (h : R (.returned (.int .u64 (Vb vs))) σ) : Spec prog 151 #[.slice p n c] σ R := by
 have hl : vs.length = n := hr.1
 obtain ⟨v, hv⟩ := hr.ex h0
 obtain ⟨b, o, rfl, E6⟩ := E7.at hr hv
 refine Fj.start ⟨b, o, rfl, by omega, v, by simpa using E6, Fo ⟨_, rfl, by omega, ?_⟩⟩
 have hs : E7 .u64 σ (IK (aD b o) 1 c 1) (n - 1) ((vs.drop 1).take (n - 1)) := Af.sub hr (by decide) (by omega) hc
 have hd : (vs.drop 1).take (n - 1) = vs.tail := by rw [List.drop_one, List.take_of_length_le (by rw [List.length_tail]; omega)]
 rw [hd] at hs
 have cQ : vs = v :: vs.tail := by
   cases vs with
   | nil => cases hv
   | cons a l => simp only [List.getElem?_cons_zero, Option.some.injEq] at hv; rw [hv]; rfl
 rw [cQ] at h
 change R (.returned (.int .u64 (vs.tail.foldl (PJ 1) (YB v)))) σ at h
 generalize IK (aD b o) 1 c 1 = q at *
 suffices H : ∀ g k : Nat, ∀ (q' : Option Addr) (a : Int), (0 < n - 1 → q' = q) → n - 1 - k = g → k ≤ n - 1 → vs.tail.foldl (PJ 1) (YB v) = (vs.tail.drop k).foldl (PJ 1) a → Fj.A2 R a q (n - 1) (c - 1) ((n - 1 : Nat) : Int) k σ from H (n - 1) 0 q (YB v) (fun _ => rfl) (by omega) (by omega) rfl
 intro g
 induction g with
 | zero =>
   intro k q' a _ hg hk he
   refine Fj.AY ⟨fun Au => by omega, fun _ => ?_⟩
   rw [List.drop_eq_nil_of_le (by rw [List.length_tail]; omega)] at he
   rw [he] at h; exact h
 | succ g ih =>
   intro k q' a hq hg hk he
   obtain ⟨x, hx⟩ := hs.ex (k := k) (by omega)
   obtain ⟨b', o', rfl, ZG⟩ := E7.at hs hx
   rw [A8 hx] at he
   refine Fj.AY ⟨fun _ => ⟨b', o', rfl, by omega, x, by simpa using ZG, YD ⟨_, rfl, AL (by omega : k < n - 1) hs.big, ih (k + 1) _ _ (fun _ => rfl) (by omega) (by omega) he⟩⟩, fun hh => by omega⟩
theorem Mb {p : Option Addr} {n c : Nat} (h : R (.returned (.int .u64 (Bg n))) σ) : Spec prog 155 #[.slice p n c] σ R :=
 Gi.start (I0 ⟨_, rfl, h⟩)
theorem NU {p : Option Addr} {n c : Nat} {vs : List Int} (hr : E7 .u64 σ p n vs) (h0 : 0 < n) (hc : n ≤ c) (h : R (.returned (.int .u64 (PJ 4 (Vb vs) (Bg n)))) σ) : Spec prog 154 #[.slice p n c] σ R :=
 Eh.start (SO hr h0 hc ⟨_, rfl, Mb ⟨_, rfl, YG ⟨_, rfl, h⟩⟩⟩)
def YH (op : Int) (out v : Int) : Int := if YC op v out = true ∨ YB out = 9221120237041090560 then v else out
def Lz (op : Int) : List Int → Int
 | [] => 0
 | v :: l => YB (l.foldl (YH op) v)
theorem UR {op : Int} {p : Option Addr} {n c : Nat} {vs : List Int} (hr : E7 .u64 σ p n vs) (h0 : 0 < n) (hc : n ≤ c) (h : R (.returned (.int .u64 (Lz op vs))) σ) : Spec prog 202 #[.int .i64 op, .slice p n c] σ R := by
 have hl : vs.length = n := hr.1
 obtain ⟨v, hv⟩ := hr.ex h0
 obtain ⟨b, o, rfl, E6⟩ := E7.at hr hv
 refine FG.start ⟨b, o, rfl, by omega, v, by simpa using E6, by omega, ?_⟩
 have hs : E7 .u64 σ (IK (aD b o) 1 c 1) (n - 1) ((vs.drop 1).take (n - 1)) := Af.sub hr (by decide) (by omega) hc
 have hd : (vs.drop 1).take (n - 1) = vs.tail := by rw [List.drop_one, List.take_of_length_le (by rw [List.length_tail]; omega)]
 rw [hd] at hs
 have cQ : vs = v :: vs.tail := by
   cases vs with
   | nil => cases hv
   | cons a l => simp only [List.getElem?_cons_zero, Option.some.injEq] at hv; rw [hv]; rfl
 rw [cQ] at h
 change R (.returned (.int .u64 (YB (vs.tail.foldl (YH op) v)))) σ at h
 generalize IK (aD b o) 1 c 1 = q at *
 suffices H : ∀ g k : Nat, ∀ (a : Int), n - 1 - k = g → k ≤ n - 1 → vs.tail.foldl (YH op) v = (vs.tail.drop k).foldl (YH op) a → FG.A2 R op a q (n - 1) (c - 1) ((n - 1 : Nat) : Int) k σ from H (n - 1) 0 v (by omega) (by omega) rfl
 intro g
 induction g with
 | zero =>
   intro k a hg hk he
   refine FG.AY ⟨fun Au => by omega, fun _ => Fo ⟨_, rfl, ?_⟩⟩
   rw [List.drop_eq_nil_of_le (by rw [List.length_tail]; omega)] at he
   rw [he] at h; exact h
 | succ g ih =>
   intro k a hg hk he
   obtain ⟨x, hx⟩ := hs.ex (k := k) (by omega)
   obtain ⟨b', o', rfl, ZG⟩ := E7.at hs hx
   rw [A8 hx, List.foldl_cons] at he
   have go : ∀ y, YH op a x = y → FG.js R op y (aD b' o') (n - 1) (c - 1) ((n - 1 : Nat) : Int) k σ := fun y hy => FG.pg ⟨AL (by omega : k < n - 1) hs.big, ih (k + 1) y (by omega) (by omega) (by rw [← hy]; exact he)⟩
   refine FG.AY ⟨fun _ => ⟨b', o', rfl, by omega, x, by simpa using ZG, Iz ⟨_, _, rfl, fun ht => go x (by unfold YH; rw [if_pos (.inl ht)]), fun hf => mE ⟨_, rfl, fun ht => go x ?_, fun hn => go a ?_⟩⟩⟩, fun hh => by omega⟩
   · unfold YH; rw [if_pos (.inr (of_decide_eq_true ht))]
   · unfold YH; rw [if_neg (by
                                 rintro (h1 | h1)
                                 · rw [h1] at hf; cases hf
                                 · exact absurd h1 (of_decide_eq_false hn))]
theorem SP {p : Option Addr} {n c : Nat} {vs : List Int} (hr : E7 .u64 σ p n vs) (h0 : 0 < n) (hc : n ≤ c) (h : R (.returned (.int .u64 (Lz 7 vs))) σ) : Spec prog 152 #[.slice p n c] σ R := Gn.start (UR hr h0 hc ⟨_, rfl, h⟩)
theorem L9 {p : Option Addr} {n c : Nat} {vs : List Int} (hr : E7 .u64 σ p n vs) (h0 : 0 < n) (hc : n ≤ c) (h : R (.returned (.int .u64 (Lz 9 vs))) σ) : Spec prog 153 #[.slice p n c] σ R := Dm.start (UR hr h0 hc ⟨_, rfl, h⟩)
def NV (out : Int) (p : Int × Int) : Int := if YC 7 p.2 p.1 = true then PJ 1 out p.1 else out
def NW (vs : List Int) : Int := (vs.zip vs.tail).foldl NV (PJ 2 (vs.getLast?.getD 0) (vs.head?.getD 0))
theorem SQ {p : Option Addr} {n c : Nat} {vs : List Int} (hr : E7 .u64 σ p n vs) (h0 : 0 < n) (h : R (.returned (.int .u64 (NW vs))) σ) : Spec prog 192 #[.slice p n c] σ R := by
 have hl : vs.length = n := hr.1
 have MX := hr.big
 obtain ⟨v, hv⟩ := hr.ex h0
 obtain ⟨z, hz⟩ := hr.ex (k := n - 1) (by omega)
 obtain ⟨b, o, rfl, E6⟩ := E7.at hr hv
 obtain ⟨_, _, he, ua⟩ := E7.at hr hz
 cases he
 have e1 : Int.toNat ((n : Int) - 1) = n - 1 := by omega
 refine D7.start ⟨by unfold AN; omega, b, o, rfl, by omega, z, by rw [e1]; exact ua, by omega, v, by simpa using E6, YE ⟨_, rfl, ?_⟩⟩
 have AE4 : NW vs = (vs.zip vs.tail).foldl NV (PJ 2 z v) := by
   unfold NW
   rw [List.getLast?_eq_getElem?, hl, hz, List.head?_eq_getElem?, hv]; rfl
 rw [AE4] at h
 suffices H : ∀ g k : Nat, ∀ a : Int, n - 1 - k = g → k ≤ n - 1 → (vs.zip vs.tail).foldl NV (PJ 2 z v) = ((vs.zip vs.tail).drop k).foldl NV a → D7.CL R (aD b o) n c a ((k + 1 : Nat) : Int) σ from H (n - 1) 0 _ (by omega) (by omega) rfl
 have hlen : (vs.zip vs.tail).length = n - 1 := by rw [List.length_zip, List.length_tail]; omega
 intro g
 induction g with
 | zero =>
   intro k a hg hk he
   refine D7.BF ⟨fun Au => by omega, fun _ => ?_⟩
   rw [List.drop_eq_nil_of_le (by omega)] at he
   rw [he] at h; exact h
 | succ g ih =>
   intro k a hg hk he
   obtain ⟨x, hx⟩ := hr.ex (k := k) (by omega)
   obtain ⟨y, hy⟩ := hr.ex (k := k + 1) (by omega)
   obtain ⟨_, _, h1, ZG⟩ := E7.at hr hx
   obtain ⟨_, _, h2, ah⟩ := E7.at hr hy
   cases h1; cases h2
   have AKc : (vs.zip vs.tail)[k]? = some (x, y) := by
     rw [List.getElem?_zip_eq_some]
     exact ⟨hx, by rw [List.getElem?_tail]; exact hy⟩
   rw [A8 AKc, List.foldl_cons] at he
   have e2 : Int.toNat (((k + 1 : Nat) : Int) - 1) = k := by omega
   have e3 : Int.toNat ((k + 1 : Nat) : Int) = k + 1 := by omega
   have go : ∀ w, NV a (x, y) = w → D7.W0 R (aD b o) n c w ((k + 1 : Nat) : Int) σ := fun w hw => D7.QA ⟨AL (by omega : k + 1 < n) hr.big, ih (k + 1) w (by omega) (by omega) (by rw [← hw]; exact he)⟩
   refine D7.BF ⟨fun _ => ⟨b, o, rfl, by omega, y, by rw [e3]; exact ah, by unfold AN; omega, by omega, x, by rw [e2]; exact ZG, Iz ⟨_, _, rfl, fun ht => ⟨by unfold AN; omega, by omega, x, by rw [e2]; exact ZG, YD ⟨_, rfl, go _ ?_⟩⟩, fun hf => go _ ?_⟩⟩, fun hh => by omega⟩
   · unfold NV; rw [if_pos ht]
   · unfold NV; rw [if_neg (by rw [hf]; decide)]
end
end TwW
end
