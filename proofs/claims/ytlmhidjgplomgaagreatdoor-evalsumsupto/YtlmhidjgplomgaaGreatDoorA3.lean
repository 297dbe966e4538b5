/-
  Part 3 of the proof that the law EvalSumsUptoCardSaid of the given program answers true for every input of the given statement; the input reads behind the call as it did. (The texts: packed from 16 texts. Names are shortened by the packing program, for the bound on size.)
-/
import Derived.Test.YtlmhidjgplomgaaGreatDoorA2
import Derived.Laws.BytesArg
import Derived.Laws.Bits64b
import Derived.Laws.IdiomStrings
import Derived.Lib.Bytealg
import Derived.Lib.Split
import Derived.Lib.Index
set_option linter.all false
section
set_option maxRecDepth 100000
noncomputable section
namespace TwW
open Go Tw Go.Proofs.Tryz
variable [Ey] {R : Rr} {σ : Hp}

namespace PT
def M : Fw := ⟨prog,14,f14,[11,15,25,35,36],[],false,[],[],[]⟩
theorem ok : M.Ok := ⟨.cons call11 (.cons call15 (.cons call25 (.cons call35 (.cons call36 (AG.nil))))),mixed,func14,by kernel_rfl⟩
theorem start (h : Al σ fun BF => Spec prog 25 #[.float .f64 4607182418800017408] (Hp.set σ BF (.cells #[(.string (ByteArray.mk #[95,95,110,97,109,101,95,95])),(.string (ByteArray.mk #[120])),(.string (ByteArray.mk #[97])),(.string (ByteArray.mk #[49]))] 56 (0,0))) (AA R (CI .u64 fun x12 y => Spec prog 25 #[.float .f64 4613937818241073152] y (AA R (CI .u64 fun Zx AF => Al AF fun ME => Al (Hp.set AF ME (.cells #[.int .i64 0,.int .u64 x12,.int .i64 60,.int .u64 Zx] 50 (0,0))) fun YM => Spec prog 25 #[.float .f64 4617315517961601024] (Hp.set (Hp.set AF ME (.cells #[.int .i64 0,.int .u64 x12,.int .i64 60,.int .u64 Zx] 50 (0,0))) YM (.cells #[(.string (ByteArray.mk #[95,95,110,97,109,101,95,95])),(.string (ByteArray.mk #[120])),(.string (ByteArray.mk #[97])),(.string (ByteArray.mk #[50]))] 56 (0,0))) (AA R (CI .u64 fun bR AH => Al AH fun OB => Al (Hp.set AH OB (.cells #[.int .i64 60,.int .u64 bR] 50 (0,0))) fun Ji => Al (Hp.set (Hp.set AH OB (.cells #[.int .i64 60,.int .u64 bR] 50 (0,0))) Ji (.cells #[(.slice (aD BF 0) 2 2),(.slice (aD ME 0) 2 2),(.slice (aD YM 0) 2 2),(.slice (aD OB 0) 1 1)] 40 (0,0))) fun Xk => Al (Hp.set (Hp.set (Hp.set AH OB (.cells #[.int .i64 60,.int .u64 bR] 50 (0,0))) Ji (.cells #[(.slice (aD BF 0) 2 2),(.slice (aD ME 0) 2 2),(.slice (aD YM 0) 2 2),(.slice (aD OB 0) 1 1)] 40 (0,0))) Xk (.cells #[.int .i64 1,(.string (ByteArray.mk #[95,95,110,97,109,101,95,95])),(.string (ByteArray.mk #[120]))] 77 (0,0))) fun gx => Spec prog 11 #[(.slice (aD gx 0) 2 2),(.slice (aD Ji 0) 2 2),.int .i64 60] (Hp.set (Hp.set (Hp.set (Hp.set AH OB (.cells #[.int .i64 60,.int .u64 bR] 50 (0,0))) Ji (.cells #[(.slice (aD BF 0) 2 2),(.slice (aD ME 0) 2 2),(.slice (aD YM 0) 2 2),(.slice (aD OB 0) 1 1)] 40 (0,0))) Xk (.cells #[.int .i64 1,(.string (ByteArray.mk #[95,95,110,97,109,101,95,95])),(.string (ByteArray.mk #[120]))] 77 (0,0))) gx (.cells #[.int .i64 2,.int .i64 0,(.string (ByteArray.mk #[])),(.slice (aD Xk 0) 1 1),.int .i64 0,.int .i64 0,.int .i64 0,.slice none 0 0,.bool false,.int .i64 0,.int .i64 5,.int .i64 1,(.string (ByteArray.mk #[])),.slice none 0 0,.int .i64 0,.int .i64 0,.int .i64 0,.slice none 0 0,.bool false,.int .i64 1] 36 (0,0))) (AA R (fun z Ab => ∃ AFT AAV ALy AFU,z = (.tuple #[.slice AFT AAV ALy,.int .i64 AFU]) ∧ Spec prog 35 #[(.slice (aD gx 0) 2 2),(.slice (aD Ji 0) 2 2),.int .i64 0,.int .i64 60,.int .i64 60] Ab (AA R (fun z DV => ∃ YO Vt bS bT,z = (.tuple #[.slice YO Vt bS,.int .i64 bT]) ∧ Spec prog 15 #[(.slice (aD gx 0) 2 2)] DV (AA R (fun z Ex => ∃ AFV AFW,z = (.tuple #[.int .i64 AFV,.int .i64 AFW]) ∧ Br (AFU = 0) (Br ((AAV : Int) = 1) (Pq AFT fun wo o57 => In 0 (AAV : Int) ∧ LS Ex wo (o57 + 1) fun vr n59 vt => Spec prog 25 #[.float .f64 4620693217682128896] Ex (AA R (CI .u64 fun tP D3 => Kp [wo] Ex D3 ∧ Al D3 fun b62 => Spec prog 36 #[.slice vr n59 vt,(.slice (aD b62 0) 1 1)] (Hp.set D3 b62 (.cells #[.int .i64 60,.int .u64 tP] 50 (0,0))) (AA R (CB fun t63 Hk => Bo t63 (Br (bT = 0) (Br ((Vt : Int) = 1) (Pq YO fun b76 o76 => In 0 (Vt : Int) ∧ LS Hk b76 (o76 + 1) fun rL mG rO => Br ((mG : Int) = 2) (Br (AFV = 300) (R (.returned (.bool (decide (AFW = 0)))) Hk) (R (.returned (.bool false)) Hk)) (R (.returned (.bool false)) Hk)) (R (.returned (.bool false)) Hk)) (R (.returned (.bool false)) Hk)) (R (.returned (.bool false)) Hk)))))) (R (.returned (.bool false)) Ex)) (R (.returned (.bool false)) Ex)))))))))))))) : Spec prog 14 #[] σ R := M.start h ok
end PT
namespace SO
variable {x0 x3 : Int}
def M : Fw := ⟨prog,27,f27,[],[],false,[],[],[(30,[(3,wU)])]⟩
theorem ok : M.Ok := ⟨AG.nil,mixed,func27,by kernel_rfl⟩
def Bk := M.pt 0
theorem start (h : Br (0 ≤ x0) (Bk R 9218868437227405312 σ) (Bk R 18442240474082181120 σ)) : Spec prog 27 #[.int .i64 x0] σ R := M.start h ok
theorem A5 (h : EN prog 22 #[.int .u64 x3] σ (fun z y => ∃ x7,(Value.float .f64 x7) = z ∧ R (.returned (Value.float .f64 x7)) y)) : Bk R x3 σ := M.of h ok rfl
end SO
namespace JV
variable {p0 : Option Addr} {n0 c0 : Nat}
def M : Fw := ⟨prog,33,f33,[],[],false,[],[],[]⟩
theorem ok : M.Ok := ⟨AG.nil,mixed,func33,by kernel_rfl⟩
theorem start (h : Al σ fun b3 => AJ prog (Builtin.append_ #[37,37] 37 #[(.slice (aD b3 0) 0 0),.slice p0 n0 c0]) (Hp.set σ b3 (.cells #[] 56 (0,0))) (CS fun p5 n5 c5 y => R (.returned (.slice p5 n5 c5)) y)) : Spec prog 33 #[.slice p0 n0 c0] σ R := M.start h ok
end JV
namespace SP
variable {x0 : Int}
def M : Fw := ⟨prog,81,f81,[],[],false,[],[],[]⟩
theorem ok : M.Ok := ⟨AG.nil,mixed,func81,by kernel_rfl⟩
theorem start (h : Al σ fun b1 => R (.returned (.func (.func 127) #[] #[(.pointer (aD b1 0))])) (Hp.set σ b1 (.cells #[.int .i64 x0] 3 (0,0)))) : Spec prog 81 #[.int .i64 x0] σ R := M.start h ok
end SP
namespace AT
variable {q0 : Option Addr} {v1 : Value} {x2 x3 : Int} {b9 : Nat}
def M : Fw := ⟨prog,95,f95,[66,133,134,135,136,137,138],[],false,[],[],[(48,[(0,wQ),(1,wV),(2,wI),(3,wI)]),(3198,[(0,wQ),(1,wV),(2,wI),(3,wI),(9,wA)])]⟩
theorem ok : M.Ok := ⟨.cons call66 (.cons call133 (.cons call134 (.cons call135 (.cons call136 (.cons call137 (.cons call138 (AG.nil))))))),mixed,func95,by kernel_rfl⟩
def bU := M.pt 0
def FL := M.pt 1
theorem start (h : ∃ (f11 : Nat) (YK YL : Array Value),v1 = .func (.func f11) YK YL ∧ Enters prog f11 ∧ Spec prog f11 (YK ++ #[] ++ YL) σ (AA R (fun z y => z = (.tuple #[]) ∧ bU R q0 v1 x2 x3 y))) : Spec prog 95 #[.pointer q0,v1,.int .i64 x2,.int .i64 x3] σ R := M.D6 h ok [(0,.o (.Q q0)),(1,.o (.V v1)),(2,.o (.I .i64 x2)),(3,.o (.I .i64 x3))] rfl rfl (by kernel_rfl)
theorem Og (h : Spec prog 134 #[] σ (AA R (CS fun Wr n12 Vu y => Spec prog 66 #[.pointer q0] y (AA R (fun z AF => ∃ GQ Tq Vw AAX,z = (.agg #[.int .i64 GQ,.int .i64 Tq,.string Vw,.int .i64 AAX]) ∧ Spec prog 133 #[.slice Wr n12 Vu,.string Vw] AF (AA R (CI .i64 fun x16 AH => Spec prog 66 #[.pointer q0] AH (AA R (fun z Ab => ∃ YQ bV bW AL0,z = (.agg #[.int .i64 YQ,.int .i64 bV,.string bW,.int .i64 AL0]) ∧ Br (YQ ≠ 5) (Spec prog 66 #[.pointer q0] Ab (AA R (fun z DV => ∃ tQ gk AAY AAZ,z = (.agg #[.int .i64 tQ,.int .i64 gk,.string AAY,.int .i64 AAZ]) ∧ Br (tQ ≠ 3) (R (.returned (.tuple #[])) DV) (Br (x16 < x2) (R (.returned (.tuple #[])) DV) (Br (x3 < x16) (R (.returned (.tuple #[])) DV) (Br (x2 = 11) (Br (x16 = 12) (R (.returned (.tuple #[])) DV) (Spec prog 135 #[.pointer q0] DV (AA R (fun z Ex => ∃ P9 QA Vx Vy,z = (.agg #[.int .i64 P9,.int .i64 QA,.string Vx,.int .i64 Vy]) ∧ Al Ex fun b9 => AJ prog (Instr.storeAt 36 (.pointer (aD b9 0)) (.agg #[.int .i64 6,.int .i64 x16,(.string (ByteArray.mk #[])),.slice none 0 0,.int .i64 0,.int .i64 0,.int .i64 0,.slice none 0 0,.bool false,.int .i64 2])) (Hp.set Ex b9 (.cells #[.int .i64 0,.int .i64 0,(.string (ByteArray.mk #[])),.slice none 0 0,.int .i64 0,.int .i64 0,.int .i64 0,.slice none 0 0,.bool false,.int .i64 0] 36 (0,0))) (fun _ D3 => Br (5 ≤ x16) (Br (x16 ≤ 10) (Spec prog 136 #[.pointer q0,.int .i64 3,(.string (ByteArray.mk #[98,111,111,108]))] D3 (AA R (CB fun t55 Hk => Bo t55 (Spec prog 135 #[.pointer q0] Hk (AA R (fun z P4 => ∃ Vz V0 V1 V2,z = (.agg #[.int .i64 Vz,.int .i64 V0,.string V1,.int .i64 V2]) ∧ AJ prog (Instr.storeAt 4 (.pointer (aD b9 8)) (.bool true)) P4 (fun _ Lt => FL R q0 v1 x2 x3 b9 Lt)))) (FL R q0 v1 x2 x3 b9 Hk)))) (FL R q0 v1 x2 x3 b9 D3)) (FL R q0 v1 x2 x3 b9 D3)))))) (Spec prog 135 #[.pointer q0] DV (AA R (fun z Ex => ∃ P9 QA Vx Vy,z = (.agg #[.int .i64 P9,.int .i64 QA,.string Vx,.int .i64 Vy]) ∧ Al Ex fun b9 => AJ prog (Instr.storeAt 36 (.pointer (aD b9 0)) (.agg #[.int .i64 6,.int .i64 x16,(.string (ByteArray.mk #[])),.slice none 0 0,.int .i64 0,.int .i64 0,.int .i64 0,.slice none 0 0,.bool false,.int .i64 2])) (Hp.set Ex b9 (.cells #[.int .i64 0,.int .i64 0,(.string (ByteArray.mk #[])),.slice none 0 0,.int .i64 0,.int .i64 0,.int .i64 0,.slice none 0 0,.bool false,.int .i64 0] 36 (0,0))) (fun _ D3 => Br (5 ≤ x16) (Br (x16 ≤ 10) (Spec prog 136 #[.pointer q0,.int .i64 3,(.string (ByteArray.mk #[98,111,111,108]))] D3 (AA R (CB fun t55 Hk => Bo t55 (Spec prog 135 #[.pointer q0] Hk (AA R (fun z P4 => ∃ Vz V0 V1 V2,z = (.agg #[.int .i64 Vz,.int .i64 V0,.string V1,.int .i64 V2]) ∧ AJ prog (Instr.storeAt 4 (.pointer (aD b9 8)) (.bool true)) P4 (fun _ Lt => FL R q0 v1 x2 x3 b9 Lt)))) (FL R q0 v1 x2 x3 b9 Hk)))) (FL R q0 v1 x2 x3 b9 D3)) (FL R q0 v1 x2 x3 b9 D3))))))))))) (Br (x16 < x2) (R (.returned (.tuple #[])) Ab) (Br (x3 < x16) (R (.returned (.tuple #[])) Ab) (Br (x2 = 11) (Br (x16 = 12) (R (.returned (.tuple #[])) Ab) (Spec prog 135 #[.pointer q0] Ab (AA R (fun z DV => ∃ P9 QA Vx Vy,z = (.agg #[.int .i64 P9,.int .i64 QA,.string Vx,.int .i64 Vy]) ∧ Al DV fun b9 => AJ prog (Instr.storeAt 36 (.pointer (aD b9 0)) (.agg #[.int .i64 6,.int .i64 x16,(.string (ByteArray.mk #[])),.slice none 0 0,.int .i64 0,.int .i64 0,.int .i64 0,.slice none 0 0,.bool false,.int .i64 2])) (Hp.set DV b9 (.cells #[.int .i64 0,.int .i64 0,(.string (ByteArray.mk #[])),.slice none 0 0,.int .i64 0,.int .i64 0,.int .i64 0,.slice none 0 0,.bool false,.int .i64 0] 36 (0,0))) (fun _ Ex => Br (5 ≤ x16) (Br (x16 ≤ 10) (Spec prog 136 #[.pointer q0,.int .i64 3,(.string (ByteArray.mk #[98,111,111,108]))] Ex (AA R (CB fun t55 D3 => Bo t55 (Spec prog 135 #[.pointer q0] D3 (AA R (fun z Hk => ∃ Vz V0 V1 V2,z = (.agg #[.int .i64 Vz,.int .i64 V0,.string V1,.int .i64 V2]) ∧ AJ prog (Instr.storeAt 4 (.pointer (aD b9 8)) (.bool true)) Hk (fun _ P4 => FL R q0 v1 x2 x3 b9 P4)))) (FL R q0 v1 x2 x3 b9 D3)))) (FL R q0 v1 x2 x3 b9 Ex)) (FL R q0 v1 x2 x3 b9 Ex)))))) (Spec prog 135 #[.pointer q0] Ab (AA R (fun z DV => ∃ P9 QA Vx Vy,z = (.agg #[.int .i64 P9,.int .i64 QA,.string Vx,.int .i64 Vy]) ∧ Al DV fun b9 => AJ prog (Instr.storeAt 36 (.pointer (aD b9 0)) (.agg #[.int .i64 6,.int .i64 x16,(.string (ByteArray.mk #[])),.slice none 0 0,.int .i64 0,.int .i64 0,.int .i64 0,.slice none 0 0,.bool false,.int .i64 2])) (Hp.set DV b9 (.cells #[.int .i64 0,.int .i64 0,(.string (ByteArray.mk #[])),.slice none 0 0,.int .i64 0,.int .i64 0,.int .i64 0,.slice none 0 0,.bool false,.int .i64 0] 36 (0,0))) (fun _ Ex => Br (5 ≤ x16) (Br (x16 ≤ 10) (Spec prog 136 #[.pointer q0,.int .i64 3,(.string (ByteArray.mk #[98,111,111,108]))] Ex (AA R (CB fun t55 D3 => Bo t55 (Spec prog 135 #[.pointer q0] D3 (AA R (fun z Hk => ∃ Vz V0 V1 V2,z = (.agg #[.int .i64 Vz,.int .i64 V0,.string V1,.int .i64 V2]) ∧ AJ prog (Instr.storeAt 4 (.pointer (aD b9 8)) (.bool true)) Hk (fun _ P4 => FL R q0 v1 x2 x3 b9 P4)))) (FL R q0 v1 x2 x3 b9 D3)))) (FL R q0 v1 x2 x3 b9 Ex)) (FL R q0 v1 x2 x3 b9 Ex))))))))))))))))) : bU R q0 v1 x2 x3 σ := M.of h ok rfl
theorem Vq (h : Spec prog 137 #[.pointer q0,(.pointer (aD b9 0)),(.agg #[(.string (ByteArray.mk #[111,110])),(.string (ByteArray.mk #[105,103,110,111,114,105,110,103]))]),.agg #[.int .i64 3,.int .i64 4]] σ (AA R (fun z y => z = (.tuple #[]) ∧ ∃ (f65 : Nat) (wq wu : Array Value),v1 = .func (.func f65) wq wu ∧ Enters prog f65 ∧ Spec prog f65 (wq ++ #[] ++ wu) y (AA R (fun z AF => z = (.tuple #[]) ∧ ∃ KN KO KQ KR KS KT KU KV KW KX KY KZ Ka Kb,Au AF b9 0 [.int .i64 KN,.int .i64 KO,.string KQ,.slice KR KS KT,.int .i64 KU,.int .i64 KV,.int .i64 KW,.slice KX KY KZ,.bool Ka,.int .i64 Kb] ∧ Spec prog 138 #[.pointer q0,.agg #[.int .i64 KN,.int .i64 KO,.string KQ,.slice KR KS KT,.int .i64 KU,.int .i64 KV,.int .i64 KW,.slice KX KY KZ,.bool Ka,.int .i64 Kb]] AF (AA R (fun z AH => z = (.tuple #[]) ∧ bU R q0 v1 x2 x3 AH))))))) : FL R q0 v1 x2 x3 b9 σ := M.of h ok rfl
end AT
namespace AU
variable {q0 Dc Dn p2 Gg Hv HH F7 p8 gy Wr p47 : Option Addr} {DW CP DX Dd C1 CW F2 Ff Hw GL Hx Ie F5 F6 ju JU V3 RL : Int} {DY HU : ByteArray} {De Dg Dh Dp n2 c2 Gh Gi Hy Hz HI HJ GC GD n8 c8 n25 hJ n12 Vu n47 c47 : Nat} {C2 Ig : Bool} {v9 : Value}
def M : Fw := ⟨prog,103,f103,[146,147,148],[4,6,11,14],false,[],[],[(488,[(2,wL),(4,.X 36 [.I .i64,.I .i64,.T,.L,.I .i64,.I .i64,.I .i64,.L,.B,.I .i64]),(6,.X 93 [.I .i64,.I .u64,.L,.L]),(8,wL),(9,wV),(25,wL),(26,wI),(27,wI)]),(2024,[(2,wL),(4,.X 36 [.I .i64,.I .i64,.T,.L,.I .i64,.I .i64,.I .i64,.L,.B,.I .i64]),(6,.X 93 [.I .i64,.I .u64,.L,.L]),(8,wL),(12,wL),(47,wL),(48,wI),(49,wI)]),(8103,[(2,wL),(4,.X 36 [.I .i64,.I .i64,.T,.L,.I .i64,.I .i64,.I .i64,.L,.B,.I .i64]),(6,.X 93 [.I .i64,.I .u64,.L,.L]),(8,wL),(12,wL),(47,wL),(48,wI),(49,wI)])]⟩
theorem ok : M.Ok := ⟨.cons call146 (.cons call147 (.cons call148 (AG.nil))),mixed,func103,by kernel_rfl⟩
def E6 := M.pt 0
def FJ := M.pt 1
def Lw := M.pt 2
theorem start (h : ∀ b4 : Nat,∀ b6 : Nat,AJ prog (Instr.makeMap 191 none) σ (fun z y => ∃ m17,z = (.map (some m17)) ∧ AJ prog (Instr.mapUpdate 191 (.map (some m17)) (.int .i64 11) (.func (.func 144) #[] #[])) y (fun _ AF => AJ prog (Instr.mapUpdate 191 (.map (some m17)) (.int .i64 12) (.func (.func 145) #[] #[])) AF (fun _ AH => AJ prog (Instr.lookup 191 (.map (some m17)) (.int .i64 CP) false) AH (fun z Ab => ∃ v21,v21 = z ∧ Pq p2 fun OB eF => In 0 (n2 : Int) ∧ LS Ab OB (eF + 2) fun gy n25 hJ => E6 R (aD OB eF) n2 c2 DW CP DY Dc De Dg DX Dd C1 Dn Dh Dp C2 CW 0 0 none 0 0 none 0 0 none 0 0 v21 gy n25 hJ (n25 : Int) 0 Ab))))) : Spec prog 103 #[.pointer q0,.agg #[.int .i64 DW,.int .i64 CP,.string DY,.slice Dc De Dg,.int .i64 DX,.int .i64 Dd,.int .i64 C1,.slice Dn Dh Dp,.bool C2,.int .i64 CW],.slice p2 n2 c2] σ R := M.start h ok
theorem FY (h : Br (JU < ju) (Pq gy fun YB eP => In JU (n25 : Int) ∧ ∃ mH mI mJ mK,Au σ YB (eP + Int.toNat JU * 2) [.slice mH mI mJ,.int .u64 mK] ∧ ∀ BF : Nat,Spec prog 146 #[.slice mH mI mJ] σ (AA R (CS fun p34 n34 c34 y => ∃ (f38 : Nat) (HX HY : Array Value),v9 = .func (.func f38) HX HY ∧ Enters prog f38 ∧ Spec prog f38 (HX ++ #[.int .u64 mK] ++ HY) y (AA R (CI .u64 fun wv AF => Al AF fun Wo => AJ prog (Builtin.append_ #[67,67] 67 #[.slice p8 n8 c8,(.slice (aD Wo 0) 1 1)]) (Hp.set AF Wo (.cells #[.slice p34 n34 c34,.int .u64 wv] 71 (0,0))) (CS fun v7 n41 jr AH => AN (JU + 1) ∧ E6 R p2 n2 c2 F2 Ff HU Gg Gh Gi Hw GL Hx Hv Hy Hz Ig Ie F5 F6 HH HI HJ F7 GC GD v7 n41 jr v9 (aD YB eP) n25 hJ ju (JU + 1) AH)))))) (Spec prog 147 #[] σ (AA R (CS fun Wp n43 Wq y => Pq p2 fun jo jq => In 0 (n2 : Int) ∧ LS y jo (jq + 3) fun p47 n47 c47 => FJ R (aD jo jq) n2 c2 F2 Ff HU Gg Gh Gi Hw GL Hx Hv Hy Hz Ig Ie F5 F6 HH HI HJ F7 GC GD p8 n8 c8 Wp n43 Wq p47 n47 c47 (n47 : Int) 0 y)))) : E6 R p2 n2 c2 F2 Ff HU Gg Gh Gi Hw GL Hx Hv Hy Hz Ig Ie F5 F6 HH HI HJ F7 GC GD p8 n8 c8 v9 gy n25 hJ ju JU σ := M.gU h ok rfl fun _ _ => by kernel_rfl
theorem FX (h : Br (RL < V3) (Pq p47 fun b51 o51 => In RL (n47 : Int) ∧ ∃ AFX AFY AFZ AFa AFb AFc,Au σ b51 (o51 + Int.toNat RL * 2) [.slice AFX AFY AFZ,.slice AFa AFb AFc] ∧ ∀ BL : Nat,Pq Wr fun wo o57 => In Ff (n12 : Int) ∧ ∃ v58,Hp.ld σ ⟨wo,(o57 + Int.toNat Ff * 1),none⟩ = some v58 ∧ ∃ (f63 : Nat) (Kt Ku : Array Value),v58 = .func (.func f63) Kt Ku ∧ Enters prog f63 ∧ Spec prog f63 (Kt ++ #[.slice AFa AFb AFc,.agg #[.int .i64 F2,.int .i64 Ff,.string HU,.slice Gg Gh Gi,.int .i64 Hw,.int .i64 GL,.int .i64 Hx,.slice Hv Hy Hz,.bool Ig,.int .i64 Ie],.slice p2 n2 c2] ++ Ku) σ (AA R (fun z y => ∃ AFd AFe,z = (.tuple #[.int .u64 AFd,.bool AFe]) ∧ Bo AFe (Spec prog 146 #[.slice AFX AFY AFZ] y (AA R (CS fun p70 n70 c70 AF => Al AF fun b73 => AJ prog (Builtin.append_ #[67,67] 67 #[.slice p8 n8 c8,(.slice (aD b73 0) 1 1)]) (Hp.set AF b73 (.cells #[.slice p70 n70 c70,.int .u64 AFd] 71 (0,0))) (CS fun p74 n74 c74 AH => Lw R p2 n2 c2 F2 Ff HU Gg Gh Gi Hw GL Hx Hv Hy Hz Ig Ie F5 F6 HH HI HJ F7 GC GD p74 n74 c74 (aD wo o57) n12 Vu (aD b51 o51) n47 c47 V3 RL AH)))) (Lw R p2 n2 c2 F2 Ff HU Gg Gh Gi Hw GL Hx Hv Hy Hz Ig Ie F5 F6 HH HI HJ F7 GC GD p8 n8 c8 (aD wo o57) n12 Vu (aD b51 o51) n47 c47 V3 RL y)))) (Spec prog 148 #[.slice p8 n8 c8] σ (AA R (fun z y => ∃ wx wy wz w6 w7 w9 xA xB AFf,z = (.tuple #[.agg #[.int .i64 wx,.int .u64 wy,.slice wz w6 w7,.slice w9 xA xB],.int .i64 AFf]) ∧ R (.returned (.tuple #[.agg #[.int .i64 wx,.int .u64 wy,.slice wz w6 w7,.slice w9 xA xB],.int .i64 AFf])) y)))) : FJ R p2 n2 c2 F2 Ff HU Gg Gh Gi Hw GL Hx Hv Hy Hz Ig Ie F5 F6 HH HI HJ F7 GC GD p8 n8 c8 Wr n12 Vu p47 n47 c47 V3 RL σ := M.gU h ok rfl fun _ _ => by kernel_rfl
theorem I7 (h : AN (RL + 1) ∧ FJ R p2 n2 c2 F2 Ff HU Gg Gh Gi Hw GL Hx Hv Hy Hz Ig Ie F5 F6 HH HI HJ F7 GC GD p8 n8 c8 Wr n12 Vu p47 n47 c47 V3 (RL + 1) σ) : Lw R p2 n2 c2 F2 Ff HU Gg Gh Gi Hw GL Hx Hv Hy Hz Ig Ie F5 F6 HH HI HJ F7 GC GD p8 n8 c8 Wr n12 Vu p47 n47 c47 V3 RL σ := M.gU h ok rfl fun _ _ => by kernel_rfl
end AU
namespace BH
variable {q0 Dc Dn p2 HH F7 p8 gy : Option Addr} {DW CP DX Dd C1 CW F5 F6 ju JU : Int} {DY : ByteArray} {De Dg Dh Dp n2 c2 HI HJ GC GD n8 c8 n25 hJ : Nat} {C2 : Bool}
def M : Fw := ⟨prog,106,f106,[146,148,162],[4,6,10],false,[],[],[(488,[(6,.X 93 [.I .i64,.I .u64,.L,.L]),(8,wL),(25,wL),(26,wI),(27,wI)])]⟩
theorem ok : M.Ok := ⟨.cons call146 (.cons call148 (.cons call162 (AG.nil))),mixed,func106,by kernel_rfl⟩
def tR := M.pt 0
theorem start (h : ∀ b4 : Nat,∀ b6 : Nat,Pq p2 fun PM P1 => In 0 (n2 : Int) ∧ LI .i64 σ PM P1 fun Zx => Br (Zx = 1) (In 0 (n2 : Int) ∧ LI .u64 σ PM (P1 + 1) fun Dm => Spec prog 162 #[.int .u64 Dm] σ (AA R (CI .u64 fun Hj y => R (.returned (.tuple #[.agg #[.int .i64 1,.int .u64 Hj,.slice none 0 0,.slice none 0 0],.int .i64 0])) y))) (In 0 (n2 : Int) ∧ LS σ PM (P1 + 2) fun gy n25 hJ => tR R 0 0 none 0 0 none 0 0 none 0 0 gy n25 hJ (n25 : Int) 0 σ)) : Spec prog 106 #[.pointer q0,.agg #[.int .i64 DW,.int .i64 CP,.string DY,.slice Dc De Dg,.int .i64 DX,.int .i64 Dd,.int .i64 C1,.slice Dn Dh Dp,.bool C2,.int .i64 CW],.slice p2 n2 c2] σ R := M.start h ok
theorem eV (h : Br (JU < ju) (Pq gy fun YB eP => In JU (n25 : Int) ∧ ∃ mH mI mJ mK,Au σ YB (eP + Int.toNat JU * 2) [.slice mH mI mJ,.int .u64 mK] ∧ ∀ Cb : Nat,Spec prog 146 #[.slice mH mI mJ] σ (AA R (CS fun p34 n34 c34 y => Spec prog 162 #[.int .u64 mK] y (AA R (CI .u64 fun P7 AF => Al AF fun rR => AJ prog (Builtin.append_ #[67,67] 67 #[.slice p8 n8 c8,(.slice (aD rR 0) 1 1)]) (Hp.set AF rR (.cells #[.slice p34 n34 c34,.int .u64 P7] 71 (0,0))) (CS fun zr n40 zt AH => AN (JU + 1) ∧ tR R F5 F6 HH HI HJ F7 GC GD zr n40 zt (aD YB eP) n25 hJ ju (JU + 1) AH)))))) (Spec prog 148 #[.slice p8 n8 c8] σ (AA R (fun z y => ∃ xC xD xE xF xG xH xI xJ Lv,z = (.tuple #[.agg #[.int .i64 xC,.int .u64 xD,.slice xE xF xG,.slice xH xI xJ],.int .i64 Lv]) ∧ R (.returned (.tuple #[.agg #[.int .i64 xC,.int .u64 xD,.slice xE xF xG,.slice xH xI xJ],.int .i64 Lv])) y)))) : tR R F5 F6 HH HI HJ F7 GC GD p8 n8 c8 gy n25 hJ ju JU σ := M.jj h ok rfl fun _ => by kernel_rfl
end BH
namespace Dt
variable {p0 p5 : Option Addr} {n0 c0 n5 c5 : Nat} {x1 : Int}
def M : Fw := ⟨prog,107,f107,[],[],false,[],[],[(224,[(1,wU),(5,wL)])]⟩
theorem ok : M.Ok := ⟨AG.nil,mixed,func107,by kernel_rfl⟩
def Gf := M.pt 0
theorem start (h : Al σ fun b6 => AJ prog (Builtin.append_ #[90,90] 90 #[(.slice (aD b6 0) 0 0),.slice p0 n0 c0]) (Hp.set σ b6 (.cells #[] 5 (0,0))) (CS fun p8 n8 c8 y => Gf R x1 p8 n8 c8 y)) : Spec prog 107 #[.slice p0 n0 c0,.int .u64 x1] σ R := M.start h ok
theorem BA (h : Br (127 < x1) (Df (IntKind.u8.wrap x1) fun x15 => Df (Go.bits .or .u8 x15 128) fun x16 => Al σ fun b17 => AJ prog (Builtin.append_ #[90,90] 90 #[.slice p5 n5 c5,(.slice (aD b17 0) 1 1)]) (Hp.set σ b17 (.cells #[.int .u8 x16] 5 (0,0))) (CS fun rH n18 rI y => ((0 : Int) ≤ 7 ∧ 7 ≤ ((IntKind.bits .u64 : Nat) : Int)) ∧ Df (x1 / 2 ^ Int.toNat 7) fun x12 => Gf R x12 rH n18 rI y)) (Df (IntKind.u8.wrap x1) fun bR => Al σ fun b22 => AJ prog (Builtin.append_ #[90,90] 90 #[.slice p5 n5 c5,(.slice (aD b22 0) 1 1)]) (Hp.set σ b22 (.cells #[.int .u8 bR] 5 (0,0))) (CS fun q9 n23 rE y => R (.returned (.slice q9 n23 rE)) y))) : Gf R x1 p5 n5 c5 σ := M.of h ok rfl
end Dt
namespace SQ
variable {x0 : Int}
def M : Fw := ⟨prog,128,f128,[],[],false,[],[],[]⟩
theorem ok : M.Ok := ⟨AG.nil,mixed,func128,by kernel_rfl⟩
theorem start (h : Br (11 ≤ x0) (R (.returned (.bool (decide (x0 ≤ 13)))) σ) (R (.returned (.bool false)) σ)) : Spec prog 128 #[.int .i64 x0] σ R := M.start h ok
end SQ
namespace JW
variable {q0 : Option Addr} {x1 : Int} {s2 : ByteArray}
def M : Fw := ⟨prog,136,f136,[66],[],false,[],[],[]⟩
theorem ok : M.Ok := ⟨.cons call66 (AG.nil),mixed,func136,by kernel_rfl⟩
theorem start (h : Spec prog 66 #[.pointer q0] σ (AA R (fun z y => ∃ D7 EF s8c x8d,z = (.agg #[.int .i64 D7,.int .i64 EF,.string s8c,.int .i64 x8d]) ∧ Br (D7 = x1) (Spec prog 66 #[.pointer q0] y (AA R (fun z AF => ∃ GQ Tq Vw AAX,z = (.agg #[.int .i64 GQ,.int .i64 Tq,.string Vw,.int .i64 AAX]) ∧ R (.returned (.bool (ByteArray.toList Vw == ByteArray.toList s2))) AF))) (R (.returned (.bool false)) y)))) : Spec prog 136 #[.pointer q0,.int .i64 x1,.string s2] σ R := M.start h ok
end JW
namespace D8
variable {p0 p1 p5 p9 : Option Addr} {n0 c0 n1 c1 n5 c5 n9 c9 : Nat} {x10 x11 : Int}
def M : Fw := ⟨prog,142,f142,[125,178,179,180],[7],false,[],[],[(232,[(1,wL),(5,wL),(9,wL),(10,wI),(11,wI)])]⟩
theorem ok : M.Ok := ⟨.cons call125 (.cons call178 (.cons call179 (.cons call180 (AG.nil)))),mixed,func142,by kernel_rfl⟩
def A8 := M.pt 0
theorem start (h : Spec prog 178 #[] σ (AA R (CS fun p8 n8 c8 y => A8 R p1 n1 c1 p8 n8 c8 p0 n0 c0 (n0 : Int) 0 y))) : Spec prog 142 #[.slice p0 n0 c0,.slice p1 n1 c1] σ R := M.start h ok
theorem Aa (h : Br (x11 < x10) (Pq p9 fun DC jn => In x11 (n9 : Int) ∧ ∃ GQ bK Vw,Au σ DC (jn + Int.toNat x11 * 3) [.int .i64 GQ,.string bK,.string Vw] ∧ ∀ b7 : Nat,Spec prog 125 #[.int .i64 GQ] σ (AA R (CB fun t17 y => Bn t17 (R (.returned (.bool false)) y) (Pq p5 fun OB eF => In GQ (n5 : Int) ∧ ∃ v24,Hp.ld y ⟨OB,(eF + Int.toNat GQ * 1),none⟩ = some v24 ∧ Spec prog 179 #[.string Vw] y (AA R (fun z AF => ∃ Mh Lu Mi,z = (.agg #[.slice Mh Lu Mi]) ∧ Kp [OB] y AF ∧ Spec prog 180 #[.slice p1 n1 c1,.string bK] AF (AA R (CT fun s34 AH => Kp [OB] AF AH ∧ ∃ (f35 : Nat) (YR YS : Array Value),v24 = .func (.func f35) YR YS ∧ Enters prog f35 ∧ Spec prog f35 (YR ++ #[.agg #[.slice Mh Lu Mi,.string Vw],.string s34] ++ YS) AH (AA R (CB fun t35 Ab => Bn t35 (R (.returned (.bool false)) Ab) (AN (x11 + 1) ∧ A8 R p1 n1 c1 (aD OB eF) n5 c5 (aD DC jn) n9 c9 x10 (x11 + 1) Ab))))))))))) (R (.returned (.bool true)) σ)) : A8 R p1 n1 c1 p5 n5 c5 p9 n9 c9 x10 x11 σ := M.of h ok rfl
end D8
namespace Um
variable {p0 : Option Addr} {n0 c0 : Nat}
def M : Fw := ⟨prog,146,f146,[150],[],false,[],[],[]⟩
theorem ok : M.Ok := ⟨.cons call150 (AG.nil),mixed,func146,by kernel_rfl⟩
theorem start (h : Al σ fun b4 => Spec prog 150 #[.slice p0 n0 c0,(.slice (aD b4 0) 1 1)] (Hp.set σ b4 (.cells #[(.string (ByteArray.mk #[95,95,110,97,109,101,95,95]))] 9 (0,0))) (AA R (CS fun p5 n5 c5 y => R (.returned (.slice p5 n5 c5)) y))) : Spec prog 146 #[.slice p0 n0 c0] σ R := M.start h ok
end Um
namespace EH
variable {p0 p2c p2d : Option Addr} {n0 c0 n2c c2c n2d c2d : Nat} {tS x2b x4 : Int}
def M : Fw := ⟨prog,148,f148,[52,195],[2],false,[],[],[(464,[(0,wL),(2,.X 93 [.I .i64,.I .u64,.L,.L]),(4,wI)])]⟩
theorem ok : M.Ok := ⟨.cons call52 (.cons call195 (AG.nil)),mixed,func148,by kernel_rfl⟩
def Bk := M.pt 0
theorem start (h : ∀ b2 : Nat,Spec prog 195 #[.slice p0 n0 c0,(.func (.func 196) #[] #[])] σ (AA R (fun z y => z = (.tuple #[]) ∧ Bk R p0 n0 c0 0 0 none 0 0 none 0 0 1 y))) : Spec prog 148 #[.slice p0 n0 c0] σ R := M.start h ok
theorem A5 (h : Br (x4 < (n0 : Int)) (AN (x4 - 1) ∧ Pq p0 fun ME Vi => In (x4 - 1) (n0 : Int) ∧ LS σ ME (Vi + Int.toNat (x4 - 1) * 2) fun rH n18 rI => In x4 (n0 : Int) ∧ LS σ ME (Vi + Int.toNat x4 * 2) fun q9 n23 rE => Spec prog 52 #[.slice rH n18 rI,.slice q9 n23 rE] σ (AA R (CI .i64 fun JO y => Br (JO = 0) (R (.returned (.tuple #[.agg #[.int .i64 0,.int .u64 0,.slice none 0 0,.slice none 0 0],.int .i64 223])) y) (AN (x4 + 1) ∧ Bk R (aD ME Vi) n0 c0 tS x2b p2c n2c c2c p2d n2d c2d (x4 + 1) y)))) (R (.returned (.tuple #[.agg #[.int .i64 2,.int .u64 0,.slice p0 n0 c0,.slice none 0 0],.int .i64 0])) σ)) : Bk R p0 n0 c0 tS x2b p2c n2c c2c p2d n2d c2d x4 σ := M.jj h ok rfl fun _ => by kernel_rfl
end EH
namespace DJ
variable {x0 : Int} {b1 b2 : Nat}
def M : Fw := ⟨prog,158,f158,[156],[],false,[],[],[]⟩
theorem ok : M.Ok := ⟨.cons call156 (AG.nil),mixed,func158,by kernel_rfl⟩
theorem start (h : ∃ F5 F6 s6c F7 GC GD x6e x6f x6g p6h n6h c6h t6i x6j,Au σ b1 0 [.int .i64 F5,.int .i64 F6,.string s6c,.slice F7 GC GD,.int .i64 x6e,.int .i64 x6f,.int .i64 x6g,.slice p6h n6h c6h,.bool t6i,.int .i64 x6j] ∧ LI .u64 σ b2 1 fun x8 => Spec prog 156 #[.agg #[.int .i64 F5,.int .i64 F6,.string s6c,.slice F7 GC GD,.int .i64 x6e,.int .i64 x6f,.int .i64 x6g,.slice p6h n6h c6h,.bool t6i,.int .i64 x6j],.int .u64 x8,.int .u64 x0] σ (AA R (fun z y => ∃ Iq RQ,z = (.tuple #[.int .u64 Iq,.bool RQ]) ∧ R (.returned (.tuple #[.int .u64 Iq,.bool RQ])) y))) : Spec prog 158 #[.int .u64 x0,(.pointer (aD b1 0)),(.pointer (aD b2 0))] σ R := M.start h ok
end DJ
namespace DK
variable {q0 : Option Addr}
def M : Fw := ⟨prog,171,f171,[95],[],false,[],[],[]⟩
theorem ok : M.Ok := ⟨.cons call95 (AG.nil),mixed,func171,by kernel_rfl⟩
theorem start (h : Spec prog 95 #[.pointer q0,(.func (.func 212) #[.pointer q0] #[]),.int .i64 1,.int .i64 2] σ (AA R (fun z y => z = (.tuple #[]) ∧ R (.returned (.tuple #[])) y))) : Spec prog 171 #[.pointer q0] σ R := M.start h ok
end DK
namespace IG
variable {p0 p7 : Option Addr} {n0 c0 n7 c7 : Nat} {s1 : ByteArray} {x8 x9 : Int}
def M : Fw := ⟨prog,180,f180,[],[6],false,[],[],[(104,[(1,wT),(7,wL),(8,wI),(9,wI)])]⟩
theorem ok : M.Ok := ⟨AG.nil,mixed,func180,by kernel_rfl⟩
def Hs := M.pt 0
theorem start (h : Hs R s1 p0 n0 c0 (n0 : Int) 0 σ) : Spec prog 180 #[.slice p0 n0 c0,.string s1] σ R := M.start h ok
theorem Bg (h : Br (x9 < x8) (Pq p7 fun BF jt => In x9 (n7 : Int) ∧ ∃ AFg AFh,Au σ BF (jt + Int.toNat x9 * 2) [.string AFg,.string AFh] ∧ ∀ b6 : Nat,Bo (ByteArray.toList AFg == ByteArray.toList s1) (R (.returned (.string AFh)) σ) (AN (x9 + 1) ∧ Hs R s1 (aD BF jt) n7 c7 x8 (x9 + 1) σ)) (R (.returned (.string (ByteArray.mk #[]))) σ)) : Hs R s1 p7 n7 c7 x8 x9 σ := M.of h ok rfl
end IG
namespace DL
variable {p0 p1 : Option Addr} {n0 c0 n1 c1 : Nat}
def M : Fw := ⟨prog,191,f191,[192],[],false,[],[],[]⟩
theorem ok : M.Ok := ⟨.cons call192 (AG.nil),mixed,func191,by kernel_rfl⟩
theorem start (h : Spec prog 192 #[.slice p0 n0 c0] σ (AA R (CI .u64 fun x6 y => R (.returned (.int .u64 x6)) y))) : Spec prog 191 #[.slice p0 n0 c0,.slice p1 n1 c1] σ R := M.start h ok
end DL
namespace SR
variable {x0 x1 x2 : Int}
def M : Fw := ⟨prog,203,f203,[174,182],[],false,[],[],[]⟩
theorem ok : M.Ok := ⟨.cons call174 (.cons call182 (AG.nil)),mixed,func203,by kernel_rfl⟩
theorem start (h : Spec prog 182 #[.int .u64 x1] σ (AA R (fun z y => ∃ x11,(Value.float .f64 x11) = z ∧ Spec prog 182 #[.int .u64 x2] y (AA R (fun z AF => ∃ E8,(Value.float .f64 E8) = z ∧ Br (x0 = 1) (AJ prog (binOp .add 51 (Value.float .f64 x11) (Value.float .f64 E8)) AF (fun z AH => ∃ Dm,(Value.float .f64 Dm) = z ∧ Spec prog 174 #[(Value.float .f64 Dm)] AH (AA R (CI .u64 fun Hj Ab => R (.returned (.tuple #[.int .u64 Hj,.bool true])) Ab)))) (Br (x0 = 2) (AJ prog (binOp .sub 51 (Value.float .f64 x11) (Value.float .f64 E8)) AF (fun z AH => ∃ Te,(Value.float .f64 Te) = z ∧ Spec prog 174 #[(Value.float .f64 Te)] AH (AA R (CI .u64 fun ju Ab => R (.returned (.tuple #[.int .u64 ju,.bool true])) Ab)))) (Br (x0 = 3) (AJ prog (binOp .mul 51 (Value.float .f64 x11) (Value.float .f64 E8)) AF (fun z AH => ∃ x31,(Value.float .f64 x31) = z ∧ Spec prog 174 #[(Value.float .f64 x31)] AH (AA R (CI .u64 fun mE Ab => R (.returned (.tuple #[.int .u64 mE,.bool true])) Ab)))) (Br (x0 = 4) (AJ prog (binOp .quo 51 (Value.float .f64 x11) (Value.float .f64 E8)) AF (fun z AH => ∃ P7,(Value.float .f64 P7) = z ∧ Spec prog 174 #[(Value.float .f64 P7)] AH (AA R (CI .u64 fun wv Ab => R (.returned (.tuple #[.int .u64 wv,.bool true])) Ab)))) (R (.returned (.tuple #[.int .u64 0,.bool false])) AF))))))))) : Spec prog 203 #[.int .i64 x0,.int .u64 x1,.int .u64 x2] σ R := M.start h ok
end SR
namespace SS
variable {t0 : Bool}
def M : Fw := ⟨prog,205,f205,[143],[],false,[],[],[]⟩
theorem ok : M.Ok := ⟨.cons call143 (AG.nil),mixed,func205,by kernel_rfl⟩
theorem start (h : Bo t0 (Spec prog 143 #[.int .i64 1] σ (AA R (CI .u64 fun x4 y => R (.returned (.int .u64 x4)) y))) (Spec prog 143 #[.int .i64 0] σ (AA R (CI .u64 fun x5 y => R (.returned (.int .u64 x5)) y)))) : Spec prog 205 #[.bool t0] σ R := M.start h ok
end SS
namespace Co
variable {s0 : ByteArray} {x1 : Int}
def M : Fw := ⟨prog,214,f214,[231],[],false,[],[],[]⟩
theorem ok : M.Ok := ⟨.cons call231 (AG.nil),mixed,func214,by kernel_rfl⟩
theorem start (h : Spec prog 231 #[.string s0,.int .i64 x1] σ (AA R (fun z y => ∃ AFi mL AFj,z = (.tuple #[AFi,.int .i64 mL,AFj]) ∧ Br (mL ≠ ((ByteArray.size s0 : Nat) : Int)) (R (.returned (.tuple #[.float .f64 0,(.iface 264 (.int .i64 2))])) y) (R (.returned (.tuple #[AFi,AFj])) y)))) : Spec prog 214 #[.string s0,.int .i64 x1] σ R := M.start h ok
end Co
namespace Ef
variable {Tt : Option Addr} {MG RY : Nat} {Zz s1 : ByteArray}
def M : Fw := ⟨prog,217,f217,[],[2],false,[],[],[]⟩
theorem ok : M.Ok := ⟨AG.nil,mixed,func217,by kernel_rfl⟩
theorem start (h : ∀ b2 : Nat,R (.returned (.bool (ByteArray.toList s1 == ByteArray.toList Zz))) σ) : Spec prog 217 #[.agg #[.slice Tt MG RY,.string Zz],.string s1] σ R := M.start h ok
end Ef
namespace SU
variable {p0 : Option Addr} {n0 c0 : Nat}
def M : Fw := ⟨prog,225,f225,[174,240,241],[],false,[],[],[]⟩
theorem ok : M.Ok := ⟨.cons call174 (.cons call240 (.cons call241 (AG.nil))),mixed,func225,by kernel_rfl⟩
theorem start (h : Spec prog 240 #[(.int .i64 (n0 : Int))] σ (AA R (CB fun t7 y => Bn t7 (R (.returned (.tuple #[.int .u64 0,.int .i64 210])) y) ((n0 : Int) ≠ (0 : Int) ∧ Df (Int.tmod 1 (n0 : Int)) fun x12 => Spec prog 241 #[.slice p0 n0 c0,.int .i64 x12] y (AA R (fun z AF => ∃ E8 y13,(Value.complex .f64 E8 y13) = z ∧ ∃ x15,YF prog (Builtin.real_ #[272] 51 #[(Value.complex .f64 E8 y13)]) AF (Value.float .f64 x15) ∧ ∃ x17,YF prog (Builtin.real_ #[272] 51 #[(Value.complex .f64 E8 y13)]) AF (Value.float .f64 x17) ∧ AJ prog (binOp .mul 51 (Value.float .f64 x15) (Value.float .f64 x17)) AF (fun z AH => ∃ Un,(Value.float .f64 Un) = z ∧ ∃ Hj,YF prog (Builtin.imag_ #[272] 51 #[(Value.complex .f64 E8 y13)]) AH (Value.float .f64 Hj) ∧ ∃ JX,YF prog (Builtin.imag_ #[272] 51 #[(Value.complex .f64 E8 y13)]) AH (Value.float .f64 JX) ∧ AJ prog (binOp .mul 51 (Value.float .f64 Hj) (Value.float .f64 JX)) AH (fun z Ab => ∃ D9,(Value.float .f64 D9) = z ∧ AJ prog (binOp .add 51 (Value.float .f64 Un) (Value.float .f64 D9)) Ab (fun z DV => ∃ JO,(Value.float .f64 JO) = z ∧ Spec prog 174 #[(Value.float .f64 JO)] DV (AA R (CI .u64 fun Te Ex => R (.returned (.tuple #[.int .u64 Te,.int .i64 0])) Ex))))))))))) : Spec prog 225 #[.slice p0 n0 c0] σ R := M.start h ok
end SU
namespace PU
def M : Fw := ⟨prog,267,f267,[],[],false,[],[],[]⟩
theorem ok : M.Ok := ⟨AG.nil,mixed,func267,by kernel_rfl⟩
theorem start (h : Al σ fun b1 => R (.returned (.slice (aD b1 0) 13 13)) (Hp.set σ b1 (.cells #[(.string (ByteArray.mk #[])),(.string (ByteArray.mk #[114,97,116,101])),(.string (ByteArray.mk #[105,110,99,114,101,97,115,101])),(.string (ByteArray.mk #[100,101,108,116,97])),(.string (ByteArray.mk #[115,117,109,95,111,118,101,114,95,116,105,109,101])),(.string (ByteArray.mk #[97,118,103,95,111,118,101,114,95,116,105,109,101])),(.string (ByteArray.mk #[109,105,110,95,111,118,101,114,95,116,105,109,101])),(.string (ByteArray.mk #[109,97,120,95,111,118,101,114,95,116,105,109,101])),(.string (ByteArray.mk #[99,111,117,110,116,95,111,118,101,114,95,116,105,109,101])),(.string (ByteArray.mk #[108,97,115,116,95,111,118,101,114,95,116,105,109,101])),(.string (ByteArray.mk #[119,97,118,101])),(.string (ByteArray.mk #[97,98,115])),(.string (ByteArray.mk #[102,108,111,111,114]))] 9 (0,0)))) : Spec prog 267 #[] σ R := M.start h ok
end PU
namespace Ak
variable {q0 : Option Addr} {b2 : Nat} {t4 : Bool}
def M : Fw := ⟨prog,270,f270,[66,67,135,136,138,210,295,296,297,298],[3],false,[],[],[(124,[(0,wQ),(2,wA),(4,wB)]),(252,[(0,wQ),(2,wA)]),(508,[(0,wQ),(2,wA)]),(255,[(0,wQ),(2,wA)])]⟩
theorem ok : M.Ok := ⟨.cons call66 (.cons call67 (.cons call135 (.cons call136 (.cons call138 (.cons call210 (.cons call295 (.cons call296 (.cons call297 (.cons call298 (AG.nil)))))))))),mixed,func270,by kernel_rfl⟩
def Lq := M.pt 0
def Ls := M.pt 1
def P5 := M.pt 2
def V4 := M.pt 3
theorem start (h : Al σ fun b2 => AJ prog (Instr.storeAt 36 (.pointer (aD b2 0)) (.agg #[.int .i64 2,.int .i64 0,(.string (ByteArray.mk #[])),.slice none 0 0,.int .i64 0,.int .i64 0,.int .i64 0,.slice none 0 0,.bool false,.int .i64 0])) (Hp.set σ b2 (.cells #[.int .i64 0,.int .i64 0,(.string (ByteArray.mk #[])),.slice none 0 0,.int .i64 0,.int .i64 0,.int .i64 0,.slice none 0 0,.bool false,.int .i64 0] 36 (0,0))) (fun _ y => Spec prog 66 #[.pointer q0] y (AA R (fun z AF => ∃ Fj Gj Fk Gk,z = (.agg #[.int .i64 Fj,.int .i64 Gj,.string Fk,.int .i64 Gk]) ∧ ∀ b3 : Nat,Br (Fj = 3) (Spec prog 295 #[.string Fk] AF (AA R (CB fun t14 AH => Bn t14 (Spec prog 135 #[.pointer q0] AH (AA R (fun z Ab => ∃ Jx Oc Vk ze,z = (.agg #[.int .i64 Jx,.int .i64 Oc,.string Vk,.int .i64 ze]) ∧ Spec prog 296 #[.pointer q0,(.pointer (aD b2 0)),(.agg #[.int .i64 1,(.string (ByteArray.mk #[95,95,110,97,109,101,95,95])),.string Fk]),.agg #[.int .i64 Fj,.int .i64 Gj,.string Fk,.int .i64 Gk]] Ab (AA R (fun z DV => z = (.tuple #[]) ∧ Lq R q0 b2 true DV))))) (Lq R q0 b2 false AH)))) (Lq R q0 b2 false AF))))) : Spec prog 270 #[.pointer q0] σ R := M.start h ok
theorem Ip (h : Spec prog 136 #[.pointer q0,.int .i64 5,(.string (ByteArray.mk #[123]))] σ (AA R (CB fun t27 y => Bo t27 (Spec prog 135 #[.pointer q0] y (AA R (fun z AF => ∃ AL7 AL8 AL9 AMA,z = (.agg #[.int .i64 AL7,.int .i64 AL8,.string AL9,.int .i64 AMA]) ∧ Spec prog 297 #[.pointer q0,(.pointer (aD b2 0))] AF (AA R (fun z AH => z = (.tuple #[]) ∧ Ls R q0 b2 AH))))) (Bn t4 (Spec prog 67 #[.pointer q0] y (AA R (fun z AF => z = (.tuple #[]) ∧ Ls R q0 b2 AF))) (Ls R q0 b2 y))))) : Lq R q0 b2 t4 σ := M.of h ok rfl
theorem I5 (h : Spec prog 136 #[.pointer q0,.int .i64 5,(.string (ByteArray.mk #[91]))] σ (AA R (CB fun t37 y => Bo t37 (Spec prog 135 #[.pointer q0] y (AA R (fun z AF => ∃ AMB AMC AMD AME,z = (.agg #[.int .i64 AMB,.int .i64 AMC,.string AMD,.int .i64 AME]) ∧ Spec prog 298 #[.pointer q0] AF (AA R (CI .i64 fun x41 AH => AJ prog (Instr.storeAt 3 (.pointer (aD b2 0)) (.int .i64 3)) AH (fun _ Ab => AJ prog (Instr.storeAt 2 (.pointer (aD b2 4)) (.int .i64 x41)) Ab (fun _ DV => Spec prog 210 #[.pointer q0,(.string (ByteArray.mk #[93]))] DV (AA R (fun z Ex => z = (.tuple #[]) ∧ P5 R q0 b2 Ex))))))))) (P5 R q0 b2 y)))) : Ls R q0 b2 σ := M.of h ok rfl
theorem Qc (h : Spec prog 136 #[.pointer q0,.int .i64 3,(.string (ByteArray.mk #[111,102,102,115,101,116]))] σ (AA R (CB fun t47 y => Bo t47 (Spec prog 135 #[.pointer q0] y (AA R (fun z AF => ∃ AMF AMG AMH AMI,z = (.agg #[.int .i64 AMF,.int .i64 AMG,.string AMH,.int .i64 AMI]) ∧ Spec prog 298 #[.pointer q0] AF (AA R (CI .i64 fun x51 AH => AJ prog (Instr.storeAt 2 (.pointer (aD b2 5)) (.int .i64 x51)) AH (fun _ Ab => V4 R q0 b2 Ab)))))) (V4 R q0 b2 y)))) : P5 R q0 b2 σ := M.of h ok rfl
theorem V5 (h : ∃ YC YD mM YE YG YH mN mO mP mQ mR mS mT mU,Au σ b2 0 [.int .i64 YC,.int .i64 YD,.string mM,.slice YE YG YH,.int .i64 mN,.int .i64 mO,.int .i64 mP,.slice mQ mR mS,.bool mT,.int .i64 mU] ∧ Spec prog 138 #[.pointer q0,.agg #[.int .i64 YC,.int .i64 YD,.string mM,.slice YE YG YH,.int .i64 mN,.int .i64 mO,.int .i64 mP,.slice mQ mR mS,.bool mT,.int .i64 mU]] σ (AA R (fun z y => z = (.tuple #[]) ∧ R (.returned (.tuple #[])) y))) : V4 R q0 b2 σ := M.of h ok rfl
end Ak
namespace BI
variable {x0 x1 : Int} {t2 t7 : Bool} {v6 : Value}
def M : Fw := ⟨prog,282,f282,[],[],false,[],[],[(248,[(1,wI),(6,wV),(7,wB)]),(15988,[(1,wI),(6,wV),(7,wB)])]⟩
theorem ok : M.Ok := ⟨AG.nil,mixed,func282,by kernel_rfl⟩
def QB := M.pt 0
def Js := M.pt 1
theorem start (h : LI .u64 σ 6 0 fun x10 => (0 ≤ x10 ∧ x10 ≤ ((IntKind.bits .u64 : Nat) : Int)) ∧ Df (x0 / 2 ^ Int.toNat x10) fun x11 => Br (x11 ≠ 0) (R (.returned (.tuple #[.float .f64 0,.bool false])) σ) (AJ prog (convert 48 51 (.int .u64 x0)) σ (fun z y => ∃ Zx,(Value.float .f64 Zx) = z ∧ Bo t2 (∃ x17,YF prog (Op.unary .neg (Value.float .f64 Zx)) y (Value.float .f64 x17) ∧ QB R x1 (Value.float .f64 x17) false y) (QB R x1 (Value.float .f64 Zx) false y)))) : Spec prog 282 #[.int .u64 x0,.int .i64 x1,.bool t2] σ R := M.start h ok
theorem Qd (h : Br (x1 = 0) (R (.returned (.tuple #[v6,.bool true])) σ) (Br (0 < x1) (Br (x1 ≤ 37) (Br (22 < x1) (LS σ 9 0 fun p32 n32 c32 => AN (x1 - 22) ∧ Pq p32 fun b35 o35 => In (x1 - 22) (n32 : Int) ∧ ∃ Z0,Hp.ld σ ⟨b35,(o35 + Int.toNat (x1 - 22) * 1),none⟩ = some (Value.float .f64 Z0) ∧ AJ prog (binOp .mul 51 v6 (Value.float .f64 Z0)) σ (fun z y => ∃ P7,(Value.float .f64 P7) = z ∧ Js R 22 (Value.float .f64 P7) t7 y)) (Js R x1 v6 t7 σ)) (Br (x1 < 0) (Br (((-22) : Int) ≤ x1) (LS σ 9 0 fun vq rF c58 => Df (IntKind.i64.wrap (0 - x1)) fun tP => Pq vq fun b61 o61 => In tP (rF : Int) ∧ ∃ tT,Hp.ld σ ⟨b61,(o61 + Int.toNat tP * 1),none⟩ = some (Value.float .f64 tT) ∧ AJ prog (binOp .quo 51 v6 (Value.float .f64 tT)) σ (fun z y => ∃ x63,(Value.float .f64 x63) = z ∧ R (.returned (.tuple #[(Value.float .f64 x63),.bool true])) y)) (R (.returned (.tuple #[v6,.bool t7])) σ)) (R (.returned (.tuple #[v6,.bool t7])) σ))) (Br (x1 < 0) (Br (((-22) : Int) ≤ x1) (LS σ 9 0 fun vq rF c58 => Df (IntKind.i64.wrap (0 - x1)) fun tP => Pq vq fun b61 o61 => In tP (rF : Int) ∧ ∃ tT,Hp.ld σ ⟨b61,(o61 + Int.toNat tP * 1),none⟩ = some (Value.float .f64 tT) ∧ AJ prog (binOp .quo 51 v6 (Value.float .f64 tT)) σ (fun z y => ∃ x63,(Value.float .f64 x63) = z ∧ R (.returned (.tuple #[(Value.float .f64 x63),.bool true])) y)) (R (.returned (.tuple #[v6,.bool t7])) σ)) (R (.returned (.tuple #[v6,.bool t7])) σ)))) : QB R x1 v6 t7 σ := M.of h ok rfl
end BI
end TwW
end
end
section
set_option maxRecDepth 100000
noncomputable section
namespace TwW
open Go Tw Go.Proofs.Tryz
variable [Ey] {R : Rr} {σ : Hp}


namespace Bl
variable {p0 NI AML AMM : Option Addr} {n0 c0 n21 Lr AMN AMO AMP AMQ : Nat} {x7 x8 JX D9 gu P8 AMR tU AMS AMT x12 : Int} {t9 AMU : Bool} {gw : ByteArray}
def M : Fw := ⟨prog,15,f15,[37],[11],false,[],[],[(488,[(7,wI),(8,wI),(9,wB),(21,wL),(22,wI),(23,wI)]),(1959,[(7,wI),(8,wI),(9,wB),(21,wL),(22,wI),(23,wI)]),(125342,[(7,wI),(8,wI),(9,wB),(11,.X 36 [.I .i64,.I .i64,.T,.L,.I .i64,.I .i64,.I .i64,.L,.B,.I .i64]),(12,wI),(21,wL),(22,wI),(23,wI)]),(250687,[(7,wI),(8,wI),(21,wL),(22,wI),(23,wI)])]⟩
theorem ok : M.Ok := ⟨.cons call37 (AG.nil),mixed,func15,by kernel_rfl⟩
def AAe := M.pt 0
def AAf := M.pt 1
def V4 := M.pt 2
def X9 := M.pt 3
theorem start (h : Spec prog 37 #[.slice p0 n0 c0] σ (AA R (fun z y => ∃ AMV tV AFm,z = (.tuple #[.int .i64 AMV,.int .i64 tV,.int .i64 AFm]) ∧ Br (AFm ≠ 0) (R (.returned (.tuple #[.int .i64 0,.int .i64 0])) y) (AAe R 0 0 false p0 n0 c0 (n0 : Int) 0 y)))) : Spec prog 15 #[.slice p0 n0 c0] σ R := M.start h ok
theorem V6 (h : Br (D9 < JX) (Pq NI fun Ji Ws => In D9 (n21 : Int) ∧ ∃ V7 mV mW mX mY mZ Oh Oi ma mc me mg mh mi,Au σ Ji (Ws + Int.toNat D9 * 10) [.int .i64 V7,.int .i64 mV,.string mW,.slice mX mY mZ,.int .i64 Oh,.int .i64 Oi,.int .i64 ma,.slice mc me mg,.bool mh,.int .i64 mi] ∧ ∀ BF : Nat,Br (V7 ≠ 2) (Br (V7 ≠ 3) (AAf R x7 x8 t9 (aD Ji Ws) n21 Lr JX D9 σ) (AN (Oi + Oh) ∧ Br (V7 = 2) (AN ((Oi + Oh) + 300) ∧ V4 R x7 x8 t9 V7 mV mW mX mY mZ Oh Oi ma mc me mg mh mi (((Oi + Oh) + 300)) (aD Ji Ws) n21 Lr JX D9 σ) (V4 R x7 x8 t9 V7 mV mW mX mY mZ Oh Oi ma mc me mg mh mi (Oi + Oh) (aD Ji Ws) n21 Lr JX D9 σ))) (AN (Oi + Oh) ∧ Br (V7 = 2) (AN ((Oi + Oh) + 300) ∧ V4 R x7 x8 t9 V7 mV mW mX mY mZ Oh Oi ma mc me mg mh mi (((Oi + Oh) + 300)) (aD Ji Ws) n21 Lr JX D9 σ) (V4 R x7 x8 t9 V7 mV mW mX mY mZ Oh Oi ma mc me mg mh mi (Oi + Oh) (aD Ji Ws) n21 Lr JX D9 σ))) (R (.returned (.tuple #[.int .i64 x7,.int .i64 x8])) σ)) : AAe R x7 x8 t9 NI n21 Lr JX D9 σ := M.of h ok rfl
theorem eW (h : AN (D9 + 1) ∧ AAe R x7 x8 t9 NI n21 Lr JX (D9 + 1) σ) : AAf R x7 x8 t9 NI n21 Lr JX D9 σ := M.of h ok rfl
theorem V5 (h : Bn t9 (X9 R (if x7 < x12 then x12 else x7) tU NI n21 Lr JX D9 σ) (Br (tU < x8) (X9 R (if x7 < x12 then x12 else x7) tU NI n21 Lr JX D9 σ) (X9 R (if x7 < x12 then x12 else x7) x8 NI n21 Lr JX D9 σ))) : V4 R x7 x8 t9 gu P8 gw AML AMN AMO AMR tU AMS AMM AMP AMQ AMU AMT x12 NI n21 Lr JX D9 σ := M.jj h ok rfl fun _ => by kernel_rfl
theorem Vr (h : AAf R x7 x8 true NI n21 Lr JX D9 σ) : X9 R x7 x8 NI n21 Lr JX D9 σ := M.of h ok rfl
end Bl
namespace Uo
variable {s0 : ByteArray} {p1 : Option Addr} {n1 c1 : Nat} {x2 : Int}
def M : Fw := ⟨prog,20,f20,[11,13,43],[],false,[],[],[]⟩
theorem ok : M.Ok := ⟨.cons call11 (.cons call13 (.cons call43 (AG.nil))),mixed,func20,by kernel_rfl⟩
theorem start (h : Spec prog 43 #[.string s0] σ (AA R (fun z y => ∃ lS lT lU AMW AAg,z = (.tuple #[.slice lS lT lU,.int .i64 AMW,.int .i64 AAg]) ∧ Br (AAg ≠ 0) (R (.returned (.tuple #[.slice none 0 0,.int .i64 AAg])) y) (Spec prog 13 #[.slice p1 n1 c1] y (AA R (CS fun QX n22 PJ AF => Spec prog 11 #[.slice lS lT lU,.slice QX n22 PJ,.int .i64 x2] AF (AA R (fun z AH => ∃ AFn AFo AFp V8,z = (.tuple #[.slice AFn AFo AFp,.int .i64 V8]) ∧ R (.returned (.tuple #[.slice AFn AFo AFp,.int .i64 V8])) AH)))))))) : Spec prog 20 #[.string s0,.slice p1 n1 c1,.int .i64 x2] σ R := M.start h ok
end Uo
namespace NY
variable {Tt p0b p1a p1b : Option Addr} {MG RY n0b c0b n1a c1a n1b c1b : Nat}
def M : Fw := ⟨prog,51,f51,[52],[2,3],false,[],[],[]⟩
theorem ok : M.Ok := ⟨.cons call52 (AG.nil),mixed,func51,by kernel_rfl⟩
theorem start (h : ∀ b2 : Nat,∀ b3 : Nat,Spec prog 52 #[.slice Tt MG RY,.slice p1a n1a c1a] σ (AA R (CI .i64 fun x9 y => R (.returned (.int .i64 x9)) y))) : Spec prog 51 #[.agg #[.slice Tt MG RY,.slice p0b n0b c0b],.agg #[.slice p1a n1a c1a,.slice p1b n1b c1b]] σ R := M.start h ok
end NY
namespace MJ
variable {p0 p1 : Option Addr} {n0 c0 n1 c1 : Nat}
def M : Fw := ⟨prog,52,f52,[75],[],false,[],[],[]⟩
theorem ok : M.Ok := ⟨.cons call75 (AG.nil),mixed,func52,by kernel_rfl⟩
theorem start (h : Spec prog 75 #[.slice p0 n0 c0,.slice p1 n1 c1,(.func (.func 76) #[] #[])] σ (AA R (CI .i64 fun x7 y => R (.returned (.int .i64 x7)) y))) : Spec prog 52 #[.slice p0 n0 c0,.slice p1 n1 c1] σ R := M.start h ok
end MJ
namespace SX
def M : Fw := ⟨prog,62,f62,[],[],false,[],[],[]⟩
theorem ok : M.Ok := ⟨AG.nil,mixed,func62,by kernel_rfl⟩
theorem start (h : Al σ fun b1 => R (.returned (.slice (aD b1 0) 5 5)) (Hp.set σ b1 (.cells #[(.string (ByteArray.mk #[115,117,109])),(.string (ByteArray.mk #[109,105,110])),(.string (ByteArray.mk #[109,97,120])),(.string (ByteArray.mk #[97,118,103])),(.string (ByteArray.mk #[99,111,117,110,116]))] 9 (0,0)))) : Spec prog 62 #[] σ R := M.start h ok
end SX
namespace As
variable {s0 Fk : ByteArray} {p5 p6 : Option Addr} {n5 c5 n6 c6 : Nat} {Fj Gj Gk x8 x9 E8 AS0 : Int} {t201 : Bool}
def M : Fw := ⟨prog,63,f63,[90,91,92,93,94],[7],false,[],[],[(1788,[(0,wT),(5,wL),(7,.X 131 [.I .i64,.I .i64,.T,.I .i64]),(8,wI)]),(917472,[(0,wT),(5,wL),(7,.X 131 [.I .i64,.I .i64,.T,.I .i64]),(8,wI),(9,wI)]),(58720224,[(0,wT),(5,wL),(7,.X 131 [.I .i64,.I .i64,.T,.I .i64]),(8,wI),(9,wI)]),(117440508,[(0,wT),(5,wL),(6,wL),(7,.X 131 [.I .i64,.I .i64,.T,.I .i64]),(8,wI),(9,wI)]),(15032385517,[(0,wT),(5,wL),(6,wL),(7,.X 131 [.I .i64,.I .i64,.T,.I .i64]),(8,wI),(9,wI),(13,w8),(199,w8),(201,wB)]),(1879048190,[(0,wT),(5,wL),(6,wL),(7,.X 131 [.I .i64,.I .i64,.T,.I .i64]),(8,wI),(9,wI)]),(458750,[(0,wT),(5,wL),(7,.X 131 [.I .i64,.I .i64,.T,.I .i64]),(8,wI)])]⟩
theorem ok : M.Ok := ⟨.cons call90 (.cons call91 (.cons call92 (.cons call93 (.cons call94 (AG.nil))))),mixed,func63,by kernel_rfl⟩
def Mj := M.pt 0
def YT := M.pt 1
def Up := M.pt 2
def AFq := M.pt 3
def Kv := M.pt 6
theorem start (h : ∀ b7 : Nat,Br ((4096 : Int) < ((ByteArray.size s0 : Nat) : Int)) (R (.returned (.tuple #[.slice none 0 0,.int .i64 0,.int .i64 170])) σ) (Mj R s0 none 0 0 0 0 (ByteArray.mk #[]) 0 0 σ)) : Spec prog 63 #[.string s0] σ R := M.start h ok
theorem Lf (h : Br (x8 = ((ByteArray.size s0 : Nat) : Int)) (Al σ fun sq => AJ prog (Builtin.append_ #[121,121] 121 #[.slice p5 n5 c5,(.slice (aD sq 0) 1 1)]) (Hp.set σ sq (.cells #[.int .i64 0,.int .i64 x8,(.string (ByteArray.mk #[])),.int .i64 0] 131 (0,0))) (CS fun gy n25 hJ y => R (.returned (.tuple #[.slice gy n25 hJ,.int .i64 0,.int .i64 0])) y)) (∃ xK : UInt8,0 ≤ x8 ∧ (ByteArray.data s0)[Int.toNat x8]? = some xK ∧ Br ((((UInt8.toNat xK : Nat) : Int) : Int) = 32) (AN (x8 + 1) ∧ Mj R s0 p5 n5 c5 Fj Gj Fk Gk (x8 + 1) σ) (Br ((((UInt8.toNat xK : Nat) : Int) : Int) = 9) (AN (x8 + 1) ∧ Mj R s0 p5 n5 c5 Fj Gj Fk Gk (x8 + 1) σ) (Br ((((UInt8.toNat xK : Nat) : Int) : Int) = 13) (AN (x8 + 1) ∧ Mj R s0 p5 n5 c5 Fj Gj Fk Gk (x8 + 1) σ) (Br ((((UInt8.toNat xK : Nat) : Int) : Int) = 10) (AN (x8 + 1) ∧ Mj R s0 p5 n5 c5 Fj Gj Fk Gk (x8 + 1) σ) (Spec prog 90 #[(.int .u8 ((UInt8.toNat xK : Nat) : Int))] σ (AA R (CB fun t49 y => Bo t49 (YT R s0 p5 n5 c5 Fj Gj Fk Gk x8 x8 y) (Spec prog 91 #[(.int .u8 ((UInt8.toNat xK : Nat) : Int))] y (AA R (CB fun t52 AF => Bo t52 (Up R s0 p5 n5 c5 Fj Gj Fk Gk x8 x8 AF) (Br ((((UInt8.toNat xK : Nat) : Int) : Int) = 34) (AN (x8 + 1) ∧ AFq R s0 p5 n5 c5 none 0 0 Fj Gj Fk Gk (x8 + 1) x8 AF) (∃ s60,YF prog (Instr.sliceAt 9 (.string s0) (some (.int .i64 x8)) none none) AF (.string s60) ∧ Spec prog 92 #[.string s60] AF (AA R (CT fun s61 AH => Bn ((ByteArray.toList s61 == ByteArray.toList (ByteArray.mk #[]))) (Al AH fun b68 => AJ prog (Builtin.append_ #[121,121] 121 #[.slice p5 n5 c5,(.slice (aD b68 0) 1 1)]) (Hp.set AH b68 (.cells #[.int .i64 5,.int .i64 x8,.string s61,.int .i64 0] 131 (0,0))) (CS fun tM n69 tN Ab => AN (x8 + ((ByteArray.size s61 : Nat) : Int)) ∧ Mj R s0 tM n69 tN Fj Gj Fk Gk ((x8 + ((ByteArray.size s61 : Nat) : Int))) Ab)) (R (.returned (.tuple #[.slice none 0 0,.int .i64 x8,.int .i64 171])) AH)))))))))))))))) : Mj R s0 p5 n5 c5 Fj Gj Fk Gk x8 σ := M.jj h ok rfl fun _ => by kernel_rfl
theorem eY (h : Br (x8 < ((ByteArray.size s0 : Nat) : Int)) (∃ u82 : UInt8,0 ≤ x8 ∧ (ByteArray.data s0)[Int.toNat x8]? = some u82 ∧ Spec prog 90 #[(.int .u8 ((UInt8.toNat u82 : Nat) : Int))] σ (AA R (CB fun t83 y => Bo t83 (AN (x8 + 1) ∧ YT R s0 p5 n5 c5 Fj Gj Fk Gk (x8 + 1) x9 y) (∃ u87 : UInt8,0 ≤ x8 ∧ (ByteArray.data s0)[Int.toNat x8]? = some u87 ∧ Spec prog 91 #[(.int .u8 ((UInt8.toNat u87 : Nat) : Int))] y (AA R (CB fun t88 AF => Bo t88 (∃ u92 : UInt8,0 ≤ x8 ∧ (ByteArray.data s0)[Int.toNat x8]? = some u92 ∧ Br ((((UInt8.toNat u92 : Nat) : Int) : Int) ≠ 58) (AN (x8 + 1) ∧ YT R s0 p5 n5 c5 Fj Gj Fk Gk (x8 + 1) x9 AF) (∃ u99 : UInt8,0 ≤ x8 ∧ (ByteArray.data s0)[Int.toNat x8]? = some u99 ∧ Br ((((UInt8.toNat u99 : Nat) : Int) : Int) = 46) (AN (x8 + 1) ∧ YT R s0 p5 n5 c5 Fj Gj Fk Gk (x8 + 1) x9 AF) (∃ Gz,YF prog (Instr.sliceAt 9 (.string s0) (some (.int .i64 x9)) (some (.int .i64 x8)) none) AF (.string Gz) ∧ Spec prog 93 #[.string Gz] AF (AA R (CI .i64 fun Mk AH => Br (0 < Mk) (Kv R s0 p5 n5 c5 2 x9 Gz Mk x8 AH) (Spec prog 94 #[.string Gz] AH (AA R (CB fun t121 Ab => Bn t121 (R (.returned (.tuple #[.slice none 0 0,.int .i64 x9,.int .i64 172])) Ab) (Kv R s0 p5 n5 c5 1 x9 Gz Mk x8 Ab))))))))) (∃ u99 : UInt8,0 ≤ x8 ∧ (ByteArray.data s0)[Int.toNat x8]? = some u99 ∧ Br ((((UInt8.toNat u99 : Nat) : Int) : Int) = 46) (AN (x8 + 1) ∧ YT R s0 p5 n5 c5 Fj Gj Fk Gk (x8 + 1) x9 AF) (∃ Gz,YF prog (Instr.sliceAt 9 (.string s0) (some (.int .i64 x9)) (some (.int .i64 x8)) none) AF (.string Gz) ∧ Spec prog 93 #[.string Gz] AF (AA R (CI .i64 fun Mk AH => Br (0 < Mk) (Kv R s0 p5 n5 c5 2 x9 Gz Mk x8 AH) (Spec prog 94 #[.string Gz] AH (AA R (CB fun t121 Ab => Bn t121 (R (.returned (.tuple #[.slice none 0 0,.int .i64 x9,.int .i64 172])) Ab) (Kv R s0 p5 n5 c5 1 x9 Gz Mk x8 Ab)))))))))))))) (∃ Gz,YF prog (Instr.sliceAt 9 (.string s0) (some (.int .i64 x9)) (some (.int .i64 x8)) none) σ (.string Gz) ∧ Spec prog 93 #[.string Gz] σ (AA R (CI .i64 fun Mk y => Br (0 < Mk) (Kv R s0 p5 n5 c5 2 x9 Gz Mk x8 y) (Spec prog 94 #[.string Gz] y (AA R (CB fun t121 AF => Bn t121 (R (.returned (.tuple #[.slice none 0 0,.int .i64 x9,.int .i64 172])) AF) (Kv R s0 p5 n5 c5 1 x9 Gz Mk x8 AF)))))))) : YT R s0 p5 n5 c5 Fj Gj Fk Gk x8 x9 σ := M.jj h ok rfl fun _ => by kernel_rfl
theorem YU (h : Br (x8 < ((ByteArray.size s0 : Nat) : Int)) (∃ AFs : UInt8,0 ≤ x8 ∧ (ByteArray.data s0)[Int.toNat x8]? = some AFs ∧ Spec prog 91 #[(.int .u8 ((UInt8.toNat AFs : Nat) : Int))] σ (AA R (CB fun t136 y => Bo t136 (AN (x8 + 1) ∧ Up R s0 p5 n5 c5 Fj Gj Fk Gk (x8 + 1) x9 y) (∃ AFt : UInt8,0 ≤ x8 ∧ (ByteArray.data s0)[Int.toNat x8]? = some AFt ∧ Spec prog 90 #[(.int .u8 ((UInt8.toNat AFt : Nat) : Int))] y (AA R (CB fun t141 AF => Bo t141 (AN (x8 + 1) ∧ Up R s0 p5 n5 c5 Fj Gj Fk Gk (x8 + 1) x9 AF) (∃ YV,YF prog (Instr.sliceAt 9 (.string s0) (some (.int .i64 x9)) (some (.int .i64 x8)) none) AF (.string YV) ∧ Al AF fun YW => AJ prog (Builtin.append_ #[121,121] 121 #[.slice p5 n5 c5,(.slice (aD YW 0) 1 1)]) (Hp.set AF YW (.cells #[.int .i64 3,.int .i64 x9,.string YV,.int .i64 0] 131 (0,0))) (CS fun mj n154 ml AH => Mj R s0 mj n154 ml Fj Gj Fk Gk x8 AH)))))))) (∃ YV,YF prog (Instr.sliceAt 9 (.string s0) (some (.int .i64 x9)) (some (.int .i64 x8)) none) σ (.string YV) ∧ Al σ fun YW => AJ prog (Builtin.append_ #[121,121] 121 #[.slice p5 n5 c5,(.slice (aD YW 0) 1 1)]) (Hp.set σ YW (.cells #[.int .i64 3,.int .i64 x9,.string YV,.int .i64 0] 131 (0,0))) (CS fun mj n154 ml y => Mj R s0 mj n154 ml Fj Gj Fk Gk x8 y))) : Up R s0 p5 n5 c5 Fj Gj Fk Gk x8 x9 σ := M.jj h ok rfl fun _ => by kernel_rfl
theorem YX (h : Al σ fun AFu => AJ prog (Builtin.append_ #[121,121] 121 #[.slice p5 n5 c5,(.slice (aD AFu 0) 1 1)]) (Hp.set σ AFu (.cells #[.int .i64 Fj,.int .i64 Gj,.string Fk,.int .i64 Gk] 131 (0,0))) (CS fun AMX n127 AMY y => Mj R s0 AMX n127 AMY Fj Gj Fk Gk x8 y)) : Kv R s0 p5 n5 c5 Fj Gj Fk Gk x8 σ := M.jj h ok rfl fun _ => by kernel_rfl
end As
namespace Eg
variable {q0 Dc Dn p2 : Option Addr} {DW CP DX Dd C1 CW : Int} {DY : ByteArray} {De Dg Dh Dp n2 c2 : Nat} {C2 : Bool}
def M : Fw := ⟨prog,84,f84,[124,128],[4],false,[(1,10,true)],[],[]⟩
theorem ok : M.Ok := ⟨.cons call124 (.cons call128 (AG.nil)),mixed,func84,by kernel_rfl⟩
theorem start (h : ∀ b4 : Nat,Pq p2 fun DC jn => In 0 (n2 : Int) ∧ LI .i64 σ DC jn fun x15 => In 1 (n2 : Int) ∧ LI .i64 σ DC (jn + 1) fun Dm => Br (x15 = 2) (Br (x15 = 1) (Br (x15 = 3) (R (.returned (.tuple #[.int .i64 0,.int .i64 192])) σ) (Br (Dm = 3) (R (.returned (.tuple #[.int .i64 0,.int .i64 192])) σ) (Spec prog 128 #[.int .i64 CP] σ (AA R (CB fun t41 y => Bo t41 (Bm (Dm = 2) (R (.returned (.tuple #[.int .i64 0,.int .i64 192])) y) (Br (Dm = 1) (Spec prog 124 #[.int .i64 CP] y (AA R (CB fun t57 AF => Bo t57 (Bn C2 (R (.returned (.tuple #[.int .i64 0,.int .i64 192])) AF) (R (.returned (.tuple #[(.int .i64 (if x15 < Dm then Dm else x15)),.int .i64 0])) AF)) (R (.returned (.tuple #[(.int .i64 (if x15 < Dm then Dm else x15)),.int .i64 0])) AF)))) (R (.returned (.tuple #[(.int .i64 (if x15 < Dm then Dm else x15)),.int .i64 0])) y))) (Br (C1 ≠ 0) (Bm (Dm = 2) (R (.returned (.tuple #[.int .i64 0,.int .i64 192])) y) (Br (Dm = 1) (Spec prog 124 #[.int .i64 CP] y (AA R (CB fun t57 AF => Bo t57 (Bn C2 (R (.returned (.tuple #[.int .i64 0,.int .i64 192])) AF) (R (.returned (.tuple #[(.int .i64 (if x15 < Dm then Dm else x15)),.int .i64 0])) AF)) (R (.returned (.tuple #[(.int .i64 (if x15 < Dm then Dm else x15)),.int .i64 0])) AF)))) (R (.returned (.tuple #[(.int .i64 (if x15 < Dm then Dm else x15)),.int .i64 0])) y))) (Br (Dm = 1) (Spec prog 124 #[.int .i64 CP] y (AA R (CB fun t57 AF => Bo t57 (Bn C2 (R (.returned (.tuple #[.int .i64 0,.int .i64 192])) AF) (R (.returned (.tuple #[(.int .i64 (if x15 < Dm then Dm else x15)),.int .i64 0])) AF)) (R (.returned (.tuple #[(.int .i64 (if x15 < Dm then Dm else x15)),.int .i64 0])) AF)))) (R (.returned (.tuple #[(.int .i64 (if x15 < Dm then Dm else x15)),.int .i64 0])) y)))))))) (Br (x15 = 3) (R (.returned (.tuple #[.int .i64 0,.int .i64 192])) σ) (Br (Dm = 3) (R (.returned (.tuple #[.int .i64 0,.int .i64 192])) σ) (Spec prog 128 #[.int .i64 CP] σ (AA R (CB fun t41 y => Bo t41 (Bm (Dm = 2) (R (.returned (.tuple #[.int .i64 0,.int .i64 192])) y) (R (.returned (.tuple #[(.int .i64 (if x15 < Dm then Dm else x15)),.int .i64 0])) y)) (Br (C1 ≠ 0) (Bm (Dm = 2) (R (.returned (.tuple #[.int .i64 0,.int .i64 192])) y) (R (.returned (.tuple #[(.int .i64 (if x15 < Dm then Dm else x15)),.int .i64 0])) y)) (R (.returned (.tuple #[(.int .i64 (if x15 < Dm then Dm else x15)),.int .i64 0])) y)))))))) (Br (x15 = 1) (Br (x15 = 3) (R (.returned (.tuple #[.int .i64 0,.int .i64 192])) σ) (Br (Dm = 3) (R (.returned (.tuple #[.int .i64 0,.int .i64 192])) σ) (Spec prog 128 #[.int .i64 CP] σ (AA R (CB fun t41 y => Bo t41 (R (.returned (.tuple #[.int .i64 0,.int .i64 192])) y) (Br (C1 ≠ 0) (R (.returned (.tuple #[.int .i64 0,.int .i64 192])) y) (Br (Dm = 1) (Spec prog 124 #[.int .i64 CP] y (AA R (CB fun t57 AF => Bo t57 (Bn C2 (R (.returned (.tuple #[.int .i64 0,.int .i64 192])) AF) (R (.returned (.tuple #[(.int .i64 (if x15 < Dm then Dm else x15)),.int .i64 0])) AF)) (R (.returned (.tuple #[(.int .i64 (if x15 < Dm then Dm else x15)),.int .i64 0])) AF)))) (R (.returned (.tuple #[(.int .i64 (if x15 < Dm then Dm else x15)),.int .i64 0])) y)))))))) (Br (x15 = 3) (R (.returned (.tuple #[.int .i64 0,.int .i64 192])) σ) (Br (Dm = 3) (R (.returned (.tuple #[.int .i64 0,.int .i64 192])) σ) (Spec prog 128 #[.int .i64 CP] σ (AA R (CB fun t41 y => Bo t41 (R (.returned (.tuple #[.int .i64 0,.int .i64 192])) y) (Br (C1 ≠ 0) (R (.returned (.tuple #[.int .i64 0,.int .i64 192])) y) (R (.returned (.tuple #[(.int .i64 (if x15 < Dm then Dm else x15)),.int .i64 0])) y))))))))) : Spec prog 84 #[.pointer q0,.agg #[.int .i64 DW,.int .i64 CP,.string DY,.slice Dc De Dg,.int .i64 DX,.int .i64 Dd,.int .i64 C1,.slice Dn Dh Dp,.bool C2,.int .i64 CW],.slice p2 n2 c2] σ R := M.start h ok
end Eg
namespace SY
variable {x0 : Int}
def M : Fw := ⟨prog,91,f91,[],[],false,[],[],[]⟩
theorem ok : M.Ok := ⟨AG.nil,mixed,func91,by kernel_rfl⟩
theorem start (h : Br (97 ≤ x0) (Br (x0 ≤ 122) (R (.returned (.bool true)) σ) (Br (65 ≤ x0) (Br (x0 ≤ 90) (R (.returned (.bool true)) σ) (Br (x0 = 95) (R (.returned (.bool true)) σ) (R (.returned (.bool (decide (x0 = 58)))) σ))) (Br (x0 = 95) (R (.returned (.bool true)) σ) (R (.returned (.bool (decide (x0 = 58)))) σ)))) (Br (65 ≤ x0) (Br (x0 ≤ 90) (R (.returned (.bool true)) σ) (Br (x0 = 95) (R (.returned (.bool true)) σ) (R (.returned (.bool (decide (x0 = 58)))) σ))) (Br (x0 = 95) (R (.returned (.bool true)) σ) (R (.returned (.bool (decide (x0 = 58)))) σ)))) : Spec prog 91 #[.int .u8 x0] σ R := M.start h ok
end SY
namespace Eh
variable {s0 : ByteArray} {t8 : Bool}
def M : Fw := ⟨prog,92,f92,[130],[],false,[],[],[(28,[(0,wT)]),(213,[(0,wT),(8,wB)])]⟩
theorem ok : M.Ok := ⟨.cons call130 (AG.nil),mixed,func92,by kernel_rfl⟩
def tW := M.pt 0
def FJ := M.pt 1
theorem start (h : Br ((1 : Int) < ((ByteArray.size s0 : Nat) : Int)) (∃ s7,YF prog (Instr.sliceAt 9 (.string s0) none (some (.int .i64 2)) none) σ (.string s7) ∧ Bo ((ByteArray.toList s7 == ByteArray.toList (ByteArray.mk #[61,61]))) (FJ R s0 true σ) (Bo ((ByteArray.toList s7 == ByteArray.toList (ByteArray.mk #[33,61]))) (FJ R s0 true σ) (Bo ((ByteArray.toList s7 == ByteArray.toList (ByteArray.mk #[60,61]))) (FJ R s0 true σ) (Bo ((ByteArray.toList s7 == ByteArray.toList (ByteArray.mk #[62,61]))) (FJ R s0 true σ) (Bo ((ByteArray.toList s7 == ByteArray.toList (ByteArray.mk #[61,126]))) (FJ R s0 true σ) (FJ R s0 ((ByteArray.toList s7 == ByteArray.toList (ByteArray.mk #[33,126]))) σ)))))) (tW R s0 σ)) : Spec prog 92 #[.string s0] σ R := M.start h ok
theorem tX (h : ∃ u18 : UInt8,(0 : Int) ≤ 0 ∧ (ByteArray.data s0)[Int.toNat 0]? = some u18 ∧ Spec prog 130 #[(.string (ByteArray.mk #[60,62,61,43,45,42,47,40,41,123,125,91,93,44])),(.int .u8 ((UInt8.toNat u18 : Nat) : Int))] σ (AA R (CI .i64 fun Dm y => Br (0 ≤ Dm) (∃ s22,YF prog (Instr.sliceAt 9 (.string s0) none (some (.int .i64 1)) none) y (.string s22) ∧ R (.returned (.string s22)) y) (R (.returned (.string (ByteArray.mk #[]))) y)))) : tW R s0 σ := M.of h ok rfl
theorem FX (h : Bo t8 (∃ s16,YF prog (Instr.sliceAt 9 (.string s0) none (some (.int .i64 2)) none) σ (.string s16) ∧ R (.returned (.string s16)) σ) (tW R s0 σ)) : FJ R s0 t8 σ := M.of h ok rfl
end Eh
namespace Bp
variable {q0 Dc Dn p2 : Option Addr} {DW CP DX Dd C1 CW : Int} {DY : ByteArray} {De Dg Dh Dp n2 c2 : Nat} {C2 : Bool}
def M : Fw := ⟨prog,100,f100,[140],[4,6],false,[],[],[]⟩
theorem ok : M.Ok := ⟨.cons call140 (AG.nil),mixed,func100,by kernel_rfl⟩
theorem start (h : ∀ b4 : Nat,∀ b6 : Nat,Spec prog 140 #[.string DY] σ (AA R (fun z y => ∃ ll AMZ,z = (.tuple #[.int .u64 ll,.bool AMZ]) ∧ R (.returned (.tuple #[.agg #[.int .i64 1,.int .u64 ll,.slice none 0 0,.slice none 0 0],.int .i64 0])) y))) : Spec prog 100 #[.pointer q0,.agg #[.int .i64 DW,.int .i64 CP,.string DY,.slice Dc De Dg,.int .i64 DX,.int .i64 Dd,.int .i64 C1,.slice Dn Dh Dp,.bool C2,.int .i64 CW],.slice p2 n2 c2] σ R := M.start h ok
end Bp
namespace SZ
variable {x0 x1 : Int}
def M : Fw := ⟨prog,123,f123,[],[],false,[],[],[]⟩
theorem ok : M.Ok := ⟨AG.nil,mixed,func123,by kernel_rfl⟩
theorem start (h : Br (x1 ≤ x0) (R (.returned (.bool (decide (x0 < 2147483648)))) σ) (R (.returned (.bool false)) σ)) : Spec prog 123 #[.int .i64 x0,.int .i64 x1] σ R := M.start h ok
end SZ
namespace Sa
variable {s0 : ByteArray}
def M : Fw := ⟨prog,126,f126,[98],[],false,[],[],[]⟩
theorem ok : M.Ok := ⟨.cons call98 (AG.nil),mixed,func126,by kernel_rfl⟩
theorem start (h : Spec prog 98 #[.string s0] σ (AA R (CB fun t4 y => R (.returned (.bool t4)) y))) : Spec prog 126 #[.string s0] σ R := M.start h ok
end Sa
namespace HZ
variable {q0 Dc Dn : Option Addr} {DW CP DX Dd C1 CW : Int} {DY : ByteArray} {De Dg Dh Dp : Nat} {C2 : Bool}
def M : Fw := ⟨prog,138,f138,[],[3],false,[(1,10,false)],[],[]⟩
theorem ok : M.Ok := ⟨AG.nil,mixed,func138,by kernel_rfl⟩
theorem start (h : ∀ b3 : Nat,Pq q0 fun b6 o6 => LS σ b6 (o6 + 2) fun p8 n8 c8 => Al σ fun Cb => AJ prog (Builtin.append_ #[22,22] 22 #[.slice p8 n8 c8,(.slice (aD Cb 0) 1 1)]) (Hp.set σ Cb (.cells #[.int .i64 DW,.int .i64 CP,.string DY,.slice Dc De Dg,.int .i64 DX,.int .i64 Dd,.int .i64 C1,.slice Dn Dh Dp,.bool C2,.int .i64 CW] 36 (0,0))) (CS fun La n11 Lc y => AJ prog (Instr.storeAt 22 (.pointer (aD b6 (o6 + 2))) (.slice La n11 Lc)) y (fun _ AF => R (.returned (.tuple #[])) AF))) : Spec prog 138 #[.pointer q0,.agg #[.int .i64 DW,.int .i64 CP,.string DY,.slice Dc De Dg,.int .i64 DX,.int .i64 Dd,.int .i64 C1,.slice Dn Dh Dp,.bool C2,.int .i64 CW]] σ R := M.start h ok
end HZ
namespace Ei
variable {p0 : Option Addr} {n0 c0 : Nat}
def M : Fw := ⟨prog,154,f154,[151,155,194],[],false,[],[],[]⟩
theorem ok : M.Ok := ⟨.cons call151 (.cons call155 (.cons call194 (AG.nil))),mixed,func154,by kernel_rfl⟩
theorem start (h : Spec prog 151 #[.slice p0 n0 c0] σ (AA R (CI .u64 fun x4 y => Spec prog 155 #[.slice p0 n0 c0] y (AA R (CI .u64 fun x6 AF => Spec prog 194 #[.int .u64 x4,.int .u64 x6] AF (AA R (CI .u64 fun x7 AH => R (.returned (.int .u64 x7)) AH))))))) : Spec prog 154 #[.slice p0 n0 c0] σ R := M.start h ok
end Ei
namespace AX
variable {q0 Dc Dn p2 p3 Iu I0 Eu E3 Hu p35 rJ : Option Addr} {DW CP DX Dd C1 CW Ir HE Ix Iy Iz I3 D7 EF Z0 P7 bQ NF : Int} {DY Is : ByteArray} {De Dg Dh Dp n2 c2 n3 c3 Iv Iw I1 I2 Ev Ew E4 E5 n14 Ge n35 xL lP eM : Nat} {C2 Jw : Bool} {m10 m12 : Option Nat}
def M : Fw := ⟨prog,160,f160,[49,148,206,207],[5,8,16,17,20,21],false,[],[],[(1000,[(3,wL),(5,.X 36 [.I .i64,.I .i64,.T,.L,.I .i64,.I .i64,.I .i64,.L,.B,.I .i64]),(8,.X 93 [.I .i64,.I .u64,.L,.L]),(10,wM),(12,wM),(14,wL),(35,wL),(36,wI),(37,wI)]),(2024,[(5,.X 36 [.I .i64,.I .i64,.T,.L,.I .i64,.I .i64,.I .i64,.L,.B,.I .i64]),(8,.X 93 [.I .i64,.I .u64,.L,.L]),(10,wM),(14,wL),(66,wL),(67,wI),(68,wI)]),(8103,[(5,.X 36 [.I .i64,.I .i64,.T,.L,.I .i64,.I .i64,.I .i64,.L,.B,.I .i64]),(8,.X 93 [.I .i64,.I .u64,.L,.L]),(10,wM),(14,wL),(66,wL),(67,wI),(68,wI)]),(4007,[(3,wL),(5,.X 36 [.I .i64,.I .i64,.T,.L,.I .i64,.I .i64,.I .i64,.L,.B,.I .i64]),(8,.X 93 [.I .i64,.I .u64,.L,.L]),(10,wM),(12,wM),(14,wL),(35,wL),(36,wI),(37,wI)])]⟩
theorem ok : M.Ok := ⟨.cons call49 (.cons call148 (.cons call206 (.cons call207 (AG.nil)))),mixed,func160,by kernel_rfl⟩
def tY := M.pt 0
def Js := M.pt 1
def NK := M.pt 2
def V9 := M.pt 3
theorem start (h : ∀ b5 : Nat,∀ b8 : Nat,Spec prog 206 #[.agg #[.int .i64 DW,.int .i64 CP,.string DY,.slice Dc De Dg,.int .i64 DX,.int .i64 Dd,.int .i64 C1,.slice Dn Dh Dp,.bool C2,.int .i64 CW],.slice p2 n2 c2] σ (AA R (fun z y => ∃ AFv AMa,z = (.tuple #[.map AFv,.bool AMa]) ∧ Spec prog 206 #[.agg #[.int .i64 DW,.int .i64 CP,.string DY,.slice Dc De Dg,.int .i64 DX,.int .i64 Dd,.int .i64 C1,.slice Dn Dh Dp,.bool C2,.int .i64 CW],.slice p3 n3 c3] y (AA R (fun z AF => ∃ AFw AMb,z = (.tuple #[.map AFw,.bool AMb]) ∧ tY R p3 n3 c3 DW CP DY Dc De Dg DX Dd C1 Dn Dh Dp C2 CW 0 0 none 0 0 none 0 0 AFv AFw none 0 0 p2 n2 c2 (n2 : Int) 0 AF))))) : Spec prog 160 #[.pointer q0,.agg #[.int .i64 DW,.int .i64 CP,.string DY,.slice Dc De Dg,.int .i64 DX,.int .i64 Dd,.int .i64 C1,.slice Dn Dh Dp,.bool C2,.int .i64 CW],.slice p2 n2 c2,.slice p3 n3 c3] σ R := M.start h ok
theorem eZ (h : Br (P7 < Z0) (Pq p35 fun rR o39 => In P7 (n35 : Int) ∧ ∃ YO Vt bS bT,Au σ rR (o39 + Int.toNat P7 * 2) [.slice YO Vt bS,.int .u64 bT] ∧ ∀ ME : Nat,Spec prog 207 #[.agg #[.int .i64 Ir,.int .i64 HE,.string Is,.slice Iu Iv Iw,.int .i64 Ix,.int .i64 Iy,.int .i64 Iz,.slice I0 I1 I2,.bool Jw,.int .i64 I3],.slice YO Vt bS] σ (AA R (CS fun xM n46 tZ y => Spec prog 49 #[.slice xM n46 tZ] y (AA R (CT fun s47 AF => AJ prog (Instr.lookup 243 (.map m12) (.string s47) true) AF (fun z AH => ∃ AFx AFy AFz AF0 AF1,z = (.tuple #[.agg #[.slice AFx AFy AFz,.int .u64 AF0],.bool AF1]) ∧ ∀ b17 : Nat,Br (HE = 12) (Al AH fun iA => AJ prog (Builtin.append_ #[67,67] 67 #[.slice Hu n14 Ge,(.slice (aD iA 0) 1 1)]) (Hp.set AH iA (.cells #[.slice YO Vt bS,.int .u64 bT] 71 (0,0))) (CS fun js gn lJ Ab => V9 R p3 n3 c3 Ir HE Is Iu Iv Iw Ix Iy Iz I0 I1 I2 Jw I3 D7 EF Eu Ev Ew E3 E4 E5 m10 m12 js gn lJ (aD rR o39) n35 xL Z0 P7 Ab)) (Bo AF1 (Br (HE = 11) (Al AH fun iA => AJ prog (Builtin.append_ #[67,67] 67 #[.slice Hu n14 Ge,(.slice (aD iA 0) 1 1)]) (Hp.set AH iA (.cells #[.slice YO Vt bS,.int .u64 bT] 71 (0,0))) (CS fun js gn lJ Ab => V9 R p3 n3 c3 Ir HE Is Iu Iv Iw Ix Iy Iz I0 I1 I2 Jw I3 D7 EF Eu Ev Ew E3 E4 E5 m10 m12 js gn lJ (aD rR o39) n35 xL Z0 P7 Ab)) (V9 R p3 n3 c3 Ir HE Is Iu Iv Iw Ix Iy Iz I0 I1 I2 Jw I3 D7 EF Eu Ev Ew E3 E4 E5 m10 m12 Hu n14 Ge (aD rR o39) n35 xL Z0 P7 AH)) (Br (HE = 11) (V9 R p3 n3 c3 Ir HE Is Iu Iv Iw Ix Iy Iz I0 I1 I2 Jw I3 D7 EF Eu Ev Ew E3 E4 E5 m10 m12 Hu n14 Ge (aD rR o39) n35 xL Z0 P7 AH) (Al AH fun iA => AJ prog (Builtin.append_ #[67,67] 67 #[.slice Hu n14 Ge,(.slice (aD iA 0) 1 1)]) (Hp.set AH iA (.cells #[.slice YO Vt bS,.int .u64 bT] 71 (0,0))) (CS fun js gn lJ Ab => V9 R p3 n3 c3 Ir HE Is Iu Iv Iw Ix Iy Iz I0 I1 I2 Jw I3 D7 EF Eu Ev Ew E3 E4 E5 m10 m12 js gn lJ (aD rR o39) n35 xL Z0 P7 Ab)))))))))) (Js R Ir HE Is Iu Iv Iw Ix Iy Iz I0 I1 I2 Jw I3 D7 EF Eu Ev Ew E3 E4 E5 m10 Hu n14 Ge p3 n3 c3 (n3 : Int) 0 σ)) : tY R p3 n3 c3 Ir HE Is Iu Iv Iw Ix Iy Iz I0 I1 I2 Jw I3 D7 EF Eu Ev Ew E3 E4 E5 m10 m12 Hu n14 Ge p35 n35 xL Z0 P7 σ := M.gU h ok rfl fun _ _ => by kernel_rfl
theorem LY (h : Br (NF < bQ) (Pq rJ fun b70 o70 => In NF (lP : Int) ∧ ∃ AAh AAi AAj AF2,Au σ b70 (o70 + Int.toNat NF * 2) [.slice AAh AAi AAj,.int .u64 AF2] ∧ ∀ YM : Nat,Spec prog 207 #[.agg #[.int .i64 Ir,.int .i64 HE,.string Is,.slice Iu Iv Iw,.int .i64 Ix,.int .i64 Iy,.int .i64 Iz,.slice I0 I1 I2,.bool Jw,.int .i64 I3],.slice AAh AAi AAj] σ (AA R (CS fun p77 n77 c77 y => Spec prog 49 #[.slice p77 n77 c77] y (AA R (CT fun s78 AF => AJ prog (Instr.lookup 243 (.map m10) (.string s78) true) AF (fun z AH => ∃ AF3 AF4 AF5 AF6 AF7,z = (.tuple #[.agg #[.slice AF3 AF4 AF5,.int .u64 AF6],.bool AF7]) ∧ ∀ b21 : Nat,Bn AF7 (Br (HE = 12) (Al AH fun jm => AJ prog (Builtin.append_ #[67,67] 67 #[.slice Hu n14 Ge,(.slice (aD jm 0) 1 1)]) (Hp.set AH jm (.cells #[.slice AAh AAi AAj,.int .u64 AF2] 71 (0,0))) (CS fun p92 n92 c92 Ab => NK R Ir HE Is Iu Iv Iw Ix Iy Iz I0 I1 I2 Jw I3 D7 EF Eu Ev Ew E3 E4 E5 m10 p92 n92 c92 (aD b70 o70) lP eM bQ NF Ab)) (NK R Ir HE Is Iu Iv Iw Ix Iy Iz I0 I1 I2 Jw I3 D7 EF Eu Ev Ew E3 E4 E5 m10 Hu n14 Ge (aD b70 o70) lP eM bQ NF AH)) (NK R Ir HE Is Iu Iv Iw Ix Iy Iz I0 I1 I2 Jw I3 D7 EF Eu Ev Ew E3 E4 E5 m10 Hu n14 Ge (aD b70 o70) lP eM bQ NF AH))))))) (Spec prog 148 #[.slice Hu n14 Ge] σ (AA R (fun z y => ∃ xN xO xP xQ xR xS xT xU AF8,z = (.tuple #[.agg #[.int .i64 xN,.int .u64 xO,.slice xP xQ xR,.slice xS xT xU],.int .i64 AF8]) ∧ R (.returned (.tuple #[.agg #[.int .i64 xN,.int .u64 xO,.slice xP xQ xR,.slice xS xT xU],.int .i64 AF8])) y)))) : Js R Ir HE Is Iu Iv Iw Ix Iy Iz I0 I1 I2 Jw I3 D7 EF Eu Ev Ew E3 E4 E5 m10 Hu n14 Ge rJ lP eM bQ NF σ := M.gU h ok rfl fun _ _ => by kernel_rfl
theorem Vn (h : AN (NF + 1) ∧ Js R Ir HE Is Iu Iv Iw Ix Iy Iz I0 I1 I2 Jw I3 D7 EF Eu Ev Ew E3 E4 E5 m10 Hu n14 Ge rJ lP eM bQ (NF + 1) σ) : NK R Ir HE Is Iu Iv Iw Ix Iy Iz I0 I1 I2 Jw I3 D7 EF Eu Ev Ew E3 E4 E5 m10 Hu n14 Ge rJ lP eM bQ NF σ := M.gU h ok rfl fun _ _ => by kernel_rfl
theorem tc (h : AN (P7 + 1) ∧ tY R p3 n3 c3 Ir HE Is Iu Iv Iw Ix Iy Iz I0 I1 I2 Jw I3 D7 EF Eu Ev Ew E3 E4 E5 m10 m12 Hu n14 Ge p35 n35 xL Z0 (P7 + 1) σ) : V9 R p3 n3 c3 Ir HE Is Iu Iv Iw Ix Iy Iz I0 I1 I2 Jw I3 D7 EF Eu Ev Ew E3 E4 E5 m10 m12 Hu n14 Ge p35 n35 xL Z0 P7 σ := M.gU h ok rfl fun _ _ => by kernel_rfl
end AX
namespace MK
variable {E2 EX x1 : Int}
def M : Fw := ⟨prog,177,f177,[],[2],false,[],[],[]⟩
theorem ok : M.Ok := ⟨AG.nil,mixed,func177,by kernel_rfl⟩
theorem start (h : ∀ b2 : Nat,Br (E2 ≤ x1) (R (.returned (.int .i64 (-1))) σ) (R (.returned (.int .i64 1)) σ)) : Spec prog 177 #[.agg #[.int .i64 E2,.int .u64 EX],.int .i64 x1] σ R := M.start h ok
end MK
namespace GU
variable {wj Zz : ByteArray} {b1 : Nat}
def M : Fw := ⟨prog,198,f198,[199],[2],false,[],[],[]⟩
theorem ok : M.Ok := ⟨.cons call199 (AG.nil),mixed,func198,by kernel_rfl⟩
theorem start (h : ∀ b2 : Nat,LS σ b1 0 fun p4 n4 c4 => Spec prog 199 #[.slice p4 n4 c4,.string wj] σ (AA R (CB fun t7 y => R (.returned (.bool t7)) y))) : Spec prog 198 #[.agg #[.string wj,.string Zz],(.pointer (aD b1 0))] σ R := M.start h ok
end GU
namespace Ej
variable {q0 : Option Addr} {s1 : ByteArray}
def M : Fw := ⟨prog,210,f210,[67,135,136],[],false,[],[],[(3,[(0,wQ)])]⟩
theorem ok : M.Ok := ⟨.cons call67 (.cons call135 (.cons call136 (AG.nil))),mixed,func210,by kernel_rfl⟩
def bU := M.pt 0
theorem start (h : Spec prog 136 #[.pointer q0,.int .i64 5,.string s1] σ (AA R (CB fun t6 y => Bn t6 (Spec prog 67 #[.pointer q0] y (AA R (fun z AF => z = (.tuple #[]) ∧ bU R q0 AF))) (bU R q0 y)))) : Spec prog 210 #[.pointer q0,.string s1] σ R := M.start h ok
theorem Og (h : Spec prog 135 #[.pointer q0] σ (AA R (fun z y => ∃ gu P8 gw tO,z = (.agg #[.int .i64 gu,.int .i64 P8,.string gw,.int .i64 tO]) ∧ R (.returned (.tuple #[])) y))) : bU R q0 σ := M.of h ok rfl
end Ej
namespace Cp
variable {q0 : Option Addr}
def M : Fw := ⟨prog,212,f212,[95],[],false,[],[],[]⟩
theorem ok : M.Ok := ⟨.cons call95 (AG.nil),mixed,func212,by kernel_rfl⟩
theorem start (h : Spec prog 95 #[.pointer q0,(.func (.func 230) #[.pointer q0] #[]),.int .i64 3,.int .i64 4] σ (AA R (fun z y => z = (.tuple #[]) ∧ R (.returned (.tuple #[])) y))) : Spec prog 212 #[.pointer q0] σ R := M.start h ok
end Cp
namespace Ek
variable {Tt : Option Addr} {MG RY : Nat} {Zz s1 : ByteArray}
def M : Fw := ⟨prog,218,f218,[],[2],false,[],[],[]⟩
theorem ok : M.Ok := ⟨AG.nil,mixed,func218,by kernel_rfl⟩
theorem start (h : ∀ b2 : Nat,R (.returned (.bool (!(ByteArray.toList s1 == ByteArray.toList Zz)))) σ) : Spec prog 218 #[.agg #[.slice Tt MG RY,.string Zz],.string s1] σ R := M.start h ok
end Ek
namespace Uq
variable {x0 : Int}
def M : Fw := ⟨prog,240,f240,[],[],false,[],[],[]⟩
theorem ok : M.Ok := ⟨AG.nil,mixed,func240,by kernel_rfl⟩
theorem start (h : Br (x0 = 1) (R (.returned (.bool true)) σ) (Br (x0 = 2) (R (.returned (.bool true)) σ) (Br (x0 = 4) (R (.returned (.bool true)) σ) (R (.returned (.bool (decide (x0 = 8)))) σ)))) : Spec prog 240 #[.int .i64 x0] σ R := M.start h ok
end Uq
namespace ML
def M : Fw := ⟨prog,263,f263,[182],[],false,[],[],[]⟩
theorem ok : M.Ok := ⟨.cons call182 (AG.nil),mixed,func263,by kernel_rfl⟩
theorem start (h : Spec prog 182 #[.int .u64 4604544271217802189] σ (AA R (fun z y => ∃ x2,(Value.float .f64 x2) = z ∧ ∃ x5,YF prog (Op.unary .neg (Value.float .f64 x2)) y (Value.float .f64 x5) ∧ ∃ x6 y6,YF prog (Builtin.complex_ #[51,51] 272 #[(Value.float .f64 x2),(Value.float .f64 x5)]) y (Value.complex .f64 x6 y6) ∧ ∃ x8,YF prog (Op.unary .neg (Value.float .f64 x2)) y (Value.float .f64 x8) ∧ ∃ x10,YF prog (Op.unary .neg (Value.float .f64 x2)) y (Value.float .f64 x10) ∧ ∃ x11 y11,YF prog (Builtin.complex_ #[51,51] 272 #[(Value.float .f64 x8),(Value.float .f64 x10)]) y (Value.complex .f64 x11 y11) ∧ ∃ E8,YF prog (Op.unary .neg (Value.float .f64 x2)) y (Value.float .f64 E8) ∧ ∃ x15 y15,YF prog (Builtin.complex_ #[51,51] 272 #[(Value.float .f64 E8),(Value.float .f64 x2)]) y (Value.complex .f64 x15 y15) ∧ ∃ Un y18,YF prog (Builtin.complex_ #[51,51] 272 #[(Value.float .f64 x2),(Value.float .f64 x2)]) y (Value.complex .f64 Un y18) ∧ Al y fun CR => R (.returned (.slice (aD CR 0) 8 8)) (Hp.set y CR (.cells #[.complex .f64 4607182418800017408 0,(Value.complex .f64 x6 y6),.complex .f64 0 13830554455654793216,(Value.complex .f64 x11 y11),.complex .f64 13830554455654793216 0,(Value.complex .f64 x15 y15),.complex .f64 0 4607182418800017408,(Value.complex .f64 Un y18)] 272 (0,0)))))) : Spec prog 263 #[] σ R := M.start h ok
end ML
end TwW
end
end
section
set_option maxRecDepth 100000
noncomputable section
namespace TwW
open Go Tw Go.Proofs.Tryz
variable [Ey] {R : Rr} {σ : Hp}

namespace IH
variable {p0 : Option Addr} {n0 c0 : Nat} {x1 x5 : Int}
def M : Fw := ⟨prog,23,f23,[],[],false,[],[],[(208,[(0,wL),(1,wU),(5,wI)])]⟩
theorem ok : M.Ok := ⟨AG.nil,mixed,func23,by kernel_rfl⟩
def Gf := M.pt 0
theorem start (h : Gf R p0 n0 c0 x1 0 σ) : Spec prog 23 #[.slice p0 n0 c0,.int .u64 x1] σ R := M.start h ok
theorem BA (h : Br (x5 < (n0 : Int)) (Pq p0 fun BL ND => In x5 (n0 : Int) ∧ LS σ BL ((ND + Int.toNat x5 * 2) + 1) fun Wl n16 To => Br ((n16 : Int) = 1) (In x5 (n0 : Int) ∧ LS σ BL ((ND + Int.toNat x5 * 2) + 1) fun p24 n24 c24 => Pq p24 fun Ji Ws => In 0 (n24 : Int) ∧ LI .u64 σ Ji (Ws + 1) fun JU => Br (JU = x1) (R (.returned (.bool true)) σ) (AN (x5 + 1) ∧ Gf R (aD BL ND) n0 c0 x1 (x5 + 1) σ)) (AN (x5 + 1) ∧ Gf R (aD BL ND) n0 c0 x1 (x5 + 1) σ)) (R (.returned (.bool false)) σ)) : Gf R p0 n0 c0 x1 x5 σ := M.of h ok rfl
end IH
namespace Ur
variable {v0 : Value}
def M : Fw := ⟨prog,25,f25,[],[],false,[],[],[]⟩
theorem ok : M.Ok := ⟨AG.nil,mixed,func25,by kernel_rfl⟩
theorem start (h : EN prog 45 #[v0] σ (CI .u64 fun x4 y => R (.returned (.int .u64 x4)) y)) : Spec prog 25 #[v0] σ R := M.D6 h ok [(0,.o (.V v0))] rfl rfl (by kernel_rfl)
end Ur
namespace Us
variable {p0 p1 : Option Addr} {n0 c0 n1 c1 : Nat}
def M : Fw := ⟨prog,28,f28,[37,46],[],false,[],[],[]⟩
theorem ok : M.Ok := ⟨.cons call37 (.cons call46 (AG.nil)),mixed,func28,by kernel_rfl⟩
theorem start (h : Spec prog 37 #[.slice p0 n0 c0] σ (AA R (fun z y => ∃ Iq zm AF9,z = (.tuple #[.int .i64 Iq,.int .i64 zm,.int .i64 AF9]) ∧ Br (AF9 ≠ 0) (R (.returned (.int .i64 220)) y) (Br (Iq = 3) (R (.returned (.int .i64 220)) y) (Spec prog 46 #[.slice p1 n1 c1] y (AA R (CI .i64 fun D9 AF => Br (D9 ≠ 0) (R (.returned (.int .i64 224)) AF) (R (.returned (.int .i64 0)) AF)))))))) : Spec prog 28 #[.slice p0 n0 c0,.slice p1 n1 c1] σ R := M.start h ok
end Us
namespace DM
variable {p0 p5 : Option Addr} {n0 c0 n5 c5 : Nat} {x6 x7 : Int}
def M : Fw := ⟨prog,46,f46,[52,68,69],[4],false,[],[],[(104,[(0,wL),(5,wL),(6,wI),(7,wI)])]⟩
theorem ok : M.Ok := ⟨.cons call52 (.cons call68 (.cons call69 (AG.nil))),mixed,func46,by kernel_rfl⟩
def Hs := M.pt 0
theorem start (h : Hs R p0 n0 c0 p0 n0 c0 (n0 : Int) 0 σ) : Spec prog 46 #[.slice p0 n0 c0] σ R := M.start h ok
theorem Bg (h : Br (x7 < x6) (Pq p5 fun Cb iB => In x7 (n5 : Int) ∧ ∃ YY YZ Ya AGA AGB AGC,Au σ Cb (iB + Int.toNat x7 * 2) [.slice YY YZ Ya,.slice AGA AGB AGC] ∧ ∀ b4 : Nat,Spec prog 68 #[.slice YY YZ Ya] σ (AA R (CI .i64 fun Zx y => Br (Zx ≠ 0) (R (.returned (.int .i64 100)) y) (Spec prog 69 #[.slice AGA AGB AGC] y (AA R (CB fun t19 AF => Bn t19 (R (.returned (.int .i64 100)) AF) (Br (0 < x7) (AN (x7 - 1) ∧ Pq p0 fun YB eP => In (x7 - 1) (n0 : Int) ∧ LS AF YB (eP + Int.toNat (x7 - 1) * 2) fun p31 n31 c31 => Spec prog 52 #[.slice p31 n31 c31,.slice YY YZ Ya] AF (AA R (CI .i64 fun zz AH => Br (0 ≤ zz) (R (.returned (.int .i64 100)) AH) (AN (x7 + 1) ∧ Hs R (aD YB eP) n0 c0 (aD Cb iB) n5 c5 x6 (x7 + 1) AH)))) (AN (x7 + 1) ∧ Hs R p0 n0 c0 (aD Cb iB) n5 c5 x6 (x7 + 1) AF)))))))) (R (.returned (.int .i64 0)) σ)) : Hs R p0 n0 c0 p5 n5 c5 x6 x7 σ := M.of h ok rfl
end DM
namespace Fm
variable {p0 : Option Addr} {n0 c0 : Nat} {s1 : ByteArray} {x5 : Int}
def M : Fw := ⟨prog,60,f60,[],[],false,[],[],[(208,[(0,wL),(1,wT),(5,wI)])]⟩
theorem ok : M.Ok := ⟨AG.nil,mixed,func60,by kernel_rfl⟩
def Gf := M.pt 0
theorem start (h : Gf R p0 n0 c0 s1 0 σ) : Spec prog 60 #[.slice p0 n0 c0,.string s1] σ R := M.start h ok
theorem BA (h : Br (x5 < (n0 : Int)) (Pq p0 fun BL ND => In x5 (n0 : Int) ∧ LT σ BL (ND + Int.toNat x5 * 1) fun s15 => Bo (ByteArray.toList s15 == ByteArray.toList s1) (R (.returned (.int .i64 x5)) σ) (AN (x5 + 1) ∧ Gf R (aD BL ND) n0 c0 s1 (x5 + 1) σ)) (R (.returned (.int .i64 (-1))) σ)) : Gf R p0 n0 c0 s1 x5 σ := M.of h ok rfl
end Fm
namespace Oj
variable {x0 : Int}
def M : Fw := ⟨prog,90,f90,[],[],false,[],[],[]⟩
theorem ok : M.Ok := ⟨AG.nil,mixed,func90,by kernel_rfl⟩
theorem start (h : Br (48 ≤ x0) (R (.returned (.bool (decide (x0 ≤ 57)))) σ) (R (.returned (.bool false)) σ)) : Spec prog 90 #[.int .u8 x0] σ R := M.start h ok
end Oj
namespace Af
variable {q0 Dc Dn p2 Gg Hv HH F7 Eu E3 Wl : Option Addr} {DW CP DX Dd C1 CW F2 Ff Hw GL Hx Ie F5 F6 D7 EF x17 Un : Int} {DY HU : ByteArray} {De Dg Dh Dp n2 c2 Gh Gi Hy Hz HI HJ GC GD Ev Ew E4 E5 n16 To : Nat} {C2 Ig : Bool}
def M : Fw := ⟨prog,101,f101,[141,142],[4,6,8,10],false,[(7,15,false)],[],[(232,[(0,wQ),(4,.X 36 [.I .i64,.I .i64,.T,.L,.I .i64,.I .i64,.I .i64,.L,.B,.I .i64]),(6,.X 93 [.I .i64,.I .u64,.L,.L]),(8,.X 93 [.I .i64,.I .u64,.L,.L]),(16,wL),(17,wI),(18,wI)]),(935,[(0,wQ),(4,.X 36 [.I .i64,.I .i64,.T,.L,.I .i64,.I .i64,.I .i64,.L,.B,.I .i64]),(6,.X 93 [.I .i64,.I .u64,.L,.L]),(8,.X 93 [.I .i64,.I .u64,.L,.L]),(16,wL),(17,wI),(18,wI)])]⟩
theorem ok : M.Ok := ⟨.cons call141 (.cons call142 (AG.nil)),mixed,func101,by kernel_rfl⟩
def A8 := M.pt 0
def Ls := M.pt 1
theorem start (h : ∀ b4 : Nat,∀ b6 : Nat,∀ b8 : Nat,Pq q0 fun BL ND => LS σ BL ND fun Wl n16 To => A8 R (aD BL ND) DW CP DY Dc De Dg DX Dd C1 Dn Dh Dp C2 CW 0 0 none 0 0 none 0 0 2 0 none 0 0 none 0 0 Wl n16 To (n16 : Int) 0 σ) : Spec prog 101 #[.pointer q0,.agg #[.int .i64 DW,.int .i64 CP,.string DY,.slice Dc De Dg,.int .i64 DX,.int .i64 Dd,.int .i64 C1,.slice Dn Dh Dp,.bool C2,.int .i64 CW],.slice p2 n2 c2] σ R := M.start h ok
theorem Aa (h : Br (Un < x17) (Pq Wl fun YM o20 => In Un (n16 : Int) ∧ ∃ AAl AAm AAn AGD AGE AGF,Au σ YM (o20 + Int.toNat Un * 2) [.slice AAl AAm AAn,.slice AGD AGE AGF] ∧ ∀ Cb : Nat,Pq q0 fun Ji Ws => LI .i64 σ Ji (Ws + 1) fun JU => AN (JU - GL) ∧ AN ((JU - GL) - 300) ∧ LI .i64 σ Ji (Ws + 1) fun Wn => AN (Wn - GL) ∧ Spec prog 141 #[.slice AGD AGE AGF,(.int .i64 ((JU - GL) - 300)),(.int .i64 (Wn - GL))] σ (AA R (CS fun p39 n39 c39 y => Br ((n39 : Int) = 0) (Ls R (aD Ji Ws) F2 Ff HU Gg Gh Gi Hw GL Hx Hv Hy Hz Ig Ie F5 F6 HH HI HJ F7 GC GD D7 EF Eu Ev Ew E3 E4 E5 (aD YM o20) n16 To x17 Un y) (AN ((n39 : Int) - 1) ∧ Pq p39 fun P6 o48 => In (((n39 : Int) - 1)) (n39 : Int) ∧ LI .u64 y P6 ((o48 + Int.toNat ((n39 : Int) - 1) * 2) + 1) fun x50 => Br (x50 = 9218868437227405314) (Ls R (aD Ji Ws) F2 Ff HU Gg Gh Gi Hw GL Hx Hv Hy Hz Ig Ie F5 F6 HH HI HJ F7 GC GD D7 EF Eu Ev Ew E3 E4 E5 (aD YM o20) n16 To x17 Un y) (Spec prog 142 #[.slice Gg Gh Gi,.slice AAl AAm AAn] y (AA R (CB fun t58 AF => Bn t58 (Ls R (aD Ji Ws) F2 Ff HU Gg Gh Gi Hw GL Hx Hv Hy Hz Ig Ie F5 F6 HH HI HJ F7 GC GD D7 EF Eu Ev Ew E3 E4 E5 (aD YM o20) n16 To x17 Un AF) (AN ((n39 : Int) - 1) ∧ In (((n39 : Int) - 1)) (n39 : Int) ∧ LI .u64 AF P6 ((o48 + Int.toNat ((n39 : Int) - 1) * 2) + 1) fun x71 => Al AF fun b73 => AJ prog (Builtin.append_ #[67,67] 67 #[.slice Eu Ev Ew,(.slice (aD b73 0) 1 1)]) (Hp.set AF b73 (.cells #[.slice AAl AAm AAn,.int .u64 x71] 71 (0,0))) (CS fun p74 n74 c74 AH => Ls R (aD Ji Ws) F2 Ff HU Gg Gh Gi Hw GL Hx Hv Hy Hz Ig Ie F5 F6 HH HI HJ F7 GC GD D7 EF p74 n74 c74 E3 E4 E5 (aD YM o20) n16 To x17 Un AH))))))))) (R (.returned (.tuple #[.agg #[.int .i64 D7,.int .u64 EF,.slice Eu Ev Ew,.slice E3 E4 E5],.int .i64 0])) σ)) : A8 R q0 F2 Ff HU Gg Gh Gi Hw GL Hx Hv Hy Hz Ig Ie F5 F6 HH HI HJ F7 GC GD D7 EF Eu Ev Ew E3 E4 E5 Wl n16 To x17 Un σ := M.of3 h ok rfl fun _ _ _ => by kernel_rfl
theorem I5 (h : AN (Un + 1) ∧ A8 R q0 F2 Ff HU Gg Gh Gi Hw GL Hx Hv Hy Hz Ig Ie F5 F6 HH HI HJ F7 GC GD D7 EF Eu Ev Ew E3 E4 E5 Wl n16 To x17 (Un + 1) σ) : Ls R q0 F2 Ff HU Gg Gh Gi Hw GL Hx Hv Hy Hz Ig Ie F5 F6 HH HI HJ F7 GC GD D7 EF Eu Ev Ew E3 E4 E5 Wl n16 To x17 Un σ := M.of3 h ok rfl fun _ _ _ => by kernel_rfl
end Af
namespace AQ
variable {q0 Dc Dn p2 Gg Hv HH F7 Eu E3 NI bX mn La xM : Option Addr} {DW CP DX Dd C1 CW F2 Ff Hw GL Hx Ie F5 F6 D7 EF JX D9 lV V3 : Int} {DY HU : ByteArray} {De Dg Dh Dp n2 c2 Gh Gi Hy Hz HI HJ GC GD Ev Ew E4 E5 n21 Lr bY bZ mo mq n11 Lc n46 tZ : Nat} {C2 Ig : Bool}
def M : Fw := ⟨prog,102,f102,[141,142,143],[4,6,8,10,13],false,[],[],[(232,[(0,wQ),(4,.X 36 [.I .i64,.I .i64,.T,.L,.I .i64,.I .i64,.I .i64,.L,.B,.I .i64]),(6,.X 93 [.I .i64,.I .u64,.L,.L]),(8,.X 93 [.I .i64,.I .u64,.L,.L]),(21,wL),(22,wI),(23,wI)]),(239208,[(0,wQ),(4,.X 36 [.I .i64,.I .i64,.T,.L,.I .i64,.I .i64,.I .i64,.L,.B,.I .i64]),(6,.X 93 [.I .i64,.I .u64,.L,.L]),(8,.X 93 [.I .i64,.I .u64,.L,.L]),(10,.X 40 [.L,.L]),(11,wL),(21,wL),(22,wI),(23,wI),(46,wL),(47,wI),(48,wI)]),(935,[(0,wQ),(4,.X 36 [.I .i64,.I .i64,.T,.L,.I .i64,.I .i64,.I .i64,.L,.B,.I .i64]),(6,.X 93 [.I .i64,.I .u64,.L,.L]),(8,.X 93 [.I .i64,.I .u64,.L,.L]),(21,wL),(22,wI),(23,wI)]),(956839,[(0,wQ),(4,.X 36 [.I .i64,.I .i64,.T,.L,.I .i64,.I .i64,.I .i64,.L,.B,.I .i64]),(6,.X 93 [.I .i64,.I .u64,.L,.L]),(8,.X 93 [.I .i64,.I .u64,.L,.L]),(10,.X 40 [.L,.L]),(11,wL),(21,wL),(22,wI),(23,wI),(46,wL),(47,wI),(48,wI)])]⟩
theorem ok : M.Ok := ⟨.cons call141 (.cons call142 (.cons call143 (AG.nil))),mixed,func102,by kernel_rfl⟩
def A8 := M.pt 0
def Tv := M.pt 1
def Lw := M.pt 2
def te := M.pt 3
theorem start (h : ∀ b4 : Nat,∀ b6 : Nat,Spec prog 143 #[.int .i64 DX] σ (AA R (CI .u64 fun x16 y => ∀ b8 : Nat,Pq q0 fun CR Wm => LS y CR Wm fun NI n21 Lr => A8 R (aD CR Wm) DW CP DY Dc De Dg DX Dd C1 Dn Dh Dp C2 CW 0 0 none 0 0 none 0 0 3 x16 none 0 0 none 0 0 NI n21 Lr (n21 : Int) 0 y))) : Spec prog 102 #[.pointer q0,.agg #[.int .i64 DW,.int .i64 CP,.string DY,.slice Dc De Dg,.int .i64 DX,.int .i64 Dd,.int .i64 C1,.slice Dn Dh Dp,.bool C2,.int .i64 CW],.slice p2 n2 c2] σ R := M.start h ok
theorem Aa (h : Br (D9 < JX) (Pq NI fun Ji Ws => In D9 (n21 : Int) ∧ ∃ AGG AGH AGI AAo AAp AAq,Au σ Ji (Ws + Int.toNat D9 * 2) [.slice AGG AGH AGI,.slice AAo AAp AAq] ∧ ∀ Cb : Nat,Pq q0 fun gx o30 => LI .i64 σ gx (o30 + 1) fun mE => AN (mE - GL) ∧ AN ((mE - GL) - Hw) ∧ LI .i64 σ gx (o30 + 1) fun Xo => AN (Xo - GL) ∧ Spec prog 141 #[.slice AAo AAp AAq,(.int .i64 ((mE - GL) - Hw)),(.int .i64 (Xo - GL))] σ (AA R (CS fun xM n46 tZ y => Tv R (aD gx o30) F2 Ff HU Gg Gh Gi Hw GL Hx Hv Hy Hz Ig Ie F5 F6 HH HI HJ F7 GC GD D7 EF Eu Ev Ew E3 E4 E5 AGG AGH AGI AAo AAp AAq none 0 0 (aD Ji Ws) n21 Lr JX D9 xM n46 tZ (n46 : Int) 0 y))) (R (.returned (.tuple #[.agg #[.int .i64 D7,.int .u64 EF,.slice Eu Ev Ew,.slice E3 E4 E5],.int .i64 0])) σ)) : A8 R q0 F2 Ff HU Gg Gh Gi Hw GL Hx Hv Hy Hz Ig Ie F5 F6 HH HI HJ F7 GC GD D7 EF Eu Ev Ew E3 E4 E5 NI n21 Lr JX D9 σ := M.of3 h ok rfl fun _ _ _ => by kernel_rfl
theorem Qe (h : Br (V3 < lV) (Pq xM fun Vs o50 => In V3 (n46 : Int) ∧ ∃ AMe AAr,Au σ Vs (o50 + Int.toNat V3 * 2) [.int .i64 AMe,.int .u64 AAr] ∧ ∀ DC : Nat,Br (AAr ≠ 9218868437227405314) (Al σ fun b58 => AJ prog (Builtin.append_ #[187,187] 187 #[.slice La n11 Lc,(.slice (aD b58 0) 1 1)]) (Hp.set σ b58 (.cells #[.int .u64 AAr] 48 (0,0))) (CS fun vr n59 vt y => te R q0 F2 Ff HU Gg Gh Gi Hw GL Hx Hv Hy Hz Ig Ie F5 F6 HH HI HJ F7 GC GD D7 EF Eu Ev Ew E3 E4 E5 bX bY bZ mn mo mq vr n59 vt NI n21 Lr JX D9 (aD Vs o50) n46 tZ lV V3 y)) (te R q0 F2 Ff HU Gg Gh Gi Hw GL Hx Hv Hy Hz Ig Ie F5 F6 HH HI HJ F7 GC GD D7 EF Eu Ev Ew E3 E4 E5 bX bY bZ mn mo mq La n11 Lc NI n21 Lr JX D9 (aD Vs o50) n46 tZ lV V3 σ)) (Br (0 < (n11 : Int)) (Spec prog 142 #[.slice Gg Gh Gi,.slice bX bY bZ] σ (AA R (CB fun t69 y => Bo t69 (Al y fun b77 => AJ prog (Builtin.append_ #[91,91] 91 #[.slice E3 E4 E5,(.slice (aD b77 0) 1 1)]) (Hp.set y b77 (.cells #[.slice bX bY bZ,.slice La n11 Lc] 189 (0,0))) (CS fun rL mG rO AF => Lw R q0 F2 Ff HU Gg Gh Gi Hw GL Hx Hv Hy Hz Ig Ie F5 F6 HH HI HJ F7 GC GD D7 EF Eu Ev Ew rL mG rO NI n21 Lr JX D9 AF)) (Lw R q0 F2 Ff HU Gg Gh Gi Hw GL Hx Hv Hy Hz Ig Ie F5 F6 HH HI HJ F7 GC GD D7 EF Eu Ev Ew E3 E4 E5 NI n21 Lr JX D9 y)))) (Lw R q0 F2 Ff HU Gg Gh Gi Hw GL Hx Hv Hy Hz Ig Ie F5 F6 HH HI HJ F7 GC GD D7 EF Eu Ev Ew E3 E4 E5 NI n21 Lr JX D9 σ))) : Tv R q0 F2 Ff HU Gg Gh Gi Hw GL Hx Hv Hy Hz Ig Ie F5 F6 HH HI HJ F7 GC GD D7 EF Eu Ev Ew E3 E4 E5 bX bY bZ mn mo mq La n11 Lc NI n21 Lr JX D9 xM n46 tZ lV V3 σ := M.of4 h ok rfl fun _ _ _ _ => by kernel_rfl
theorem I7 (h : AN (D9 + 1) ∧ A8 R q0 F2 Ff HU Gg Gh Gi Hw GL Hx Hv Hy Hz Ig Ie F5 F6 HH HI HJ F7 GC GD D7 EF Eu Ev Ew E3 E4 E5 NI n21 Lr JX (D9 + 1) σ) : Lw R q0 F2 Ff HU Gg Gh Gi Hw GL Hx Hv Hy Hz Ig Ie F5 F6 HH HI HJ F7 GC GD D7 EF Eu Ev Ew E3 E4 E5 NI n21 Lr JX D9 σ := M.of3 h ok rfl fun _ _ _ => by kernel_rfl
theorem tf (h : AN (V3 + 1) ∧ Tv R q0 F2 Ff HU Gg Gh Gi Hw GL Hx Hv Hy Hz Ig Ie F5 F6 HH HI HJ F7 GC GD D7 EF Eu Ev Ew E3 E4 E5 bX bY bZ mn mo mq La n11 Lc NI n21 Lr JX D9 xM n46 tZ lV (V3 + 1) σ) : te R q0 F2 Ff HU Gg Gh Gi Hw GL Hx Hv Hy Hz Ig Ie F5 F6 HH HI HJ F7 GC GD D7 EF Eu Ev Ew E3 E4 E5 bX bY bZ mn mo mq La n11 Lc NI n21 Lr JX D9 xM n46 tZ lV V3 σ := M.of4 h ok rfl fun _ _ _ _ => by kernel_rfl
end AQ
namespace Fo
variable {E2 EX P2 NJ Ht JQ DW CP DX Dd C1 CW x7 x8 : Int} {P3 DY : ByteArray} {Ue RT Dc Dn p6 : Option Addr} {Ts Uf Qa RU De Dg Dh Dp n6 c6 : Nat} {Mg C2 : Bool}
def M : Fw := ⟨prog,122,f122,[126],[1],false,[],[],[(104,[(1,.X 36 [.I .i64,.I .i64,.T,.L,.I .i64,.I .i64,.I .i64,.L,.B,.I .i64]),(6,wL),(7,wI),(8,wI)])]⟩
theorem ok : M.Ok := ⟨.cons call126 (AG.nil),mixed,func122,by kernel_rfl⟩
def Hs := M.pt 0
theorem start (h : ∀ b1 : Nat,Hs R E2 EX P3 Ue Ts Uf P2 NJ Ht RT Qa RU Mg JQ RT Qa RU (Qa : Int) 0 σ) : Spec prog 122 #[.agg #[.int .i64 E2,.int .i64 EX,.string P3,.slice Ue Ts Uf,.int .i64 P2,.int .i64 NJ,.int .i64 Ht,.slice RT Qa RU,.bool Mg,.int .i64 JQ]] σ R := M.start h ok
theorem Bg (h : Br (x8 < x7) (Pq p6 fun Cb iB => In x8 (n6 : Int) ∧ LT σ Cb (iB + Int.toNat x8 * 1) fun s11 => Spec prog 126 #[.string s11] σ (AA R (CB fun t13 y => Bn t13 (R (.returned (.bool false)) y) (AN (x8 + 1) ∧ Hs R DW CP DY Dc De Dg DX Dd C1 Dn Dh Dp C2 CW (aD Cb iB) n6 c6 x7 (x8 + 1) y)))) (Br ((Dh : Int) = 0) (R (.returned (.bool true)) σ) (R (.returned (.bool (decide (C1 ≠ 0)))) σ))) : Hs R DW CP DY Dc De Dg DX Dd C1 Dn Dh Dp C2 CW p6 n6 c6 x7 x8 σ := M.jj h ok rfl fun _ => by kernel_rfl
end Fo
namespace DN
variable {E2 EX P2 NJ Ht JQ : Int} {P3 : ByteArray} {Ue RT p1 : Option Addr} {Ts Uf Qa RU n1 c1 b2 : Nat} {Mg : Bool}
def M : Fw := ⟨prog,127,f127,[],[3],false,[],[],[]⟩
theorem ok : M.Ok := ⟨AG.nil,mixed,func127,by kernel_rfl⟩
theorem start (h : ∀ b3 : Nat,LI .i64 σ b2 0 fun x7 => R (.returned (.tuple #[.int .i64 x7,.int .i64 0])) σ) : Spec prog 127 #[.agg #[.int .i64 E2,.int .i64 EX,.string P3,.slice Ue Ts Uf,.int .i64 P2,.int .i64 NJ,.int .i64 Ht,.slice RT Qa RU,.bool Mg,.int .i64 JQ],.slice p1 n1 c1,(.pointer (aD b2 0))] σ R := M.start h ok
end DN
namespace NZ
variable {x0 : Int}
def M : Fw := ⟨prog,144,f144,[174,181,182],[],false,[],[],[]⟩
theorem ok : M.Ok := ⟨.cons call174 (.cons call181 (.cons call182 (AG.nil))),mixed,func144,by kernel_rfl⟩
theorem start (h : Spec prog 182 #[.int .u64 x0] σ (AA R (fun z y => ∃ x4,(Value.float .f64 x4) = z ∧ Spec prog 181 #[(Value.float .f64 x4)] y (AA R (fun z AF => ∃ x5,(Value.float .f64 x5) = z ∧ Spec prog 174 #[(Value.float .f64 x5)] AF (AA R (CI .u64 fun x6 AH => R (.returned (.int .u64 x6)) AH))))))) : Spec prog 144 #[.int .u64 x0] σ R := M.start h ok
end NZ
namespace Fp
variable {p0 La : Option Addr} {n0 c0 n11 Lc : Nat} {x3 x12 E8 : Int}
def M : Fw := ⟨prog,151,f151,[186,201],[],false,[],[],[(232,[(3,wU),(11,wL),(12,wI),(13,wI)])]⟩
theorem ok : M.Ok := ⟨.cons call186 (.cons call201 (AG.nil)),mixed,func151,by kernel_rfl⟩
def A8 := M.pt 0
theorem start (h : Pq p0 fun b7 o7 => In 0 (n0 : Int) ∧ LI .u64 σ b7 o7 fun x8 => Spec prog 186 #[.int .u64 x8] σ (AA R (CI .u64 fun x9 y => ((0 : Int) ≤ 1 ∧ 1 ≤ (n0 : Int)) ∧ A8 R x9 ((Ic (aD b7 o7) (1) c0 1)) (n0 - 1) (c0 - 1) ((((n0 - 1) : Nat) : Int)) 0 y))) : Spec prog 151 #[.slice p0 n0 c0] σ R := M.start h ok
theorem Aa (h : Br (E8 < x12) (Pq La fun b15 o15 => In E8 (n11 : Int) ∧ LI .u64 σ b15 (o15 + Int.toNat E8 * 1) fun x16 => Spec prog 201 #[.int .u64 x3,.int .u64 x16] σ (AA R (CI .u64 fun Dm y => AN (E8 + 1) ∧ A8 R Dm (aD b15 o15) n11 Lc x12 (E8 + 1) y))) (R (.returned (.int .u64 x3)) σ)) : A8 R x3 La n11 Lc x12 E8 σ := M.of h ok rfl
end Fp
namespace G0
variable {p0 : Option Addr} {n0 c0 : Nat}
def M : Fw := ⟨prog,152,f152,[202],[],false,[],[],[]⟩
theorem ok : M.Ok := ⟨.cons call202 (AG.nil),mixed,func152,by kernel_rfl⟩
theorem start (h : Spec prog 202 #[.int .i64 7,.slice p0 n0 c0] σ (AA R (CI .u64 fun x4 y => R (.returned (.int .u64 x4)) y))) : Spec prog 152 #[.slice p0 n0 c0] σ R := M.start h ok
end G0
namespace PW
variable {E2 EX P2 NJ Ht JQ x1 x2 : Int} {P3 : ByteArray} {Ue RT : Option Addr} {Ts Uf Qa RU : Nat} {Mg : Bool}
def M : Fw := ⟨prog,156,f156,[203,204,205],[3],false,[],[],[]⟩
theorem ok : M.Ok := ⟨.cons call203 (.cons call204 (.cons call205 (AG.nil))),mixed,func156,by kernel_rfl⟩
theorem start (h : ∀ b3 : Nat,Spec prog 203 #[.int .i64 EX,.int .u64 x1,.int .u64 x2] σ (AA R (fun z y => ∃ RO AGJ,z = (.tuple #[.int .u64 RO,.bool AGJ]) ∧ Bo AGJ (R (.returned (.tuple #[.int .u64 RO,.bool true])) y) (Spec prog 204 #[.int .i64 EX,.int .u64 x1,.int .u64 x2] y (AA R (fun z AF => ∃ AAs AMi,z = (.tuple #[.bool AAs,.bool AMi]) ∧ Spec prog 205 #[.bool AAs] AF (AA R (CI .u64 fun x31 AH => R (.returned (.tuple #[.int .u64 x31,.bool AAs])) AH)))))))) : Spec prog 156 #[.agg #[.int .i64 E2,.int .i64 EX,.string P3,.slice Ue Ts Uf,.int .i64 P2,.int .i64 NJ,.int .i64 Ht,.slice RT Qa RU,.bool Mg,.int .i64 JQ],.int .u64 x1,.int .u64 x2] σ R := M.start h ok
end PW
namespace G1
variable {s0 : ByteArray} {x1 : Int}
def M : Fw := ⟨prog,173,f173,[214,215],[],false,[],[],[]⟩
theorem ok : M.Ok := ⟨.cons call214 (.cons call215 (AG.nil)),mixed,func173,by kernel_rfl⟩
theorem start (h : Spec prog 214 #[.string s0,.int .i64 x1] σ (AA R (fun z y => ∃ gh gi,z = (.tuple #[gh,gi]) ∧ ∃ t15,YF prog ((do eqGuard .neq 214 (.tmp 14) (.const .nilIface) gi .nilIface; binOp .neq 214 gi .nilIface)) y (.bool t15) ∧ Bo t15 (Spec prog 215 #[(.string (ByteArray.mk #[80,97,114,115,101,70,108,111,97,116])),.string s0,.int .i64 0,.int .i64 x1,gi] y (AA R (fun z AF => ∃ v20,v20 = z ∧ R (.returned (.tuple #[gh,v20])) AF))) (R (.returned (.tuple #[gh,.nilIface])) y)))) : Spec prog 173 #[.string s0,.int .i64 x1] σ R := M.start h ok
end G1
namespace eb
variable {v0 : Value}
def M : Fw := ⟨prog,174,f174,[216],[],false,[],[],[]⟩
theorem ok : M.Ok := ⟨.cons call216 (AG.nil),mixed,func174,by kernel_rfl⟩
theorem start (h : Spec prog 216 #[v0] σ (AA R (CB fun t4 y => Bo t4 (R (.returned (.int .u64 9221120237041090560)) y) (EN prog 45 #[v0] y (CI .u64 fun x6 AF => R (.returned (.int .u64 x6)) AF))))) : Spec prog 174 #[v0] σ R := M.D6 h ok [(0,.o (.V v0))] rfl rfl (by kernel_rfl)
end eb
namespace Aw
variable {p0 : Option Addr} {n0 c0 : Nat} {x1 x8 x9 x10 : Int} {v2 : Value}
def M : Fw := ⟨prog,175,f175,[],[],false,[],[],[(480,[(0,wL),(1,wI),(2,wV),(8,wI),(9,wI),(10,wI)])]⟩
theorem ok : M.Ok := ⟨AG.nil,mixed,func175,by kernel_rfl⟩
def Bk := M.pt 0
theorem start (h : Bk R p0 n0 c0 x1 v2 (n0 : Int) 0 (n0 : Int) σ) : Spec prog 175 #[.slice p0 n0 c0,.int .i64 x1,v2] σ R := M.D6 h ok [(0,.o (.L p0 n0 c0)),(1,.o (.I .i64 x1)),(2,.o (.V v2))] rfl rfl (by kernel_rfl)
theorem A5 (h : Br (x9 < x10) (AN (x9 + x10) ∧ Df (IntKind.u64.wrap (x9 + x10)) fun bR => ((0 : Int) ≤ 1 ∧ 1 ≤ ((IntKind.bits .u64 : Nat) : Int)) ∧ Df (bR / 2 ^ Int.toNat 1) fun JX => Df (IntKind.i64.wrap JX) fun D9 => Pq p0 fun Xk sn => In D9 (n0 : Int) ∧ ∃ YI RZ,Au σ Xk (sn + Int.toNat D9 * 2) [.int .i64 YI,.int .u64 RZ] ∧ ∃ (f30 : Nat) (xV xW : Array Value),v2 = .func (.func f30) xV xW ∧ Enters prog f30 ∧ Spec prog f30 (xV ++ #[.agg #[.int .i64 YI,.int .u64 RZ],.int .i64 x1] ++ xW) σ (AA R (CI .i64 fun Ul y => Br (Ul < 0) (AN (D9 + 1) ∧ Bk R (aD Xk sn) n0 c0 x1 v2 x8 (D9 + 1) x10 y) (Bk R (aD Xk sn) n0 c0 x1 v2 x8 x9 D9 y)))) (Br (x9 < x8) (Pq p0 fun eE o43 => In x9 (n0 : Int) ∧ ∃ P9 QA,Au σ eE (o43 + Int.toNat x9 * 2) [.int .i64 P9,.int .u64 QA] ∧ ∃ (f46 : Nat) (xX xY : Array Value),v2 = .func (.func f46) xX xY ∧ Enters prog f46 ∧ Spec prog f46 (xX ++ #[.agg #[.int .i64 P9,.int .u64 QA],.int .i64 x1] ++ xY) σ (AA R (CI .i64 fun x46 y => R (.returned (.tuple #[.int .i64 x9,(.bool (decide (x46 = 0)))])) y))) (R (.returned (.tuple #[.int .i64 x9,.bool false])) σ))) : Bk R p0 n0 c0 x1 v2 x8 x9 x10 σ := M.of h ok rfl
end Aw
namespace Yb
variable {x0 x1 : Int}
def M : Fw := ⟨prog,190,f190,[203],[],false,[],[],[]⟩
theorem ok : M.Ok := ⟨.cons call203 (AG.nil),mixed,func190,by kernel_rfl⟩
theorem start (h : Spec prog 203 #[.int .i64 2,.int .u64 x0,.int .u64 x1] σ (AA R (fun z y => ∃ Iq RQ,z = (.tuple #[.int .u64 Iq,.bool RQ]) ∧ R (.returned (.int .u64 Iq)) y))) : Spec prog 190 #[.int .u64 x0,.int .u64 x1] σ R := M.start h ok
end Yb
namespace EA
variable {p0 : Option Addr} {n0 c0 : Nat} {x3 x4 : Int}
def M : Fw := ⟨prog,192,f192,[190,201,204],[],false,[],[],[(464,[(0,wL),(3,wU),(4,wI)]),(467,[(0,wL),(3,wU),(4,wI)])]⟩
theorem ok : M.Ok := ⟨.cons call190 (.cons call201 (.cons call204 (AG.nil))),mixed,func192,by kernel_rfl⟩
def Bk := M.pt 0
def Xm := M.pt 1
theorem start (h : AN ((n0 : Int) - 1) ∧ Pq p0 fun BF jt => In (((n0 : Int) - 1)) (n0 : Int) ∧ LI .u64 σ BF (jt + Int.toNat ((n0 : Int) - 1) * 1) fun x12 => In 0 (n0 : Int) ∧ LI .u64 σ BF jt fun x15 => Spec prog 190 #[.int .u64 x12,.int .u64 x15] σ (AA R (CI .u64 fun x16 y => Bk R (aD BF jt) n0 c0 x16 1 y))) : Spec prog 192 #[.slice p0 n0 c0] σ R := M.start h ok
theorem A5 (h : Br (x4 < (n0 : Int)) (Pq p0 fun jv rU => In x4 (n0 : Int) ∧ LI .u64 σ jv (rU + Int.toNat x4 * 1) fun JU => AN (x4 - 1) ∧ In (x4 - 1) (n0 : Int) ∧ LI .u64 σ jv (rU + Int.toNat (x4 - 1) * 1) fun mE => Spec prog 204 #[.int .i64 7,.int .u64 JU,.int .u64 mE] σ (AA R (fun z y => ∃ AGK mF,z = (.tuple #[.bool AGK,.bool mF]) ∧ Bo AGK (AN (x4 - 1) ∧ In (x4 - 1) (n0 : Int) ∧ LI .u64 y jv (rU + Int.toNat (x4 - 1) * 1) fun Xo => Spec prog 201 #[.int .u64 x3,.int .u64 Xo] y (AA R (CI .u64 fun eH AF => Xm R (aD jv rU) n0 c0 eH x4 AF))) (Xm R (aD jv rU) n0 c0 x3 x4 y)))) (R (.returned (.int .u64 x3)) σ)) : Bk R p0 n0 c0 x3 x4 σ := M.of h ok rfl
theorem QZ (h : AN (x4 + 1) ∧ Bk R p0 n0 c0 x3 (x4 + 1) σ) : Xm R p0 n0 c0 x3 x4 σ := M.of h ok rfl
end EA
namespace JY
variable {wj Zz : ByteArray} {b1 : Nat}
def M : Fw := ⟨prog,200,f200,[199],[2],false,[],[],[]⟩
theorem ok : M.Ok := ⟨.cons call199 (AG.nil),mixed,func200,by kernel_rfl⟩
theorem start (h : ∀ b2 : Nat,LS σ b1 0 fun p4 n4 c4 => Spec prog 199 #[.slice p4 n4 c4,.string wj] σ (AA R (CB fun t7 y => R (.returned (.bool (!t7))) y))) : Spec prog 200 #[.agg #[.string wj,.string Zz],(.pointer (aD b1 0))] σ R := M.start h ok
end JY
namespace Fq
variable {s0 : ByteArray} {x3 : Int}
def M : Fw := ⟨prog,213,f213,[],[],false,[],[],[(224,[(0,wT),(3,wI)])]⟩
theorem ok : M.Ok := ⟨AG.nil,mixed,func213,by kernel_rfl⟩
def Gf := M.pt 0
theorem start (h : Gf R s0 0 σ) : Spec prog 213 #[.string s0] σ R := M.start h ok
theorem BA (h : Br (x3 < ((ByteArray.size s0 : Nat) : Int)) (∃ u11 : UInt8,0 ≤ x3 ∧ (ByteArray.data s0)[Int.toNat x3]? = some u11 ∧ Br ((48 : Int) ≤ ((UInt8.toNat u11 : Nat) : Int)) (∃ u17 : UInt8,0 ≤ x3 ∧ (ByteArray.data s0)[Int.toNat x3]? = some u17 ∧ Br ((((UInt8.toNat u17 : Nat) : Int) : Int) ≤ 57) (AN (x3 + 1) ∧ Gf R s0 (x3 + 1) σ) (R (.returned (.int .i64 x3)) σ)) (R (.returned (.int .i64 x3)) σ)) (R (.returned (.int .i64 x3)) σ)) : Gf R s0 x3 σ := M.of h ok rfl
end Fq
namespace D4
variable {Tt : Option Addr} {MG RY : Nat} {Zz s1 : ByteArray}
def M : Fw := ⟨prog,220,f220,[236],[2],false,[],[],[]⟩
theorem ok : M.Ok := ⟨.cons call236 (AG.nil),mixed,func220,by kernel_rfl⟩
theorem start (h : ∀ b2 : Nat,Spec prog 236 #[.agg #[.slice Tt MG RY],.string s1] σ (AA R (CB fun t8 y => R (.returned (.bool (!t8))) y))) : Spec prog 220 #[.agg #[.slice Tt MG RY,.string Zz],.string s1] σ R := M.start h ok
end D4
namespace II
variable {p0 p5 : Option Addr} {n0 c0 n5 c5 : Nat} {x1 x7 : Int} {v6 : Value}
def M : Fw := ⟨prog,241,f241,[182,263],[],false,[],[],[(444,[(0,wL),(1,wI),(5,wL),(6,wV),(7,wI)])]⟩
theorem ok : M.Ok := ⟨.cons call182 (.cons call263 (AG.nil)),mixed,func241,by kernel_rfl⟩
def tg := M.pt 0
theorem start (h : Spec prog 263 #[] σ (AA R (CS fun Zy n10 Tu y => tg R p0 n0 c0 x1 Zy n10 Tu (.complex .f64 0 0) 0 y))) : Spec prog 241 #[.slice p0 n0 c0,.int .i64 x1] σ R := M.start h ok
theorem ec (h : Br (x7 = (n0 : Int)) (R (.returned v6) σ) (Pq p0 fun Uh bO => In x7 (n0 : Int) ∧ LI .u64 σ Uh (bO + Int.toNat x7 * 1) fun Dm => AN (x1 * x7) ∧ (n0 : Int) ≠ (0 : Int) ∧ Df (Int.tmod (x1 * x7) (n0 : Int)) fun JU => (n0 : Int) ≠ (0 : Int) ∧ Df (IntKind.i64.wrap (Int.tdiv 8 (n0 : Int))) fun Ul => AN (JU * Ul) ∧ Pq p5 fun b32 o32 => In (JU * Ul) (n5 : Int) ∧ ∃ x33 y33,Hp.ld σ ⟨b32,(o32 + Int.toNat (JU * Ul) * 1),none⟩ = some (Value.complex .f64 x33 y33) ∧ Spec prog 182 #[.int .u64 Dm] σ (AA R (fun z y => ∃ Hj,(Value.float .f64 Hj) = z ∧ Kp [b32] σ y ∧ ∃ Wn,YF prog (Builtin.real_ #[272] 51 #[v6]) y (Value.float .f64 Wn) ∧ ∃ wv,YF prog (Builtin.real_ #[272] 51 #[(Value.complex .f64 x33 y33)]) y (Value.float .f64 wv) ∧ AJ prog (binOp .mul 51 (Value.float .f64 Hj) (Value.float .f64 wv)) y (fun z AF => ∃ x39,(Value.float .f64 x39) = z ∧ AJ prog (binOp .add 51 (Value.float .f64 Wn) (Value.float .f64 x39)) AF (fun z AH => ∃ rK,(Value.float .f64 rK) = z ∧ ∃ Xo,YF prog (Builtin.imag_ #[272] 51 #[v6]) AH (Value.float .f64 Xo) ∧ ∃ x45,YF prog (Builtin.imag_ #[272] 51 #[(Value.complex .f64 x33 y33)]) AH (Value.float .f64 x45) ∧ AJ prog (binOp .mul 51 (Value.float .f64 Hj) (Value.float .f64 x45)) AH (fun z Ab => ∃ x46,(Value.float .f64 x46) = z ∧ AJ prog (binOp .add 51 (Value.float .f64 Xo) (Value.float .f64 x46)) Ab (fun z DV => ∃ lV,(Value.float .f64 lV) = z ∧ ∃ V3 y48,YF prog (Builtin.complex_ #[51,51] 272 #[(Value.float .f64 rK),(Value.float .f64 lV)]) DV (Value.complex .f64 V3 y48) ∧ AN (x7 + 1) ∧ tg R (aD Uh bO) n0 c0 x1 (aD b32 o32) n5 c5 (Value.complex .f64 V3 y48) (x7 + 1) DV)))))))) : tg R p0 n0 c0 x1 p5 n5 c5 v6 x7 σ := M.of h ok rfl
end II
namespace IJ
variable {q0 : Option Addr}
def M : Fw := ⟨prog,250,f250,[66,133,135,136,137,138,267,268,269,270],[2],false,[],[],[]⟩
theorem ok : M.Ok := ⟨.cons call66 (.cons call133 (.cons call135 (.cons call136 (.cons call137 (.cons call138 (.cons call267 (.cons call268 (.cons call269 (.cons call270 (AG.nil)))))))))),mixed,func250,by kernel_rfl⟩
theorem start (h : Spec prog 66 #[.pointer q0] σ (AA R (fun z y => ∃ Fj Gj Fk Gk,z = (.agg #[.int .i64 Fj,.int .i64 Gj,.string Fk,.int .i64 Gk]) ∧ ∀ b2 : Nat,Spec prog 267 #[] y (AA R (CS fun p8 n8 c8 AF => Spec prog 133 #[.slice p8 n8 c8,.string Fk] AF (AA R (CI .i64 fun x11 AH => Spec prog 268 #[] AH (AA R (CS fun Wr n12 Vu Ab => Spec prog 133 #[.slice Wr n12 Vu,.string Fk] Ab (AA R (CI .i64 fun x15 DV => Br (Fj = 1) (Spec prog 135 #[.pointer q0] DV (AA R (fun z Ex => ∃ tQ gk AAY AAZ,z = (.agg #[.int .i64 tQ,.int .i64 gk,.string AAY,.int .i64 AAZ]) ∧ Spec prog 138 #[.pointer q0,.agg #[.int .i64 1,.int .i64 0,.string Fk,.slice none 0 0,.int .i64 0,.int .i64 0,.int .i64 0,.slice none 0 0,.bool false,.int .i64 0]] Ex (AA R (fun z D3 => z = (.tuple #[]) ∧ R (.returned (.tuple #[])) D3))))) (Spec prog 136 #[.pointer q0,.int .i64 5,(.string (ByteArray.mk #[40]))] DV (AA R (CB fun t31 Ex => Bo t31 (Spec prog 269 #[.pointer q0] Ex (AA R (fun z D3 => z = (.tuple #[]) ∧ R (.returned (.tuple #[])) D3))) (Br (Fj = 3) (Br (0 < x11) (Spec prog 135 #[.pointer q0] Ex (AA R (fun z D3 => ∃ Od Lv Oe AMm,z = (.agg #[.int .i64 Od,.int .i64 Lv,.string Oe,.int .i64 AMm]) ∧ Spec prog 269 #[.pointer q0] D3 (AA R (fun z Hk => z = (.tuple #[]) ∧ Spec prog 138 #[.pointer q0,(.agg #[.int .i64 4,.int .i64 x11,(.string (ByteArray.mk #[])),.slice none 0 0,.int .i64 0,.int .i64 0,.int .i64 0,.slice none 0 0,.bool false,.int .i64 1])] Hk (AA R (fun z P4 => z = (.tuple #[]) ∧ R (.returned (.tuple #[])) P4))))))) (Br (Fj = 3) (Br (0 < x15) (Spec prog 135 #[.pointer q0] Ex (AA R (fun z D3 => ∃ Vo Hl AAt AAu,z = (.agg #[.int .i64 Vo,.int .i64 Hl,.string AAt,.int .i64 AAu]) ∧ Al D3 fun b5 => AJ prog (Instr.storeAt 36 (.pointer (aD b5 0)) (.agg #[.int .i64 5,.int .i64 x15,(.string (ByteArray.mk #[])),.slice none 0 0,.int .i64 0,.int .i64 0,.int .i64 0,.slice none 0 0,.bool false,.int .i64 1])) (Hp.set D3 b5 (.cells #[.int .i64 0,.int .i64 0,(.string (ByteArray.mk #[])),.slice none 0 0,.int .i64 0,.int .i64 0,.int .i64 0,.slice none 0 0,.bool false,.int .i64 0] 36 (0,0))) (fun _ Hk => Spec prog 137 #[.pointer q0,(.pointer (aD b5 0)),(.agg #[(.string (ByteArray.mk #[98,121])),(.string (ByteArray.mk #[119,105,116,104,111,117,116]))]),.agg #[.int .i64 1,.int .i64 2]] Hk (AA R (fun z P4 => z = (.tuple #[]) ∧ Spec prog 269 #[.pointer q0] P4 (AA R (fun z Lt => z = (.tuple #[]) ∧ ∃ Yc Ye Yf Yg Yh Yi Yj Yk Yl Ym Yn Yo Yp Yq,Au Lt b5 0 [.int .i64 Yc,.int .i64 Ye,.string Yf,.slice Yg Yh Yi,.int .i64 Yj,.int .i64 Yk,.int .i64 Yl,.slice Ym Yn Yo,.bool Yp,.int .i64 Yq] ∧ Spec prog 138 #[.pointer q0,.agg #[.int .i64 Yc,.int .i64 Ye,.string Yf,.slice Yg Yh Yi,.int .i64 Yj,.int .i64 Yk,.int .i64 Yl,.slice Ym Yn Yo,.bool Yp,.int .i64 Yq]] Lt (AA R (fun z lO => z = (.tuple #[]) ∧ R (.returned (.tuple #[])) lO)))))))))) (Spec prog 270 #[.pointer q0] Ex (AA R (fun z D3 => z = (.tuple #[]) ∧ R (.returned (.tuple #[])) D3)))) (Spec prog 270 #[.pointer q0] Ex (AA R (fun z D3 => z = (.tuple #[]) ∧ R (.returned (.tuple #[])) D3))))) (Br (Fj = 3) (Br (0 < x15) (Spec prog 135 #[.pointer q0] Ex (AA R (fun z D3 => ∃ Vo Hl AAt AAu,z = (.agg #[.int .i64 Vo,.int .i64 Hl,.string AAt,.int .i64 AAu]) ∧ Al D3 fun b5 => AJ prog (Instr.storeAt 36 (.pointer (aD b5 0)) (.agg #[.int .i64 5,.int .i64 x15,(.string (ByteArray.mk #[])),.slice none 0 0,.int .i64 0,.int .i64 0,.int .i64 0,.slice none 0 0,.bool false,.int .i64 1])) (Hp.set D3 b5 (.cells #[.int .i64 0,.int .i64 0,(.string (ByteArray.mk #[])),.slice none 0 0,.int .i64 0,.int .i64 0,.int .i64 0,.slice none 0 0,.bool false,.int .i64 0] 36 (0,0))) (fun _ Hk => Spec prog 137 #[.pointer q0,(.pointer (aD b5 0)),(.agg #[(.string (ByteArray.mk #[98,121])),(.string (ByteArray.mk #[119,105,116,104,111,117,116]))]),.agg #[.int .i64 1,.int .i64 2]] Hk (AA R (fun z P4 => z = (.tuple #[]) ∧ Spec prog 269 #[.pointer q0] P4 (AA R (fun z Lt => z = (.tuple #[]) ∧ ∃ Yc Ye Yf Yg Yh Yi Yj Yk Yl Ym Yn Yo Yp Yq,Au Lt b5 0 [.int .i64 Yc,.int .i64 Ye,.string Yf,.slice Yg Yh Yi,.int .i64 Yj,.int .i64 Yk,.int .i64 Yl,.slice Ym Yn Yo,.bool Yp,.int .i64 Yq] ∧ Spec prog 138 #[.pointer q0,.agg #[.int .i64 Yc,.int .i64 Ye,.string Yf,.slice Yg Yh Yi,.int .i64 Yj,.int .i64 Yk,.int .i64 Yl,.slice Ym Yn Yo,.bool Yp,.int .i64 Yq]] Lt (AA R (fun z lO => z = (.tuple #[]) ∧ R (.returned (.tuple #[])) lO)))))))))) (Spec prog 270 #[.pointer q0] Ex (AA R (fun z D3 => z = (.tuple #[]) ∧ R (.returned (.tuple #[])) D3)))) (Spec prog 270 #[.pointer q0] Ex (AA R (fun z D3 => z = (.tuple #[]) ∧ R (.returned (.tuple #[])) D3))))))))))))))))))) : Spec prog 250 #[.pointer q0] σ R := M.start h ok
end IJ
namespace strings_Index
variable {s0 s1 : ByteArray}
end strings_Index
namespace Sb
def M : Fw := ⟨prog,268,f268,[],[],false,[],[],[]⟩
theorem ok : M.Ok := ⟨AG.nil,mixed,func268,by kernel_rfl⟩
theorem start (h : Al σ fun b1 => R (.returned (.slice (aD b1 0) 6 6)) (Hp.set σ b1 (.cells #[(.string (ByteArray.mk #[])),(.string (ByteArray.mk #[115,117,109])),(.string (ByteArray.mk #[109,105,110])),(.string (ByteArray.mk #[109,97,120])),(.string (ByteArray.mk #[97,118,103])),(.string (ByteArray.mk #[99,111,117,110,116]))] 9 (0,0)))) : Spec prog 268 #[] σ R := M.start h ok
end Sb
namespace AE
variable {s0 : ByteArray} {x2 x3 x7 x10 x11 x12 x15 x16 x17 Dm Hj : Int} {t4 t5 t6 t8 t9 t13 t14 : Bool}
def M : Fw := ⟨prog,272,f272,[302,303],[],false,[],[],[(110,[(0,wT),(2,wU),(3,wI),(4,wB),(5,wB),(6,wB),(7,wI),(8,wB),(9,wB)]),(1790,[(0,wT),(2,wU),(3,wI),(4,wB),(5,wB),(6,wB),(7,wI),(8,wB),(9,wB),(10,wU),(11,wI),(12,w8)]),(1834976,[(0,wT),(2,wU),(3,wI),(4,wB),(5,wB),(6,wB),(7,wI),(8,wB),(9,wB),(10,wU),(11,wI),(12,w8),(13,wB),(14,wB),(15,wI),(16,wI),(17,wI)]),(458748,[(0,wT),(2,wU),(3,wI),(4,wB),(5,wB),(6,wB),(7,wI),(8,wB),(9,wB),(10,wU),(12,w8),(13,wB),(14,wB),(15,wI),(16,wI),(17,wI)]),(1835004,[(0,wT),(2,wU),(3,wI),(4,wB),(5,wB),(6,wB),(7,wI),(8,wB),(9,wB),(10,wU),(12,w8),(16,wI),(17,wI)]),(3670012,[(0,wT),(2,wU),(3,wI),(4,wB),(5,wB),(6,wB),(7,wI),(8,wB),(9,wB),(10,wU),(12,w8),(16,wI),(17,wI)]),(7340028,[(0,wT),(2,wU),(3,wI),(4,wB),(5,wB),(6,wB),(7,wI),(8,wB),(9,wB),(16,wI),(17,wI)]),(14680060,[(0,wT),(2,wU),(3,wI),(4,wB),(5,wB),(6,wB),(7,wI),(8,wB),(9,wB)]),(469761724,[(0,wT),(2,wU),(3,wI),(4,wB),(5,wB),(6,wB),(7,wI),(8,wB),(9,wB),(16,wI),(17,wI),(19,wI)]),(15032375264,[(0,wT),(2,wU),(3,wI),(4,wB),(5,wB),(6,wB),(7,wI),(8,wB),(9,wB),(16,wI),(17,wI),(19,wI),(20,wI)]),(15032375267,[(0,wT),(2,wU),(3,wI),(4,wB),(5,wB),(6,wB),(7,wI),(8,wB),(9,wB),(16,wI),(17,wI),(19,wI),(20,wI)]),(1834979,[(0,wT),(2,wU),(3,wI),(4,wB),(5,wB),(6,wB),(7,wI),(8,wB),(9,wB),(10,wU),(11,wI),(12,w8),(13,wB),(14,wB),(15,wI),(16,wI),(17,wI)])]⟩
theorem ok : M.Ok := ⟨.cons call302 (.cons call303 (AG.nil)),mixed,func272,by kernel_rfl⟩
def Tv := M.pt 0
def Lw := M.pt 1
def mr := M.pt 2
def Na := M.pt 3
def ed := M.pt 4
def mu := M.pt 5
def mw := M.pt 6
def mz := M.pt 7
def nB := M.pt 8
def Fs := M.pt 11
theorem start (h : Br ((((ByteArray.size s0 : Nat) : Int) : Int) ≤ 0) (R (.returned (.tuple #[.int .u64 0,.int .i64 0,.bool false,.bool false,.bool false,.int .i64 0,.bool false])) σ) (∃ u27 : UInt8,(0 : Int) ≤ 0 ∧ (ByteArray.data s0)[Int.toNat 0]? = some u27 ∧ Br ((((UInt8.toNat u27 : Nat) : Int) : Int) = 43) (AN (0 + 1) ∧ Tv R s0 0 0 false false false (0 + 1) false false σ) (Br ((((UInt8.toNat u27 : Nat) : Int) : Int) = 45) (AN (0 + 1) ∧ Tv R s0 0 0 true false false (0 + 1) false false σ) (Tv R s0 0 0 false false false 0 false false σ)))) : Spec prog 272 #[.string s0] σ R := M.start h ok
theorem Qe (h : AN (x7 + 2) ∧ Br (((x7 + 2) : Int) < ((ByteArray.size s0 : Nat) : Int)) (∃ u44 : UInt8,0 ≤ x7 ∧ (ByteArray.data s0)[Int.toNat x7]? = some u44 ∧ Br ((((UInt8.toNat u44 : Nat) : Int) : Int) = 48) (AN (x7 + 1) ∧ ∃ u51 : UInt8,(0 : Int) ≤ (x7 + 1) ∧ (ByteArray.data s0)[Int.toNat (x7 + 1)]? = some u51 ∧ Spec prog 302 #[(.int .u8 ((UInt8.toNat u51 : Nat) : Int))] σ (AA R (CI .u8 fun tL y => Br (tL = 120) (AN (x7 + 2) ∧ Lw R s0 x2 x3 t4 t5 true (x7 + 2) t8 t9 16 16 112 y) (Lw R s0 x2 x3 t4 t5 t6 x7 t8 t9 10 19 101 y)))) (Lw R s0 x2 x3 t4 t5 t6 x7 t8 t9 10 19 101 σ)) (Lw R s0 x2 x3 t4 t5 t6 x7 t8 t9 10 19 101 σ)) : Tv R s0 x2 x3 t4 t5 t6 x7 t8 t9 σ := M.of h ok rfl
theorem I7 (h : mr R s0 x2 x3 t4 t5 t6 x7 t8 t9 x10 x11 x12 false false 0 0 0 σ) : Lw R s0 x2 x3 t4 t5 t6 x7 t8 t9 x10 x11 x12 σ := M.of h ok rfl
theorem eh (h : Br (x7 < ((ByteArray.size s0 : Nat) : Int)) (∃ Z2 : UInt8,0 ≤ x7 ∧ (ByteArray.data s0)[Int.toNat x7]? = some Z2 ∧ Br ((((UInt8.toNat Z2 : Nat) : Int) : Int) = 95) (Fs R s0 x2 x3 t4 t5 t6 x7 t8 true x10 x11 x12 t13 t14 x15 x16 x17 σ) (Br ((((UInt8.toNat Z2 : Nat) : Int) : Int) = 46) (Bo t13 (Na R s0 x2 x3 t4 t5 t6 x7 t8 t9 x10 x12 true t14 x15 x16 x17 σ) (Fs R s0 x2 x3 t4 t5 t6 x7 t8 t9 x10 x11 x12 true t14 x15 x16 x15 σ)) (Br ((48 : Int) ≤ ((UInt8.toNat Z2 : Nat) : Int)) (Br ((((UInt8.toNat Z2 : Nat) : Int) : Int) ≤ 57) (Br ((((UInt8.toNat Z2 : Nat) : Int) : Int) = 48) (Br (x15 = 0) (AN (x17 - 1) ∧ Fs R s0 x2 x3 t4 t5 t6 x7 t8 t9 x10 x11 x12 t13 true x15 x16 (x17 - 1) σ) (AN (x15 + 1) ∧ Br (x16 < x11) (Df (IntKind.u64.wrap (x2 * x10)) fun x99 => Df (IntKind.u8.wrap (((UInt8.toNat Z2 : Nat) : Int) - 48)) fun iC => Df (IntKind.u64.wrap iC) fun iD => Df (IntKind.u64.wrap (x99 + iD)) fun ba => AN (x16 + 1) ∧ Fs R s0 ba x3 t4 t5 t6 x7 t8 t9 x10 x11 x12 t13 true (x15 + 1) (x16 + 1) x17 σ) (Br ((((UInt8.toNat Z2 : Nat) : Int) : Int) ≠ 48) (Fs R s0 x2 x3 t4 true t6 x7 t8 t9 x10 x11 x12 t13 true (x15 + 1) x16 x17 σ) (Fs R s0 x2 x3 t4 t5 t6 x7 t8 t9 x10 x11 x12 t13 true (x15 + 1) x16 x17 σ)))) (AN (x15 + 1) ∧ Br (x16 < x11) (Df (IntKind.u64.wrap (x2 * x10)) fun x99 => Df (IntKind.u8.wrap (((UInt8.toNat Z2 : Nat) : Int) - 48)) fun iC => Df (IntKind.u64.wrap iC) fun iD => Df (IntKind.u64.wrap (x99 + iD)) fun ba => AN (x16 + 1) ∧ Fs R s0 ba x3 t4 t5 t6 x7 t8 t9 x10 x11 x12 t13 true (x15 + 1) (x16 + 1) x17 σ) (Br ((((UInt8.toNat Z2 : Nat) : Int) : Int) ≠ 48) (Fs R s0 x2 x3 t4 true t6 x7 t8 t9 x10 x11 x12 t13 true (x15 + 1) x16 x17 σ) (Fs R s0 x2 x3 t4 t5 t6 x7 t8 t9 x10 x11 x12 t13 true (x15 + 1) x16 x17 σ)))) (Br (x10 = 16) (Spec prog 302 #[(.int .u8 ((UInt8.toNat Z2 : Nat) : Int))] σ (AA R (CI .u8 fun AAv y => Br (97 ≤ AAv) (Spec prog 302 #[(.int .u8 ((UInt8.toNat Z2 : Nat) : Int))] y (AA R (CI .u8 fun AAw AF => Br (AAw ≤ 102) (AN (x15 + 1) ∧ Br (x16 < x11) (Df (IntKind.u64.wrap (x2 * 16)) fun AAx => Spec prog 302 #[(.int .u8 ((UInt8.toNat Z2 : Nat) : Int))] AF (AA R (CI .u8 fun AAy AH => Df (IntKind.u8.wrap (AAy - 97)) fun AAz => Df (IntKind.u8.wrap (AAz + 10)) fun AA0 => Df (IntKind.u64.wrap AA0) fun AA1 => Df (IntKind.u64.wrap (AAx + AA1)) fun AA2 => AN (x16 + 1) ∧ Fs R s0 AA2 x3 t4 t5 t6 x7 t8 t9 x10 x11 x12 t13 true (x15 + 1) (x16 + 1) x17 AH))) (Fs R s0 x2 x3 t4 true t6 x7 t8 t9 x10 x11 x12 t13 true (x15 + 1) x16 x17 AF)) (Na R s0 x2 x3 t4 t5 t6 x7 t8 t9 x10 x12 t13 t14 x15 x16 x17 AF)))) (Na R s0 x2 x3 t4 t5 t6 x7 t8 t9 x10 x12 t13 t14 x15 x16 x17 y)))) (Na R s0 x2 x3 t4 t5 t6 x7 t8 t9 x10 x12 t13 t14 x15 x16 x17 σ))) (Br (x10 = 16) (Spec prog 302 #[(.int .u8 ((UInt8.toNat Z2 : Nat) : Int))] σ (AA R (CI .u8 fun AAv y => Br (97 ≤ AAv) (Spec prog 302 #[(.int .u8 ((UInt8.toNat Z2 : Nat) : Int))] y (AA R (CI .u8 fun AAw AF => Br (AAw ≤ 102) (AN (x15 + 1) ∧ Br (x16 < x11) (Df (IntKind.u64.wrap (x2 * 16)) fun AAx => Spec prog 302 #[(.int .u8 ((UInt8.toNat Z2 : Nat) : Int))] AF (AA R (CI .u8 fun AAy AH => Df (IntKind.u8.wrap (AAy - 97)) fun AAz => Df (IntKind.u8.wrap (AAz + 10)) fun AA0 => Df (IntKind.u64.wrap AA0) fun AA1 => Df (IntKind.u64.wrap (AAx + AA1)) fun AA2 => AN (x16 + 1) ∧ Fs R s0 AA2 x3 t4 t5 t6 x7 t8 t9 x10 x11 x12 t13 true (x15 + 1) (x16 + 1) x17 AH))) (Fs R s0 x2 x3 t4 true t6 x7 t8 t9 x10 x11 x12 t13 true (x15 + 1) x16 x17 AF)) (Na R s0 x2 x3 t4 t5 t6 x7 t8 t9 x10 x12 t13 t14 x15 x16 x17 AF)))) (Na R s0 x2 x3 t4 t5 t6 x7 t8 t9 x10 x12 t13 t14 x15 x16 x17 y)))) (Na R s0 x2 x3 t4 t5 t6 x7 t8 t9 x10 x12 t13 t14 x15 x16 x17 σ))))) (Na R s0 x2 x3 t4 t5 t6 x7 t8 t9 x10 x12 t13 t14 x15 x16 x17 σ)) : mr R s0 x2 x3 t4 t5 t6 x7 t8 t9 x10 x11 x12 t13 t14 x15 x16 x17 σ := M.of h ok rfl
theorem nE (h : Bn t14 (R (.returned (.tuple #[.int .u64 x2,.int .i64 x3,.bool t4,.bool t5,.bool t6,.int .i64 x7,.bool t8])) σ) (Bn t13 (ed R s0 x2 x3 t4 t5 t6 x7 t8 t9 x10 x12 x16 x15 σ) (ed R s0 x2 x3 t4 t5 t6 x7 t8 t9 x10 x12 x16 x17 σ))) : Na R s0 x2 x3 t4 t5 t6 x7 t8 t9 x10 x12 t13 t14 x15 x16 x17 σ := M.of h ok rfl
theorem nF (h : Br (x10 = 16) (AN (x17 * 4) ∧ AN (x16 * 4) ∧ mu R s0 x2 x3 t4 t5 t6 x7 t8 t9 x10 x12 (x16 * 4) (x17 * 4) σ) (mu R s0 x2 x3 t4 t5 t6 x7 t8 t9 x10 x12 x16 x17 σ)) : ed R s0 x2 x3 t4 t5 t6 x7 t8 t9 x10 x12 x16 x17 σ := M.of h ok rfl
theorem nG (h : Br (x7 < ((ByteArray.size s0 : Nat) : Int)) (∃ AGL : UInt8,0 ≤ x7 ∧ (ByteArray.data s0)[Int.toNat x7]? = some AGL ∧ Spec prog 302 #[(.int .u8 ((UInt8.toNat AGL : Nat) : Int))] σ (AA R (CI .u8 fun AMo y => Br (AMo = x12) (AN (x7 + 1) ∧ Br ((((ByteArray.size s0 : Nat) : Int) : Int) ≤ (x7 + 1)) (R (.returned (.tuple #[.int .u64 x2,.int .i64 x3,.bool t4,.bool t5,.bool t6,(.int .i64 (x7 + 1)),.bool t8])) y) (∃ AA3 : UInt8,(0 : Int) ≤ (x7 + 1) ∧ (ByteArray.data s0)[Int.toNat (x7 + 1)]? = some AA3 ∧ Br ((((UInt8.toNat AA3 : Nat) : Int) : Int) = 43) (AN ((x7 + 1) + 1) ∧ nB R s0 x2 x3 t4 t5 t6 (((x7 + 1) + 1)) t8 t9 x16 x17 1 y) (Br ((((UInt8.toNat AA3 : Nat) : Int) : Int) = 45) (AN ((x7 + 1) + 1) ∧ nB R s0 x2 x3 t4 t5 t6 (((x7 + 1) + 1)) t8 t9 x16 x17 (-1) y) (nB R s0 x2 x3 t4 t5 t6 (x7 + 1) t8 t9 x16 x17 1 y)))) (Br (x10 = 16) (R (.returned (.tuple #[.int .u64 x2,.int .i64 x3,.bool t4,.bool t5,.bool t6,.int .i64 x7,.bool t8])) y) (mw R s0 x2 x3 t4 t5 t6 x7 t8 t9 x16 x17 y))))) (Br (x10 = 16) (R (.returned (.tuple #[.int .u64 x2,.int .i64 x3,.bool t4,.bool t5,.bool t6,.int .i64 x7,.bool t8])) σ) (mw R s0 x2 x3 t4 t5 t6 x7 t8 t9 x16 x17 σ))) : mu R s0 x2 x3 t4 t5 t6 x7 t8 t9 x10 x12 x16 x17 σ := M.of h ok rfl
theorem nH (h : Br (x2 ≠ 0) (AN (x17 - x16) ∧ mz R s0 x2 (x17 - x16) t4 t5 t6 x7 t8 t9 σ) (mz R s0 x2 x3 t4 t5 t6 x7 t8 t9 σ)) : mw R s0 x2 x3 t4 t5 t6 x7 t8 t9 x16 x17 σ := M.of h ok rfl
theorem Yr (h : Bo t9 (∃ AGM,YF prog (Instr.sliceAt 9 (.string s0) none (some (.int .i64 x7)) none) σ (.string AGM) ∧ Spec prog 303 #[.string AGM] σ (AA R (CB fun t250 y => Bn t250 (R (.returned (.tuple #[.int .u64 x2,.int .i64 x3,.bool t4,.bool t5,.bool t6,.int .i64 x7,.bool t8])) y) (R (.returned (.tuple #[.int .u64 x2,.int .i64 x3,.bool t4,.bool t5,.bool t6,.int .i64 x7,.bool true])) y)))) (R (.returned (.tuple #[.int .u64 x2,.int .i64 x3,.bool t4,.bool t5,.bool t6,.int .i64 x7,.bool true])) σ)) : mz R s0 x2 x3 t4 t5 t6 x7 t8 t9 σ := M.of h ok rfl
theorem nI (h : AN (x7 + 1) ∧ mr R s0 x2 x3 t4 t5 t6 (x7 + 1) t8 t9 x10 x11 x12 t13 t14 x15 x16 x17 σ) : Fs R s0 x2 x3 t4 t5 t6 x7 t8 t9 x10 x11 x12 t13 t14 x15 x16 x17 σ := M.of h ok rfl
end AE
namespace G2
variable {s0 : ByteArray} {t4 : Bool}
def M : Fw := ⟨prog,295,f295,[133,267,268],[],false,[],[],[(53,[(0,wT),(4,wB)])]⟩
theorem ok : M.Ok := ⟨.cons call133 (.cons call267 (.cons call268 (AG.nil))),mixed,func295,by kernel_rfl⟩
def QC := M.pt 0
theorem start (h : Bo ((ByteArray.toList s0 == ByteArray.toList (ByteArray.mk #[111,114]))) (QC R s0 true σ) (Bo ((ByteArray.toList s0 == ByteArray.toList (ByteArray.mk #[97,110,100]))) (QC R s0 true σ) (Bo ((ByteArray.toList s0 == ByteArray.toList (ByteArray.mk #[117,110,108,101,115,115]))) (QC R s0 true σ) (Bo ((ByteArray.toList s0 == ByteArray.toList (ByteArray.mk #[98,111,111,108]))) (QC R s0 true σ) (Bo ((ByteArray.toList s0 == ByteArray.toList (ByteArray.mk #[111,110]))) (QC R s0 true σ) (Bo ((ByteArray.toList s0 == ByteArray.toList (ByteArray.mk #[105,103,110,111,114,105,110,103]))) (QC R s0 true σ) (Bo ((ByteArray.toList s0 == ByteArray.toList (ByteArray.mk #[98,121]))) (QC R s0 true σ) (Bo ((ByteArray.toList s0 == ByteArray.toList (ByteArray.mk #[119,105,116,104,111,117,116]))) (QC R s0 true σ) (QC R s0 ((ByteArray.toList s0 == ByteArray.toList (ByteArray.mk #[111,102,102,115,101,116]))) σ))))))))) : Spec prog 295 #[.string s0] σ R := M.start h ok
theorem th (h : Bo t4 (R (.returned (.bool true)) σ) (Spec prog 267 #[] σ (AA R (CS fun Hu n14 Ge y => Spec prog 133 #[.slice Hu n14 Ge,.string s0] y (AA R (CI .i64 fun x16 AF => Br (0 < x16) (R (.returned (.bool true)) AF) (Spec prog 268 #[] AF (AA R (CS fun p19 n19 c19 AH => Spec prog 133 #[.slice p19 n19 c19,.string s0] AH (AA R (CI .i64 fun bR Ab => R (.returned (.bool (decide (0 < bR)))) Ab))))))))))) : QC R s0 t4 σ := M.of h ok rfl
end G2
namespace IK
variable {q0 q1 : Option Addr} {tS x3a x3b x3d : Int} {s2b s2c s3c : ByteArray}
def M : Fw := ⟨prog,296,f296,[80,97],[6,7],false,[(1,10,false)],[],[]⟩
theorem ok : M.Ok := ⟨.cons call80 (.cons call97 (AG.nil)),mixed,func296,by kernel_rfl⟩
theorem start (h : ∀ b6 : Nat,∀ b7 : Nat,Pq q1 fun Cb iB => LS σ Cb (iB + 3) fun Wr n12 Vu => Al σ fun BL => AJ prog (Builtin.append_ #[33,33] 33 #[.slice Wr n12 Vu,(.slice (aD BL 0) 1 1)]) (Hp.set σ BL (.cells #[.int .i64 tS,.string s2b,.string s2c] 77 (0,0))) (CS fun eO n15 Xq y => AJ prog (Instr.storeAt 33 (.pointer (aD Cb (iB + 3))) (.slice eO n15 Xq)) y (fun _ AF => LS AF Cb (iB + 3) fun NI n21 Lr => Spec prog 80 #[.slice NI n21 Lr] AF (AA R (CI .i64 fun JX AH => Br (JX ≠ 0) (Spec prog 97 #[.pointer q0,.int .i64 183,.agg #[.int .i64 x3a,.int .i64 x3b,.string s3c,.int .i64 x3d]] AH (AA R (fun z Ab => z = (.tuple #[]) ∧ R (.returned (.tuple #[])) Ab))) (R (.returned (.tuple #[])) AH)))))) : Spec prog 296 #[.pointer q0,.pointer q1,.agg #[.int .i64 tS,.string s2b,.string s2c],.agg #[.int .i64 x3a,.int .i64 x3b,.string s3c,.int .i64 x3d]] σ R := M.start h ok
end IK
end TwW
end
end
section
set_option maxRecDepth 100000
noncomputable section
namespace TwW
open Go Tw Go.Proofs.Tryz
variable [Ey] {R : Rr} {σ : Hp}

namespace AV
variable {p0 p9 Wr Hu Wl rH p20 QX : Option Addr} {n0 c0 n9 c9 n12 Vu n14 Ge n16 To n18 rI n20 c20 n22 PJ : Nat} {x1 x10 Vj x11 : Int} {s2 s3 : ByteArray} {v26 v27 v28 : Value}
def M : Fw := ⟨prog,9,f9,[13,14,18,19,20,23,25,27],[],false,[(10,20,false)],[],[(976,[(1,wI),(2,wT),(3,wT),(9,wL),(10,wI)]),(2097104,[(12,wL),(14,wL),(16,wL),(18,wL),(20,wL),(22,wL),(26,wV),(27,wV),(28,wV),(29,wI)]),(62608,[(1,wI),(2,wT),(3,wT),(9,wL),(10,wI),(11,wI)])]⟩
theorem ok : M.Ok := ⟨.cons call13 (.cons call14 (.cons call18 (.cons call19 (.cons call20 (.cons call23 (.cons call25 (.cons call27 (AG.nil)))))))),mixed,func9,by kernel_rfl⟩
def QB := M.pt 0
def bc := M.pt 1
def FJ := M.pt 2
theorem start (h : Spec prog 19 #[.string s2] σ (AA R (CB fun t31 y => Bn t31 (Spec prog 14 #[] y (AA R (CB fun t41 AF => R (.returned (.bool t41)) AF))) (Bn ((ByteArray.toList s3 == ByteArray.toList (ByteArray.mk #[97]))) (Bn ((ByteArray.toList s3 == ByteArray.toList (ByteArray.mk #[98]))) (Spec prog 14 #[] y (AA R (CB fun t41 AF => R (.returned (.bool t41)) AF))) (Spec prog 13 #[.slice p0 n0 c0] y (AA R (CS fun Wp n43 Wq AF => QB R x1 s2 s3 Wp n43 Wq 0 AF)))) (Spec prog 13 #[.slice p0 n0 c0] y (AA R (CS fun Wp n43 Wq AF => QB R x1 s2 s3 Wp n43 Wq 0 AF))))))) : Spec prog 9 #[.slice p0 n0 c0,.int .i64 x1,.string s2,.string s3] σ R := M.start h ok
theorem Qd (h : Br (x10 < (n9 : Int)) (FJ R x1 s2 s3 p9 n9 c9 x10 0 σ) ((ByteArray.size (ByteArray.mk #[115,117,109,32,98,121,32,40]) + ByteArray.size s3 ≤ 9223372036854775807) ∧ (ByteArray.size ((ByteArray.mk #[115,117,109,32,98,121,32,40]) ++ s3) + ByteArray.size (ByteArray.mk #[41,32,40]) ≤ 9223372036854775807) ∧ (ByteArray.size (((ByteArray.mk #[115,117,109,32,98,121,32,40]) ++ s3) ++ (ByteArray.mk #[41,32,40])) + ByteArray.size s2 ≤ 9223372036854775807) ∧ (ByteArray.size ((((ByteArray.mk #[115,117,109,32,98,121,32,40]) ++ s3) ++ (ByteArray.mk #[41,32,40])) ++ s2) + ByteArray.size (ByteArray.mk #[41]) ≤ 9223372036854775807) ∧ Spec prog 20 #[(.string (((((ByteArray.mk #[115,117,109,32,98,121,32,40]) ++ s3) ++ (ByteArray.mk #[41,32,40])) ++ s2) ++ (ByteArray.mk #[41]))),.slice p9 n9 c9,.int .i64 x1] σ (AA R (fun z y => ∃ AA4 bd AA5 Ys,z = (.tuple #[.slice AA4 bd AA5,.int .i64 Ys]) ∧ (ByteArray.size (ByteArray.mk #[115,117,109,40]) + ByteArray.size s2 ≤ 9223372036854775807) ∧ (ByteArray.size ((ByteArray.mk #[115,117,109,40]) ++ s2) + ByteArray.size (ByteArray.mk #[41]) ≤ 9223372036854775807) ∧ Spec prog 20 #[(.string (((ByteArray.mk #[115,117,109,40]) ++ s2) ++ (ByteArray.mk #[41]))),.slice p9 n9 c9,.int .i64 x1] y (AA R (fun z AF => ∃ ti Yt tj AA6,z = (.tuple #[.slice ti Yt tj,.int .i64 AA6]) ∧ (ByteArray.size (ByteArray.mk #[99,111,117,110,116,32,98,121,32,40]) + ByteArray.size s3 ≤ 9223372036854775807) ∧ (ByteArray.size ((ByteArray.mk #[99,111,117,110,116,32,98,121,32,40]) ++ s3) + ByteArray.size (ByteArray.mk #[41,32,40]) ≤ 9223372036854775807) ∧ (ByteArray.size (((ByteArray.mk #[99,111,117,110,116,32,98,121,32,40]) ++ s3) ++ (ByteArray.mk #[41,32,40])) + ByteArray.size s2 ≤ 9223372036854775807) ∧ (ByteArray.size ((((ByteArray.mk #[99,111,117,110,116,32,98,121,32,40]) ++ s3) ++ (ByteArray.mk #[41,32,40])) ++ s2) + ByteArray.size (ByteArray.mk #[41]) ≤ 9223372036854775807) ∧ Spec prog 20 #[(.string (((((ByteArray.mk #[99,111,117,110,116,32,98,121,32,40]) ++ s3) ++ (ByteArray.mk #[41,32,40])) ++ s2) ++ (ByteArray.mk #[41]))),.slice p9 n9 c9,.int .i64 x1] AF (AA R (fun z AH => ∃ nJ ei nK nL,z = (.tuple #[.slice nJ ei nK,.int .i64 nL]) ∧ (ByteArray.size (ByteArray.mk #[99,111,117,110,116,40]) + ByteArray.size s2 ≤ 9223372036854775807) ∧ (ByteArray.size ((ByteArray.mk #[99,111,117,110,116,40]) ++ s2) + ByteArray.size (ByteArray.mk #[41]) ≤ 9223372036854775807) ∧ Spec prog 20 #[(.string (((ByteArray.mk #[99,111,117,110,116,40]) ++ s2) ++ (ByteArray.mk #[41]))),.slice p9 n9 c9,.int .i64 x1] AH (AA R (fun z Ab => ∃ nN ej nO nP,z = (.tuple #[.slice nN ej nO,.int .i64 nP]) ∧ (ByteArray.size (ByteArray.mk #[109,105,110,32,98,121,32,40]) + ByteArray.size s3 ≤ 9223372036854775807) ∧ (ByteArray.size ((ByteArray.mk #[109,105,110,32,98,121,32,40]) ++ s3) + ByteArray.size (ByteArray.mk #[41,32,40]) ≤ 9223372036854775807) ∧ (ByteArray.size (((ByteArray.mk #[109,105,110,32,98,121,32,40]) ++ s3) ++ (ByteArray.mk #[41,32,40])) + ByteArray.size s2 ≤ 9223372036854775807) ∧ (ByteArray.size ((((ByteArray.mk #[109,105,110,32,98,121,32,40]) ++ s3) ++ (ByteArray.mk #[41,32,40])) ++ s2) + ByteArray.size (ByteArray.mk #[41]) ≤ 9223372036854775807) ∧ Spec prog 20 #[(.string (((((ByteArray.mk #[109,105,110,32,98,121,32,40]) ++ s3) ++ (ByteArray.mk #[41,32,40])) ++ s2) ++ (ByteArray.mk #[41]))),.slice p9 n9 c9,.int .i64 x1] Ab (AA R (fun z DV => ∃ nQ ek nR nS,z = (.tuple #[.slice nQ ek nR,.int .i64 nS]) ∧ (ByteArray.size (ByteArray.mk #[109,105,110,40]) + ByteArray.size s2 ≤ 9223372036854775807) ∧ (ByteArray.size ((ByteArray.mk #[109,105,110,40]) ++ s2) + ByteArray.size (ByteArray.mk #[41]) ≤ 9223372036854775807) ∧ Spec prog 20 #[(.string (((ByteArray.mk #[109,105,110,40]) ++ s2) ++ (ByteArray.mk #[41]))),.slice p9 n9 c9,.int .i64 x1] DV (AA R (fun z Ex => ∃ nT eo nU nW,z = (.tuple #[.slice nT eo nU,.int .i64 nW]) ∧ (ByteArray.size (ByteArray.mk #[115,117,109,40,115,117,109,32,98,121,32,40]) + ByteArray.size s3 ≤ 9223372036854775807) ∧ (ByteArray.size ((ByteArray.mk #[115,117,109,40,115,117,109,32,98,121,32,40]) ++ s3) + ByteArray.size (ByteArray.mk #[41,32,40]) ≤ 9223372036854775807) ∧ (ByteArray.size (((ByteArray.mk #[115,117,109,40,115,117,109,32,98,121,32,40]) ++ s3) ++ (ByteArray.mk #[41,32,40])) + ByteArray.size s2 ≤ 9223372036854775807) ∧ (ByteArray.size ((((ByteArray.mk #[115,117,109,40,115,117,109,32,98,121,32,40]) ++ s3) ++ (ByteArray.mk #[41,32,40])) ++ s2) + ByteArray.size (ByteArray.mk #[41,41]) ≤ 9223372036854775807) ∧ Spec prog 20 #[(.string (((((ByteArray.mk #[115,117,109,40,115,117,109,32,98,121,32,40]) ++ s3) ++ (ByteArray.mk #[41,32,40])) ++ s2) ++ (ByteArray.mk #[41,41]))),.slice p9 n9 c9,.int .i64 x1] Ex (AA R (fun z D3 => ∃ xZ xd xe nZ,z = (.tuple #[.slice xZ xd xe,.int .i64 nZ]) ∧ Br (Ys ≠ 0) (Br (AA6 = Ys) (Br (nL = Ys) (Br (nP = Ys) (Br (nS = Ys) (Br (nW = Ys) (Br (nZ = Ys) (Spec prog 14 #[] D3 (AA R (CB fun t186 Hk => R (.returned (.bool t186)) Hk))) (R (.returned (.bool false)) D3)) (R (.returned (.bool false)) D3)) (R (.returned (.bool false)) D3)) (R (.returned (.bool false)) D3)) (R (.returned (.bool false)) D3)) (R (.returned (.bool false)) D3)) (Br (AA6 ≠ 0) (R (.returned (.bool false)) D3) (Br (nL ≠ 0) (R (.returned (.bool false)) D3) (Br (nP ≠ 0) (R (.returned (.bool false)) D3) (Br (nS ≠ 0) (R (.returned (.bool false)) D3) (Br (nW ≠ 0) (R (.returned (.bool false)) D3) (Br (nZ ≠ 0) (R (.returned (.bool false)) D3) (Spec prog 18 #[.slice xZ xd xe,.slice ti Yt tj] D3 (AA R (CB fun t213 Hk => Bn t213 (R (.returned (.bool false)) Hk) (Br ((ei : Int) ≠ (bd : Int)) (R (.returned (.bool false)) Hk) (Br ((ek : Int) ≠ (bd : Int)) (R (.returned (.bool false)) Hk) (Br (1 < (Yt : Int)) (R (.returned (.bool false)) Hk) (Br ((ej : Int) ≠ (Yt : Int)) (R (.returned (.bool false)) Hk) (Br ((eo : Int) ≠ (Yt : Int)) (R (.returned (.bool false)) Hk) (Br ((Yt : Int) = 0) (Br ((bd : Int) = 0) (Spec prog 27 #[.int .i64 1] Hk (AA R (fun z P4 => ∃ Yu,(Value.float .f64 Yu) = z ∧ bc R AA4 bd AA5 ti Yt tj nJ ei nK nN ej nO nQ ek nR nT eo nU (.float .f64 0) (.float .f64 0) (Value.float .f64 Yu) 0 P4))) (R (.returned (.bool false)) Hk)) (Br ((bd : Int) = 0) (R (.returned (.bool false)) Hk) (Spec prog 27 #[.int .i64 1] Hk (AA R (fun z P4 => ∃ Yu,(Value.float .f64 Yu) = z ∧ bc R AA4 bd AA5 ti Yt tj nJ ei nK nN ej nO nQ ek nR nT eo nU (.float .f64 0) (.float .f64 0) (Value.float .f64 Yu) 0 P4))))))))))))))))))))))))))))))))))) : QB R x1 s2 s3 p9 n9 c9 x10 σ := M.of h ok rfl
theorem et (h : Br (Vj < (n12 : Int)) (Pq Wr fun AA7 AA8 => In Vj (n12 : Int) ∧ LS σ AA7 ((AA8 + Int.toNat Vj * 2) + 1) fun ATC n269 ATD => Br ((n269 : Int) ≠ 1) (R (.returned (.bool false)) σ) (Pq Wl fun AA9 ABA => In Vj (n16 : Int) ∧ LS σ AA9 ((ABA + Int.toNat Vj * 2) + 1) fun ATE n277 ATF => Br ((n277 : Int) ≠ 1) (R (.returned (.bool false)) σ) (Pq p20 fun ABB ABC => In Vj (n20 : Int) ∧ LS σ ABB ((ABC + Int.toNat Vj * 2) + 1) fun ATG n286 ATH => Br ((n286 : Int) ≠ 1) (R (.returned (.bool false)) σ) (In Vj (n12 : Int) ∧ LS σ AA7 ((AA8 + Int.toNat Vj * 2) + 1) fun AMq n295 ATI => Pq AMq fun AMr AMs => In 0 (n295 : Int) ∧ LI .u64 σ AMr (AMs + 1) fun AMt => EN prog 22 #[.int .u64 AMt] σ (fun z y => ∃ AGN,(Value.float .f64 AGN) = z ∧ AJ prog (binOp .add 51 v26 (Value.float .f64 AGN)) y (fun z AF => ∃ AGO,(Value.float .f64 AGO) = z ∧ In Vj (n16 : Int) ∧ LS AF AA9 ((ABA + Int.toNat Vj * 2) + 1) fun AMu n306 ATJ => Pq AMu fun AMv AMw => In 0 (n306 : Int) ∧ LI .u64 AF AMv (AMw + 1) fun AMx => EN prog 22 #[.int .u64 AMx] AF (fun z AH => ∃ AGP,(Value.float .f64 AGP) = z ∧ AJ prog (binOp .add 51 v27 (Value.float .f64 AGP)) AH (fun z Ab => ∃ AGQ,(Value.float .f64 AGQ) = z ∧ In Vj (n20 : Int) ∧ LS Ab ABB ((ABC + Int.toNat Vj * 2) + 1) fun AMy n317 ATK => Pq AMy fun AMz AM0 => In 0 (n317 : Int) ∧ LI .u64 Ab AMz (AM0 + 1) fun AM1 => EN prog 22 #[.int .u64 AM1] Ab (fun z DV => ∃ AGR,(Value.float .f64 AGR) = z ∧ AJ prog (Builtin.min_ #[51,51] 51 #[v28,(Value.float .f64 AGR)]) DV (fun z Ex => ∃ AGS,(Value.float .f64 AGS) = z ∧ AN (Vj + 1) ∧ bc R (aD AA7 AA8) n12 Vu Hu n14 Ge (aD AA9 ABA) n16 To rH n18 rI (aD ABB ABC) n20 c20 QX n22 PJ (Value.float .f64 AGO) (Value.float .f64 AGQ) (Value.float .f64 AGS) (Vj + 1) Ex)))))))))) (Br ((n14 : Int) = 0) (Spec prog 14 #[] σ (AA R (CB fun t345 y => R (.returned (.bool t345)) y))) (Spec prog 25 #[v26] σ (AA R (CI .u64 fun AM2 y => Spec prog 23 #[.slice Hu n14 Ge,.int .u64 AM2] y (AA R (CB fun t330 AF => Bo t330 (Spec prog 25 #[v27] AF (AA R (CI .u64 fun AM3 AH => Spec prog 23 #[.slice rH n18 rI,.int .u64 AM3] AH (AA R (CB fun t335 Ab => Bo t335 (Spec prog 25 #[v28] Ab (AA R (CI .u64 fun AM4 DV => Spec prog 23 #[.slice QX n22 PJ,.int .u64 AM4] DV (AA R (CB fun t341 Ex => Bo t341 (Spec prog 14 #[] Ex (AA R (CB fun t345 D3 => R (.returned (.bool t345)) D3))) (R (.returned (.bool false)) Ex)))))) (R (.returned (.bool false)) Ab)))))) (R (.returned (.bool false)) AF)))))))) : bc R Wr n12 Vu Hu n14 Ge Wl n16 To rH n18 rI p20 n20 c20 QX n22 PJ v26 v27 v28 Vj σ := M.of h ok rfl
theorem FX (h : Pq p9 fun J6 o53 => In x10 (n9 : Int) ∧ LS σ J6 ((o53 + Int.toNat x10 * 2) + 1) fun p55 n55 c55 => Br (x11 < (n55 : Int)) (In x10 (n9 : Int) ∧ LS σ J6 ((o53 + Int.toNat x10 * 2) + 1) fun js gn lJ => In x10 (n9 : Int) ∧ LS σ J6 ((o53 + Int.toNat x10 * 2) + 1) fun p70 n70 c70 => Pq p70 fun b72 o72 => In x11 (n70 : Int) ∧ LI .u64 σ b72 ((o72 + Int.toNat x11 * 2) + 1) fun x74 => 1000 ≠ (0 : Int) ∧ Df (Int.tmod x74 1000) fun x75 => AJ prog (convert 48 51 (.int .u64 x75)) σ (fun z y => ∃ x76,(Value.float .f64 x76) = z ∧ Kp [J6] σ y ∧ Spec prog 25 #[(Value.float .f64 x76)] y (AA R (CI .u64 fun x77 AF => Kp [J6] y AF ∧ Pq js fun b78 o78 => In x11 (gn : Int) ∧ AJ prog (Instr.storeAt 48 (.pointer (aD b78 ((o78 + Int.toNat x11 * 2) + 1))) (.int .u64 x77)) AF (fun _ AH => AN (x11 + 1) ∧ FJ R x1 s2 s3 (aD J6 o53) n9 c9 x10 (x11 + 1) AH))))) (AN (x10 + 1) ∧ QB R x1 s2 s3 (aD J6 o53) n9 c9 (x10 + 1) σ)) : FJ R x1 s2 s3 p9 n9 c9 x10 x11 σ := M.of h ok rfl
end AV
namespace Ut
variable {x0 : Int}
def M : Fw := ⟨prog,29,f29,[],[],false,[],[],[]⟩
theorem ok : M.Ok := ⟨AG.nil,mixed,func29,by kernel_rfl⟩
theorem start (h : Br (((-1099511627776) : Int) ≤ x0) (R (.returned (.bool (decide (x0 ≤ 1099511627776)))) σ) (R (.returned (.bool false)) σ)) : Spec prog 29 #[.int .i64 x0] σ R := M.start h ok
end Ut
namespace CX
variable {p0 p1 : Option Addr} {n0 c0 n1 c1 : Nat} {x5 : Int}
def M : Fw := ⟨prog,36,f36,[],[],false,[(6,9,true)],[],[(464,[(0,wL),(1,wL),(5,wI)])]⟩
theorem ok : M.Ok := ⟨AG.nil,mixed,func36,by kernel_rfl⟩
def E1 := M.pt 0
theorem start (h : Br ((n0 : Int) ≠ (n1 : Int)) (R (.returned (.bool false)) σ) (E1 R p0 n0 c0 p1 n1 c1 0 σ)) : Spec prog 36 #[.slice p0 n0 c0,.slice p1 n1 c1] σ R := M.start h ok
theorem EW (h : Br (x5 < (n0 : Int)) (Pq p0 fun CR Wm => In x5 (n0 : Int) ∧ ∃ IF Vp,Au σ CR (Wm + Int.toNat x5 * 2) [.int .i64 IF,.int .u64 Vp] ∧ Pq p1 fun OB eF => In x5 (n1 : Int) ∧ ∃ iE V8,Au σ OB (eF + Int.toNat x5 * 2) [.int .i64 iE,.int .u64 V8] ∧ ∃ t25,YF prog ((do eqGuard .neq 50 (.tmp 20) (.tmp 24) (.agg #[.int .i64 IF,.int .u64 Vp]) (.agg #[.int .i64 iE,.int .u64 V8]); binOp .neq 50 (.agg #[.int .i64 IF,.int .u64 Vp]) (.agg #[.int .i64 iE,.int .u64 V8]))) σ (.bool t25) ∧ Bo t25 (R (.returned (.bool false)) σ) (AN (x5 + 1) ∧ E1 R (aD CR Wm) n0 c0 (aD OB eF) n1 c1 (x5 + 1) σ)) (R (.returned (.bool true)) σ)) : E1 R p0 n0 c0 p1 n1 c1 x5 σ := M.of h ok rfl
end CX
namespace CF
variable {v0 : Value} {b1 b2 b3 : Nat} {x5 : Int}
def M : Fw := ⟨prog,71,f71,[],[100000],false,[],[],[(48,[(0,wV),(2,wA),(3,wA),(5,wI)])]⟩
theorem ok : M.Ok := ⟨AG.nil,mixed,func71,by kernel_rfl⟩
def bU := M.pt 0
theorem start (h : LI .i64 σ b1 0 fun x6 => bU R v0 b2 b3 x6 σ) : Spec prog 71 #[v0,(.pointer (aD b1 0)),(.pointer (aD b2 0)),(.pointer (aD b3 0))] σ R := M.D6 h ok [(0,.o (.V v0)),(1,.o (.A b1)),(2,.o (.A b2)),(3,.o (.A b3))] rfl rfl (by kernel_rfl)
theorem Og (h : ∃ l9 : Nat,v0 = .func (.yield l9) #[] #[] ∧ H6 prog l9 #[.int .i64 x5] σ (AA R (CB fun t9 y => Bo t9 (LI .i64 y b2 0 fun x11 => LI .i64 y b3 0 fun x12 => AN (x12 - x5) ∧ Br (x11 ≤ (x12 - x5)) (LI .i64 y b2 0 fun Un => AN (x5 + Un) ∧ bU R v0 b2 b3 (x5 + Un) y) (R (.returned (.tuple #[])) y)) (R (.returned (.tuple #[])) y)))) : bU R v0 b2 b3 x5 σ := M.of h ok rfl
end CF
namespace Em
variable {p0 p3 Zy : Option Addr} {n0 c0 n3 c3 n10 Tu : Nat} {x11 x12 : Int}
def M : Fw := ⟨prog,72,f72,[107,108],[5],false,[],[],[(232,[(3,wL),(10,wL),(11,wI),(12,wI)])]⟩
theorem ok : M.Ok := ⟨.cons call107 (.cons call108 (AG.nil)),mixed,func72,by kernel_rfl⟩
def A8 := M.pt 0
theorem start (h : Df (IntKind.u64.wrap (n0 : Int)) fun x8 => Spec prog 107 #[.slice none 0 0,.int .u64 x8] σ (AA R (CS fun p9 n9 c9 y => A8 R p9 n9 c9 p0 n0 c0 (n0 : Int) 0 y))) : Spec prog 72 #[.slice p0 n0 c0] σ R := M.start h ok
theorem Aa (h : Br (x12 < x11) (Pq Zy fun BL ND => In x12 (n10 : Int) ∧ ∃ AGT AGU,Au σ BL (ND + Int.toNat x12 * 2) [.string AGT,.string AGU] ∧ ∀ b5 : Nat,Spec prog 108 #[.slice p3 n3 c3,.string AGT] σ (AA R (CS fun p19 n19 c19 y => Spec prog 108 #[.slice p19 n19 c19,.string AGU] y (AA R (CS fun QX n22 PJ AF => AN (x12 + 1) ∧ A8 R QX n22 PJ (aD BL ND) n10 Tu x11 (x12 + 1) AF))))) (R (.returned (.slice p3 n3 c3)) σ)) : A8 R p3 n3 c3 Zy n10 Tu x11 x12 σ := M.of h ok rfl
end Em
namespace G3
variable {p0 p6 : Option Addr} {n0 c0 n6 c6 : Nat} {x3 x7 x8 : Int}
def M : Fw := ⟨prog,77,f77,[],[],false,[],[],[(232,[(3,wI),(6,wL),(7,wI),(8,wI)])]⟩
theorem ok : M.Ok := ⟨AG.nil,mixed,func77,by kernel_rfl⟩
def A8 := M.pt 0
theorem start (h : A8 R 0 p0 n0 c0 (n0 : Int) 0 σ) : Spec prog 77 #[.slice p0 n0 c0] σ R := M.start h ok
theorem Aa (h : Br (x8 < x7) (Pq p6 fun Cb iB => In x8 (n6 : Int) ∧ LI .i64 σ Cb (iB + Int.toNat x8 * 1) fun x11 => Br (x11 ≠ x3) (R (.returned (.int .i64 x11)) σ) (AN (x8 + 1) ∧ A8 R x3 (aD Cb iB) n6 c6 x7 (x8 + 1) σ)) (R (.returned (.int .i64 x3)) σ)) : A8 R x3 p6 n6 c6 x7 x8 σ := M.of h ok rfl
end G3
namespace En
variable {q0 Dc Dn p2 : Option Addr} {DW CP DX Dd C1 CW : Int} {DY : ByteArray} {De Dg Dh Dp n2 c2 : Nat} {C2 : Bool}
def M : Fw := ⟨prog,85,f85,[],[4],false,[],[],[]⟩
theorem ok : M.Ok := ⟨AG.nil,mixed,func85,by kernel_rfl⟩
theorem start (h : ∀ b4 : Nat,Pq p2 fun b9 o9 => In 0 (n2 : Int) ∧ LI .i64 σ b9 o9 fun x11 => Br (x11 = 3) (R (.returned (.tuple #[.int .i64 0,.int .i64 191])) σ) (In 0 (n2 : Int) ∧ LI .i64 σ b9 o9 fun x16 => R (.returned (.tuple #[.int .i64 x16,.int .i64 0])) σ)) : Spec prog 85 #[.pointer q0,.agg #[.int .i64 DW,.int .i64 CP,.string DY,.slice Dc De Dg,.int .i64 DX,.int .i64 Dd,.int .i64 C1,.slice Dn Dh Dp,.bool C2,.int .i64 CW],.slice p2 n2 c2] σ R := M.start h ok
end En
namespace Sc
variable {s0 : ByteArray}
def M : Fw := ⟨prog,94,f94,[131,132],[],false,[],[],[]⟩
theorem ok : M.Ok := ⟨.cons call131 (.cons call132 (AG.nil)),mixed,func94,by kernel_rfl⟩
theorem start (h : Spec prog 131 #[.string s0] σ (AA R (CI .i64 fun x6 y => Br (x6 = 0) (R (.returned (.bool false)) y) (∃ s12,YF prog (Instr.sliceAt 9 (.string s0) none (some (.int .i64 x6)) none) y (.string s12) ∧ Spec prog 132 #[.string s12] y (AA R (CB fun t13 AF => Bo t13 (R (.returned (.bool false)) AF) (Br (x6 = ((ByteArray.size s0 : Nat) : Int)) (R (.returned (.bool (decide (x6 ≤ 15)))) AF) (AN (x6 + 1) ∧ ∃ s24,YF prog (Instr.sliceAt 9 (.string s0) (some (.int .i64 (x6 + 1))) none none) AF (.string s24) ∧ Spec prog 131 #[.string s24] AF (AA R (CI .i64 fun Te AH => ∃ u28 : UInt8,0 ≤ x6 ∧ (ByteArray.data s0)[Int.toNat x6]? = some u28 ∧ Br ((((UInt8.toNat u28 : Nat) : Int) : Int) = 46) (Br (0 < Te) (AN (x6 + 1) ∧ AN ((x6 + 1) + Te) ∧ Br ((((x6 + 1) + Te) : Int) = ((ByteArray.size s0 : Nat) : Int)) (AN (x6 + Te) ∧ R (.returned (.bool (decide (((x6 + Te) : Int) ≤ 15)))) AH) (R (.returned (.bool false)) AH)) (R (.returned (.bool false)) AH)) (R (.returned (.bool false)) AH))))))))))) : Spec prog 94 #[.string s0] σ R := M.start h ok
end Sc
namespace AO
variable {q0 Dc Dn p2 Gg Hv HH F7 p9 QX eO p79 YY Wr q13 : Option Addr} {DW CP DX Dd C1 CW F2 Ff Hw GL Hx Ie F5 F6 D9 JO x80 x81 P8 : Int} {DY HU : ByteArray} {De Dg Dh Dp n2 c2 Gh Gi Hy Hz HI HJ GC GD n9 c9 n22 PJ n15 Xq n79 c79 YZ Ya n12 Vu : Nat} {C2 Ig : Bool} {m8 : Option Nat} {rV : Value}
def M : Fw := ⟨prog,104,f104,[49,146,148,149,150],[4,6,11],false,[(17,11,false)],[],[(488,[(4,.X 36 [.I .i64,.I .i64,.T,.L,.I .i64,.I .i64,.I .i64,.L,.B,.I .i64]),(6,.X 93 [.I .i64,.I .u64,.L,.L]),(8,wM),(9,wL),(22,wL),(23,wI),(24,wI)]),(4072,[(6,.X 93 [.I .i64,.I .u64,.L,.L]),(14,wV),(15,wL),(79,wL),(80,wI),(81,wI)]),(62670,[(4,.X 36 [.I .i64,.I .i64,.T,.L,.I .i64,.I .i64,.I .i64,.L,.B,.I .i64]),(6,.X 93 [.I .i64,.I .u64,.L,.L]),(8,wM),(9,wL),(11,.X 71 [.L,.I .u64]),(12,wL),(22,wL),(23,wI),(24,wI)]),(125343,[(4,.X 36 [.I .i64,.I .i64,.T,.L,.I .i64,.I .i64,.I .i64,.L,.B,.I .i64]),(6,.X 93 [.I .i64,.I .u64,.L,.L]),(8,wM),(9,wL),(11,.X 71 [.L,.I .u64]),(13,wQ),(22,wL),(23,wI),(24,wI)])]⟩
theorem ok : M.Ok := ⟨.cons call49 (.cons call146 (.cons call148 (.cons call149 (.cons call150 (AG.nil))))),mixed,func104,by kernel_rfl⟩
def E6 := M.pt 0
def tq := M.pt 1
def Js := M.pt 2
def na := M.pt 3
theorem start (h : ∀ b4 : Nat,∀ b6 : Nat,AJ prog (Instr.makeMap 197 none) σ (fun z y => ∃ m18,z = (.map (some m18)) ∧ Pq p2 fun YM o20 => In 0 (n2 : Int) ∧ LS y YM (o20 + 2) fun QX n22 PJ => E6 R DW CP DY Dc De Dg DX Dd C1 Dn Dh Dp C2 CW 0 0 none 0 0 none 0 0 (some m18) none 0 0 QX n22 PJ (n22 : Int) 0 y)) : Spec prog 104 #[.pointer q0,.agg #[.int .i64 DW,.int .i64 CP,.string DY,.slice Dc De Dg,.int .i64 DX,.int .i64 Dd,.int .i64 C1,.slice Dn Dh Dp,.bool C2,.int .i64 CW],.slice p2 n2 c2] σ R := M.start h ok
theorem FY (h : Br (JO < D9) (Pq QX fun jv rU => In JO (n22 : Int) ∧ ∃ Mh Lu Mi YA,Au σ jv (rU + Int.toNat JO * 2) [.slice Mh Lu Mi,.int .u64 YA] ∧ ∀ BF : Nat,Br (Hx = 1) (Spec prog 149 #[.slice Mh Lu Mi,.slice Hv Hy Hz] σ (AA R (CS fun p36 n36 c36 y => Js R F2 Ff HU Gg Gh Gi Hw GL Hx Hv Hy Hz Ig Ie F5 F6 HH HI HJ F7 GC GD m8 p9 n9 c9 Mh Lu Mi YA p36 n36 c36 (aD jv rU) n22 PJ D9 JO y))) (Br (Hx = 2) (Spec prog 150 #[.slice Mh Lu Mi,.slice Hv Hy Hz] σ (AA R (CS fun Wp n43 Wq y => Spec prog 146 #[.slice Wp n43 Wq] y (AA R (CS fun zu n44 zv AF => Js R F2 Ff HU Gg Gh Gi Hw GL Hx Hv Hy Hz Ig Ie F5 F6 HH HI HJ F7 GC GD m8 p9 n9 c9 Mh Lu Mi YA zu n44 zv (aD jv rU) n22 PJ D9 JO AF))))) (Js R F2 Ff HU Gg Gh Gi Hw GL Hx Hv Hy Hz Ig Ie F5 F6 HH HI HJ F7 GC GD m8 p9 n9 c9 Mh Lu Mi YA none 0 0 (aD jv rU) n22 PJ D9 JO σ))) (AJ prog (Instr.makeMap 202 none) σ (fun z y => ∃ bH,z = (.map (some bH)) ∧ AJ prog (Instr.mapUpdate 202 (.map (some bH)) (.int .i64 1) (.func (.func 151) #[] #[])) y (fun _ AF => AJ prog (Instr.mapUpdate 202 (.map (some bH)) (.int .i64 2) (.func (.func 152) #[] #[])) AF (fun _ AH => AJ prog (Instr.mapUpdate 202 (.map (some bH)) (.int .i64 3) (.func (.func 153) #[] #[])) AH (fun _ Ab => AJ prog (Instr.mapUpdate 202 (.map (some bH)) (.int .i64 4) (.func (.func 154) #[] #[])) Ab (fun _ DV => AJ prog (Instr.mapUpdate 202 (.map (some bH)) (.int .i64 5) (.func (.func 155) #[] #[])) DV (fun _ Ex => AJ prog (Instr.lookup 202 (.map (some bH)) (.int .i64 Ff) false) Ex (fun z D3 => ∃ v78,v78 = z ∧ tq R F5 F6 HH HI HJ F7 GC GD v78 none 0 0 p9 n9 c9 (n9 : Int) 0 D3))))))))) : E6 R F2 Ff HU Gg Gh Gi Hw GL Hx Hv Hy Hz Ig Ie F5 F6 HH HI HJ F7 GC GD m8 p9 n9 c9 QX n22 PJ D9 JO σ := M.gU h ok rfl fun _ _ => by kernel_rfl
theorem eu (h : Br (x81 < x80) (Pq p79 fun b83 o83 => In x81 (n79 : Int) ∧ LQ σ b83 (o83 + Int.toNat x81 * 1) fun q84 => Pq q84 fun b87 o87 => LS σ b87 o87 fun p89 n89 c89 => LS σ b87 (o87 + 1) fun sa sb sd => ∃ (f95 : Nat) (Yv Yw : Array Value),rV = .func (.func f95) Yv Yw ∧ Enters prog f95 ∧ Spec prog f95 (Yv ++ #[.slice sa sb sd] ++ Yw) σ (AA R (CI .u64 fun x95 y => Kp [b87] σ y ∧ Al y fun b97 => AJ prog (Builtin.append_ #[67,67] 67 #[.slice eO n15 Xq,(.slice (aD b97 0) 1 1)]) (Hp.set y b97 (.cells #[.slice p89 n89 c89,.int .u64 x95] 71 (0,0))) (CS fun p98 n98 c98 AF => AN (x81 + 1) ∧ tq R F5 F6 HH HI HJ F7 GC GD rV p98 n98 c98 (aD b83 o83) n79 c79 x80 (x81 + 1) AF)))) (Spec prog 148 #[.slice eO n15 Xq] σ (AA R (fun z y => ∃ ng nh ni nj nk nq nr nu xf,z = (.tuple #[.agg #[.int .i64 ng,.int .u64 nh,.slice ni nj nk,.slice nq nr nu],.int .i64 xf]) ∧ R (.returned (.tuple #[.agg #[.int .i64 ng,.int .u64 nh,.slice ni nj nk,.slice nq nr nu],.int .i64 xf])) y)))) : tq R F5 F6 HH HI HJ F7 GC GD rV eO n15 Xq p79 n79 c79 x80 x81 σ := M.jj h ok rfl fun _ => by kernel_rfl
theorem LY (h : Spec prog 49 #[.slice Wr n12 Vu] σ (AA R (CT fun s47 y => AJ prog (Instr.lookup 197 (.map m8) (.string s47) false) y (CQ fun q48 AF => Bo (Option.isNone q48) (Al AF fun J6 => Spec prog 49 #[.slice Wr n12 Vu] (Hp.set AF J6 (.cells #[.slice Wr n12 Vu,.slice none 0 0] 189 (0,0))) (AA R (CT fun s56 AH => AJ prog (Instr.mapUpdate 197 (.map m8) (.string s56) (.pointer (aD J6 0))) AH (fun _ Ab => Al Ab fun b60 => AJ prog (Builtin.append_ #[198,198] 198 #[.slice p9 n9 c9,(.slice (aD b60 0) 1 1)]) (Hp.set Ab b60 (.cells #[(.pointer (aD J6 0))] 200 (0,0))) (CS fun p61 n61 c61 DV => na R F2 Ff HU Gg Gh Gi Hw GL Hx Hv Hy Hz Ig Ie F5 F6 HH HI HJ F7 GC GD m8 p61 n61 c61 YY YZ Ya P8 (aD J6 0) QX n22 PJ D9 JO DV))))) (na R F2 Ff HU Gg Gh Gi Hw GL Hx Hv Hy Hz Ig Ie F5 F6 HH HI HJ F7 GC GD m8 p9 n9 c9 YY YZ Ya P8 q48 QX n22 PJ D9 JO AF))))) : Js R F2 Ff HU Gg Gh Gi Hw GL Hx Hv Hy Hz Ig Ie F5 F6 HH HI HJ F7 GC GD m8 p9 n9 c9 YY YZ Ya P8 Wr n12 Vu QX n22 PJ D9 JO σ := M.of3 h ok rfl fun _ _ _ => by kernel_rfl
theorem tr (h : Pq q13 fun b64 o64 => LS σ b64 (o64 + 1) fun rJ lP eM => Al σ fun b69 => AJ prog (Builtin.append_ #[187,187] 187 #[.slice rJ lP eM,(.slice (aD b69 0) 1 1)]) (Hp.set σ b69 (.cells #[.int .u64 P8] 48 (0,0))) (CS fun p70 n70 c70 y => AJ prog (Instr.storeAt 187 (.pointer (aD b64 (o64 + 1))) (.slice p70 n70 c70)) y (fun _ AF => AN (JO + 1) ∧ E6 R F2 Ff HU Gg Gh Gi Hw GL Hx Hv Hy Hz Ig Ie F5 F6 HH HI HJ F7 GC GD m8 p9 n9 c9 QX n22 PJ D9 (JO + 1) AF))) : na R F2 Ff HU Gg Gh Gi Hw GL Hx Hv Hy Hz Ig Ie F5 F6 HH HI HJ F7 GC GD m8 p9 n9 c9 YY YZ Ya P8 q13 QX n22 PJ D9 JO σ := M.of3 h ok rfl fun _ _ _ => by kernel_rfl
end AO
namespace Sd
variable {E2 EX P2 NJ Ht JQ : Int} {P3 : ByteArray} {Ue RT : Option Addr} {Ts Uf Qa RU : Nat} {Mg : Bool}
def M : Fw := ⟨prog,121,f121,[],[1,2],false,[(12,7,false),(15,7,false),(18,11,false),(21,15,false)],[],[]⟩
theorem ok : M.Ok := ⟨AG.nil,mixed,func121,by kernel_rfl⟩
theorem start (h : ∀ b1 : Nat,∀ b2 : Nat,Al σ fun b3 => AJ prog (Instr.storeAt 36 (.pointer (aD b3 0)) (.agg #[.int .i64 E2,.int .i64 0,(.string (ByteArray.mk #[])),.slice none 0 0,.int .i64 0,.int .i64 0,.int .i64 0,.slice none 0 0,.bool false,.int .i64 0])) (Hp.set σ b3 (.cells #[.int .i64 0,.int .i64 0,(.string (ByteArray.mk #[])),.slice none 0 0,.int .i64 0,.int .i64 0,.int .i64 0,.slice none 0 0,.bool false,.int .i64 0] 36 (0,0))) (fun _ y => Br (E2 = 1) (AJ prog (Instr.storeAt 9 (.pointer (aD b3 2)) (.string P3)) y (fun _ AF => ∃ YQ bV bW nw nz oA oB oC oD oE oF oG oH oI,Au AF b3 0 [.int .i64 YQ,.int .i64 bV,.string bW,.slice nw nz oA,.int .i64 oB,.int .i64 oC,.int .i64 oD,.slice oE oF oG,.bool oH,.int .i64 oI] ∧ R (.returned (.agg #[.int .i64 YQ,.int .i64 bV,.string bW,.slice nw nz oA,.int .i64 oB,.int .i64 oC,.int .i64 oD,.slice oE oF oG,.bool oH,.int .i64 oI])) AF)) (Br (E2 = 2) (AJ prog (Instr.storeAt 2 (.pointer (aD b3 5)) (.int .i64 NJ)) y (fun _ AF => ∃ iE V8 AGZ AGa AGb AGc AGd AGe AGf AGg AGh AGi AGj AGk,Au AF b3 0 [.int .i64 iE,.int .i64 V8,.string AGZ,.slice AGa AGb AGc,.int .i64 AGd,.int .i64 AGe,.int .i64 AGf,.slice AGg AGh AGi,.bool AGj,.int .i64 AGk] ∧ R (.returned (.agg #[.int .i64 iE,.int .i64 V8,.string AGZ,.slice AGa AGb AGc,.int .i64 AGd,.int .i64 AGe,.int .i64 AGf,.slice AGg AGh AGi,.bool AGj,.int .i64 AGk])) AF)) (Br (E2 = 3) (AJ prog (Instr.storeAt 2 (.pointer (aD b3 4)) (.int .i64 P2)) y (fun _ AF => AJ prog (Instr.storeAt 2 (.pointer (aD b3 5)) (.int .i64 NJ)) AF (fun _ AH => ∃ YJ AGl AGm AGn AGo AGp AGq AGr AGs AGt AGu AGv AGw AGx,Au AH b3 0 [.int .i64 YJ,.int .i64 AGl,.string AGm,.slice AGn AGo AGp,.int .i64 AGq,.int .i64 AGr,.int .i64 AGs,.slice AGt AGu AGv,.bool AGw,.int .i64 AGx] ∧ R (.returned (.agg #[.int .i64 YJ,.int .i64 AGl,.string AGm,.slice AGn AGo AGp,.int .i64 AGq,.int .i64 AGr,.int .i64 AGs,.slice AGt AGu AGv,.bool AGw,.int .i64 AGx])) AH))) (Br (E2 = 4) (AJ prog (Instr.storeAt 3 (.pointer (aD b3 1)) (.int .i64 EX)) y (fun _ AF => AJ prog (Instr.storeAt 3 (.pointer (aD b3 9)) (.int .i64 JQ)) AF (fun _ AH => ∃ AGy AGz AG0 AG1 AG2 AG3 AG4 AG5 AG6 AG7 AG8 AG9 AHA AHB,Au AH b3 0 [.int .i64 AGy,.int .i64 AGz,.string AG0,.slice AG1 AG2 AG3,.int .i64 AG4,.int .i64 AG5,.int .i64 AG6,.slice AG7 AG8 AG9,.bool AHA,.int .i64 AHB] ∧ R (.returned (.agg #[.int .i64 AGy,.int .i64 AGz,.string AG0,.slice AG1 AG2 AG3,.int .i64 AG4,.int .i64 AG5,.int .i64 AG6,.slice AG7 AG8 AG9,.bool AHA,.int .i64 AHB])) AH))) (Br (E2 = 5) (AJ prog (Instr.storeAt 3 (.pointer (aD b3 1)) (.int .i64 EX)) y (fun _ AF => AJ prog (Instr.storeAt 3 (.pointer (aD b3 9)) (.int .i64 JQ)) AF (fun _ AH => AJ prog (Instr.storeAt 3 (.pointer (aD b3 6)) (.int .i64 Ht)) AH (fun _ Ab => ∃ YC YD mM YE YG YH mN mO mP mQ mR mS mT mU,Au Ab b3 0 [.int .i64 YC,.int .i64 YD,.string mM,.slice YE YG YH,.int .i64 mN,.int .i64 mO,.int .i64 mP,.slice mQ mR mS,.bool mT,.int .i64 mU] ∧ R (.returned (.agg #[.int .i64 YC,.int .i64 YD,.string mM,.slice YE YG YH,.int .i64 mN,.int .i64 mO,.int .i64 mP,.slice mQ mR mS,.bool mT,.int .i64 mU])) Ab)))) (Br (E2 = 6) (AJ prog (Instr.storeAt 3 (.pointer (aD b3 1)) (.int .i64 EX)) y (fun _ AF => AJ prog (Instr.storeAt 3 (.pointer (aD b3 9)) (.int .i64 JQ)) AF (fun _ AH => AJ prog (Instr.storeAt 4 (.pointer (aD b3 8)) (.bool Mg)) AH (fun _ Ab => AJ prog (Instr.storeAt 3 (.pointer (aD b3 6)) (.int .i64 Ht)) Ab (fun _ DV => ∃ Yc Ye Yf Yg Yh Yi Yj Yk Yl Ym Yn Yo Yp Yq,Au DV b3 0 [.int .i64 Yc,.int .i64 Ye,.string Yf,.slice Yg Yh Yi,.int .i64 Yj,.int .i64 Yk,.int .i64 Yl,.slice Ym Yn Yo,.bool Yp,.int .i64 Yq] ∧ R (.returned (.agg #[.int .i64 Yc,.int .i64 Ye,.string Yf,.slice Yg Yh Yi,.int .i64 Yj,.int .i64 Yk,.int .i64 Yl,.slice Ym Yn Yo,.bool Yp,.int .i64 Yq])) DV))))) (AJ prog (Instr.storeAt 3 (.pointer (aD b3 9)) (.int .i64 JQ)) y (fun _ AF => ∃ AHC mL AHD AHE AHF AHG AHH AHI AHJ AHK AHL AHM AHN AHO,Au AF b3 0 [.int .i64 AHC,.int .i64 mL,.string AHD,.slice AHE AHF AHG,.int .i64 AHH,.int .i64 AHI,.int .i64 AHJ,.slice AHK AHL AHM,.bool AHN,.int .i64 AHO] ∧ R (.returned (.agg #[.int .i64 AHC,.int .i64 mL,.string AHD,.slice AHE AHF AHG,.int .i64 AHH,.int .i64 AHI,.int .i64 AHJ,.slice AHK AHL AHM,.bool AHN,.int .i64 AHO])) AF))))))))) : Spec prog 121 #[.agg #[.int .i64 E2,.int .i64 EX,.string P3,.slice Ue Ts Uf,.int .i64 P2,.int .i64 NJ,.int .i64 Ht,.slice RT Qa RU,.bool Mg,.int .i64 JQ]] σ R := M.start h ok
end Sd
namespace DO
variable {p0 p7 : Option Addr} {n0 c0 n7 c7 : Nat} {s1 : ByteArray} {x8 x9 : Int}
def M : Fw := ⟨prog,133,f133,[],[],false,[],[],[(104,[(1,wT),(7,wL),(8,wI),(9,wI)])]⟩
theorem ok : M.Ok := ⟨AG.nil,mixed,func133,by kernel_rfl⟩
def Hs := M.pt 0
theorem start (h : Hs R s1 p0 n0 c0 (n0 : Int) 0 σ) : Spec prog 133 #[.slice p0 n0 c0,.string s1] σ R := M.start h ok
theorem Bg (h : Br (x9 < x8) (Pq p7 fun PM P1 => In x9 (n7 : Int) ∧ LT σ PM (P1 + Int.toNat x9 * 1) fun zk => Bo (ByteArray.toList zk == ByteArray.toList s1) (Bn ((ByteArray.toList s1 == ByteArray.toList (ByteArray.mk #[]))) (R (.returned (.int .i64 x9)) σ) (AN (x9 + 1) ∧ Hs R s1 (aD PM P1) n7 c7 x8 (x9 + 1) σ)) (AN (x9 + 1) ∧ Hs R s1 (aD PM P1) n7 c7 x8 (x9 + 1) σ)) (R (.returned (.int .i64 0)) σ)) : Hs R s1 p7 n7 c7 x8 x9 σ := M.of h ok rfl
end DO
namespace JZ
variable {q0 : Option Addr}
def M : Fw := ⟨prog,135,f135,[],[2,3],false,[],[],[]⟩
theorem ok : M.Ok := ⟨AG.nil,mixed,func135,by kernel_rfl⟩
theorem start (h : ∀ b2 : Nat,Pq q0 fun b5 o5 => LS σ b5 o5 fun p7 n7 c7 => Pq p7 fun b8 o8 => In 0 (n7 : Int) ∧ ∃ x9a x9b s9c x9d,Au σ b8 o8 [.int .i64 x9a,.int .i64 x9b,.string s9c,.int .i64 x9d] ∧ ∀ b3 : Nat,LS σ b5 o5 fun Hu n14 Ge => ((0 : Int) ≤ 1 ∧ 1 ≤ (n14 : Int)) ∧ AJ prog (Instr.storeAt 121 (.pointer (aD b5 o5)) (.slice (Ic Hu (1) Ge 4) (n14 - 1) (Ge - 1))) σ (fun _ y => R (.returned (.agg #[.int .i64 x9a,.int .i64 x9b,.string s9c,.int .i64 x9d])) y)) : Spec prog 135 #[.pointer q0] σ R := M.start h ok
end JZ
namespace Se
variable {x0 : Int}
def M : Fw := ⟨prog,143,f143,[],[],false,[],[],[]⟩
theorem ok : M.Ok := ⟨AG.nil,mixed,func143,by kernel_rfl⟩
theorem start (h : AJ prog (convert 2 51 (.int .i64 x0)) σ (fun z y => ∃ x4,(Value.float .f64 x4) = z ∧ EN prog 45 #[(Value.float .f64 x4)] y (CI .u64 fun x5 AF => R (.returned (.int .u64 x5)) AF))) : Spec prog 143 #[.int .i64 x0] σ R := M.start h ok
end Se
namespace Kw
def M : Fw := ⟨prog,147,f147,[184,188],[],false,[],[],[]⟩
theorem ok : M.Ok := ⟨.cons call184 (.cons call188 (AG.nil)),mixed,func147,by kernel_rfl⟩
theorem start (h : Spec prog 184 #[(.func (.func 151) #[] #[])] σ (AA R (fun z y => ∃ f1 a1 c1,(Value.func f1 a1 c1) = z ∧ Spec prog 184 #[(.func (.func 154) #[] #[])] y (AA R (fun z AF => ∃ f2 a2 c2,(Value.func f2 a2 c2) = z ∧ Spec prog 184 #[(.func (.func 152) #[] #[])] AF (AA R (fun z AH => ∃ f3 a3 c3,(Value.func f3 a3 c3) = z ∧ Spec prog 184 #[(.func (.func 153) #[] #[])] AH (AA R (fun z Ab => ∃ f4 a4 c4,(Value.func f4 a4 c4) = z ∧ Spec prog 184 #[(.func (.func 155) #[] #[])] Ab (AA R (fun z DV => ∃ f5 a5 c5,(Value.func f5 a5 c5) = z ∧ Spec prog 184 #[(.func (.func 185) #[] #[])] DV (AA R (fun z Ex => ∃ f6 a6 c6,(Value.func f6 a6 c6) = z ∧ Spec prog 184 #[(.func (.func 187) #[] #[])] Ex (AA R (fun z D3 => ∃ f7 a7 c7,(Value.func f7 a7 c7) = z ∧ Spec prog 188 #[(.func (.func 189) #[] #[])] D3 (AA R (fun z Hk => ∃ f8 a8 c8,(Value.func f8 a8 c8) = z ∧ Spec prog 188 #[(.func (.func 191) #[] #[])] Hk (AA R (fun z P4 => ∃ f9 a9 c9,(Value.func f9 a9 c9) = z ∧ Spec prog 188 #[(.func (.func 193) #[] #[])] P4 (AA R (fun z Lt => ∃ f10 a10 Tu,(Value.func f10 a10 Tu) = z ∧ Al Lt fun BF => R (.returned (.slice (aD BF 0) 11 11)) (Hp.set Lt BF (.cells #[.nilFunc,(Value.func f10 a10 Tu),(Value.func f9 a9 c9),(Value.func f8 a8 c8),(Value.func f1 a1 c1),(Value.func f2 a2 c2),(Value.func f3 a3 c3),(Value.func f4 a4 c4),(Value.func f5 a5 c5),(Value.func f6 a6 c6),(Value.func f7 a7 c7)] 195 (0,0)))))))))))))))))))))))) : Spec prog 147 #[] σ R := M.start h ok
end Kw
namespace MN
variable {p0 p1 : Option Addr} {n0 c0 n1 c1 : Nat}
def M : Fw := ⟨prog,150,f150,[197],[],false,[],[],[]⟩
theorem ok : M.Ok := ⟨.cons call197 (AG.nil),mixed,func150,by kernel_rfl⟩
theorem start (h : Al σ fun b3 => Spec prog 197 #[.slice p0 n0 c0,(.func (.func 200) #[] #[(.pointer (aD b3 0))])] (Hp.set σ b3 (.cells #[.slice p1 n1 c1] 34 (0,0))) (AA R (CS fun p7 n7 c7 y => R (.returned (.slice p7 n7 c7)) y))) : Spec prog 150 #[.slice p0 n0 c0,.slice p1 n1 c1] σ R := M.start h ok
end MN
namespace PY
variable {x0 : Int}
def M : Fw := ⟨prog,162,f162,[186],[],false,[],[],[]⟩
theorem ok : M.Ok := ⟨.cons call186 (AG.nil),mixed,func162,by kernel_rfl⟩
theorem start (h : Df (Go.bits .xor .u64 x0 9223372036854775808) fun x4 => Spec prog 186 #[.int .u64 x4] σ (AA R (CI .u64 fun x5 y => R (.returned (.int .u64 x5)) y))) : Spec prog 162 #[.int .u64 x0] σ R := M.start h ok
end PY
namespace MO
variable {E2 EX x1 : Int}
def M : Fw := ⟨prog,176,f176,[],[2],false,[],[],[]⟩
theorem ok : M.Ok := ⟨AG.nil,mixed,func176,by kernel_rfl⟩
theorem start (h : ∀ b2 : Nat,Br (E2 ≤ x1) (R (.returned (.int .i64 (-1))) σ) (R (.returned (.int .i64 1)) σ)) : Spec prog 176 #[.agg #[.int .i64 E2,.int .u64 EX],.int .i64 x1] σ R := M.start h ok
end MO
namespace Sf
variable {v0 : Value}
def M : Fw := ⟨prog,183,f183,[],[],false,[],[],[]⟩
theorem ok : M.Ok := ⟨AG.nil,mixed,func183,by kernel_rfl⟩
theorem start (h : EN prog 222 #[v0] σ (fun z y => ∃ x4,(Value.float .f64 x4) = z ∧ R (.returned (Value.float .f64 x4)) y)) : Spec prog 183 #[v0] σ R := M.D6 h ok [(0,.o (.V v0))] rfl rfl (by kernel_rfl)
end Sf
namespace DP
variable {p0 p1 : Option Addr} {n0 c0 n1 c1 : Nat}
def M : Fw := ⟨prog,193,f193,[192,194],[],false,[],[],[]⟩
theorem ok : M.Ok := ⟨.cons call192 (.cons call194 (AG.nil)),mixed,func193,by kernel_rfl⟩
theorem start (h : Pq p1 fun b8 o8 => In 0 (n1 : Int) ∧ LI .u64 σ b8 (o8 + 1) fun x10 => Spec prog 192 #[.slice p0 n0 c0] σ (AA R (CI .u64 fun x6 y => Kp [b8] σ y ∧ Spec prog 194 #[.int .u64 x6,.int .u64 x10] y (AA R (CI .u64 fun x11 AF => R (.returned (.int .u64 x11)) AF))))) : Spec prog 193 #[.slice p0 n0 c0,.slice p1 n1 c1] σ R := M.start h ok
end DP
namespace eval_add
variable {x0 x1 : Int}
def M : Fw := ⟨prog,201,f201,[203],[],false,[],[],[]⟩
theorem ok : M.Ok := ⟨.cons call203 (AG.nil),mixed,func201,by kernel_rfl⟩
theorem start (h : Spec prog 203 #[.int .i64 1,.int .u64 x0,.int .u64 x1] σ (AA R (fun z y => ∃ Iq RQ,z = (.tuple #[.int .u64 Iq,.bool RQ]) ∧ R (.returned (.int .u64 Iq)) y))) : Spec prog 201 #[.int .u64 x0,.int .u64 x1] σ R := M.start h ok
end eval_add
namespace Nb
variable {x0 x1 x2 : Int}
def M : Fw := ⟨prog,204,f204,[182],[],false,[],[],[]⟩
theorem ok : M.Ok := ⟨.cons call182 (AG.nil),mixed,func204,by kernel_rfl⟩
theorem start (h : Spec prog 182 #[.int .u64 x1] σ (AA R (fun z y => ∃ x11,(Value.float .f64 x11) = z ∧ Spec prog 182 #[.int .u64 x2] y (AA R (fun z AF => ∃ E8,(Value.float .f64 E8) = z ∧ Br (x0 = 5) (∃ t19,YF prog ((do eqGuard .eql 51 (.tmp 17) (.tmp 18) (Value.float .f64 x11) (Value.float .f64 E8); binOp .eql 51 (Value.float .f64 x11) (Value.float .f64 E8))) AF (.bool t19) ∧ R (.returned (.tuple #[.bool t19,.bool true])) AF) (Br (x0 = 6) (∃ t24,YF prog ((do eqGuard .neq 51 (.tmp 22) (.tmp 23) (Value.float .f64 x11) (Value.float .f64 E8); binOp .neq 51 (Value.float .f64 x11) (Value.float .f64 E8))) AF (.bool t24) ∧ R (.returned (.tuple #[.bool t24,.bool true])) AF) (Br (x0 = 7) (∃ t29,YF prog ((do eqGuard .lss 51 (.tmp 27) (.tmp 28) (Value.float .f64 x11) (Value.float .f64 E8); binOp .lss 51 (Value.float .f64 x11) (Value.float .f64 E8))) AF (.bool t29) ∧ R (.returned (.tuple #[.bool t29,.bool true])) AF) (Br (x0 = 8) (∃ t34,YF prog ((do eqGuard .leq 51 (.tmp 32) (.tmp 33) (Value.float .f64 x11) (Value.float .f64 E8); binOp .leq 51 (Value.float .f64 x11) (Value.float .f64 E8))) AF (.bool t34) ∧ R (.returned (.tuple #[.bool t34,.bool true])) AF) (Br (x0 = 9) (∃ t39,YF prog ((do eqGuard .gtr 51 (.tmp 37) (.tmp 38) (Value.float .f64 x11) (Value.float .f64 E8); binOp .gtr 51 (Value.float .f64 x11) (Value.float .f64 E8))) AF (.bool t39) ∧ R (.returned (.tuple #[.bool t39,.bool true])) AF) (Br (x0 = 10) (∃ t44,YF prog ((do eqGuard .geq 51 (.tmp 42) (.tmp 43) (Value.float .f64 x11) (Value.float .f64 E8); binOp .geq 51 (Value.float .f64 x11) (Value.float .f64 E8))) AF (.bool t44) ∧ R (.returned (.tuple #[.bool t44,.bool true])) AF) (R (.returned (.tuple #[.bool false,.bool false])) AF))))))))))) : Spec prog 204 #[.int .i64 x0,.int .u64 x1,.int .u64 x2] σ R := M.start h ok
end Nb
namespace G4
variable {E2 EX P2 NJ Ht JQ tS x2b x2e x2f x2g x2j x11 x12 : Int} {P3 s2c : ByteArray} {Ue RT p1 p2d p2h Zy : Option Addr} {Ts Uf Qa RU n1 c1 n2d c2d n2h c2h n10 Tu : Nat} {Mg t2i : Bool} {m6 : Option Nat}
def M : Fw := ⟨prog,206,f206,[49,207],[2,8],false,[(5,7,false)],[],[(232,[(1,wL),(2,.X 36 [.I .i64,.I .i64,.T,.L,.I .i64,.I .i64,.I .i64,.L,.B,.I .i64]),(6,wM),(10,wL),(11,wI),(12,wI)])]⟩
theorem ok : M.Ok := ⟨.cons call49 (.cons call207 (AG.nil)),mixed,func206,by kernel_rfl⟩
def A8 := M.pt 0
theorem start (h : ∀ b2 : Nat,AJ prog (Instr.makeMap 243 none) σ (fun z y => ∃ m9,z = (.map (some m9)) ∧ A8 R p1 n1 c1 E2 EX P3 Ue Ts Uf P2 NJ Ht RT Qa RU Mg JQ (some m9) p1 n1 c1 (n1 : Int) 0 y)) : Spec prog 206 #[.agg #[.int .i64 E2,.int .i64 EX,.string P3,.slice Ue Ts Uf,.int .i64 P2,.int .i64 NJ,.int .i64 Ht,.slice RT Qa RU,.bool Mg,.int .i64 JQ],.slice p1 n1 c1] σ R := M.start h ok
theorem Aa (h : Br (x12 < x11) (Pq Zy fun BL ND => In x12 (n10 : Int) ∧ ∃ ABD ABE ABF tV,Au σ BL (ND + Int.toNat x12 * 2) [.slice ABD ABE ABF,.int .u64 tV] ∧ ∀ b8 : Nat,Spec prog 207 #[.agg #[.int .i64 tS,.int .i64 x2b,.string s2c,.slice p2d n2d c2d,.int .i64 x2e,.int .i64 x2f,.int .i64 x2g,.slice p2h n2h c2h,.bool t2i,.int .i64 x2j],.slice ABD ABE ABF] σ (AA R (CS fun p20 n20 c20 y => Spec prog 49 #[.slice p20 n20 c20] y (AA R (CT fun zl AF => AJ prog (Instr.mapUpdate 243 (.map m6) (.string zl) (.agg #[.slice ABD ABE ABF,.int .u64 tV])) AF (fun _ AH => AN (x12 + 1) ∧ A8 R p1 n1 c1 tS x2b s2c p2d n2d c2d x2e x2f x2g p2h n2h c2h t2i x2j m6 (aD BL ND) n10 Tu x11 (x12 + 1) AH)))))) (∃ ju,YF prog (Builtin.len_ #[243] 3 #[.map m6]) σ (.int .i64 ju) ∧ R (.returned (.tuple #[.map m6,(.bool (decide (ju = (n1 : Int))))])) σ)) : A8 R p1 n1 c1 tS x2b s2c p2d n2d c2d x2e x2f x2g p2h n2h c2h t2i x2j m6 Zy n10 Tu x11 x12 σ := M.jj h ok rfl fun _ => by kernel_rfl
end G4
namespace D5
variable {Tt : Option Addr} {MG RY : Nat} {Zz s1 : ByteArray}
def M : Fw := ⟨prog,219,f219,[236],[2],false,[],[],[]⟩
theorem ok : M.Ok := ⟨.cons call236 (AG.nil),mixed,func219,by kernel_rfl⟩
theorem start (h : ∀ b2 : Nat,Spec prog 236 #[.agg #[.slice Tt MG RY],.string s1] σ (AA R (CB fun t8 y => R (.returned (.bool t8)) y))) : Spec prog 219 #[.agg #[.slice Tt MG RY,.string Zz],.string s1] σ R := M.start h ok
end D5
namespace C5
variable {q0 : Option Addr} {b1 : Nat}
def M : Fw := ⟨prog,269,f269,[67,136,251],[],false,[],[],[(7,[(1,wA)])]⟩
theorem ok : M.Ok := ⟨.cons call67 (.cons call136 (.cons call251 (AG.nil))),mixed,func269,by kernel_rfl⟩
def Hs := M.pt 0
theorem start (h : Al σ fun b1 => LQ (Hp.set σ b1 (.cells #[.pointer q0] 124 (0,0))) b1 0 fun q2 => Spec prog 136 #[.pointer q2,.int .i64 5,(.string (ByteArray.mk #[40]))] (Hp.set σ b1 (.cells #[.pointer q0] 124 (0,0))) (AA R (CB fun t3 y => Bn t3 (LQ y b1 0 fun q5 => Spec prog 67 #[.pointer q5] y (AA R (fun z AF => z = (.tuple #[]) ∧ Hs R b1 AF))) (Hs R b1 y)))) : Spec prog 269 #[.pointer q0] σ R := M.start h ok
theorem Bg (h : LQ σ b1 0 fun q7 => Spec prog 251 #[.pointer q7,(.func (.func 294) #[] #[(.pointer (aD b1 0))])] σ (AA R (fun z y => z = (.tuple #[]) ∧ R (.returned (.tuple #[])) y))) : Hs R b1 σ := M.of h ok rfl
end C5
end TwW
end
end
section
namespace Tw
open Go
variable [Ey]
def Ay (τ : Hp) : List (Nat × Obj) → Hp
 | [] => τ
 | (b,o) :: L => (Ay τ L).set b o
abbrev names (L : List (Nat × Obj)) : List Nat := L.map Prod.fst
section
variable {τ : Hp} {L : List (Nat × Obj)} {b i : Nat} {o o' : Obj}
theorem IL (h : b ∉ names L) : Ay τ L b = τ b := by
 induction L with
 | nil => rfl
 | cons p L ih =>
   simp only [names,List.map_cons,List.mem_cons,not_or] at h
   simp only [Ay,Hp.AI h.1]
   exact ih h.2
theorem Eo : ∀ {L : List (Nat × Obj)} {i : Nat},(names L).Nodup → L[i]? = some (b,o) → Ay τ L b = some o
 | p :: L,0,_,h => by simp at h; subst h; exact Hp.AB _ _ _
 | p :: L,i + 1,hn,h => by
   simp only [List.getElem?_cons_succ] at h
   have hm : b ∈ names L := List.mem_map.2 ⟨_,List.mem_of_getElem? h,rfl⟩
   have hn := List.nodup_cons.1 (show (p.1 :: names L).Nodup from hn)
   have Az : b ≠ p.1 := fun e => hn.1 (e ▸ hm)
   simp only [Ay,Hp.AI Az]
   exact Eo hn.2 h
theorem Hp.BW {σ : Hp} {a b : Nat} {o u : Obj} (h : a ≠ b) : (σ.set a o).set b u = (σ.set b u).set a o := by
 funext k
 simp only [Hp.set]
 by_cases h1 : k = a
 · subst h1; simp [h]
 · simp [h1]
theorem Nc : ∀ {L : List (Nat × Obj)} {i : Nat},(names L).Nodup → L[i]? = some (b,o) → (Ay τ L).set b o' = Ay τ (L.set i (b,o'))
 | p :: L,0,_,h => by simp at h; subst h; exact Hp.set_set
 | p :: L,i + 1,hn,h => by
   simp only [List.getElem?_cons_succ] at h
   have hm : b ∈ names L := List.mem_map.2 ⟨_,List.mem_of_getElem? h,rfl⟩
   have hn := List.nodup_cons.1 (show (p.1 :: names L).Nodup from hn)
   have Az : b ≠ p.1 := fun e => hn.1 (e ▸ hm)
   simp only [Ay,List.set_cons_succ]
   rw [Hp.BW (Ne.symm Az),Nc hn.2 h]
theorem G5 : ∀ {L : List (Nat × Obj)},b ∉ names L → (Ay τ L).set b o = Ay (τ.set b o) L
 | [],_ => rfl
 | p :: L,h => by
   simp only [names,List.map_cons,List.mem_cons,not_or] at h
   simp only [Ay]
   rw [Hp.BW (Ne.symm h.1),G5 h.2]
theorem Uu : ∀ {L : List (Nat × Obj)},b ∈ names L → Ay τ L b ≠ none
 | p :: L,h => by
   by_cases hb : b = p.1
   · subst hb; simp only [Ay,Hp.AB]; simp
   · simp only [names,List.map_cons,List.mem_cons] at h
     simp only [Ay,Hp.AI hb]
     exact Uu (h.resolve_left hb)
theorem CG (h : Ay τ L b = none) : b ∉ names L ∧ τ b = none := by
 have hs : ∀ {L : List (Nat × Obj)},b ∉ names L → Ay τ L b = τ b := IL
 have hn : b ∉ names L := fun hm => Uu hm h
 exact ⟨hn,(hs hn).symm.trans h⟩
def PZ (L : List (Nat × Obj)) (τ : Hp) : Prop := ∀ b ∈ names L,τ b = none
theorem PZ.ext {τ : Hp} : ∀ {L : List (Nat × Obj)},(names L).Nodup → PZ L τ → Ext τ (Ay τ L)
 | [],_,_ => .refl τ
 | p :: L,hn,h => by
   have hn := List.nodup_cons.1 (show (p.1 :: names L).Nodup from hn)
   have ih := PZ.ext hn.2 (fun b hb => h b (List.mem_cons_of_mem _ hb))
   refine ih.trans (.set ?_)
   rw [IL hn.1]
   exact h _ (List.mem_cons_self ..)
theorem PZ.set {τ : Hp} {b : Nat} {o : Obj} (h : PZ L τ) (hb : b ∉ names L) : PZ L (τ.set b o) := fun c hc => by
 have Az : c ≠ b := fun e => hb (e ▸ hc)
 rw [Hp.AI Az]; exact h c hc
end
theorem Spec.Ep {P : Program} {f : FuncId} {args : Array Value} {τ : Hp} : ∀ {L : List (Nat × Obj)} {R : Rr},(names L).Nodup → PZ L τ →
   Spec P f args τ (fun e τ' => PZ L τ' → R e (Ay τ' L)) → Spec P f args (Ay τ L) R
 | [],R,_,_,h => h.mono fun e τ' hr => hr (fun b hb => by cases hb)
 | p :: L,R,hn,ho,h => by
   have hn := List.nodup_cons.1 (show (p.1 :: names L).Nodup from hn)
   refine Spec.Am (by rw [IL hn.1]; exact ho _ (List.mem_cons_self ..)) ?_
   refine Spec.Ep hn.2 (fun b hb => ho b (List.mem_cons_of_mem _ hb)) (h.mono fun e τ' hr Tx GM => hr fun b hb => ?_)
   rcases List.mem_cons.1 (show b ∈ p.1 :: names L from hb) with rfl | hb
   · rw [IL hn.1] at GM; exact GM
   · exact Tx b hb
theorem AJ.Ep {P : Program} {α : Type} {m : Sem α} {τ : Hp} : ∀ {L : List (Nat × Obj)} {Φ : α → Hp → Prop},(names L).Nodup → PZ L τ →
   AJ P m τ (fun v τ' => PZ L τ' → Φ v (Ay τ' L)) → AJ P m (Ay τ L) Φ
 | [],R,_,_,h => h.mono fun e τ' hr => hr (fun b hb => by cases hb)
 | p :: L,R,hn,ho,h => by
   have hn := List.nodup_cons.1 (show (p.1 :: names L).Nodup from hn)
   refine AJ.Am (by rw [IL hn.1]; exact ho _ (List.mem_cons_self ..)) ?_
   refine AJ.Ep hn.2 (fun b hb => ho b (List.mem_cons_of_mem _ hb)) (h.mono fun e τ' hr Tx GM => hr fun b hb => ?_)
   rcases List.mem_cons.1 (show b ∈ p.1 :: names L from hb) with rfl | hb
   · rw [IL hn.1] at GM; exact GM
   · exact Tx b hb
theorem AJ.Sg {P : Program} {τ : Hp} {L : List (Nat × Obj)} {i b n o : Nat} {T t : TypeId} {c c' : Array Value} {v : Value} {Φ : Unit → Hp → Prop} (hz : ∀ w,(Go.sizeOf T).run P w = .ok n w) (hn : (names L).Nodup) (hi : L[i]? = some (b,.cells c t (0,0)))
   (hv : v.cells.size = n) (hl : Nat.ble (o + n) c.size = true) (h1 : (v.cells.toList.all fun u => u.oneCell') = true) (hc : M0 c o v.cells.toList = c') (h : Φ () (Ay τ (L.set i (b,.cells c' t (0,0))))) :
   AJ P (Instr.storeAt T (.pointer (some ⟨b,o,none⟩)) v) (Ay τ L) Φ := by
 subst hc
 refine AJ.store hz (Eo hn hi) hv (Nat.le_of_ble_eq_true hl) (fun u hu => List.all_eq_true.1 h1 u hu) ?_
 rw [Nc hn hi]; exact h
theorem Yx {τ : Hp} {L : List (Nat × Obj)} {i b o : Nat} {t : TypeId} {c : Array Value} {v : Value} (hn : (names L).Nodup) (hi : L[i]? = some (b,.cells c t (0,0))) (h : c[o]? = some v) : Hp.ld (Ay τ L) ⟨b,o,none⟩ = some v := by
 simp [Hp.ld,Eo hn hi,h]
end Tw
end
section
namespace Tw
open Go Go.MapKept
variable [Ey]
def Q1 (p : Option Addr) : List Nat := match p with
 | some a => [a.block]
 | none => []
structure Loc (A : Hp → Prop) (σ : Hp) (S : List Nat) : Prop where
 here : A σ
 known : ∀ b ∈ S,σ b ≠ none
 loc : ∀ σ',(∀ b ∈ S,σ' b = σ b) → A σ'
section
variable {P : Program} {σ : Hp} {α : Type}
theorem AJ.obj {m : Sem α} {b : Nat} {o o' : Obj} {v : α} {Φ : α → Hp → Prop} (hb : σ b = some o) (hm : ∀ w,Sat σ w → ∃ w1 : World,(w1 = w ∨ w1 = w.drew) ∧ m.run P w = .ok v (ChangeMaps.setBlock w1 b o')) (h : Φ v (σ.set b o')) : AJ P m σ Φ := fun w F hs hF => by
 obtain ⟨w1,hw,Cg⟩ := hm w hs
 have An : b < w.heap.size := (Array.getElem?_eq_some_iff.1 (hs b o hb)).1
 have M5 : w1.heap = w.heap := by rcases hw with rfl | rfl <;> rfl
 refine ⟨v,_,_,Cg,h,fun k u hk => ?_,fun k hk => ?_,?_,?_,?_⟩
 · simp only [ChangeMaps.setBlock,M5]
   by_cases HQ : k = b
   · subst HQ; rw [Hp.AB] at hk; cases hk; simp [An]
   · rw [Hp.AI HQ] at hk; simp [Ne.symm HQ,hs k u hk]
 · have HQ : k ≠ b := fun e => by have := (hF k hk).2; rw [e,hb] at this; cases this
   refine ⟨by rw [Hp.AI HQ]; exact (hF k hk).2,?_⟩
   simp [ChangeMaps.setBlock,M5,Ne.symm HQ]
 · rcases hw with rfl | rfl
   · exact .same rfl rfl rfl
   · exact ⟨rfl,rfl,fun _ => ⟨1,rfl⟩⟩
 · rcases hw with rfl | rfl <;> rfl
 · simp [ChangeMaps.setBlock,M5]
theorem AJ.new {m : Sem α} {o : Obj} {v : Nat → α} {Φ : α → Hp → Prop} (hm : ∀ w,Sat σ w → m.run P w = .ok (v w.heap.size) (w.alloc o)) (h : ∀ b,σ b = none → Φ (v b) (σ.set b o)) : AJ P m σ Φ := fun w F hs hF =>
 ⟨_,_,_,hm w hs,h _ (Fb hs),Fin.alloc hs hF _ rfl (.same rfl rfl rfl) rfl⟩
class oJ (P : Program) (T : TypeId) (K V : outParam TypeId) : Prop where
 dX : P.underlying T = some (.map K V)
 key : P.underlying K = some .string
def BR (σ : Hp) (b : Nat) (l : List MapEntry) (clock : Nat) : Prop := σ b = some (.map l.toArray clock) ∧ Stamped l.toArray clock ∧ ∀ x ∈ l,IsKey .string x.key
theorem BR.mono {σ σ' : Hp} {b : Nat} {l : List MapEntry} {clock : Nat} (h : BR σ b l clock) (hx : Ext σ σ') : BR σ' b l clock := ⟨hx _ _ h.1,h.2⟩
theorem BR.loc {σ σ' : Hp} {b : Nat} {l : List MapEntry} {clock : Nat} (h : BR σ b l clock) (hx : σ' b = σ b) : BR σ' b l clock := ⟨hx.trans h.1,h.2⟩
theorem BR.nodup {σ : Hp} {b : Nat} {l : List MapEntry} {clock : Nat} (h : BR σ b l clock) : (l.map (·.key)).Nodup := h.2.1.2.2
theorem FN {s : ByteArray} {l : List MapEntry} (hk : ∀ x ∈ l,IsKey .string x.key) :
   (Instr.findNow .string (.string s) l 0 = some none ∧ ∀ x ∈ l,x.key ≠ .string s) ∨ ∃ l1 e l2,l = l1 ++ e :: l2 ∧ e.key = .string s ∧ Instr.findNow .string (.string s) l 0 = some (some (l1.length,e.val)) := by
 rcases findNow_spec (d := .string) (k := .string s) trivial l 0 hk with h | ⟨j,e,h1,h2,h3⟩
 · exact .inl h
 · obtain ⟨hj,rfl⟩ := List.getElem?_eq_some_iff.1 h2
   refine .inr ⟨l.take j,l[j],l.drop (j + 1),?_,h3,?_⟩
   · rw [List.getElem_cons_drop,List.take_append_drop]
   · rw [h1]; simp [Nat.min_eq_left (Nat.le_of_lt hj)]
section
variable {T K V ty : TypeId} {b clock : Nat} {l : List MapEntry} {s : ByteArray}
theorem EI {Φ : Value → Hp → Prop} (h : ∀ b,σ b = none → Φ (.map (some b)) (σ.set b (.map #[] 0))) : AJ P (Instr.makeMap T none) σ Φ :=
 AJ.new (v := fun b => .map (some b)) (fun w _ => by simp [Instr.makeMap,Result.andThen]) h
theorem BR.fresh {b : Nat} {σ : Hp} : BR (σ.set b (.map #[] 0)) b [] 0 := ⟨Hp.AB _ _ _,stamped_empty 0,by simp⟩
theorem Ol [t : oJ P T K V] (hm : BR σ b l clock) {z : Value} (hz : ∀ w,(zeroValue V).run P w = .ok z w) {Q : Value → Prop}
   (h0 : (∀ x ∈ l,x.key ≠ .string s) → Q z) (h1 : ∀ l1 e l2,l = l1 ++ e :: l2 → e.key = .string s → Q e.val) : ∃ v,Q v ∧ YF P (Instr.lookup T (.map (some b)) (.string s) false) σ v := by
 rcases FN (s := s) hm.2.2 with ⟨hf,hn⟩ | ⟨l1,e,l2,hl,he,hf⟩
 · refine ⟨z,h0 hn,fun w hs => ?_⟩
   have := hs _ _ hm.1
   simp [Instr.lookup,run_underlying t.dX,run_getObj_map this,run_checkKey t.key (k := .string s) trivial,run_findKey t.key hf,hz,Result.andThen]
 · refine ⟨e.val,h1 l1 e l2 hl he,fun w hs => ?_⟩
   have := hs _ _ hm.1
   simp [Instr.lookup,run_underlying t.dX,run_getObj_map this,run_checkKey t.key (k := .string s) trivial,run_findKey t.key hf,Result.andThen]
theorem Ml [t : oJ P T K V] (hm : BR σ b l clock) {z : Value} (hz : ∀ w,(zeroValue V).run P w = .ok z w) {Φ : Value → Hp → Prop}
   (h0 : (∀ x ∈ l,x.key ≠ .string s) → Φ z σ) (h1 : ∀ l1 e l2,l = l1 ++ e :: l2 → e.key = .string s → Φ e.val σ) : AJ P (Instr.lookup T (.map (some b)) (.string s) false) σ Φ := by
 obtain ⟨v,hq,hy⟩ := Ol (T := T) (K := K) (s := s) (Q := fun v => Φ v σ) hm hz h0 h1
 exact AJ.pu hy hq
theorem oK [t : oJ P T K V] (hm : BR σ b l clock) : YF P (Builtin.len_ #[T] ty #[.map (some b)]) σ (.int .i64 l.length) := fun w hs => by
 have := hs _ _ hm.1
 simp [Builtin.len_,run_underlying t.dX,run_getObj_map this,goInt,Result.andThen]
abbrev NB (s : ByteArray) (v : Value) (n : Nat) : MapEntry := { key := .string s,val := v,born := n }
theorem Hm [t : oJ P T K V] (hm : BR σ b l clock) {v : Value} {Φ : Unit → Hp → Prop}
   (h0 : (∀ x ∈ l,x.key ≠ .string s) → ∀ σ',σ' = σ.set b (.map (l ++ [NB s v clock]).toArray (clock + 1)) → BR σ' b (l ++ [NB s v clock]) (clock + 1) → Φ () σ')
   (h1 : ∀ l1 e l2,l = l1 ++ e :: l2 → e.key = .string s → ∀ σ',σ' = σ.set b (.map (l1 ++ NB s v e.born :: l2).toArray clock) → BR σ' b (l1 ++ NB s v e.born :: l2) clock → Φ () σ') :
   AJ P (Instr.mapUpdate T (.map (some b)) (.string s) v) σ Φ := by
 obtain ⟨hb,Ca,hk⟩ := hm
 rcases FN (s := s) hk with ⟨hf,hn⟩ | ⟨l1,e,l2,hl,he,hf⟩
 · have Yy : (l ++ [NB s v clock]).toArray = l.toArray.push (NB s v clock) := by simp
   refine AJ.obj (v := ()) (o' := .map (l ++ [NB s v clock]).toArray (clock + 1)) hb (fun w hs => ⟨w,.inl rfl,?_⟩) (h0 hn _ rfl ⟨Hp.AB _ _ _,?_,?_⟩)
   · have := hs _ _ hb
     rw [Yy]
     simp only [Instr.mapUpdate,Sem.run_bind,run_underlying t.dX,run_getObj_map this,run_checkKey t.key (k := .string s) trivial,run_findKey t.key hf,Result.andThen_ok]
     simp [setObj,Sem.run,this,ChangeMaps.setBlock]
   · rw [Yy]; exact stamped_push Ca (by simpa using hn)
   · intro x hx
     rcases List.mem_append.1 hx with hx | hx
     · exact hk x hx
     · rw [List.mem_singleton] at hx; subst hx; trivial
 · subst hl
   have oL : (l1 ++ NB s v e.born :: l2).toArray = (l1 ++ e :: l2).toArray.modify l1.length (fun e => { e with key := .string s,val := v }) := by
     rw [← Array.toList_inj]
     apply List.ext_getElem?
     intro j
     simp only [Array.getElem?_toList,Array.getElem?_modify,List.getElem?_toArray]
     by_cases hj : l1.length = j
     · subst hj; simp
     · rw [if_neg hj]
       rcases Nat.lt_or_ge j l1.length with h | h
       · rw [List.getElem?_append_left h,List.getElem?_append_left h]
       · have : ∃ k,j = l1.length + (k + 1) := ⟨j - l1.length - 1,by omega⟩
         obtain ⟨k,rfl⟩ := this
         simp [List.getElem?_append_right]
   have iF : (l1 ++ e :: l2).toArray[l1.length]? = some e := by simp
   refine AJ.obj (v := ()) (o' := .map (l1 ++ NB s v e.born :: l2).toArray clock) hb (fun w hs => ⟨w,.inl rfl,?_⟩) (h1 l1 e l2 rfl he _ rfl ⟨Hp.AB _ _ _,?_,?_⟩)
   · have := hs _ _ hb
     rw [oL]
     simp only [Instr.mapUpdate,Sem.run_bind,run_underlying t.dX,run_getObj_map this,run_checkKey t.key (k := .string s) trivial,run_findKey t.key hf,Result.andThen_ok,iF,Option.map_some,Option.getD_some,he,
       run_keyThatStays (d := .string) (k := .string s) trivial]
     simp [setObj,Sem.run,this,ChangeMaps.setBlock]
   · rw [oL]; exact stamped_modify Ca _ _ (fun _ _ => rfl) (fun e' _ Wt => by rw [iF] at Wt; cases Wt; exact he.symm)
   · intro x hx
     rcases List.mem_append.1 hx with hx | hx
     · exact hk x (List.mem_append_left _ hx)
     · rcases List.mem_cons.1 hx with rfl | hx
       · trivial
       · exact hk x (List.mem_append_right _ (List.mem_cons_of_mem _ hx))
end
end
end Tw
end
section
theorem Tw.Hp.AW {σ : Tw.Hp} {b k : Nat} {o : Go.Obj} (h : (σ.set b o) k = none) : k ≠ b ∧ σ k = none := by
 have Az : k ≠ b := fun e => by rw [e,Tw.Hp.AB] at h; cases h
 exact ⟨Az,by rw [Tw.Hp.AI Az] at h; exact h⟩
namespace oM
open Go Go.MapKept Tw
variable [Ey]
section
variable {P : Program} {σ : Hp}
class rW (P : Program) (T : TypeId) (K V : outParam TypeId) : Prop where
 dX : P.underlying T = some (.map K V)
 key : P.underlying K = some (.int .i64)
def BR (σ : Hp) (b : Nat) (l : List MapEntry) (clock : Nat) : Prop := σ b = some (.map l.toArray clock) ∧ Stamped l.toArray clock ∧ ∀ x ∈ l,IsKey (.int .i64) x.key
theorem BR.loc {σ σ' : Hp} {b : Nat} {l : List MapEntry} {clock : Nat} (h : BR σ b l clock) (hx : σ' b = σ b) : BR σ' b l clock := ⟨hx.trans h.1,h.2⟩
theorem FN {s : Int} {l : List MapEntry} (hk : ∀ x ∈ l,IsKey (.int .i64) x.key) :
   (Instr.findNow (.int .i64) (.int .i64 s) l 0 = some none ∧ ∀ x ∈ l,x.key ≠ .int .i64 s) ∨ ∃ l1 e l2,l = l1 ++ e :: l2 ∧ e.key = .int .i64 s ∧ Instr.findNow (.int .i64) (.int .i64 s) l 0 = some (some (l1.length,e.val)) := by
 rcases findNow_spec (d := .int .i64) (k := .int .i64 s) rfl l 0 hk with h | ⟨j,e,h1,h2,h3⟩
 · exact .inl h
 · obtain ⟨hj,rfl⟩ := List.getElem?_eq_some_iff.1 h2
   refine .inr ⟨l.take j,l[j],l.drop (j + 1),?_,h3,?_⟩
   · rw [List.getElem_cons_drop,List.take_append_drop]
   · rw [h1]; simp [Nat.min_eq_left (Nat.le_of_lt hj)]
section
variable {T K V ty : TypeId} {b clock : Nat} {l : List MapEntry} {s : Int}
theorem BR.fresh {b : Nat} {σ : Hp} : BR (σ.set b (.map #[] 0)) b [] 0 := ⟨Hp.AB _ _ _,stamped_empty 0,by simp⟩
theorem Ol [t : rW P T K V] (hm : BR σ b l clock) {z : Value} (hz : ∀ w,(zeroValue V).run P w = .ok z w) {Q : Value → Prop}
   (h0 : (∀ x ∈ l,x.key ≠ .int .i64 s) → Q z) (h1 : ∀ l1 e l2,l = l1 ++ e :: l2 → e.key = .int .i64 s → Q e.val) : ∃ v,Q v ∧ YF P (Instr.lookup T (.map (some b)) (.int .i64 s) false) σ v := by
 rcases FN (s := s) hm.2.2 with ⟨hf,hn⟩ | ⟨l1,e,l2,hl,he,hf⟩
 · refine ⟨z,h0 hn,fun w hs => ?_⟩
   have := hs _ _ hm.1
   simp [Instr.lookup,run_underlying t.dX,run_getObj_map this,run_checkKey t.key (k := .int .i64 s) rfl,run_findKey t.key hf,hz,Result.andThen]
 · refine ⟨e.val,h1 l1 e l2 hl he,fun w hs => ?_⟩
   have := hs _ _ hm.1
   simp [Instr.lookup,run_underlying t.dX,run_getObj_map this,run_checkKey t.key (k := .int .i64 s) rfl,run_findKey t.key hf,Result.andThen]
theorem Ml [t : rW P T K V] (hm : BR σ b l clock) {z : Value} (hz : ∀ w,(zeroValue V).run P w = .ok z w) {Φ : Value → Hp → Prop}
   (h0 : (∀ x ∈ l,x.key ≠ .int .i64 s) → Φ z σ) (h1 : ∀ l1 e l2,l = l1 ++ e :: l2 → e.key = .int .i64 s → Φ e.val σ) : AJ P (Instr.lookup T (.map (some b)) (.int .i64 s) false) σ Φ := by
 obtain ⟨v,hq,hy⟩ := Ol (T := T) (K := K) (s := s) (Q := fun v => Φ v σ) hm hz h0 h1
 exact AJ.pu hy hq
theorem oK [t : rW P T K V] (hm : BR σ b l clock) : YF P (Builtin.len_ #[T] ty #[.map (some b)]) σ (.int .i64 l.length) := fun w hs => by
 have := hs _ _ hm.1
 simp [Builtin.len_,run_underlying t.dX,run_getObj_map this,goInt,Result.andThen]
abbrev NB (s : Int) (v : Value) (n : Nat) : MapEntry := { key := .int .i64 s,val := v,born := n }
theorem Hm [t : rW P T K V] (hm : BR σ b l clock) {v : Value} {Φ : Unit → Hp → Prop}
   (h0 : (∀ x ∈ l,x.key ≠ .int .i64 s) → ∀ σ',σ' = σ.set b (.map (l ++ [NB s v clock]).toArray (clock + 1)) → BR σ' b (l ++ [NB s v clock]) (clock + 1) → Φ () σ')
   (h1 : ∀ l1 e l2,l = l1 ++ e :: l2 → e.key = .int .i64 s → ∀ σ',σ' = σ.set b (.map (l1 ++ NB s v e.born :: l2).toArray clock) → BR σ' b (l1 ++ NB s v e.born :: l2) clock → Φ () σ') :
   AJ P (Instr.mapUpdate T (.map (some b)) (.int .i64 s) v) σ Φ := by
 obtain ⟨hb,Ca,hk⟩ := hm
 rcases FN (s := s) hk with ⟨hf,hn⟩ | ⟨l1,e,l2,hl,he,hf⟩
 · have Yy : (l ++ [NB s v clock]).toArray = l.toArray.push (NB s v clock) := by simp
   refine AJ.obj (v := ()) (o' := .map (l ++ [NB s v clock]).toArray (clock + 1)) hb (fun w hs => ⟨w,.inl rfl,?_⟩) (h0 hn _ rfl ⟨Hp.AB _ _ _,?_,?_⟩)
   · have := hs _ _ hb
     rw [Yy]
     simp only [Instr.mapUpdate,Sem.run_bind,run_underlying t.dX,run_getObj_map this,run_checkKey t.key (k := .int .i64 s) rfl,run_findKey t.key hf,Result.andThen_ok]
     simp [setObj,Sem.run,this,ChangeMaps.setBlock]
   · rw [Yy]; exact stamped_push Ca (by simpa using hn)
   · intro x hx
     rcases List.mem_append.1 hx with hx | hx
     · exact hk x hx
     · rw [List.mem_singleton] at hx; subst hx; rfl
 · subst hl
   have oL : (l1 ++ NB s v e.born :: l2).toArray = (l1 ++ e :: l2).toArray.modify l1.length (fun e => { e with key := .int .i64 s,val := v }) := by
     rw [← Array.toList_inj]
     apply List.ext_getElem?
     intro j
     simp only [Array.getElem?_toList,Array.getElem?_modify,List.getElem?_toArray]
     by_cases hj : l1.length = j
     · subst hj; simp
     · rw [if_neg hj]
       rcases Nat.lt_or_ge j l1.length with h | h
       · rw [List.getElem?_append_left h,List.getElem?_append_left h]
       · have : ∃ k,j = l1.length + (k + 1) := ⟨j - l1.length - 1,by omega⟩
         obtain ⟨k,rfl⟩ := this
         simp [List.getElem?_append_right]
   have iF : (l1 ++ e :: l2).toArray[l1.length]? = some e := by simp
   refine AJ.obj (v := ()) (o' := .map (l1 ++ NB s v e.born :: l2).toArray clock) hb (fun w hs => ⟨w,.inl rfl,?_⟩) (h1 l1 e l2 rfl he _ rfl ⟨Hp.AB _ _ _,?_,?_⟩)
   · have := hs _ _ hb
     rw [oL]
     simp only [Instr.mapUpdate,Sem.run_bind,run_underlying t.dX,run_getObj_map this,run_checkKey t.key (k := .int .i64 s) rfl,run_findKey t.key hf,Result.andThen_ok,iF,Option.map_some,Option.getD_some,he,
       run_keyThatStays (d := .int .i64) (k := .int .i64 s) rfl]
     simp [setObj,Sem.run,this,ChangeMaps.setBlock]
   · rw [oL]; exact stamped_modify Ca _ _ (fun _ _ => rfl) (fun e' _ Wt => by rw [iF] at Wt; cases Wt; exact he.symm)
   · intro x hx
     rcases List.mem_append.1 hx with hx | hx
     · exact hk x (List.mem_append_left _ hx)
     · rcases List.mem_cons.1 hx with rfl | hx
       · rfl
       · exact hk x (List.mem_append_right _ (List.mem_cons_of_mem _ hx))
end
end
end oM
end
section
namespace Tw
open Go
variable [Ey]
def Si (s : ByteArray) : List Value := s.data.toList.map fun b => .int .u8 b.toNat
theorem oN {s : ByteArray} : (Si s).length = s.size := by simp [Si]
theorem oO {s : ByteArray} : GO (Si s) := fun u hu => by obtain ⟨x,_,rfl⟩ := List.mem_map.1 hu; rfl
section append
variable {P : Program} {T E ty : TypeId} {bs : Nat} {σ : Hp} {p : Option Addr} {n c m : Nat} {cs ys : List Value} {Φ : Value → Hp → Prop}
theorem Sj {str : ByteArray} (w : World) (size : Nat) : (Builtin.firstCells size str.size (.string str)).run P w = .ok (Si str).toArray w := by
 have hx : (Array.map (fun b : UInt8 => Value.int IntKind.u8 (b.toNat : Int)) str.data).extract 0 str.size = (Si str).toArray := by
   have hs : str.size = (Array.map (fun b : UInt8 => Value.int IntKind.u8 (b.toNat : Int)) str.data).size := by rw [Array.size_map]; rfl
   rw [hs,Array.extract_size]
   apply Array.ext'
   simp [Si]
 have A7 : Array.map (fun b : UInt8 => Value.int IntKind.u8 (b.toNat : Int)) str.data = (Si str).toArray := by apply Array.ext'; simp [Si]
 simp [Builtin.firstCells,A7]
theorem tu [h : Jm P T E 1 bs] {U : TypeId} {str : ByteArray} (hU : P.underlying U = some .string) (Bb : A9 1 σ p n c cs) (hm : str.size = m) (vZ : Si str = ys) (hb : (n + m) * bs ≤ 140737488355328)
   (hΦ : ∀ p' c' σ',A9 1 σ' p' (n + m) c' (cs ++ ys) → Ext (σ.del p) (σ'.del p') → ((p' = p ∧ c' = c ∧ n + m ≤ c) ∨ (c < n + m ∧ Ext σ σ' ∧ ∀ a,p' = some a → σ a.block = none)) → Φ (.slice p' (n + m) c') σ') :
   AJ P (Builtin.append_ #[T,U] ty #[.slice p n c,.string str]) σ Φ := by
 obtain ⟨ht,⟨i,z,hi,hz,Je,rfl,hzs⟩,Qw,kF⟩ := h
 have h1 : GO ys := vZ ▸ oO
 have hyl : ys.length = m * 1 := by rw [← vZ,← hm,Nat.mul_one]; exact oN
 have h62 : n + m ≤ 140737488355328 := Nat.le_trans (Nat.le_mul_of_pos_right _ kF) hb
 intro w F hs hF
 have hf := Sj (P := P) (str := str) w 1
 rw [vZ,hm] at hf
 have rm := fun w' : World => Sj (P := P) (str := str) w' 1
 rw [vZ,hm] at rm
 have M7 := fun w' (hw : Sat σ w') => LO (P := P) (d := c) w' hw Bb.rd
 have hlen : (cs ++ ys).length = (n + m) * 1 := by rw [List.length_append,Bb.1,hyl,Nat.add_mul]
 by_cases HP : n + m ≤ c
 · -- there is room
   rcases Bb.2.2 with ⟨hp,hn,hc⟩ | ⟨b,o,arr,T',rfl,hblk,jg,Hr,M1⟩
   · subst hp hn hc
     have hm : m = 0 := by omega
     subst hm
     have vZ : ys = [] := List.eq_nil_of_length_eq_zero (by simpa using hyl)
     have M1 : cs = [] := List.eq_nil_of_length_eq_zero (by simpa using Bb.1)
     subst vZ M1
     refine ⟨.slice none 0 0,w,σ,?_,hΦ none 0 σ A9.nil (Ext.refl _) (.inl ⟨rfl,rfl,HP⟩),hs,fun b hb => ⟨(hF b hb).2,rfl⟩,.same rfl rfl rfl,rfl,Nat.le_refl _⟩
     simp [Builtin.append_,run_underlying ht,run_underlying hU,Je,hm,Go.sizeOf,typeInfo,hi,Builtin.lenOf,hf]
   · have hw := hs _ _ hblk
     have yT : o + n * 1 + 0 + ys.length ≤ arr.size := by
       rw [hyl]
       have : (n + m) * 1 ≤ c * 1 := Nat.mul_le_mul_right _ HP
       rw [Nat.add_mul] at this
       omega
     have Ca := ER (P := P) b (o + n * 1) T' ys 0 arr w hw yT h1
     simp only [Nat.add_zero,Nat.mul_one] at Ca
     refine ⟨.slice (some ⟨b,o,none⟩) (n + m) c,w.setRow b (M0 arr (o + n) ys),σ.set b (.cells (M0 arr (o + n) ys) T' (0,0)),?_,hΦ _ _ _ ⟨hlen,by omega,.inr ⟨b,o,_,T',rfl,Hp.AB _ _ _,HP,by rw [H5]; exact Hr,?_⟩⟩ (by rw [Hp.Ik]; exact Ext.refl _) (.inl ⟨rfl,rfl,HP⟩),?_⟩
     · simp [Builtin.append_,run_underlying ht,run_underlying hU,Je,hm,Go.sizeOf,typeInfo,hi,Builtin.lenOf,HP,hf,Bi,Ca]
     · refine List.ext_getElem? fun j => ?_
       rw [List.getElem?_take]
       simp only [List.getElem?_drop,Array.getElem?_toList]
       rw [QQ _ _ _ _ (by omega),List.getElem?_append]
       have e1 : cs.length = n * 1 := Bb.1
       have e2 : ys.length = m * 1 := hyl
       have e3 : (n + m) * 1 = n * 1 + m * 1 := Nat.add_mul ..
       by_cases yU : j < cs.length
       · rw [if_pos (by omega),if_neg (by omega),if_pos yU,← M1,List.getElem?_take,if_pos (by omega)]
         simp
       · rw [if_neg yU]
         by_cases hj2 : j < (n + m) * 1
         · rw [if_pos hj2,if_pos (by omega),show o + j - (o + n) = j - cs.length by omega]
         · rw [if_neg hj2,List.getElem?_eq_none (by omega)]
     · refine ⟨fun k u hk => ?_,fun k hk => ?_,.same rfl rfl rfl,rfl,by simp⟩
       · by_cases HQ : k = b
         · subst HQ; rw [Hp.AB] at hk; cases hk; exact setRow_heap w k arr _ T' (0,0) hw
         · rw [Hp.AI HQ] at hk; rw [setRow_other _ _ _ _ HQ]; exact hs k u hk
       · have HQ : k ≠ b := fun h => by have := (hF k hk).2; rw [h,hblk] at this; cases this
         exact ⟨by rw [Hp.AI HQ]; exact (hF k hk).2,setRow_other _ _ _ _ HQ⟩
 · -- it ADc
   have ADd : Builtin.nextslicecap (n + m) c * i.bytes ≤ 281474976710656 := growslice_fits (by omega) hb
   have hgc := grownCap_ge w (n + m) c E
   have Tk : Sat σ w.drew := hs
   have Cg : (Builtin.append_ #[T,U] ty #[.slice p n c,.string str]).run P w =
       .ok (.slice (some ⟨w.heap.size,0,none⟩) (n + m) (grownCap w (n + m) c E))
         (w.drew.alloc (.cells (cs.toArray ++ ys.toArray ++ Builtin.zeroCells z.cells (grownCap w (n + m) c E - (n + m))) E)) := by
     have yV : ¬ (9223372036854775807 < ((n : Int) + (m : Int))) := by omega
     have yW : ¬ (281474976710656 < Builtin.nextslicecap (n + m) c * i.bytes) := by omega
     simp [Builtin.append_,run_underlying ht,run_underlying hU,Je,hm,Go.sizeOf,typeInfo,zeroValue,hi,hz,Builtin.lenOf,HP,yV,yW,Question.forced,rm,M7 _ Tk,newRow,grownCap]
     congr 2
     apply Array.ext'
     simp [List.append_assoc]
   refine ⟨_,_,σ.set w.heap.size _,Cg,hΦ _ _ _ ⟨hlen,by omega,.inr ⟨w.heap.size,0,_,E,rfl,Hp.AB _ _ _,hgc,?_,?_⟩⟩ ?_ (.inr ⟨by omega,Ext.set (Fb hs),fun a ha => by cases ha; exact Fb hs⟩),Fin.alloc hs hF _ rfl ⟨rfl,rfl,fun _ => ⟨1,rfl⟩⟩ rfl⟩
   · simp only [Array.size_append,List.size_toArray,size_zeroCells,hzs,Bb.1,hyl,← Nat.add_mul]
     have : n + m + (grownCap w (n + m) c E - (n + m)) = grownCap w (n + m) c E := by omega
     rw [this]; omega
   · simp only [Array.toList_append,List.drop_zero]
     rw [← hlen]
     exact List.take_left
   · rw [Hp.M6 (Fb hs)]
     exact Ext.Ij σ p
end append
end Tw
end
section
namespace Tw
open Go
variable [Ey]
def Hp.or (N M : Hp) : Hp := fun k => match N k with | some o => some o | none => M k
def Dis (N M : Hp) : Prop := ∀ k,M k ≠ none → N k = none
theorem Hp.oP {N M : Hp} {k : Nat} {o : Obj} (h : N k = some o) : N.or M k = some o := by simp [Hp.or,h]
theorem Hp.Ty {N M : Hp} {k : Nat} (h : N k = none) : N.or M k = M k := by simp [Hp.or,h]
theorem Ext.oP (N M : Hp) : Ext N (N.or M) := fun _ _ h => Hp.oP h
theorem Ext.Ty {N M : Hp} (hd : Dis N M) : Ext M (N.or M) := fun k o h => by rw [Hp.Ty (hd k (by rw [h]; simp))]; exact h
theorem Ext.ew {N M σ : Hp} (h1 : Ext N σ) (h2 : Ext M σ) : Ext (N.or M) σ := fun k o h => by
 unfold Hp.or at h
 split at h
 · rename_i u hu; cases h; exact h1 _ _ hu
 · exact h2 _ _ h
end Tw
end
section
namespace TwW
open Go Tw Go.Proofs.Tryz
theorem Ag {σ : Hp} {b o : Nat} {c : Array Value} {t : TypeId} {fr : Nat × Nat} {v : Value} (h : σ b = some (.cells c t fr)) (hv : c[o]? = some v) : σ.ld ⟨b,o,none⟩ = some v := by simp [Hp.ld,h,hv]
section
variable {σ : Hp} {d : Nat} {S : List Nat} {R : Rr}
end
end TwW
namespace TwW
open Go Tw Go.Proofs.Tryz
section
variable {σ : Hp} {d : Nat} {S : List Nat} {R : Rr}
theorem A9.cap {s : Nat} {σ : Hp} {p : Option Addr} {n c : Nat} {cs : List Value} (h : A9 s σ p n c cs) : n ≤ c := by
 rcases h.2.2 with ⟨_,h1,h2⟩ | ⟨b,o,arr,T,_,_,h3,_⟩
 · omega
 · exact h3
end
end TwW
namespace TwW
open Go Tw Go.Proofs.Tryz
def uv (x : Nat) : List Int := if h : 128 ≤ x then ((x % 128 + 128 : Nat) : Int) :: uv (x / 128) else [(x : Int)]
termination_by x
decreasing_by omega
theorem oQ {x : Nat} (h : 128 ≤ x) : uv x = ((x % 128 + 128 : Nat) : Int) :: uv (x / 128) := by rw [uv,dif_pos h]
theorem Nf {x : Nat} (h : ¬ 128 ≤ x) : uv x = [(x : Int)] := by rw [uv,dif_neg h]
theorem oR : ∀ (k x : Nat),x < 128 ^ (k + 1) → (uv x).length ≤ k + 1
 | 0,x,h => by rw [Nf (by simpa using h)]; simp
 | k + 1,x,h => by
   by_cases hx : 128 ≤ x
   · rw [oQ hx]
     have := oR k (x / 128) (by rw [Nat.div_lt_iff_lt_mul (by decide)]; rw [Nat.pow_succ] at h; exact h)
     simp; omega
   · rw [Nf hx]; simp
theorem Kx {x : Nat} (h : x < 18446744073709551616) : (uv x).length ≤ 10 := oR 9 x (by omega)
set_option maxRecDepth 100000 in
theorem AHQ : ∀ y : Fin 256,Go.bits .or .u8 (y.1 : Int) 128 = ((y.1 % 128 + 128 : Nat) : Int) := by decide
theorem Ng {R : Rr} {σ : Hp} {p : Option Addr} {n c x : Nat} {xs : List Int} (hr : E7 .u8 σ p n xs) (hn : n ≤ 70368744177664) (hx : x < 18446744073709551616)
   (h : ∀ p' n' c' σ',Di .u8 (σ.new σ') p' n' c' (xs ++ uv x) → Ext σ σ' → R (.returned (.slice p' n' c')) σ') : Spec prog 107 #[.slice p n c,.int .u64 x] σ R := by
 refine Dt.start fun b hb => ?_
 refine DA A9.empty ((Ez.of_map hr).mono (.set hb)) GO.QR (by omega) fun p' c' σ' Bb I8 => ?_
 have hq : ∀ a : Addr,(some (⟨b,0,none⟩ : Addr)) = some a → σ a.block = none := fun a ha => by cases ha; exact hb
 have ho := A9.Qy Bb (Gc hq I8 (.set hb))
 have he := LP hq I8 (.set hb)
 refine ⟨p',0 + n,c',rfl,?_⟩
 rw [Nat.zero_add] at ho ⊢
 have hlen := hr.1
 suffices H : ∀ (k x n' : Nat) p' c' σ' ys,x < 128 ^ (k + 1) → n' + k ≤ n + 9 → Di .u8 (σ.new σ') p' n' c' ys → Ext σ σ' → (∀ p' n' c' σ',Di .u8 (σ.new σ') p' n' c' (ys ++ uv x) → Ext σ σ' → R (.returned (.slice p' n' c')) σ') → Dt.Gf R x p' n' c' σ' from
   H 9 x n p' c' σ' xs (by omega) (by omega) ho he h
 intro k
 induction k with
 | zero =>
   intro x n' p' c' σ' ys hx W2 ho he h
   refine Dt.BA ⟨fun An => by omega,fun _ bR ABG b2 Pw => ?_⟩
   have bg : bR = (x : Int) := by rw [ABG]; simp [IntKind.wrap,IntKind.bits,IntKind.signed]; omega
   subst bg
   refine Di.Jn he ho (by omega) (fun p2 c2 σ2 Be rZ _ => ⟨p2,n' + 1,c2,rfl,h _ _ _ _ ?_ rZ⟩) Pw
   rw [Nf (by omega)]; exact Be
 | succ k ih =>
   intro x n' p' c' σ' ys hx W2 ho he h
   refine Dt.BA ⟨fun An x15 ANJ x16 ANK b2 Pw => ?_,fun iF bR ABG b2 Pw => ?_⟩
   · have h15 : x15 = ((x % 256 : Nat) : Int) := by rw [ANJ]; simp [IntKind.wrap,IntKind.bits,IntKind.signed]
     have h16 : x16 = ((x % 128 + 128 : Nat) : Int) := by
       rw [ANK,h15,AHQ ⟨x % 256,Nat.mod_lt _ (by decide)⟩]
       have : x % 256 % 128 = x % 128 := by omega
       rw [this]
     subst h16
     refine Di.Jn he ho (by omega) (fun p2 c2 σ2 Be rZ _ => ⟨p2,n' + 1,c2,rfl,by simp [IntKind.bits],fun x12 ANL => ?_⟩) Pw
     have Wu : x12 = ((x / 128 : Nat) : Int) := by rw [ANL]; simp
     subst Wu
     refine ih (x / 128) (n' + 1) p2 c2 σ2 _ (by rw [Nat.div_lt_iff_lt_mul (by decide)]; rw [Nat.pow_succ] at hx; exact hx) (by omega) Be rZ fun p3 n3 c3 σ3 FV he3 => h p3 n3 c3 σ3 ?_ he3
     rw [oQ (by omega)]
     simpa using FV
   · have bg : bR = (x : Int) := by rw [ABG]; simp [IntKind.wrap,IntKind.bits,IntKind.signed]; omega
     subst bg
     refine Di.Jn he ho (by omega) (fun p2 c2 σ2 Be rZ _ => ⟨p2,n' + 1,c2,rfl,h _ _ _ _ ?_ rZ⟩) Pw
     rw [Nf (by omega)]; exact Be
end TwW
namespace TwW
open Go Tw Go.RowKit Go.Proofs.Tryz
theorem Ez.at1 {σ : Hp} {p : Option Addr} {n k : Nat} {L : List Value} {v : Value} (h : Ez 1 σ p n L) (hk : L[k]? = some v) : ∃ b o,p = some ⟨b,o,none⟩ ∧ σ.ld ⟨b,o + k * 1,none⟩ = some v := by
 obtain ⟨h1,_,h2⟩ := h
 have An := (List.getElem?_eq_some_iff.1 hk).1
 rcases h2 with h2 | ⟨b,o,hp,hl⟩
 · simp at h1; omega
 · refine ⟨b,o,hp,?_⟩
   rw [Nat.mul_one]
   exact hl.get hk
section
variable {σ τ : Hp} {d : Nat} {R : Rr}
end
section
variable {dir : ByteArray} {cnt : Nat}
end
end TwW
namespace TwW
open Go Tw Go.RowKit Go.Proofs.Tryz
def byt (s : ByteArray) : List Int := s.data.toList.map fun b => (b.toNat : Int)
theorem e9 {s : ByteArray} : (byt s).length = s.size := by simp [byt]
theorem oS {s : ByteArray} : Si s = (byt s).map (.int .u8) := by simp [Si,byt]
section
variable {σ : Hp} {R : Rr}
theorem Nh {p : Option Addr} {n c : Nat} {xs : List Int} {s : ByteArray} (hr : E7 .u8 σ p n xs) (hn : n ≤ 1048576) (hs : s.size ≤ 1048576)
   (h : ∀ p' n' c' σ',Di .u8 (σ.new σ') p' n' c' (xs ++ uv s.size ++ byt s) → Ext σ σ' → R (.returned (.slice p' n' c')) σ') : Spec prog 108 #[.slice p n c,.string s] σ R := by
 refine MF.start fun x8 h8 => ?_
 have e8 : x8 = (s.size : Int) := by rw [h8]; simp [IntKind.wrap,IntKind.bits,IntKind.signed]; omega
 subst e8
 refine Ng hr (by omega) (by omega) fun p' n' c' σ1 ho CH => ⟨p',n',c',rfl,?_⟩
 have hq : ∀ a,p' = some a → σ a.block = none := fun a ha => by
   have h2 := A9.block ho a ha
   cases hh : (σ.new σ1) a.block with
   | none => exact absurd hh h2
   | some o => exact (AS.1 hh).1
 have hl : (xs ++ uv s.size).length = n' := by have := ho.1; simpa using this
 have Sk := Kx (x := s.size) (by omega)
 have xg : xs.length = n := hr.1
 rw [List.length_append] at hl
 refine tu underlying9 (A9.mono (Ext.B8 _ _) ho) rfl oS (by omega) fun p2 c2 σ2 Be A7 _ => ⟨p2,_,c2,rfl,?_⟩
 have Pw := Gc hq A7 CH
 refine h p2 _ c2 σ2 ?_ (LP hq A7 CH)
 have := A9.Qy Be Pw
 simpa [Di] using this
theorem Pa {p : Option Addr} {n c : Nat} {xs : List Int} (h : Di .u8 σ p n c xs) : xs.length = n := by have := h.1; simpa using this
theorem fA {s : ByteArray} : (ByteArray.toList s == ByteArray.toList (ByteArray.mk #[])) = decide (s.size = 0) := by
 rw [ByteArray.toList_eq,ByteArray.toList_eq]
 by_cases h : s.size = 0
 · have : s = ⟨#[]⟩ := ByteArray.ext (Array.eq_empty_of_size_eq_zero h)
   subst this; rfl
 · rw [decide_eq_false h]
   simp only [beq_eq_false_iff_ne]
   intro e
   apply h
   have := congrArg List.length e
   simpa using this
end
end TwW
namespace TwW
open Go Tw Go.RowKit Go.Proofs.Tryz
abbrev Lb := ByteArray × ByteArray
def Bz (_ : Hp) (vs : List Value) (x : Lb) : Prop := vs = [.string x.1,.string x.2]
theorem Bz.mono : Gs Bz := fun _ _ _ _ _ h => h
abbrev E9 := Ad 2 Bz
section
variable {σ : Hp} {R : Rr}
theorem E9.at {p : Option Addr} {n i : Nat} {ls : List Lb} {x : Lb} (hr : E9 σ p n ls) (hx : ls[i]? = some x) : ∃ b o,p = some ⟨b,o,none⟩ ∧ Au σ b (o + i * 2) [.string x.1,.string x.2] := by
 obtain ⟨b,o,vs,hp,rfl,hl⟩ := Ad.idx hr hx
 exact ⟨b,o,hp,hl⟩
theorem Sl {s t : ByteArray} : (s.toList == t.toList) = decide (s = t) := by
 rw [ByteArray.toList_eq,ByteArray.toList_eq]
 by_cases h : s = t
 · subst h; simp
 · rw [decide_eq_false h,beq_eq_false_iff_ne]
   exact fun e => h (ByteArray.ext (Array.toList_inj.1 e))
theorem Qf {α : Type} {xs : List α} {k : Nat} {y : α} (hy : xs[k]? = some y) : xs.drop k = y :: xs.drop (k + 1) := by
 obtain ⟨h,rfl⟩ := List.getElem?_eq_some_iff.1 hy
 exact List.drop_eq_getElem_cons h
def Dk : List Lb → ByteArray → ByteArray
 | [],_ => ⟨#[]⟩
 | x :: l,k => if x.1 = k then x.2 else Dk l k
theorem Tz {p : Option Addr} {n c : Nat} {ls : List Lb} {k : ByteArray} (hr : E9 σ p n ls) (h : R (.returned (.string (Dk ls k))) σ) : Spec prog 180 #[.slice p n c,.string k] σ R := by
 refine IG.start ?_
 suffices H : ∀ d i : Nat,n - i = d → i ≤ n → Dk ls k = Dk (ls.drop i) k → IG.Hs R k p n c n i σ from H n 0 rfl (Nat.zero_le _) rfl
 intro d
 induction d with
 | zero =>
   intro i hd hi he
   refine IG.Bg ⟨fun An => by omega,fun _ => ?_⟩
   rw [List.drop_of_length_le (by rw [hr.1]; omega)] at he
   rw [he] at h; exact h
 | succ d ih =>
   intro i hd hi he
   refine IG.Bg ⟨fun _ => ?_,fun hh => by omega⟩
   have BN : i < n := by omega
   obtain ⟨x,hx⟩ := hr.ex BN
   obtain ⟨b,o,rfl,hl⟩ := E9.at hr hx
   rw [Qf hx,Dk] at he
   refine ⟨b,o,rfl,by omega,x.1,x.2,by simpa using hl,fun _ => ⟨fun hk => ?_,fun hk => ⟨AK BN hr.big,ih (i + 1) (by omega) (by omega) ?_⟩⟩⟩
   · rw [Sl,decide_eq_true_eq] at hk
     rw [if_pos hk] at he
     rw [he] at h; exact h
   · rw [Sl,decide_eq_false_iff_not] at hk
     rwa [if_neg hk] at he
theorem fB {s : ByteArray} {ok : UInt8 → Bool} {pt : Int → Prop} {G : Bool → Prop}
   (kL : G true → pt s.size) (JM : ∀ (k : Nat) (u : UInt8),k < s.size → s.data[Int.toNat (k : Int)]? = some u → AN ((k : Int) + 1) → (ok u = true → pt ((k : Int) + 1)) → (ok u = false → G false) → pt k)
   (h : G (s.data.toList.all ok)) (hb : s.size ≤ 4611686018427387904) : pt 0 := by
 have Hr : s.data.toList.length = s.size := rfl
 suffices H : ∀ d k : Nat,s.size - k = d → k ≤ s.size → (s.data.toList.take k).all ok = true → pt k from H s.size 0 rfl (Nat.zero_le _) rfl
 intro d
 induction d with
 | zero =>
   intro k hd hk H4
   rw [List.take_of_length_le (by omega)] at H4
   rw [H4] at h
   have : k = s.size := by omega
   rw [this]; exact kL h
 | succ d ih =>
   intro k hd hk H4
   have Hn : k < s.size := by omega
   obtain ⟨u,hu⟩ : ∃ u,s.data.toList[k]? = some u := ⟨_,List.getElem?_eq_getElem (by omega)⟩
   refine JM k u Hn (by simpa using hu) (by unfold AN; omega) (fun hc => ih (k + 1) (by omega) (by omega) (by rw [AZ hu,List.all_append,H4]; simpa using hc)) fun hc => ?_
   have : s.data.toList.all ok = false := by
     rw [List.all_eq_false]
     exact ⟨u,List.mem_of_getElem? hu,by simp [hc]⟩
   rwa [this] at h
def dgt (u : UInt8) : Bool := decide (48 ≤ u.toNat ∧ u.toNat ≤ 57)
def nch (u : UInt8) : Bool := decide (u.toNat = 95 ∨ (48 ≤ u.toNat ∧ u.toNat ≤ 57) ∨ (65 ≤ u.toNat ∧ u.toNat ≤ 90) ∨ (97 ≤ u.toNat ∧ u.toNat ≤ 122))
def DZ (s : ByteArray) : Bool := decide (0 < s.size) && decide (s.size ≤ 64) && !(s.data.toList.head?.any dgt) && s.data.toList.all nch
theorem Ky {s : ByteArray} (h : R (.returned (.bool (DZ s))) σ) : Spec prog 98 #[.string s] σ R := by
 have Hr : s.data.toList.length = s.size := rfl
 refine FM.start ⟨fun h0 => ?_,fun h0 => ⟨fun h1 => ?_,fun h1 => ?_⟩⟩
 · rw [fA,decide_eq_true_eq] at h0
   simpa [DZ,h0] using h
 · have : ¬ s.size ≤ 64 := by omega
   simpa [DZ,this] using h
 · rw [fA,decide_eq_false_iff_not] at h0
   obtain ⟨u,hu⟩ : ∃ u,s.data.toList[0]? = some u := ⟨_,List.getElem?_eq_getElem (by omega)⟩
   have Ct : s.data[Int.toNat (0 : Int)]? = some u := by simpa using hu
   have hh : s.data.toList.head? = some u := by rw [← hu]; cases s.data.toList <;> rfl
   have rest : dgt u = false → FM.E1 R s 0 σ := fun hd => by
     have e : DZ s = s.data.toList.all nch := by simp [DZ,show 0 < s.size by omega,show s.size ≤ 64 by omega,hh,hd]
     rw [e] at h
     refine fB (s := s) (pt := fun k => FM.E1 R s k σ) (ok := nch) (G := fun t => R (.returned (.bool t)) σ) (fun g => FM.EW ⟨fun An => by omega,fun _ => g⟩) (fun k u hk hu hi good bad => ?_) h (by omega)
     simp only [nch,decide_eq_true_eq,decide_eq_false_iff_not] at good bad
     refine FM.EW ⟨fun An => ⟨u,by omega,hu,?_⟩,fun iF => by omega⟩
     clear h
     generalize u.toNat = n at good bad
     repeat' (first | refine ⟨fun _ => ?_,fun _ => ?_⟩ | exact ⟨hi,good (by omega)⟩ | exact bad (by omega))
   simp only [dgt,decide_eq_false_iff_not] at rest
   refine ⟨u,by omega,Ct,fun h2 => ⟨u,by omega,Ct,fun h3 => ?_,fun h3 => rest (by omega)⟩,fun h2 => rest (by omega)⟩
   have : dgt u = true := by simp [dgt]; omega
   simpa [DZ,hh,this] using h
def vl : Nat → Nat → Nat → List UInt8 → Bool
 | 0,_,_,[] => true
 | _ + 1,_,_,[] => false
 | 0,_,_,c :: r =>
   if c.toNat < 128 then vl 0 128 191 r
   else if 194 ≤ c.toNat ∧ c.toNat ≤ 223 then vl 1 128 191 r
   else if 224 ≤ c.toNat ∧ c.toNat ≤ 239 then (if c.toNat = 224 then vl 2 160 191 r else if c.toNat = 237 then vl 2 128 159 r else vl 2 128 191 r)
   else if 240 ≤ c.toNat ∧ c.toNat ≤ 244 then (if c.toNat = 240 then vl 3 144 191 r else if c.toNat = 244 then vl 3 128 143 r else vl 3 128 191 r)
   else false
 | m + 1,lo,hi,c :: r => if c.toNat < lo ∨ hi < c.toNat then false else vl m 128 191 r
def T1 (s : ByteArray) : Bool := vl 0 128 191 s.data.toList
theorem vl0 (l : List UInt8) (a b c d : Nat) : vl 0 a b l = vl 0 c d l := by cases l <;> rfl
attribute [local irreducible] Aj.Bk Aj.HG Aj.lq in
theorem QD {s : ByteArray} (hb : s.size ≤ 4611686018427387904) (h : R (.returned (.bool (T1 s))) σ) : Spec prog 99 #[.string s] σ R := by
 have Hr : s.data.toList.length = s.size := rfl
 refine Aj.start ?_
 suffices H : ∀ d : Nat,(∀ k : Nat,s.size - k = d → k ≤ s.size → T1 s = vl 0 128 191 (s.data.toList.drop k) → Aj.Bk R s k σ) ∧
     (∀ (k m lo hi : Nat),s.size - k = d → k ≤ s.size → T1 s = vl m lo hi (s.data.toList.drop k) → m ≤ 3 → Aj.lq R s k m lo hi σ) from (H s.size).1 0 (by omega) (by omega) rfl
 intro d
 induction d with
 | zero =>
   have A : ∀ k : Nat,s.size - k = 0 → k ≤ s.size → T1 s = vl 0 128 191 (s.data.toList.drop k) → Aj.Bk R s k σ := fun k hd hk he => by
     refine Aj.A5 ⟨fun _ => ?_,fun Az => by omega⟩
     rw [List.drop_of_length_le (by omega)] at he
     rw [he] at h; exact h
   refine ⟨A,fun k m lo hi hd hk he hm => Aj.eT ⟨fun h0 => A k hd hk ?_,fun h0 => ⟨fun _ => ?_,fun Az => by omega⟩⟩⟩
   · have : m = 0 := by omega
     subst this; rw [he]; exact vl0 _ _ _ _ _
   · obtain ⟨m',rfl⟩ : ∃ m',m = m' + 1 := ⟨m - 1,by omega⟩
     rw [List.drop_of_length_le (by omega)] at he
     rw [he] at h; exact h
 | succ d ih =>
   have A : ∀ k : Nat,s.size - k = d + 1 → k ≤ s.size → T1 s = vl 0 128 191 (s.data.toList.drop k) → Aj.Bk R s k σ := fun k hd hk he => by
     have Hn : k < s.size := by omega
     obtain ⟨u,hu⟩ : ∃ u,s.data.toList[k]? = some u := ⟨_,List.getElem?_eq_getElem (by omega)⟩
     have Ct : s.data[Int.toNat (k : Int)]? = some u := by simpa using hu
     have hi : AN ((k : Int) + 1) := by unfold AN; omega
     rw [Qf hu,vl] at he
     have st : ∀ (m lo hi : Nat),m ≤ 3 → T1 s = vl m lo hi (s.data.toList.drop (k + 1)) → Aj.HG R s k m lo hi σ := fun m lo hh hm he => Aj.tK ⟨hi,ih.2 (k + 1) m lo hh (by omega) (by omega) he hm⟩
     have nx : T1 s = vl 0 128 191 (s.data.toList.drop (k + 1)) → Aj.Bk R s ((k : Int) + 1) σ := fun he => ih.1 (k + 1) (by omega) (by omega) he
     have no : T1 s = false → R (.returned (.bool false)) σ := fun e => by rw [e] at h; exact h
     refine Aj.A5 ⟨fun Az => by omega,fun _ => ⟨u,by omega,Ct,?_⟩⟩
     generalize s.data.toList.drop (k + 1) = r at he st nx
     clear ih h hu Ct
     generalize u.toNat = n at he
     have st1 := st 1 128 191 (by omega)
     have st2 := st 2 160 191 (by omega)
     have va := st 2 128 159 (by omega)
     have st4 := st 2 128 191 (by omega)
     have st5 := st 3 144 191 (by omega)
     have st6 := st 3 128 143 (by omega)
     have st7 := st 3 128 191 (by omega)
     repeat' (first | refine ⟨fun _ => ?_,fun _ => ?_⟩ | refine ⟨hi,nx ?_⟩ | refine st1 ?_ | refine st2 ?_ | refine va ?_ | refine st4 ?_ | refine st5 ?_ | refine st6 ?_ | refine st7 ?_ | refine no ?_)
     all_goals first | (exfalso; clear he; omega) | (rw [he]; repeat' (first | rfl | rw [if_pos (by omega)] | rw [if_neg (by omega)]))
   refine ⟨A,fun k m lo hi hd hk he hm => Aj.eT ⟨fun h0 => A k hd hk ?_,fun h0 => ⟨fun Az => by omega,fun _ => ?_⟩⟩⟩
   · have : m = 0 := by omega
     subst this; rw [he]; exact vl0 _ _ _ _ _
   · obtain ⟨m',rfl⟩ : ∃ m',m = m' + 1 := ⟨m - 1,by omega⟩
     have Hn : k < s.size := by omega
     obtain ⟨u,hu⟩ : ∃ u,s.data.toList[k]? = some u := ⟨_,List.getElem?_eq_getElem (by omega)⟩
     have Ct : s.data[Int.toNat (k : Int)]? = some u := by simpa using hu
     rw [Qf hu,vl] at he
     refine ⟨u,by omega,Ct,fun h1 => ?_,fun h1 => ⟨u,by omega,Ct,fun h2 => ?_,fun h2 => ⟨by unfold AN; omega,by unfold AN; omega,?_⟩⟩⟩
     · rw [if_pos (by omega)] at he
       rw [he] at h; exact h
     · rw [if_pos (by omega)] at he
       rw [he] at h; exact h
     · rw [if_neg (by omega)] at he
       have := ih.2 (k + 1) m' 128 191 (by omega) (by omega) he (by omega)
       have e1 : ((m' + 1 : Nat) : Int) - 1 = (m' : Nat) := by omega
       rw [e1]; exact this
end
end TwW
namespace TwW
open Go Tw Go.RowKit Go.Proofs.Tryz
section
variable {σ : Hp} {R : Rr}
def sle (a b : ByteArray) : Bool := Op.bytesLess a.toList b.toList || a.toList == b.toList
theorem ABI {x y : Operand} {a b : ByteArray} {T : TypeId} : YF prog (do eqGuard .leq T x y (.string a) (.string b); binOp .leq T (.string a) (.string b)) σ (.bool (sle a b)) := fun w _ => by
 simp [eqGuard,binOp,Op.stringOp,sle]
def Pb : Option ByteArray → List Lb → Int
 | _,[] => 0
 | pv,x :: l => if DZ x.1 = false then 31 else if x.2.size = 0 ∨ 256 < x.2.size ∨ T1 x.2 = false then 32 else if pv.any (sle x.1 ·) = true then 33 else Pb (some x.1) l
def Sm (ls : List Lb) : Int := if 16 < ls.length then 30 else Pb none ls
theorem QE {p : Option Addr} {n c : Nat} {ls : List Lb} (hr : E9 σ p n ls) (h : R (.returned (.int .i64 (Sm ls))) σ) : Spec prog 68 #[.slice p n c] σ R := by
 have hn : ls.length = n := hr.1
 refine EE.start ⟨fun h1 => ?_,fun h1 => ?_⟩
 · rw [Sm,if_pos (by omega)] at h; exact h
 rw [Sm,if_neg (by omega)] at h
 let pv : Nat → Option ByteArray := fun i => if i = 0 then none else (ls[i - 1]?).map (·.1)
 suffices H : ∀ d i : Nat,n - i = d → i ≤ n → Pb none ls = Pb (pv i) (ls.drop i) → EE.Lq R p n c p n c n i σ from H n 0 rfl (Nat.zero_le _) rfl
 intro d
 induction d with
 | zero =>
   intro i hd hi he
   refine EE.Ip ⟨fun An => by omega,fun _ => ?_⟩
   rw [List.drop_of_length_le (by omega)] at he
   rw [he] at h; exact h
 | succ d ih =>
   intro i hd hi he
   have BN : i < n := by omega
   obtain ⟨x,hx⟩ := hr.ex BN
   obtain ⟨b,o,rfl,hl⟩ := E9.at hr hx
   rw [Qf hx,Pb] at he
   have out : ∀ e : Int,Pb none ls = e → R (.returned (.int .i64 e)) σ := fun e h1 => h1 ▸ h
   refine EE.Ip ⟨fun _ => ?_,fun hh => by omega⟩
   refine ⟨b,o,rfl,by omega,x.1,x.2,by simpa using hl,fun _ => Ky ⟨_,rfl,fun h1 => out _ ?_,fun h1 => ?_⟩⟩
   · rw [he,if_pos h1]
   rw [if_neg (by simp [h1])] at he
   rw [fA]
   refine ⟨fun h2 => out _ ?_,fun h2 => ⟨fun h3 => out _ ?_,fun h3 => QD (by omega) ⟨_,rfl,fun h4 => out _ ?_,fun h4 => ?_⟩⟩⟩
   · rw [he,if_pos (.inl (by simpa using h2))]
   · rw [he,if_pos (.inr (.inl (by omega)))]
   · rw [he,if_pos (.inr (.inr h4))]
   rw [if_neg (by rw [decide_eq_false_iff_not] at h2; simp [h2,h4]; omega)] at he
   have nx : pv (i + 1) = some x.1 := by simp [pv,hx]
   have go : (pv i).any (sle x.1 ·) = false → EE.Lq R (aD b o) n c (aD b o) n c n ((i : Int) + 1) σ := fun h5 => by
     rw [if_neg (by simp [h5]),← nx] at he
     exact ih (i + 1) (by omega) (by omega) he
   refine ⟨fun h5 => ?_,fun h5 => ⟨AK BN hr.big,go ?_⟩⟩
   · obtain ⟨y,hy⟩ := hr.ex (k := i - 1) (by omega)
     obtain ⟨b',o',hp,Wk⟩ := E9.at hr hy
     cases hp
     have e1 : ((i : Int) - 1).toNat = i - 1 := by omega
     have hpv : pv i = some y.1 := by simp [pv,hy,show i ≠ 0 by omega]
     refine ⟨by have := hr.big; unfold AN; omega,b,o,rfl,by omega,y.1,by rw [e1]; exact Wk.1,_,ABI,fun h6 => out _ ?_,fun h6 => ⟨AK BN hr.big,go ?_⟩⟩
     · rw [he,if_pos (by rw [hpv]; exact h6)]
     · rw [hpv]; exact h6
   · have : i = 0 := by omega
     simp [pv,this]
theorem Uv : ∀ {ls : List Lb} {pv : Option ByteArray},Pb pv ls = 0 → ∀ x ∈ ls,DZ x.1 = true ∧ 0 < x.2.size ∧ x.2.size ≤ 256 ∧ T1 x.2 = true
 | [],_,_,_,hx => by cases hx
 | y :: l,pv,h,x,hx => by
   rw [Pb] at h
   split at h
   · cases h
   split at h
   · cases h
   split at h
   · cases h
   rename_i h1 h2 h3
   rcases List.mem_cons.1 hx with rfl | hx
   · simp only [not_or,Bool.not_eq_false] at h1 h2
     exact ⟨h1,by omega,by omega,h2.2.2⟩
   · exact Uv h x hx
def Aq (ls : List Lb) : Prop := ls.length ≤ 16 ∧ ∀ x ∈ ls,x.1.size ≤ 256 ∧ x.2.size ≤ 256
theorem Aq.of {ls : List Lb} (h : Sm ls = 0) : Aq ls := by
 unfold Sm at h
 split at h
 · cases h
 · refine ⟨by omega,fun x hx => ?_⟩
   obtain ⟨h1,_,h2,_⟩ := Uv h x hx
   simp [DZ] at h1
   exact ⟨by omega,h2⟩
theorem Bz.one (σ : Hp) (vs : List Value) (x : Lb) (h : Bz σ vs x) : GO vs := by
 rw [h]
 intro u hu
 simp only [List.mem_cons,List.not_mem_nil,or_false] at hu
 rcases hu with rfl | rfl <;> rfl
theorem IM {σ1 : Hp} {q : Option Addr} {j c b : Nat} {ls : List Lb} {ty : TypeId} {Φ : Value → Hp → Prop} (ht : E9 σ1 q j ls) (hb : j ≤ 1000000000)
   (hΦ : ∀ p' c' σ',F3 2 Bz (σ1.new σ') p' j c' ls → Ext σ1 σ' → Φ (.slice p' j c') σ') (hn : σ1 b = none) :
   AJ prog (Builtin.append_ #[37,37] ty #[.slice (some ⟨b,0,none⟩) 0 0,.slice q j c]) (σ1.set b (.cells #[] 56 (0,0))) Φ := by
 obtain ⟨h1,cs,h2,h3⟩ := ht
 refine DA A9.empty (h2.mono (.set hn)) (Ch.yY Bz.one h3 (by decide)) (by omega) fun p' c' σ' Bb I8 => ?_
 have hq : ∀ a : Addr,(some (⟨b,0,none⟩ : Addr)) = some a → σ1 a.block = none := fun a ha => by cases ha; exact hn
 rw [Nat.zero_add] at Bb ⊢
 rw [List.nil_append] at Bb
 exact hΦ p' c' σ' ⟨h1,cs,A9.Qy Bb (Gc hq I8 (.set hn)),h3⟩ (LP hq I8 (.set hn))
def Uw (x : Lb) : List Int := uv x.1.size ++ byt x.1 ++ (uv x.2.size ++ byt x.2)
def ABJ (ls : List Lb) : List Int := uv ls.length ++ ls.flatMap Uw
theorem iG {x : Lb} (h : x.1.size ≤ 256 ∧ x.2.size ≤ 256) : (Uw x).length ≤ 532 := by
 have h1 := Kx (x := x.1.size) (by omega)
 have h2 := Kx (x := x.2.size) (by omega)
 simp only [Uw,List.length_append,e9]
 omega
theorem oT {ls : List Lb} (h : ∀ x ∈ ls,x.1.size ≤ 256 ∧ x.2.size ≤ 256) : (ls.flatMap Uw).length ≤ ls.length * 532 := by
 induction ls with
 | nil => simp
 | cons x l ih =>
   have := ih fun y hy => h y (List.mem_cons_of_mem _ hy)
   have := iG (h x (by simp))
   rw [List.flatMap_cons,List.length_append,List.length_cons]
   omega
theorem WA {p : Option Addr} {n c : Nat} {ls : List Lb} (hr : E9 σ p n ls) (hs : Aq ls) (h : ∀ p' n' c' σ',Di .u8 (σ.new σ') p' n' c' (ABJ ls) → Ext σ σ' → R (.returned (.slice p' n' c')) σ') : Spec prog 72 #[.slice p n c] σ R := by
 have hn : ls.length = n := hr.1
 have h16 := hs.1
 refine Em.start fun x8 h8 => ?_
 have e8 : x8 = (n : Int) := by rw [h8]; simp [IntKind.wrap,IntKind.bits,IntKind.signed]; omega
 subst e8
 refine Ng Ad.nil (by omega) (by omega) fun p1 n1 c1 σ1 az CH => ⟨p1,n1,c1,rfl,?_⟩
 rw [List.nil_append] at az
 suffices H : ∀ d k : Nat,∀ p3 n3 c3 σ3,n - k = d → k ≤ n → Di .u8 (σ.new σ3) p3 n3 c3 (uv n ++ (ls.take k).flatMap Uw) → Ext σ σ3 → Em.A8 R p3 n3 c3 p n c n k σ3 from H n 0 p1 n1 c1 σ1 rfl (Nat.zero_le _) (by simpa using az) CH
 intro d
 induction d with
 | zero =>
   intro k p3 n3 c3 σ3 hd hk ho hx
   refine Em.Aa ⟨fun An => by omega,fun _ => h p3 n3 c3 σ3 ?_ hx⟩
   rw [List.take_of_length_le (by omega)] at ho
   rw [ABJ,hn]; exact ho
 | succ d ih =>
   intro k p3 n3 c3 σ3 hd hk ho hx
   have Hn : k < n := by omega
   obtain ⟨y,hy⟩ := hr.ex Hn
   obtain ⟨b,o,rfl,hl⟩ := E9.at hr hy
   have jw := hs.2 y (List.mem_of_getElem? hy)
   have hl3 := Pa ho
   have Sk := Kx (x := n) (by omega)
   have hfl := oT (ls := ls.take k) fun x hx => hs.2 x (List.mem_of_mem_take hx)
   rw [List.length_append] at hl3
   rw [List.length_take] at hfl
   have h3b : n3 ≤ 9000 := by omega
   refine Em.Aa ⟨fun _ => ⟨b,o,rfl,by omega,y.1,y.2,by simpa using hl.mono hx,fun _ => ?_⟩,fun hh => by omega⟩
   refine Nh (Di.rd (A9.mono (Ext.B8 _ _) ho)) (by omega) (by omega) fun p4 n4 c4 σ4 Mm MP => ⟨p4,n4,c4,rfl,?_⟩
   have hl4 := Pa Mm
   have iH := Kx (x := y.1.size) (by omega)
   simp only [List.length_append,e9] at hl4
   refine Nh (Di.rd (A9.mono (Ext.B8 _ _) Mm)) (by omega) (by omega) fun p5 n5 c5 σ5 Pc Sn => ⟨p5,n5,c5,rfl,AK Hn hr.big,?_⟩
   refine ih (k + 1) p5 n5 c5 σ5 (by omega) (by omega) ?_ (hx.trans (MP.trans Sn))
   have := A9.mono (Ext.C9 (hx.trans MP)) Pc
   rw [AZ hy,List.flatMap_append]
   simpa [Uw,Di] using this
end
end TwW
namespace TwW
open Go Tw Go.RowKit Go.Proofs.Tryz
section
variable {σ σ' τ : Hp} {R : Rr}
def Da (x : ByteArray) (xs : List ByteArray) : Bool := xs.any fun y => decide (x = y)
theorem BE {x : ByteArray} {xs : List ByteArray} : Da x xs = true ↔ x ∈ xs := by simp [Da]
theorem Kz {p : Option Addr} {n c : Nat} {x : ByteArray} {xs : List ByteArray} (hr : Ez 1 σ p n (xs.map .string)) (h : R (.returned (.bool (Da x xs))) σ) : Spec prog 199 #[.slice p n c,.string x] σ R := by
 have hn : xs.length = n := by have := hr.1; simpa using this
 have Ho : n ≤ 4611686018427387904 := hr.2.1
 have key : ∀ i : Int,(0 ≤ i ↔ x ∈ xs) → AA R (CI .i64 fun x7 y => R (.returned (.bool (decide (0 ≤ x7)))) y) (.returned (.int .i64 i)) σ := fun i hi => ⟨i,rfl,by
   dsimp only
   rw [show decide (0 ≤ i) = Da x xs by rw [Bool.eq_iff_iff,BE,decide_eq_true_eq]; exact hi]; exact h⟩
 refine Ea.start (BM.start ?_)
 suffices H : ∀ d k : Nat,n - k = d → k ≤ n → x ∉ xs.take k → BM.Hs (AA R (CI .i64 fun x7 y => R (.returned (.bool (decide (0 ≤ x7)))) y)) p n c x n k σ from H n 0 rfl (Nat.zero_le _) (by simp)
 intro d
 induction d with
 | zero =>
   intro k hd hk D2
   refine BM.Bg ⟨fun An => by omega,fun _ => key (-1) ?_⟩
   rw [List.take_of_length_le (by omega)] at D2
   exact ⟨fun h => absurd h (by decide),fun h => absurd h D2⟩
 | succ d ih =>
   intro k hd hk D2
   have Hn : k < n := by omega
   obtain ⟨y,hy⟩ : ∃ y,xs[k]? = some y := ⟨_,List.getElem?_eq_getElem (by omega)⟩
   obtain ⟨b,o,rfl,hl⟩ := Ez.at1 hr (k := k) (v := .string y) (by rw [List.getElem?_map,hy]; rfl)
   refine BM.Bg ⟨fun _ => ⟨b,o,rfl,by omega,y,by simpa using hl,fun he => key k ⟨fun _ => ?_,fun _ => by omega⟩,fun Az => ⟨AK Hn Ho,ih (k + 1) (by omega) (by omega) ?_⟩⟩,fun iF => by omega⟩
   · rw [Sl,decide_eq_true_eq] at he
     rw [he]; exact List.mem_of_getElem? hy
   · rw [Sl,decide_eq_false_iff_not] at Az
     rw [Tj hy]
     rintro (h1 | h1)
     · exact D2 h1
     · exact Az h1
theorem Pd {f : Nat} {cap : Array Value} {g : Lb → Bool} {p : Option Addr} {n c : Nat} {ls : List Lb} (OJ : Enters prog f) (hr : E9 σ p n ls) (hn : n ≤ 1000000)
   (hf : ∀ (σ' : Hp) (x : Lb) (R' : Rr),Ext σ σ' → R' (.returned (.bool (g x))) σ' → Spec prog f (#[] ++ #[.agg #[.string x.1,.string x.2]] ++ cap) σ' R')
   (h : ∀ p' n' c' σ',F3 2 Bz (σ.new σ') p' n' c' (ls.filter g) → Ext σ σ' → R (.returned (.slice p' n' c')) σ') : Spec prog 197 #[.slice p n c,.func (.func f) #[] cap] σ R := by
 have tw : ls.length = n := hr.1
 refine CO.start ?_
 suffices H : ∀ d k : Nat,∀ p5 n5 c5 σ5,n - k = d → k ≤ n → F3 2 Bz (σ.new σ5) p5 n5 c5 ((ls.take k).filter g) → Ext σ σ5 → CO.A8 R (.func (.func f) #[] cap) p5 n5 c5 p n c n k σ5 from H n 0 none 0 0 σ rfl (Nat.zero_le _) F3.nil (.refl _)
 intro d
 induction d with
 | zero =>
   intro k p5 n5 c5 σ5 hd hk ho hx
   refine CO.Aa ⟨fun An => by omega,fun _ => h p5 n5 c5 σ5 ?_ hx⟩
   rw [List.take_of_length_le (by omega)] at ho; exact ho
 | succ d ih =>
   intro k p5 n5 c5 σ5 hd hk ho hx
   have Hn : k < n := by omega
   obtain ⟨x,iI⟩ := hr.ex Hn
   obtain ⟨b,o,rfl,hl⟩ := E9.at hr iI
   have hn5 : n5 ≤ n := by
     have h1 := ho.1
     have h2 := List.length_filter_le g (ls.take k)
     rw [List.length_take] at h2
     omega
   have ht : (ls.take (k + 1)).filter g = (ls.take k).filter g ++ if g x then [x] else [] := by
     rw [AZ iI,List.filter_append]
     by_cases hg : g x <;> simp [hg]
   refine CO.Aa ⟨fun _ => ⟨b,o,rfl,by omega,x.1,x.2,by simpa using hl.mono hx,fun _ => ⟨f,#[],cap,rfl,OJ,hf σ5 x _ hx ⟨_,rfl,fun hg CR ANM => ?_,fun hg => ?_⟩⟩⟩,fun hh => by omega⟩
   · refine F3.Jn Bz.mono (vs := [.string x.1,.string x.2]) (x := x) hx ho rfl (Bz.one σ _ _ rfl) rfl (by omega) (fun p' c' σ' M7 T3 => ⟨_,_,_,rfl,CO.QZ ⟨AK Hn hr.big,ih (k + 1) _ _ _ _ (by omega) (by omega) ?_ T3⟩⟩) ANM
     rw [ht,if_pos hg]; exact M7
   · refine CO.QZ ⟨AK Hn hr.big,ih (k + 1) _ _ _ _ (by omega) (by omega) ?_ hx⟩
     rw [ht,if_neg (by simp [hg]),List.append_nil]; exact ho
theorem AHU : Enters prog 200 := fun args w => call200 args w
theorem I9 {p q : Option Addr} {n c m d : Nat} {ls : List Lb} {ns : List ByteArray} (hr : E9 σ p n ls) (hn : n ≤ 1000000) (hs : Ez 1 σ q m (ns.map .string))
   (h : ∀ p' n' c' σ',F3 2 Bz (σ.new σ') p' n' c' (ls.filter fun x => !Da x.1 ns) → Ext σ σ' → R (.returned (.slice p' n' c')) σ') : Spec prog 150 #[.slice p n c,.slice q m d] σ R := by
 refine MN.start fun b3 Z3 => ?_
 have Du : Ext σ (σ.set b3 (.cells #[.slice q m d] 34 (0,0))) := .set Z3
 refine Pd (f := 200) (g := fun x => !Da x.1 ns) AHU (hr.mono Bz.mono Du) hn (fun σ' x R' hx Lg => ?_) fun p' n' c' σ' ho hx => ⟨_,_,_,rfl,h p' n' c' σ' ?_ (Du.trans hx)⟩
 · refine JY.start fun _ => ⟨q,m,d,Ag (hx _ _ (Hp.AB _ _ _)) rfl,Kz (hs.mono (Du.trans hx)) ⟨_,rfl,Lg⟩⟩
 · exact ho.mono Bz.mono (Ext.C9 Du)
end
end TwW
namespace TwW
open Go Tw Go.RowKit Go.Proofs.Tryz
section
variable {σ σ' τ : Hp} {R : Rr}
theorem WB {α : Type} {b : Nat} {T : TypeId} {f : α → Value} {x : α} {ρ : Hp} (h : ρ b = some (.cells #[f x] T (0,0))) : Ez 1 ρ (some ⟨b,0,none⟩) 1 ([x].map f) := ⟨rfl,by omega,.inr ⟨b,0,rfl,⟨Ag h rfl,trivial⟩⟩⟩
end
end TwW
end
section
namespace TwW
open Go Tw
structure Mt where
 kind : Int
 name : ByteArray
 val : ByteArray
structure Nd where
 kind : Int
 op : Int
 text : ByteArray
 mt : List Mt
 width : Int
 back : Int
 EO : Int
 names : List ByteArray
 bool : Bool
 parts : Int
structure Sr where
 ls : List Lb
 ps : List (Int × Int)
structure El where
 ls : List Lb
 v : Int
structure Rg where
 ls : List Lb
 vs : List Int
structure Vv where
 kind : Int
 v : Int
 vec : List El
 OT : List Rg
structure Fl where
 num : ByteArray → Int
 abs : Int → Int
 floor : Int → Int
 whole : Int → Int
 oU : Int → Int
 over : Int → List Int → Int → Option Int
 fold : Int → List Int → Int
 QF : Int → Int → Int → Int × Bool
 iJ : List Mt → List Lb → Bool
 cmpL : List Lb → List Lb → Int
abbrev Ja : Int := 9218868437227405314
def DT : ByteArray := ⟨#[95,95,110,97,109,101,95,95]⟩
def Db (ls : List Lb) : ByteArray := strOfNums (ABJ ls)
section
variable {α : Type}
def WC : List (ByteArray × α) → ByteArray → α → List (ByteArray × α)
 | [],k,x => [(k,x)]
 | (a,b) :: l,k,x => if a = k then (k,x) :: l else (a,b) :: WC l k x
def DU : List (ByteArray × α) → ByteArray → Option α
 | [],_ => none
 | (a,b) :: l,k => if a = k then some b else DU l k
end
def Dx (ls : List Lb) : List Lb := ls.filter fun x => !Da x.1 [DT]
def Yz (ns : List ByteArray) (ls : List Lb) : List Lb := ls.filter fun x => Da x.1 ns
def Y0 (ns : List ByteArray) (ls : List Lb) : List Lb := ls.filter fun x => !Da x.1 ns
section
variable (F : Fl)
def bh (x : El) : List El → List El
 | [] => [x]
 | y :: l => if F.cmpL x.ls y.ls ≤ 0 then x :: y :: l else y :: bh x l
def Y1 (l : List El) : List El := l.foldr (bh F) []
def Bu (l : List El) : Option (List El) := if l.Pairwise (fun a b => F.cmpL a.ls b.ls ≠ 0) then some (Y1 F l) else none
def GF (ps : List (Int × Int)) (Dy G6 : Int) : List (Int × Int) := ps.filter fun p => decide (Dy < p.1) && decide (p.1 ≤ G6)
def BZ (n : Nd) (ss : List Sr) (at_ : Int) : List El := ss.filterMap fun s => match (GF s.ps (at_ - n.back - 300) (at_ - n.back)).getLast? with
 | none => none
 | some p => if p.2 = Ja ∨ F.iJ n.mt s.ls = false then none else some ⟨s.ls,p.2⟩
def bj (n : Nd) (ss : List Sr) (at_ : Int) : List Rg := ss.filterMap fun s =>
 let vs := ((GF s.ps (at_ - n.back - n.width) (at_ - n.back)).filter fun p => decide (p.2 ≠ Ja)).map Prod.snd
 bif !vs.isEmpty && F.iJ n.mt s.ls then some ⟨s.ls,vs⟩ else none
def Ux (n : Nd) (p : Vv) : List El := (p.vec.map fun x => ⟨Dx x.ls,if n.op = 11 then F.abs x.v else F.floor x.v⟩) ++ p.OT.filterMap fun s => (F.over n.op s.vs p.v).map fun v => ⟨Dx s.ls,v⟩
def BB (n : Nd) (ls : List Lb) : List Lb := if n.EO = 1 then Yz n.names ls else if n.EO = 2 then Dx (Y0 n.names ls) else []
def GG (ls : List Lb) (v : Int) : List Rg → List Rg
 | [] => [⟨ls,[v]⟩]
 | g :: l => if Db g.ls = Db ls then ⟨g.ls,g.vs ++ [v]⟩ :: l else g :: GG ls v l
def HK (n : Nd) (p : Vv) : List El := (p.vec.foldl (fun gs x => GG (BB n x.ls) x.v gs) []).map fun g => ⟨g.ls,F.fold n.op g.vs⟩
def Ft (op : Int) : Bool := decide (5 ≤ op) && decide (op ≤ 10)
def Y2 (n : Nd) (vec : List El) (f : Int → Int × Bool) : List El := vec.filterMap fun x =>
 if Ft n.op = false ∨ n.bool = true then some ⟨Dx x.ls,(f x.v).1⟩ else if (f x.v).2 then some x else none
def OC (n : Nd) (ls : List Lb) : List Lb := if n.EO = 3 then Yz n.names ls else Dx (Y0 n.names ls)
def WD (n : Nd) (l : List El) : List (ByteArray × El) := l.foldl (fun m x => WC m (Db (OC n x.ls)) x) []
def Uy (n : Nd) (l : List El) (k : List Lb) : Option El := DU (WD n l) (Db k)
def iK (n : Nd) (l : List El) : Bool := decide ((WD n l).length = l.length)
def Sp (n : Nd) (x y : List El) : List El :=
 (x.filter fun e => decide (n.op = 12) || ((Uy n y (OC n e.ls)).isSome == decide (n.op = 11))) ++ y.filter fun e => (Uy n x (OC n e.ls)).isNone && decide (n.op = 12)
def Uz (n : Nd) (x y : List El) : Option (List El) := if iK n x && iK n y then some (x.filterMap fun e => match Uy n y (OC n e.ls) with
 | none => none
 | some o => if Ft n.op = false ∨ n.bool = true then some ⟨OC n e.ls,(F.QF n.op e.v o.v).1⟩ else if (F.QF n.op e.v o.v).2 then some e else none) else none
def uA (n : Nd) (x y : Vv) : Option Vv :=
 if x.kind = 1 ∧ y.kind = 1 then some ⟨1,(F.QF n.op x.v y.v).1,[],[]⟩
 else ((if x.kind = 1 then some (Y2 n y.vec (F.QF n.op x.v)) else if y.kind = 1 then some (Y2 n x.vec fun v => F.QF n.op v y.v) else if 11 ≤ n.op ∧ n.op ≤ 13 then some (Sp n x.vec y.vec) else Uz F n x.vec y.vec).bind (Bu F)).map fun l => ⟨2,0,l,[]⟩
def oV (p : Vv) : Option Vv := if p.kind = 1 then some ⟨1,F.oU p.v,[],[]⟩ else (Bu F (p.vec.map fun x => ⟨Dx x.ls,F.oU x.v⟩)).map fun l => ⟨2,0,l,[]⟩
def Dz (ss : List Sr) (at_ : Int) (n : Nd) (l : List Vv) : Option Vv :=
 if n.kind = 1 then some ⟨1,F.num n.text,[],[]⟩
 else if n.kind = 2 then some ⟨2,0,BZ F n ss at_,[]⟩
 else if n.kind = 3 then some ⟨3,F.whole n.width,[],bj F n ss at_⟩
 else match l with
   | [p] => if n.kind = 4 then (Bu F (Ux F n p)).map fun l => ⟨2,0,l,[]⟩ else if n.kind = 5 then (Bu F (HK F n p)).map fun l => ⟨2,0,l,[]⟩ else if n.kind = 7 then oV F p else none
   | [p,q] => if n.kind = 6 then uA F n p q else none
   | _ => none
def JA (ss : List Sr) (at_ : Int) : List Nd → List Vv → Option (List Vv)
 | [],st => some st
 | n :: t,st => (Dz F ss at_ n (st.drop (st.length - n.parts.toNat))).bind fun v => JA ss at_ t (st.take (st.length - n.parts.toNat) ++ [v])
def A1 (t : List Nd) (ss : List Sr) (at_ : Int) : Option (List El) := (JA F ss at_ t []).bind fun st => st.head?.map fun v => if v.kind = 1 then [⟨[],v.v⟩] else v.vec
end
section
variable {F : Fl}
end
end TwW
end
section
namespace TwW
open Go Tw
structure MQ {α : Type} (c : α → α → Int) : Prop where
 eq : ∀ x y,c x y = 0 ↔ x = y
 WE : ∀ x y,c x y < 0 ↔ 0 < c y x
 trans : ∀ x y z,c x y < 0 → c y z < 0 → c x z < 0
def IN {α : Type} (c : α → α → Int) : List α → List α → Int
 | [],[] => 0
 | [],_ :: _ => -1
 | _ :: _,[] => 1
 | x :: l,y :: m => if c x y = 0 then IN c l m else c x y
def Ss {α β : Type} (c : α → α → Int) (d : β → β → Int) (x y : α × β) : Int := if c x.1 y.1 = 0 then d x.2 y.2 else c x.1 y.1
theorem MQ.IN {α : Type} {c : α → α → Int} (h : MQ c) : MQ (IN c) := by
 refine ⟨fun l => ?_,fun l => ?_,fun l => ?_⟩
 · induction l with
   | nil => intro m; cases m <;> simp [TwW.IN]
   | cons x l ih =>
     intro m
     cases m with
     | nil => simp [TwW.IN]
     | cons y m =>
       unfold TwW.IN
       by_cases hc : c x y = 0
       · rw [if_pos hc,ih]; simp [(h.eq x y).1 hc]
       · rw [if_neg hc]; simp [hc,mt (h.eq x y).2 hc]
 · induction l with
   | nil => intro m; cases m <;> simp [TwW.IN]
   | cons x l ih =>
     intro m
     cases m with
     | nil => simp [TwW.IN]
     | cons y m =>
       unfold TwW.IN
       by_cases hc : c x y = 0
       · have Y3 := (h.eq x y).1 hc
         rw [if_pos hc,if_pos ((h.eq y x).2 Y3.symm),ih]
       · have hc' : c y x ≠ 0 := fun e => hc ((h.eq x y).2 ((h.eq y x).1 e).symm)
         rw [if_neg hc,if_neg hc',h.WE]
 · induction l with
   | nil =>
     intro m k h1 h2
     cases m with
     | nil => simp [TwW.IN] at h1
     | cons y m =>
       cases k with
       | nil => simp [TwW.IN] at h2
       | cons z k => simp [TwW.IN]
   | cons x l ih =>
     intro m k h1 h2
     cases m with
     | nil => simp [TwW.IN] at h1
     | cons y m =>
       cases k with
       | nil => simp [TwW.IN] at h2
       | cons z k =>
         unfold TwW.IN at h1 h2 ⊢
         by_cases Y3 : c x y = 0
         · rw [if_pos Y3] at h1
           have e := (h.eq x y).1 Y3
           subst e
           by_cases bk : c x z = 0
           · rw [if_pos bk] at h2 ⊢; exact ih m k h1 h2
           · rw [if_neg bk] at h2 ⊢; exact h2
         · rw [if_neg Y3] at h1
           by_cases bk : c y z = 0
           · rw [if_pos bk] at h2
             have e := (h.eq y z).1 bk
             subst e
             rw [if_neg Y3]; exact h1
           · rw [if_neg bk] at h2
             have h3 := h.trans x y z h1 h2
             rw [if_neg (by omega)]; exact h3
theorem MQ.Ss {α β : Type} {c : α → α → Int} {d : β → β → Int} (h : MQ c) (g : MQ d) : MQ (Ss c d) := by
 refine ⟨fun x y => ?_,fun x y => ?_,fun x y z h1 h2 => ?_⟩
 · obtain ⟨x1,x2⟩ := x
   obtain ⟨y1,y2⟩ := y
   unfold TwW.Ss
   by_cases hc : c x1 y1 = 0
   · simp only [hc,if_pos]; rw [g.eq]; simp [(h.eq x1 y1).1 hc]
   · simp only [hc,if_false]; simp [hc,mt (h.eq x1 y1).2 hc]
 · unfold TwW.Ss
   by_cases hc : c x.1 y.1 = 0
   · rw [if_pos hc,if_pos ((h.eq _ _).2 ((h.eq _ _).1 hc).symm),g.WE]
   · rw [if_neg hc,if_neg (fun e => hc ((h.eq _ _).2 ((h.eq _ _).1 e).symm)),h.WE]
 · unfold TwW.Ss at h1 h2 ⊢
   by_cases Y3 : c x.1 y.1 = 0
   · rw [if_pos Y3] at h1
     rw [(h.eq _ _).1 Y3]
     by_cases bk : c y.1 z.1 = 0
     · rw [if_pos bk] at h2 ⊢; exact g.trans _ _ _ h1 h2
     · rw [if_neg bk] at h2 ⊢; exact h2
   · rw [if_neg Y3] at h1
     by_cases bk : c y.1 z.1 = 0
     · rw [if_pos bk] at h2
       rw [← (h.eq _ _).1 bk,if_neg Y3]; exact h1
     · rw [if_neg bk] at h2
       have h3 := h.trans _ _ _ h1 h2
       rw [if_neg (by omega)]; exact h3
def bm (a b : UInt8) : Int := if a < b then -1 else if b < a then 1 else 0
theorem WG {a b : UInt8} : bm a b < 0 ↔ a.toNat < b.toNat := by
 unfold bm
 by_cases h : a < b
 · have := UInt8.lt_iff_toNat_lt.1 h; simp [h,this]
 · have h' := mt UInt8.lt_iff_toNat_lt.2 h
   rw [if_neg h]
   by_cases g : b < a <;> simp [g] <;> omega
theorem fC {a b : UInt8} : 0 < bm a b ↔ b.toNat < a.toNat := by
 unfold bm
 by_cases h : a < b
 · have := UInt8.lt_iff_toNat_lt.1 h; simp [h]; omega
 · rw [if_neg h]
   by_cases g : b < a
   · have := UInt8.lt_iff_toNat_lt.1 g; simp [g,this]
   · have h' := mt UInt8.lt_iff_toNat_lt.2 g; simp [g]; omega
theorem uB : MQ bm := by
 refine ⟨fun x y => ?_,fun x y => ?_,fun x y z h1 h2 => ?_⟩
 · have h1 := @WG x y
   have h2 := @fC x y
   rw [← UInt8.toNat_inj]; omega
 · rw [WG,fC]
 · rw [WG] at *; omega
theorem oW : ∀ a b : List UInt8,IN bm a b = Lib.compareBytes a b
 | [],[] => rfl
 | [],_ :: _ => rfl
 | _ :: _,[] => rfl
 | x :: l,y :: m => by
   unfold IN Lib.compareBytes
   rw [← oW l m]
   unfold bm
   by_cases h1 : x < y
   · simp [h1]
   · by_cases h2 : y < x <;> simp [h1,h2]
def Jf (a b : ByteArray) : Int := Lib.compareBytes a.data.toList b.data.toList
theorem fD : MQ Jf := by
 have h := uB.IN
 refine ⟨fun x y => ?_,fun x y => ?_,fun x y z h1 h2 => ?_⟩
 · unfold Jf
   rw [← oW,h.eq]
   exact ⟨fun e => by cases x; cases y; simp at e; rw [e],fun e => by rw [e]⟩
 · unfold Jf; rw [← oW,← oW]; exact h.WE _ _
 · unfold Jf at *; rw [← oW] at *; exact h.trans _ _ _ h1 h2
def CY : List Lb → List Lb → Int := IN (Ss Jf Jf)
theorem A4 : MQ CY := (fD.Ss fD).IN
section
variable {F : Fl} (hF : F.cmpL = CY)
theorem Om (x : El) : ∀ l : List El,(bh F x l).Perm (x :: l)
 | [] => List.Perm.refl _
 | y :: l => by
   unfold bh
   split
   · exact List.Perm.refl _
   · exact ((Om x l).cons y).trans (List.Perm.swap ..)
theorem G7 : ∀ l : List El,(Y1 F l).Perm l
 | [] => List.Perm.refl _
 | x :: l => (Om x _).trans ((G7 l).cons x)
include hF
theorem le_trans' {x y z : El} (h1 : F.cmpL x.ls y.ls ≤ 0) (h2 : F.cmpL y.ls z.ls ≤ 0) : F.cmpL x.ls z.ls ≤ 0 := by
 rw [hF] at *
 rcases Int.lt_or_eq_of_le h1 with g1 | g1
 · rcases Int.lt_or_eq_of_le h2 with g2 | g2
   · exact Int.le_of_lt (A4.trans _ _ _ g1 g2)
   · rw [← (A4.eq _ _).1 g2]; exact h1
 · rw [(A4.eq _ _).1 g1]; exact h2
theorem Pe (x : El) : ∀ l : List El,l.Pairwise (fun a b => F.cmpL a.ls b.ls ≤ 0) → (bh F x l).Pairwise fun a b => F.cmpL a.ls b.ls ≤ 0
 | [],_ => by simp [bh]
 | y :: l,h => by
   rw [List.pairwise_cons] at h
   unfold bh
   split
   · rename_i Y3
     refine List.pairwise_cons.2 ⟨fun z hz => ?_,List.pairwise_cons.2 h⟩
     rcases List.mem_cons.1 hz with rfl | hz
     · exact Y3
     · exact le_trans' hF Y3 (h.1 z hz)
   · rename_i Y3
     refine List.pairwise_cons.2 ⟨fun z hz => ?_,Pe x l h.2⟩
     rcases List.mem_cons.1 ((Om x l).mem_iff.1 hz) with rfl | hz
     · have h1 : 0 < F.cmpL z.ls y.ls := by omega
       rw [hF] at *
       exact Int.le_of_lt ((A4.WE _ _).2 h1)
     · exact h.1 z hz
theorem Ni : ∀ l : List El,(Y1 F l).Pairwise fun a b => F.cmpL a.ls b.ls ≤ 0
 | [] => List.Pairwise.nil
 | x :: l => Pe hF x _ (Ni l)
theorem iL {l m : List El} (hp : m.Perm l) (hs : m.Pairwise fun a b => F.cmpL a.ls b.ls < 0) : Bu F l = some m := by
 have Az : m.Pairwise fun a b => F.cmpL a.ls b.ls ≠ 0 := hs.imp fun h => by omega
 have ANN : l.Pairwise fun a b => F.cmpL a.ls b.ls ≠ 0 := (hp.pairwise_iff fun {a b} h e => by
   rw [hF] at *
   exact h ((A4.eq _ _).2 ((A4.eq _ _).1 e).symm)).1 Az
 unfold Bu
 rw [if_pos ANN]
 refine congrArg some (List.Perm.eq_of_pairwise (le := fun a b : El => F.cmpL a.ls b.ls ≤ 0) (fun a b ha hb h1 h2 => ?_) (Ni hF l) (hs.imp fun h => Int.le_of_lt h) ((G7 l).trans hp.symm))
 have hab : F.cmpL a.ls b.ls = 0 := by
   refine Int.le_antisymm h1 (Int.not_lt.1 fun h3 => ?_)
   rw [hF] at *
   have := (A4.WE _ _).1 h3
   omega
 have ham := ((G7 (F := F) l).trans hp.symm).mem_iff.1 ha
 obtain ⟨i,hi,rfl⟩ := List.mem_iff_getElem.1 ham
 obtain ⟨j,hj,rfl⟩ := List.mem_iff_getElem.1 hb
 have ra := List.pairwise_iff_getElem.1 Az
 rcases Nat.lt_trichotomy i j with h | h | h
 · exact absurd hab (ra i j hi hj h)
 · subst h; rfl
 · have h4 := ra j i hj hi h
   rw [hF] at hab h4
   exact absurd ((A4.eq _ _).2 ((A4.eq _ _).1 hab).symm) h4
theorem iM {l m : List El} (hp : m.Perm l) (h : ¬ m.Pairwise fun a b => F.cmpL a.ls b.ls ≠ 0) : Bu F l = none := by
 unfold Bu
 rw [if_neg fun hl => h ((hp.pairwise_iff fun {a b} h e => by
   rw [hF] at *
   exact h ((A4.eq _ _).2 ((A4.eq _ _).1 e).symm)).2 hl)]
end
end TwW
end
section
namespace TwW
open Go Tw
def EM (c : UInt8) (s : ByteArray) : List ByteArray := Lib.splitB ⟨#[c]⟩ 0 (Lib.countB s ⟨#[c]⟩) s
def iN : List ByteArray → ByteArray → Bool
 | [],_ => true
 | t :: r,s => if Lib.index s.data.toList t.data.toList < 0 then false else iN r (s.extract ((Lib.index s.data.toList t.data.toList).toNat + t.size) s.size)
def isK (l : List ByteArray) (s : ByteArray) : Bool :=
 let a := l.head?.getD ⟨#[]⟩
 let z := l.getLast?.getD ⟨#[]⟩
 if l.length = 1 then decide (s = a) else
   if s.size < a.size + z.size ∨ s.extract 0 a.size ≠ a ∨ s.extract (s.size - z.size) s.size ≠ z then false else iN l.tail.dropLast (s.extract a.size (s.size - z.size))
def Y4 (p s : ByteArray) : Bool := (EM 124 p).any fun x => isK (EM 42 x) s
def Nj (m : Mt) (ls : List Lb) : Bool :=
 let v := Dk ls m.name
 if m.kind = 1 then decide (v = m.val) else if m.kind = 2 then decide (v ≠ m.val) else if m.kind = 3 then Y4 m.val v else if m.kind = 4 then !Y4 m.val v else false
def Jb (ms : List Mt) (ls : List Lb) : Bool := ms.all fun m => Nj m ls
def Bq (u : UInt8) : Bool := decide (48 ≤ u.toNat ∧ u.toNat ≤ 57)
end TwW
end
section
namespace TwW
open Go Tw
def MR (v least : Int) : Bool := decide (least ≤ v) && decide (v < 2147483648)
section
variable (oX : ByteArray → Bool) (AQs : ByteArray → Bool)
def On (n : Nd) : Bool := n.names.all oX && (decide (n.names.length = 0) || decide (n.EO ≠ 0))
def G8 (ms : List Mt) : Int := if 8 < ms.length then 41 else if ms.all (fun m => decide (1 ≤ m.kind ∧ m.kind ≤ 4) && oX m.name && decide (m.val.size ≤ 256)) then 0 else 40
end
end TwW
end
section
namespace TwW
open Go Tw Go.RowKit Go.Proofs.Tryz
abbrev Pt := Int × Int
def HL (_ : Hp) (vs : List Value) (x : Pt) : Prop := vs = [.int .i64 x.1,.int .u64 x.2]
theorem HL.mono : Gs HL := fun _ _ _ _ _ h => h
def Cq (σ : Hp) (vs : List Value) (s : Sr) : Prop := ∃ p n c q m d,vs = [.slice p n c,.slice q m d] ∧ E9 σ p n s.ls ∧ Ad 2 HL σ q m s.ps ∧ m ≤ d
theorem Cq.mono : Gs Cq := fun _ _ _ _ hx ⟨p,n,c,q,m,d,hv,h1,h2,h3⟩ => ⟨p,n,c,q,m,d,hv,h1.mono Bz.mono hx,h2.mono HL.mono hx,h3⟩
def OD (_ : Hp) (vs : List Value) (m : Mt) : Prop := vs = [.int .i64 m.kind,.string m.name,.string m.val]
theorem OD.mono : Gs OD := fun _ _ _ _ _ h => h
def Mn (σ : Hp) (vs : List Value) (n : Nd) : Prop := ∃ p k c q m d,vs = [.int .i64 n.kind,.int .i64 n.op,.string n.text,.slice p k c,.int .i64 n.width,.int .i64 n.back,.int .i64 n.EO,.slice q m d,.bool n.bool,.int .i64 n.parts] ∧ Ad 3 OD σ p k n.mt ∧ Ez 1 σ q m (n.names.map .string)
theorem Mn.mono : Gs Mn := fun _ _ _ _ hx ⟨p,k,c,q,m,d,hv,h1,h2⟩ => ⟨p,k,c,q,m,d,hv,h1.mono OD.mono hx,h2.mono hx⟩
def Bt (σ : Hp) (vs : List Value) (x : El) : Prop := ∃ p n c,vs = [.slice p n c,.int .u64 x.v] ∧ E9 σ p n x.ls
theorem Bt.mono : Gs Bt := fun _ _ _ _ hx ⟨p,n,c,hv,h⟩ => ⟨p,n,c,hv,h.mono Bz.mono hx⟩
def Su (σ : Hp) (vs : List Value) (x : Rg) : Prop := ∃ p n c q m d,vs = [.slice p n c,.slice q m d] ∧ E9 σ p n x.ls ∧ E7 .u64 σ q m x.vs ∧ m ≤ d
theorem Su.mono : Gs Su := fun _ _ _ _ hx ⟨p,n,c,q,m,d,hv,h1,h2,h3⟩ => ⟨p,n,c,q,m,d,hv,h1.mono Bz.mono hx,h2.mono hx,h3⟩
def Mo (σ : Hp) (vs : List Value) (x : Vv) : Prop := ∃ p n c q m d,vs = [.int .i64 x.kind,.int .u64 x.v,.slice p n c,.slice q m d] ∧ Ad 2 Bt σ p n x.vec ∧ Ad 2 Su σ q m x.OT
theorem Mo.mono : Gs Mo := fun _ _ _ _ hx ⟨p,n,c,q,m,d,hv,h1,h2⟩ => ⟨p,n,c,q,m,d,hv,h1.mono Bt.mono hx,h2.mono Su.mono hx⟩
theorem Ad.sub {α : Type} {s : Nat} {E : Hp → List Value → α → Prop} {σ : Hp} {p : Option Addr} {n c i m : Nat} {xs : List α} (h : Ad s E σ p n xs) (hs : 0 < s) (him : i + m ≤ n) (hc : n ≤ c) : Ad s E σ (Ic p i c s) m ((xs.drop i).take m) := by
 obtain ⟨h1,cs,⟨h2,h3,h4⟩,h5,h6⟩ := h
 refine ⟨by rw [List.length_take,List.length_drop]; omega,(cs.drop (i * s)).take (m * s),⟨?_,by omega,?_⟩,?_,fun j x hj => ?_⟩
 · have : i * s + m * s ≤ n * s := by rw [← Nat.add_mul]; exact Nat.mul_le_mul_right _ him
   rw [List.length_take,List.length_drop]; omega
 · rcases Nat.eq_zero_or_pos m with hm | hm
   · exact .inl hm
   · rcases h4 with h4 | ⟨b,o,rfl,h4⟩
     · omega
     · refine .inr ⟨b,o + i * s,?_,?_⟩
       · unfold Ic
         rw [if_neg (by omega)]
         simp [Bi]
       · exact h4.part
 · have : i * s + m * s ≤ n * s := by rw [← Nat.add_mul]; exact Nat.mul_le_mul_right _ him
   rw [List.length_take,List.length_drop,List.length_take,List.length_drop]
   have : min m (xs.length - i) = m := by omega
   rw [this]; omega
 · rw [List.getElem?_take] at hj
   split at hj
   · rename_i hjm
     rw [List.getElem?_drop] at hj
     have := h6 (i + j) x hj
     have e : ((((cs.drop (i * s)).take (m * s)).drop (j * s)).take s) = (cs.drop ((i + j) * s)).take s := by
       have hle : j * s + s ≤ m * s := by rw [← Nat.succ_mul]; exact Nat.mul_le_mul_right _ hjm
       rw [List.drop_take,List.take_take,List.drop_drop,Nat.add_mul]
       congr 1
       omega
     rw [e]; exact this
   · cases hj
section
variable {σ σ' τ : Hp} {R : Rr}
theorem iO {a b : ByteArray} : YN prog 168 #[.string a,.string b] σ (.int .i64 (Jf a b)) := fun w _ => by
 rw [run_callFunc_extern Go.Proofs.Tryz.func168 (by kernel_rfl) (by kernel_rfl) (by kernel_rfl) (e := Extern.BytealgCompare.compare) (by kernel_rfl),Lib.run_compareString]
 rfl
theorem Pf [Ey] {a b : ByteArray} (h : R (.returned (.int .i64 (Jf a b))) σ) : Spec prog 78 #[.string a,.string b] σ R :=
 JT.start (B9.start (.y iO ⟨_,rfl,_,rfl,h⟩))
theorem bn [Ey] {x y : Lb} (h : ∀ σ',Ext σ σ' → R (.returned (.int .i64 (Ss Jf Jf x y))) σ') : Spec prog 76 #[.agg #[.string x.1,.string x.2],.agg #[.string y.1,.string y.2]] σ R := by
 refine JS.start fun _ _ => Pf ⟨_,rfl,Pf ⟨_,rfl,fun b hb => ?_⟩⟩
 have hh := h _ (.set hb (o := .cells #[.int .i64 (Jf x.1 y.1),.int .i64 (Jf x.2 y.2)] 3 (0,0)))
 unfold Ss at hh
 generalize Jf x.1 y.1 = u at *
 generalize Jf x.2 y.2 = v at *
 refine G3.start (G3.Aa ⟨fun _ => ⟨b,0,rfl,by omega,u,by simp [Hp.ld,Hp.AB],fun h0 => ⟨_,rfl,?_⟩,fun h0 => ⟨by unfold AN; omega,G3.Aa ⟨fun _ => ⟨b,0,rfl,by omega,v,by simp [Hp.ld,Hp.AB],fun h1 => ⟨_,rfl,?_⟩,fun h1 => ⟨by unfold AN; omega,G3.Aa ⟨fun h2 => by omega,fun _ => ⟨_,rfl,?_⟩⟩⟩⟩,fun h2 => by omega⟩⟩⟩,fun h2 => by omega⟩)
 · rw [if_neg h0] at hh; exact hh
 · rw [if_pos (Decidable.not_not.1 h0)] at hh; exact hh
 · have h1' : v = 0 := Decidable.not_not.1 h1
   rw [if_pos (Decidable.not_not.1 h0),h1'] at hh
   rw [← h1'] at hh ⊢
   exact hh
theorem ANO : Enters prog 76 := fun args w => call76 args w
theorem BC {α : Type} {xs : List α} {k : Nat} {y : α} (hy : xs[k]? = some y) : xs.drop k = y :: xs.drop (k + 1) := by
 obtain ⟨h,rfl⟩ := List.getElem?_eq_some_iff.1 hy
 exact List.drop_eq_getElem_cons h
theorem Lh [Ey] {p q : Option Addr} {n c m d : Nat} {ls ms : List Lb} (hr : E9 σ p n ls) (hs : E9 σ q m ms) (h : ∀ σ',Ext σ σ' → R (.returned (.int .i64 (CY ls ms))) σ') : Spec prog 52 #[.slice p n c,.slice q m d] σ R := by
 have hl : ls.length = n := hr.1
 have hm : ms.length = m := hs.1
 refine MJ.start (Ax.start ?_)
 suffices H : ∀ g k : Nat,∀ σ',n - k = g → k ≤ n → k ≤ m → Ext σ σ' → CY ls ms = CY (ls.drop k) (ms.drop k) → Ax.Hs (AA R (CI .i64 fun x7 y => R (.returned (.int .i64 x7)) y)) p n c q m d (.func (.func 76) #[] #[]) p n c n k σ' from H n 0 σ rfl (Nat.zero_le _) (Nat.zero_le _) (.refl _) rfl
 intro g
 induction g with
 | zero =>
   intro k σ' hg hk xh hx he
   have dW : k = n := by omega
   rw [List.drop_eq_nil_of_le (by omega)] at he
   refine Ax.Bg ⟨fun An => by omega,fun _ => ⟨fun hnm => ⟨_,rfl,?_⟩,fun hnm => ⟨_,rfl,?_⟩⟩⟩
   · obtain ⟨y,hy⟩ := hs.ex (k := k) (by omega)
     rw [BC hy] at he
     have := h σ' hx
     rw [he] at this; exact this
   · rw [List.drop_eq_nil_of_le (by omega)] at he
     have := h σ' hx
     rw [he] at this; exact this
 | succ g ih =>
   intro k σ' hg hk xh hx he
   obtain ⟨x,iI⟩ := hr.ex (k := k) (by omega)
   obtain ⟨b,o,rfl,Z4⟩ := E9.at hr iI
   rw [BC iI] at he
   refine Ax.Bg ⟨fun _ => ⟨b,o,rfl,by omega,x.1,x.2,by simpa using Z4.mono hx,fun _ => ⟨fun ji => ⟨_,rfl,?_⟩,fun ji => ?_⟩⟩,fun hh => by omega⟩
   · rw [show ms.drop k = [] from List.drop_eq_nil_of_le (by omega)] at he
     have := h σ' hx
     rw [he] at this; exact this
   · obtain ⟨y,oY⟩ := hs.ex (k := k) (by omega)
     obtain ⟨b',o',rfl,bo⟩ := E9.at hs oY
     rw [BC oY] at he
     have JM : CY ls ms = if Ss Jf Jf x y = 0 then CY (ls.drop (k + 1)) (ms.drop (k + 1)) else Ss Jf Jf x y := he
     refine ⟨b',o',rfl,by omega,y.1,y.2,by simpa using bo.mono hx,fun _ => ⟨76,#[],#[],rfl,ANO,bn fun σ2 A7 => ⟨_,rfl,fun Az => ⟨_,rfl,?_⟩,fun heq => ⟨AK (by omega : k < n) hr.big,ih (k + 1) σ2 (by omega) (by omega) (by omega) (hx.trans A7) ?_⟩⟩⟩⟩
     · have := h σ2 (hx.trans A7)
       rw [JM,if_neg Az] at this; exact this
     · rw [JM,if_pos (Decidable.not_not.1 heq)]
def Nk : List Pt → Bool
 | [] => false
 | [_] => true
 | a :: b :: l => decide (a.1 < b.1) && Nk (b :: l)
theorem Nl : ∀ ps : List Pt,Nk ps = true ↔ 0 < ps.length ∧ ∀ j a b,ps[j]? = some a → ps[j + 1]? = some b → a.1 < b.1
 | [] => by simp [Nk]
 | [a] => by simp [Nk]
 | a :: b :: l => by
   simp only [Nk,Bool.and_eq_true,decide_eq_true_eq]
   rw [Nl (b :: l)]
   constructor
   · rintro ⟨h1,h2,h3⟩
     refine ⟨by simp,fun j x y hx hy => ?_⟩
     cases j with
     | zero => simp at hx hy; subst hx; subst hy; exact h1
     | succ j => exact h3 j x y (by simpa using hx) (by simpa using hy)
   · rintro ⟨h1,h2⟩
     exact ⟨h2 0 a b rfl rfl,by simp,fun j x y hx hy => h2 (j + 1) x y (by simpa using hx) (by simpa using hy)⟩
theorem HL.at {p : Option Addr} {n i : Nat} {ps : List Pt} {x : Pt} (hr : Ad 2 HL σ p n ps) (hx : ps[i]? = some x) : ∃ b o,p = some ⟨b,o,none⟩ ∧ Au σ b (o + i * 2) [.int .i64 x.1,.int .u64 x.2] := by
 obtain ⟨b,o,vs,hp,rfl,hl⟩ := Ad.idx hr hx
 exact ⟨b,o,hp,hl⟩
theorem Y5 {p : Option Addr} {n c : Nat} {ps : List Pt} (hr : Ad 2 HL σ p n ps) (h : R (.returned (.bool (Nk ps))) σ) : Spec prog 69 #[.slice p n c] σ R := by
 have hl : ps.length = n := hr.1
 refine Dq.start ?_
 have fin : (∀ j a b,ps[j]? = some a → ps[j + 1]? = some b → a.1 < b.1) → R (.returned (.bool (decide (0 < (n : Int))))) σ := fun hh => by
   have e : Nk ps = decide (0 < (n : Int)) := by
     rw [Bool.eq_iff_iff,Nl,decide_eq_true_eq]
     exact ⟨fun h => by omega,fun h => ⟨by omega,hh⟩⟩
   rw [e] at h; exact h
 suffices H : ∀ g k : Nat,n - k = g → 1 ≤ k → (∀ j a b,j + 1 < k → ps[j]? = some a → ps[j + 1]? = some b → a.1 < b.1) → Dq.Gf R p n c k σ from H (n - 1) 1 rfl (Nat.le_refl _) (fun j a b hj => by omega)
 intro g
 induction g with
 | zero =>
   intro k hg hk D2
   refine Dq.BA ⟨fun An => by omega,fun _ => fin fun j a b ha hb => D2 j a b ?_ ha hb⟩
   have := (List.getElem?_eq_some_iff.1 hb).1; omega
 | succ g ih =>
   intro k hg hk D2
   obtain ⟨x,hx⟩ := hr.ex (k := k) (by omega)
   obtain ⟨y,hy⟩ := hr.ex (k := k - 1) (by omega)
   obtain ⟨b,o,rfl,Z4⟩ := HL.at hr hx
   obtain ⟨_,_,he,bo⟩ := HL.at hr hy
   cases he
   have e1 : Int.toNat ((k : Int) - 1) = k - 1 := by omega
   refine Dq.BA ⟨fun _ => ⟨b,o,rfl,by omega,x.1,by simpa using Z4.1,by unfold AN; have := hr.big; omega,by omega,y.1,by rw [e1]; simpa using bo.1,fun hle => ?_,fun hgt => ⟨AK (by omega : k < n) hr.big,ih (k + 1) (by omega) (by omega) fun j a b' hj ha hb => ?_⟩⟩,fun hh => by omega⟩
   · have e : Nk ps = false := by
       rw [Bool.eq_false_iff,ne_eq,Nl]
       exact fun hh => by
         have := hh.2 (k - 1) y x hy (by rw [show k - 1 + 1 = k by omega]; exact hx)
         omega
     rw [e] at h; exact h
   · by_cases rn : j + 1 = k
     · rw [rn,hx] at hb; cases hb
       rw [show j = k - 1 by omega,hy] at ha; cases ha
       omega
     · exact D2 j a b' (by omega) ha hb
def HM : Option (List Lb) → List Sr → Bool
 | _,[] => true
 | q,s :: l => decide (Sm s.ls = 0) && Nk s.ps && (match q with | none => true | some q => decide (CY q s.ls < 0)) && HM (some s.ls) l
theorem U0 (q : Option (List Lb)) (s : Sr) (l : List Sr) : HM q (s :: l) = (decide (Sm s.ls = 0) && Nk s.ps && (match q with | none => true | some q => decide (CY q s.ls < 0)) && HM (some s.ls) l) := by
 cases q <;> rfl
theorem Cq.at {p : Option Addr} {n i : Nat} {ss : List Sr} {s : Sr} (hr : Ad 2 Cq σ p n ss) (hx : ss[i]? = some s) : ∃ b o p1 n1 c1 q m d,p = some ⟨b,o,none⟩ ∧ Au σ b (o + i * 2) [.slice p1 n1 c1,.slice q m d] ∧ E9 σ p1 n1 s.ls ∧ Ad 2 HL σ q m s.ps ∧ m ≤ d := by
 obtain ⟨b,o,vs,hp,⟨p1,n1,c1,q,m,d,rfl,h1,h2,h3⟩,hl⟩ := Ad.idx hr hx
 exact ⟨b,o,p1,n1,c1,q,m,d,hp,hl,h1,h2,h3⟩
theorem Y6 {p : Option Addr} {n c : Nat} {ss : List Sr} (hr : Ad 2 Cq σ p n ss) (h : ∀ σ',Ext σ σ' → R (.returned (.int .i64 (if HM none ss then 0 else 100))) σ') : Spec prog 46 #[.slice p n c] σ R := by
 have hl : ss.length = n := hr.1
 refine DM.start ?_
 suffices H : ∀ g k : Nat,∀ σ',n - k = g → k ≤ n → Ext σ σ' → HM none ss = HM (if k = 0 then none else (ss[k - 1]?).map (·.ls)) (ss.drop k) → DM.Hs R p n c p n c n k σ' from H n 0 σ rfl (Nat.zero_le _) (.refl _) rfl
 intro g
 induction g with
 | zero =>
   intro k σ' hg hk hx he
   rw [List.drop_eq_nil_of_le (by omega)] at he
   refine DM.Bg ⟨fun An => by omega,fun _ => ?_⟩
   have := h σ' hx
   rw [he] at this; exact this
 | succ g ih =>
   intro k σ' hg hk hx he
   have Hn : k < n := by omega
   obtain ⟨s,hs⟩ := hr.ex Hn
   obtain ⟨b,o,p1,n1,c1,q,m,d,rfl,U1,h1,h2,h3⟩ := Cq.at hr hs
   rw [BC hs,U0] at he
   have bad : (decide (Sm s.ls = 0) && Nk s.ps && (match (if k = 0 then none else (ss[k - 1]?).map (·.ls)) with | none => true | some q => decide (CY q s.ls < 0))) = false → ∀ σ2,Ext σ σ2 → R (.returned (.int .i64 100)) σ2 := fun hf σ2 A7 => by
     have := h σ2 A7
     rw [he,hf] at this; exact this
   refine DM.Bg ⟨fun _ => ⟨b,o,rfl,by omega,p1,n1,c1,q,m,d,by simpa using U1.mono hx,fun _ => QE (h1.mono Bz.mono hx) ⟨_,rfl,fun Az => bad (by simp [Az]) σ' hx,fun h0 => Y5 (h2.mono HL.mono hx) ⟨_,rfl,fun hf => bad (by simp [hf]) σ' hx,fun ht => ?_⟩⟩⟩,fun hh => by omega⟩
   have fE := Decidable.not_not.1 h0
   have jx : Nk s.ps = true := ht
   have next : ∀ σ2,Ext σ σ2 → (match (if k = 0 then none else (ss[k - 1]?).map (·.ls)) with | none => true | some q => decide (CY q s.ls < 0)) = true → AN ((k : Int) + 1) ∧ DM.Hs R (aD b o) n c (aD b o) n c n ((k : Int) + 1) σ2 := fun σ2 A7 hm => by
     refine ⟨AK Hn hr.big,ih (k + 1) σ2 (by omega) (by omega) A7 ?_⟩
     rw [he,hm,fE,jx]
     simp [hs]
   refine ⟨fun Qw => ⟨by unfold AN; have := hr.big; omega,b,o,rfl,by omega,?_⟩,fun Qw => next σ' hx (by rw [if_pos (by omega)])⟩
   obtain ⟨s',Tk⟩ := hr.ex (k := k - 1) (by omega)
   obtain ⟨_,_,p1',n1',c1',_,_,_,Wt,ANQ,h1',_,_⟩ := Cq.at hr Tk
   cases Wt
   have e1 : Int.toNat ((k : Int) - 1) = k - 1 := by omega
   refine ⟨p1',n1',c1',by rw [e1]; simpa using (ANQ.mono hx).1,Lh (h1'.mono Bz.mono hx) (h1.mono Bz.mono hx) fun σ2 A7 => ⟨_,rfl,fun iF => bad ?_ σ2 (hx.trans A7),fun An => next σ2 (hx.trans A7) ?_⟩⟩
   · rw [if_neg (by omega),Tk]
     simp; omega
   · rw [if_neg (by omega),Tk]
     simp; omega
end
end TwW
end
section
namespace TwW
open Go Tw Go.RowKit Go.Proofs.Tryz
def Jg (x : Nat) : Bool := !(FloatKind.f64.format.order x x == some .eq)
def toF (x : Nat) : Nat := if Jg x then 9221120237041090560 else x
theorem Sv (d : Ieee.Datum) : d.order d = if d.isNaN then none else some .eq := by
 cases d with
 | nan => rfl
 | infinity s => cases s <;> rfl
 | number s m i => simp [Ieee.Datum.order,Ieee.Datum.isNaN,Std.ReflCmp.compare_self]
theorem Nn (x : Nat) : Jg x = true ↔ 9218868437227405312 < x % 9223372036854775808 := by
 have h1 : Jg x = (Ieee.double.read x).isNaN := by
   show (!((Ieee.double.read x).order (Ieee.double.read x) == some .eq)) = _
   rw [Sv]
   cases (Ieee.double.read x).isNaN <;> rfl
 rw [h1]
 have e1 : Ieee.double.signWeight = 9223372036854775808 := by decide
 have e2 : Ieee.double.binade = 4503599627370496 := by decide
 have e3 : Ieee.double.infRung = 9218868437227405312 := by decide
 unfold Ieee.Format.read
 simp only [e1,e2,e3]
 split
 · simp [Ieee.Datum.isNaN]; omega
 · split
   · simp [Ieee.Datum.isNaN]; omega
   · split
     · simp [Ieee.Datum.isNaN]; omega
     · simp [Ieee.Datum.isNaN]; omega
theorem Y7 : Jg 9221120237041090560 = true := (Nn _).2 (by decide)
theorem bp (a b t : Nat) : Jg (Question.cut (.nanBits .f64 a b) t) = true := by
 rw [Nn]
 show 9218868437227405312 < ((t % 2) * 9223372036854775808 + 9218868437227405312 + 1 + (t / 2) % 4503599627370495) % 9223372036854775808
 have h1 := Nat.mod_lt (t / 2) (show 0 < 4503599627370495 by decide)
 generalize (t / 2) % 4503599627370495 = r at *
 rcases Nat.mod_two_eq_zero_or_one t with h | h <;> rw [h] <;> omega
theorem toF_drawn (a b t : Nat) : toF (Question.cut (.nanBits .f64 a b) t) = 9221120237041090560 := by unfold toF; rw [bp]; rfl
def fAr (op : Int) (a b : Nat) : Option Nat := if op = 1 then Ieee.double.add a b else if op = 2 then Ieee.double.sub a b else if op = 3 then Ieee.double.mul a b else Ieee.double.div a b
def AHW : Option Nat → Nat
 | some r => toF r
 | none => 9221120237041090560
def AHX (a b : Nat) : Option Nat → Sem Value
 | some r => pure (.float .f64 r)
 | none => do pure (.float .f64 (← choose (.nanBits .f64 a b)))
def Wv (op : Int) (a b : Nat) : Nat := AHW (fAr op a b)
def fCm (op : Int) (a b : Nat) : Bool :=
 let c := Ieee.double.order a b
 if op = 5 then c == some .eq else if op = 6 then c != some .eq else if op = 7 then c == some .lt else if op = 8 then c == some .lt || c == some .eq else if op = 9 then c == some .gt else if op = 10 then c == some .gt || c == some .eq else false
section
variable [Ey] {σ : Hp} {R : Rr}
theorem No {b : Nat} : YN prog 45 #[.float .f64 b] σ (.int .u64 b) := fun w _ => by
 rw [run_callFunc_extern Go.Proofs.Tryz.func45 (by kernel_rfl) (by kernel_rfl) (by kernel_rfl) (e := Extern.MathFloatBits.float64bits) (by kernel_rfl)]
 rfl
theorem Oo {x : Int} : YN prog 22 #[.int .u64 x] σ (.float .f64 x.toNat) := fun w _ => by
 rw [run_callFunc_extern Go.Proofs.Tryz.func22 (by kernel_rfl) (by kernel_rfl) (by kernel_rfl) (e := Extern.MathFloatBits.float64frombits) (by kernel_rfl)]
 rfl
theorem bq {x : Nat} (h : R (.returned (.bool (Jg x))) σ) : Spec prog 216 #[.float .f64 x] σ R :=
 RX.start ⟨Jg x,fun w _ => rfl,h⟩
theorem GV {x : Int} (h : R (.returned (.float .f64 x.toNat)) σ) : Spec prog 182 #[.int .u64 x] σ R :=
 eG.start (.y Oo ⟨_,rfl,h⟩)
theorem GX {x : Nat} (h : R (.returned (.int .u64 (toF x : Nat))) σ) : Spec prog 174 #[.float .f64 x] σ R := by
 refine eb.start (bq ⟨_,rfl,fun ht => ?_,fun hf => .y No ⟨_,rfl,?_⟩⟩)
 · rw [show toF x = 9221120237041090560 by unfold toF; rw [ht]; rfl] at h; exact h
 · rw [show toF x = x by unfold toF; rw [hf]; rfl] at h; exact h
def nrm (x : Int) : Int := (toF x.toNat : Nat)
theorem Fu {x : Int} (h : R (.returned (.int .u64 (nrm x))) σ) : Spec prog 186 #[.int .u64 x] σ R :=
 PS.start (GV ⟨_,rfl,GX ⟨_,rfl,h⟩⟩)
theorem oZ {m : Sem Value} {q : Question} {f : Nat → Value} {Φ : Value → Hp → Prop} (hm : ∀ w,m.run prog w = .ok (f (q.cut (w.tape w.drawn q))) { w with drawn := w.drawn + 1 }) (h : ∀ t,Φ (f (q.cut t)) σ) : AJ prog m σ Φ := fun w F hs hF =>
 ⟨_,_,σ,hm w,h _,⟨fun b o hb => hs b o hb,fun b hb => ⟨(hF b hb).2,rfl⟩,(Cf.same rfl rfl rfl).drew,rfl,Nat.le_refl _⟩⟩
theorem IP {m : Sem Value} {v : Value} {Φ : Value → Hp → Prop} (hm : ∀ w,m.run prog w = .ok v w) (h : Φ v σ) : AJ prog m σ Φ := fun w F hs hF =>
 ⟨_,_,σ,hm w,h,⟨hs,fun b hb => ⟨(hF b hb).2,rfl⟩,.same rfl rfl rfl,rfl,Nat.le_refl _⟩⟩
theorem Li {op : BinOp} {a b : Nat} {Φ : Value → Hp → Prop} (r : Option Nat) (hr : ∀ w,(Go.binOp op 51 (.float .f64 a) (.float .f64 b)).run prog w = (AHX a b r).run prog w)
   (h : ∀ x : Nat,toF x = AHW r → Φ (.float .f64 x) σ) : AJ prog (Go.binOp op 51 (.float .f64 a) (.float .f64 b)) σ Φ := by
 cases r with
 | some r => exact IP (v := .float .f64 r) (fun w => (hr w).trans rfl) (h r rfl)
 | none => exact oZ (q := .nanBits .f64 a b) (f := fun x => .float .f64 x) (fun w => (hr w).trans rfl) (fun t => h _ (toF_drawn a b t))
theorem Qg {a b : Nat} {Φ : Value → Hp → Prop} (h : ∀ x : Nat,toF x = Wv 1 a b → Φ (.float .f64 x) σ) : AJ prog (Go.binOp .add 51 (.float .f64 a) (.float .f64 b)) σ Φ :=
 Li (Ieee.double.add a b) (fun w => by refine (show _ = (Op.floatArith .add .f64 a b).run prog w from rfl).trans ?_; unfold Op.floatArith; simp only [FloatKind.format]; cases Ieee.double.add a b <;> rfl) h
theorem uC {a b : Nat} {Φ : Value → Hp → Prop} (h : ∀ x : Nat,toF x = Wv 2 a b → Φ (.float .f64 x) σ) : AJ prog (Go.binOp .sub 51 (.float .f64 a) (.float .f64 b)) σ Φ :=
 Li (Ieee.double.sub a b) (fun w => by refine (show _ = (Op.floatArith .sub .f64 a b).run prog w from rfl).trans ?_; unfold Op.floatArith; simp only [FloatKind.format]; cases Ieee.double.sub a b <;> rfl) h
theorem Np {a b : Nat} {Φ : Value → Hp → Prop} (h : ∀ x : Nat,toF x = Wv 3 a b → Φ (.float .f64 x) σ) : AJ prog (Go.binOp .mul 51 (.float .f64 a) (.float .f64 b)) σ Φ :=
 Li (Ieee.double.mul a b) (fun w => by refine (show _ = (Op.floatArith .mul .f64 a b).run prog w from rfl).trans ?_; unfold Op.floatArith; simp only [FloatKind.format]; cases Ieee.double.mul a b <;> rfl) h
theorem fF {a b : Nat} {Φ : Value → Hp → Prop} (h : ∀ x : Nat,toF x = Wv 4 a b → Φ (.float .f64 x) σ) : AJ prog (Go.binOp .quo 51 (.float .f64 a) (.float .f64 b)) σ Φ :=
 Li (Ieee.double.div a b) (fun w => by refine (show _ = (Op.floatArith .quo .f64 a b).run prog w from rfl).trans ?_; unfold Op.floatArith; simp only [FloatKind.format]; cases Ieee.double.div a b <;> rfl) h
def Oq (op a b : Int) : Int := (Wv op a.toNat b.toNat : Nat)
theorem JB {op a b : Int} (h : R (.returned (if 1 ≤ op ∧ op ≤ 4 then .tuple #[.int .u64 (Oq op a b),.bool true] else .tuple #[.int .u64 0,.bool false])) σ) : Spec prog 203 #[.int .i64 op,.int .u64 a,.int .u64 b] σ R := by
 refine SR.start (GV ⟨_,rfl,GV ⟨_,rfl,fun h1 => Qg fun x hx => ⟨_,rfl,GX ⟨_,rfl,?_⟩⟩,fun h1 => ⟨fun h2 => uC fun x hx => ⟨_,rfl,GX ⟨_,rfl,?_⟩⟩,fun h2 => ⟨fun h3 => Np fun x hx => ⟨_,rfl,GX ⟨_,rfl,?_⟩⟩,fun h3 => ⟨fun h4 => fF fun x hx => ⟨_,rfl,GX ⟨_,rfl,?_⟩⟩,fun h4 => ?_⟩⟩⟩⟩⟩)
 · subst h1; rw [hx]; exact h
 · subst h2; rw [hx]; exact h
 · subst h3; rw [hx]; exact h
 · subst h4; rw [hx]; exact h
 · rw [if_neg (by omega)] at h; exact h
end
end TwW
end
