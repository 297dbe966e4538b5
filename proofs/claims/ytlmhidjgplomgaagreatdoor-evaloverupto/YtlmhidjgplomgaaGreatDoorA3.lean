/-
  Part 3 of the proof that the law EvalOverUptoCardSaid of the given program answers true for every input of the given statement; the input reads behind the call as it did. (The texts: packed from 18 texts. Names are shortened by the packing program, for the bound on size.)
-/
import Derived.Test.YtlmhidjgplomgaaGreatDoorA2
import Derived.Laws.BytesArg
import Derived.Laws.Bits64b
import Derived.Laws.IdiomStrings
import Derived.Lib.Bytealg
import Derived.Lib.Split
import Derived.Lib.Index
set_option linter.all false
section
set_option maxRecDepth 100000
noncomputable section
namespace TwW
open Go Tw Go.Proofs.Tryz
variable [Ej] {R : Rr} {σ : Hp}

namespace PC
def M : Fw := ⟨prog,14,f14,[11,15,25,35,36],[],false,[],[],[]⟩
theorem ok : M.Ok := ⟨.cons call11 (.cons call15 (.cons call25 (.cons call35 (.cons call36 (AG.nil))))),mixed,func14,by kernel_rfl⟩
theorem start (h : Al σ fun A8 => Spec prog 25 #[.float .f64 4607182418800017408] (Hp.set σ A8 (.cells #[(.string (ByteArray.mk #[95,95,110,97,109,101,95,95])),(.string (ByteArray.mk #[120])),(.string (ByteArray.mk #[97])),(.string (ByteArray.mk #[49]))] 56 (0,0))) (AA R (CI .u64 fun x12 y => Spec prog 25 #[.float .f64 4613937818241073152] y (AA R (CI .u64 fun ZS AF => Al AF fun I9 => Al (Hp.set AF I9 (.cells #[.int .i64 0,.int .u64 x12,.int .i64 60,.int .u64 ZS] 50 (0,0))) fun Xk => Spec prog 25 #[.float .f64 4617315517961601024] (Hp.set (Hp.set AF I9 (.cells #[.int .i64 0,.int .u64 x12,.int .i64 60,.int .u64 ZS] 50 (0,0))) Xk (.cells #[(.string (ByteArray.mk #[95,95,110,97,109,101,95,95])),(.string (ByteArray.mk #[120])),(.string (ByteArray.mk #[97])),(.string (ByteArray.mk #[50]))] 56 (0,0))) (AA R (CI .u64 fun Lu AH => Al AH fun Pr => Al (Hp.set AH Pr (.cells #[.int .i64 60,.int .u64 Lu] 50 (0,0))) fun JV => Al (Hp.set (Hp.set AH Pr (.cells #[.int .i64 60,.int .u64 Lu] 50 (0,0))) JV (.cells #[(.slice (aD A8 0) 2 2),(.slice (aD I9 0) 2 2),(.slice (aD Xk 0) 2 2),(.slice (aD Pr 0) 1 1)] 40 (0,0))) fun XH => Al (Hp.set (Hp.set (Hp.set AH Pr (.cells #[.int .i64 60,.int .u64 Lu] 50 (0,0))) JV (.cells #[(.slice (aD A8 0) 2 2),(.slice (aD I9 0) 2 2),(.slice (aD Xk 0) 2 2),(.slice (aD Pr 0) 1 1)] 40 (0,0))) XH (.cells #[.int .i64 1,(.string (ByteArray.mk #[95,95,110,97,109,101,95,95])),(.string (ByteArray.mk #[120]))] 77 (0,0))) fun fm => Spec prog 11 #[(.slice (aD fm 0) 2 2),(.slice (aD JV 0) 2 2),.int .i64 60] (Hp.set (Hp.set (Hp.set (Hp.set AH Pr (.cells #[.int .i64 60,.int .u64 Lu] 50 (0,0))) JV (.cells #[(.slice (aD A8 0) 2 2),(.slice (aD I9 0) 2 2),(.slice (aD Xk 0) 2 2),(.slice (aD Pr 0) 1 1)] 40 (0,0))) XH (.cells #[.int .i64 1,(.string (ByteArray.mk #[95,95,110,97,109,101,95,95])),(.string (ByteArray.mk #[120]))] 77 (0,0))) fm (.cells #[.int .i64 2,.int .i64 0,(.string (ByteArray.mk #[])),(.slice (aD XH 0) 1 1),.int .i64 0,.int .i64 0,.int .i64 0,.slice none 0 0,.bool false,.int .i64 0,.int .i64 5,.int .i64 1,(.string (ByteArray.mk #[])),.slice none 0 0,.int .i64 0,.int .i64 0,.int .i64 0,.slice none 0 0,.bool false,.int .i64 1] 36 (0,0))) (AA R (fun z AZ => ∃ ADq yz AKV ADr,z = (.tuple #[.slice ADq yz AKV,.int .i64 ADr]) ∧ Spec prog 35 #[(.slice (aD fm 0) 2 2),(.slice (aD JV 0) 2 2),.int .i64 0,.int .i64 60,.int .i64 60] AZ (AA R (fun z CE => ∃ Xl VU aj ak,z = (.tuple #[.slice Xl VU aj,.int .i64 ak]) ∧ Spec prog 15 #[(.slice (aD fm 0) 2 2)] CE (AA R (fun z Fv => ∃ ADs ADt,z = (.tuple #[.int .i64 ADs,.int .i64 ADt]) ∧ Br (ADr = 0) (Br ((yz : Int) = 1) (Pq ADq fun u9 y5 => In 0 (yz : Int) ∧ LS Fv u9 (y5 + 1) fun uQ n59 uR => Spec prog 25 #[.float .f64 4620693217682128896] Fv (AA R (CI .u64 fun ri Gn => Kp [u9] Fv Gn ∧ Al Gn fun FL => Spec prog 36 #[.slice uQ n59 uR,(.slice (aD FL 0) 1 1)] (Hp.set Gn FL (.cells #[.int .i64 60,.int .u64 ri] 50 (0,0))) (AA R (CB fun t63 Ms => Bo t63 (Br (ak = 0) (Br ((VU : Int) = 1) (Pq Xl fun b76 o76 => In 0 (VU : Int) ∧ LS Ms b76 (o76 + 1) fun pq lH pr => Br ((lH : Int) = 2) (Br (ADs = 300) (R (.returned (.bool (decide (ADt = 0)))) Ms) (R (.returned (.bool false)) Ms)) (R (.returned (.bool false)) Ms)) (R (.returned (.bool false)) Ms)) (R (.returned (.bool false)) Ms)) (R (.returned (.bool false)) Ms)))))) (R (.returned (.bool false)) Fv)) (R (.returned (.bool false)) Fv)))))))))))))) : Spec prog 14 #[] σ R := M.start h ok
end PC
namespace Xm
variable {x0 : Int}
def M : Fw := ⟨prog,24,f24,[],[],false,[],[],[]⟩
theorem ok : M.Ok := ⟨AG.nil,mixed,func24,by kernel_rfl⟩
theorem start (h : Df (Go.bits .and .i64 x0 9223372036854775807) fun x4 => R (.returned (.int .i64 x4)) σ) : Spec prog 24 #[.int .i64 x0] σ R := M.start h ok
end Xm
namespace Ke
variable {x0 x3 : Int}
def M : Fw := ⟨prog,27,f27,[],[],false,[],[],[(30,[(3,wU)])]⟩
theorem ok : M.Ok := ⟨AG.nil,mixed,func27,by kernel_rfl⟩
def BF := M.pt 0
theorem start (h : Br (0 ≤ x0) (BF R 9218868437227405312 σ) (BF R 18442240474082181120 σ)) : Spec prog 27 #[.int .i64 x0] σ R := M.start h ok
theorem Ay (h : EN prog 22 #[.int .u64 x3] σ (fun z y => ∃ x7,(Value.float .f64 x7) = z ∧ R (.returned (Value.float .f64 x7)) y)) : BF R x3 σ := M.of h ok rfl
end Ke
namespace JI
variable {p0 : Option Addr} {n0 c0 : Nat}
def M : Fw := ⟨prog,33,f33,[],[],false,[],[],[]⟩
theorem ok : M.Ok := ⟨AG.nil,mixed,func33,by kernel_rfl⟩
theorem start (h : Al σ fun b3 => AJ prog (Builtin.append_ #[37,37] 37 #[(.slice (aD b3 0) 0 0),.slice p0 n0 c0]) (Hp.set σ b3 (.cells #[] 56 (0,0))) (CS fun p5 n5 c5 y => R (.returned (.slice p5 n5 c5)) y)) : Spec prog 33 #[.slice p0 n0 c0] σ R := M.start h ok
end JI
namespace R6
variable {x0 : Int}
def M : Fw := ⟨prog,81,f81,[],[],false,[],[],[]⟩
theorem ok : M.Ok := ⟨AG.nil,mixed,func81,by kernel_rfl⟩
theorem start (h : Al σ fun b1 => R (.returned (.func (.func 127) #[] #[(.pointer (aD b1 0))])) (Hp.set σ b1 (.cells #[.int .i64 x0] 3 (0,0)))) : Spec prog 81 #[.int .i64 x0] σ R := M.start h ok
end R6
namespace AT
variable {q0 : Option Addr} {v1 : Value} {x2 x3 : Int} {b9 : Nat}
def M : Fw := ⟨prog,95,f95,[66,133,134,135,136,137,138],[],false,[],[],[(48,[(0,wQ),(1,wV),(2,wI),(3,wI)]),(3198,[(0,wQ),(1,wV),(2,wI),(3,wI),(9,wA)])]⟩
theorem ok : M.Ok := ⟨.cons call66 (.cons call133 (.cons call134 (.cons call135 (.cons call136 (.cons call137 (.cons call138 (AG.nil))))))),mixed,func95,by kernel_rfl⟩
def al := M.pt 0
def E9 := M.pt 1
theorem start (h : ∃ (f11 : Nat) (Xi Xj : Array Value),v1 = .func (.func f11) Xi Xj ∧ Enters prog f11 ∧ Spec prog f11 (Xi ++ #[] ++ Xj) σ (AA R (fun z y => z = (.tuple #[]) ∧ al R q0 v1 x2 x3 y))) : Spec prog 95 #[.pointer q0,v1,.int .i64 x2,.int .i64 x3] σ R := M.Du h ok [(0,.o (.Q q0)),(1,.o (.V v1)),(2,.o (.I .i64 x2)),(3,.o (.I .i64 x3))] rfl rfl (by kernel_rfl)
theorem OS (h : Spec prog 134 #[] σ (AA R (CS fun aq n12 ZX y => Spec prog 66 #[.pointer q0] y (AA R (fun z AF => ∃ GI TS VV y7,z = (.agg #[.int .i64 GI,.int .i64 TS,.string VV,.int .i64 y7]) ∧ Spec prog 133 #[.slice aq n12 ZX,.string VV] AF (AA R (CI .i64 fun x16 AH => Spec prog 66 #[.pointer q0] AH (AA R (fun z AZ => ∃ Xn au av AKW,z = (.agg #[.int .i64 Xn,.int .i64 au,.string av,.int .i64 AKW]) ∧ Br (Xn ≠ 5) (Spec prog 66 #[.pointer q0] AZ (AA R (fun z CE => ∃ rj fa y8 zA,z = (.agg #[.int .i64 rj,.int .i64 fa,.string y8,.int .i64 zA]) ∧ Br (rj ≠ 3) (R (.returned (.tuple #[])) CE) (Br (x16 < x2) (R (.returned (.tuple #[])) CE) (Br (x3 < x16) (R (.returned (.tuple #[])) CE) (Br (x2 = 11) (Br (x16 = 12) (R (.returned (.tuple #[])) CE) (Spec prog 135 #[.pointer q0] CE (AA R (fun z Fv => ∃ Ps Pu VW VX,z = (.agg #[.int .i64 Ps,.int .i64 Pu,.string VW,.int .i64 VX]) ∧ Al Fv fun b9 => AJ prog (Instr.storeAt 36 (.pointer (aD b9 0)) (.agg #[.int .i64 6,.int .i64 x16,(.string (ByteArray.mk #[])),.slice none 0 0,.int .i64 0,.int .i64 0,.int .i64 0,.slice none 0 0,.bool false,.int .i64 2])) (Hp.set Fv b9 (.cells #[.int .i64 0,.int .i64 0,(.string (ByteArray.mk #[])),.slice none 0 0,.int .i64 0,.int .i64 0,.int .i64 0,.slice none 0 0,.bool false,.int .i64 0] 36 (0,0))) (fun _ Gn => Br (5 ≤ x16) (Br (x16 ≤ 10) (Spec prog 136 #[.pointer q0,.int .i64 3,(.string (ByteArray.mk #[98,111,111,108]))] Gn (AA R (CB fun t55 Ms => Bo t55 (Spec prog 135 #[.pointer q0] Ms (AA R (fun z VN => ∃ VY VZ Va Vb,z = (.agg #[.int .i64 VY,.int .i64 VZ,.string Va,.int .i64 Vb]) ∧ AJ prog (Instr.storeAt 4 (.pointer (aD b9 8)) (.bool true)) VN (fun _ Lf => E9 R q0 v1 x2 x3 b9 Lf)))) (E9 R q0 v1 x2 x3 b9 Ms)))) (E9 R q0 v1 x2 x3 b9 Gn)) (E9 R q0 v1 x2 x3 b9 Gn)))))) (Spec prog 135 #[.pointer q0] CE (AA R (fun z Fv => ∃ Ps Pu VW VX,z = (.agg #[.int .i64 Ps,.int .i64 Pu,.string VW,.int .i64 VX]) ∧ Al Fv fun b9 => AJ prog (Instr.storeAt 36 (.pointer (aD b9 0)) (.agg #[.int .i64 6,.int .i64 x16,(.string (ByteArray.mk #[])),.slice none 0 0,.int .i64 0,.int .i64 0,.int .i64 0,.slice none 0 0,.bool false,.int .i64 2])) (Hp.set Fv b9 (.cells #[.int .i64 0,.int .i64 0,(.string (ByteArray.mk #[])),.slice none 0 0,.int .i64 0,.int .i64 0,.int .i64 0,.slice none 0 0,.bool false,.int .i64 0] 36 (0,0))) (fun _ Gn => Br (5 ≤ x16) (Br (x16 ≤ 10) (Spec prog 136 #[.pointer q0,.int .i64 3,(.string (ByteArray.mk #[98,111,111,108]))] Gn (AA R (CB fun t55 Ms => Bo t55 (Spec prog 135 #[.pointer q0] Ms (AA R (fun z VN => ∃ VY VZ Va Vb,z = (.agg #[.int .i64 VY,.int .i64 VZ,.string Va,.int .i64 Vb]) ∧ AJ prog (Instr.storeAt 4 (.pointer (aD b9 8)) (.bool true)) VN (fun _ Lf => E9 R q0 v1 x2 x3 b9 Lf)))) (E9 R q0 v1 x2 x3 b9 Ms)))) (E9 R q0 v1 x2 x3 b9 Gn)) (E9 R q0 v1 x2 x3 b9 Gn))))))))))) (Br (x16 < x2) (R (.returned (.tuple #[])) AZ) (Br (x3 < x16) (R (.returned (.tuple #[])) AZ) (Br (x2 = 11) (Br (x16 = 12) (R (.returned (.tuple #[])) AZ) (Spec prog 135 #[.pointer q0] AZ (AA R (fun z CE => ∃ Ps Pu VW VX,z = (.agg #[.int .i64 Ps,.int .i64 Pu,.string VW,.int .i64 VX]) ∧ Al CE fun b9 => AJ prog (Instr.storeAt 36 (.pointer (aD b9 0)) (.agg #[.int .i64 6,.int .i64 x16,(.string (ByteArray.mk #[])),.slice none 0 0,.int .i64 0,.int .i64 0,.int .i64 0,.slice none 0 0,.bool false,.int .i64 2])) (Hp.set CE b9 (.cells #[.int .i64 0,.int .i64 0,(.string (ByteArray.mk #[])),.slice none 0 0,.int .i64 0,.int .i64 0,.int .i64 0,.slice none 0 0,.bool false,.int .i64 0] 36 (0,0))) (fun _ Fv => Br (5 ≤ x16) (Br (x16 ≤ 10) (Spec prog 136 #[.pointer q0,.int .i64 3,(.string (ByteArray.mk #[98,111,111,108]))] Fv (AA R (CB fun t55 Gn => Bo t55 (Spec prog 135 #[.pointer q0] Gn (AA R (fun z Ms => ∃ VY VZ Va Vb,z = (.agg #[.int .i64 VY,.int .i64 VZ,.string Va,.int .i64 Vb]) ∧ AJ prog (Instr.storeAt 4 (.pointer (aD b9 8)) (.bool true)) Ms (fun _ VN => E9 R q0 v1 x2 x3 b9 VN)))) (E9 R q0 v1 x2 x3 b9 Gn)))) (E9 R q0 v1 x2 x3 b9 Fv)) (E9 R q0 v1 x2 x3 b9 Fv)))))) (Spec prog 135 #[.pointer q0] AZ (AA R (fun z CE => ∃ Ps Pu VW VX,z = (.agg #[.int .i64 Ps,.int .i64 Pu,.string VW,.int .i64 VX]) ∧ Al CE fun b9 => AJ prog (Instr.storeAt 36 (.pointer (aD b9 0)) (.agg #[.int .i64 6,.int .i64 x16,(.string (ByteArray.mk #[])),.slice none 0 0,.int .i64 0,.int .i64 0,.int .i64 0,.slice none 0 0,.bool false,.int .i64 2])) (Hp.set CE b9 (.cells #[.int .i64 0,.int .i64 0,(.string (ByteArray.mk #[])),.slice none 0 0,.int .i64 0,.int .i64 0,.int .i64 0,.slice none 0 0,.bool false,.int .i64 0] 36 (0,0))) (fun _ Fv => Br (5 ≤ x16) (Br (x16 ≤ 10) (Spec prog 136 #[.pointer q0,.int .i64 3,(.string (ByteArray.mk #[98,111,111,108]))] Fv (AA R (CB fun t55 Gn => Bo t55 (Spec prog 135 #[.pointer q0] Gn (AA R (fun z Ms => ∃ VY VZ Va Vb,z = (.agg #[.int .i64 VY,.int .i64 VZ,.string Va,.int .i64 Vb]) ∧ AJ prog (Instr.storeAt 4 (.pointer (aD b9 8)) (.bool true)) Ms (fun _ VN => E9 R q0 v1 x2 x3 b9 VN)))) (E9 R q0 v1 x2 x3 b9 Gn)))) (E9 R q0 v1 x2 x3 b9 Fv)) (E9 R q0 v1 x2 x3 b9 Fv))))))))))))))))) : al R q0 v1 x2 x3 σ := M.of h ok rfl
theorem VQ (h : Spec prog 137 #[.pointer q0,(.pointer (aD b9 0)),(.agg #[(.string (ByteArray.mk #[111,110])),(.string (ByteArray.mk #[105,103,110,111,114,105,110,103]))]),.agg #[.int .i64 3,.int .i64 4]] σ (AA R (fun z y => z = (.tuple #[]) ∧ ∃ (f65 : Nat) (vA vB : Array Value),v1 = .func (.func f65) vA vB ∧ Enters prog f65 ∧ Spec prog f65 (vA ++ #[] ++ vB) y (AA R (fun z AF => z = (.tuple #[]) ∧ ∃ J9 KA KB KC KD KE KF KG KH KI KJ KK KL KM,As AF b9 0 [.int .i64 J9,.int .i64 KA,.string KB,.slice KC KD KE,.int .i64 KF,.int .i64 KG,.int .i64 KH,.slice KI KJ KK,.bool KL,.int .i64 KM] ∧ Spec prog 138 #[.pointer q0,.agg #[.int .i64 J9,.int .i64 KA,.string KB,.slice KC KD KE,.int .i64 KF,.int .i64 KG,.int .i64 KH,.slice KI KJ KK,.bool KL,.int .i64 KM]] AF (AA R (fun z AH => z = (.tuple #[]) ∧ al R q0 v1 x2 x3 AH))))))) : E9 R q0 v1 x2 x3 b9 σ := M.of h ok rfl
end AT
namespace AW
variable {q0 DV Dd p2 GX Hk HC Fs p8 fp aq p47 : Option Addr} {DR CL DS DW Cv CO Fm FR Hl F5 Hm IM Fp Fq Vc JH Vd Q3 : Int} {DT HM : ByteArray} {DX DY DZ De n2 c2 GY GZ Hn Ho HD HE Ft Fu n8 c8 n25 fq n12 ZX n47 zB : Nat} {Cw IN : Bool} {v9 : Value}
def M : Fw := ⟨prog,103,f103,[146,147,148],[4,6,11,14],false,[],[],[(488,[(2,wL),(4,.X 36 [.I .i64,.I .i64,.T,.L,.I .i64,.I .i64,.I .i64,.L,.B,.I .i64]),(6,.X 93 [.I .i64,.I .u64,.L,.L]),(8,wL),(9,wV),(25,wL),(26,wI),(27,wI)]),(2024,[(2,wL),(4,.X 36 [.I .i64,.I .i64,.T,.L,.I .i64,.I .i64,.I .i64,.L,.B,.I .i64]),(6,.X 93 [.I .i64,.I .u64,.L,.L]),(8,wL),(12,wL),(47,wL),(48,wI),(49,wI)]),(8103,[(2,wL),(4,.X 36 [.I .i64,.I .i64,.T,.L,.I .i64,.I .i64,.I .i64,.L,.B,.I .i64]),(6,.X 93 [.I .i64,.I .u64,.L,.L]),(8,wL),(12,wL),(47,wL),(48,wI),(49,wI)])]⟩
theorem ok : M.Ok := ⟨.cons call146 (.cons call147 (.cons call148 (AG.nil))),mixed,func103,by kernel_rfl⟩
def Ew := M.pt 0
def G9 := M.pt 1
def Li := M.pt 2
theorem start (h : ∀ b4 : Nat,∀ b6 : Nat,AJ prog (Instr.makeMap 191 none) σ (fun z y => ∃ m17,z = (.map (some m17)) ∧ AJ prog (Instr.mapUpdate 191 (.map (some m17)) (.int .i64 11) (.func (.func 144) #[] #[])) y (fun _ AF => AJ prog (Instr.mapUpdate 191 (.map (some m17)) (.int .i64 12) (.func (.func 145) #[] #[])) AF (fun _ AH => AJ prog (Instr.lookup 191 (.map (some m17)) (.int .i64 CL) false) AH (fun z AZ => ∃ v21,v21 = z ∧ Pq p2 fun Pr lI => In 0 (n2 : Int) ∧ LS AZ Pr (lI + 2) fun fp n25 fq => Ew R (aD Pr lI) n2 c2 DR CL DT DV DX DY DS DW Cv Dd DZ De Cw CO 0 0 none 0 0 none 0 0 none 0 0 v21 fp n25 fq (n25 : Int) 0 AZ))))) : Spec prog 103 #[.pointer q0,.agg #[.int .i64 DR,.int .i64 CL,.string DT,.slice DV DX DY,.int .i64 DS,.int .i64 DW,.int .i64 Cv,.slice Dd DZ De,.bool Cw,.int .i64 CO],.slice p2 n2 c2] σ R := M.start h ok
theorem FJ (h : Br (JH < Vc) (Pq fp fun Pn dU => In JH (n25 : Int) ∧ ∃ lJ lK lL lM,As σ Pn (dU + Int.toNat JH * 2) [.slice lJ lK lL,.int .u64 lM] ∧ ∀ A8 : Nat,Spec prog 146 #[.slice lJ lK lL] σ (AA R (CS fun p34 n34 c34 y => ∃ (f38 : Nat) (HP HQ : Array Value),v9 = .func (.func f38) HP HQ ∧ Enters prog f38 ∧ Spec prog f38 (HP ++ #[.int .u64 lM] ++ HQ) y (AA R (CI .u64 fun vC AF => Al AF fun WQ => AJ prog (Builtin.append_ #[67,67] 67 #[.slice p8 n8 c8,(.slice (aD WQ 0) 1 1)]) (Hp.set AF WQ (.cells #[.slice p34 n34 c34,.int .u64 vC] 71 (0,0))) (CS fun uY n41 jA AH => AM (JH + 1) ∧ Ew R p2 n2 c2 Fm FR HM GX GY GZ Hl F5 Hm Hk Hn Ho IN IM Fp Fq HC HD HE Fs Ft Fu uY n41 jA v9 (aD Pn dU) n25 fq Vc (JH + 1) AH)))))) (Spec prog 147 #[] σ (AA R (CS fun jC n43 jD y => Pq p2 fun iy iz => In 0 (n2 : Int) ∧ LS y iy (iz + 3) fun p47 n47 zB => G9 R (aD iy iz) n2 c2 Fm FR HM GX GY GZ Hl F5 Hm Hk Hn Ho IN IM Fp Fq HC HD HE Fs Ft Fu p8 n8 c8 jC n43 jD p47 n47 zB (n47 : Int) 0 y)))) : Ew R p2 n2 c2 Fm FR HM GX GY GZ Hl F5 Hm Hk Hn Ho IN IM Fp Fq HC HD HE Fs Ft Fu p8 n8 c8 v9 fp n25 fq Vc JH σ := M.fP h ok rfl fun _ _ => by kernel_rfl
theorem Is (h : Br (Q3 < Vd) (Pq p47 fun b51 o51 => In Q3 (n47 : Int) ∧ ∃ ADu ADv ADw ADx ADy ADz,As σ b51 (o51 + Int.toNat Q3 * 2) [.slice ADu ADv ADw,.slice ADx ADy ADz] ∧ ∀ BC : Nat,Pq aq fun u9 y5 => In FR (n12 : Int) ∧ ∃ v58,Hp.ld σ ⟨u9,(y5 + Int.toNat FR * 1),none⟩ = some v58 ∧ ∃ (f63 : Nat) (Kf Kg : Array Value),v58 = .func (.func f63) Kf Kg ∧ Enters prog f63 ∧ Spec prog f63 (Kf ++ #[.slice ADx ADy ADz,.agg #[.int .i64 Fm,.int .i64 FR,.string HM,.slice GX GY GZ,.int .i64 Hl,.int .i64 F5,.int .i64 Hm,.slice Hk Hn Ho,.bool IN,.int .i64 IM],.slice p2 n2 c2] ++ Kg) σ (AA R (fun z y => ∃ AD0 AD1,z = (.tuple #[.int .u64 AD0,.bool AD1]) ∧ Bo AD1 (Spec prog 146 #[.slice ADu ADv ADw] y (AA R (CS fun p70 n70 c70 AF => Al AF fun zC => AJ prog (Builtin.append_ #[67,67] 67 #[.slice p8 n8 c8,(.slice (aD zC 0) 1 1)]) (Hp.set AF zC (.cells #[.slice p70 n70 c70,.int .u64 AD0] 71 (0,0))) (CS fun p74 n74 c74 AH => Li R p2 n2 c2 Fm FR HM GX GY GZ Hl F5 Hm Hk Hn Ho IN IM Fp Fq HC HD HE Fs Ft Fu p74 n74 c74 (aD u9 y5) n12 ZX (aD b51 o51) n47 zB Vd Q3 AH)))) (Li R p2 n2 c2 Fm FR HM GX GY GZ Hl F5 Hm Hk Hn Ho IN IM Fp Fq HC HD HE Fs Ft Fu p8 n8 c8 (aD u9 y5) n12 ZX (aD b51 o51) n47 zB Vd Q3 y)))) (Spec prog 148 #[.slice p8 n8 c8] σ (AA R (fun z y => ∃ vD vE vF vG vH vI vJ vK AD5,z = (.tuple #[.agg #[.int .i64 vD,.int .u64 vE,.slice vF vG vH,.slice vI vJ vK],.int .i64 AD5]) ∧ R (.returned (.tuple #[.agg #[.int .i64 vD,.int .u64 vE,.slice vF vG vH,.slice vI vJ vK],.int .i64 AD5])) y)))) : G9 R p2 n2 c2 Fm FR HM GX GY GZ Hl F5 Hm Hk Hn Ho IN IM Fp Fq HC HD HE Fs Ft Fu p8 n8 c8 aq n12 ZX p47 n47 zB Vd Q3 σ := M.fP h ok rfl fun _ _ => by kernel_rfl
theorem Iu (h : AM (Q3 + 1) ∧ G9 R p2 n2 c2 Fm FR HM GX GY GZ Hl F5 Hm Hk Hn Ho IN IM Fp Fq HC HD HE Fs Ft Fu p8 n8 c8 aq n12 ZX p47 n47 zB Vd (Q3 + 1) σ) : Li R p2 n2 c2 Fm FR HM GX GY GZ Hl F5 Hm Hk Hn Ho IN IM Fp Fq HC HD HE Fs Ft Fu p8 n8 c8 aq n12 ZX p47 n47 zB Vd Q3 σ := M.fP h ok rfl fun _ _ => by kernel_rfl
end AW
namespace BA
variable {q0 DV Dd p2 HC Fs p8 fp : Option Addr} {DR CL DS DW Cv CO Fp Fq Vc JH : Int} {DT : ByteArray} {DX DY DZ De n2 c2 HD HE Ft Fu n8 c8 n25 fq : Nat} {Cw : Bool}
def M : Fw := ⟨prog,106,f106,[146,148,162],[4,6,10],false,[],[],[(488,[(6,.X 93 [.I .i64,.I .u64,.L,.L]),(8,wL),(25,wL),(26,wI),(27,wI)])]⟩
theorem ok : M.Ok := ⟨.cons call146 (.cons call148 (.cons call162 (AG.nil))),mixed,func106,by kernel_rfl⟩
def rk := M.pt 0
theorem start (h : ∀ b4 : Nat,∀ b6 : Nat,Pq p2 fun O6 Pg => In 0 (n2 : Int) ∧ LI .i64 σ O6 Pg fun ZS => Br (ZS = 1) (In 0 (n2 : Int) ∧ LI .u64 σ O6 (Pg + 1) fun Cn => Spec prog 162 #[.int .u64 Cn] σ (AA R (CI .u64 fun Hc y => R (.returned (.tuple #[.agg #[.int .i64 1,.int .u64 Hc,.slice none 0 0,.slice none 0 0],.int .i64 0])) y))) (In 0 (n2 : Int) ∧ LS σ O6 (Pg + 2) fun fp n25 fq => rk R 0 0 none 0 0 none 0 0 none 0 0 fp n25 fq (n25 : Int) 0 σ)) : Spec prog 106 #[.pointer q0,.agg #[.int .i64 DR,.int .i64 CL,.string DT,.slice DV DX DY,.int .i64 DS,.int .i64 DW,.int .i64 Cv,.slice Dd DZ De,.bool Cw,.int .i64 CO],.slice p2 n2 c2] σ R := M.start h ok
theorem dZ (h : Br (JH < Vc) (Pq fp fun Pn dU => In JH (n25 : Int) ∧ ∃ lJ lK lL lM,As σ Pn (dU + Int.toNat JH * 2) [.slice lJ lK lL,.int .u64 lM] ∧ ∀ CW : Nat,Spec prog 146 #[.slice lJ lK lL] σ (AA R (CS fun p34 n34 c34 y => Spec prog 162 #[.int .u64 lM] y (AA R (CI .u64 fun Po AF => Al AF fun pw => AJ prog (Builtin.append_ #[67,67] 67 #[.slice p8 n8 c8,(.slice (aD pw 0) 1 1)]) (Hp.set AF pw (.cells #[.slice p34 n34 c34,.int .u64 Po] 71 (0,0))) (CS fun yT n40 yU AH => AM (JH + 1) ∧ rk R Fp Fq HC HD HE Fs Ft Fu yT n40 yU (aD Pn dU) n25 fq Vc (JH + 1) AH)))))) (Spec prog 148 #[.slice p8 n8 c8] σ (AA R (fun z y => ∃ vL vM vN vO vP vQ vR vS Lh,z = (.tuple #[.agg #[.int .i64 vL,.int .u64 vM,.slice vN vO vP,.slice vQ vR vS],.int .i64 Lh]) ∧ R (.returned (.tuple #[.agg #[.int .i64 vL,.int .u64 vM,.slice vN vO vP,.slice vQ vR vS],.int .i64 Lh])) y)))) : rk R Fp Fq HC HD HE Fs Ft Fu p8 n8 c8 fp n25 fq Vc JH σ := M.iu h ok rfl fun _ => by kernel_rfl
end BA
namespace Di
variable {p0 p5 : Option Addr} {n0 c0 n5 c5 : Nat} {x1 : Int}
def M : Fw := ⟨prog,107,f107,[],[],false,[],[],[(224,[(1,wU),(5,wL)])]⟩
theorem ok : M.Ok := ⟨AG.nil,mixed,func107,by kernel_rfl⟩
def JD := M.pt 0
theorem start (h : Al σ fun b6 => AJ prog (Builtin.append_ #[90,90] 90 #[(.slice (aD b6 0) 0 0),.slice p0 n0 c0]) (Hp.set σ b6 (.cells #[] 5 (0,0))) (CS fun p8 n8 c8 y => JD R x1 p8 n8 c8 y)) : Spec prog 107 #[.slice p0 n0 c0,.int .u64 x1] σ R := M.start h ok
theorem BR (h : Br (127 < x1) (Df (IntKind.u8.wrap x1) fun x15 => Df (Go.bits .or .u8 x15 128) fun x16 => Al σ fun b17 => AJ prog (Builtin.append_ #[90,90] 90 #[.slice p5 n5 c5,(.slice (aD b17 0) 1 1)]) (Hp.set σ b17 (.cells #[.int .u8 x16] 5 (0,0))) (CS fun p18 n18 c18 y => ((0 : Int) ≤ 7 ∧ 7 ≤ ((IntKind.bits .u64 : Nat) : Int)) ∧ Df (x1 / 2 ^ Int.toNat 7) fun x12 => JD R x12 p18 n18 c18 y)) (Df (IntKind.u8.wrap x1) fun Lu => Al σ fun b22 => AJ prog (Builtin.append_ #[90,90] 90 #[.slice p5 n5 c5,(.slice (aD b22 0) 1 1)]) (Hp.set σ b22 (.cells #[.int .u8 Lu] 5 (0,0))) (CS fun pd n23 pe y => R (.returned (.slice pd n23 pe)) y))) : JD R x1 p5 n5 c5 σ := M.of h ok rfl
end Di
namespace R7
variable {x0 : Int}
def M : Fw := ⟨prog,128,f128,[],[],false,[],[],[]⟩
theorem ok : M.Ok := ⟨AG.nil,mixed,func128,by kernel_rfl⟩
theorem start (h : Br (11 ≤ x0) (R (.returned (.bool (decide (x0 ≤ 13)))) σ) (R (.returned (.bool false)) σ)) : Spec prog 128 #[.int .i64 x0] σ R := M.start h ok
end R7
namespace JJ
variable {q0 : Option Addr} {x1 : Int} {s2 : ByteArray}
def M : Fw := ⟨prog,136,f136,[66],[],false,[],[],[]⟩
theorem ok : M.Ok := ⟨.cons call66 (AG.nil),mixed,func136,by kernel_rfl⟩
theorem start (h : Spec prog 66 #[.pointer q0] σ (AA R (fun z y => ∃ Dx D7 s8c x8d,z = (.agg #[.int .i64 Dx,.int .i64 D7,.string s8c,.int .i64 x8d]) ∧ Br (Dx = x1) (Spec prog 66 #[.pointer q0] y (AA R (fun z AF => ∃ GI TS VV y7,z = (.agg #[.int .i64 GI,.int .i64 TS,.string VV,.int .i64 y7]) ∧ R (.returned (.bool (ByteArray.toList VV == ByteArray.toList s2))) AF))) (R (.returned (.bool false)) y)))) : Spec prog 136 #[.pointer q0,.int .i64 x1,.string s2] σ R := M.start h ok
end JJ
namespace Dy
variable {p0 p1 p5 p9 : Option Addr} {n0 c0 n1 c1 n5 c5 n9 c9 : Nat} {x10 x11 : Int}
def M : Fw := ⟨prog,142,f142,[125,178,179,180],[7],false,[],[],[(232,[(1,wL),(5,wL),(9,wL),(10,wI),(11,wI)])]⟩
theorem ok : M.Ok := ⟨.cons call125 (.cons call178 (.cons call179 (.cons call180 (AG.nil)))),mixed,func142,by kernel_rfl⟩
def A1 := M.pt 0
theorem start (h : Spec prog 178 #[] σ (AA R (CS fun p8 n8 c8 y => A1 R p1 n1 c1 p8 n8 c8 p0 n0 c0 (n0 : Int) 0 y))) : Spec prog 142 #[.slice p0 n0 c0,.slice p1 n1 c1] σ R := M.start h ok
theorem Ab (h : Br (x11 < x10) (Pq p9 fun C7 ix => In x11 (n9 : Int) ∧ ∃ GI aV VV,As σ C7 (ix + Int.toNat x11 * 3) [.int .i64 GI,.string aV,.string VV] ∧ ∀ b7 : Nat,Spec prog 125 #[.int .i64 GI] σ (AA R (CB fun t17 y => Bn t17 (R (.returned (.bool false)) y) (Pq p5 fun Pr lI => In GI (n5 : Int) ∧ ∃ v24,Hp.ld y ⟨Pr,(lI + Int.toNat GI * 1),none⟩ = some v24 ∧ Spec prog 179 #[.string VV] y (AA R (fun z AF => ∃ MV Lg MW,z = (.agg #[.slice MV Lg MW]) ∧ Kp [Pr] y AF ∧ Spec prog 180 #[.slice p1 n1 c1,.string aV] AF (AA R (CT fun s34 AH => Kp [Pr] AF AH ∧ ∃ (f35 : Nat) (Xo Xp : Array Value),v24 = .func (.func f35) Xo Xp ∧ Enters prog f35 ∧ Spec prog f35 (Xo ++ #[.agg #[.slice MV Lg MW,.string VV],.string s34] ++ Xp) AH (AA R (CB fun t35 AZ => Bn t35 (R (.returned (.bool false)) AZ) (AM (x11 + 1) ∧ A1 R p1 n1 c1 (aD Pr lI) n5 c5 (aD C7 ix) n9 c9 x10 (x11 + 1) AZ))))))))))) (R (.returned (.bool true)) σ)) : A1 R p1 n1 c1 p5 n5 c5 p9 n9 c9 x10 x11 σ := M.of h ok rfl
end Dy
namespace UL
variable {p0 : Option Addr} {n0 c0 : Nat}
def M : Fw := ⟨prog,146,f146,[150],[],false,[],[],[]⟩
theorem ok : M.Ok := ⟨.cons call150 (AG.nil),mixed,func146,by kernel_rfl⟩
theorem start (h : Al σ fun b4 => Spec prog 150 #[.slice p0 n0 c0,(.slice (aD b4 0) 1 1)] (Hp.set σ b4 (.cells #[(.string (ByteArray.mk #[95,95,110,97,109,101,95,95]))] 9 (0,0))) (AA R (CS fun p5 n5 c5 y => R (.returned (.slice p5 n5 c5)) y))) : Spec prog 146 #[.slice p0 n0 c0] σ R := M.start h ok
end UL
namespace D9
variable {p0 p2c p2d : Option Addr} {n0 c0 n2c c2c n2d c2d : Nat} {rl x2b x4 : Int}
def M : Fw := ⟨prog,148,f148,[52,195],[2],false,[],[],[(464,[(0,wL),(2,.X 93 [.I .i64,.I .u64,.L,.L]),(4,wI)])]⟩
theorem ok : M.Ok := ⟨.cons call52 (.cons call195 (AG.nil)),mixed,func148,by kernel_rfl⟩
def BF := M.pt 0
theorem start (h : ∀ b2 : Nat,Spec prog 195 #[.slice p0 n0 c0,(.func (.func 196) #[] #[])] σ (AA R (fun z y => z = (.tuple #[]) ∧ BF R p0 n0 c0 0 0 none 0 0 none 0 0 1 y))) : Spec prog 148 #[.slice p0 n0 c0] σ R := M.start h ok
theorem Ay (h : Br (x4 < (n0 : Int)) (AM (x4 - 1) ∧ Pq p0 fun I9 VJ => In (x4 - 1) (n0 : Int) ∧ LS σ I9 (VJ + Int.toNat (x4 - 1) * 2) fun p18 n18 c18 => In x4 (n0 : Int) ∧ LS σ I9 (VJ + Int.toNat x4 * 2) fun pd n23 pe => Spec prog 52 #[.slice p18 n18 c18,.slice pd n23 pe] σ (AA R (CI .i64 fun I8 y => Br (I8 = 0) (R (.returned (.tuple #[.agg #[.int .i64 0,.int .u64 0,.slice none 0 0,.slice none 0 0],.int .i64 223])) y) (AM (x4 + 1) ∧ BF R (aD I9 VJ) n0 c0 rl x2b p2c n2c c2c p2d n2d c2d (x4 + 1) y)))) (R (.returned (.tuple #[.agg #[.int .i64 2,.int .u64 0,.slice p0 n0 c0,.slice none 0 0],.int .i64 0])) σ)) : BF R p0 n0 c0 rl x2b p2c n2c c2c p2d n2d c2d x4 σ := M.iu h ok rfl fun _ => by kernel_rfl
end D9
namespace DE
variable {x0 : Int} {b1 b2 : Nat}
def M : Fw := ⟨prog,158,f158,[156],[],false,[],[],[]⟩
theorem ok : M.Ok := ⟨.cons call156 (AG.nil),mixed,func158,by kernel_rfl⟩
theorem start (h : ∃ Fp Fq s6c Fs Ft Fu x6e x6f x6g p6h n6h c6h t6i x6j,As σ b1 0 [.int .i64 Fp,.int .i64 Fq,.string s6c,.slice Fs Ft Fu,.int .i64 x6e,.int .i64 x6f,.int .i64 x6g,.slice p6h n6h c6h,.bool t6i,.int .i64 x6j] ∧ LI .u64 σ b2 1 fun x8 => Spec prog 156 #[.agg #[.int .i64 Fp,.int .i64 Fq,.string s6c,.slice Fs Ft Fu,.int .i64 x6e,.int .i64 x6f,.int .i64 x6g,.slice p6h n6h c6h,.bool t6i,.int .i64 x6j],.int .u64 x8,.int .u64 x0] σ (AA R (fun z y => ∃ IZ Q8,z = (.tuple #[.int .u64 IZ,.bool Q8]) ∧ R (.returned (.tuple #[.int .u64 IZ,.bool Q8])) y))) : Spec prog 158 #[.int .u64 x0,(.pointer (aD b1 0)),(.pointer (aD b2 0))] σ R := M.start h ok
end DE
namespace DF
variable {q0 : Option Addr}
def M : Fw := ⟨prog,171,f171,[95],[],false,[],[],[]⟩
theorem ok : M.Ok := ⟨.cons call95 (AG.nil),mixed,func171,by kernel_rfl⟩
theorem start (h : Spec prog 95 #[.pointer q0,(.func (.func 212) #[.pointer q0] #[]),.int .i64 1,.int .i64 2] σ (AA R (fun z y => z = (.tuple #[]) ∧ R (.returned (.tuple #[])) y))) : Spec prog 171 #[.pointer q0] σ R := M.start h ok
end DF
namespace H5
variable {p0 p7 : Option Addr} {n0 c0 n7 c7 : Nat} {s1 : ByteArray} {x8 x9 : Int}
def M : Fw := ⟨prog,180,f180,[],[6],false,[],[],[(104,[(1,wT),(7,wL),(8,wI),(9,wI)])]⟩
theorem ok : M.Ok := ⟨AG.nil,mixed,func180,by kernel_rfl⟩
def Hi := M.pt 0
theorem start (h : Hi R s1 p0 n0 c0 (n0 : Int) 0 σ) : Spec prog 180 #[.slice p0 n0 c0,.string s1] σ R := M.start h ok
theorem Bc (h : Br (x9 < x8) (Pq p7 fun A8 jB => In x9 (n7 : Int) ∧ ∃ AD6 AD7,As σ A8 (jB + Int.toNat x9 * 2) [.string AD6,.string AD7] ∧ ∀ b6 : Nat,Bo (ByteArray.toList AD6 == ByteArray.toList s1) (R (.returned (.string AD7)) σ) (AM (x9 + 1) ∧ Hi R s1 (aD A8 jB) n7 c7 x8 (x9 + 1) σ)) (R (.returned (.string (ByteArray.mk #[]))) σ)) : Hi R s1 p7 n7 c7 x8 x9 σ := M.of h ok rfl
end H5
namespace DG
variable {p0 p1 : Option Addr} {n0 c0 n1 c1 : Nat}
def M : Fw := ⟨prog,191,f191,[192],[],false,[],[],[]⟩
theorem ok : M.Ok := ⟨.cons call192 (AG.nil),mixed,func191,by kernel_rfl⟩
theorem start (h : Spec prog 192 #[.slice p0 n0 c0] σ (AA R (CI .u64 fun x6 y => R (.returned (.int .u64 x6)) y))) : Spec prog 191 #[.slice p0 n0 c0,.slice p1 n1 c1] σ R := M.start h ok
end DG
namespace R8
variable {x0 x1 x2 : Int}
def M : Fw := ⟨prog,203,f203,[174,182],[],false,[],[],[]⟩
theorem ok : M.Ok := ⟨.cons call174 (.cons call182 (AG.nil)),mixed,func203,by kernel_rfl⟩
theorem start (h : Spec prog 182 #[.int .u64 x1] σ (AA R (fun z y => ∃ x11,(Value.float .f64 x11) = z ∧ Spec prog 182 #[.int .u64 x2] y (AA R (fun z AF => ∃ Dn,(Value.float .f64 Dn) = z ∧ Br (x0 = 1) (AJ prog (binOp .add 51 (Value.float .f64 x11) (Value.float .f64 Dn)) AF (fun z AH => ∃ Cn,(Value.float .f64 Cn) = z ∧ Spec prog 174 #[(Value.float .f64 Cn)] AH (AA R (CI .u64 fun Hc AZ => R (.returned (.tuple #[.int .u64 Hc,.bool true])) AZ)))) (Br (x0 = 2) (AJ prog (binOp .sub 51 (Value.float .f64 x11) (Value.float .f64 Dn)) AF (fun z AH => ∃ QL,(Value.float .f64 QL) = z ∧ Spec prog 174 #[(Value.float .f64 QL)] AH (AA R (CI .u64 fun Vc AZ => R (.returned (.tuple #[.int .u64 Vc,.bool true])) AZ)))) (Br (x0 = 3) (AJ prog (binOp .mul 51 (Value.float .f64 x11) (Value.float .f64 Dn)) AF (fun z AH => ∃ x31,(Value.float .f64 x31) = z ∧ Spec prog 174 #[(Value.float .f64 x31)] AH (AA R (CI .u64 fun lF AZ => R (.returned (.tuple #[.int .u64 lF,.bool true])) AZ)))) (Br (x0 = 4) (AJ prog (binOp .quo 51 (Value.float .f64 x11) (Value.float .f64 Dn)) AF (fun z AH => ∃ Po,(Value.float .f64 Po) = z ∧ Spec prog 174 #[(Value.float .f64 Po)] AH (AA R (CI .u64 fun vC AZ => R (.returned (.tuple #[.int .u64 vC,.bool true])) AZ)))) (R (.returned (.tuple #[.int .u64 0,.bool false])) AF))))))))) : Spec prog 203 #[.int .i64 x0,.int .u64 x1,.int .u64 x2] σ R := M.start h ok
end R8
namespace R9
variable {t0 : Bool}
def M : Fw := ⟨prog,205,f205,[143],[],false,[],[],[]⟩
theorem ok : M.Ok := ⟨.cons call143 (AG.nil),mixed,func205,by kernel_rfl⟩
theorem start (h : Bo t0 (Spec prog 143 #[.int .i64 1] σ (AA R (CI .u64 fun x4 y => R (.returned (.int .u64 x4)) y))) (Spec prog 143 #[.int .i64 0] σ (AA R (CI .u64 fun x5 y => R (.returned (.int .u64 x5)) y)))) : Spec prog 205 #[.bool t0] σ R := M.start h ok
end R9
namespace Cj
variable {s0 : ByteArray} {x1 : Int}
def M : Fw := ⟨prog,214,f214,[231],[],false,[],[],[]⟩
theorem ok : M.Ok := ⟨.cons call231 (AG.nil),mixed,func214,by kernel_rfl⟩
theorem start (h : Spec prog 231 #[.string s0,.int .i64 x1] σ (AA R (fun z y => ∃ AD8 lN AD9,z = (.tuple #[AD8,.int .i64 lN,AD9]) ∧ Br (lN ≠ ((ByteArray.size s0 : Nat) : Int)) (R (.returned (.tuple #[.float .f64 0,(.iface 264 (.int .i64 2))])) y) (R (.returned (.tuple #[AD8,AD9])) y)))) : Spec prog 214 #[.string s0,.int .i64 x1] σ R := M.start h ok
end Cj
namespace EW
variable {TU : Option Addr} {Ls RG : Nat} {ZU s1 : ByteArray}
def M : Fw := ⟨prog,217,f217,[],[2],false,[],[],[]⟩
theorem ok : M.Ok := ⟨AG.nil,mixed,func217,by kernel_rfl⟩
theorem start (h : ∀ b2 : Nat,R (.returned (.bool (ByteArray.toList s1 == ByteArray.toList ZU))) σ) : Spec prog 217 #[.agg #[.slice TU Ls RG,.string ZU],.string s1] σ R := M.start h ok
end EW
namespace SA
variable {p0 : Option Addr} {n0 c0 : Nat}
def M : Fw := ⟨prog,225,f225,[174,240,241],[],false,[],[],[]⟩
theorem ok : M.Ok := ⟨.cons call174 (.cons call240 (.cons call241 (AG.nil))),mixed,func225,by kernel_rfl⟩
theorem start (h : Spec prog 240 #[(.int .i64 (n0 : Int))] σ (AA R (CB fun t7 y => Bn t7 (R (.returned (.tuple #[.int .u64 0,.int .i64 210])) y) ((n0 : Int) ≠ (0 : Int) ∧ Df (Int.tmod 1 (n0 : Int)) fun x12 => Spec prog 241 #[.slice p0 n0 c0,.int .i64 x12] y (AA R (fun z AF => ∃ Dn NL,(Value.complex .f64 Dn NL) = z ∧ ∃ x15,YF prog (Builtin.real_ #[272] 51 #[(Value.complex .f64 Dn NL)]) AF (Value.float .f64 x15) ∧ ∃ x17,YF prog (Builtin.real_ #[272] 51 #[(Value.complex .f64 Dn NL)]) AF (Value.float .f64 x17) ∧ AJ prog (binOp .mul 51 (Value.float .f64 x15) (Value.float .f64 x17)) AF (fun z AH => ∃ UM,(Value.float .f64 UM) = z ∧ ∃ Hc,YF prog (Builtin.imag_ #[272] 51 #[(Value.complex .f64 Dn NL)]) AH (Value.float .f64 Hc) ∧ ∃ JK,YF prog (Builtin.imag_ #[272] 51 #[(Value.complex .f64 Dn NL)]) AH (Value.float .f64 JK) ∧ AJ prog (binOp .mul 51 (Value.float .f64 Hc) (Value.float .f64 JK)) AH (fun z AZ => ∃ Dz,(Value.float .f64 Dz) = z ∧ AJ prog (binOp .add 51 (Value.float .f64 UM) (Value.float .f64 Dz)) AZ (fun z CE => ∃ I8,(Value.float .f64 I8) = z ∧ Spec prog 174 #[(Value.float .f64 I8)] CE (AA R (CI .u64 fun QL Fv => R (.returned (.tuple #[.int .u64 QL,.int .i64 0])) Fv))))))))))) : Spec prog 225 #[.slice p0 n0 c0] σ R := M.start h ok
end SA
namespace PD
def M : Fw := ⟨prog,267,f267,[],[],false,[],[],[]⟩
theorem ok : M.Ok := ⟨AG.nil,mixed,func267,by kernel_rfl⟩
theorem start (h : Al σ fun b1 => R (.returned (.slice (aD b1 0) 13 13)) (Hp.set σ b1 (.cells #[(.string (ByteArray.mk #[])),(.string (ByteArray.mk #[114,97,116,101])),(.string (ByteArray.mk #[105,110,99,114,101,97,115,101])),(.string (ByteArray.mk #[100,101,108,116,97])),(.string (ByteArray.mk #[115,117,109,95,111,118,101,114,95,116,105,109,101])),(.string (ByteArray.mk #[97,118,103,95,111,118,101,114,95,116,105,109,101])),(.string (ByteArray.mk #[109,105,110,95,111,118,101,114,95,116,105,109,101])),(.string (ByteArray.mk #[109,97,120,95,111,118,101,114,95,116,105,109,101])),(.string (ByteArray.mk #[99,111,117,110,116,95,111,118,101,114,95,116,105,109,101])),(.string (ByteArray.mk #[108,97,115,116,95,111,118,101,114,95,116,105,109,101])),(.string (ByteArray.mk #[119,97,118,101])),(.string (ByteArray.mk #[97,98,115])),(.string (ByteArray.mk #[102,108,111,111,114]))] 9 (0,0)))) : Spec prog 267 #[] σ R := M.start h ok
end PD
namespace Aj
variable {q0 : Option Addr} {b2 : Nat} {t4 : Bool}
def M : Fw := ⟨prog,270,f270,[66,67,135,136,138,210,295,296,297,298],[3],false,[],[],[(124,[(0,wQ),(2,wA),(4,wB)]),(252,[(0,wQ),(2,wA)]),(508,[(0,wQ),(2,wA)]),(255,[(0,wQ),(2,wA)])]⟩
theorem ok : M.Ok := ⟨.cons call66 (.cons call67 (.cons call135 (.cons call136 (.cons call138 (.cons call210 (.cons call295 (.cons call296 (.cons call297 (.cons call298 (AG.nil)))))))))),mixed,func270,by kernel_rfl⟩
def Lc := M.pt 0
def Ld := M.pt 1
def Pk := M.pt 2
def Ve := M.pt 3
theorem start (h : Al σ fun b2 => AJ prog (Instr.storeAt 36 (.pointer (aD b2 0)) (.agg #[.int .i64 2,.int .i64 0,(.string (ByteArray.mk #[])),.slice none 0 0,.int .i64 0,.int .i64 0,.int .i64 0,.slice none 0 0,.bool false,.int .i64 0])) (Hp.set σ b2 (.cells #[.int .i64 0,.int .i64 0,(.string (ByteArray.mk #[])),.slice none 0 0,.int .i64 0,.int .i64 0,.int .i64 0,.slice none 0 0,.bool false,.int .i64 0] 36 (0,0))) (fun _ y => Spec prog 66 #[.pointer q0] y (AA R (fun z AF => ∃ FV Ga FW Gb,z = (.agg #[.int .i64 FV,.int .i64 Ga,.string FW,.int .i64 Gb]) ∧ ∀ b3 : Nat,Br (FV = 3) (Spec prog 295 #[.string FW] AF (AA R (CB fun t14 AH => Bn t14 (Spec prog 135 #[.pointer q0] AH (AA R (fun z AZ => ∃ Jk OO VK yG,z = (.agg #[.int .i64 Jk,.int .i64 OO,.string VK,.int .i64 yG]) ∧ Spec prog 296 #[.pointer q0,(.pointer (aD b2 0)),(.agg #[.int .i64 1,(.string (ByteArray.mk #[95,95,110,97,109,101,95,95])),.string FW]),.agg #[.int .i64 FV,.int .i64 Ga,.string FW,.int .i64 Gb]] AZ (AA R (fun z CE => z = (.tuple #[]) ∧ Lc R q0 b2 true CE))))) (Lc R q0 b2 false AH)))) (Lc R q0 b2 false AF))))) : Spec prog 270 #[.pointer q0] σ R := M.start h ok
theorem IY (h : Spec prog 136 #[.pointer q0,.int .i64 5,(.string (ByteArray.mk #[123]))] σ (AA R (CB fun t27 y => Bo t27 (Spec prog 135 #[.pointer q0] y (AA R (fun z AF => ∃ AKf AKg AKh AKi,z = (.agg #[.int .i64 AKf,.int .i64 AKg,.string AKh,.int .i64 AKi]) ∧ Spec prog 297 #[.pointer q0,(.pointer (aD b2 0))] AF (AA R (fun z AH => z = (.tuple #[]) ∧ Ld R q0 b2 AH))))) (Bn t4 (Spec prog 67 #[.pointer q0] y (AA R (fun z AF => z = (.tuple #[]) ∧ Ld R q0 b2 AF))) (Ld R q0 b2 y))))) : Lc R q0 b2 t4 σ := M.of h ok rfl
theorem Iq (h : Spec prog 136 #[.pointer q0,.int .i64 5,(.string (ByteArray.mk #[91]))] σ (AA R (CB fun t37 y => Bo t37 (Spec prog 135 #[.pointer q0] y (AA R (fun z AF => ∃ AKj AKk AKl AKm,z = (.agg #[.int .i64 AKj,.int .i64 AKk,.string AKl,.int .i64 AKm]) ∧ Spec prog 298 #[.pointer q0] AF (AA R (CI .i64 fun x41 AH => AJ prog (Instr.storeAt 3 (.pointer (aD b2 0)) (.int .i64 3)) AH (fun _ AZ => AJ prog (Instr.storeAt 2 (.pointer (aD b2 4)) (.int .i64 x41)) AZ (fun _ CE => Spec prog 210 #[.pointer q0,(.string (ByteArray.mk #[93]))] CE (AA R (fun z Fv => z = (.tuple #[]) ∧ Pk R q0 b2 Fv))))))))) (Pk R q0 b2 y)))) : Ld R q0 b2 σ := M.of h ok rfl
theorem QK (h : Spec prog 136 #[.pointer q0,.int .i64 3,(.string (ByteArray.mk #[111,102,102,115,101,116]))] σ (AA R (CB fun t47 y => Bo t47 (Spec prog 135 #[.pointer q0] y (AA R (fun z AF => ∃ AKn AKo AKp AKq,z = (.agg #[.int .i64 AKn,.int .i64 AKo,.string AKp,.int .i64 AKq]) ∧ Spec prog 298 #[.pointer q0] AF (AA R (CI .i64 fun SB AH => AJ prog (Instr.storeAt 2 (.pointer (aD b2 5)) (.int .i64 SB)) AH (fun _ AZ => Ve R q0 b2 AZ)))))) (Ve R q0 b2 y)))) : Pk R q0 b2 σ := M.of h ok rfl
theorem Vf (h : ∃ Xb Xc lO Xd Xe Xf lP lQ lR lS lT lU lV lW,As σ b2 0 [.int .i64 Xb,.int .i64 Xc,.string lO,.slice Xd Xe Xf,.int .i64 lP,.int .i64 lQ,.int .i64 lR,.slice lS lT lU,.bool lV,.int .i64 lW] ∧ Spec prog 138 #[.pointer q0,.agg #[.int .i64 Xb,.int .i64 Xc,.string lO,.slice Xd Xe Xf,.int .i64 lP,.int .i64 lQ,.int .i64 lR,.slice lS lT lU,.bool lV,.int .i64 lW]] σ (AA R (fun z y => z = (.tuple #[]) ∧ R (.returned (.tuple #[])) y))) : Ve R q0 b2 σ := M.of h ok rfl
end Aj
namespace BD
variable {x0 x1 : Int} {t2 t7 : Bool} {v6 : Value}
def M : Fw := ⟨prog,282,f282,[],[],false,[],[],[(248,[(1,wI),(6,wV),(7,wB)]),(15988,[(1,wI),(6,wV),(7,wB)])]⟩
theorem ok : M.Ok := ⟨AG.nil,mixed,func282,by kernel_rfl⟩
def zD := M.pt 0
def Jf := M.pt 1
theorem start (h : LI .u64 σ 6 0 fun x10 => (0 ≤ x10 ∧ x10 ≤ ((IntKind.bits .u64 : Nat) : Int)) ∧ Df (x0 / 2 ^ Int.toNat x10) fun x11 => Br (x11 ≠ 0) (R (.returned (.tuple #[.float .f64 0,.bool false])) σ) (AJ prog (convert 48 51 (.int .u64 x0)) σ (fun z y => ∃ ZS,(Value.float .f64 ZS) = z ∧ Bo t2 (∃ x17,YF prog (Op.unary .neg (Value.float .f64 ZS)) y (Value.float .f64 x17) ∧ zD R x1 (Value.float .f64 x17) false y) (zD R x1 (Value.float .f64 ZS) false y)))) : Spec prog 282 #[.int .u64 x0,.int .i64 x1,.bool t2] σ R := M.start h ok
theorem rm (h : Br (x1 = 0) (R (.returned (.tuple #[v6,.bool true])) σ) (Br (0 < x1) (Br (x1 ≤ 37) (Br (22 < x1) (LS σ 9 0 fun p32 n32 c32 => AM (x1 - 22) ∧ Pq p32 fun b35 o35 => In (x1 - 22) (n32 : Int) ∧ ∃ ZV,Hp.ld σ ⟨b35,(o35 + Int.toNat (x1 - 22) * 1),none⟩ = some (Value.float .f64 ZV) ∧ AJ prog (binOp .mul 51 v6 (Value.float .f64 ZV)) σ (fun z y => ∃ Po,(Value.float .f64 Po) = z ∧ Jf R 22 (Value.float .f64 Po) t7 y)) (Jf R x1 v6 t7 σ)) (Br (x1 < 0) (Br (((-22) : Int) ≤ x1) (LS σ 9 0 fun uP ph c58 => Df (IntKind.i64.wrap (0 - x1)) fun ri => Pq uP fun b61 o61 => In ri (ph : Int) ∧ ∃ rn,Hp.ld σ ⟨b61,(o61 + Int.toNat ri * 1),none⟩ = some (Value.float .f64 rn) ∧ AJ prog (binOp .quo 51 v6 (Value.float .f64 rn)) σ (fun z y => ∃ x63,(Value.float .f64 x63) = z ∧ R (.returned (.tuple #[(Value.float .f64 x63),.bool true])) y)) (R (.returned (.tuple #[v6,.bool t7])) σ)) (R (.returned (.tuple #[v6,.bool t7])) σ))) (Br (x1 < 0) (Br (((-22) : Int) ≤ x1) (LS σ 9 0 fun uP ph c58 => Df (IntKind.i64.wrap (0 - x1)) fun ri => Pq uP fun b61 o61 => In ri (ph : Int) ∧ ∃ rn,Hp.ld σ ⟨b61,(o61 + Int.toNat ri * 1),none⟩ = some (Value.float .f64 rn) ∧ AJ prog (binOp .quo 51 v6 (Value.float .f64 rn)) σ (fun z y => ∃ x63,(Value.float .f64 x63) = z ∧ R (.returned (.tuple #[(Value.float .f64 x63),.bool true])) y)) (R (.returned (.tuple #[v6,.bool t7])) σ)) (R (.returned (.tuple #[v6,.bool t7])) σ)))) : zD R x1 v6 t7 σ := M.of h ok rfl
end BD
end TwW
end
end
section
set_option maxRecDepth 100000
noncomputable section
namespace TwW
open Go Tw Go.Proofs.Tryz
variable [Ej] {R : Rr} {σ : Hp}


namespace Bi
variable {p0 OT AKt AKu : Option Addr} {n0 c0 n21 MY AKv AKw AKx AKy : Nat} {x7 x8 JK Dz fj Pp AKz rq AK0 AK1 x12 : Int} {t9 AK2 : Bool} {fk : ByteArray}
def M : Fw := ⟨prog,15,f15,[37],[11],false,[],[],[(488,[(7,wI),(8,wI),(9,wB),(21,wL),(22,wI),(23,wI)]),(1959,[(7,wI),(8,wI),(9,wB),(21,wL),(22,wI),(23,wI)]),(125342,[(7,wI),(8,wI),(9,wB),(11,.X 36 [.I .i64,.I .i64,.T,.L,.I .i64,.I .i64,.I .i64,.L,.B,.I .i64]),(12,wI),(21,wL),(22,wI),(23,wI)]),(250687,[(7,wI),(8,wI),(21,wL),(22,wI),(23,wI)])]⟩
theorem ok : M.Ok := ⟨.cons call37 (AG.nil),mixed,func15,by kernel_rfl⟩
def zF := M.pt 0
def zG := M.pt 1
def Ve := M.pt 2
def XZ := M.pt 3
theorem start (h : Spec prog 37 #[.slice p0 n0 c0] σ (AA R (fun z y => ∃ AK3 ru AEB,z = (.tuple #[.int .i64 AK3,.int .i64 ru,.int .i64 AEB]) ∧ Br (AEB ≠ 0) (R (.returned (.tuple #[.int .i64 0,.int .i64 0])) y) (zF R 0 0 false p0 n0 c0 (n0 : Int) 0 y)))) : Spec prog 15 #[.slice p0 n0 c0] σ R := M.start h ok
theorem Vg (h : Br (Dz < JK) (Pq OT fun JV WR => In Dz (n21 : Int) ∧ ∃ Vh lX lY lZ la lf OU OV lg lh lj lk ll lq,As σ JV (WR + Int.toNat Dz * 10) [.int .i64 Vh,.int .i64 lX,.string lY,.slice lZ la lf,.int .i64 OU,.int .i64 OV,.int .i64 lg,.slice lh lj lk,.bool ll,.int .i64 lq] ∧ ∀ A8 : Nat,Br (Vh ≠ 2) (Br (Vh ≠ 3) (zG R x7 x8 t9 (aD JV WR) n21 MY JK Dz σ) (AM (OV + OU) ∧ Br (Vh = 2) (AM ((OV + OU) + 300) ∧ Ve R x7 x8 t9 Vh lX lY lZ la lf OU OV lg lh lj lk ll lq (((OV + OU) + 300)) (aD JV WR) n21 MY JK Dz σ) (Ve R x7 x8 t9 Vh lX lY lZ la lf OU OV lg lh lj lk ll lq (OV + OU) (aD JV WR) n21 MY JK Dz σ))) (AM (OV + OU) ∧ Br (Vh = 2) (AM ((OV + OU) + 300) ∧ Ve R x7 x8 t9 Vh lX lY lZ la lf OU OV lg lh lj lk ll lq (((OV + OU) + 300)) (aD JV WR) n21 MY JK Dz σ) (Ve R x7 x8 t9 Vh lX lY lZ la lf OU OV lg lh lj lk ll lq (OV + OU) (aD JV WR) n21 MY JK Dz σ))) (R (.returned (.tuple #[.int .i64 x7,.int .i64 x8])) σ)) : zF R x7 x8 t9 OT n21 MY JK Dz σ := M.of h ok rfl
theorem da (h : AM (Dz + 1) ∧ zF R x7 x8 t9 OT n21 MY JK (Dz + 1) σ) : zG R x7 x8 t9 OT n21 MY JK Dz σ := M.of h ok rfl
theorem Vf (h : Bn t9 (XZ R (if x7 < x12 then x12 else x7) rq OT n21 MY JK Dz σ) (Br (rq < x8) (XZ R (if x7 < x12 then x12 else x7) rq OT n21 MY JK Dz σ) (XZ R (if x7 < x12 then x12 else x7) x8 OT n21 MY JK Dz σ))) : Ve R x7 x8 t9 fj Pp fk AKt AKv AKw AKz rq AK0 AKu AKx AKy AK2 AK1 x12 OT n21 MY JK Dz σ := M.iu h ok rfl fun _ => by kernel_rfl
theorem VR (h : zG R x7 x8 true OT n21 MY JK Dz σ) : XZ R x7 x8 OT n21 MY JK Dz σ := M.of h ok rfl
end Bi
namespace UN
variable {s0 : ByteArray} {p1 : Option Addr} {n1 c1 : Nat} {x2 : Int}
def M : Fw := ⟨prog,20,f20,[11,13,43],[],false,[],[],[]⟩
theorem ok : M.Ok := ⟨.cons call11 (.cons call13 (.cons call43 (AG.nil))),mixed,func20,by kernel_rfl⟩
theorem start (h : Spec prog 43 #[.string s0] σ (AA R (fun z y => ∃ kW kX kY AK4 zH,z = (.tuple #[.slice kW kX kY,.int .i64 AK4,.int .i64 zH]) ∧ Br (zH ≠ 0) (R (.returned (.tuple #[.slice none 0 0,.int .i64 zH])) y) (Spec prog 13 #[.slice p1 n1 c1] y (AA R (CS fun UC n22 TI AF => Spec prog 11 #[.slice kW kX kY,.slice UC n22 TI,.int .i64 x2] AF (AA R (fun z AH => ∃ AEC AED AEE Vi,z = (.tuple #[.slice AEC AED AEE,.int .i64 Vi]) ∧ R (.returned (.tuple #[.slice AEC AED AEE,.int .i64 Vi])) AH)))))))) : Spec prog 20 #[.string s0,.slice p1 n1 c1,.int .i64 x2] σ R := M.start h ok
end UN
namespace NM
variable {TU p0b p1a p1b : Option Addr} {Ls RG n0b c0b n1a c1a n1b c1b : Nat}
def M : Fw := ⟨prog,51,f51,[52],[2,3],false,[],[],[]⟩
theorem ok : M.Ok := ⟨.cons call52 (AG.nil),mixed,func51,by kernel_rfl⟩
theorem start (h : ∀ b2 : Nat,∀ b3 : Nat,Spec prog 52 #[.slice TU Ls RG,.slice p1a n1a c1a] σ (AA R (CI .i64 fun x9 y => R (.returned (.int .i64 x9)) y))) : Spec prog 51 #[.agg #[.slice TU Ls RG,.slice p0b n0b c0b],.agg #[.slice p1a n1a c1a,.slice p1b n1b c1b]] σ R := M.start h ok
end NM
namespace Lv
variable {p0 p1 : Option Addr} {n0 c0 n1 c1 : Nat}
def M : Fw := ⟨prog,52,f52,[75],[],false,[],[],[]⟩
theorem ok : M.Ok := ⟨.cons call75 (AG.nil),mixed,func52,by kernel_rfl⟩
theorem start (h : Spec prog 75 #[.slice p0 n0 c0,.slice p1 n1 c1,(.func (.func 76) #[] #[])] σ (AA R (CI .i64 fun x7 y => R (.returned (.int .i64 x7)) y))) : Spec prog 52 #[.slice p0 n0 c0,.slice p1 n1 c1] σ R := M.start h ok
end Lv
namespace Ap
variable {s0 FW : ByteArray} {p5 p6 : Option Addr} {n5 c5 n6 c6 : Nat} {FV Ga Gb x8 x9 Dn ARJ : Int} {t201 : Bool}
def M : Fw := ⟨prog,63,f63,[90,91,92,93,94],[7],false,[],[],[(1788,[(0,wT),(5,wL),(7,.X 131 [.I .i64,.I .i64,.T,.I .i64]),(8,wI)]),(917472,[(0,wT),(5,wL),(7,.X 131 [.I .i64,.I .i64,.T,.I .i64]),(8,wI),(9,wI)]),(58720224,[(0,wT),(5,wL),(7,.X 131 [.I .i64,.I .i64,.T,.I .i64]),(8,wI),(9,wI)]),(117440508,[(0,wT),(5,wL),(6,wL),(7,.X 131 [.I .i64,.I .i64,.T,.I .i64]),(8,wI),(9,wI)]),(15032385517,[(0,wT),(5,wL),(6,wL),(7,.X 131 [.I .i64,.I .i64,.T,.I .i64]),(8,wI),(9,wI),(13,w8),(199,w8),(201,wB)]),(1879048190,[(0,wT),(5,wL),(6,wL),(7,.X 131 [.I .i64,.I .i64,.T,.I .i64]),(8,wI),(9,wI)]),(458750,[(0,wT),(5,wL),(7,.X 131 [.I .i64,.I .i64,.T,.I .i64]),(8,wI)])]⟩
theorem ok : M.Ok := ⟨.cons call90 (.cons call91 (.cons call92 (.cons call93 (.cons call94 (AG.nil))))),mixed,func63,by kernel_rfl⟩
def MZ := M.pt 0
def Xq := M.pt 1
def UO := M.pt 2
def AEF := M.pt 3
def Kh := M.pt 6
theorem start (h : ∀ b7 : Nat,Br ((4096 : Int) < ((ByteArray.size s0 : Nat) : Int)) (R (.returned (.tuple #[.slice none 0 0,.int .i64 0,.int .i64 170])) σ) (MZ R s0 none 0 0 0 0 (ByteArray.mk #[]) 0 0 σ)) : Spec prog 63 #[.string s0] σ R := M.start h ok
theorem LL (h : Br (x8 = ((ByteArray.size s0 : Nat) : Int)) (Al σ fun b24 => AJ prog (Builtin.append_ #[121,121] 121 #[.slice p5 n5 c5,(.slice (aD b24 0) 1 1)]) (Hp.set σ b24 (.cells #[.int .i64 0,.int .i64 x8,(.string (ByteArray.mk #[])),.int .i64 0] 131 (0,0))) (CS fun fp n25 fq y => R (.returned (.tuple #[.slice fp n25 fq,.int .i64 0,.int .i64 0])) y)) (∃ vT : UInt8,0 ≤ x8 ∧ (ByteArray.data s0)[Int.toNat x8]? = some vT ∧ Br ((((UInt8.toNat vT : Nat) : Int) : Int) = 32) (AM (x8 + 1) ∧ MZ R s0 p5 n5 c5 FV Ga FW Gb (x8 + 1) σ) (Br ((((UInt8.toNat vT : Nat) : Int) : Int) = 9) (AM (x8 + 1) ∧ MZ R s0 p5 n5 c5 FV Ga FW Gb (x8 + 1) σ) (Br ((((UInt8.toNat vT : Nat) : Int) : Int) = 13) (AM (x8 + 1) ∧ MZ R s0 p5 n5 c5 FV Ga FW Gb (x8 + 1) σ) (Br ((((UInt8.toNat vT : Nat) : Int) : Int) = 10) (AM (x8 + 1) ∧ MZ R s0 p5 n5 c5 FV Ga FW Gb (x8 + 1) σ) (Spec prog 90 #[(.int .u8 ((UInt8.toNat vT : Nat) : Int))] σ (AA R (CB fun t49 y => Bo t49 (Xq R s0 p5 n5 c5 FV Ga FW Gb x8 x8 y) (Spec prog 91 #[(.int .u8 ((UInt8.toNat vT : Nat) : Int))] y (AA R (CB fun t52 AF => Bo t52 (UO R s0 p5 n5 c5 FV Ga FW Gb x8 x8 AF) (Br ((((UInt8.toNat vT : Nat) : Int) : Int) = 34) (AM (x8 + 1) ∧ AEF R s0 p5 n5 c5 none 0 0 FV Ga FW Gb (x8 + 1) x8 AF) (∃ s60,YF prog (Instr.sliceAt 9 (.string s0) (some (.int .i64 x8)) none none) AF (.string s60) ∧ Spec prog 92 #[.string s60] AF (AA R (CT fun s61 AH => Bn ((ByteArray.toList s61 == ByteArray.toList (ByteArray.mk #[]))) (Al AH fun b68 => AJ prog (Builtin.append_ #[121,121] 121 #[.slice p5 n5 c5,(.slice (aD b68 0) 1 1)]) (Hp.set AH b68 (.cells #[.int .i64 5,.int .i64 x8,.string s61,.int .i64 0] 131 (0,0))) (CS fun ra n69 rf AZ => AM (x8 + ((ByteArray.size s61 : Nat) : Int)) ∧ MZ R s0 ra n69 rf FV Ga FW Gb ((x8 + ((ByteArray.size s61 : Nat) : Int))) AZ)) (R (.returned (.tuple #[.slice none 0 0,.int .i64 x8,.int .i64 171])) AH)))))))))))))))) : MZ R s0 p5 n5 c5 FV Ga FW Gb x8 σ := M.iu h ok rfl fun _ => by kernel_rfl
theorem dc (h : Br (x8 < ((ByteArray.size s0 : Nat) : Int)) (∃ u82 : UInt8,0 ≤ x8 ∧ (ByteArray.data s0)[Int.toNat x8]? = some u82 ∧ Spec prog 90 #[(.int .u8 ((UInt8.toNat u82 : Nat) : Int))] σ (AA R (CB fun t83 y => Bo t83 (AM (x8 + 1) ∧ Xq R s0 p5 n5 c5 FV Ga FW Gb (x8 + 1) x9 y) (∃ u87 : UInt8,0 ≤ x8 ∧ (ByteArray.data s0)[Int.toNat x8]? = some u87 ∧ Spec prog 91 #[(.int .u8 ((UInt8.toNat u87 : Nat) : Int))] y (AA R (CB fun t88 AF => Bo t88 (∃ u92 : UInt8,0 ≤ x8 ∧ (ByteArray.data s0)[Int.toNat x8]? = some u92 ∧ Br ((((UInt8.toNat u92 : Nat) : Int) : Int) ≠ 58) (AM (x8 + 1) ∧ Xq R s0 p5 n5 c5 FV Ga FW Gb (x8 + 1) x9 AF) (∃ u99 : UInt8,0 ≤ x8 ∧ (ByteArray.data s0)[Int.toNat x8]? = some u99 ∧ Br ((((UInt8.toNat u99 : Nat) : Int) : Int) = 46) (AM (x8 + 1) ∧ Xq R s0 p5 n5 c5 FV Ga FW Gb (x8 + 1) x9 AF) (∃ Gr,YF prog (Instr.sliceAt 9 (.string s0) (some (.int .i64 x9)) (some (.int .i64 x8)) none) AF (.string Gr) ∧ Spec prog 93 #[.string Gr] AF (AA R (CI .i64 fun Ma AH => Br (0 < Ma) (Kh R s0 p5 n5 c5 2 x9 Gr Ma x8 AH) (Spec prog 94 #[.string Gr] AH (AA R (CB fun t121 AZ => Bn t121 (R (.returned (.tuple #[.slice none 0 0,.int .i64 x9,.int .i64 172])) AZ) (Kh R s0 p5 n5 c5 1 x9 Gr Ma x8 AZ))))))))) (∃ u99 : UInt8,0 ≤ x8 ∧ (ByteArray.data s0)[Int.toNat x8]? = some u99 ∧ Br ((((UInt8.toNat u99 : Nat) : Int) : Int) = 46) (AM (x8 + 1) ∧ Xq R s0 p5 n5 c5 FV Ga FW Gb (x8 + 1) x9 AF) (∃ Gr,YF prog (Instr.sliceAt 9 (.string s0) (some (.int .i64 x9)) (some (.int .i64 x8)) none) AF (.string Gr) ∧ Spec prog 93 #[.string Gr] AF (AA R (CI .i64 fun Ma AH => Br (0 < Ma) (Kh R s0 p5 n5 c5 2 x9 Gr Ma x8 AH) (Spec prog 94 #[.string Gr] AH (AA R (CB fun t121 AZ => Bn t121 (R (.returned (.tuple #[.slice none 0 0,.int .i64 x9,.int .i64 172])) AZ) (Kh R s0 p5 n5 c5 1 x9 Gr Ma x8 AZ)))))))))))))) (∃ Gr,YF prog (Instr.sliceAt 9 (.string s0) (some (.int .i64 x9)) (some (.int .i64 x8)) none) σ (.string Gr) ∧ Spec prog 93 #[.string Gr] σ (AA R (CI .i64 fun Ma y => Br (0 < Ma) (Kh R s0 p5 n5 c5 2 x9 Gr Ma x8 y) (Spec prog 94 #[.string Gr] y (AA R (CB fun t121 AF => Bn t121 (R (.returned (.tuple #[.slice none 0 0,.int .i64 x9,.int .i64 172])) AF) (Kh R s0 p5 n5 c5 1 x9 Gr Ma x8 AF)))))))) : Xq R s0 p5 n5 c5 FV Ga FW Gb x8 x9 σ := M.iu h ok rfl fun _ => by kernel_rfl
theorem Xr (h : Br (x8 < ((ByteArray.size s0 : Nat) : Int)) (∃ AEH : UInt8,0 ≤ x8 ∧ (ByteArray.data s0)[Int.toNat x8]? = some AEH ∧ Spec prog 91 #[(.int .u8 ((UInt8.toNat AEH : Nat) : Int))] σ (AA R (CB fun t136 y => Bo t136 (AM (x8 + 1) ∧ UO R s0 p5 n5 c5 FV Ga FW Gb (x8 + 1) x9 y) (∃ AEI : UInt8,0 ≤ x8 ∧ (ByteArray.data s0)[Int.toNat x8]? = some AEI ∧ Spec prog 90 #[(.int .u8 ((UInt8.toNat AEI : Nat) : Int))] y (AA R (CB fun t141 AF => Bo t141 (AM (x8 + 1) ∧ UO R s0 p5 n5 c5 FV Ga FW Gb (x8 + 1) x9 AF) (∃ Xs,YF prog (Instr.sliceAt 9 (.string s0) (some (.int .i64 x9)) (some (.int .i64 x8)) none) AF (.string Xs) ∧ Al AF fun Xt => AJ prog (Builtin.append_ #[121,121] 121 #[.slice p5 n5 c5,(.slice (aD Xt 0) 1 1)]) (Hp.set AF Xt (.cells #[.int .i64 3,.int .i64 x9,.string Xs,.int .i64 0] 131 (0,0))) (CS fun lr n154 lu AH => MZ R s0 lr n154 lu FV Ga FW Gb x8 AH)))))))) (∃ Xs,YF prog (Instr.sliceAt 9 (.string s0) (some (.int .i64 x9)) (some (.int .i64 x8)) none) σ (.string Xs) ∧ Al σ fun Xt => AJ prog (Builtin.append_ #[121,121] 121 #[.slice p5 n5 c5,(.slice (aD Xt 0) 1 1)]) (Hp.set σ Xt (.cells #[.int .i64 3,.int .i64 x9,.string Xs,.int .i64 0] 131 (0,0))) (CS fun lr n154 lu y => MZ R s0 lr n154 lu FV Ga FW Gb x8 y))) : UO R s0 p5 n5 c5 FV Ga FW Gb x8 x9 σ := M.iu h ok rfl fun _ => by kernel_rfl
theorem Xu (h : Al σ fun lv => AJ prog (Builtin.append_ #[121,121] 121 #[.slice p5 n5 c5,(.slice (aD lv 0) 1 1)]) (Hp.set σ lv (.cells #[.int .i64 FV,.int .i64 Ga,.string FW,.int .i64 Gb] 131 (0,0))) (CS fun AK5 n127 AK6 y => MZ R s0 AK5 n127 AK6 FV Ga FW Gb x8 y)) : Kh R s0 p5 n5 c5 FV Ga FW Gb x8 σ := M.iu h ok rfl fun _ => by kernel_rfl
end Ap
namespace EX
variable {q0 DV Dd p2 : Option Addr} {DR CL DS DW Cv CO : Int} {DT : ByteArray} {DX DY DZ De n2 c2 : Nat} {Cw : Bool}
def M : Fw := ⟨prog,84,f84,[124,128],[4],false,[(1,10,true)],[],[]⟩
theorem ok : M.Ok := ⟨.cons call124 (.cons call128 (AG.nil)),mixed,func84,by kernel_rfl⟩
theorem start (h : ∀ b4 : Nat,Pq p2 fun C7 ix => In 0 (n2 : Int) ∧ LI .i64 σ C7 ix fun x15 => In 1 (n2 : Int) ∧ LI .i64 σ C7 (ix + 1) fun Cn => Br (x15 = 2) (Br (x15 = 1) (Br (x15 = 3) (R (.returned (.tuple #[.int .i64 0,.int .i64 192])) σ) (Br (Cn = 3) (R (.returned (.tuple #[.int .i64 0,.int .i64 192])) σ) (Spec prog 128 #[.int .i64 CL] σ (AA R (CB fun t41 y => Bo t41 (Bm (Cn = 2) (R (.returned (.tuple #[.int .i64 0,.int .i64 192])) y) (Br (Cn = 1) (Spec prog 124 #[.int .i64 CL] y (AA R (CB fun t57 AF => Bo t57 (Bn Cw (R (.returned (.tuple #[.int .i64 0,.int .i64 192])) AF) (R (.returned (.tuple #[(.int .i64 (if x15 < Cn then Cn else x15)),.int .i64 0])) AF)) (R (.returned (.tuple #[(.int .i64 (if x15 < Cn then Cn else x15)),.int .i64 0])) AF)))) (R (.returned (.tuple #[(.int .i64 (if x15 < Cn then Cn else x15)),.int .i64 0])) y))) (Br (Cv ≠ 0) (Bm (Cn = 2) (R (.returned (.tuple #[.int .i64 0,.int .i64 192])) y) (Br (Cn = 1) (Spec prog 124 #[.int .i64 CL] y (AA R (CB fun t57 AF => Bo t57 (Bn Cw (R (.returned (.tuple #[.int .i64 0,.int .i64 192])) AF) (R (.returned (.tuple #[(.int .i64 (if x15 < Cn then Cn else x15)),.int .i64 0])) AF)) (R (.returned (.tuple #[(.int .i64 (if x15 < Cn then Cn else x15)),.int .i64 0])) AF)))) (R (.returned (.tuple #[(.int .i64 (if x15 < Cn then Cn else x15)),.int .i64 0])) y))) (Br (Cn = 1) (Spec prog 124 #[.int .i64 CL] y (AA R (CB fun t57 AF => Bo t57 (Bn Cw (R (.returned (.tuple #[.int .i64 0,.int .i64 192])) AF) (R (.returned (.tuple #[(.int .i64 (if x15 < Cn then Cn else x15)),.int .i64 0])) AF)) (R (.returned (.tuple #[(.int .i64 (if x15 < Cn then Cn else x15)),.int .i64 0])) AF)))) (R (.returned (.tuple #[(.int .i64 (if x15 < Cn then Cn else x15)),.int .i64 0])) y)))))))) (Br (x15 = 3) (R (.returned (.tuple #[.int .i64 0,.int .i64 192])) σ) (Br (Cn = 3) (R (.returned (.tuple #[.int .i64 0,.int .i64 192])) σ) (Spec prog 128 #[.int .i64 CL] σ (AA R (CB fun t41 y => Bo t41 (Bm (Cn = 2) (R (.returned (.tuple #[.int .i64 0,.int .i64 192])) y) (R (.returned (.tuple #[(.int .i64 (if x15 < Cn then Cn else x15)),.int .i64 0])) y)) (Br (Cv ≠ 0) (Bm (Cn = 2) (R (.returned (.tuple #[.int .i64 0,.int .i64 192])) y) (R (.returned (.tuple #[(.int .i64 (if x15 < Cn then Cn else x15)),.int .i64 0])) y)) (R (.returned (.tuple #[(.int .i64 (if x15 < Cn then Cn else x15)),.int .i64 0])) y)))))))) (Br (x15 = 1) (Br (x15 = 3) (R (.returned (.tuple #[.int .i64 0,.int .i64 192])) σ) (Br (Cn = 3) (R (.returned (.tuple #[.int .i64 0,.int .i64 192])) σ) (Spec prog 128 #[.int .i64 CL] σ (AA R (CB fun t41 y => Bo t41 (R (.returned (.tuple #[.int .i64 0,.int .i64 192])) y) (Br (Cv ≠ 0) (R (.returned (.tuple #[.int .i64 0,.int .i64 192])) y) (Br (Cn = 1) (Spec prog 124 #[.int .i64 CL] y (AA R (CB fun t57 AF => Bo t57 (Bn Cw (R (.returned (.tuple #[.int .i64 0,.int .i64 192])) AF) (R (.returned (.tuple #[(.int .i64 (if x15 < Cn then Cn else x15)),.int .i64 0])) AF)) (R (.returned (.tuple #[(.int .i64 (if x15 < Cn then Cn else x15)),.int .i64 0])) AF)))) (R (.returned (.tuple #[(.int .i64 (if x15 < Cn then Cn else x15)),.int .i64 0])) y)))))))) (Br (x15 = 3) (R (.returned (.tuple #[.int .i64 0,.int .i64 192])) σ) (Br (Cn = 3) (R (.returned (.tuple #[.int .i64 0,.int .i64 192])) σ) (Spec prog 128 #[.int .i64 CL] σ (AA R (CB fun t41 y => Bo t41 (R (.returned (.tuple #[.int .i64 0,.int .i64 192])) y) (Br (Cv ≠ 0) (R (.returned (.tuple #[.int .i64 0,.int .i64 192])) y) (R (.returned (.tuple #[(.int .i64 (if x15 < Cn then Cn else x15)),.int .i64 0])) y))))))))) : Spec prog 84 #[.pointer q0,.agg #[.int .i64 DR,.int .i64 CL,.string DT,.slice DV DX DY,.int .i64 DS,.int .i64 DW,.int .i64 Cv,.slice Dd DZ De,.bool Cw,.int .i64 CO],.slice p2 n2 c2] σ R := M.start h ok
end EX
namespace SC
variable {x0 : Int}
def M : Fw := ⟨prog,91,f91,[],[],false,[],[],[]⟩
theorem ok : M.Ok := ⟨AG.nil,mixed,func91,by kernel_rfl⟩
theorem start (h : Br (97 ≤ x0) (Br (x0 ≤ 122) (R (.returned (.bool true)) σ) (Br (65 ≤ x0) (Br (x0 ≤ 90) (R (.returned (.bool true)) σ) (Br (x0 = 95) (R (.returned (.bool true)) σ) (R (.returned (.bool (decide (x0 = 58)))) σ))) (Br (x0 = 95) (R (.returned (.bool true)) σ) (R (.returned (.bool (decide (x0 = 58)))) σ)))) (Br (65 ≤ x0) (Br (x0 ≤ 90) (R (.returned (.bool true)) σ) (Br (x0 = 95) (R (.returned (.bool true)) σ) (R (.returned (.bool (decide (x0 = 58)))) σ))) (Br (x0 = 95) (R (.returned (.bool true)) σ) (R (.returned (.bool (decide (x0 = 58)))) σ)))) : Spec prog 91 #[.int .u8 x0] σ R := M.start h ok
end SC
namespace EY
variable {s0 : ByteArray} {t8 : Bool}
def M : Fw := ⟨prog,92,f92,[130],[],false,[],[],[(28,[(0,wT)]),(213,[(0,wT),(8,wB)])]⟩
theorem ok : M.Ok := ⟨.cons call130 (AG.nil),mixed,func92,by kernel_rfl⟩
def rv := M.pt 0
def G9 := M.pt 1
theorem start (h : Br ((1 : Int) < ((ByteArray.size s0 : Nat) : Int)) (∃ s7,YF prog (Instr.sliceAt 9 (.string s0) none (some (.int .i64 2)) none) σ (.string s7) ∧ Bo ((ByteArray.toList s7 == ByteArray.toList (ByteArray.mk #[61,61]))) (G9 R s0 true σ) (Bo ((ByteArray.toList s7 == ByteArray.toList (ByteArray.mk #[33,61]))) (G9 R s0 true σ) (Bo ((ByteArray.toList s7 == ByteArray.toList (ByteArray.mk #[60,61]))) (G9 R s0 true σ) (Bo ((ByteArray.toList s7 == ByteArray.toList (ByteArray.mk #[62,61]))) (G9 R s0 true σ) (Bo ((ByteArray.toList s7 == ByteArray.toList (ByteArray.mk #[61,126]))) (G9 R s0 true σ) (G9 R s0 ((ByteArray.toList s7 == ByteArray.toList (ByteArray.mk #[33,126]))) σ)))))) (rv R s0 σ)) : Spec prog 92 #[.string s0] σ R := M.start h ok
theorem ry (h : ∃ u18 : UInt8,(0 : Int) ≤ 0 ∧ (ByteArray.data s0)[Int.toNat 0]? = some u18 ∧ Spec prog 130 #[(.string (ByteArray.mk #[60,62,61,43,45,42,47,40,41,123,125,91,93,44])),(.int .u8 ((UInt8.toNat u18 : Nat) : Int))] σ (AA R (CI .i64 fun Cn y => Br (0 ≤ Cn) (∃ s22,YF prog (Instr.sliceAt 9 (.string s0) none (some (.int .i64 1)) none) y (.string s22) ∧ R (.returned (.string s22)) y) (R (.returned (.string (ByteArray.mk #[]))) y)))) : rv R s0 σ := M.of h ok rfl
theorem Is (h : Bo t8 (∃ s16,YF prog (Instr.sliceAt 9 (.string s0) none (some (.int .i64 2)) none) σ (.string s16) ∧ R (.returned (.string s16)) σ) (rv R s0 σ)) : G9 R s0 t8 σ := M.of h ok rfl
end EY
namespace Bj
variable {q0 DV Dd p2 : Option Addr} {DR CL DS DW Cv CO : Int} {DT : ByteArray} {DX DY DZ De n2 c2 : Nat} {Cw : Bool}
def M : Fw := ⟨prog,100,f100,[140],[4,6],false,[],[],[]⟩
theorem ok : M.Ok := ⟨.cons call140 (AG.nil),mixed,func100,by kernel_rfl⟩
theorem start (h : ∀ b4 : Nat,∀ b6 : Nat,Spec prog 140 #[.string DT] σ (AA R (fun z y => ∃ kt AK7,z = (.tuple #[.int .u64 kt,.bool AK7]) ∧ R (.returned (.tuple #[.agg #[.int .i64 1,.int .u64 kt,.slice none 0 0,.slice none 0 0],.int .i64 0])) y))) : Spec prog 100 #[.pointer q0,.agg #[.int .i64 DR,.int .i64 CL,.string DT,.slice DV DX DY,.int .i64 DS,.int .i64 DW,.int .i64 Cv,.slice Dd DZ De,.bool Cw,.int .i64 CO],.slice p2 n2 c2] σ R := M.start h ok
end Bj
namespace SD
variable {x0 x1 : Int}
def M : Fw := ⟨prog,123,f123,[],[],false,[],[],[]⟩
theorem ok : M.Ok := ⟨AG.nil,mixed,func123,by kernel_rfl⟩
theorem start (h : Br (x1 ≤ x0) (R (.returned (.bool (decide (x0 < 2147483648)))) σ) (R (.returned (.bool false)) σ)) : Spec prog 123 #[.int .i64 x0,.int .i64 x1] σ R := M.start h ok
end SD
namespace SE
variable {s0 : ByteArray}
def M : Fw := ⟨prog,126,f126,[98],[],false,[],[],[]⟩
theorem ok : M.Ok := ⟨.cons call98 (AG.nil),mixed,func126,by kernel_rfl⟩
theorem start (h : Spec prog 98 #[.string s0] σ (AA R (CB fun t4 y => R (.returned (.bool t4)) y))) : Spec prog 126 #[.string s0] σ R := M.start h ok
end SE
namespace HR
variable {q0 DV Dd : Option Addr} {DR CL DS DW Cv CO : Int} {DT : ByteArray} {DX DY DZ De : Nat} {Cw : Bool}
def M : Fw := ⟨prog,138,f138,[],[3],false,[(1,10,false)],[],[]⟩
theorem ok : M.Ok := ⟨AG.nil,mixed,func138,by kernel_rfl⟩
theorem start (h : ∀ b3 : Nat,Pq q0 fun b6 o6 => LS σ b6 (o6 + 2) fun p8 n8 c8 => Al σ fun CW => AJ prog (Builtin.append_ #[22,22] 22 #[.slice p8 n8 c8,(.slice (aD CW 0) 1 1)]) (Hp.set σ CW (.cells #[.int .i64 DR,.int .i64 CL,.string DT,.slice DV DX DY,.int .i64 DS,.int .i64 DW,.int .i64 Cv,.slice Dd DZ De,.bool Cw,.int .i64 CO] 36 (0,0))) (CS fun LH n11 LJ y => AJ prog (Instr.storeAt 22 (.pointer (aD b6 (o6 + 2))) (.slice LH n11 LJ)) y (fun _ AF => R (.returned (.tuple #[])) AF))) : Spec prog 138 #[.pointer q0,.agg #[.int .i64 DR,.int .i64 CL,.string DT,.slice DV DX DY,.int .i64 DS,.int .i64 DW,.int .i64 Cv,.slice Dd DZ De,.bool Cw,.int .i64 CO]] σ R := M.start h ok
end HR
namespace EZ
variable {p0 : Option Addr} {n0 c0 : Nat}
def M : Fw := ⟨prog,154,f154,[151,155,194],[],false,[],[],[]⟩
theorem ok : M.Ok := ⟨.cons call151 (.cons call155 (.cons call194 (AG.nil))),mixed,func154,by kernel_rfl⟩
theorem start (h : Spec prog 151 #[.slice p0 n0 c0] σ (AA R (CI .u64 fun x4 y => Spec prog 155 #[.slice p0 n0 c0] y (AA R (CI .u64 fun x6 AF => Spec prog 194 #[.int .u64 x4,.int .u64 x6] AF (AA R (CI .u64 fun x7 AH => R (.returned (.int .u64 x7)) AH))))))) : Spec prog 154 #[.slice p0 n0 c0] σ R := M.start h ok
end EZ
namespace AY
variable {q0 DV Dd p2 p3 Ic Ik Em Es JC p35 pk : Option Addr} {DR CL DS DW Cv CO Ia G8 Ih Ii Ij Io Dx D7 ZV Po ai M4 : Int} {DT Ib : ByteArray} {DX DY DZ De n2 c2 n3 c3 Ie Ig Il Im En Eo Eu Ev n14 HL n35 vU kS dS : Nat} {Cw Jj : Bool} {m10 m12 : Option Nat}
def M : Fw := ⟨prog,160,f160,[49,148,206,207],[5,8,16,17,20,21],false,[],[],[(1000,[(3,wL),(5,.X 36 [.I .i64,.I .i64,.T,.L,.I .i64,.I .i64,.I .i64,.L,.B,.I .i64]),(8,.X 93 [.I .i64,.I .u64,.L,.L]),(10,wM),(12,wM),(14,wL),(35,wL),(36,wI),(37,wI)]),(2024,[(5,.X 36 [.I .i64,.I .i64,.T,.L,.I .i64,.I .i64,.I .i64,.L,.B,.I .i64]),(8,.X 93 [.I .i64,.I .u64,.L,.L]),(10,wM),(14,wL),(66,wL),(67,wI),(68,wI)]),(8103,[(5,.X 36 [.I .i64,.I .i64,.T,.L,.I .i64,.I .i64,.I .i64,.L,.B,.I .i64]),(8,.X 93 [.I .i64,.I .u64,.L,.L]),(10,wM),(14,wL),(66,wL),(67,wI),(68,wI)]),(4007,[(3,wL),(5,.X 36 [.I .i64,.I .i64,.T,.L,.I .i64,.I .i64,.I .i64,.L,.B,.I .i64]),(8,.X 93 [.I .i64,.I .u64,.L,.L]),(10,wM),(12,wM),(14,wL),(35,wL),(36,wI),(37,wI)])]⟩
theorem ok : M.Ok := ⟨.cons call49 (.cons call148 (.cons call206 (.cons call207 (AG.nil)))),mixed,func160,by kernel_rfl⟩
def rz := M.pt 0
def Jf := M.pt 1
def M8 := M.pt 2
def Vj := M.pt 3
theorem start (h : ∀ b5 : Nat,∀ b8 : Nat,Spec prog 206 #[.agg #[.int .i64 DR,.int .i64 CL,.string DT,.slice DV DX DY,.int .i64 DS,.int .i64 DW,.int .i64 Cv,.slice Dd DZ De,.bool Cw,.int .i64 CO],.slice p2 n2 c2] σ (AA R (fun z y => ∃ AEJ AK8,z = (.tuple #[.map AEJ,.bool AK8]) ∧ Spec prog 206 #[.agg #[.int .i64 DR,.int .i64 CL,.string DT,.slice DV DX DY,.int .i64 DS,.int .i64 DW,.int .i64 Cv,.slice Dd DZ De,.bool Cw,.int .i64 CO],.slice p3 n3 c3] y (AA R (fun z AF => ∃ AEK AK9,z = (.tuple #[.map AEK,.bool AK9]) ∧ rz R p3 n3 c3 DR CL DT DV DX DY DS DW Cv Dd DZ De Cw CO 0 0 none 0 0 none 0 0 AEJ AEK none 0 0 p2 n2 c2 (n2 : Int) 0 AF))))) : Spec prog 160 #[.pointer q0,.agg #[.int .i64 DR,.int .i64 CL,.string DT,.slice DV DX DY,.int .i64 DS,.int .i64 DW,.int .i64 Cv,.slice Dd DZ De,.bool Cw,.int .i64 CO],.slice p2 n2 c2,.slice p3 n3 c3] σ R := M.start h ok
theorem de (h : Br (Po < ZV) (Pq p35 fun pw o39 => In Po (n35 : Int) ∧ ∃ Xl VU aj ak,As σ pw (o39 + Int.toNat Po * 2) [.slice Xl VU aj,.int .u64 ak] ∧ ∀ I9 : Nat,Spec prog 207 #[.agg #[.int .i64 Ia,.int .i64 G8,.string Ib,.slice Ic Ie Ig,.int .i64 Ih,.int .i64 Ii,.int .i64 Ij,.slice Ik Il Im,.bool Jj,.int .i64 Io],.slice Xl VU aj] σ (AA R (CS fun vV n46 r3 y => Spec prog 49 #[.slice vV n46 r3] y (AA R (CT fun s47 AF => AJ prog (Instr.lookup 243 (.map m12) (.string s47) true) AF (fun z AH => ∃ AEL AEM AEN AEO AEP,z = (.tuple #[.agg #[.slice AEL AEM AEN,.int .u64 AEO],.bool AEP]) ∧ ∀ b17 : Nat,Br (G8 = 12) (Al AH fun ft => AJ prog (Builtin.append_ #[67,67] 67 #[.slice JC n14 HL,(.slice (aD ft 0) 1 1)]) (Hp.set AH ft (.cells #[.slice Xl VU aj,.int .u64 ak] 71 (0,0))) (CS fun fc XN fe AZ => Vj R p3 n3 c3 Ia G8 Ib Ic Ie Ig Ih Ii Ij Ik Il Im Jj Io Dx D7 Em En Eo Es Eu Ev m10 m12 fc XN fe (aD pw o39) n35 vU ZV Po AZ)) (Bo AEP (Br (G8 = 11) (Al AH fun ft => AJ prog (Builtin.append_ #[67,67] 67 #[.slice JC n14 HL,(.slice (aD ft 0) 1 1)]) (Hp.set AH ft (.cells #[.slice Xl VU aj,.int .u64 ak] 71 (0,0))) (CS fun fc XN fe AZ => Vj R p3 n3 c3 Ia G8 Ib Ic Ie Ig Ih Ii Ij Ik Il Im Jj Io Dx D7 Em En Eo Es Eu Ev m10 m12 fc XN fe (aD pw o39) n35 vU ZV Po AZ)) (Vj R p3 n3 c3 Ia G8 Ib Ic Ie Ig Ih Ii Ij Ik Il Im Jj Io Dx D7 Em En Eo Es Eu Ev m10 m12 JC n14 HL (aD pw o39) n35 vU ZV Po AH)) (Br (G8 = 11) (Vj R p3 n3 c3 Ia G8 Ib Ic Ie Ig Ih Ii Ij Ik Il Im Jj Io Dx D7 Em En Eo Es Eu Ev m10 m12 JC n14 HL (aD pw o39) n35 vU ZV Po AH) (Al AH fun ft => AJ prog (Builtin.append_ #[67,67] 67 #[.slice JC n14 HL,(.slice (aD ft 0) 1 1)]) (Hp.set AH ft (.cells #[.slice Xl VU aj,.int .u64 ak] 71 (0,0))) (CS fun fc XN fe AZ => Vj R p3 n3 c3 Ia G8 Ib Ic Ie Ig Ih Ii Ij Ik Il Im Jj Io Dx D7 Em En Eo Es Eu Ev m10 m12 fc XN fe (aD pw o39) n35 vU ZV Po AZ)))))))))) (Jf R Ia G8 Ib Ic Ie Ig Ih Ii Ij Ik Il Im Jj Io Dx D7 Em En Eo Es Eu Ev m10 JC n14 HL p3 n3 c3 (n3 : Int) 0 σ)) : rz R p3 n3 c3 Ia G8 Ib Ic Ie Ig Ih Ii Ij Ik Il Im Jj Io Dx D7 Em En Eo Es Eu Ev m10 m12 JC n14 HL p35 n35 vU ZV Po σ := M.fP h ok rfl fun _ _ => by kernel_rfl
theorem LG (h : Br (M4 < ai) (Pq pk fun b70 o70 => In M4 (kS : Int) ∧ ∃ zI zJ zK AEQ,As σ b70 (o70 + Int.toNat M4 * 2) [.slice zI zJ zK,.int .u64 AEQ] ∧ ∀ Xk : Nat,Spec prog 207 #[.agg #[.int .i64 Ia,.int .i64 G8,.string Ib,.slice Ic Ie Ig,.int .i64 Ih,.int .i64 Ii,.int .i64 Ij,.slice Ik Il Im,.bool Jj,.int .i64 Io],.slice zI zJ zK] σ (AA R (CS fun p77 fu c77 y => Spec prog 49 #[.slice p77 fu c77] y (AA R (CT fun s78 AF => AJ prog (Instr.lookup 243 (.map m10) (.string s78) true) AF (fun z AH => ∃ AER AES AET AEU AEV,z = (.tuple #[.agg #[.slice AER AES AET,.int .u64 AEU],.bool AEV]) ∧ ∀ b21 : Nat,Bn AEV (Br (G8 = 12) (Al AH fun Lq => AJ prog (Builtin.append_ #[67,67] 67 #[.slice JC n14 HL,(.slice (aD Lq 0) 1 1)]) (Hp.set AH Lq (.cells #[.slice zI zJ zK,.int .u64 AEQ] 71 (0,0))) (CS fun fw fx fy AZ => M8 R Ia G8 Ib Ic Ie Ig Ih Ii Ij Ik Il Im Jj Io Dx D7 Em En Eo Es Eu Ev m10 fw fx fy (aD b70 o70) kS dS ai M4 AZ)) (M8 R Ia G8 Ib Ic Ie Ig Ih Ii Ij Ik Il Im Jj Io Dx D7 Em En Eo Es Eu Ev m10 JC n14 HL (aD b70 o70) kS dS ai M4 AH)) (M8 R Ia G8 Ib Ic Ie Ig Ih Ii Ij Ik Il Im Jj Io Dx D7 Em En Eo Es Eu Ev m10 JC n14 HL (aD b70 o70) kS dS ai M4 AH))))))) (Spec prog 148 #[.slice JC n14 HL] σ (AA R (fun z y => ∃ vW vX vY vZ va vd ve vf AEW,z = (.tuple #[.agg #[.int .i64 vW,.int .u64 vX,.slice vY vZ va,.slice vd ve vf],.int .i64 AEW]) ∧ R (.returned (.tuple #[.agg #[.int .i64 vW,.int .u64 vX,.slice vY vZ va,.slice vd ve vf],.int .i64 AEW])) y)))) : Jf R Ia G8 Ib Ic Ie Ig Ih Ii Ij Ik Il Im Jj Io Dx D7 Em En Eo Es Eu Ev m10 JC n14 HL pk kS dS ai M4 σ := M.fP h ok rfl fun _ _ => by kernel_rfl
theorem VM (h : AM (M4 + 1) ∧ Jf R Ia G8 Ib Ic Ie Ig Ih Ii Ij Ik Il Im Jj Io Dx D7 Em En Eo Es Eu Ev m10 JC n14 HL pk kS dS ai (M4 + 1) σ) : M8 R Ia G8 Ib Ic Ie Ig Ih Ii Ij Ik Il Im Jj Io Dx D7 Em En Eo Es Eu Ev m10 JC n14 HL pk kS dS ai M4 σ := M.fP h ok rfl fun _ _ => by kernel_rfl
theorem r4 (h : AM (Po + 1) ∧ rz R p3 n3 c3 Ia G8 Ib Ic Ie Ig Ih Ii Ij Ik Il Im Jj Io Dx D7 Em En Eo Es Eu Ev m10 m12 JC n14 HL p35 n35 vU ZV (Po + 1) σ) : Vj R p3 n3 c3 Ia G8 Ib Ic Ie Ig Ih Ii Ij Ik Il Im Jj Io Dx D7 Em En Eo Es Eu Ev m10 m12 JC n14 HL p35 n35 vU ZV Po σ := M.fP h ok rfl fun _ _ => by kernel_rfl
end AY
namespace Lw
variable {Er EM x1 : Int}
def M : Fw := ⟨prog,177,f177,[],[2],false,[],[],[]⟩
theorem ok : M.Ok := ⟨AG.nil,mixed,func177,by kernel_rfl⟩
theorem start (h : ∀ b2 : Nat,Br (Er ≤ x1) (R (.returned (.int .i64 (-1))) σ) (R (.returned (.int .i64 1)) σ)) : Spec prog 177 #[.agg #[.int .i64 Er,.int .u64 EM],.int .i64 x1] σ R := M.start h ok
end Lw
namespace GJ
variable {u5 ZU : ByteArray} {b1 : Nat}
def M : Fw := ⟨prog,198,f198,[199],[2],false,[],[],[]⟩
theorem ok : M.Ok := ⟨.cons call199 (AG.nil),mixed,func198,by kernel_rfl⟩
theorem start (h : ∀ b2 : Nat,LS σ b1 0 fun p4 n4 c4 => Spec prog 199 #[.slice p4 n4 c4,.string u5] σ (AA R (CB fun t7 y => R (.returned (.bool t7)) y))) : Spec prog 198 #[.agg #[.string u5,.string ZU],(.pointer (aD b1 0))] σ R := M.start h ok
end GJ
namespace Ea
variable {q0 : Option Addr} {s1 : ByteArray}
def M : Fw := ⟨prog,210,f210,[67,135,136],[],false,[],[],[(3,[(0,wQ)])]⟩
theorem ok : M.Ok := ⟨.cons call67 (.cons call135 (.cons call136 (AG.nil))),mixed,func210,by kernel_rfl⟩
def al := M.pt 0
theorem start (h : Spec prog 136 #[.pointer q0,.int .i64 5,.string s1] σ (AA R (CB fun t6 y => Bn t6 (Spec prog 67 #[.pointer q0] y (AA R (fun z AF => z = (.tuple #[]) ∧ al R q0 AF))) (al R q0 y)))) : Spec prog 210 #[.pointer q0,.string s1] σ R := M.start h ok
theorem OS (h : Spec prog 135 #[.pointer q0] σ (AA R (fun z y => ∃ fj Pp fk rh,z = (.agg #[.int .i64 fj,.int .i64 Pp,.string fk,.int .i64 rh]) ∧ R (.returned (.tuple #[])) y))) : al R q0 σ := M.of h ok rfl
end Ea
namespace Ck
variable {q0 : Option Addr}
def M : Fw := ⟨prog,212,f212,[95],[],false,[],[],[]⟩
theorem ok : M.Ok := ⟨.cons call95 (AG.nil),mixed,func212,by kernel_rfl⟩
theorem start (h : Spec prog 95 #[.pointer q0,(.func (.func 230) #[.pointer q0] #[]),.int .i64 3,.int .i64 4] σ (AA R (fun z y => z = (.tuple #[]) ∧ R (.returned (.tuple #[])) y))) : Spec prog 212 #[.pointer q0] σ R := M.start h ok
end Ck
namespace Eb
variable {TU : Option Addr} {Ls RG : Nat} {ZU s1 : ByteArray}
def M : Fw := ⟨prog,218,f218,[],[2],false,[],[],[]⟩
theorem ok : M.Ok := ⟨AG.nil,mixed,func218,by kernel_rfl⟩
theorem start (h : ∀ b2 : Nat,R (.returned (.bool (!(ByteArray.toList s1 == ByteArray.toList ZU)))) σ) : Spec prog 218 #[.agg #[.slice TU Ls RG,.string ZU],.string s1] σ R := M.start h ok
end Eb
namespace UP
variable {x0 : Int}
def M : Fw := ⟨prog,240,f240,[],[],false,[],[],[]⟩
theorem ok : M.Ok := ⟨AG.nil,mixed,func240,by kernel_rfl⟩
theorem start (h : Br (x0 = 1) (R (.returned (.bool true)) σ) (Br (x0 = 2) (R (.returned (.bool true)) σ) (Br (x0 = 4) (R (.returned (.bool true)) σ) (R (.returned (.bool (decide (x0 = 8)))) σ)))) : Spec prog 240 #[.int .i64 x0] σ R := M.start h ok
end UP
namespace Ly
def M : Fw := ⟨prog,263,f263,[182],[],false,[],[],[]⟩
theorem ok : M.Ok := ⟨.cons call182 (AG.nil),mixed,func263,by kernel_rfl⟩
theorem start (h : Spec prog 182 #[.int .u64 4604544271217802189] σ (AA R (fun z y => ∃ x2,(Value.float .f64 x2) = z ∧ ∃ x5,YF prog (Op.unary .neg (Value.float .f64 x2)) y (Value.float .f64 x5) ∧ ∃ x6 y6,YF prog (Builtin.complex_ #[51,51] 272 #[(Value.float .f64 x2),(Value.float .f64 x5)]) y (Value.complex .f64 x6 y6) ∧ ∃ x8,YF prog (Op.unary .neg (Value.float .f64 x2)) y (Value.float .f64 x8) ∧ ∃ x10,YF prog (Op.unary .neg (Value.float .f64 x2)) y (Value.float .f64 x10) ∧ ∃ x11 Lz,YF prog (Builtin.complex_ #[51,51] 272 #[(Value.float .f64 x8),(Value.float .f64 x10)]) y (Value.complex .f64 x11 Lz) ∧ ∃ Dn,YF prog (Op.unary .neg (Value.float .f64 x2)) y (Value.float .f64 Dn) ∧ ∃ x15 y15,YF prog (Builtin.complex_ #[51,51] 272 #[(Value.float .f64 Dn),(Value.float .f64 x2)]) y (Value.complex .f64 x15 y15) ∧ ∃ UM y18,YF prog (Builtin.complex_ #[51,51] 272 #[(Value.float .f64 x2),(Value.float .f64 x2)]) y (Value.complex .f64 UM y18) ∧ Al y fun C4 => R (.returned (.slice (aD C4 0) 8 8)) (Hp.set y C4 (.cells #[.complex .f64 4607182418800017408 0,(Value.complex .f64 x6 y6),.complex .f64 0 13830554455654793216,(Value.complex .f64 x11 Lz),.complex .f64 13830554455654793216 0,(Value.complex .f64 x15 y15),.complex .f64 0 4607182418800017408,(Value.complex .f64 UM y18)] 272 (0,0)))))) : Spec prog 263 #[] σ R := M.start h ok
end Ly
end TwW
end
end
section
set_option maxRecDepth 100000
noncomputable section
namespace TwW
open Go Tw Go.Proofs.Tryz
variable [Ej] {R : Rr} {σ : Hp}

namespace H6
variable {p0 : Option Addr} {n0 c0 : Nat} {x1 x5 : Int}
def M : Fw := ⟨prog,23,f23,[],[],false,[],[],[(208,[(0,wL),(1,wU),(5,wI)])]⟩
theorem ok : M.Ok := ⟨AG.nil,mixed,func23,by kernel_rfl⟩
def JD := M.pt 0
theorem start (h : JD R p0 n0 c0 x1 0 σ) : Spec prog 23 #[.slice p0 n0 c0,.int .u64 x1] σ R := M.start h ok
theorem BR (h : Br (x5 < (n0 : Int)) (Pq p0 fun BC O3 => In x5 (n0 : Int) ∧ LS σ BC ((O3 + Int.toNat x5 * 2) + 1) fun aP n16 WN => Br ((n16 : Int) = 1) (In x5 (n0 : Int) ∧ LS σ BC ((O3 + Int.toNat x5 * 2) + 1) fun p24 n24 c24 => Pq p24 fun JV WR => In 0 (n24 : Int) ∧ LI .u64 σ JV (WR + 1) fun JH => Br (JH = x1) (R (.returned (.bool true)) σ) (AM (x5 + 1) ∧ JD R (aD BC O3) n0 c0 x1 (x5 + 1) σ)) (AM (x5 + 1) ∧ JD R (aD BC O3) n0 c0 x1 (x5 + 1) σ)) (R (.returned (.bool false)) σ)) : JD R p0 n0 c0 x1 x5 σ := M.of h ok rfl
end H6
namespace UQ
variable {v0 : Value}
def M : Fw := ⟨prog,25,f25,[],[],false,[],[],[]⟩
theorem ok : M.Ok := ⟨AG.nil,mixed,func25,by kernel_rfl⟩
theorem start (h : EN prog 45 #[v0] σ (CI .u64 fun x4 y => R (.returned (.int .u64 x4)) y)) : Spec prog 25 #[v0] σ R := M.Du h ok [(0,.o (.V v0))] rfl rfl (by kernel_rfl)
end UQ
namespace UR
variable {p0 p1 : Option Addr} {n0 c0 n1 c1 : Nat}
def M : Fw := ⟨prog,28,f28,[37,46],[],false,[],[],[]⟩
theorem ok : M.Ok := ⟨.cons call37 (.cons call46 (AG.nil)),mixed,func28,by kernel_rfl⟩
theorem start (h : Spec prog 37 #[.slice p0 n0 c0] σ (AA R (fun z y => ∃ IZ yO AEX,z = (.tuple #[.int .i64 IZ,.int .i64 yO,.int .i64 AEX]) ∧ Br (AEX ≠ 0) (R (.returned (.int .i64 220)) y) (Br (IZ = 3) (R (.returned (.int .i64 220)) y) (Spec prog 46 #[.slice p1 n1 c1] y (AA R (CI .i64 fun Dz AF => Br (Dz ≠ 0) (R (.returned (.int .i64 224)) AF) (R (.returned (.int .i64 0)) AF)))))))) : Spec prog 28 #[.slice p0 n0 c0,.slice p1 n1 c1] σ R := M.start h ok
end UR
namespace DH
variable {p0 p5 : Option Addr} {n0 c0 n5 c5 : Nat} {x6 x7 : Int}
def M : Fw := ⟨prog,46,f46,[52,68,69],[4],false,[],[],[(104,[(0,wL),(5,wL),(6,wI),(7,wI)])]⟩
theorem ok : M.Ok := ⟨.cons call52 (.cons call68 (.cons call69 (AG.nil))),mixed,func46,by kernel_rfl⟩
def Hi := M.pt 0
theorem start (h : Hi R p0 n0 c0 p0 n0 c0 (n0 : Int) 0 σ) : Spec prog 46 #[.slice p0 n0 c0] σ R := M.start h ok
theorem Bc (h : Br (x7 < x6) (Pq p5 fun CW fz => In x7 (n5 : Int) ∧ ∃ Xv Xw Xx AEY AEZ AEa,As σ CW (fz + Int.toNat x7 * 2) [.slice Xv Xw Xx,.slice AEY AEZ AEa] ∧ ∀ b4 : Nat,Spec prog 68 #[.slice Xv Xw Xx] σ (AA R (CI .i64 fun ZS y => Br (ZS ≠ 0) (R (.returned (.int .i64 100)) y) (Spec prog 69 #[.slice AEY AEZ AEa] y (AA R (CB fun t19 AF => Bn t19 (R (.returned (.int .i64 100)) AF) (Br (0 < x7) (AM (x7 - 1) ∧ Pq p0 fun Pn dU => In (x7 - 1) (n0 : Int) ∧ LS AF Pn (dU + Int.toNat (x7 - 1) * 2) fun p31 n31 c31 => Spec prog 52 #[.slice p31 n31 c31,.slice Xv Xw Xx] AF (AA R (CI .i64 fun ya AH => Br (0 ≤ ya) (R (.returned (.int .i64 100)) AH) (AM (x7 + 1) ∧ Hi R (aD Pn dU) n0 c0 (aD CW fz) n5 c5 x6 (x7 + 1) AH)))) (AM (x7 + 1) ∧ Hi R p0 n0 c0 (aD CW fz) n5 c5 x6 (x7 + 1) AF)))))))) (R (.returned (.int .i64 0)) σ)) : Hi R p0 n0 c0 p5 n5 c5 x6 x7 σ := M.of h ok rfl
end DH
namespace OW
variable {x0 : Int}
def M : Fw := ⟨prog,90,f90,[],[],false,[],[],[]⟩
theorem ok : M.Ok := ⟨AG.nil,mixed,func90,by kernel_rfl⟩
theorem start (h : Br (48 ≤ x0) (R (.returned (.bool (decide (x0 ≤ 57)))) σ) (R (.returned (.bool false)) σ)) : Spec prog 90 #[.int .u8 x0] σ R := M.start h ok
end OW
namespace Ad
variable {q0 DV Dd p2 GX Hk HC Fs Em Es aP : Option Addr} {DR CL DS DW Cv CO Fm FR Hl F5 Hm IM Fp Fq Dx D7 x17 UM : Int} {DT HM : ByteArray} {DX DY DZ De n2 c2 GY GZ Hn Ho HD HE Ft Fu En Eo Eu Ev n16 WN : Nat} {Cw IN : Bool}
def M : Fw := ⟨prog,101,f101,[141,142],[4,6,8,10],false,[(7,15,false)],[],[(232,[(0,wQ),(4,.X 36 [.I .i64,.I .i64,.T,.L,.I .i64,.I .i64,.I .i64,.L,.B,.I .i64]),(6,.X 93 [.I .i64,.I .u64,.L,.L]),(8,.X 93 [.I .i64,.I .u64,.L,.L]),(16,wL),(17,wI),(18,wI)]),(935,[(0,wQ),(4,.X 36 [.I .i64,.I .i64,.T,.L,.I .i64,.I .i64,.I .i64,.L,.B,.I .i64]),(6,.X 93 [.I .i64,.I .u64,.L,.L]),(8,.X 93 [.I .i64,.I .u64,.L,.L]),(16,wL),(17,wI),(18,wI)])]⟩
theorem ok : M.Ok := ⟨.cons call141 (.cons call142 (AG.nil)),mixed,func101,by kernel_rfl⟩
def A1 := M.pt 0
def Ld := M.pt 1
theorem start (h : ∀ b4 : Nat,∀ b6 : Nat,∀ b8 : Nat,Pq q0 fun BC O3 => LS σ BC O3 fun aP n16 WN => A1 R (aD BC O3) DR CL DT DV DX DY DS DW Cv Dd DZ De Cw CO 0 0 none 0 0 none 0 0 2 0 none 0 0 none 0 0 aP n16 WN (n16 : Int) 0 σ) : Spec prog 101 #[.pointer q0,.agg #[.int .i64 DR,.int .i64 CL,.string DT,.slice DV DX DY,.int .i64 DS,.int .i64 DW,.int .i64 Cv,.slice Dd DZ De,.bool Cw,.int .i64 CO],.slice p2 n2 c2] σ R := M.start h ok
theorem Ab (h : Br (UM < x17) (Pq aP fun Xk zL => In UM (n16 : Int) ∧ ∃ zM zN zO AEb AEc AEd,As σ Xk (zL + Int.toNat UM * 2) [.slice zM zN zO,.slice AEb AEc AEd] ∧ ∀ CW : Nat,Pq q0 fun JV WR => LI .i64 σ JV (WR + 1) fun JH => AM (JH - F5) ∧ AM ((JH - F5) - 300) ∧ LI .i64 σ JV (WR + 1) fun WO => AM (WO - F5) ∧ Spec prog 141 #[.slice AEb AEc AEd,(.int .i64 ((JH - F5) - 300)),(.int .i64 (WO - F5))] σ (AA R (CS fun p39 n39 c39 y => Br ((n39 : Int) = 0) (Ld R (aD JV WR) Fm FR HM GX GY GZ Hl F5 Hm Hk Hn Ho IN IM Fp Fq HC HD HE Fs Ft Fu Dx D7 Em En Eo Es Eu Ev (aD Xk zL) n16 WN x17 UM y) (AM ((n39 : Int) - 1) ∧ Pq p39 fun Pm o48 => In (((n39 : Int) - 1)) (n39 : Int) ∧ LI .u64 y Pm ((o48 + Int.toNat ((n39 : Int) - 1) * 2) + 1) fun x50 => Br (x50 = 9218868437227405314) (Ld R (aD JV WR) Fm FR HM GX GY GZ Hl F5 Hm Hk Hn Ho IN IM Fp Fq HC HD HE Fs Ft Fu Dx D7 Em En Eo Es Eu Ev (aD Xk zL) n16 WN x17 UM y) (Spec prog 142 #[.slice GX GY GZ,.slice zM zN zO] y (AA R (CB fun t58 AF => Bn t58 (Ld R (aD JV WR) Fm FR HM GX GY GZ Hl F5 Hm Hk Hn Ho IN IM Fp Fq HC HD HE Fs Ft Fu Dx D7 Em En Eo Es Eu Ev (aD Xk zL) n16 WN x17 UM AF) (AM ((n39 : Int) - 1) ∧ In (((n39 : Int) - 1)) (n39 : Int) ∧ LI .u64 AF Pm ((o48 + Int.toNat ((n39 : Int) - 1) * 2) + 1) fun x71 => Al AF fun zC => AJ prog (Builtin.append_ #[67,67] 67 #[.slice Em En Eo,(.slice (aD zC 0) 1 1)]) (Hp.set AF zC (.cells #[.slice zM zN zO,.int .u64 x71] 71 (0,0))) (CS fun p74 n74 c74 AH => Ld R (aD JV WR) Fm FR HM GX GY GZ Hl F5 Hm Hk Hn Ho IN IM Fp Fq HC HD HE Fs Ft Fu Dx D7 p74 n74 c74 Es Eu Ev (aD Xk zL) n16 WN x17 UM AH))))))))) (R (.returned (.tuple #[.agg #[.int .i64 Dx,.int .u64 D7,.slice Em En Eo,.slice Es Eu Ev],.int .i64 0])) σ)) : A1 R q0 Fm FR HM GX GY GZ Hl F5 Hm Hk Hn Ho IN IM Fp Fq HC HD HE Fs Ft Fu Dx D7 Em En Eo Es Eu Ev aP n16 WN x17 UM σ := M.of3 h ok rfl fun _ _ _ => by kernel_rfl
theorem Iq (h : AM (UM + 1) ∧ A1 R q0 Fm FR HM GX GY GZ Hl F5 Hm Hk Hn Ho IN IM Fp Fq HC HD HE Fs Ft Fu Dx D7 Em En Eo Es Eu Ev aP n16 WN x17 (UM + 1) σ) : Ld R q0 Fm FR HM GX GY GZ Hl F5 Hm Hk Hn Ho IN IM Fp Fq HC HD HE Fs Ft Fu Dx D7 Em En Eo Es Eu Ev aP n16 WN x17 UM σ := M.of3 h ok rfl fun _ _ _ => by kernel_rfl
end Ad
namespace AS
variable {q0 DV Dd p2 GX Hk HC Fs Em Es OT aw lx LH vV : Option Addr} {DR CL DS DW Cv CO Fm FR Hl F5 Hm IM Fp Fq Dx D7 JK Dz kZ Vd : Int} {DT HM : ByteArray} {DX DY DZ De n2 c2 GY GZ Hn Ho HD HE Ft Fu En Eo Eu Ev n21 MY ax ay ly lz n11 LJ n46 r3 : Nat} {Cw IN : Bool}
def M : Fw := ⟨prog,102,f102,[141,142,143],[4,6,8,10,13],false,[],[],[(232,[(0,wQ),(4,.X 36 [.I .i64,.I .i64,.T,.L,.I .i64,.I .i64,.I .i64,.L,.B,.I .i64]),(6,.X 93 [.I .i64,.I .u64,.L,.L]),(8,.X 93 [.I .i64,.I .u64,.L,.L]),(21,wL),(22,wI),(23,wI)]),(239208,[(0,wQ),(4,.X 36 [.I .i64,.I .i64,.T,.L,.I .i64,.I .i64,.I .i64,.L,.B,.I .i64]),(6,.X 93 [.I .i64,.I .u64,.L,.L]),(8,.X 93 [.I .i64,.I .u64,.L,.L]),(10,.X 40 [.L,.L]),(11,wL),(21,wL),(22,wI),(23,wI),(46,wL),(47,wI),(48,wI)]),(935,[(0,wQ),(4,.X 36 [.I .i64,.I .i64,.T,.L,.I .i64,.I .i64,.I .i64,.L,.B,.I .i64]),(6,.X 93 [.I .i64,.I .u64,.L,.L]),(8,.X 93 [.I .i64,.I .u64,.L,.L]),(21,wL),(22,wI),(23,wI)]),(956839,[(0,wQ),(4,.X 36 [.I .i64,.I .i64,.T,.L,.I .i64,.I .i64,.I .i64,.L,.B,.I .i64]),(6,.X 93 [.I .i64,.I .u64,.L,.L]),(8,.X 93 [.I .i64,.I .u64,.L,.L]),(10,.X 40 [.L,.L]),(11,wL),(21,wL),(22,wI),(23,wI),(46,wL),(47,wI),(48,wI)])]⟩
theorem ok : M.Ok := ⟨.cons call141 (.cons call142 (.cons call143 (AG.nil))),mixed,func102,by kernel_rfl⟩
def A1 := M.pt 0
def TW := M.pt 1
def Li := M.pt 2
def r5 := M.pt 3
theorem start (h : ∀ b4 : Nat,∀ b6 : Nat,Spec prog 143 #[.int .i64 DS] σ (AA R (CI .u64 fun x16 y => ∀ b8 : Nat,Pq q0 fun C4 kT => LS y C4 kT fun OT n21 MY => A1 R (aD C4 kT) DR CL DT DV DX DY DS DW Cv Dd DZ De Cw CO 0 0 none 0 0 none 0 0 3 x16 none 0 0 none 0 0 OT n21 MY (n21 : Int) 0 y))) : Spec prog 102 #[.pointer q0,.agg #[.int .i64 DR,.int .i64 CL,.string DT,.slice DV DX DY,.int .i64 DS,.int .i64 DW,.int .i64 Cv,.slice Dd DZ De,.bool Cw,.int .i64 CO],.slice p2 n2 c2] σ R := M.start h ok
theorem Ab (h : Br (Dz < JK) (Pq OT fun JV WR => In Dz (n21 : Int) ∧ ∃ AEe AEf AEg zP zQ zR,As σ JV (WR + Int.toNat Dz * 2) [.slice AEe AEf AEg,.slice zP zQ zR] ∧ ∀ CW : Nat,Pq q0 fun fm o30 => LI .i64 σ fm (o30 + 1) fun lF => AM (lF - F5) ∧ AM ((lF - F5) - Hl) ∧ LI .i64 σ fm (o30 + 1) fun XL => AM (XL - F5) ∧ Spec prog 141 #[.slice zP zQ zR,(.int .i64 ((lF - F5) - Hl)),(.int .i64 (XL - F5))] σ (AA R (CS fun vV n46 r3 y => TW R (aD fm o30) Fm FR HM GX GY GZ Hl F5 Hm Hk Hn Ho IN IM Fp Fq HC HD HE Fs Ft Fu Dx D7 Em En Eo Es Eu Ev AEe AEf AEg zP zQ zR none 0 0 (aD JV WR) n21 MY JK Dz vV n46 r3 (n46 : Int) 0 y))) (R (.returned (.tuple #[.agg #[.int .i64 Dx,.int .u64 D7,.slice Em En Eo,.slice Es Eu Ev],.int .i64 0])) σ)) : A1 R q0 Fm FR HM GX GY GZ Hl F5 Hm Hk Hn Ho IN IM Fp Fq HC HD HE Fs Ft Fu Dx D7 Em En Eo Es Eu Ev OT n21 MY JK Dz σ := M.of3 h ok rfl fun _ _ _ => by kernel_rfl
theorem QM (h : Br (Vd < kZ) (Pq vV fun VT o50 => In Vd (n46 : Int) ∧ ∃ ALC zS,As σ VT (o50 + Int.toNat Vd * 2) [.int .i64 ALC,.int .u64 zS] ∧ ∀ C7 : Nat,Br (zS ≠ 9218868437227405314) (Al σ fun b58 => AJ prog (Builtin.append_ #[187,187] 187 #[.slice LH n11 LJ,(.slice (aD b58 0) 1 1)]) (Hp.set σ b58 (.cells #[.int .u64 zS] 48 (0,0))) (CS fun uQ n59 uR y => r5 R q0 Fm FR HM GX GY GZ Hl F5 Hm Hk Hn Ho IN IM Fp Fq HC HD HE Fs Ft Fu Dx D7 Em En Eo Es Eu Ev aw ax ay lx ly lz uQ n59 uR OT n21 MY JK Dz (aD VT o50) n46 r3 kZ Vd y)) (r5 R q0 Fm FR HM GX GY GZ Hl F5 Hm Hk Hn Ho IN IM Fp Fq HC HD HE Fs Ft Fu Dx D7 Em En Eo Es Eu Ev aw ax ay lx ly lz LH n11 LJ OT n21 MY JK Dz (aD VT o50) n46 r3 kZ Vd σ)) (Br (0 < (n11 : Int)) (Spec prog 142 #[.slice GX GY GZ,.slice aw ax ay] σ (AA R (CB fun t69 y => Bo t69 (Al y fun b77 => AJ prog (Builtin.append_ #[91,91] 91 #[.slice Es Eu Ev,(.slice (aD b77 0) 1 1)]) (Hp.set y b77 (.cells #[.slice aw ax ay,.slice LH n11 LJ] 189 (0,0))) (CS fun pq lH pr AF => Li R q0 Fm FR HM GX GY GZ Hl F5 Hm Hk Hn Ho IN IM Fp Fq HC HD HE Fs Ft Fu Dx D7 Em En Eo pq lH pr OT n21 MY JK Dz AF)) (Li R q0 Fm FR HM GX GY GZ Hl F5 Hm Hk Hn Ho IN IM Fp Fq HC HD HE Fs Ft Fu Dx D7 Em En Eo Es Eu Ev OT n21 MY JK Dz y)))) (Li R q0 Fm FR HM GX GY GZ Hl F5 Hm Hk Hn Ho IN IM Fp Fq HC HD HE Fs Ft Fu Dx D7 Em En Eo Es Eu Ev OT n21 MY JK Dz σ))) : TW R q0 Fm FR HM GX GY GZ Hl F5 Hm Hk Hn Ho IN IM Fp Fq HC HD HE Fs Ft Fu Dx D7 Em En Eo Es Eu Ev aw ax ay lx ly lz LH n11 LJ OT n21 MY JK Dz vV n46 r3 kZ Vd σ := M.of4 h ok rfl fun _ _ _ _ => by kernel_rfl
theorem Iu (h : AM (Dz + 1) ∧ A1 R q0 Fm FR HM GX GY GZ Hl F5 Hm Hk Hn Ho IN IM Fp Fq HC HD HE Fs Ft Fu Dx D7 Em En Eo Es Eu Ev OT n21 MY JK (Dz + 1) σ) : Li R q0 Fm FR HM GX GY GZ Hl F5 Hm Hk Hn Ho IN IM Fp Fq HC HD HE Fs Ft Fu Dx D7 Em En Eo Es Eu Ev OT n21 MY JK Dz σ := M.of3 h ok rfl fun _ _ _ => by kernel_rfl
theorem r6 (h : AM (Vd + 1) ∧ TW R q0 Fm FR HM GX GY GZ Hl F5 Hm Hk Hn Ho IN IM Fp Fq HC HD HE Fs Ft Fu Dx D7 Em En Eo Es Eu Ev aw ax ay lx ly lz LH n11 LJ OT n21 MY JK Dz vV n46 r3 kZ (Vd + 1) σ) : r5 R q0 Fm FR HM GX GY GZ Hl F5 Hm Hk Hn Ho IN IM Fp Fq HC HD HE Fs Ft Fu Dx D7 Em En Eo Es Eu Ev aw ax ay lx ly lz LH n11 LJ OT n21 MY JK Dz vV n46 r3 kZ Vd σ := M.of4 h ok rfl fun _ _ _ _ => by kernel_rfl
end AS
namespace FX
variable {Er EM Ph M7 Hj JB DR CL DS DW Cv CO x7 x8 : Int} {Pj DT : ByteArray} {UE RB DV Dd p6 : Option Addr} {TT UF QI RC DX DY DZ De n6 c6 : Nat} {MU Cw : Bool}
def M : Fw := ⟨prog,122,f122,[126],[1],false,[],[],[(104,[(1,.X 36 [.I .i64,.I .i64,.T,.L,.I .i64,.I .i64,.I .i64,.L,.B,.I .i64]),(6,wL),(7,wI),(8,wI)])]⟩
theorem ok : M.Ok := ⟨.cons call126 (AG.nil),mixed,func122,by kernel_rfl⟩
def Hi := M.pt 0
theorem start (h : ∀ b1 : Nat,Hi R Er EM Pj UE TT UF Ph M7 Hj RB QI RC MU JB RB QI RC (QI : Int) 0 σ) : Spec prog 122 #[.agg #[.int .i64 Er,.int .i64 EM,.string Pj,.slice UE TT UF,.int .i64 Ph,.int .i64 M7,.int .i64 Hj,.slice RB QI RC,.bool MU,.int .i64 JB]] σ R := M.start h ok
theorem Bc (h : Br (x8 < x7) (Pq p6 fun CW fz => In x8 (n6 : Int) ∧ LT σ CW (fz + Int.toNat x8 * 1) fun s11 => Spec prog 126 #[.string s11] σ (AA R (CB fun t13 y => Bn t13 (R (.returned (.bool false)) y) (AM (x8 + 1) ∧ Hi R DR CL DT DV DX DY DS DW Cv Dd DZ De Cw CO (aD CW fz) n6 c6 x7 (x8 + 1) y)))) (Br ((DZ : Int) = 0) (R (.returned (.bool true)) σ) (R (.returned (.bool (decide (Cv ≠ 0)))) σ))) : Hi R DR CL DT DV DX DY DS DW Cv Dd DZ De Cw CO p6 n6 c6 x7 x8 σ := M.iu h ok rfl fun _ => by kernel_rfl
end FX
namespace DI
variable {Er EM Ph M7 Hj JB : Int} {Pj : ByteArray} {UE RB p1 : Option Addr} {TT UF QI RC n1 c1 b2 : Nat} {MU : Bool}
def M : Fw := ⟨prog,127,f127,[],[3],false,[],[],[]⟩
theorem ok : M.Ok := ⟨AG.nil,mixed,func127,by kernel_rfl⟩
theorem start (h : ∀ b3 : Nat,LI .i64 σ b2 0 fun x7 => R (.returned (.tuple #[.int .i64 x7,.int .i64 0])) σ) : Spec prog 127 #[.agg #[.int .i64 Er,.int .i64 EM,.string Pj,.slice UE TT UF,.int .i64 Ph,.int .i64 M7,.int .i64 Hj,.slice RB QI RC,.bool MU,.int .i64 JB],.slice p1 n1 c1,(.pointer (aD b2 0))] σ R := M.start h ok
end DI
namespace NN
variable {x0 : Int}
def M : Fw := ⟨prog,144,f144,[174,181,182],[],false,[],[],[]⟩
theorem ok : M.Ok := ⟨.cons call174 (.cons call181 (.cons call182 (AG.nil))),mixed,func144,by kernel_rfl⟩
theorem start (h : Spec prog 182 #[.int .u64 x0] σ (AA R (fun z y => ∃ x4,(Value.float .f64 x4) = z ∧ Spec prog 181 #[(Value.float .f64 x4)] y (AA R (fun z AF => ∃ x5,(Value.float .f64 x5) = z ∧ Spec prog 174 #[(Value.float .f64 x5)] AF (AA R (CI .u64 fun x6 AH => R (.returned (.int .u64 x6)) AH))))))) : Spec prog 144 #[.int .u64 x0] σ R := M.start h ok
end NN
namespace FY
variable {p0 LH : Option Addr} {n0 c0 n11 LJ : Nat} {x3 x12 Dn : Int}
def M : Fw := ⟨prog,151,f151,[186,201],[],false,[],[],[(232,[(3,wU),(11,wL),(12,wI),(13,wI)])]⟩
theorem ok : M.Ok := ⟨.cons call186 (.cons call201 (AG.nil)),mixed,func151,by kernel_rfl⟩
def A1 := M.pt 0
theorem start (h : Pq p0 fun b7 o7 => In 0 (n0 : Int) ∧ LI .u64 σ b7 o7 fun x8 => Spec prog 186 #[.int .u64 x8] σ (AA R (CI .u64 fun x9 y => ((0 : Int) ≤ 1 ∧ 1 ≤ (n0 : Int)) ∧ A1 R x9 ((IL (aD b7 o7) (1) c0 1)) (n0 - 1) (c0 - 1) ((((n0 - 1) : Nat) : Int)) 0 y))) : Spec prog 151 #[.slice p0 n0 c0] σ R := M.start h ok
theorem Ab (h : Br (Dn < x12) (Pq LH fun b15 o15 => In Dn (n11 : Int) ∧ LI .u64 σ b15 (o15 + Int.toNat Dn * 1) fun x16 => Spec prog 201 #[.int .u64 x3,.int .u64 x16] σ (AA R (CI .u64 fun Cn y => AM (Dn + 1) ∧ A1 R Cn (aD b15 o15) n11 LJ x12 (Dn + 1) y))) (R (.returned (.int .u64 x3)) σ)) : A1 R x3 LH n11 LJ x12 Dn σ := M.of h ok rfl
end FY
namespace Gs
variable {p0 : Option Addr} {n0 c0 : Nat}
def M : Fw := ⟨prog,152,f152,[202],[],false,[],[],[]⟩
theorem ok : M.Ok := ⟨.cons call202 (AG.nil),mixed,func152,by kernel_rfl⟩
theorem start (h : Spec prog 202 #[.int .i64 7,.slice p0 n0 c0] σ (AA R (CI .u64 fun x4 y => R (.returned (.int .u64 x4)) y))) : Spec prog 152 #[.slice p0 n0 c0] σ R := M.start h ok
end Gs
namespace PE
variable {Er EM Ph M7 Hj JB x1 x2 : Int} {Pj : ByteArray} {UE RB : Option Addr} {TT UF QI RC : Nat} {MU : Bool}
def M : Fw := ⟨prog,156,f156,[203,204,205],[3],false,[],[],[]⟩
theorem ok : M.Ok := ⟨.cons call203 (.cons call204 (.cons call205 (AG.nil))),mixed,func156,by kernel_rfl⟩
theorem start (h : ∀ b3 : Nat,Spec prog 203 #[.int .i64 EM,.int .u64 x1,.int .u64 x2] σ (AA R (fun z y => ∃ Q6 AEh,z = (.tuple #[.int .u64 Q6,.bool AEh]) ∧ Bo AEh (R (.returned (.tuple #[.int .u64 Q6,.bool true])) y) (Spec prog 204 #[.int .i64 EM,.int .u64 x1,.int .u64 x2] y (AA R (fun z AF => ∃ zT ALG,z = (.tuple #[.bool zT,.bool ALG]) ∧ Spec prog 205 #[.bool zT] AF (AA R (CI .u64 fun x31 AH => R (.returned (.tuple #[.int .u64 x31,.bool zT])) AH)))))))) : Spec prog 156 #[.agg #[.int .i64 Er,.int .i64 EM,.string Pj,.slice UE TT UF,.int .i64 Ph,.int .i64 M7,.int .i64 Hj,.slice RB QI RC,.bool MU,.int .i64 JB],.int .u64 x1,.int .u64 x2] σ R := M.start h ok
end PE
namespace Gt
variable {s0 : ByteArray} {x1 : Int}
def M : Fw := ⟨prog,173,f173,[214,215],[],false,[],[],[]⟩
theorem ok : M.Ok := ⟨.cons call214 (.cons call215 (AG.nil)),mixed,func173,by kernel_rfl⟩
theorem start (h : Spec prog 214 #[.string s0,.int .i64 x1] σ (AA R (fun z y => ∃ fX fY,z = (.tuple #[fX,fY]) ∧ ∃ t15,YF prog ((do eqGuard .neq 214 (.tmp 14) (.const .nilIface) fY .nilIface; binOp .neq 214 fY .nilIface)) y (.bool t15) ∧ Bo t15 (Spec prog 215 #[(.string (ByteArray.mk #[80,97,114,115,101,70,108,111,97,116])),.string s0,.int .i64 0,.int .i64 x1,fY] y (AA R (fun z AF => ∃ v20,v20 = z ∧ R (.returned (.tuple #[fX,v20])) AF))) (R (.returned (.tuple #[fX,.nilIface])) y)))) : Spec prog 173 #[.string s0,.int .i64 x1] σ R := M.start h ok
end Gt
namespace df
variable {v0 : Value}
def M : Fw := ⟨prog,174,f174,[216],[],false,[],[],[]⟩
theorem ok : M.Ok := ⟨.cons call216 (AG.nil),mixed,func174,by kernel_rfl⟩
theorem start (h : Spec prog 216 #[v0] σ (AA R (CB fun t4 y => Bo t4 (R (.returned (.int .u64 9221120237041090560)) y) (EN prog 45 #[v0] y (CI .u64 fun x6 AF => R (.returned (.int .u64 x6)) AF))))) : Spec prog 174 #[v0] σ R := M.Du h ok [(0,.o (.V v0))] rfl rfl (by kernel_rfl)
end df
namespace Au
variable {p0 : Option Addr} {n0 c0 : Nat} {x1 x8 x9 x10 : Int} {v2 : Value}
def M : Fw := ⟨prog,175,f175,[],[],false,[],[],[(480,[(0,wL),(1,wI),(2,wV),(8,wI),(9,wI),(10,wI)])]⟩
theorem ok : M.Ok := ⟨AG.nil,mixed,func175,by kernel_rfl⟩
def BF := M.pt 0
theorem start (h : BF R p0 n0 c0 x1 v2 (n0 : Int) 0 (n0 : Int) σ) : Spec prog 175 #[.slice p0 n0 c0,.int .i64 x1,v2] σ R := M.Du h ok [(0,.o (.L p0 n0 c0)),(1,.o (.I .i64 x1)),(2,.o (.V v2))] rfl rfl (by kernel_rfl)
theorem Ay (h : Br (x9 < x10) (AM (x9 + x10) ∧ Df (IntKind.u64.wrap (x9 + x10)) fun Lu => ((0 : Int) ≤ 1 ∧ 1 ≤ ((IntKind.bits .u64 : Nat) : Int)) ∧ Df (Lu / 2 ^ Int.toNat 1) fun JK => Df (IntKind.i64.wrap JK) fun Dz => Pq p0 fun XH rD => In Dz (n0 : Int) ∧ ∃ Xg RH,As σ XH (rD + Int.toNat Dz * 2) [.int .i64 Xg,.int .u64 RH] ∧ ∃ (f30 : Nat) (vg vh : Array Value),v2 = .func (.func f30) vg vh ∧ Enters prog f30 ∧ Spec prog f30 (vg ++ #[.agg #[.int .i64 Xg,.int .u64 RH],.int .i64 x1] ++ vh) σ (AA R (CI .i64 fun UK y => Br (UK < 0) (AM (Dz + 1) ∧ BF R (aD XH rD) n0 c0 x1 v2 x8 (Dz + 1) x10 y) (BF R (aD XH rD) n0 c0 x1 v2 x8 x9 Dz y)))) (Br (x9 < x8) (Pq p0 fun dM o43 => In x9 (n0 : Int) ∧ ∃ Ps Pu,As σ dM (o43 + Int.toNat x9 * 2) [.int .i64 Ps,.int .u64 Pu] ∧ ∃ (f46 : Nat) (vi vj : Array Value),v2 = .func (.func f46) vi vj ∧ Enters prog f46 ∧ Spec prog f46 (vi ++ #[.agg #[.int .i64 Ps,.int .u64 Pu],.int .i64 x1] ++ vj) σ (AA R (CI .i64 fun x46 y => R (.returned (.tuple #[.int .i64 x9,(.bool (decide (x46 = 0)))])) y))) (R (.returned (.tuple #[.int .i64 x9,.bool false])) σ))) : BF R p0 n0 c0 x1 v2 x8 x9 x10 σ := M.of h ok rfl
end Au
namespace Xy
variable {x0 x1 : Int}
def M : Fw := ⟨prog,190,f190,[203],[],false,[],[],[]⟩
theorem ok : M.Ok := ⟨.cons call203 (AG.nil),mixed,func190,by kernel_rfl⟩
theorem start (h : Spec prog 203 #[.int .i64 2,.int .u64 x0,.int .u64 x1] σ (AA R (fun z y => ∃ IZ Q8,z = (.tuple #[.int .u64 IZ,.bool Q8]) ∧ R (.returned (.int .u64 IZ)) y))) : Spec prog 190 #[.int .u64 x0,.int .u64 x1] σ R := M.start h ok
end Xy
namespace D0
variable {p0 : Option Addr} {n0 c0 : Nat} {x3 x4 : Int}
def M : Fw := ⟨prog,192,f192,[190,201,204],[],false,[],[],[(464,[(0,wL),(3,wU),(4,wI)]),(467,[(0,wL),(3,wU),(4,wI)])]⟩
theorem ok : M.Ok := ⟨.cons call190 (.cons call201 (.cons call204 (AG.nil))),mixed,func192,by kernel_rfl⟩
def BF := M.pt 0
def XJ := M.pt 1
theorem start (h : AM ((n0 : Int) - 1) ∧ Pq p0 fun A8 jB => In (((n0 : Int) - 1)) (n0 : Int) ∧ LI .u64 σ A8 (jB + Int.toNat ((n0 : Int) - 1) * 1) fun x12 => In 0 (n0 : Int) ∧ LI .u64 σ A8 jB fun x15 => Spec prog 190 #[.int .u64 x12,.int .u64 x15] σ (AA R (CI .u64 fun x16 y => BF R (aD A8 jB) n0 c0 x16 1 y))) : Spec prog 192 #[.slice p0 n0 c0] σ R := M.start h ok
theorem Ay (h : Br (x4 < (n0 : Int)) (Pq p0 fun l0 qA => In x4 (n0 : Int) ∧ LI .u64 σ l0 (qA + Int.toNat x4 * 1) fun JH => AM (x4 - 1) ∧ In (x4 - 1) (n0 : Int) ∧ LI .u64 σ l0 (qA + Int.toNat (x4 - 1) * 1) fun lF => Spec prog 204 #[.int .i64 7,.int .u64 JH,.int .u64 lF] σ (AA R (fun z y => ∃ AEi lG,z = (.tuple #[.bool AEi,.bool lG]) ∧ Bo AEi (AM (x4 - 1) ∧ In (x4 - 1) (n0 : Int) ∧ LI .u64 y l0 (qA + Int.toNat (x4 - 1) * 1) fun XL => Spec prog 201 #[.int .u64 x3,.int .u64 XL] y (AA R (CI .u64 fun dP AF => XJ R (aD l0 qA) n0 c0 dP x4 AF))) (XJ R (aD l0 qA) n0 c0 x3 x4 y)))) (R (.returned (.int .u64 x3)) σ)) : BF R p0 n0 c0 x3 x4 σ := M.of h ok rfl
theorem QH (h : AM (x4 + 1) ∧ BF R p0 n0 c0 x3 (x4 + 1) σ) : XJ R p0 n0 c0 x3 x4 σ := M.of h ok rfl
end D0
namespace JL
variable {u5 ZU : ByteArray} {b1 : Nat}
def M : Fw := ⟨prog,200,f200,[199],[2],false,[],[],[]⟩
theorem ok : M.Ok := ⟨.cons call199 (AG.nil),mixed,func200,by kernel_rfl⟩
theorem start (h : ∀ b2 : Nat,LS σ b1 0 fun p4 n4 c4 => Spec prog 199 #[.slice p4 n4 c4,.string u5] σ (AA R (CB fun t7 y => R (.returned (.bool (!t7))) y))) : Spec prog 200 #[.agg #[.string u5,.string ZU],(.pointer (aD b1 0))] σ R := M.start h ok
end JL
namespace FZ
variable {s0 : ByteArray} {x3 : Int}
def M : Fw := ⟨prog,213,f213,[],[],false,[],[],[(224,[(0,wT),(3,wI)])]⟩
theorem ok : M.Ok := ⟨AG.nil,mixed,func213,by kernel_rfl⟩
def JD := M.pt 0
theorem start (h : JD R s0 0 σ) : Spec prog 213 #[.string s0] σ R := M.start h ok
theorem BR (h : Br (x3 < ((ByteArray.size s0 : Nat) : Int)) (∃ u11 : UInt8,0 ≤ x3 ∧ (ByteArray.data s0)[Int.toNat x3]? = some u11 ∧ Br ((48 : Int) ≤ ((UInt8.toNat u11 : Nat) : Int)) (∃ u17 : UInt8,0 ≤ x3 ∧ (ByteArray.data s0)[Int.toNat x3]? = some u17 ∧ Br ((((UInt8.toNat u17 : Nat) : Int) : Int) ≤ 57) (AM (x3 + 1) ∧ JD R s0 (x3 + 1) σ) (R (.returned (.int .i64 x3)) σ)) (R (.returned (.int .i64 x3)) σ)) (R (.returned (.int .i64 x3)) σ)) : JD R s0 x3 σ := M.of h ok rfl
end FZ
namespace Dp
variable {TU : Option Addr} {Ls RG : Nat} {ZU s1 : ByteArray}
def M : Fw := ⟨prog,220,f220,[236],[2],false,[],[],[]⟩
theorem ok : M.Ok := ⟨.cons call236 (AG.nil),mixed,func220,by kernel_rfl⟩
theorem start (h : ∀ b2 : Nat,Spec prog 236 #[.agg #[.slice TU Ls RG],.string s1] σ (AA R (CB fun t8 y => R (.returned (.bool (!t8))) y))) : Spec prog 220 #[.agg #[.slice TU Ls RG,.string ZU],.string s1] σ R := M.start h ok
end Dp
namespace H7
variable {p0 p5 : Option Addr} {n0 c0 n5 c5 : Nat} {x1 x7 : Int} {v6 : Value}
def M : Fw := ⟨prog,241,f241,[182,263],[],false,[],[],[(444,[(0,wL),(1,wI),(5,wL),(6,wV),(7,wI)])]⟩
theorem ok : M.Ok := ⟨.cons call182 (.cons call263 (AG.nil)),mixed,func241,by kernel_rfl⟩
def r7 := M.pt 0
theorem start (h : Spec prog 263 #[] σ (AA R (CS fun ZT n10 TV y => r7 R p0 n0 c0 x1 ZT n10 TV (.complex .f64 0 0) 0 y))) : Spec prog 241 #[.slice p0 n0 c0,.int .i64 x1] σ R := M.start h ok
theorem dg (h : Br (x7 = (n0 : Int)) (R (.returned v6) σ) (Pq p0 fun UH af => In x7 (n0 : Int) ∧ LI .u64 σ UH (af + Int.toNat x7 * 1) fun Cn => AM (x1 * x7) ∧ (n0 : Int) ≠ (0 : Int) ∧ Df (Int.tmod (x1 * x7) (n0 : Int)) fun JH => (n0 : Int) ≠ (0 : Int) ∧ Df (IntKind.i64.wrap (Int.tdiv 8 (n0 : Int))) fun UK => AM (JH * UK) ∧ Pq p5 fun b32 o32 => In (JH * UK) (n5 : Int) ∧ ∃ x33 y33,Hp.ld σ ⟨b32,(o32 + Int.toNat (JH * UK) * 1),none⟩ = some (Value.complex .f64 x33 y33) ∧ Spec prog 182 #[.int .u64 Cn] σ (AA R (fun z y => ∃ Hc,(Value.float .f64 Hc) = z ∧ Kp [b32] σ y ∧ ∃ WO,YF prog (Builtin.real_ #[272] 51 #[v6]) y (Value.float .f64 WO) ∧ ∃ vC,YF prog (Builtin.real_ #[272] 51 #[(Value.complex .f64 x33 y33)]) y (Value.float .f64 vC) ∧ AJ prog (binOp .mul 51 (Value.float .f64 Hc) (Value.float .f64 vC)) y (fun z AF => ∃ x39,(Value.float .f64 x39) = z ∧ AJ prog (binOp .add 51 (Value.float .f64 WO) (Value.float .f64 x39)) AF (fun z AH => ∃ fi,(Value.float .f64 fi) = z ∧ ∃ XL,YF prog (Builtin.imag_ #[272] 51 #[v6]) AH (Value.float .f64 XL) ∧ ∃ x45,YF prog (Builtin.imag_ #[272] 51 #[(Value.complex .f64 x33 y33)]) AH (Value.float .f64 x45) ∧ AJ prog (binOp .mul 51 (Value.float .f64 Hc) (Value.float .f64 x45)) AH (fun z AZ => ∃ x46,(Value.float .f64 x46) = z ∧ AJ prog (binOp .add 51 (Value.float .f64 XL) (Value.float .f64 x46)) AZ (fun z CE => ∃ kZ,(Value.float .f64 kZ) = z ∧ ∃ Vd y48,YF prog (Builtin.complex_ #[51,51] 272 #[(Value.float .f64 fi),(Value.float .f64 kZ)]) CE (Value.complex .f64 Vd y48) ∧ AM (x7 + 1) ∧ r7 R (aD UH af) n0 c0 x1 (aD b32 o32) n5 c5 (Value.complex .f64 Vd y48) (x7 + 1) CE)))))))) : r7 R p0 n0 c0 x1 p5 n5 c5 v6 x7 σ := M.of h ok rfl
end H7
namespace H8
variable {q0 : Option Addr}
def M : Fw := ⟨prog,250,f250,[66,133,135,136,137,138,267,268,269,270],[2],false,[],[],[]⟩
theorem ok : M.Ok := ⟨.cons call66 (.cons call133 (.cons call135 (.cons call136 (.cons call137 (.cons call138 (.cons call267 (.cons call268 (.cons call269 (.cons call270 (AG.nil)))))))))),mixed,func250,by kernel_rfl⟩
theorem start (h : Spec prog 66 #[.pointer q0] σ (AA R (fun z y => ∃ FV Ga FW Gb,z = (.agg #[.int .i64 FV,.int .i64 Ga,.string FW,.int .i64 Gb]) ∧ ∀ b2 : Nat,Spec prog 267 #[] y (AA R (CS fun p8 n8 c8 AF => Spec prog 133 #[.slice p8 n8 c8,.string FW] AF (AA R (CI .i64 fun x11 AH => Spec prog 268 #[] AH (AA R (CS fun aq n12 ZX AZ => Spec prog 133 #[.slice aq n12 ZX,.string FW] AZ (AA R (CI .i64 fun x15 CE => Br (FV = 1) (Spec prog 135 #[.pointer q0] CE (AA R (fun z Fv => ∃ rj fa y8 zA,z = (.agg #[.int .i64 rj,.int .i64 fa,.string y8,.int .i64 zA]) ∧ Spec prog 138 #[.pointer q0,.agg #[.int .i64 1,.int .i64 0,.string FW,.slice none 0 0,.int .i64 0,.int .i64 0,.int .i64 0,.slice none 0 0,.bool false,.int .i64 0]] Fv (AA R (fun z Gn => z = (.tuple #[]) ∧ R (.returned (.tuple #[])) Gn))))) (Spec prog 136 #[.pointer q0,.int .i64 5,(.string (ByteArray.mk #[40]))] CE (AA R (CB fun t31 Fv => Bo t31 (Spec prog 269 #[.pointer q0] Fv (AA R (fun z Gn => z = (.tuple #[]) ∧ R (.returned (.tuple #[])) Gn))) (Br (FV = 3) (Br (0 < x11) (Spec prog 135 #[.pointer q0] Fv (AA R (fun z Gn => ∃ OQ Lh OR ALK,z = (.agg #[.int .i64 OQ,.int .i64 Lh,.string OR,.int .i64 ALK]) ∧ Spec prog 269 #[.pointer q0] Gn (AA R (fun z Ms => z = (.tuple #[]) ∧ Spec prog 138 #[.pointer q0,(.agg #[.int .i64 4,.int .i64 x11,(.string (ByteArray.mk #[])),.slice none 0 0,.int .i64 0,.int .i64 0,.int .i64 0,.slice none 0 0,.bool false,.int .i64 1])] Ms (AA R (fun z VN => z = (.tuple #[]) ∧ R (.returned (.tuple #[])) VN))))))) (Br (FV = 3) (Br (0 < x15) (Spec prog 135 #[.pointer q0] Fv (AA R (fun z Gn => ∃ VO Hd zU zV,z = (.agg #[.int .i64 VO,.int .i64 Hd,.string zU,.int .i64 zV]) ∧ Al Gn fun b5 => AJ prog (Instr.storeAt 36 (.pointer (aD b5 0)) (.agg #[.int .i64 5,.int .i64 x15,(.string (ByteArray.mk #[])),.slice none 0 0,.int .i64 0,.int .i64 0,.int .i64 0,.slice none 0 0,.bool false,.int .i64 1])) (Hp.set Gn b5 (.cells #[.int .i64 0,.int .i64 0,(.string (ByteArray.mk #[])),.slice none 0 0,.int .i64 0,.int .i64 0,.int .i64 0,.slice none 0 0,.bool false,.int .i64 0] 36 (0,0))) (fun _ Ms => Spec prog 137 #[.pointer q0,(.pointer (aD b5 0)),(.agg #[(.string (ByteArray.mk #[98,121])),(.string (ByteArray.mk #[119,105,116,104,111,117,116]))]),.agg #[.int .i64 1,.int .i64 2]] Ms (AA R (fun z VN => z = (.tuple #[]) ∧ Spec prog 269 #[.pointer q0] VN (AA R (fun z Lf => z = (.tuple #[]) ∧ ∃ Xz X0 X3 X4 X5 X6 X7 X8 X9 YA YB YC YD YE,As Lf b5 0 [.int .i64 Xz,.int .i64 X0,.string X3,.slice X4 X5 X6,.int .i64 X7,.int .i64 X8,.int .i64 X9,.slice YA YB YC,.bool YD,.int .i64 YE] ∧ Spec prog 138 #[.pointer q0,.agg #[.int .i64 Xz,.int .i64 X0,.string X3,.slice X4 X5 X6,.int .i64 X7,.int .i64 X8,.int .i64 X9,.slice YA YB YC,.bool YD,.int .i64 YE]] Lf (AA R (fun z kR => z = (.tuple #[]) ∧ R (.returned (.tuple #[])) kR)))))))))) (Spec prog 270 #[.pointer q0] Fv (AA R (fun z Gn => z = (.tuple #[]) ∧ R (.returned (.tuple #[])) Gn)))) (Spec prog 270 #[.pointer q0] Fv (AA R (fun z Gn => z = (.tuple #[]) ∧ R (.returned (.tuple #[])) Gn))))) (Br (FV = 3) (Br (0 < x15) (Spec prog 135 #[.pointer q0] Fv (AA R (fun z Gn => ∃ VO Hd zU zV,z = (.agg #[.int .i64 VO,.int .i64 Hd,.string zU,.int .i64 zV]) ∧ Al Gn fun b5 => AJ prog (Instr.storeAt 36 (.pointer (aD b5 0)) (.agg #[.int .i64 5,.int .i64 x15,(.string (ByteArray.mk #[])),.slice none 0 0,.int .i64 0,.int .i64 0,.int .i64 0,.slice none 0 0,.bool false,.int .i64 1])) (Hp.set Gn b5 (.cells #[.int .i64 0,.int .i64 0,(.string (ByteArray.mk #[])),.slice none 0 0,.int .i64 0,.int .i64 0,.int .i64 0,.slice none 0 0,.bool false,.int .i64 0] 36 (0,0))) (fun _ Ms => Spec prog 137 #[.pointer q0,(.pointer (aD b5 0)),(.agg #[(.string (ByteArray.mk #[98,121])),(.string (ByteArray.mk #[119,105,116,104,111,117,116]))]),.agg #[.int .i64 1,.int .i64 2]] Ms (AA R (fun z VN => z = (.tuple #[]) ∧ Spec prog 269 #[.pointer q0] VN (AA R (fun z Lf => z = (.tuple #[]) ∧ ∃ Xz X0 X3 X4 X5 X6 X7 X8 X9 YA YB YC YD YE,As Lf b5 0 [.int .i64 Xz,.int .i64 X0,.string X3,.slice X4 X5 X6,.int .i64 X7,.int .i64 X8,.int .i64 X9,.slice YA YB YC,.bool YD,.int .i64 YE] ∧ Spec prog 138 #[.pointer q0,.agg #[.int .i64 Xz,.int .i64 X0,.string X3,.slice X4 X5 X6,.int .i64 X7,.int .i64 X8,.int .i64 X9,.slice YA YB YC,.bool YD,.int .i64 YE]] Lf (AA R (fun z kR => z = (.tuple #[]) ∧ R (.returned (.tuple #[])) kR)))))))))) (Spec prog 270 #[.pointer q0] Fv (AA R (fun z Gn => z = (.tuple #[]) ∧ R (.returned (.tuple #[])) Gn)))) (Spec prog 270 #[.pointer q0] Fv (AA R (fun z Gn => z = (.tuple #[]) ∧ R (.returned (.tuple #[])) Gn))))))))))))))))))) : Spec prog 250 #[.pointer q0] σ R := M.start h ok
end H8
namespace strings_Index
variable {s0 s1 : ByteArray}
end strings_Index
namespace SF
def M : Fw := ⟨prog,268,f268,[],[],false,[],[],[]⟩
theorem ok : M.Ok := ⟨AG.nil,mixed,func268,by kernel_rfl⟩
theorem start (h : Al σ fun b1 => R (.returned (.slice (aD b1 0) 6 6)) (Hp.set σ b1 (.cells #[(.string (ByteArray.mk #[])),(.string (ByteArray.mk #[115,117,109])),(.string (ByteArray.mk #[109,105,110])),(.string (ByteArray.mk #[109,97,120])),(.string (ByteArray.mk #[97,118,103])),(.string (ByteArray.mk #[99,111,117,110,116]))] 9 (0,0)))) : Spec prog 268 #[] σ R := M.start h ok
end SF
namespace AE
variable {s0 : ByteArray} {x2 x3 x7 x10 x11 x12 x15 x16 x17 Cn Hc : Int} {t4 t5 t6 t8 t9 t13 t14 : Bool}
def M : Fw := ⟨prog,272,f272,[302,303],[],false,[],[],[(110,[(0,wT),(2,wU),(3,wI),(4,wB),(5,wB),(6,wB),(7,wI),(8,wB),(9,wB)]),(1790,[(0,wT),(2,wU),(3,wI),(4,wB),(5,wB),(6,wB),(7,wI),(8,wB),(9,wB),(10,wU),(11,wI),(12,w8)]),(1834976,[(0,wT),(2,wU),(3,wI),(4,wB),(5,wB),(6,wB),(7,wI),(8,wB),(9,wB),(10,wU),(11,wI),(12,w8),(13,wB),(14,wB),(15,wI),(16,wI),(17,wI)]),(458748,[(0,wT),(2,wU),(3,wI),(4,wB),(5,wB),(6,wB),(7,wI),(8,wB),(9,wB),(10,wU),(12,w8),(13,wB),(14,wB),(15,wI),(16,wI),(17,wI)]),(1835004,[(0,wT),(2,wU),(3,wI),(4,wB),(5,wB),(6,wB),(7,wI),(8,wB),(9,wB),(10,wU),(12,w8),(16,wI),(17,wI)]),(3670012,[(0,wT),(2,wU),(3,wI),(4,wB),(5,wB),(6,wB),(7,wI),(8,wB),(9,wB),(10,wU),(12,w8),(16,wI),(17,wI)]),(7340028,[(0,wT),(2,wU),(3,wI),(4,wB),(5,wB),(6,wB),(7,wI),(8,wB),(9,wB),(16,wI),(17,wI)]),(14680060,[(0,wT),(2,wU),(3,wI),(4,wB),(5,wB),(6,wB),(7,wI),(8,wB),(9,wB)]),(469761724,[(0,wT),(2,wU),(3,wI),(4,wB),(5,wB),(6,wB),(7,wI),(8,wB),(9,wB),(16,wI),(17,wI),(19,wI)]),(15032375264,[(0,wT),(2,wU),(3,wI),(4,wB),(5,wB),(6,wB),(7,wI),(8,wB),(9,wB),(16,wI),(17,wI),(19,wI),(20,wI)]),(15032375267,[(0,wT),(2,wU),(3,wI),(4,wB),(5,wB),(6,wB),(7,wI),(8,wB),(9,wB),(16,wI),(17,wI),(19,wI),(20,wI)]),(1834979,[(0,wT),(2,wU),(3,wI),(4,wB),(5,wB),(6,wB),(7,wI),(8,wB),(9,wB),(10,wU),(11,wI),(12,w8),(13,wB),(14,wB),(15,wI),(16,wI),(17,wI)])]⟩
theorem ok : M.Ok := ⟨.cons call302 (.cons call303 (AG.nil)),mixed,func272,by kernel_rfl⟩
def TW := M.pt 0
def Li := M.pt 1
def l4 := M.pt 2
def NO := M.pt 3
def dh := M.pt 4
def l5 := M.pt 5
def l6 := M.pt 6
def l7 := M.pt 7
def l8 := M.pt 8
def Fa := M.pt 11
theorem start (h : Br ((((ByteArray.size s0 : Nat) : Int) : Int) ≤ 0) (R (.returned (.tuple #[.int .u64 0,.int .i64 0,.bool false,.bool false,.bool false,.int .i64 0,.bool false])) σ) (∃ u27 : UInt8,(0 : Int) ≤ 0 ∧ (ByteArray.data s0)[Int.toNat 0]? = some u27 ∧ Br ((((UInt8.toNat u27 : Nat) : Int) : Int) = 43) (AM (0 + 1) ∧ TW R s0 0 0 false false false (0 + 1) false false σ) (Br ((((UInt8.toNat u27 : Nat) : Int) : Int) = 45) (AM (0 + 1) ∧ TW R s0 0 0 true false false (0 + 1) false false σ) (TW R s0 0 0 false false false 0 false false σ)))) : Spec prog 272 #[.string s0] σ R := M.start h ok
theorem QM (h : AM (x7 + 2) ∧ Br (((x7 + 2) : Int) < ((ByteArray.size s0 : Nat) : Int)) (∃ u44 : UInt8,0 ≤ x7 ∧ (ByteArray.data s0)[Int.toNat x7]? = some u44 ∧ Br ((((UInt8.toNat u44 : Nat) : Int) : Int) = 48) (AM (x7 + 1) ∧ ∃ u51 : UInt8,(0 : Int) ≤ (x7 + 1) ∧ (ByteArray.data s0)[Int.toNat (x7 + 1)]? = some u51 ∧ Spec prog 302 #[(.int .u8 ((UInt8.toNat u51 : Nat) : Int))] σ (AA R (CI .u8 fun rZ y => Br (rZ = 120) (AM (x7 + 2) ∧ Li R s0 x2 x3 t4 t5 true (x7 + 2) t8 t9 16 16 112 y) (Li R s0 x2 x3 t4 t5 t6 x7 t8 t9 10 19 101 y)))) (Li R s0 x2 x3 t4 t5 t6 x7 t8 t9 10 19 101 σ)) (Li R s0 x2 x3 t4 t5 t6 x7 t8 t9 10 19 101 σ)) : TW R s0 x2 x3 t4 t5 t6 x7 t8 t9 σ := M.of h ok rfl
theorem Iu (h : l4 R s0 x2 x3 t4 t5 t6 x7 t8 t9 x10 x11 x12 false false 0 0 0 σ) : Li R s0 x2 x3 t4 t5 t6 x7 t8 t9 x10 x11 x12 σ := M.of h ok rfl
theorem di (h : Br (x7 < ((ByteArray.size s0 : Nat) : Int)) (∃ ZY : UInt8,0 ≤ x7 ∧ (ByteArray.data s0)[Int.toNat x7]? = some ZY ∧ Br ((((UInt8.toNat ZY : Nat) : Int) : Int) = 95) (Fa R s0 x2 x3 t4 t5 t6 x7 t8 true x10 x11 x12 t13 t14 x15 x16 x17 σ) (Br ((((UInt8.toNat ZY : Nat) : Int) : Int) = 46) (Bo t13 (NO R s0 x2 x3 t4 t5 t6 x7 t8 t9 x10 x12 true t14 x15 x16 x17 σ) (Fa R s0 x2 x3 t4 t5 t6 x7 t8 t9 x10 x11 x12 true t14 x15 x16 x15 σ)) (Br ((48 : Int) ≤ ((UInt8.toNat ZY : Nat) : Int)) (Br ((((UInt8.toNat ZY : Nat) : Int) : Int) ≤ 57) (Br ((((UInt8.toNat ZY : Nat) : Int) : Int) = 48) (Br (x15 = 0) (AM (x17 - 1) ∧ Fa R s0 x2 x3 t4 t5 t6 x7 t8 t9 x10 x11 x12 t13 true x15 x16 (x17 - 1) σ) (AM (x15 + 1) ∧ Br (x16 < x11) (Df (IntKind.u64.wrap (x2 * x10)) fun x99 => Df (IntKind.u8.wrap (((UInt8.toNat ZY : Nat) : Int) - 48)) fun gA => Df (IntKind.u64.wrap gA) fun gB => Df (IntKind.u64.wrap (x99 + gB)) fun az => AM (x16 + 1) ∧ Fa R s0 az x3 t4 t5 t6 x7 t8 t9 x10 x11 x12 t13 true (x15 + 1) (x16 + 1) x17 σ) (Br ((((UInt8.toNat ZY : Nat) : Int) : Int) ≠ 48) (Fa R s0 x2 x3 t4 true t6 x7 t8 t9 x10 x11 x12 t13 true (x15 + 1) x16 x17 σ) (Fa R s0 x2 x3 t4 t5 t6 x7 t8 t9 x10 x11 x12 t13 true (x15 + 1) x16 x17 σ)))) (AM (x15 + 1) ∧ Br (x16 < x11) (Df (IntKind.u64.wrap (x2 * x10)) fun x99 => Df (IntKind.u8.wrap (((UInt8.toNat ZY : Nat) : Int) - 48)) fun gA => Df (IntKind.u64.wrap gA) fun gB => Df (IntKind.u64.wrap (x99 + gB)) fun az => AM (x16 + 1) ∧ Fa R s0 az x3 t4 t5 t6 x7 t8 t9 x10 x11 x12 t13 true (x15 + 1) (x16 + 1) x17 σ) (Br ((((UInt8.toNat ZY : Nat) : Int) : Int) ≠ 48) (Fa R s0 x2 x3 t4 true t6 x7 t8 t9 x10 x11 x12 t13 true (x15 + 1) x16 x17 σ) (Fa R s0 x2 x3 t4 t5 t6 x7 t8 t9 x10 x11 x12 t13 true (x15 + 1) x16 x17 σ)))) (Br (x10 = 16) (Spec prog 302 #[(.int .u8 ((UInt8.toNat ZY : Nat) : Int))] σ (AA R (CI .u8 fun zW y => Br (97 ≤ zW) (Spec prog 302 #[(.int .u8 ((UInt8.toNat ZY : Nat) : Int))] y (AA R (CI .u8 fun zX AF => Br (zX ≤ 102) (AM (x15 + 1) ∧ Br (x16 < x11) (Df (IntKind.u64.wrap (x2 * 16)) fun zY => Spec prog 302 #[(.int .u8 ((UInt8.toNat ZY : Nat) : Int))] AF (AA R (CI .u8 fun zZ AH => Df (IntKind.u8.wrap (zZ - 97)) fun za => Df (IntKind.u8.wrap (za + 10)) fun zb => Df (IntKind.u64.wrap zb) fun zc => Df (IntKind.u64.wrap (zY + zc)) fun zd => AM (x16 + 1) ∧ Fa R s0 zd x3 t4 t5 t6 x7 t8 t9 x10 x11 x12 t13 true (x15 + 1) (x16 + 1) x17 AH))) (Fa R s0 x2 x3 t4 true t6 x7 t8 t9 x10 x11 x12 t13 true (x15 + 1) x16 x17 AF)) (NO R s0 x2 x3 t4 t5 t6 x7 t8 t9 x10 x12 t13 t14 x15 x16 x17 AF)))) (NO R s0 x2 x3 t4 t5 t6 x7 t8 t9 x10 x12 t13 t14 x15 x16 x17 y)))) (NO R s0 x2 x3 t4 t5 t6 x7 t8 t9 x10 x12 t13 t14 x15 x16 x17 σ))) (Br (x10 = 16) (Spec prog 302 #[(.int .u8 ((UInt8.toNat ZY : Nat) : Int))] σ (AA R (CI .u8 fun zW y => Br (97 ≤ zW) (Spec prog 302 #[(.int .u8 ((UInt8.toNat ZY : Nat) : Int))] y (AA R (CI .u8 fun zX AF => Br (zX ≤ 102) (AM (x15 + 1) ∧ Br (x16 < x11) (Df (IntKind.u64.wrap (x2 * 16)) fun zY => Spec prog 302 #[(.int .u8 ((UInt8.toNat ZY : Nat) : Int))] AF (AA R (CI .u8 fun zZ AH => Df (IntKind.u8.wrap (zZ - 97)) fun za => Df (IntKind.u8.wrap (za + 10)) fun zb => Df (IntKind.u64.wrap zb) fun zc => Df (IntKind.u64.wrap (zY + zc)) fun zd => AM (x16 + 1) ∧ Fa R s0 zd x3 t4 t5 t6 x7 t8 t9 x10 x11 x12 t13 true (x15 + 1) (x16 + 1) x17 AH))) (Fa R s0 x2 x3 t4 true t6 x7 t8 t9 x10 x11 x12 t13 true (x15 + 1) x16 x17 AF)) (NO R s0 x2 x3 t4 t5 t6 x7 t8 t9 x10 x12 t13 t14 x15 x16 x17 AF)))) (NO R s0 x2 x3 t4 t5 t6 x7 t8 t9 x10 x12 t13 t14 x15 x16 x17 y)))) (NO R s0 x2 x3 t4 t5 t6 x7 t8 t9 x10 x12 t13 t14 x15 x16 x17 σ))))) (NO R s0 x2 x3 t4 t5 t6 x7 t8 t9 x10 x12 t13 t14 x15 x16 x17 σ)) : l4 R s0 x2 x3 t4 t5 t6 x7 t8 t9 x10 x11 x12 t13 t14 x15 x16 x17 σ := M.of h ok rfl
theorem mA (h : Bn t14 (R (.returned (.tuple #[.int .u64 x2,.int .i64 x3,.bool t4,.bool t5,.bool t6,.int .i64 x7,.bool t8])) σ) (Bn t13 (dh R s0 x2 x3 t4 t5 t6 x7 t8 t9 x10 x12 x16 x15 σ) (dh R s0 x2 x3 t4 t5 t6 x7 t8 t9 x10 x12 x16 x17 σ))) : NO R s0 x2 x3 t4 t5 t6 x7 t8 t9 x10 x12 t13 t14 x15 x16 x17 σ := M.of h ok rfl
theorem mB (h : Br (x10 = 16) (AM (x17 * 4) ∧ AM (x16 * 4) ∧ l5 R s0 x2 x3 t4 t5 t6 x7 t8 t9 x10 x12 (x16 * 4) (x17 * 4) σ) (l5 R s0 x2 x3 t4 t5 t6 x7 t8 t9 x10 x12 x16 x17 σ)) : dh R s0 x2 x3 t4 t5 t6 x7 t8 t9 x10 x12 x16 x17 σ := M.of h ok rfl
theorem mC (h : Br (x7 < ((ByteArray.size s0 : Nat) : Int)) (∃ AEk : UInt8,0 ≤ x7 ∧ (ByteArray.data s0)[Int.toNat x7]? = some AEk ∧ Spec prog 302 #[(.int .u8 ((UInt8.toNat AEk : Nat) : Int))] σ (AA R (CI .u8 fun ALM y => Br (ALM = x12) (AM (x7 + 1) ∧ Br ((((ByteArray.size s0 : Nat) : Int) : Int) ≤ (x7 + 1)) (R (.returned (.tuple #[.int .u64 x2,.int .i64 x3,.bool t4,.bool t5,.bool t6,(.int .i64 (x7 + 1)),.bool t8])) y) (∃ ze : UInt8,(0 : Int) ≤ (x7 + 1) ∧ (ByteArray.data s0)[Int.toNat (x7 + 1)]? = some ze ∧ Br ((((UInt8.toNat ze : Nat) : Int) : Int) = 43) (AM ((x7 + 1) + 1) ∧ l8 R s0 x2 x3 t4 t5 t6 (((x7 + 1) + 1)) t8 t9 x16 x17 1 y) (Br ((((UInt8.toNat ze : Nat) : Int) : Int) = 45) (AM ((x7 + 1) + 1) ∧ l8 R s0 x2 x3 t4 t5 t6 (((x7 + 1) + 1)) t8 t9 x16 x17 (-1) y) (l8 R s0 x2 x3 t4 t5 t6 (x7 + 1) t8 t9 x16 x17 1 y)))) (Br (x10 = 16) (R (.returned (.tuple #[.int .u64 x2,.int .i64 x3,.bool t4,.bool t5,.bool t6,.int .i64 x7,.bool t8])) y) (l6 R s0 x2 x3 t4 t5 t6 x7 t8 t9 x16 x17 y))))) (Br (x10 = 16) (R (.returned (.tuple #[.int .u64 x2,.int .i64 x3,.bool t4,.bool t5,.bool t6,.int .i64 x7,.bool t8])) σ) (l6 R s0 x2 x3 t4 t5 t6 x7 t8 t9 x16 x17 σ))) : l5 R s0 x2 x3 t4 t5 t6 x7 t8 t9 x10 x12 x16 x17 σ := M.of h ok rfl
theorem mD (h : Br (x2 ≠ 0) (AM (x17 - x16) ∧ l7 R s0 x2 (x17 - x16) t4 t5 t6 x7 t8 t9 σ) (l7 R s0 x2 x3 t4 t5 t6 x7 t8 t9 σ)) : l6 R s0 x2 x3 t4 t5 t6 x7 t8 t9 x16 x17 σ := M.of h ok rfl
theorem YG (h : Bo t9 (∃ AEl,YF prog (Instr.sliceAt 9 (.string s0) none (some (.int .i64 x7)) none) σ (.string AEl) ∧ Spec prog 303 #[.string AEl] σ (AA R (CB fun t250 y => Bn t250 (R (.returned (.tuple #[.int .u64 x2,.int .i64 x3,.bool t4,.bool t5,.bool t6,.int .i64 x7,.bool t8])) y) (R (.returned (.tuple #[.int .u64 x2,.int .i64 x3,.bool t4,.bool t5,.bool t6,.int .i64 x7,.bool true])) y)))) (R (.returned (.tuple #[.int .u64 x2,.int .i64 x3,.bool t4,.bool t5,.bool t6,.int .i64 x7,.bool true])) σ)) : l7 R s0 x2 x3 t4 t5 t6 x7 t8 t9 σ := M.of h ok rfl
theorem mE (h : AM (x7 + 1) ∧ l4 R s0 x2 x3 t4 t5 t6 (x7 + 1) t8 t9 x10 x11 x12 t13 t14 x15 x16 x17 σ) : Fa R s0 x2 x3 t4 t5 t6 x7 t8 t9 x10 x11 x12 t13 t14 x15 x16 x17 σ := M.of h ok rfl
end AE
namespace Gu
variable {s0 : ByteArray} {t4 : Bool}
def M : Fw := ⟨prog,295,f295,[133,267,268],[],false,[],[],[(53,[(0,wT),(4,wB)])]⟩
theorem ok : M.Ok := ⟨.cons call133 (.cons call267 (.cons call268 (AG.nil))),mixed,func295,by kernel_rfl⟩
def Pv := M.pt 0
theorem start (h : Bo ((ByteArray.toList s0 == ByteArray.toList (ByteArray.mk #[111,114]))) (Pv R s0 true σ) (Bo ((ByteArray.toList s0 == ByteArray.toList (ByteArray.mk #[97,110,100]))) (Pv R s0 true σ) (Bo ((ByteArray.toList s0 == ByteArray.toList (ByteArray.mk #[117,110,108,101,115,115]))) (Pv R s0 true σ) (Bo ((ByteArray.toList s0 == ByteArray.toList (ByteArray.mk #[98,111,111,108]))) (Pv R s0 true σ) (Bo ((ByteArray.toList s0 == ByteArray.toList (ByteArray.mk #[111,110]))) (Pv R s0 true σ) (Bo ((ByteArray.toList s0 == ByteArray.toList (ByteArray.mk #[105,103,110,111,114,105,110,103]))) (Pv R s0 true σ) (Bo ((ByteArray.toList s0 == ByteArray.toList (ByteArray.mk #[98,121]))) (Pv R s0 true σ) (Bo ((ByteArray.toList s0 == ByteArray.toList (ByteArray.mk #[119,105,116,104,111,117,116]))) (Pv R s0 true σ) (Pv R s0 ((ByteArray.toList s0 == ByteArray.toList (ByteArray.mk #[111,102,102,115,101,116]))) σ))))))))) : Spec prog 295 #[.string s0] σ R := M.start h ok
theorem r8 (h : Bo t4 (R (.returned (.bool true)) σ) (Spec prog 267 #[] σ (AA R (CS fun JC n14 HL y => Spec prog 133 #[.slice JC n14 HL,.string s0] y (AA R (CI .i64 fun x16 AF => Br (0 < x16) (R (.returned (.bool true)) AF) (Spec prog 268 #[] AF (AA R (CS fun po n19 fg AH => Spec prog 133 #[.slice po n19 fg,.string s0] AH (AA R (CI .i64 fun Lu AZ => R (.returned (.bool (decide (0 < Lu)))) AZ))))))))))) : Pv R s0 t4 σ := M.of h ok rfl
end Gu
namespace H9
variable {q0 q1 : Option Addr} {rl x3a x3b x3d : Int} {s2b s2c s3c : ByteArray}
def M : Fw := ⟨prog,296,f296,[80,97],[6,7],false,[(1,10,false)],[],[]⟩
theorem ok : M.Ok := ⟨.cons call80 (.cons call97 (AG.nil)),mixed,func296,by kernel_rfl⟩
theorem start (h : ∀ b6 : Nat,∀ b7 : Nat,Pq q1 fun CW fz => LS σ CW (fz + 3) fun aq n12 ZX => Al σ fun BC => AJ prog (Builtin.append_ #[33,33] 33 #[.slice aq n12 ZX,(.slice (aD BC 0) 1 1)]) (Hp.set σ BC (.cells #[.int .i64 rl,.string s2b,.string s2c] 77 (0,0))) (CS fun dT n15 XO y => AJ prog (Instr.storeAt 33 (.pointer (aD CW (fz + 3))) (.slice dT n15 XO)) y (fun _ AF => LS AF CW (fz + 3) fun OT n21 MY => Spec prog 80 #[.slice OT n21 MY] AF (AA R (CI .i64 fun JK AH => Br (JK ≠ 0) (Spec prog 97 #[.pointer q0,.int .i64 183,.agg #[.int .i64 x3a,.int .i64 x3b,.string s3c,.int .i64 x3d]] AH (AA R (fun z AZ => z = (.tuple #[]) ∧ R (.returned (.tuple #[])) AZ))) (R (.returned (.tuple #[])) AH)))))) : Spec prog 296 #[.pointer q0,.pointer q1,.agg #[.int .i64 rl,.string s2b,.string s2c],.agg #[.int .i64 x3a,.int .i64 x3b,.string s3c,.int .i64 x3d]] σ R := M.start h ok
end H9
end TwW
end
end
section
set_option maxRecDepth 100000
noncomputable section
namespace TwW
open Go Tw Go.Proofs.Tryz
variable [Ej] {R : Rr} {σ : Hp}

namespace US
variable {x0 : Int}
def M : Fw := ⟨prog,29,f29,[],[],false,[],[],[]⟩
theorem ok : M.Ok := ⟨AG.nil,mixed,func29,by kernel_rfl⟩
theorem start (h : Br (((-1099511627776) : Int) ≤ x0) (R (.returned (.bool (decide (x0 ≤ 1099511627776)))) σ) (R (.returned (.bool false)) σ)) : Spec prog 29 #[.int .i64 x0] σ R := M.start h ok
end US
namespace CP
variable {p0 p1 : Option Addr} {n0 c0 n1 c1 : Nat} {x5 : Int}
def M : Fw := ⟨prog,36,f36,[],[],false,[(6,9,true)],[],[(464,[(0,wL),(1,wL),(5,wI)])]⟩
theorem ok : M.Ok := ⟨AG.nil,mixed,func36,by kernel_rfl⟩
def JQ := M.pt 0
theorem start (h : Br ((n0 : Int) ≠ (n1 : Int)) (R (.returned (.bool false)) σ) (JQ R p0 n0 c0 p1 n1 c1 0 σ)) : Spec prog 36 #[.slice p0 n0 c0,.slice p1 n1 c1] σ R := M.start h ok
theorem NK (h : Br (x5 < (n0 : Int)) (Pq p0 fun C4 kT => In x5 (n0 : Int) ∧ ∃ H4 VP,As σ C4 (kT + Int.toNat x5 * 2) [.int .i64 H4,.int .u64 VP] ∧ Pq p1 fun Pr lI => In x5 (n1 : Int) ∧ ∃ gC Vi,As σ Pr (lI + Int.toNat x5 * 2) [.int .i64 gC,.int .u64 Vi] ∧ ∃ t25,YF prog ((do eqGuard .neq 50 (.tmp 20) (.tmp 24) (.agg #[.int .i64 H4,.int .u64 VP]) (.agg #[.int .i64 gC,.int .u64 Vi]); binOp .neq 50 (.agg #[.int .i64 H4,.int .u64 VP]) (.agg #[.int .i64 gC,.int .u64 Vi]))) σ (.bool t25) ∧ Bo t25 (R (.returned (.bool false)) σ) (AM (x5 + 1) ∧ JQ R (aD C4 kT) n0 c0 (aD Pr lI) n1 c1 (x5 + 1) σ)) (R (.returned (.bool true)) σ)) : JQ R p0 n0 c0 p1 n1 c1 x5 σ := M.of h ok rfl
end CP
namespace B9
variable {v0 : Value} {b1 b2 b3 : Nat} {x5 : Int}
def M : Fw := ⟨prog,71,f71,[],[100000],false,[],[],[(48,[(0,wV),(2,wA),(3,wA),(5,wI)])]⟩
theorem ok : M.Ok := ⟨AG.nil,mixed,func71,by kernel_rfl⟩
def al := M.pt 0
theorem start (h : LI .i64 σ b1 0 fun x6 => al R v0 b2 b3 x6 σ) : Spec prog 71 #[v0,(.pointer (aD b1 0)),(.pointer (aD b2 0)),(.pointer (aD b3 0))] σ R := M.Du h ok [(0,.o (.V v0)),(1,.o (.A b1)),(2,.o (.A b2)),(3,.o (.A b3))] rfl rfl (by kernel_rfl)
theorem OS (h : ∃ l9 : Nat,v0 = .func (.yield l9) #[] #[] ∧ Ht prog l9 #[.int .i64 x5] σ (AA R (CB fun t9 y => Bo t9 (LI .i64 y b2 0 fun x11 => LI .i64 y b3 0 fun x12 => AM (x12 - x5) ∧ Br (x11 ≤ (x12 - x5)) (LI .i64 y b2 0 fun UM => AM (x5 + UM) ∧ al R v0 b2 b3 (x5 + UM) y) (R (.returned (.tuple #[])) y)) (R (.returned (.tuple #[])) y)))) : al R v0 b2 b3 x5 σ := M.of h ok rfl
end B9
namespace Ec
variable {p0 p3 ZT : Option Addr} {n0 c0 n3 c3 n10 TV : Nat} {x11 x12 : Int}
def M : Fw := ⟨prog,72,f72,[107,108],[5],false,[],[],[(232,[(3,wL),(10,wL),(11,wI),(12,wI)])]⟩
theorem ok : M.Ok := ⟨.cons call107 (.cons call108 (AG.nil)),mixed,func72,by kernel_rfl⟩
def A1 := M.pt 0
theorem start (h : Df (IntKind.u64.wrap (n0 : Int)) fun x8 => Spec prog 107 #[.slice none 0 0,.int .u64 x8] σ (AA R (CS fun p9 n9 c9 y => A1 R p9 n9 c9 p0 n0 c0 (n0 : Int) 0 y))) : Spec prog 72 #[.slice p0 n0 c0] σ R := M.start h ok
theorem Ab (h : Br (x12 < x11) (Pq ZT fun BC O3 => In x12 (n10 : Int) ∧ ∃ AEm AEn,As σ BC (O3 + Int.toNat x12 * 2) [.string AEm,.string AEn] ∧ ∀ b5 : Nat,Spec prog 108 #[.slice p3 n3 c3,.string AEm] σ (AA R (CS fun po n19 fg y => Spec prog 108 #[.slice po n19 fg,.string AEn] y (AA R (CS fun UC n22 TI AF => AM (x12 + 1) ∧ A1 R UC n22 TI (aD BC O3) n10 TV x11 (x12 + 1) AF))))) (R (.returned (.slice p3 n3 c3)) σ)) : A1 R p3 n3 c3 ZT n10 TV x11 x12 σ := M.of h ok rfl
end Ec
namespace Gv
variable {p0 p6 : Option Addr} {n0 c0 n6 c6 : Nat} {x3 x7 x8 : Int}
def M : Fw := ⟨prog,77,f77,[],[],false,[],[],[(232,[(3,wI),(6,wL),(7,wI),(8,wI)])]⟩
theorem ok : M.Ok := ⟨AG.nil,mixed,func77,by kernel_rfl⟩
def A1 := M.pt 0
theorem start (h : A1 R 0 p0 n0 c0 (n0 : Int) 0 σ) : Spec prog 77 #[.slice p0 n0 c0] σ R := M.start h ok
theorem Ab (h : Br (x8 < x7) (Pq p6 fun CW fz => In x8 (n6 : Int) ∧ LI .i64 σ CW (fz + Int.toNat x8 * 1) fun x11 => Br (x11 ≠ x3) (R (.returned (.int .i64 x11)) σ) (AM (x8 + 1) ∧ A1 R x3 (aD CW fz) n6 c6 x7 (x8 + 1) σ)) (R (.returned (.int .i64 x3)) σ)) : A1 R x3 p6 n6 c6 x7 x8 σ := M.of h ok rfl
end Gv
namespace Ed
variable {q0 DV Dd p2 : Option Addr} {DR CL DS DW Cv CO : Int} {DT : ByteArray} {DX DY DZ De n2 c2 : Nat} {Cw : Bool}
def M : Fw := ⟨prog,85,f85,[],[4],false,[],[],[]⟩
theorem ok : M.Ok := ⟨AG.nil,mixed,func85,by kernel_rfl⟩
theorem start (h : ∀ b4 : Nat,Pq p2 fun b9 o9 => In 0 (n2 : Int) ∧ LI .i64 σ b9 o9 fun x11 => Br (x11 = 3) (R (.returned (.tuple #[.int .i64 0,.int .i64 191])) σ) (In 0 (n2 : Int) ∧ LI .i64 σ b9 o9 fun x16 => R (.returned (.tuple #[.int .i64 x16,.int .i64 0])) σ)) : Spec prog 85 #[.pointer q0,.agg #[.int .i64 DR,.int .i64 CL,.string DT,.slice DV DX DY,.int .i64 DS,.int .i64 DW,.int .i64 Cv,.slice Dd DZ De,.bool Cw,.int .i64 CO],.slice p2 n2 c2] σ R := M.start h ok
end Ed
namespace SG
variable {s0 : ByteArray}
def M : Fw := ⟨prog,94,f94,[131,132],[],false,[],[],[]⟩
theorem ok : M.Ok := ⟨.cons call131 (.cons call132 (AG.nil)),mixed,func94,by kernel_rfl⟩
theorem start (h : Spec prog 131 #[.string s0] σ (AA R (CI .i64 fun x6 y => Br (x6 = 0) (R (.returned (.bool false)) y) (∃ s12,YF prog (Instr.sliceAt 9 (.string s0) none (some (.int .i64 x6)) none) y (.string s12) ∧ Spec prog 132 #[.string s12] y (AA R (CB fun t13 AF => Bo t13 (R (.returned (.bool false)) AF) (Br (x6 = ((ByteArray.size s0 : Nat) : Int)) (R (.returned (.bool (decide (x6 ≤ 15)))) AF) (AM (x6 + 1) ∧ ∃ s24,YF prog (Instr.sliceAt 9 (.string s0) (some (.int .i64 (x6 + 1))) none none) AF (.string s24) ∧ Spec prog 131 #[.string s24] AF (AA R (CI .i64 fun QL AH => ∃ u28 : UInt8,0 ≤ x6 ∧ (ByteArray.data s0)[Int.toNat x6]? = some u28 ∧ Br ((((UInt8.toNat u28 : Nat) : Int) : Int) = 46) (Br (0 < QL) (AM (x6 + 1) ∧ AM ((x6 + 1) + QL) ∧ Br ((((x6 + 1) + QL) : Int) = ((ByteArray.size s0 : Nat) : Int)) (AM (x6 + QL) ∧ R (.returned (.bool (decide (((x6 + QL) : Int) ≤ 15)))) AH) (R (.returned (.bool false)) AH)) (R (.returned (.bool false)) AH)) (R (.returned (.bool false)) AH))))))))))) : Spec prog 94 #[.string s0] σ R := M.start h ok
end SG
namespace AQ
variable {q0 DV Dd p2 GX Hk HC Fs p9 UC dT p79 Xv aq q13 : Option Addr} {DR CL DS DW Cv CO Fm FR Hl F5 Hm IM Fp Fq Dz I8 x80 x81 Pp : Int} {DT HM : ByteArray} {DX DY DZ De n2 c2 GY GZ Hn Ho HD HE Ft Fu n9 c9 n22 TI n15 XO n79 c79 Xw Xx n12 ZX : Nat} {Cw IN : Bool} {m8 : Option Nat} {gD : Value}
def M : Fw := ⟨prog,104,f104,[49,146,148,149,150],[4,6,11],false,[(17,11,false)],[],[(488,[(4,.X 36 [.I .i64,.I .i64,.T,.L,.I .i64,.I .i64,.I .i64,.L,.B,.I .i64]),(6,.X 93 [.I .i64,.I .u64,.L,.L]),(8,wM),(9,wL),(22,wL),(23,wI),(24,wI)]),(4072,[(6,.X 93 [.I .i64,.I .u64,.L,.L]),(14,wV),(15,wL),(79,wL),(80,wI),(81,wI)]),(62670,[(4,.X 36 [.I .i64,.I .i64,.T,.L,.I .i64,.I .i64,.I .i64,.L,.B,.I .i64]),(6,.X 93 [.I .i64,.I .u64,.L,.L]),(8,wM),(9,wL),(11,.X 71 [.L,.I .u64]),(12,wL),(22,wL),(23,wI),(24,wI)]),(125343,[(4,.X 36 [.I .i64,.I .i64,.T,.L,.I .i64,.I .i64,.I .i64,.L,.B,.I .i64]),(6,.X 93 [.I .i64,.I .u64,.L,.L]),(8,wM),(9,wL),(11,.X 71 [.L,.I .u64]),(13,wQ),(22,wL),(23,wI),(24,wI)])]⟩
theorem ok : M.Ok := ⟨.cons call49 (.cons call146 (.cons call148 (.cons call149 (.cons call150 (AG.nil))))),mixed,func104,by kernel_rfl⟩
def Ew := M.pt 0
def r9 := M.pt 1
def Jf := M.pt 2
def mF := M.pt 3
theorem start (h : ∀ b4 : Nat,∀ b6 : Nat,AJ prog (Instr.makeMap 197 none) σ (fun z y => ∃ m18,z = (.map (some m18)) ∧ Pq p2 fun Xk zL => In 0 (n2 : Int) ∧ LS y Xk (zL + 2) fun UC n22 TI => Ew R DR CL DT DV DX DY DS DW Cv Dd DZ De Cw CO 0 0 none 0 0 none 0 0 (some m18) none 0 0 UC n22 TI (n22 : Int) 0 y)) : Spec prog 104 #[.pointer q0,.agg #[.int .i64 DR,.int .i64 CL,.string DT,.slice DV DX DY,.int .i64 DS,.int .i64 DW,.int .i64 Cv,.slice Dd DZ De,.bool Cw,.int .i64 CO],.slice p2 n2 c2] σ R := M.start h ok
theorem FJ (h : Br (I8 < Dz) (Pq UC fun l0 qA => In I8 (n22 : Int) ∧ ∃ MV Lg MW Xa,As σ l0 (qA + Int.toNat I8 * 2) [.slice MV Lg MW,.int .u64 Xa] ∧ ∀ A8 : Nat,Br (Hm = 1) (Spec prog 149 #[.slice MV Lg MW,.slice Hk Hn Ho] σ (AA R (CS fun p36 n36 c36 y => Jf R Fm FR HM GX GY GZ Hl F5 Hm Hk Hn Ho IN IM Fp Fq HC HD HE Fs Ft Fu m8 p9 n9 c9 MV Lg MW Xa p36 n36 c36 (aD l0 qA) n22 TI Dz I8 y))) (Br (Hm = 2) (Spec prog 150 #[.slice MV Lg MW,.slice Hk Hn Ho] σ (AA R (CS fun jC n43 jD y => Spec prog 146 #[.slice jC n43 jD] y (AA R (CS fun yV n44 yW AF => Jf R Fm FR HM GX GY GZ Hl F5 Hm Hk Hn Ho IN IM Fp Fq HC HD HE Fs Ft Fu m8 p9 n9 c9 MV Lg MW Xa yV n44 yW (aD l0 qA) n22 TI Dz I8 AF))))) (Jf R Fm FR HM GX GY GZ Hl F5 Hm Hk Hn Ho IN IM Fp Fq HC HD HE Fs Ft Fu m8 p9 n9 c9 MV Lg MW Xa none 0 0 (aD l0 qA) n22 TI Dz I8 σ))) (AJ prog (Instr.makeMap 202 none) σ (fun z y => ∃ aS,z = (.map (some aS)) ∧ AJ prog (Instr.mapUpdate 202 (.map (some aS)) (.int .i64 1) (.func (.func 151) #[] #[])) y (fun _ AF => AJ prog (Instr.mapUpdate 202 (.map (some aS)) (.int .i64 2) (.func (.func 152) #[] #[])) AF (fun _ AH => AJ prog (Instr.mapUpdate 202 (.map (some aS)) (.int .i64 3) (.func (.func 153) #[] #[])) AH (fun _ AZ => AJ prog (Instr.mapUpdate 202 (.map (some aS)) (.int .i64 4) (.func (.func 154) #[] #[])) AZ (fun _ CE => AJ prog (Instr.mapUpdate 202 (.map (some aS)) (.int .i64 5) (.func (.func 155) #[] #[])) CE (fun _ Fv => AJ prog (Instr.lookup 202 (.map (some aS)) (.int .i64 FR) false) Fv (fun z Gn => ∃ v78,v78 = z ∧ r9 R Fp Fq HC HD HE Fs Ft Fu v78 none 0 0 p9 n9 c9 (n9 : Int) 0 Gn))))))))) : Ew R Fm FR HM GX GY GZ Hl F5 Hm Hk Hn Ho IN IM Fp Fq HC HD HE Fs Ft Fu m8 p9 n9 c9 UC n22 TI Dz I8 σ := M.fP h ok rfl fun _ _ => by kernel_rfl
theorem dj (h : Br (x81 < x80) (Pq p79 fun b83 o83 => In x81 (n79 : Int) ∧ LQ σ b83 (o83 + Int.toNat x81 * 1) fun q84 => Pq q84 fun b87 o87 => LS σ b87 o87 fun aY aZ ad => LS σ b87 (o87 + 1) fun qt qu qw => ∃ (f95 : Nat) (YH YI : Array Value),gD = .func (.func f95) YH YI ∧ Enters prog f95 ∧ Spec prog f95 (YH ++ #[.slice qt qu qw] ++ YI) σ (AA R (CI .u64 fun x95 y => Kp [b87] σ y ∧ Al y fun b97 => AJ prog (Builtin.append_ #[67,67] 67 #[.slice dT n15 XO,(.slice (aD b97 0) 1 1)]) (Hp.set y b97 (.cells #[.slice aY aZ ad,.int .u64 x95] 71 (0,0))) (CS fun p98 n98 c98 AF => AM (x81 + 1) ∧ r9 R Fp Fq HC HD HE Fs Ft Fu gD p98 n98 c98 (aD b83 o83) n79 c79 x80 (x81 + 1) AF)))) (Spec prog 148 #[.slice dT n15 XO] σ (AA R (fun z y => ∃ mG mH mI mJ mK mL mM mN vk,z = (.tuple #[.agg #[.int .i64 mG,.int .u64 mH,.slice mI mJ mK,.slice mL mM mN],.int .i64 vk]) ∧ R (.returned (.tuple #[.agg #[.int .i64 mG,.int .u64 mH,.slice mI mJ mK,.slice mL mM mN],.int .i64 vk])) y)))) : r9 R Fp Fq HC HD HE Fs Ft Fu gD dT n15 XO p79 n79 c79 x80 x81 σ := M.iu h ok rfl fun _ => by kernel_rfl
theorem LG (h : Spec prog 49 #[.slice aq n12 ZX] σ (AA R (CT fun s47 y => AJ prog (Instr.lookup 197 (.map m8) (.string s47) false) y (CQ fun q48 AF => Bo (Option.isNone q48) (Al AF fun OP => Spec prog 49 #[.slice aq n12 ZX] (Hp.set AF OP (.cells #[.slice aq n12 ZX,.slice none 0 0] 189 (0,0))) (AA R (CT fun s56 AH => AJ prog (Instr.mapUpdate 197 (.map m8) (.string s56) (.pointer (aD OP 0))) AH (fun _ AZ => Al AZ fun b60 => AJ prog (Builtin.append_ #[198,198] 198 #[.slice p9 n9 c9,(.slice (aD b60 0) 1 1)]) (Hp.set AZ b60 (.cells #[(.pointer (aD OP 0))] 200 (0,0))) (CS fun p61 n61 c61 CE => mF R Fm FR HM GX GY GZ Hl F5 Hm Hk Hn Ho IN IM Fp Fq HC HD HE Fs Ft Fu m8 p61 n61 c61 Xv Xw Xx Pp (aD OP 0) UC n22 TI Dz I8 CE))))) (mF R Fm FR HM GX GY GZ Hl F5 Hm Hk Hn Ho IN IM Fp Fq HC HD HE Fs Ft Fu m8 p9 n9 c9 Xv Xw Xx Pp q48 UC n22 TI Dz I8 AF))))) : Jf R Fm FR HM GX GY GZ Hl F5 Hm Hk Hn Ho IN IM Fp Fq HC HD HE Fs Ft Fu m8 p9 n9 c9 Xv Xw Xx Pp aq n12 ZX UC n22 TI Dz I8 σ := M.of3 h ok rfl fun _ _ _ => by kernel_rfl
theorem sB (h : Pq q13 fun b64 o64 => LS σ b64 (o64 + 1) fun pk kS dS => Al σ fun b69 => AJ prog (Builtin.append_ #[187,187] 187 #[.slice pk kS dS,(.slice (aD b69 0) 1 1)]) (Hp.set σ b69 (.cells #[.int .u64 Pp] 48 (0,0))) (CS fun p70 n70 c70 y => AJ prog (Instr.storeAt 187 (.pointer (aD b64 (o64 + 1))) (.slice p70 n70 c70)) y (fun _ AF => AM (I8 + 1) ∧ Ew R Fm FR HM GX GY GZ Hl F5 Hm Hk Hn Ho IN IM Fp Fq HC HD HE Fs Ft Fu m8 p9 n9 c9 UC n22 TI Dz (I8 + 1) AF))) : mF R Fm FR HM GX GY GZ Hl F5 Hm Hk Hn Ho IN IM Fp Fq HC HD HE Fs Ft Fu m8 p9 n9 c9 Xv Xw Xx Pp q13 UC n22 TI Dz I8 σ := M.of3 h ok rfl fun _ _ _ => by kernel_rfl
end AQ
namespace SH
variable {Er EM Ph M7 Hj JB : Int} {Pj : ByteArray} {UE RB : Option Addr} {TT UF QI RC : Nat} {MU : Bool}
def M : Fw := ⟨prog,121,f121,[],[1,2],false,[(12,7,false),(15,7,false),(18,11,false),(21,15,false)],[],[]⟩
theorem ok : M.Ok := ⟨AG.nil,mixed,func121,by kernel_rfl⟩
theorem start (h : ∀ b1 : Nat,∀ b2 : Nat,Al σ fun b3 => AJ prog (Instr.storeAt 36 (.pointer (aD b3 0)) (.agg #[.int .i64 Er,.int .i64 0,(.string (ByteArray.mk #[])),.slice none 0 0,.int .i64 0,.int .i64 0,.int .i64 0,.slice none 0 0,.bool false,.int .i64 0])) (Hp.set σ b3 (.cells #[.int .i64 0,.int .i64 0,(.string (ByteArray.mk #[])),.slice none 0 0,.int .i64 0,.int .i64 0,.int .i64 0,.slice none 0 0,.bool false,.int .i64 0] 36 (0,0))) (fun _ y => Br (Er = 1) (AJ prog (Instr.storeAt 9 (.pointer (aD b3 2)) (.string Pj)) y (fun _ AF => ∃ Xn au av mO mP mQ mR mS mT mU mV mW mX mY,As AF b3 0 [.int .i64 Xn,.int .i64 au,.string av,.slice mO mP mQ,.int .i64 mR,.int .i64 mS,.int .i64 mT,.slice mU mV mW,.bool mX,.int .i64 mY] ∧ R (.returned (.agg #[.int .i64 Xn,.int .i64 au,.string av,.slice mO mP mQ,.int .i64 mR,.int .i64 mS,.int .i64 mT,.slice mU mV mW,.bool mX,.int .i64 mY])) AF)) (Br (Er = 2) (AJ prog (Instr.storeAt 2 (.pointer (aD b3 5)) (.int .i64 M7)) y (fun _ AF => ∃ gC Vi AEs AEt AEu AEv AEw AEx AEy AEz AE0 AE1 AE2 AE3,As AF b3 0 [.int .i64 gC,.int .i64 Vi,.string AEs,.slice AEt AEu AEv,.int .i64 AEw,.int .i64 AEx,.int .i64 AEy,.slice AEz AE0 AE1,.bool AE2,.int .i64 AE3] ∧ R (.returned (.agg #[.int .i64 gC,.int .i64 Vi,.string AEs,.slice AEt AEu AEv,.int .i64 AEw,.int .i64 AEx,.int .i64 AEy,.slice AEz AE0 AE1,.bool AE2,.int .i64 AE3])) AF)) (Br (Er = 3) (AJ prog (Instr.storeAt 2 (.pointer (aD b3 4)) (.int .i64 Ph)) y (fun _ AF => AJ prog (Instr.storeAt 2 (.pointer (aD b3 5)) (.int .i64 M7)) AF (fun _ AH => ∃ Xh AE4 AE5 AE6 AE7 AE8 AE9 AFA AFB AFC AFD AFE AFF AFG,As AH b3 0 [.int .i64 Xh,.int .i64 AE4,.string AE5,.slice AE6 AE7 AE8,.int .i64 AE9,.int .i64 AFA,.int .i64 AFB,.slice AFC AFD AFE,.bool AFF,.int .i64 AFG] ∧ R (.returned (.agg #[.int .i64 Xh,.int .i64 AE4,.string AE5,.slice AE6 AE7 AE8,.int .i64 AE9,.int .i64 AFA,.int .i64 AFB,.slice AFC AFD AFE,.bool AFF,.int .i64 AFG])) AH))) (Br (Er = 4) (AJ prog (Instr.storeAt 3 (.pointer (aD b3 1)) (.int .i64 EM)) y (fun _ AF => AJ prog (Instr.storeAt 3 (.pointer (aD b3 9)) (.int .i64 JB)) AF (fun _ AH => ∃ AFH AFI AFJ AFK AFL AFM AFN AFO AFP AFQ AFR AFS AFT AFU,As AH b3 0 [.int .i64 AFH,.int .i64 AFI,.string AFJ,.slice AFK AFL AFM,.int .i64 AFN,.int .i64 AFO,.int .i64 AFP,.slice AFQ AFR AFS,.bool AFT,.int .i64 AFU] ∧ R (.returned (.agg #[.int .i64 AFH,.int .i64 AFI,.string AFJ,.slice AFK AFL AFM,.int .i64 AFN,.int .i64 AFO,.int .i64 AFP,.slice AFQ AFR AFS,.bool AFT,.int .i64 AFU])) AH))) (Br (Er = 5) (AJ prog (Instr.storeAt 3 (.pointer (aD b3 1)) (.int .i64 EM)) y (fun _ AF => AJ prog (Instr.storeAt 3 (.pointer (aD b3 9)) (.int .i64 JB)) AF (fun _ AH => AJ prog (Instr.storeAt 3 (.pointer (aD b3 6)) (.int .i64 Hj)) AH (fun _ AZ => ∃ Xb Xc lO Xd Xe Xf lP lQ lR lS lT lU lV lW,As AZ b3 0 [.int .i64 Xb,.int .i64 Xc,.string lO,.slice Xd Xe Xf,.int .i64 lP,.int .i64 lQ,.int .i64 lR,.slice lS lT lU,.bool lV,.int .i64 lW] ∧ R (.returned (.agg #[.int .i64 Xb,.int .i64 Xc,.string lO,.slice Xd Xe Xf,.int .i64 lP,.int .i64 lQ,.int .i64 lR,.slice lS lT lU,.bool lV,.int .i64 lW])) AZ)))) (Br (Er = 6) (AJ prog (Instr.storeAt 3 (.pointer (aD b3 1)) (.int .i64 EM)) y (fun _ AF => AJ prog (Instr.storeAt 3 (.pointer (aD b3 9)) (.int .i64 JB)) AF (fun _ AH => AJ prog (Instr.storeAt 4 (.pointer (aD b3 8)) (.bool MU)) AH (fun _ AZ => AJ prog (Instr.storeAt 3 (.pointer (aD b3 6)) (.int .i64 Hj)) AZ (fun _ CE => ∃ Xz X0 X3 X4 X5 X6 X7 X8 X9 YA YB YC YD YE,As CE b3 0 [.int .i64 Xz,.int .i64 X0,.string X3,.slice X4 X5 X6,.int .i64 X7,.int .i64 X8,.int .i64 X9,.slice YA YB YC,.bool YD,.int .i64 YE] ∧ R (.returned (.agg #[.int .i64 Xz,.int .i64 X0,.string X3,.slice X4 X5 X6,.int .i64 X7,.int .i64 X8,.int .i64 X9,.slice YA YB YC,.bool YD,.int .i64 YE])) CE))))) (AJ prog (Instr.storeAt 3 (.pointer (aD b3 9)) (.int .i64 JB)) y (fun _ AF => ∃ AFV lN AFW AFX AFY AFZ AFa AFb AFc AFd AFe AFf AFg AFh,As AF b3 0 [.int .i64 AFV,.int .i64 lN,.string AFW,.slice AFX AFY AFZ,.int .i64 AFa,.int .i64 AFb,.int .i64 AFc,.slice AFd AFe AFf,.bool AFg,.int .i64 AFh] ∧ R (.returned (.agg #[.int .i64 AFV,.int .i64 lN,.string AFW,.slice AFX AFY AFZ,.int .i64 AFa,.int .i64 AFb,.int .i64 AFc,.slice AFd AFe AFf,.bool AFg,.int .i64 AFh])) AF))))))))) : Spec prog 121 #[.agg #[.int .i64 Er,.int .i64 EM,.string Pj,.slice UE TT UF,.int .i64 Ph,.int .i64 M7,.int .i64 Hj,.slice RB QI RC,.bool MU,.int .i64 JB]] σ R := M.start h ok
end SH
namespace DJ
variable {p0 p7 : Option Addr} {n0 c0 n7 c7 : Nat} {s1 : ByteArray} {x8 x9 : Int}
def M : Fw := ⟨prog,133,f133,[],[],false,[],[],[(104,[(1,wT),(7,wL),(8,wI),(9,wI)])]⟩
theorem ok : M.Ok := ⟨AG.nil,mixed,func133,by kernel_rfl⟩
def Hi := M.pt 0
theorem start (h : Hi R s1 p0 n0 c0 (n0 : Int) 0 σ) : Spec prog 133 #[.slice p0 n0 c0,.string s1] σ R := M.start h ok
theorem Bc (h : Br (x9 < x8) (Pq p7 fun O6 Pg => In x9 (n7 : Int) ∧ LT σ O6 (Pg + Int.toNat x9 * 1) fun yM => Bo (ByteArray.toList yM == ByteArray.toList s1) (Bn ((ByteArray.toList s1 == ByteArray.toList (ByteArray.mk #[]))) (R (.returned (.int .i64 x9)) σ) (AM (x9 + 1) ∧ Hi R s1 (aD O6 Pg) n7 c7 x8 (x9 + 1) σ)) (AM (x9 + 1) ∧ Hi R s1 (aD O6 Pg) n7 c7 x8 (x9 + 1) σ)) (R (.returned (.int .i64 0)) σ)) : Hi R s1 p7 n7 c7 x8 x9 σ := M.of h ok rfl
end DJ
namespace JM
variable {q0 : Option Addr}
def M : Fw := ⟨prog,135,f135,[],[2,3],false,[],[],[]⟩
theorem ok : M.Ok := ⟨AG.nil,mixed,func135,by kernel_rfl⟩
theorem start (h : ∀ b2 : Nat,Pq q0 fun b5 o5 => LS σ b5 o5 fun p7 n7 c7 => Pq p7 fun b8 o8 => In 0 (n7 : Int) ∧ ∃ x9a x9b s9c x9d,As σ b8 o8 [.int .i64 x9a,.int .i64 x9b,.string s9c,.int .i64 x9d] ∧ ∀ b3 : Nat,LS σ b5 o5 fun JC n14 HL => ((0 : Int) ≤ 1 ∧ 1 ≤ (n14 : Int)) ∧ AJ prog (Instr.storeAt 121 (.pointer (aD b5 o5)) (.slice (IL JC (1) HL 4) (n14 - 1) (HL - 1))) σ (fun _ y => R (.returned (.agg #[.int .i64 x9a,.int .i64 x9b,.string s9c,.int .i64 x9d])) y)) : Spec prog 135 #[.pointer q0] σ R := M.start h ok
end JM
namespace SI
variable {x0 : Int}
def M : Fw := ⟨prog,143,f143,[],[],false,[],[],[]⟩
theorem ok : M.Ok := ⟨AG.nil,mixed,func143,by kernel_rfl⟩
theorem start (h : AJ prog (convert 2 51 (.int .i64 x0)) σ (fun z y => ∃ x4,(Value.float .f64 x4) = z ∧ EN prog 45 #[(Value.float .f64 x4)] y (CI .u64 fun x5 AF => R (.returned (.int .u64 x5)) AF))) : Spec prog 143 #[.int .i64 x0] σ R := M.start h ok
end SI
namespace Ki
def M : Fw := ⟨prog,147,f147,[184,188],[],false,[],[],[]⟩
theorem ok : M.Ok := ⟨.cons call184 (.cons call188 (AG.nil)),mixed,func147,by kernel_rfl⟩
theorem start (h : Spec prog 184 #[(.func (.func 151) #[] #[])] σ (AA R (fun z y => ∃ f1 a1 c1,(Value.func f1 a1 c1) = z ∧ Spec prog 184 #[(.func (.func 154) #[] #[])] y (AA R (fun z AF => ∃ f2 a2 c2,(Value.func f2 a2 c2) = z ∧ Spec prog 184 #[(.func (.func 152) #[] #[])] AF (AA R (fun z AH => ∃ f3 a3 c3,(Value.func f3 a3 c3) = z ∧ Spec prog 184 #[(.func (.func 153) #[] #[])] AH (AA R (fun z AZ => ∃ f4 a4 c4,(Value.func f4 a4 c4) = z ∧ Spec prog 184 #[(.func (.func 155) #[] #[])] AZ (AA R (fun z CE => ∃ f5 a5 c5,(Value.func f5 a5 c5) = z ∧ Spec prog 184 #[(.func (.func 185) #[] #[])] CE (AA R (fun z Fv => ∃ f6 a6 c6,(Value.func f6 a6 c6) = z ∧ Spec prog 184 #[(.func (.func 187) #[] #[])] Fv (AA R (fun z Gn => ∃ f7 a7 c7,(Value.func f7 a7 c7) = z ∧ Spec prog 188 #[(.func (.func 189) #[] #[])] Gn (AA R (fun z Ms => ∃ f8 a8 c8,(Value.func f8 a8 c8) = z ∧ Spec prog 188 #[(.func (.func 191) #[] #[])] Ms (AA R (fun z VN => ∃ f9 a9 c9,(Value.func f9 a9 c9) = z ∧ Spec prog 188 #[(.func (.func 193) #[] #[])] VN (AA R (fun z Lf => ∃ f10 a10 TV,(Value.func f10 a10 TV) = z ∧ Al Lf fun A8 => R (.returned (.slice (aD A8 0) 11 11)) (Hp.set Lf A8 (.cells #[.nilFunc,(Value.func f10 a10 TV),(Value.func f9 a9 c9),(Value.func f8 a8 c8),(Value.func f1 a1 c1),(Value.func f2 a2 c2),(Value.func f3 a3 c3),(Value.func f4 a4 c4),(Value.func f5 a5 c5),(Value.func f6 a6 c6),(Value.func f7 a7 c7)] 195 (0,0)))))))))))))))))))))))) : Spec prog 147 #[] σ R := M.start h ok
end Ki
namespace L9
variable {p0 p1 : Option Addr} {n0 c0 n1 c1 : Nat}
def M : Fw := ⟨prog,150,f150,[197],[],false,[],[],[]⟩
theorem ok : M.Ok := ⟨.cons call197 (AG.nil),mixed,func150,by kernel_rfl⟩
theorem start (h : Al σ fun b3 => Spec prog 197 #[.slice p0 n0 c0,(.func (.func 200) #[] #[(.pointer (aD b3 0))])] (Hp.set σ b3 (.cells #[.slice p1 n1 c1] 34 (0,0))) (AA R (CS fun p7 n7 c7 y => R (.returned (.slice p7 n7 c7)) y))) : Spec prog 150 #[.slice p0 n0 c0,.slice p1 n1 c1] σ R := M.start h ok
end L9
namespace PF
variable {x0 : Int}
def M : Fw := ⟨prog,162,f162,[186],[],false,[],[],[]⟩
theorem ok : M.Ok := ⟨.cons call186 (AG.nil),mixed,func162,by kernel_rfl⟩
theorem start (h : Df (Go.bits .xor .u64 x0 9223372036854775808) fun x4 => Spec prog 186 #[.int .u64 x4] σ (AA R (CI .u64 fun x5 y => R (.returned (.int .u64 x5)) y))) : Spec prog 162 #[.int .u64 x0] σ R := M.start h ok
end PF
namespace MA
variable {Er EM x1 : Int}
def M : Fw := ⟨prog,176,f176,[],[2],false,[],[],[]⟩
theorem ok : M.Ok := ⟨AG.nil,mixed,func176,by kernel_rfl⟩
theorem start (h : ∀ b2 : Nat,Br (Er ≤ x1) (R (.returned (.int .i64 (-1))) σ) (R (.returned (.int .i64 1)) σ)) : Spec prog 176 #[.agg #[.int .i64 Er,.int .u64 EM],.int .i64 x1] σ R := M.start h ok
end MA
namespace SJ
variable {v0 : Value}
def M : Fw := ⟨prog,183,f183,[],[],false,[],[],[]⟩
theorem ok : M.Ok := ⟨AG.nil,mixed,func183,by kernel_rfl⟩
theorem start (h : EN prog 222 #[v0] σ (fun z y => ∃ x4,(Value.float .f64 x4) = z ∧ R (.returned (Value.float .f64 x4)) y)) : Spec prog 183 #[v0] σ R := M.Du h ok [(0,.o (.V v0))] rfl rfl (by kernel_rfl)
end SJ
namespace DK
variable {p0 p1 : Option Addr} {n0 c0 n1 c1 : Nat}
def M : Fw := ⟨prog,193,f193,[192,194],[],false,[],[],[]⟩
theorem ok : M.Ok := ⟨.cons call192 (.cons call194 (AG.nil)),mixed,func193,by kernel_rfl⟩
theorem start (h : Pq p1 fun b8 o8 => In 0 (n1 : Int) ∧ LI .u64 σ b8 (o8 + 1) fun x10 => Spec prog 192 #[.slice p0 n0 c0] σ (AA R (CI .u64 fun x6 y => Kp [b8] σ y ∧ Spec prog 194 #[.int .u64 x6,.int .u64 x10] y (AA R (CI .u64 fun x11 AF => R (.returned (.int .u64 x11)) AF))))) : Spec prog 193 #[.slice p0 n0 c0,.slice p1 n1 c1] σ R := M.start h ok
end DK
namespace eval_add
variable {x0 x1 : Int}
def M : Fw := ⟨prog,201,f201,[203],[],false,[],[],[]⟩
theorem ok : M.Ok := ⟨.cons call203 (AG.nil),mixed,func201,by kernel_rfl⟩
theorem start (h : Spec prog 203 #[.int .i64 1,.int .u64 x0,.int .u64 x1] σ (AA R (fun z y => ∃ IZ Q8,z = (.tuple #[.int .u64 IZ,.bool Q8]) ∧ R (.returned (.int .u64 IZ)) y))) : Spec prog 201 #[.int .u64 x0,.int .u64 x1] σ R := M.start h ok
end eval_add
namespace NQ
variable {x0 x1 x2 : Int}
def M : Fw := ⟨prog,204,f204,[182],[],false,[],[],[]⟩
theorem ok : M.Ok := ⟨.cons call182 (AG.nil),mixed,func204,by kernel_rfl⟩
theorem start (h : Spec prog 182 #[.int .u64 x1] σ (AA R (fun z y => ∃ x11,(Value.float .f64 x11) = z ∧ Spec prog 182 #[.int .u64 x2] y (AA R (fun z AF => ∃ Dn,(Value.float .f64 Dn) = z ∧ Br (x0 = 5) (∃ t19,YF prog ((do eqGuard .eql 51 (.tmp 17) (.tmp 18) (Value.float .f64 x11) (Value.float .f64 Dn); binOp .eql 51 (Value.float .f64 x11) (Value.float .f64 Dn))) AF (.bool t19) ∧ R (.returned (.tuple #[.bool t19,.bool true])) AF) (Br (x0 = 6) (∃ t24,YF prog ((do eqGuard .neq 51 (.tmp 22) (.tmp 23) (Value.float .f64 x11) (Value.float .f64 Dn); binOp .neq 51 (Value.float .f64 x11) (Value.float .f64 Dn))) AF (.bool t24) ∧ R (.returned (.tuple #[.bool t24,.bool true])) AF) (Br (x0 = 7) (∃ t29,YF prog ((do eqGuard .lss 51 (.tmp 27) (.tmp 28) (Value.float .f64 x11) (Value.float .f64 Dn); binOp .lss 51 (Value.float .f64 x11) (Value.float .f64 Dn))) AF (.bool t29) ∧ R (.returned (.tuple #[.bool t29,.bool true])) AF) (Br (x0 = 8) (∃ t34,YF prog ((do eqGuard .leq 51 (.tmp 32) (.tmp 33) (Value.float .f64 x11) (Value.float .f64 Dn); binOp .leq 51 (Value.float .f64 x11) (Value.float .f64 Dn))) AF (.bool t34) ∧ R (.returned (.tuple #[.bool t34,.bool true])) AF) (Br (x0 = 9) (∃ t39,YF prog ((do eqGuard .gtr 51 (.tmp 37) (.tmp 38) (Value.float .f64 x11) (Value.float .f64 Dn); binOp .gtr 51 (Value.float .f64 x11) (Value.float .f64 Dn))) AF (.bool t39) ∧ R (.returned (.tuple #[.bool t39,.bool true])) AF) (Br (x0 = 10) (∃ t44,YF prog ((do eqGuard .geq 51 (.tmp 42) (.tmp 43) (Value.float .f64 x11) (Value.float .f64 Dn); binOp .geq 51 (Value.float .f64 x11) (Value.float .f64 Dn))) AF (.bool t44) ∧ R (.returned (.tuple #[.bool t44,.bool true])) AF) (R (.returned (.tuple #[.bool false,.bool false])) AF))))))))))) : Spec prog 204 #[.int .i64 x0,.int .u64 x1,.int .u64 x2] σ R := M.start h ok
end NQ
namespace Gw
variable {Er EM Ph M7 Hj JB rl x2b x2e x2f x2g x2j x11 x12 : Int} {Pj s2c : ByteArray} {UE RB p1 p2d p2h ZT : Option Addr} {TT UF QI RC n1 c1 n2d c2d n2h c2h n10 TV : Nat} {MU t2i : Bool} {m6 : Option Nat}
def M : Fw := ⟨prog,206,f206,[49,207],[2,8],false,[(5,7,false)],[],[(232,[(1,wL),(2,.X 36 [.I .i64,.I .i64,.T,.L,.I .i64,.I .i64,.I .i64,.L,.B,.I .i64]),(6,wM),(10,wL),(11,wI),(12,wI)])]⟩
theorem ok : M.Ok := ⟨.cons call49 (.cons call207 (AG.nil)),mixed,func206,by kernel_rfl⟩
def A1 := M.pt 0
theorem start (h : ∀ b2 : Nat,AJ prog (Instr.makeMap 243 none) σ (fun z y => ∃ m9,z = (.map (some m9)) ∧ A1 R p1 n1 c1 Er EM Pj UE TT UF Ph M7 Hj RB QI RC MU JB (some m9) p1 n1 c1 (n1 : Int) 0 y)) : Spec prog 206 #[.agg #[.int .i64 Er,.int .i64 EM,.string Pj,.slice UE TT UF,.int .i64 Ph,.int .i64 M7,.int .i64 Hj,.slice RB QI RC,.bool MU,.int .i64 JB],.slice p1 n1 c1] σ R := M.start h ok
theorem Ab (h : Br (x12 < x11) (Pq ZT fun BC O3 => In x12 (n10 : Int) ∧ ∃ zf zg zh ru,As σ BC (O3 + Int.toNat x12 * 2) [.slice zf zg zh,.int .u64 ru] ∧ ∀ b8 : Nat,Spec prog 207 #[.agg #[.int .i64 rl,.int .i64 x2b,.string s2c,.slice p2d n2d c2d,.int .i64 x2e,.int .i64 x2f,.int .i64 x2g,.slice p2h n2h c2h,.bool t2i,.int .i64 x2j],.slice zf zg zh] σ (AA R (CS fun kJ n20 kL y => Spec prog 49 #[.slice kJ n20 kL] y (AA R (CT fun yN AF => AJ prog (Instr.mapUpdate 243 (.map m6) (.string yN) (.agg #[.slice zf zg zh,.int .u64 ru])) AF (fun _ AH => AM (x12 + 1) ∧ A1 R p1 n1 c1 rl x2b s2c p2d n2d c2d x2e x2f x2g p2h n2h c2h t2i x2j m6 (aD BC O3) n10 TV x11 (x12 + 1) AH)))))) (∃ Vc,YF prog (Builtin.len_ #[243] 3 #[.map m6]) σ (.int .i64 Vc) ∧ R (.returned (.tuple #[.map m6,(.bool (decide (Vc = (n1 : Int))))])) σ)) : A1 R p1 n1 c1 rl x2b s2c p2d n2d c2d x2e x2f x2g p2h n2h c2h t2i x2j m6 ZT n10 TV x11 x12 σ := M.iu h ok rfl fun _ => by kernel_rfl
end Gw
namespace Dq
variable {TU : Option Addr} {Ls RG : Nat} {ZU s1 : ByteArray}
def M : Fw := ⟨prog,219,f219,[236],[2],false,[],[],[]⟩
theorem ok : M.Ok := ⟨.cons call236 (AG.nil),mixed,func219,by kernel_rfl⟩
theorem start (h : ∀ b2 : Nat,Spec prog 236 #[.agg #[.slice TU Ls RG],.string s1] σ (AA R (CB fun t8 y => R (.returned (.bool t8)) y))) : Spec prog 219 #[.agg #[.slice TU Ls RG,.string ZU],.string s1] σ R := M.start h ok
end Dq
namespace C0
variable {q0 : Option Addr} {b1 : Nat}
def M : Fw := ⟨prog,269,f269,[67,136,251],[],false,[],[],[(7,[(1,wA)])]⟩
theorem ok : M.Ok := ⟨.cons call67 (.cons call136 (.cons call251 (AG.nil))),mixed,func269,by kernel_rfl⟩
def Hi := M.pt 0
theorem start (h : Al σ fun b1 => LQ (Hp.set σ b1 (.cells #[.pointer q0] 124 (0,0))) b1 0 fun q2 => Spec prog 136 #[.pointer q2,.int .i64 5,(.string (ByteArray.mk #[40]))] (Hp.set σ b1 (.cells #[.pointer q0] 124 (0,0))) (AA R (CB fun t3 y => Bn t3 (LQ y b1 0 fun q5 => Spec prog 67 #[.pointer q5] y (AA R (fun z AF => z = (.tuple #[]) ∧ Hi R b1 AF))) (Hi R b1 y)))) : Spec prog 269 #[.pointer q0] σ R := M.start h ok
theorem Bc (h : LQ σ b1 0 fun q7 => Spec prog 251 #[.pointer q7,(.func (.func 294) #[] #[(.pointer (aD b1 0))])] σ (AA R (fun z y => z = (.tuple #[]) ∧ R (.returned (.tuple #[])) y))) : Hi R b1 σ := M.of h ok rfl
end C0
end TwW
end
end
section
namespace Tw
open Go
variable [Ej]
def Aw (τ : Hp) : List (Nat × Obj) → Hp
 | [] => τ
 | (b,o) :: L => (Aw τ L).set b o
abbrev names (L : List (Nat × Obj)) : List Nat := L.map Prod.fst
section
variable {τ : Hp} {L : List (Nat × Obj)} {b i : Nat} {o o' : Obj}
theorem IA (h : b ∉ names L) : Aw τ L b = τ b := by
 induction L with
 | nil => rfl
 | cons p L ih =>
   simp only [names,List.map_cons,List.mem_cons,not_or] at h
   simp only [Aw,Hp.AI h.1]
   exact ih h.2
theorem Ee : ∀ {L : List (Nat × Obj)} {i : Nat},(names L).Nodup → L[i]? = some (b,o) → Aw τ L b = some o
 | p :: L,0,_,h => by simp at h; subst h; exact Hp.AB _ _ _
 | p :: L,i + 1,hn,h => by
   simp only [List.getElem?_cons_succ] at h
   have hm : b ∈ names L := List.mem_map.2 ⟨_,List.mem_of_getElem? h,rfl⟩
   have hn := List.nodup_cons.1 (show (p.1 :: names L).Nodup from hn)
   have A4 : b ≠ p.1 := fun e => hn.1 (e ▸ hm)
   simp only [Aw,Hp.AI A4]
   exact Ee hn.2 h
theorem Hp.BT {σ : Hp} {a b : Nat} {o u : Obj} (h : a ≠ b) : (σ.set a o).set b u = (σ.set b u).set a o := by
 funext k
 simp only [Hp.set]
 by_cases h1 : k = a
 · subst h1; simp [h]
 · simp [h1]
theorem NR : ∀ {L : List (Nat × Obj)} {i : Nat},(names L).Nodup → L[i]? = some (b,o) → (Aw τ L).set b o' = Aw τ (L.set i (b,o'))
 | p :: L,0,_,h => by simp at h; subst h; exact Hp.set_set
 | p :: L,i + 1,hn,h => by
   simp only [List.getElem?_cons_succ] at h
   have hm : b ∈ names L := List.mem_map.2 ⟨_,List.mem_of_getElem? h,rfl⟩
   have hn := List.nodup_cons.1 (show (p.1 :: names L).Nodup from hn)
   have A4 : b ≠ p.1 := fun e => hn.1 (e ▸ hm)
   simp only [Aw,List.set_cons_succ]
   rw [Hp.BT (Ne.symm A4),NR hn.2 h]
theorem Gx : ∀ {L : List (Nat × Obj)},b ∉ names L → (Aw τ L).set b o = Aw (τ.set b o) L
 | [],_ => rfl
 | p :: L,h => by
   simp only [names,List.map_cons,List.mem_cons,not_or] at h
   simp only [Aw]
   rw [Hp.BT (Ne.symm h.1),Gx h.2]
theorem UT : ∀ {L : List (Nat × Obj)},b ∈ names L → Aw τ L b ≠ none
 | p :: L,h => by
   by_cases hb : b = p.1
   · subst hb; simp only [Aw,Hp.AB]; simp
   · simp only [names,List.map_cons,List.mem_cons] at h
     simp only [Aw,Hp.AI hb]
     exact UT (h.resolve_left hb)
theorem CA (h : Aw τ L b = none) : b ∉ names L ∧ τ b = none := by
 have hs : ∀ {L : List (Nat × Obj)},b ∉ names L → Aw τ L b = τ b := IA
 have hn : b ∉ names L := fun hm => UT hm h
 exact ⟨hn,(hs hn).symm.trans h⟩
def PH (L : List (Nat × Obj)) (τ : Hp) : Prop := ∀ b ∈ names L,τ b = none
theorem PH.ext {τ : Hp} : ∀ {L : List (Nat × Obj)},(names L).Nodup → PH L τ → Ext τ (Aw τ L)
 | [],_,_ => .refl τ
 | p :: L,hn,h => by
   have hn := List.nodup_cons.1 (show (p.1 :: names L).Nodup from hn)
   have ih := PH.ext hn.2 (fun b hb => h b (List.mem_cons_of_mem _ hb))
   refine ih.trans (.set ?_)
   rw [IA hn.1]
   exact h _ (List.mem_cons_self ..)
theorem PH.set {τ : Hp} {b : Nat} {o : Obj} (h : PH L τ) (hb : b ∉ names L) : PH L (τ.set b o) := fun c hc => by
 have A4 : c ≠ b := fun e => hb (e ▸ hc)
 rw [Hp.AI A4]; exact h c hc
end
theorem Spec.Ef {P : Program} {f : FuncId} {args : Array Value} {τ : Hp} : ∀ {L : List (Nat × Obj)} {R : Rr},(names L).Nodup → PH L τ →
   Spec P f args τ (fun e τ' => PH L τ' → R e (Aw τ' L)) → Spec P f args (Aw τ L) R
 | [],R,_,_,h => h.mono fun e τ' hr => hr (fun b hb => by cases hb)
 | p :: L,R,hn,ho,h => by
   have hn := List.nodup_cons.1 (show (p.1 :: names L).Nodup from hn)
   refine Spec.Ak (by rw [IA hn.1]; exact ho _ (List.mem_cons_self ..)) ?_
   refine Spec.Ef hn.2 (fun b hb => ho b (List.mem_cons_of_mem _ hb)) (h.mono fun e τ' hr TX F6 => hr fun b hb => ?_)
   rcases List.mem_cons.1 (show b ∈ p.1 :: names L from hb) with rfl | hb
   · rw [IA hn.1] at F6; exact F6
   · exact TX b hb
theorem AJ.Ef {P : Program} {α : Type} {m : Sem α} {τ : Hp} : ∀ {L : List (Nat × Obj)} {Φ : α → Hp → Prop},(names L).Nodup → PH L τ →
   AJ P m τ (fun v τ' => PH L τ' → Φ v (Aw τ' L)) → AJ P m (Aw τ L) Φ
 | [],R,_,_,h => h.mono fun e τ' hr => hr (fun b hb => by cases hb)
 | p :: L,R,hn,ho,h => by
   have hn := List.nodup_cons.1 (show (p.1 :: names L).Nodup from hn)
   refine AJ.Ak (by rw [IA hn.1]; exact ho _ (List.mem_cons_self ..)) ?_
   refine AJ.Ef hn.2 (fun b hb => ho b (List.mem_cons_of_mem _ hb)) (h.mono fun e τ' hr TX F6 => hr fun b hb => ?_)
   rcases List.mem_cons.1 (show b ∈ p.1 :: names L from hb) with rfl | hb
   · rw [IA hn.1] at F6; exact F6
   · exact TX b hb
theorem AJ.SK {P : Program} {τ : Hp} {L : List (Nat × Obj)} {i b n o : Nat} {T t : TypeId} {c c' : Array Value} {v : Value} {Φ : Unit → Hp → Prop} (hz : ∀ w,(Go.sizeOf T).run P w = .ok n w) (hn : (names L).Nodup) (hi : L[i]? = some (b,.cells c t (0,0)))
   (hv : v.cells.size = n) (hl : Nat.ble (o + n) c.size = true) (h1 : (v.cells.toList.all fun u => u.oneCell') = true) (hc : Mp c o v.cells.toList = c') (h : Φ () (Aw τ (L.set i (b,.cells c' t (0,0))))) :
   AJ P (Instr.storeAt T (.pointer (some ⟨b,o,none⟩)) v) (Aw τ L) Φ := by
 subst hc
 refine AJ.store hz (Ee hn hi) hv (Nat.le_of_ble_eq_true hl) (fun u hu => List.all_eq_true.1 h1 u hu) ?_
 rw [NR hn hi]; exact h
theorem YJ {τ : Hp} {L : List (Nat × Obj)} {i b o : Nat} {t : TypeId} {c : Array Value} {v : Value} (hn : (names L).Nodup) (hi : L[i]? = some (b,.cells c t (0,0))) (h : c[o]? = some v) : Hp.ld (Aw τ L) ⟨b,o,none⟩ = some v := by
 simp [Hp.ld,Ee hn hi,h]
end Tw
end
section
namespace Tw
open Go Go.MapKept
variable [Ej]
def Qh (p : Option Addr) : List Nat := match p with
 | some a => [a.block]
 | none => []
structure Loc (A : Hp → Prop) (σ : Hp) (S : List Nat) : Prop where
 here : A σ
 known : ∀ b ∈ S,σ b ≠ none
 loc : ∀ σ',(∀ b ∈ S,σ' b = σ b) → A σ'
section
variable {P : Program} {σ : Hp} {α : Type}
theorem AJ.obj {m : Sem α} {b : Nat} {o o' : Obj} {v : α} {Φ : α → Hp → Prop} (hb : σ b = some o) (hm : ∀ w,Sat σ w → ∃ w1 : World,(w1 = w ∨ w1 = w.drew) ∧ m.run P w = .ok v (ChangeMaps.setBlock w1 b o')) (h : Φ v (σ.set b o')) : AJ P m σ Φ := fun w F hs hF => by
 obtain ⟨w1,hw,Ca⟩ := hm w hs
 have Ax : b < w.heap.size := (Array.getElem?_eq_some_iff.1 (hs b o hb)).1
 have Mw : w1.heap = w.heap := by rcases hw with rfl | rfl <;> rfl
 refine ⟨v,_,_,Ca,h,fun k u hk => ?_,fun k hk => ?_,?_,?_,?_⟩
 · simp only [ChangeMaps.setBlock,Mw]
   by_cases GG : k = b
   · subst GG; rw [Hp.AB] at hk; cases hk; simp [Ax]
   · rw [Hp.AI GG] at hk; simp [Ne.symm GG,hs k u hk]
 · have GG : k ≠ b := fun e => by have := (hF k hk).2; rw [e,hb] at this; cases this
   refine ⟨by rw [Hp.AI GG]; exact (hF k hk).2,?_⟩
   simp [ChangeMaps.setBlock,Mw,Ne.symm GG]
 · rcases hw with rfl | rfl
   · exact .same rfl rfl rfl
   · exact ⟨rfl,rfl,fun _ => ⟨1,rfl⟩⟩
 · rcases hw with rfl | rfl <;> rfl
 · simp [ChangeMaps.setBlock,Mw]
theorem AJ.new {m : Sem α} {o : Obj} {v : Nat → α} {Φ : α → Hp → Prop} (hm : ∀ w,Sat σ w → m.run P w = .ok (v w.heap.size) (w.alloc o)) (h : ∀ b,σ b = none → Φ (v b) (σ.set b o)) : AJ P m σ Φ := fun w F hs hF =>
 ⟨_,_,_,hm w hs,h _ (FO hs),Fin.alloc hs hF _ rfl (.same rfl rfl rfl) rfl⟩
class mZ (P : Program) (T : TypeId) (K V : outParam TypeId) : Prop where
 cb : P.underlying T = some (.map K V)
 key : P.underlying K = some .string
def BL (σ : Hp) (b : Nat) (l : List MapEntry) (clock : Nat) : Prop := σ b = some (.map l.toArray clock) ∧ Stamped l.toArray clock ∧ ∀ x ∈ l,IsKey .string x.key
theorem BL.mono {σ σ' : Hp} {b : Nat} {l : List MapEntry} {clock : Nat} (h : BL σ b l clock) (hx : Ext σ σ') : BL σ' b l clock := ⟨hx _ _ h.1,h.2⟩
theorem BL.loc {σ σ' : Hp} {b : Nat} {l : List MapEntry} {clock : Nat} (h : BL σ b l clock) (hx : σ' b = σ b) : BL σ' b l clock := ⟨hx.trans h.1,h.2⟩
theorem BL.nodup {σ : Hp} {b : Nat} {l : List MapEntry} {clock : Nat} (h : BL σ b l clock) : (l.map (·.key)).Nodup := h.2.1.2.2
theorem FB {s : ByteArray} {l : List MapEntry} (hk : ∀ x ∈ l,IsKey .string x.key) :
   (Instr.findNow .string (.string s) l 0 = some none ∧ ∀ x ∈ l,x.key ≠ .string s) ∨ ∃ l1 e l2,l = l1 ++ e :: l2 ∧ e.key = .string s ∧ Instr.findNow .string (.string s) l 0 = some (some (l1.length,e.val)) := by
 rcases findNow_spec (d := .string) (k := .string s) trivial l 0 hk with h | ⟨j,e,h1,h2,h3⟩
 · exact .inl h
 · obtain ⟨hj,rfl⟩ := List.getElem?_eq_some_iff.1 h2
   refine .inr ⟨l.take j,l[j],l.drop (j + 1),?_,h3,?_⟩
   · rw [List.getElem_cons_drop,List.take_append_drop]
   · rw [h1]; simp [Nat.min_eq_left (Nat.le_of_lt hj)]
section
variable {T K V ty : TypeId} {b clock : Nat} {l : List MapEntry} {s : ByteArray}
theorem EA {Φ : Value → Hp → Prop} (h : ∀ b,σ b = none → Φ (.map (some b)) (σ.set b (.map #[] 0))) : AJ P (Instr.makeMap T none) σ Φ :=
 AJ.new (v := fun b => .map (some b)) (fun w _ => by simp [Instr.makeMap,Result.andThen]) h
theorem BL.fresh {b : Nat} {σ : Hp} : BL (σ.set b (.map #[] 0)) b [] 0 := ⟨Hp.AB _ _ _,stamped_empty 0,by simp⟩
theorem OX [t : mZ P T K V] (hm : BL σ b l clock) {z : Value} (hz : ∀ w,(zeroValue V).run P w = .ok z w) {Q : Value → Prop}
   (h0 : (∀ x ∈ l,x.key ≠ .string s) → Q z) (h1 : ∀ l1 e l2,l = l1 ++ e :: l2 → e.key = .string s → Q e.val) : ∃ v,Q v ∧ YF P (Instr.lookup T (.map (some b)) (.string s) false) σ v := by
 rcases FB (s := s) hm.2.2 with ⟨hf,hn⟩ | ⟨l1,e,l2,hl,he,hf⟩
 · refine ⟨z,h0 hn,fun w hs => ?_⟩
   have := hs _ _ hm.1
   simp [Instr.lookup,run_underlying t.cb,run_getObj_map this,run_checkKey t.key (k := .string s) trivial,run_findKey t.key hf,hz,Result.andThen]
 · refine ⟨e.val,h1 l1 e l2 hl he,fun w hs => ?_⟩
   have := hs _ _ hm.1
   simp [Instr.lookup,run_underlying t.cb,run_getObj_map this,run_checkKey t.key (k := .string s) trivial,run_findKey t.key hf,Result.andThen]
theorem Mb [t : mZ P T K V] (hm : BL σ b l clock) {z : Value} (hz : ∀ w,(zeroValue V).run P w = .ok z w) {Φ : Value → Hp → Prop}
   (h0 : (∀ x ∈ l,x.key ≠ .string s) → Φ z σ) (h1 : ∀ l1 e l2,l = l1 ++ e :: l2 → e.key = .string s → Φ e.val σ) : AJ P (Instr.lookup T (.map (some b)) (.string s) false) σ Φ := by
 obtain ⟨v,hq,hy⟩ := OX (T := T) (K := K) (s := s) (Q := fun v => Φ v σ) hm hz h0 h1
 exact AJ.pu hy hq
theorem ma [t : mZ P T K V] (hm : BL σ b l clock) : YF P (Builtin.len_ #[T] ty #[.map (some b)]) σ (.int .i64 l.length) := fun w hs => by
 have := hs _ _ hm.1
 simp [Builtin.len_,run_underlying t.cb,run_getObj_map this,goInt,Result.andThen]
abbrev M3 (s : ByteArray) (v : Value) (n : Nat) : MapEntry := { key := .string s,val := v,born := n }
theorem He [t : mZ P T K V] (hm : BL σ b l clock) {v : Value} {Φ : Unit → Hp → Prop}
   (h0 : (∀ x ∈ l,x.key ≠ .string s) → ∀ σ',σ' = σ.set b (.map (l ++ [M3 s v clock]).toArray (clock + 1)) → BL σ' b (l ++ [M3 s v clock]) (clock + 1) → Φ () σ')
   (h1 : ∀ l1 e l2,l = l1 ++ e :: l2 → e.key = .string s → ∀ σ',σ' = σ.set b (.map (l1 ++ M3 s v e.born :: l2).toArray clock) → BL σ' b (l1 ++ M3 s v e.born :: l2) clock → Φ () σ') :
   AJ P (Instr.mapUpdate T (.map (some b)) (.string s) v) σ Φ := by
 obtain ⟨hb,CV,hk⟩ := hm
 rcases FB (s := s) hk with ⟨hf,hn⟩ | ⟨l1,e,l2,hl,he,hf⟩
 · have YK : (l ++ [M3 s v clock]).toArray = l.toArray.push (M3 s v clock) := by simp
   refine AJ.obj (v := ()) (o' := .map (l ++ [M3 s v clock]).toArray (clock + 1)) hb (fun w hs => ⟨w,.inl rfl,?_⟩) (h0 hn _ rfl ⟨Hp.AB _ _ _,?_,?_⟩)
   · have := hs _ _ hb
     rw [YK]
     simp only [Instr.mapUpdate,Sem.run_bind,run_underlying t.cb,run_getObj_map this,run_checkKey t.key (k := .string s) trivial,run_findKey t.key hf,Result.andThen_ok]
     simp [setObj,Sem.run,this,ChangeMaps.setBlock]
   · rw [YK]; exact stamped_push CV (by simpa using hn)
   · intro x hx
     rcases List.mem_append.1 hx with hx | hx
     · exact hk x hx
     · rw [List.mem_singleton] at hx; subst hx; trivial
 · subst hl
   have mc : (l1 ++ M3 s v e.born :: l2).toArray = (l1 ++ e :: l2).toArray.modify l1.length (fun e => { e with key := .string s,val := v }) := by
     rw [← Array.toList_inj]
     apply List.ext_getElem?
     intro j
     simp only [Array.getElem?_toList,Array.getElem?_modify,List.getElem?_toArray]
     by_cases hj : l1.length = j
     · subst hj; simp
     · rw [if_neg hj]
       rcases Nat.lt_or_ge j l1.length with h | h
       · rw [List.getElem?_append_left h,List.getElem?_append_left h]
       · have : ∃ k,j = l1.length + (k + 1) := ⟨j - l1.length - 1,by omega⟩
         obtain ⟨k,rfl⟩ := this
         simp [List.getElem?_append_right]
   have gE : (l1 ++ e :: l2).toArray[l1.length]? = some e := by simp
   refine AJ.obj (v := ()) (o' := .map (l1 ++ M3 s v e.born :: l2).toArray clock) hb (fun w hs => ⟨w,.inl rfl,?_⟩) (h1 l1 e l2 rfl he _ rfl ⟨Hp.AB _ _ _,?_,?_⟩)
   · have := hs _ _ hb
     rw [mc]
     simp only [Instr.mapUpdate,Sem.run_bind,run_underlying t.cb,run_getObj_map this,run_checkKey t.key (k := .string s) trivial,run_findKey t.key hf,Result.andThen_ok,gE,Option.map_some,Option.getD_some,he,
       run_keyThatStays (d := .string) (k := .string s) trivial]
     simp [setObj,Sem.run,this,ChangeMaps.setBlock]
   · rw [mc]; exact stamped_modify CV _ _ (fun _ _ => rfl) (fun e' _ WS => by rw [gE] at WS; cases WS; exact he.symm)
   · intro x hx
     rcases List.mem_append.1 hx with hx | hx
     · exact hk x (List.mem_append_left _ hx)
     · rcases List.mem_cons.1 hx with rfl | hx
       · trivial
       · exact hk x (List.mem_append_right _ (List.mem_cons_of_mem _ hx))
end
end
end Tw
end
section
theorem Tw.Hp.AX {σ : Tw.Hp} {b k : Nat} {o : Go.Obj} (h : (σ.set b o) k = none) : k ≠ b ∧ σ k = none := by
 have A4 : k ≠ b := fun e => by rw [e,Tw.Hp.AB] at h; cases h
 exact ⟨A4,by rw [Tw.Hp.AI A4] at h; exact h⟩
namespace me
open Go Go.MapKept Tw
variable [Ej]
section
variable {P : Program} {σ : Hp}
class qB (P : Program) (T : TypeId) (K V : outParam TypeId) : Prop where
 cb : P.underlying T = some (.map K V)
 key : P.underlying K = some (.int .i64)
def BL (σ : Hp) (b : Nat) (l : List MapEntry) (clock : Nat) : Prop := σ b = some (.map l.toArray clock) ∧ Stamped l.toArray clock ∧ ∀ x ∈ l,IsKey (.int .i64) x.key
theorem BL.loc {σ σ' : Hp} {b : Nat} {l : List MapEntry} {clock : Nat} (h : BL σ b l clock) (hx : σ' b = σ b) : BL σ' b l clock := ⟨hx.trans h.1,h.2⟩
theorem FB {s : Int} {l : List MapEntry} (hk : ∀ x ∈ l,IsKey (.int .i64) x.key) :
   (Instr.findNow (.int .i64) (.int .i64 s) l 0 = some none ∧ ∀ x ∈ l,x.key ≠ .int .i64 s) ∨ ∃ l1 e l2,l = l1 ++ e :: l2 ∧ e.key = .int .i64 s ∧ Instr.findNow (.int .i64) (.int .i64 s) l 0 = some (some (l1.length,e.val)) := by
 rcases findNow_spec (d := .int .i64) (k := .int .i64 s) rfl l 0 hk with h | ⟨j,e,h1,h2,h3⟩
 · exact .inl h
 · obtain ⟨hj,rfl⟩ := List.getElem?_eq_some_iff.1 h2
   refine .inr ⟨l.take j,l[j],l.drop (j + 1),?_,h3,?_⟩
   · rw [List.getElem_cons_drop,List.take_append_drop]
   · rw [h1]; simp [Nat.min_eq_left (Nat.le_of_lt hj)]
section
variable {T K V ty : TypeId} {b clock : Nat} {l : List MapEntry} {s : Int}
theorem BL.fresh {b : Nat} {σ : Hp} : BL (σ.set b (.map #[] 0)) b [] 0 := ⟨Hp.AB _ _ _,stamped_empty 0,by simp⟩
theorem OX [t : qB P T K V] (hm : BL σ b l clock) {z : Value} (hz : ∀ w,(zeroValue V).run P w = .ok z w) {Q : Value → Prop}
   (h0 : (∀ x ∈ l,x.key ≠ .int .i64 s) → Q z) (h1 : ∀ l1 e l2,l = l1 ++ e :: l2 → e.key = .int .i64 s → Q e.val) : ∃ v,Q v ∧ YF P (Instr.lookup T (.map (some b)) (.int .i64 s) false) σ v := by
 rcases FB (s := s) hm.2.2 with ⟨hf,hn⟩ | ⟨l1,e,l2,hl,he,hf⟩
 · refine ⟨z,h0 hn,fun w hs => ?_⟩
   have := hs _ _ hm.1
   simp [Instr.lookup,run_underlying t.cb,run_getObj_map this,run_checkKey t.key (k := .int .i64 s) rfl,run_findKey t.key hf,hz,Result.andThen]
 · refine ⟨e.val,h1 l1 e l2 hl he,fun w hs => ?_⟩
   have := hs _ _ hm.1
   simp [Instr.lookup,run_underlying t.cb,run_getObj_map this,run_checkKey t.key (k := .int .i64 s) rfl,run_findKey t.key hf,Result.andThen]
theorem Mb [t : qB P T K V] (hm : BL σ b l clock) {z : Value} (hz : ∀ w,(zeroValue V).run P w = .ok z w) {Φ : Value → Hp → Prop}
   (h0 : (∀ x ∈ l,x.key ≠ .int .i64 s) → Φ z σ) (h1 : ∀ l1 e l2,l = l1 ++ e :: l2 → e.key = .int .i64 s → Φ e.val σ) : AJ P (Instr.lookup T (.map (some b)) (.int .i64 s) false) σ Φ := by
 obtain ⟨v,hq,hy⟩ := OX (T := T) (K := K) (s := s) (Q := fun v => Φ v σ) hm hz h0 h1
 exact AJ.pu hy hq
theorem ma [t : qB P T K V] (hm : BL σ b l clock) : YF P (Builtin.len_ #[T] ty #[.map (some b)]) σ (.int .i64 l.length) := fun w hs => by
 have := hs _ _ hm.1
 simp [Builtin.len_,run_underlying t.cb,run_getObj_map this,goInt,Result.andThen]
abbrev M3 (s : Int) (v : Value) (n : Nat) : MapEntry := { key := .int .i64 s,val := v,born := n }
theorem He [t : qB P T K V] (hm : BL σ b l clock) {v : Value} {Φ : Unit → Hp → Prop}
   (h0 : (∀ x ∈ l,x.key ≠ .int .i64 s) → ∀ σ',σ' = σ.set b (.map (l ++ [M3 s v clock]).toArray (clock + 1)) → BL σ' b (l ++ [M3 s v clock]) (clock + 1) → Φ () σ')
   (h1 : ∀ l1 e l2,l = l1 ++ e :: l2 → e.key = .int .i64 s → ∀ σ',σ' = σ.set b (.map (l1 ++ M3 s v e.born :: l2).toArray clock) → BL σ' b (l1 ++ M3 s v e.born :: l2) clock → Φ () σ') :
   AJ P (Instr.mapUpdate T (.map (some b)) (.int .i64 s) v) σ Φ := by
 obtain ⟨hb,CV,hk⟩ := hm
 rcases FB (s := s) hk with ⟨hf,hn⟩ | ⟨l1,e,l2,hl,he,hf⟩
 · have YK : (l ++ [M3 s v clock]).toArray = l.toArray.push (M3 s v clock) := by simp
   refine AJ.obj (v := ()) (o' := .map (l ++ [M3 s v clock]).toArray (clock + 1)) hb (fun w hs => ⟨w,.inl rfl,?_⟩) (h0 hn _ rfl ⟨Hp.AB _ _ _,?_,?_⟩)
   · have := hs _ _ hb
     rw [YK]
     simp only [Instr.mapUpdate,Sem.run_bind,run_underlying t.cb,run_getObj_map this,run_checkKey t.key (k := .int .i64 s) rfl,run_findKey t.key hf,Result.andThen_ok]
     simp [setObj,Sem.run,this,ChangeMaps.setBlock]
   · rw [YK]; exact stamped_push CV (by simpa using hn)
   · intro x hx
     rcases List.mem_append.1 hx with hx | hx
     · exact hk x hx
     · rw [List.mem_singleton] at hx; subst hx; rfl
 · subst hl
   have mc : (l1 ++ M3 s v e.born :: l2).toArray = (l1 ++ e :: l2).toArray.modify l1.length (fun e => { e with key := .int .i64 s,val := v }) := by
     rw [← Array.toList_inj]
     apply List.ext_getElem?
     intro j
     simp only [Array.getElem?_toList,Array.getElem?_modify,List.getElem?_toArray]
     by_cases hj : l1.length = j
     · subst hj; simp
     · rw [if_neg hj]
       rcases Nat.lt_or_ge j l1.length with h | h
       · rw [List.getElem?_append_left h,List.getElem?_append_left h]
       · have : ∃ k,j = l1.length + (k + 1) := ⟨j - l1.length - 1,by omega⟩
         obtain ⟨k,rfl⟩ := this
         simp [List.getElem?_append_right]
   have gE : (l1 ++ e :: l2).toArray[l1.length]? = some e := by simp
   refine AJ.obj (v := ()) (o' := .map (l1 ++ M3 s v e.born :: l2).toArray clock) hb (fun w hs => ⟨w,.inl rfl,?_⟩) (h1 l1 e l2 rfl he _ rfl ⟨Hp.AB _ _ _,?_,?_⟩)
   · have := hs _ _ hb
     rw [mc]
     simp only [Instr.mapUpdate,Sem.run_bind,run_underlying t.cb,run_getObj_map this,run_checkKey t.key (k := .int .i64 s) rfl,run_findKey t.key hf,Result.andThen_ok,gE,Option.map_some,Option.getD_some,he,
       run_keyThatStays (d := .int .i64) (k := .int .i64 s) rfl]
     simp [setObj,Sem.run,this,ChangeMaps.setBlock]
   · rw [mc]; exact stamped_modify CV _ _ (fun _ _ => rfl) (fun e' _ WS => by rw [gE] at WS; cases WS; exact he.symm)
   · intro x hx
     rcases List.mem_append.1 hx with hx | hx
     · exact hk x (List.mem_append_left _ hx)
     · rcases List.mem_cons.1 hx with rfl | hx
       · rfl
       · exact hk x (List.mem_append_right _ (List.mem_cons_of_mem _ hx))
end
end
end me
end
section
namespace Tw
open Go
variable [Ej]
def SL (s : ByteArray) : List Value := s.data.toList.map fun b => .int .u8 b.toNat
theorem mg {s : ByteArray} : (SL s).length = s.size := by simp [SL]
theorem mh {s : ByteArray} : GF (SL s) := fun u hu => by obtain ⟨x,_,rfl⟩ := List.mem_map.1 hu; rfl
section append
variable {P : Program} {T E ty : TypeId} {bs : Nat} {σ : Hp} {p : Option Addr} {n c m : Nat} {cs ys : List Value} {Φ : Value → Hp → Prop}
theorem SM {str : ByteArray} (w : World) (size : Nat) : (Builtin.firstCells size str.size (.string str)).run P w = .ok (SL str).toArray w := by
 have hx : (Array.map (fun b : UInt8 => Value.int IntKind.u8 (b.toNat : Int)) str.data).extract 0 str.size = (SL str).toArray := by
   have hs : str.size = (Array.map (fun b : UInt8 => Value.int IntKind.u8 (b.toNat : Int)) str.data).size := by rw [Array.size_map]; rfl
   rw [hs,Array.extract_size]
   apply Array.ext'
   simp [SL]
 have A5 : Array.map (fun b : UInt8 => Value.int IntKind.u8 (b.toNat : Int)) str.data = (SL str).toArray := by apply Array.ext'; simp [SL]
 simp [Builtin.firstCells,A5]
theorem sC [h : Ja P T E 1 bs] {U : TypeId} {str : ByteArray} (hU : P.underlying U = some .string) (BN : A6 1 σ p n c cs) (hm : str.size = m) (uE : SL str = ys) (hb : (n + m) * bs ≤ 140737488355328)
   (hΦ : ∀ p' c' σ',A6 1 σ' p' (n + m) c' (cs ++ ys) → Ext (σ.del p) (σ'.del p') → ((p' = p ∧ c' = c ∧ n + m ≤ c) ∨ (c < n + m ∧ Ext σ σ' ∧ ∀ a,p' = some a → σ a.block = none)) → Φ (.slice p' (n + m) c') σ') :
   AJ P (Builtin.append_ #[T,U] ty #[.slice p n c,.string str]) σ Φ := by
 obtain ⟨ht,⟨i,z,hi,hz,JR,rfl,hzs⟩,Qd,jX⟩ := h
 have h1 : GF ys := uE ▸ mh
 have hyl : ys.length = m * 1 := by rw [← uE,← hm,Nat.mul_one]; exact mg
 have h62 : n + m ≤ 140737488355328 := Nat.le_trans (Nat.le_mul_of_pos_right _ jX) hb
 intro w F hs hF
 have hf := SM (P := P) (str := str) w 1
 rw [uE,hm] at hf
 have qL := fun w' : World => SM (P := P) (str := str) w' 1
 rw [uE,hm] at qL
 have My := fun w' (hw : Sat σ w') => Ky (P := P) (d := c) w' hw BN.rd
 have hlen : (cs ++ ys).length = (n + m) * 1 := by rw [List.length_append,BN.1,hyl,Nat.add_mul]
 by_cases HH : n + m ≤ c
 · -- there is room
   rcases BN.2.2 with ⟨hp,hn,hc⟩ | ⟨b,o,arr,T',rfl,hblk,ik,HY,Mq⟩
   · subst hp hn hc
     have hm : m = 0 := by omega
     subst hm
     have uE : ys = [] := List.eq_nil_of_length_eq_zero (by simpa using hyl)
     have Mq : cs = [] := List.eq_nil_of_length_eq_zero (by simpa using BN.1)
     subst uE Mq
     refine ⟨.slice none 0 0,w,σ,?_,hΦ none 0 σ A6.nil (Ext.refl _) (.inl ⟨rfl,rfl,HH⟩),hs,fun b hb => ⟨(hF b hb).2,rfl⟩,.same rfl rfl rfl,rfl,Nat.le_refl _⟩
     simp [Builtin.append_,run_underlying ht,run_underlying hU,JR,hm,Go.sizeOf,typeInfo,hi,Builtin.lenOf,hf]
   · have hw := hs _ _ hblk
     have wx : o + n * 1 + 0 + ys.length ≤ arr.size := by
       rw [hyl]
       have : (n + m) * 1 ≤ c * 1 := Nat.mul_le_mul_right _ HH
       rw [Nat.add_mul] at this
       omega
     have CV := EI (P := P) b (o + n * 1) T' ys 0 arr w hw wx h1
     simp only [Nat.add_zero,Nat.mul_one] at CV
     refine ⟨.slice (some ⟨b,o,none⟩) (n + m) c,w.setRow b (Mp arr (o + n) ys),σ.set b (.cells (Mp arr (o + n) ys) T' (0,0)),?_,hΦ _ _ _ ⟨hlen,by omega,.inr ⟨b,o,_,T',rfl,Hp.AB _ _ _,HH,by rw [Hs]; exact HY,?_⟩⟩ (by rw [Hp.IT]; exact Ext.refl _) (.inl ⟨rfl,rfl,HH⟩),?_⟩
     · simp [Builtin.append_,run_underlying ht,run_underlying hU,JR,hm,Go.sizeOf,typeInfo,hi,Builtin.lenOf,HH,hf,Bg,CV]
     · refine List.ext_getElem? fun j => ?_
       rw [List.getElem?_take]
       simp only [List.getElem?_drop,Array.getElem?_toList]
       rw [P9 _ _ _ _ (by omega),List.getElem?_append]
       have e1 : cs.length = n * 1 := BN.1
       have e2 : ys.length = m * 1 := hyl
       have e3 : (n + m) * 1 = n * 1 + m * 1 := Nat.add_mul ..
       by_cases wy : j < cs.length
       · rw [if_pos (by omega),if_neg (by omega),if_pos wy,← Mq,List.getElem?_take,if_pos (by omega)]
         simp
       · rw [if_neg wy]
         by_cases hj2 : j < (n + m) * 1
         · rw [if_pos hj2,if_pos (by omega),show o + j - (o + n) = j - cs.length by omega]
         · rw [if_neg hj2,List.getElem?_eq_none (by omega)]
     · refine ⟨fun k u hk => ?_,fun k hk => ?_,.same rfl rfl rfl,rfl,by simp⟩
       · by_cases GG : k = b
         · subst GG; rw [Hp.AB] at hk; cases hk; exact setRow_heap w k arr _ T' (0,0) hw
         · rw [Hp.AI GG] at hk; rw [setRow_other _ _ _ _ GG]; exact hs k u hk
       · have GG : k ≠ b := fun h => by have := (hF k hk).2; rw [h,hblk] at this; cases this
         exact ⟨by rw [Hp.AI GG]; exact (hF k hk).2,setRow_other _ _ _ _ GG⟩
 · -- it AB3
   have AB4 : Builtin.nextslicecap (n + m) c * i.bytes ≤ 281474976710656 := growslice_fits (by omega) hb
   have hgc := grownCap_ge w (n + m) c E
   have TN : Sat σ w.drew := hs
   have Ca : (Builtin.append_ #[T,U] ty #[.slice p n c,.string str]).run P w =
       .ok (.slice (some ⟨w.heap.size,0,none⟩) (n + m) (grownCap w (n + m) c E))
         (w.drew.alloc (.cells (cs.toArray ++ ys.toArray ++ Builtin.zeroCells z.cells (grownCap w (n + m) c E - (n + m))) E)) := by
     have wz : ¬ (9223372036854775807 < ((n : Int) + (m : Int))) := by omega
     have w6 : ¬ (281474976710656 < Builtin.nextslicecap (n + m) c * i.bytes) := by omega
     simp [Builtin.append_,run_underlying ht,run_underlying hU,JR,hm,Go.sizeOf,typeInfo,zeroValue,hi,hz,Builtin.lenOf,HH,wz,w6,Question.forced,qL,My _ TN,newRow,grownCap]
     congr 2
     apply Array.ext'
     simp [List.append_assoc]
   refine ⟨_,_,σ.set w.heap.size _,Ca,hΦ _ _ _ ⟨hlen,by omega,.inr ⟨w.heap.size,0,_,E,rfl,Hp.AB _ _ _,hgc,?_,?_⟩⟩ ?_ (.inr ⟨by omega,Ext.set (FO hs),fun a ha => by cases ha; exact FO hs⟩),Fin.alloc hs hF _ rfl ⟨rfl,rfl,fun _ => ⟨1,rfl⟩⟩ rfl⟩
   · simp only [Array.size_append,List.size_toArray,size_zeroCells,hzs,BN.1,hyl,← Nat.add_mul]
     have : n + m + (grownCap w (n + m) c E - (n + m)) = grownCap w (n + m) c E := by omega
     rw [this]; omega
   · simp only [Array.toList_append,List.drop_zero]
     rw [← hlen]
     exact List.take_left
   · rw [Hp.Mx (FO hs)]
     exact Ext.IS σ p
end append
end Tw
end
section
namespace Tw
open Go
variable [Ej]
def Hp.or (N M : Hp) : Hp := fun k => match N k with | some o => some o | none => M k
def Dis (N M : Hp) : Prop := ∀ k,M k ≠ none → N k = none
theorem Hp.sD {N M : Hp} {k : Nat} {o : Obj} (h : N k = some o) : N.or M k = some o := by simp [Hp.or,h]
theorem Hp.bB {N M : Hp} {k : Nat} (h : N k = none) : N.or M k = M k := by simp [Hp.or,h]
theorem Ext.sD (N M : Hp) : Ext N (N.or M) := fun _ _ h => Hp.sD h
theorem Ext.bB {N M : Hp} (hd : Dis N M) : Ext M (N.or M) := fun k o h => by rw [Hp.bB (hd k (by rw [h]; simp))]; exact h
theorem Ext.mi {N M σ : Hp} (h1 : Ext N σ) (h2 : Ext M σ) : Ext (N.or M) σ := fun k o h => by
 unfold Hp.or at h
 split at h
 · rename_i u hu; cases h; exact h1 _ _ hu
 · exact h2 _ _ h
end Tw
end
section
namespace TwW
open Go Tw Go.Proofs.Tryz
theorem AU {σ : Hp} {b o : Nat} {c : Array Value} {t : TypeId} {fr : Nat × Nat} {v : Value} (h : σ b = some (.cells c t fr)) (hv : c[o]? = some v) : σ.ld ⟨b,o,none⟩ = some v := by simp [Hp.ld,h,hv]
section
variable {σ : Hp} {d : Nat} {S : List Nat} {R : Rr}
end
end TwW
namespace TwW
open Go Tw Go.Proofs.Tryz
section
variable {σ : Hp} {d : Nat} {S : List Nat} {R : Rr}
theorem A6.cap {s : Nat} {σ : Hp} {p : Option Addr} {n c : Nat} {cs : List Value} (h : A6 s σ p n c cs) : n ≤ c := by
 rcases h.2.2 with ⟨_,h1,h2⟩ | ⟨b,o,arr,T,_,_,h3,_⟩
 · omega
 · exact h3
end
end TwW
namespace TwW
open Go Tw Go.Proofs.Tryz
def uv (x : Nat) : List Int := if h : 128 ≤ x then ((x % 128 + 128 : Nat) : Int) :: uv (x / 128) else [(x : Int)]
termination_by x
decreasing_by omega
theorem mj {x : Nat} (h : 128 ≤ x) : uv x = ((x % 128 + 128 : Nat) : Int) :: uv (x / 128) := by rw [uv,dif_pos h]
theorem NS {x : Nat} (h : ¬ 128 ≤ x) : uv x = [(x : Int)] := by rw [uv,dif_neg h]
theorem ml : ∀ (k x : Nat),x < 128 ^ (k + 1) → (uv x).length ≤ k + 1
 | 0,x,h => by rw [NS (by simpa using h)]; simp
 | k + 1,x,h => by
   by_cases hx : 128 ≤ x
   · rw [mj hx]
     have := ml k (x / 128) (by rw [Nat.div_lt_iff_lt_mul (by decide)]; rw [Nat.pow_succ] at h; exact h)
     simp; omega
   · rw [NS hx]; simp
theorem Kj {x : Nat} (h : x < 18446744073709551616) : (uv x).length ≤ 10 := ml 9 x (by omega)
set_option maxRecDepth 100000 in
theorem AFj : ∀ y : Fin 256,Go.bits .or .u8 (y.1 : Int) 128 = ((y.1 % 128 + 128 : Nat) : Int) := by decide
theorem NT {R : Rr} {σ : Hp} {p : Option Addr} {n c x : Nat} {xs : List Int} (hr : Ep .u8 σ p n xs) (hn : n ≤ 70368744177664) (hx : x < 18446744073709551616)
   (h : ∀ p' n' c' σ',Da .u8 (σ.new σ') p' n' c' (xs ++ uv x) → Ext σ σ' → R (.returned (.slice p' n' c')) σ') : Spec prog 107 #[.slice p n c,.int .u64 x] σ R := by
 refine Di.start fun b hb => ?_
 refine Dm A6.empty ((E4.of_map hr).mono (.set hb)) GF.QA (by omega) fun p' c' σ' BN Iv => ?_
 have hq : ∀ a : Addr,(some (⟨b,0,none⟩ : Addr)) = some a → σ a.block = none := fun a ha => by cases ha; exact hb
 have ho := A6.Qe BN (GU hq Iv (.set hb))
 have he := Kz hq Iv (.set hb)
 refine ⟨p',0 + n,c',rfl,?_⟩
 rw [Nat.zero_add] at ho ⊢
 have hlen := hr.1
 suffices H : ∀ (k x n' : Nat) p' c' σ' ys,x < 128 ^ (k + 1) → n' + k ≤ n + 9 → Da .u8 (σ.new σ') p' n' c' ys → Ext σ σ' → (∀ p' n' c' σ',Da .u8 (σ.new σ') p' n' c' (ys ++ uv x) → Ext σ σ' → R (.returned (.slice p' n' c')) σ') → Di.JD R x p' n' c' σ' from
   H 9 x n p' c' σ' xs (by omega) (by omega) ho he h
 intro k
 induction k with
 | zero =>
   intro x n' p' c' σ' ys hx WZ ho he h
   refine Di.BR ⟨fun Ax => by omega,fun _ Lu zi b2 Pb => ?_⟩
   have bC : Lu = (x : Int) := by rw [zi]; simp [IntKind.wrap,IntKind.bits,IntKind.signed]; omega
   subst bC
   refine Da.IU he ho (by omega) (fun p2 c2 σ2 Ba qC _ => ⟨p2,n' + 1,c2,rfl,h _ _ _ _ ?_ qC⟩) Pb
   rw [NS (by omega)]; exact Ba
 | succ k ih =>
   intro x n' p' c' σ' ys hx WZ ho he h
   refine Di.BR ⟨fun Ax x15 ALa x16 ALb b2 Pb => ?_,fun gE Lu zi b2 Pb => ?_⟩
   · have h15 : x15 = ((x % 256 : Nat) : Int) := by rw [ALa]; simp [IntKind.wrap,IntKind.bits,IntKind.signed]
     have h16 : x16 = ((x % 128 + 128 : Nat) : Int) := by
       rw [ALb,h15,AFj ⟨x % 256,Nat.mod_lt _ (by decide)⟩]
       have : x % 256 % 128 = x % 128 := by omega
       rw [this]
     subst h16
     refine Da.IU he ho (by omega) (fun p2 c2 σ2 Ba qC _ => ⟨p2,n' + 1,c2,rfl,by simp [IntKind.bits],fun x12 ALc => ?_⟩) Pb
     have WT : x12 = ((x / 128 : Nat) : Int) := by rw [ALc]; simp
     subst WT
     refine ih (x / 128) (n' + 1) p2 c2 σ2 _ (by rw [Nat.div_lt_iff_lt_mul (by decide)]; rw [Nat.pow_succ] at hx; exact hx) (by omega) Ba qC fun p3 n3 c3 σ3 FH he3 => h p3 n3 c3 σ3 ?_ he3
     rw [mj (by omega)]
     simpa using FH
   · have bC : Lu = (x : Int) := by rw [zi]; simp [IntKind.wrap,IntKind.bits,IntKind.signed]; omega
     subst bC
     refine Da.IU he ho (by omega) (fun p2 c2 σ2 Ba qC _ => ⟨p2,n' + 1,c2,rfl,h _ _ _ _ ?_ qC⟩) Pb
     rw [NS (by omega)]; exact Ba
end TwW
namespace TwW
open Go Tw Go.RowKit Go.Proofs.Tryz
theorem E4.at1 {σ : Hp} {p : Option Addr} {n k : Nat} {L : List Value} {v : Value} (h : E4 1 σ p n L) (hk : L[k]? = some v) : ∃ b o,p = some ⟨b,o,none⟩ ∧ σ.ld ⟨b,o + k * 1,none⟩ = some v := by
 obtain ⟨h1,_,h2⟩ := h
 have Ax := (List.getElem?_eq_some_iff.1 hk).1
 rcases h2 with h2 | ⟨b,o,hp,hl⟩
 · simp at h1; omega
 · refine ⟨b,o,hp,?_⟩
   rw [Nat.mul_one]
   exact hl.get hk
section
variable {σ τ : Hp} {d : Nat} {R : Rr}
end
section
variable {dir : ByteArray} {cnt : Nat}
end
end TwW
namespace TwW
open Go Tw Go.RowKit Go.Proofs.Tryz
def zj (s : ByteArray) : List Int := s.data.toList.map fun b => (b.toNat : Int)
theorem dn {s : ByteArray} : (zj s).length = s.size := by simp [zj]
theorem mn {s : ByteArray} : SL s = (zj s).map (.int .u8) := by simp [SL,zj]
section
variable {σ : Hp} {R : Rr}
theorem NU {p : Option Addr} {n c : Nat} {xs : List Int} {s : ByteArray} (hr : Ep .u8 σ p n xs) (hn : n ≤ 1048576) (hs : s.size ≤ 1048576)
   (h : ∀ p' n' c' σ',Da .u8 (σ.new σ') p' n' c' (xs ++ uv s.size ++ zj s) → Ext σ σ' → R (.returned (.slice p' n' c')) σ') : Spec prog 108 #[.slice p n c,.string s] σ R := by
 refine Lr.start fun x8 h8 => ?_
 have e8 : x8 = (s.size : Int) := by rw [h8]; simp [IntKind.wrap,IntKind.bits,IntKind.signed]; omega
 subst e8
 refine NT hr (by omega) (by omega) fun p' n' c' σ1 ho Cg => ⟨p',n',c',rfl,?_⟩
 have hq : ∀ a,p' = some a → σ a.block = none := fun a ha => by
   have h2 := A6.block ho a ha
   cases hh : (σ.new σ1) a.block with
   | none => exact absurd hh h2
   | some o => exact (Aa.1 hh).1
 have hl : (xs ++ uv s.size).length = n' := by have := ho.1; simpa using this
 have SN := Kj (x := s.size) (by omega)
 have hxl : xs.length = n := hr.1
 rw [List.length_append] at hl
 refine sC underlying9 (A6.mono (Ext.Cb _ _) ho) rfl mn (by omega) fun p2 c2 σ2 Ba A5 _ => ⟨p2,_,c2,rfl,?_⟩
 have Pb := GU hq A5 Cg
 refine h p2 _ c2 σ2 ?_ (Kz hq A5 Cg)
 have := A6.Qe Ba Pb
 simpa [Da] using this
theorem PI {p : Option Addr} {n c : Nat} {xs : List Int} (h : Da .u8 σ p n c xs) : xs.length = n := by have := h.1; simpa using this
theorem dq {s : ByteArray} : (ByteArray.toList s == ByteArray.toList (ByteArray.mk #[])) = decide (s.size = 0) := by
 rw [ByteArray.toList_eq,ByteArray.toList_eq]
 by_cases h : s.size = 0
 · have : s = ⟨#[]⟩ := ByteArray.ext (Array.eq_empty_of_size_eq_zero h)
   subst this; rfl
 · rw [decide_eq_false h]
   simp only [beq_eq_false_iff_ne]
   intro e
   apply h
   have := congrArg List.length e
   simpa using this
end
end TwW
namespace TwW
open Go Tw Go.RowKit Go.Proofs.Tryz
abbrev Lb := ByteArray × ByteArray
def CM (_ : Hp) (vs : List Value) (x : Lb) : Prop := vs = [.string x.1,.string x.2]
theorem CM.mono : G6 CM := fun _ _ _ _ _ h => h
abbrev Fo := Ae 2 CM
section
variable {σ : Hp} {R : Rr}
theorem Fo.at {p : Option Addr} {n i : Nat} {ls : List Lb} {x : Lb} (hr : Fo σ p n ls) (hx : ls[i]? = some x) : ∃ b o,p = some ⟨b,o,none⟩ ∧ As σ b (o + i * 2) [.string x.1,.string x.2] := by
 obtain ⟨b,o,vs,hp,rfl,hl⟩ := Ae.idx hr hx
 exact ⟨b,o,hp,hl⟩
theorem YL {s t : ByteArray} : (s.toList == t.toList) = decide (s = t) := by
 rw [ByteArray.toList_eq,ByteArray.toList_eq]
 by_cases h : s = t
 · subst h; simp
 · rw [decide_eq_false h,beq_eq_false_iff_ne]
   exact fun e => h (ByteArray.ext (Array.toList_inj.1 e))
theorem QN {α : Type} {xs : List α} {k : Nat} {y : α} (hy : xs[k]? = some y) : xs.drop k = y :: xs.drop (k + 1) := by
 obtain ⟨h,rfl⟩ := List.getElem?_eq_some_iff.1 hy
 exact List.drop_eq_getElem_cons h
def Dt : List Lb → ByteArray → ByteArray
 | [],_ => ⟨#[]⟩
 | x :: l,k => if x.1 = k then x.2 else Dt l k
theorem TY {p : Option Addr} {n c : Nat} {ls : List Lb} {k : ByteArray} (hr : Fo σ p n ls) (h : R (.returned (.string (Dt ls k))) σ) : Spec prog 180 #[.slice p n c,.string k] σ R := by
 refine H5.start ?_
 suffices H : ∀ d i : Nat,n - i = d → i ≤ n → Dt ls k = Dt (ls.drop i) k → H5.Hi R k p n c n i σ from H n 0 rfl (Nat.zero_le _) rfl
 intro d
 induction d with
 | zero =>
   intro i hd hi he
   refine H5.Bc ⟨fun Ax => by omega,fun _ => ?_⟩
   rw [List.drop_of_length_le (by rw [hr.1]; omega)] at he
   rw [he] at h; exact h
 | succ d ih =>
   intro i hd hi he
   refine H5.Bc ⟨fun _ => ?_,fun hh => by omega⟩
   have BM : i < n := by omega
   obtain ⟨x,hx⟩ := hr.ex BM
   obtain ⟨b,o,rfl,hl⟩ := Fo.at hr hx
   rw [QN hx,Dt] at he
   refine ⟨b,o,rfl,by omega,x.1,x.2,by simpa using hl,fun _ => ⟨fun hk => ?_,fun hk => ⟨AN BM hr.big,ih (i + 1) (by omega) (by omega) ?_⟩⟩⟩
   · rw [YL,decide_eq_true_eq] at hk
     rw [if_pos hk] at he
     rw [he] at h; exact h
   · rw [YL,decide_eq_false_iff_not] at hk
     rwa [if_neg hk] at he
theorem sE {s : ByteArray} {ok : UInt8 → Bool} {pt : Int → Prop} {G : Bool → Prop}
   (jb : G true → pt s.size) (I6 : ∀ (k : Nat) (u : UInt8),k < s.size → s.data[Int.toNat (k : Int)]? = some u → AM ((k : Int) + 1) → (ok u = true → pt ((k : Int) + 1)) → (ok u = false → G false) → pt k)
   (h : G (s.data.toList.all ok)) (hb : s.size ≤ 4611686018427387904) : pt 0 := by
 have HY : s.data.toList.length = s.size := rfl
 suffices H : ∀ d k : Nat,s.size - k = d → k ≤ s.size → (s.data.toList.take k).all ok = true → pt k from H s.size 0 rfl (Nat.zero_le _) rfl
 intro d
 induction d with
 | zero =>
   intro k hd hk JO
   rw [List.take_of_length_le (by omega)] at JO
   rw [JO] at h
   have : k = s.size := by omega
   rw [this]; exact jb h
 | succ d ih =>
   intro k hd hk JO
   have IP : k < s.size := by omega
   obtain ⟨u,hu⟩ : ∃ u,s.data.toList[k]? = some u := ⟨_,List.getElem?_eq_getElem (by omega)⟩
   refine I6 k u IP (by simpa using hu) (by unfold AM; omega) (fun hc => ih (k + 1) (by omega) (by omega) (by rw [Af hu,List.all_append,JO]; simpa using hc)) fun hc => ?_
   have : s.data.toList.all ok = false := by
     rw [List.all_eq_false]
     exact ⟨u,List.mem_of_getElem? hu,by simp [hc]⟩
   rwa [this] at h
def dgt (u : UInt8) : Bool := decide (48 ≤ u.toNat ∧ u.toNat ≤ 57)
def nch (u : UInt8) : Bool := decide (u.toNat = 95 ∨ (48 ≤ u.toNat ∧ u.toNat ≤ 57) ∨ (65 ≤ u.toNat ∧ u.toNat ≤ 90) ∨ (97 ≤ u.toNat ∧ u.toNat ≤ 122))
def Ex (s : ByteArray) : Bool := decide (0 < s.size) && decide (s.size ≤ 64) && !(s.data.toList.head?.any dgt) && s.data.toList.all nch
theorem Kk {s : ByteArray} (h : R (.returned (.bool (Ex s))) σ) : Spec prog 98 #[.string s] σ R := by
 have HY : s.data.toList.length = s.size := rfl
 refine FA.start ⟨fun h0 => ?_,fun h0 => ⟨fun h1 => ?_,fun h1 => ?_⟩⟩
 · rw [dq,decide_eq_true_eq] at h0
   simpa [Ex,h0] using h
 · have : ¬ s.size ≤ 64 := by omega
   simpa [Ex,this] using h
 · rw [dq,decide_eq_false_iff_not] at h0
   obtain ⟨u,hu⟩ : ∃ u,s.data.toList[0]? = some u := ⟨_,List.getElem?_eq_getElem (by omega)⟩
   have C1 : s.data[Int.toNat (0 : Int)]? = some u := by simpa using hu
   have hh : s.data.toList.head? = some u := by rw [← hu]; cases s.data.toList <;> rfl
   have rest : dgt u = false → FA.JQ R s 0 σ := fun hd => by
     have e : Ex s = s.data.toList.all nch := by simp [Ex,show 0 < s.size by omega,show s.size ≤ 64 by omega,hh,hd]
     rw [e] at h
     refine sE (s := s) (pt := fun k => FA.JQ R s k σ) (ok := nch) (G := fun t => R (.returned (.bool t)) σ) (fun g => FA.NK ⟨fun Ax => by omega,fun _ => g⟩) (fun k u hk hu hi good bad => ?_) h (by omega)
     simp only [nch,decide_eq_true_eq,decide_eq_false_iff_not] at good bad
     refine FA.NK ⟨fun Ax => ⟨u,by omega,hu,?_⟩,fun gE => by omega⟩
     clear h
     generalize u.toNat = n at good bad
     repeat' (first | refine ⟨fun _ => ?_,fun _ => ?_⟩ | exact ⟨hi,good (by omega)⟩ | exact bad (by omega))
   simp only [dgt,decide_eq_false_iff_not] at rest
   refine ⟨u,by omega,C1,fun h2 => ⟨u,by omega,C1,fun h3 => ?_,fun h3 => rest (by omega)⟩,fun h2 => rest (by omega)⟩
   have : dgt u = true := by simp [dgt]; omega
   simpa [Ex,hh,this] using h
def vl : Nat → Nat → Nat → List UInt8 → Bool
 | 0,_,_,[] => true
 | _ + 1,_,_,[] => false
 | 0,_,_,c :: r =>
   if c.toNat < 128 then vl 0 128 191 r
   else if 194 ≤ c.toNat ∧ c.toNat ≤ 223 then vl 1 128 191 r
   else if 224 ≤ c.toNat ∧ c.toNat ≤ 239 then (if c.toNat = 224 then vl 2 160 191 r else if c.toNat = 237 then vl 2 128 159 r else vl 2 128 191 r)
   else if 240 ≤ c.toNat ∧ c.toNat ≤ 244 then (if c.toNat = 240 then vl 3 144 191 r else if c.toNat = 244 then vl 3 128 143 r else vl 3 128 191 r)
   else false
 | m + 1,lo,hi,c :: r => if c.toNat < lo ∨ hi < c.toNat then false else vl m 128 191 r
def TZ (s : ByteArray) : Bool := vl 0 128 191 s.data.toList
theorem vl0 (l : List UInt8) (a b c d : Nat) : vl 0 a b l = vl 0 c d l := by cases l <;> rfl
attribute [local irreducible] Ai.BF Ai.HB Ai.ku in
theorem Pw {s : ByteArray} (hb : s.size ≤ 4611686018427387904) (h : R (.returned (.bool (TZ s))) σ) : Spec prog 99 #[.string s] σ R := by
 have HY : s.data.toList.length = s.size := rfl
 refine Ai.start ?_
 suffices H : ∀ d : Nat,(∀ k : Nat,s.size - k = d → k ≤ s.size → TZ s = vl 0 128 191 (s.data.toList.drop k) → Ai.BF R s k σ) ∧
     (∀ (k m lo hi : Nat),s.size - k = d → k ≤ s.size → TZ s = vl m lo hi (s.data.toList.drop k) → m ≤ 3 → Ai.ku R s k m lo hi σ) from (H s.size).1 0 (by omega) (by omega) rfl
 intro d
 induction d with
 | zero =>
   have A : ∀ k : Nat,s.size - k = 0 → k ≤ s.size → TZ s = vl 0 128 191 (s.data.toList.drop k) → Ai.BF R s k σ := fun k hd hk he => by
     refine Ai.Ay ⟨fun _ => ?_,fun A4 => by omega⟩
     rw [List.drop_of_length_le (by omega)] at he
     rw [he] at h; exact h
   refine ⟨A,fun k m lo hi hd hk he hm => Ai.dX ⟨fun h0 => A k hd hk ?_,fun h0 => ⟨fun _ => ?_,fun A4 => by omega⟩⟩⟩
   · have : m = 0 := by omega
     subst this; rw [he]; exact vl0 _ _ _ _ _
   · obtain ⟨m',rfl⟩ : ∃ m',m = m' + 1 := ⟨m - 1,by omega⟩
     rw [List.drop_of_length_le (by omega)] at he
     rw [he] at h; exact h
 | succ d ih =>
   have A : ∀ k : Nat,s.size - k = d + 1 → k ≤ s.size → TZ s = vl 0 128 191 (s.data.toList.drop k) → Ai.BF R s k σ := fun k hd hk he => by
     have IP : k < s.size := by omega
     obtain ⟨u,hu⟩ : ∃ u,s.data.toList[k]? = some u := ⟨_,List.getElem?_eq_getElem (by omega)⟩
     have C1 : s.data[Int.toNat (k : Int)]? = some u := by simpa using hu
     have hi : AM ((k : Int) + 1) := by unfold AM; omega
     rw [QN hu,vl] at he
     have st : ∀ (m lo hi : Nat),m ≤ 3 → TZ s = vl m lo hi (s.data.toList.drop (k + 1)) → Ai.HB R s k m lo hi σ := fun m lo hh hm he => Ai.rY ⟨hi,ih.2 (k + 1) m lo hh (by omega) (by omega) he hm⟩
     have nx : TZ s = vl 0 128 191 (s.data.toList.drop (k + 1)) → Ai.BF R s ((k : Int) + 1) σ := fun he => ih.1 (k + 1) (by omega) (by omega) he
     have no : TZ s = false → R (.returned (.bool false)) σ := fun e => by rw [e] at h; exact h
     refine Ai.Ay ⟨fun A4 => by omega,fun _ => ⟨u,by omega,C1,?_⟩⟩
     generalize s.data.toList.drop (k + 1) = r at he st nx
     clear ih h hu C1
     generalize u.toNat = n at he
     have st1 := st 1 128 191 (by omega)
     have st2 := st 2 160 191 (by omega)
     have uF := st 2 128 159 (by omega)
     have st4 := st 2 128 191 (by omega)
     have st5 := st 3 144 191 (by omega)
     have st6 := st 3 128 143 (by omega)
     have st7 := st 3 128 191 (by omega)
     repeat' (first | refine ⟨fun _ => ?_,fun _ => ?_⟩ | refine ⟨hi,nx ?_⟩ | refine st1 ?_ | refine st2 ?_ | refine uF ?_ | refine st4 ?_ | refine st5 ?_ | refine st6 ?_ | refine st7 ?_ | refine no ?_)
     all_goals first | (exfalso; clear he; omega) | (rw [he]; repeat' (first | rfl | rw [if_pos (by omega)] | rw [if_neg (by omega)]))
   refine ⟨A,fun k m lo hi hd hk he hm => Ai.dX ⟨fun h0 => A k hd hk ?_,fun h0 => ⟨fun A4 => by omega,fun _ => ?_⟩⟩⟩
   · have : m = 0 := by omega
     subst this; rw [he]; exact vl0 _ _ _ _ _
   · obtain ⟨m',rfl⟩ : ∃ m',m = m' + 1 := ⟨m - 1,by omega⟩
     have IP : k < s.size := by omega
     obtain ⟨u,hu⟩ : ∃ u,s.data.toList[k]? = some u := ⟨_,List.getElem?_eq_getElem (by omega)⟩
     have C1 : s.data[Int.toNat (k : Int)]? = some u := by simpa using hu
     rw [QN hu,vl] at he
     refine ⟨u,by omega,C1,fun h1 => ?_,fun h1 => ⟨u,by omega,C1,fun h2 => ?_,fun h2 => ⟨by unfold AM; omega,by unfold AM; omega,?_⟩⟩⟩
     · rw [if_pos (by omega)] at he
       rw [he] at h; exact h
     · rw [if_pos (by omega)] at he
       rw [he] at h; exact h
     · rw [if_neg (by omega)] at he
       have := ih.2 (k + 1) m' 128 191 (by omega) (by omega) he (by omega)
       have e1 : ((m' + 1 : Nat) : Int) - 1 = (m' : Nat) := by omega
       rw [e1]; exact this
end
end TwW
namespace TwW
open Go Tw Go.RowKit Go.Proofs.Tryz
section
variable {σ : Hp} {R : Rr}
def sle (a b : ByteArray) : Bool := Op.bytesLess a.toList b.toList || a.toList == b.toList
theorem zk {x y : Operand} {a b : ByteArray} {T : TypeId} : YF prog (do eqGuard .leq T x y (.string a) (.string b); binOp .leq T (.string a) (.string b)) σ (.bool (sle a b)) := fun w _ => by
 simp [eqGuard,binOp,Op.stringOp,sle]
def PJ : Option ByteArray → List Lb → Int
 | _,[] => 0
 | pv,x :: l => if Ex x.1 = false then 31 else if x.2.size = 0 ∨ 256 < x.2.size ∨ TZ x.2 = false then 32 else if pv.any (sle x.1 ·) = true then 33 else PJ (some x.1) l
def OY (ls : List Lb) : Int := if 16 < ls.length then 30 else PJ none ls
theorem Px {p : Option Addr} {n c : Nat} {ls : List Lb} (hr : Fo σ p n ls) (h : R (.returned (.int .i64 (OY ls))) σ) : Spec prog 68 #[.slice p n c] σ R := by
 have hn : ls.length = n := hr.1
 refine D6.start ⟨fun h1 => ?_,fun h1 => ?_⟩
 · rw [OY,if_pos (by omega)] at h; exact h
 rw [OY,if_neg (by omega)] at h
 let pv : Nat → Option ByteArray := fun i => if i = 0 then none else (ls[i - 1]?).map (·.1)
 suffices H : ∀ d i : Nat,n - i = d → i ≤ n → PJ none ls = PJ (pv i) (ls.drop i) → D6.Lc R p n c p n c n i σ from H n 0 rfl (Nat.zero_le _) rfl
 intro d
 induction d with
 | zero =>
   intro i hd hi he
   refine D6.IY ⟨fun Ax => by omega,fun _ => ?_⟩
   rw [List.drop_of_length_le (by omega)] at he
   rw [he] at h; exact h
 | succ d ih =>
   intro i hd hi he
   have BM : i < n := by omega
   obtain ⟨x,hx⟩ := hr.ex BM
   obtain ⟨b,o,rfl,hl⟩ := Fo.at hr hx
   rw [QN hx,PJ] at he
   have out : ∀ e : Int,PJ none ls = e → R (.returned (.int .i64 e)) σ := fun e h1 => h1 ▸ h
   refine D6.IY ⟨fun _ => ?_,fun hh => by omega⟩
   refine ⟨b,o,rfl,by omega,x.1,x.2,by simpa using hl,fun _ => Kk ⟨_,rfl,fun h1 => out _ ?_,fun h1 => ?_⟩⟩
   · rw [he,if_pos h1]
   rw [if_neg (by simp [h1])] at he
   rw [dq]
   refine ⟨fun h2 => out _ ?_,fun h2 => ⟨fun h3 => out _ ?_,fun h3 => Pw (by omega) ⟨_,rfl,fun h4 => out _ ?_,fun h4 => ?_⟩⟩⟩
   · rw [he,if_pos (.inl (by simpa using h2))]
   · rw [he,if_pos (.inr (.inl (by omega)))]
   · rw [he,if_pos (.inr (.inr h4))]
   rw [if_neg (by rw [decide_eq_false_iff_not] at h2; simp [h2,h4]; omega)] at he
   have nx : pv (i + 1) = some x.1 := by simp [pv,hx]
   have go : (pv i).any (sle x.1 ·) = false → D6.Lc R (aD b o) n c (aD b o) n c n ((i : Int) + 1) σ := fun h5 => by
     rw [if_neg (by simp [h5]),← nx] at he
     exact ih (i + 1) (by omega) (by omega) he
   refine ⟨fun h5 => ?_,fun h5 => ⟨AN BM hr.big,go ?_⟩⟩
   · obtain ⟨y,hy⟩ := hr.ex (k := i - 1) (by omega)
     obtain ⟨b',o',hp,WM⟩ := Fo.at hr hy
     cases hp
     have e1 : ((i : Int) - 1).toNat = i - 1 := by omega
     have hpv : pv i = some y.1 := by simp [pv,hy,show i ≠ 0 by omega]
     refine ⟨by have := hr.big; unfold AM; omega,b,o,rfl,by omega,y.1,by rw [e1]; exact WM.1,_,zk,fun h6 => out _ ?_,fun h6 => ⟨AN BM hr.big,go ?_⟩⟩
     · rw [he,if_pos (by rw [hpv]; exact h6)]
     · rw [hpv]; exact h6
   · have : i = 0 := by omega
     simp [pv,this]
theorem UU : ∀ {ls : List Lb} {pv : Option ByteArray},PJ pv ls = 0 → ∀ x ∈ ls,Ex x.1 = true ∧ 0 < x.2.size ∧ x.2.size ≤ 256 ∧ TZ x.2 = true
 | [],_,_,_,hx => by cases hx
 | y :: l,pv,h,x,hx => by
   rw [PJ] at h
   split at h
   · cases h
   split at h
   · cases h
   split at h
   · cases h
   rename_i h1 h2 h3
   rcases List.mem_cons.1 hx with rfl | hx
   · simp only [not_or,Bool.not_eq_false] at h1 h2
     exact ⟨h1,by omega,by omega,h2.2.2⟩
   · exact UU h x hx
def Ao (ls : List Lb) : Prop := ls.length ≤ 16 ∧ ∀ x ∈ ls,x.1.size ≤ 256 ∧ x.2.size ≤ 256
theorem Ao.of {ls : List Lb} (h : OY ls = 0) : Ao ls := by
 unfold OY at h
 split at h
 · cases h
 · refine ⟨by omega,fun x hx => ?_⟩
   obtain ⟨h1,_,h2,_⟩ := UU h x hx
   simp [Ex] at h1
   exact ⟨by omega,h2⟩
theorem CM.one (σ : Hp) (vs : List Value) (x : Lb) (h : CM σ vs x) : GF vs := by
 rw [h]
 intro u hu
 simp only [List.mem_cons,List.not_mem_nil,or_false] at hu
 rcases hu with rfl | rfl <;> rfl
theorem IB {σ1 : Hp} {q : Option Addr} {j c b : Nat} {ls : List Lb} {ty : TypeId} {Φ : Value → Hp → Prop} (ht : Fo σ1 q j ls) (hb : j ≤ 1000000000)
   (hΦ : ∀ p' c' σ',GH 2 CM (σ1.new σ') p' j c' ls → Ext σ1 σ' → Φ (.slice p' j c') σ') (hn : σ1 b = none) :
   AJ prog (Builtin.append_ #[37,37] ty #[.slice (some ⟨b,0,none⟩) 0 0,.slice q j c]) (σ1.set b (.cells #[] 56 (0,0))) Φ := by
 obtain ⟨h1,cs,h2,h3⟩ := ht
 refine Dm A6.empty (h2.mono (.set hn)) (Ch.w9 CM.one h3 (by decide)) (by omega) fun p' c' σ' BN Iv => ?_
 have hq : ∀ a : Addr,(some (⟨b,0,none⟩ : Addr)) = some a → σ1 a.block = none := fun a ha => by cases ha; exact hn
 rw [Nat.zero_add] at BN ⊢
 rw [List.nil_append] at BN
 exact hΦ p' c' σ' ⟨h1,cs,A6.Qe BN (GU hq Iv (.set hn)),h3⟩ (Kz hq Iv (.set hn))
def UW (x : Lb) : List Int := uv x.1.size ++ zj x.1 ++ (uv x.2.size ++ zj x.2)
def zl (ls : List Lb) : List Int := uv ls.length ++ ls.flatMap UW
theorem gF {x : Lb} (h : x.1.size ≤ 256 ∧ x.2.size ≤ 256) : (UW x).length ≤ 532 := by
 have h1 := Kj (x := x.1.size) (by omega)
 have h2 := Kj (x := x.2.size) (by omega)
 simp only [UW,List.length_append,dn]
 omega
theorem mo {ls : List Lb} (h : ∀ x ∈ ls,x.1.size ≤ 256 ∧ x.2.size ≤ 256) : (ls.flatMap UW).length ≤ ls.length * 532 := by
 induction ls with
 | nil => simp
 | cons x l ih =>
   have := ih fun y hy => h y (List.mem_cons_of_mem _ hy)
   have := gF (h x (by simp))
   rw [List.flatMap_cons,List.length_append,List.length_cons]
   omega
theorem Vk {p : Option Addr} {n c : Nat} {ls : List Lb} (hr : Fo σ p n ls) (hs : Ao ls) (h : ∀ p' n' c' σ',Da .u8 (σ.new σ') p' n' c' (zl ls) → Ext σ σ' → R (.returned (.slice p' n' c')) σ') : Spec prog 72 #[.slice p n c] σ R := by
 have hn : ls.length = n := hr.1
 have h16 := hs.1
 refine Ec.start fun x8 h8 => ?_
 have e8 : x8 = (n : Int) := by rw [h8]; simp [IntKind.wrap,IntKind.bits,IntKind.signed]; omega
 subst e8
 refine NT Ae.nil (by omega) (by omega) fun p1 n1 c1 σ1 aK Cg => ⟨p1,n1,c1,rfl,?_⟩
 rw [List.nil_append] at aK
 suffices H : ∀ d k : Nat,∀ p3 n3 c3 σ3,n - k = d → k ≤ n → Da .u8 (σ.new σ3) p3 n3 c3 (uv n ++ (ls.take k).flatMap UW) → Ext σ σ3 → Ec.A1 R p3 n3 c3 p n c n k σ3 from H n 0 p1 n1 c1 σ1 rfl (Nat.zero_le _) (by simpa using aK) Cg
 intro d
 induction d with
 | zero =>
   intro k p3 n3 c3 σ3 hd hk ho hx
   refine Ec.Ab ⟨fun Ax => by omega,fun _ => h p3 n3 c3 σ3 ?_ hx⟩
   rw [List.take_of_length_le (by omega)] at ho
   rw [zl,hn]; exact ho
 | succ d ih =>
   intro k p3 n3 c3 σ3 hd hk ho hx
   have IP : k < n := by omega
   obtain ⟨y,hy⟩ := hr.ex IP
   obtain ⟨b,o,rfl,hl⟩ := Fo.at hr hy
   have jE := hs.2 y (List.mem_of_getElem? hy)
   have hl3 := PI ho
   have SN := Kj (x := n) (by omega)
   have hfl := mo (ls := ls.take k) fun x hx => hs.2 x (List.mem_of_mem_take hx)
   rw [List.length_append] at hl3
   rw [List.length_take] at hfl
   have h3b : n3 ≤ 9000 := by omega
   refine Ec.Ab ⟨fun _ => ⟨b,o,rfl,by omega,y.1,y.2,by simpa using hl.mono hx,fun _ => ?_⟩,fun hh => by omega⟩
   refine NU (Da.rd (A6.mono (Ext.Cb _ _) ho)) (by omega) (by omega) fun p4 n4 c4 σ4 Kl Mu => ⟨p4,n4,c4,rfl,?_⟩
   have hl4 := PI Kl
   have gG := Kj (x := y.1.size) (by omega)
   simp only [List.length_append,dn] at hl4
   refine NU (Da.rd (A6.mono (Ext.Cb _ _) Kl)) (by omega) (by omega) fun p5 n5 c5 σ5 QO Ta => ⟨p5,n5,c5,rfl,AN IP hr.big,?_⟩
   refine ih (k + 1) p5 n5 c5 σ5 (by omega) (by omega) ?_ (hx.trans (Mu.trans Ta))
   have := A6.mono (Ext.C5 (hx.trans Mu)) QO
   rw [Af hy,List.flatMap_append]
   simpa [UW,Da] using this
end
end TwW
namespace TwW
open Go Tw Go.RowKit Go.Proofs.Tryz
section
variable {σ σ' τ : Hp} {R : Rr}
def Fb (x : ByteArray) (xs : List ByteArray) : Bool := xs.any fun y => decide (x = y)
theorem SO {x : ByteArray} {xs : List ByteArray} : Fb x xs = true ↔ x ∈ xs := by simp [Fb]
theorem Km {p : Option Addr} {n c : Nat} {x : ByteArray} {xs : List ByteArray} (hr : E4 1 σ p n (xs.map .string)) (h : R (.returned (.bool (Fb x xs))) σ) : Spec prog 199 #[.slice p n c,.string x] σ R := by
 have hn : xs.length = n := by have := hr.1; simpa using this
 have Hf : n ≤ 4611686018427387904 := hr.2.1
 have key : ∀ i : Int,(0 ≤ i ↔ x ∈ xs) → AA R (CI .i64 fun x7 y => R (.returned (.bool (decide (0 ≤ x7)))) y) (.returned (.int .i64 i)) σ := fun i hi => ⟨i,rfl,by
   dsimp only
   rw [show decide (0 ≤ i) = Fb x xs by rw [Bool.eq_iff_iff,SO,decide_eq_true_eq]; exact hi]; exact h⟩
 refine ER.start (BG.start ?_)
 suffices H : ∀ d k : Nat,n - k = d → k ≤ n → x ∉ xs.take k → BG.Hi (AA R (CI .i64 fun x7 y => R (.returned (.bool (decide (0 ≤ x7)))) y)) p n c x n k σ from H n 0 rfl (Nat.zero_le _) (by simp)
 intro d
 induction d with
 | zero =>
   intro k hd hk DQ
   refine BG.Bc ⟨fun Ax => by omega,fun _ => key (-1) ?_⟩
   rw [List.take_of_length_le (by omega)] at DQ
   exact ⟨fun h => absurd h (by decide),fun h => absurd h DQ⟩
 | succ d ih =>
   intro k hd hk DQ
   have IP : k < n := by omega
   obtain ⟨y,hy⟩ : ∃ y,xs[k]? = some y := ⟨_,List.getElem?_eq_getElem (by omega)⟩
   obtain ⟨b,o,rfl,hl⟩ := E4.at1 hr (k := k) (v := .string y) (by rw [List.getElem?_map,hy]; rfl)
   refine BG.Bc ⟨fun _ => ⟨b,o,rfl,by omega,y,by simpa using hl,fun he => key k ⟨fun _ => ?_,fun _ => by omega⟩,fun A4 => ⟨AN IP Hf,ih (k + 1) (by omega) (by omega) ?_⟩⟩,fun gE => by omega⟩
   · rw [YL,decide_eq_true_eq] at he
     rw [he]; exact List.mem_of_getElem? hy
   · rw [YL,decide_eq_false_iff_not] at A4
     rw [TM hy]
     rintro (h1 | h1)
     · exact DQ h1
     · exact A4 h1
theorem PK {f : Nat} {cap : Array Value} {g : Lb → Bool} {p : Option Addr} {n c : Nat} {ls : List Lb} (N6 : Enters prog f) (hr : Fo σ p n ls) (hn : n ≤ 1000000)
   (hf : ∀ (σ' : Hp) (x : Lb) (R' : Rr),Ext σ σ' → R' (.returned (.bool (g x))) σ' → Spec prog f (#[] ++ #[.agg #[.string x.1,.string x.2]] ++ cap) σ' R')
   (h : ∀ p' n' c' σ',GH 2 CM (σ.new σ') p' n' c' (ls.filter g) → Ext σ σ' → R (.returned (.slice p' n' c')) σ') : Spec prog 197 #[.slice p n c,.func (.func f) #[] cap] σ R := by
 have sF : ls.length = n := hr.1
 refine CK.start ?_
 suffices H : ∀ d k : Nat,∀ p5 n5 c5 σ5,n - k = d → k ≤ n → GH 2 CM (σ.new σ5) p5 n5 c5 ((ls.take k).filter g) → Ext σ σ5 → CK.A1 R (.func (.func f) #[] cap) p5 n5 c5 p n c n k σ5 from H n 0 none 0 0 σ rfl (Nat.zero_le _) GH.nil (.refl _)
 intro d
 induction d with
 | zero =>
   intro k p5 n5 c5 σ5 hd hk ho hx
   refine CK.Ab ⟨fun Ax => by omega,fun _ => h p5 n5 c5 σ5 ?_ hx⟩
   rw [List.take_of_length_le (by omega)] at ho; exact ho
 | succ d ih =>
   intro k p5 n5 c5 σ5 hd hk ho hx
   have IP : k < n := by omega
   obtain ⟨x,gH⟩ := hr.ex IP
   obtain ⟨b,o,rfl,hl⟩ := Fo.at hr gH
   have hn5 : n5 ≤ n := by
     have h1 := ho.1
     have h2 := List.length_filter_le g (ls.take k)
     rw [List.length_take] at h2
     omega
   have ht : (ls.take (k + 1)).filter g = (ls.take k).filter g ++ if g x then [x] else [] := by
     rw [Af gH,List.filter_append]
     by_cases hg : g x <;> simp [hg]
   refine CK.Ab ⟨fun _ => ⟨b,o,rfl,by omega,x.1,x.2,by simpa using hl.mono hx,fun _ => ⟨f,#[],cap,rfl,N6,hf σ5 x _ hx ⟨_,rfl,fun hg C4 ALd => ?_,fun hg => ?_⟩⟩⟩,fun hh => by omega⟩
   · refine GH.IU CM.mono (vs := [.string x.1,.string x.2]) (x := x) hx ho rfl (CM.one σ _ _ rfl) rfl (by omega) (fun p' c' σ' My YM => ⟨_,_,_,rfl,CK.QH ⟨AN IP hr.big,ih (k + 1) _ _ _ _ (by omega) (by omega) ?_ YM⟩⟩) ALd
     rw [ht,if_pos hg]; exact My
   · refine CK.QH ⟨AN IP hr.big,ih (k + 1) _ _ _ _ (by omega) (by omega) ?_ hx⟩
     rw [ht,if_neg (by simp [hg]),List.append_nil]; exact ho
theorem AFm : Enters prog 200 := fun args w => call200 args w
theorem Iw {p q : Option Addr} {n c m d : Nat} {ls : List Lb} {ns : List ByteArray} (hr : Fo σ p n ls) (hn : n ≤ 1000000) (hs : E4 1 σ q m (ns.map .string))
   (h : ∀ p' n' c' σ',GH 2 CM (σ.new σ') p' n' c' (ls.filter fun x => !Fb x.1 ns) → Ext σ σ' → R (.returned (.slice p' n' c')) σ') : Spec prog 150 #[.slice p n c,.slice q m d] σ R := by
 refine L9.start fun b3 dt => ?_
 have D1 : Ext σ (σ.set b3 (.cells #[.slice q m d] 34 (0,0))) := .set dt
 refine PK (f := 200) (g := fun x => !Fb x.1 ns) AFm (hr.mono CM.mono D1) hn (fun σ' x R' hx LM => ?_) fun p' n' c' σ' ho hx => ⟨_,_,_,rfl,h p' n' c' σ' ?_ (D1.trans hx)⟩
 · refine JL.start fun _ => ⟨q,m,d,AU (hx _ _ (Hp.AB _ _ _)) rfl,Km (hs.mono (D1.trans hx)) ⟨_,rfl,LM⟩⟩
 · exact ho.mono CM.mono (Ext.C5 D1)
end
end TwW
namespace TwW
open Go Tw Go.RowKit Go.Proofs.Tryz
section
variable {σ σ' τ : Hp} {R : Rr}
theorem SP {α : Type} {b : Nat} {T : TypeId} {f : α → Value} {x : α} {ρ : Hp} (h : ρ b = some (.cells #[f x] T (0,0))) : E4 1 ρ (some ⟨b,0,none⟩) 1 ([x].map f) := ⟨rfl,by omega,.inr ⟨b,0,rfl,⟨AU h rfl,trivial⟩⟩⟩
end
end TwW
end
section
namespace TwW
open Go Tw
structure Mt where
 kind : Int
 name : ByteArray
 val : ByteArray
structure Nd where
 kind : Int
 op : Int
 text : ByteArray
 mt : List Mt
 width : Int
 back : Int
 EG : Int
 names : List ByteArray
 bool : Bool
 parts : Int
structure Sr where
 ls : List Lb
 ps : List (Int × Int)
structure El where
 ls : List Lb
 v : Int
structure Rg where
 ls : List Lb
 vs : List Int
structure Vv where
 kind : Int
 v : Int
 vec : List El
 OF : List Rg
structure Fl where
 num : ByteArray → Int
 abs : Int → Int
 floor : Int → Int
 whole : Int → Int
 mq : Int → Int
 over : Int → List Int → Int → Option Int
 fold : Int → List Int → Int
 Py : Int → Int → Int → Int × Bool
 bD : List Mt → List Lb → Bool
 cmpL : List Lb → List Lb → Int
abbrev Gy : Int := 9218868437227405314
def CH : ByteArray := ⟨#[95,95,110,97,109,101,95,95]⟩
def GK (ls : List Lb) : ByteArray := strOfNums (zl ls)
section
variable {α : Type}
def Vm : List (ByteArray × α) → ByteArray → α → List (ByteArray × α)
 | [],k,x => [(k,x)]
 | (a,b) :: l,k,x => if a = k then (k,x) :: l else (a,b) :: Vm l k x
def DO : List (ByteArray × α) → ByteArray → Option α
 | [],_ => none
 | (a,b) :: l,k => if a = k then some b else DO l k
end
def DP (ls : List Lb) : List Lb := ls.filter fun x => !Fb x.1 [CH]
def YO (ns : List ByteArray) (ls : List Lb) : List Lb := ls.filter fun x => Fb x.1 ns
def YQ (ns : List ByteArray) (ls : List Lb) : List Lb := ls.filter fun x => !Fb x.1 ns
section
variable (F : Fl)
def bE (x : El) : List El → List El
 | [] => [x]
 | y :: l => if F.cmpL x.ls y.ls ≤ 0 then x :: y :: l else y :: bE x l
def mr (l : List El) : List El := l.foldr (bE F) []
def DL (l : List El) : Option (List El) := if l.Pairwise (fun a b => F.cmpL a.ls b.ls ≠ 0) then some (mr F l) else none
def FC (ps : List (Int × Int)) (Dj Gz : Int) : List (Int × Int) := ps.filter fun p => decide (Dj < p.1) && decide (p.1 ≤ Gz)
def Vn (n : Nd) (ss : List Sr) (at_ : Int) : List El := ss.filterMap fun s => match (FC s.ps (at_ - n.back - 300) (at_ - n.back)).getLast? with
 | none => none
 | some p => if p.2 = Gy ∨ F.bD n.mt s.ls = false then none else some ⟨s.ls,p.2⟩
def Fy (n : Nd) (ss : List Sr) (at_ : Int) : List Rg := ss.filterMap fun s =>
 let vs := ((FC s.ps (at_ - n.back - n.width) (at_ - n.back)).filter fun p => decide (p.2 ≠ Gy)).map Prod.snd
 bif !vs.isEmpty && F.bD n.mt s.ls then some ⟨s.ls,vs⟩ else none
def MB (n : Nd) (p : Vv) : List El := (p.vec.map fun x => ⟨DP x.ls,if n.op = 11 then F.abs x.v else F.floor x.v⟩) ++ p.OF.filterMap fun s => (F.over n.op s.vs p.v).map fun v => ⟨DP s.ls,v⟩
def Fz (n : Nd) (ls : List Lb) : List Lb := if n.EG = 1 then YO n.names ls else if n.EG = 2 then DP (YQ n.names ls) else []
def Lj (ls : List Lb) (v : Int) : List Rg → List Rg
 | [] => [⟨ls,[v]⟩]
 | g :: l => if GK g.ls = GK ls then ⟨g.ls,g.vs ++ [v]⟩ :: l else g :: Lj ls v l
def gI (n : Nd) (p : Vv) : List El := (p.vec.foldl (fun gs x => Lj (Fz n x.ls) x.v gs) []).map fun g => ⟨g.ls,F.fold n.op g.vs⟩
def Fc (op : Int) : Bool := decide (5 ≤ op) && decide (op ≤ 10)
def YR (n : Nd) (vec : List El) (f : Int → Int × Bool) : List El := vec.filterMap fun x =>
 if Fc n.op = false ∨ n.bool = true then some ⟨DP x.ls,(f x.v).1⟩ else if (f x.v).2 then some x else none
def N0 (n : Nd) (ls : List Lb) : List Lb := if n.EG = 3 then YO n.names ls else DP (YQ n.names ls)
def Vo (n : Nd) (l : List El) : List (ByteArray × El) := l.foldl (fun m x => Vm m (GK (N0 n x.ls)) x) []
def UX (n : Nd) (l : List El) (k : List Lb) : Option El := DO (Vo n l) (GK k)
def gJ (n : Nd) (l : List El) : Bool := decide ((Vo n l).length = l.length)
def SQ (n : Nd) (x y : List El) : List El :=
 (x.filter fun e => decide (n.op = 12) || ((UX n y (N0 n e.ls)).isSome == decide (n.op = 11))) ++ y.filter fun e => (UX n x (N0 n e.ls)).isNone && decide (n.op = 12)
def UY (n : Nd) (x y : List El) : Option (List El) := if gJ n x && gJ n y then some (x.filterMap fun e => match UX n y (N0 n e.ls) with
 | none => none
 | some o => if Fc n.op = false ∨ n.bool = true then some ⟨N0 n e.ls,(F.Py n.op e.v o.v).1⟩ else if (F.Py n.op e.v o.v).2 then some e else none) else none
def sG (n : Nd) (x y : Vv) : Option Vv :=
 if x.kind = 1 ∧ y.kind = 1 then some ⟨1,(F.Py n.op x.v y.v).1,[],[]⟩
 else ((if x.kind = 1 then some (YR n y.vec (F.Py n.op x.v)) else if y.kind = 1 then some (YR n x.vec fun v => F.Py n.op v y.v) else if 11 ≤ n.op ∧ n.op ≤ 13 then some (SQ n x.vec y.vec) else UY F n x.vec y.vec).bind (DL F)).map fun l => ⟨2,0,l,[]⟩
def mu (p : Vv) : Option Vv := if p.kind = 1 then some ⟨1,F.mq p.v,[],[]⟩ else (DL F (p.vec.map fun x => ⟨DP x.ls,F.mq x.v⟩)).map fun l => ⟨2,0,l,[]⟩
def G0 (ss : List Sr) (at_ : Int) (n : Nd) (l : List Vv) : Option Vv :=
 if n.kind = 1 then some ⟨1,F.num n.text,[],[]⟩
 else if n.kind = 2 then some ⟨2,0,Vn F n ss at_,[]⟩
 else if n.kind = 3 then some ⟨3,F.whole n.width,[],Fy F n ss at_⟩
 else match l with
   | [p] => if n.kind = 4 then (DL F (MB F n p)).map fun l => ⟨2,0,l,[]⟩ else if n.kind = 5 then (DL F (gI F n p)).map fun l => ⟨2,0,l,[]⟩ else if n.kind = 7 then mu F p else none
   | [p,q] => if n.kind = 6 then sG F n p q else none
   | _ => none
def Mc (ss : List Sr) (at_ : Int) : List Nd → List Vv → Option (List Vv)
 | [],st => some st
 | n :: t,st => (G0 F ss at_ n (st.drop (st.length - n.parts.toNat))).bind fun v => Mc ss at_ t (st.take (st.length - n.parts.toNat) ++ [v])
def Bk (t : List Nd) (ss : List Sr) (at_ : Int) : Option (List El) := (Mc F ss at_ t []).bind fun st => st.head?.map fun v => if v.kind = 1 then [⟨[],v.v⟩] else v.vec
end
section
variable {F : Fl}
end
end TwW
end
section
namespace TwW
open Go Tw
structure MD {α : Type} (c : α → α → Int) : Prop where
 eq : ∀ x y,c x y = 0 ↔ x = y
 Vp : ∀ x y,c x y < 0 ↔ 0 < c y x
 trans : ∀ x y z,c x y < 0 → c y z < 0 → c x z < 0
def IC {α : Type} (c : α → α → Int) : List α → List α → Int
 | [],[] => 0
 | [],_ :: _ => -1
 | _ :: _,[] => 1
 | x :: l,y :: m => if c x y = 0 then IC c l m else c x y
def SR {α β : Type} (c : α → α → Int) (d : β → β → Int) (x y : α × β) : Int := if c x.1 y.1 = 0 then d x.2 y.2 else c x.1 y.1
theorem MD.IC {α : Type} {c : α → α → Int} (h : MD c) : MD (IC c) := by
 refine ⟨fun l => ?_,fun l => ?_,fun l => ?_⟩
 · induction l with
   | nil => intro m; cases m <;> simp [TwW.IC]
   | cons x l ih =>
     intro m
     cases m with
     | nil => simp [TwW.IC]
     | cons y m =>
       unfold TwW.IC
       by_cases hc : c x y = 0
       · rw [if_pos hc,ih]; simp [(h.eq x y).1 hc]
       · rw [if_neg hc]; simp [hc,mt (h.eq x y).2 hc]
 · induction l with
   | nil => intro m; cases m <;> simp [TwW.IC]
   | cons x l ih =>
     intro m
     cases m with
     | nil => simp [TwW.IC]
     | cons y m =>
       unfold TwW.IC
       by_cases hc : c x y = 0
       · have YS := (h.eq x y).1 hc
         rw [if_pos hc,if_pos ((h.eq y x).2 YS.symm),ih]
       · have hc' : c y x ≠ 0 := fun e => hc ((h.eq x y).2 ((h.eq y x).1 e).symm)
         rw [if_neg hc,if_neg hc',h.Vp]
 · induction l with
   | nil =>
     intro m k h1 h2
     cases m with
     | nil => simp [TwW.IC] at h1
     | cons y m =>
       cases k with
       | nil => simp [TwW.IC] at h2
       | cons z k => simp [TwW.IC]
   | cons x l ih =>
     intro m k h1 h2
     cases m with
     | nil => simp [TwW.IC] at h1
     | cons y m =>
       cases k with
       | nil => simp [TwW.IC] at h2
       | cons z k =>
         unfold TwW.IC at h1 h2 ⊢
         by_cases YS : c x y = 0
         · rw [if_pos YS] at h1
           have e := (h.eq x y).1 YS
           subst e
           by_cases bF : c x z = 0
           · rw [if_pos bF] at h2 ⊢; exact ih m k h1 h2
           · rw [if_neg bF] at h2 ⊢; exact h2
         · rw [if_neg YS] at h1
           by_cases bF : c y z = 0
           · rw [if_pos bF] at h2
             have e := (h.eq y z).1 bF
             subst e
             rw [if_neg YS]; exact h1
           · rw [if_neg bF] at h2
             have h3 := h.trans x y z h1 h2
             rw [if_neg (by omega)]; exact h3
theorem MD.SR {α β : Type} {c : α → α → Int} {d : β → β → Int} (h : MD c) (g : MD d) : MD (SR c d) := by
 refine ⟨fun x y => ?_,fun x y => ?_,fun x y z h1 h2 => ?_⟩
 · obtain ⟨x1,x2⟩ := x
   obtain ⟨y1,y2⟩ := y
   unfold TwW.SR
   by_cases hc : c x1 y1 = 0
   · simp only [hc,if_pos]; rw [g.eq]; simp [(h.eq x1 y1).1 hc]
   · simp only [hc,if_false]; simp [hc,mt (h.eq x1 y1).2 hc]
 · unfold TwW.SR
   by_cases hc : c x.1 y.1 = 0
   · rw [if_pos hc,if_pos ((h.eq _ _).2 ((h.eq _ _).1 hc).symm),g.Vp]
   · rw [if_neg hc,if_neg (fun e => hc ((h.eq _ _).2 ((h.eq _ _).1 e).symm)),h.Vp]
 · unfold TwW.SR at h1 h2 ⊢
   by_cases YS : c x.1 y.1 = 0
   · rw [if_pos YS] at h1
     rw [(h.eq _ _).1 YS]
     by_cases bF : c y.1 z.1 = 0
     · rw [if_pos bF] at h2 ⊢; exact g.trans _ _ _ h1 h2
     · rw [if_neg bF] at h2 ⊢; exact h2
   · rw [if_neg YS] at h1
     by_cases bF : c y.1 z.1 = 0
     · rw [if_pos bF] at h2
       rw [← (h.eq _ _).1 bF,if_neg YS]; exact h1
     · rw [if_neg bF] at h2
       have h3 := h.trans _ _ _ h1 h2
       rw [if_neg (by omega)]; exact h3
def bG (a b : UInt8) : Int := if a < b then -1 else if b < a then 1 else 0
theorem Vq {a b : UInt8} : bG a b < 0 ↔ a.toNat < b.toNat := by
 unfold bG
 by_cases h : a < b
 · have := UInt8.lt_iff_toNat_lt.1 h; simp [h,this]
 · have h' := mt UInt8.lt_iff_toNat_lt.2 h
   rw [if_neg h]
   by_cases g : b < a <;> simp [g] <;> omega
theorem du {a b : UInt8} : 0 < bG a b ↔ b.toNat < a.toNat := by
 unfold bG
 by_cases h : a < b
 · have := UInt8.lt_iff_toNat_lt.1 h; simp [h]; omega
 · rw [if_neg h]
   by_cases g : b < a
   · have := UInt8.lt_iff_toNat_lt.1 g; simp [g,this]
   · have h' := mt UInt8.lt_iff_toNat_lt.2 g; simp [g]; omega
theorem sH : MD bG := by
 refine ⟨fun x y => ?_,fun x y => ?_,fun x y z h1 h2 => ?_⟩
 · have h1 := @Vq x y
   have h2 := @du x y
   rw [← UInt8.toNat_inj]; omega
 · rw [Vq,du]
 · rw [Vq] at *; omega
theorem mw : ∀ a b : List UInt8,IC bG a b = Lib.compareBytes a b
 | [],[] => rfl
 | [],_ :: _ => rfl
 | _ :: _,[] => rfl
 | x :: l,y :: m => by
   unfold IC Lib.compareBytes
   rw [← mw l m]
   unfold bG
   by_cases h1 : x < y
   · simp [h1]
   · by_cases h2 : y < x <;> simp [h1,h2]
def JS (a b : ByteArray) : Int := Lib.compareBytes a.data.toList b.data.toList
theorem dw : MD JS := by
 have h := sH.IC
 refine ⟨fun x y => ?_,fun x y => ?_,fun x y z h1 h2 => ?_⟩
 · unfold JS
   rw [← mw,h.eq]
   exact ⟨fun e => by cases x; cases y; simp at e; rw [e],fun e => by rw [e]⟩
 · unfold JS; rw [← mw,← mw]; exact h.Vp _ _
 · unfold JS at *; rw [← mw] at *; exact h.trans _ _ _ h1 h2
def CR : List Lb → List Lb → Int := IC (SR JS JS)
theorem A2 : MD CR := (dw.SR dw).IC
section
variable {F : Fl} (hF : F.cmpL = CR)
theorem OZ (x : El) : ∀ l : List El,(bE F x l).Perm (x :: l)
 | [] => List.Perm.refl _
 | y :: l => by
   unfold bE
   split
   · exact List.Perm.refl _
   · exact ((OZ x l).cons y).trans (List.Perm.swap ..)
theorem Ix : ∀ l : List El,(mr F l).Perm l
 | [] => List.Perm.refl _
 | x :: l => (OZ x _).trans ((Ix l).cons x)
include hF
theorem le_trans' {x y z : El} (h1 : F.cmpL x.ls y.ls ≤ 0) (h2 : F.cmpL y.ls z.ls ≤ 0) : F.cmpL x.ls z.ls ≤ 0 := by
 rw [hF] at *
 rcases Int.lt_or_eq_of_le h1 with g1 | g1
 · rcases Int.lt_or_eq_of_le h2 with g2 | g2
   · exact Int.le_of_lt (A2.trans _ _ _ g1 g2)
   · rw [← (A2.eq _ _).1 g2]; exact h1
 · rw [(A2.eq _ _).1 g1]; exact h2
theorem PL (x : El) : ∀ l : List El,l.Pairwise (fun a b => F.cmpL a.ls b.ls ≤ 0) → (bE F x l).Pairwise fun a b => F.cmpL a.ls b.ls ≤ 0
 | [],_ => by simp [bE]
 | y :: l,h => by
   rw [List.pairwise_cons] at h
   unfold bE
   split
   · rename_i YS
     refine List.pairwise_cons.2 ⟨fun z hz => ?_,List.pairwise_cons.2 h⟩
     rcases List.mem_cons.1 hz with rfl | hz
     · exact YS
     · exact le_trans' hF YS (h.1 z hz)
   · rename_i YS
     refine List.pairwise_cons.2 ⟨fun z hz => ?_,PL x l h.2⟩
     rcases List.mem_cons.1 ((OZ x l).mem_iff.1 hz) with rfl | hz
     · have h1 : 0 < F.cmpL z.ls y.ls := by omega
       rw [hF] at *
       exact Int.le_of_lt ((A2.Vp _ _).2 h1)
     · exact h.1 z hz
theorem NV : ∀ l : List El,(mr F l).Pairwise fun a b => F.cmpL a.ls b.ls ≤ 0
 | [] => List.Pairwise.nil
 | x :: l => PL hF x _ (NV l)
theorem gK {l m : List El} (hp : m.Perm l) (hs : m.Pairwise fun a b => F.cmpL a.ls b.ls < 0) : DL F l = some m := by
 have A4 : m.Pairwise fun a b => F.cmpL a.ls b.ls ≠ 0 := hs.imp fun h => by omega
 have ALe : l.Pairwise fun a b => F.cmpL a.ls b.ls ≠ 0 := (hp.pairwise_iff fun {a b} h e => by
   rw [hF] at *
   exact h ((A2.eq _ _).2 ((A2.eq _ _).1 e).symm)).1 A4
 unfold DL
 rw [if_pos ALe]
 refine congrArg some (List.Perm.eq_of_pairwise (le := fun a b : El => F.cmpL a.ls b.ls ≤ 0) (fun a b ha hb h1 h2 => ?_) (NV hF l) (hs.imp fun h => Int.le_of_lt h) ((Ix l).trans hp.symm))
 have hab : F.cmpL a.ls b.ls = 0 := by
   refine Int.le_antisymm h1 (Int.not_lt.1 fun h3 => ?_)
   rw [hF] at *
   have := (A2.Vp _ _).1 h3
   omega
 have ham := ((Ix (F := F) l).trans hp.symm).mem_iff.1 ha
 obtain ⟨i,hi,rfl⟩ := List.mem_iff_getElem.1 ham
 obtain ⟨j,hj,rfl⟩ := List.mem_iff_getElem.1 hb
 have qD := List.pairwise_iff_getElem.1 A4
 rcases Nat.lt_trichotomy i j with h | h | h
 · exact absurd hab (qD i j hi hj h)
 · subst h; rfl
 · have h4 := qD j i hj hi h
   rw [hF] at hab h4
   exact absurd ((A2.eq _ _).2 ((A2.eq _ _).1 hab).symm) h4
theorem gL {l m : List El} (hp : m.Perm l) (h : ¬ m.Pairwise fun a b => F.cmpL a.ls b.ls ≠ 0) : DL F l = none := by
 unfold DL
 rw [if_neg fun hl => h ((hp.pairwise_iff fun {a b} h e => by
   rw [hF] at *
   exact h ((A2.eq _ _).2 ((A2.eq _ _).1 e).symm)).2 hl)]
end
end TwW
end
section
namespace TwW
open Go Tw
def EF (c : UInt8) (s : ByteArray) : List ByteArray := Lib.splitB ⟨#[c]⟩ 0 (Lib.countB s ⟨#[c]⟩) s
def gM : List ByteArray → ByteArray → Bool
 | [],_ => true
 | t :: r,s => if Lib.index s.data.toList t.data.toList < 0 then false else gM r (s.extract ((Lib.index s.data.toList t.data.toList).toNat + t.size) s.size)
def zm (l : List ByteArray) (s : ByteArray) : Bool :=
 let a := l.head?.getD ⟨#[]⟩
 let z := l.getLast?.getD ⟨#[]⟩
 if l.length = 1 then decide (s = a) else
   if s.size < a.size + z.size ∨ s.extract 0 a.size ≠ a ∨ s.extract (s.size - z.size) s.size ≠ z then false else gM l.tail.dropLast (s.extract a.size (s.size - z.size))
def YT (p s : ByteArray) : Bool := (EF 124 p).any fun x => zm (EF 42 x) s
def PM (m : Mt) (ls : List Lb) : Bool :=
 let v := Dt ls m.name
 if m.kind = 1 then decide (v = m.val) else if m.kind = 2 then decide (v ≠ m.val) else if m.kind = 3 then YT m.val v else if m.kind = 4 then !YT m.val v else false
def Kn (ms : List Mt) (ls : List Lb) : Bool := ms.all fun m => PM m ls
def BX (u : UInt8) : Bool := decide (48 ≤ u.toNat ∧ u.toNat ≤ 57)
end TwW
end
section
namespace TwW
open Go Tw
def ME (v least : Int) : Bool := decide (least ≤ v) && decide (v < 2147483648)
section
variable (mz : ByteArray → Bool) (AO6 : ByteArray → Bool)
def Oa (n : Nd) : Bool := n.names.all mz && (decide (n.names.length = 0) || decide (n.EG ≠ 0))
def JN (ms : List Mt) : Int := if 8 < ms.length then 41 else if ms.all (fun m => decide (1 ≤ m.kind ∧ m.kind ≤ 4) && mz m.name && decide (m.val.size ≤ 256)) then 0 else 40
end
end TwW
end
section
namespace TwW
open Go Tw Go.RowKit Go.Proofs.Tryz
abbrev Pt := Int × Int
def Ey (_ : Hp) (vs : List Value) (x : Pt) : Prop := vs = [.int .i64 x.1,.int .u64 x.2]
theorem Ey.mono : G6 Ey := fun _ _ _ _ _ h => h
def GL (σ : Hp) (vs : List Value) (s : Sr) : Prop := ∃ p n c q m d,vs = [.slice p n c,.slice q m d] ∧ Fo σ p n s.ls ∧ Ae 2 Ey σ q m s.ps ∧ m ≤ d
theorem GL.mono : G6 GL := fun _ _ _ _ hx ⟨p,n,c,q,m,d,hv,h1,h2,h3⟩ => ⟨p,n,c,q,m,d,hv,h1.mono CM.mono hx,h2.mono Ey.mono hx,h3⟩
def N1 (_ : Hp) (vs : List Value) (m : Mt) : Prop := vs = [.int .i64 m.kind,.string m.name,.string m.val]
theorem N1.mono : G6 N1 := fun _ _ _ _ _ h => h
def Md (σ : Hp) (vs : List Value) (n : Nd) : Prop := ∃ p k c q m d,vs = [.int .i64 n.kind,.int .i64 n.op,.string n.text,.slice p k c,.int .i64 n.width,.int .i64 n.back,.int .i64 n.EG,.slice q m d,.bool n.bool,.int .i64 n.parts] ∧ Ae 3 N1 σ p k n.mt ∧ E4 1 σ q m (n.names.map .string)
theorem Md.mono : G6 Md := fun _ _ _ _ hx ⟨p,k,c,q,m,d,hv,h1,h2⟩ => ⟨p,k,c,q,m,d,hv,h1.mono N1.mono hx,h2.mono hx⟩
def Bp (σ : Hp) (vs : List Value) (x : El) : Prop := ∃ p n c,vs = [.slice p n c,.int .u64 x.v] ∧ Fo σ p n x.ls
theorem Bp.mono : G6 Bp := fun _ _ _ _ hx ⟨p,n,c,hv,h⟩ => ⟨p,n,c,hv,h.mono CM.mono hx⟩
def SS (σ : Hp) (vs : List Value) (x : Rg) : Prop := ∃ p n c q m d,vs = [.slice p n c,.slice q m d] ∧ Fo σ p n x.ls ∧ Ep .u64 σ q m x.vs ∧ m ≤ d
theorem SS.mono : G6 SS := fun _ _ _ _ hx ⟨p,n,c,q,m,d,hv,h1,h2,h3⟩ => ⟨p,n,c,q,m,d,hv,h1.mono CM.mono hx,h2.mono hx,h3⟩
def Me (σ : Hp) (vs : List Value) (x : Vv) : Prop := ∃ p n c q m d,vs = [.int .i64 x.kind,.int .u64 x.v,.slice p n c,.slice q m d] ∧ Ae 2 Bp σ p n x.vec ∧ Ae 2 SS σ q m x.OF
theorem Me.mono : G6 Me := fun _ _ _ _ hx ⟨p,n,c,q,m,d,hv,h1,h2⟩ => ⟨p,n,c,q,m,d,hv,h1.mono Bp.mono hx,h2.mono SS.mono hx⟩
theorem Ae.sub {α : Type} {s : Nat} {E : Hp → List Value → α → Prop} {σ : Hp} {p : Option Addr} {n c i m : Nat} {xs : List α} (h : Ae s E σ p n xs) (hs : 0 < s) (him : i + m ≤ n) (hc : n ≤ c) : Ae s E σ (IL p i c s) m ((xs.drop i).take m) := by
 obtain ⟨h1,cs,⟨h2,h3,h4⟩,h5,h6⟩ := h
 refine ⟨by rw [List.length_take,List.length_drop]; omega,(cs.drop (i * s)).take (m * s),⟨?_,by omega,?_⟩,?_,fun j x hj => ?_⟩
 · have : i * s + m * s ≤ n * s := by rw [← Nat.add_mul]; exact Nat.mul_le_mul_right _ him
   rw [List.length_take,List.length_drop]; omega
 · rcases Nat.eq_zero_or_pos m with hm | hm
   · exact .inl hm
   · rcases h4 with h4 | ⟨b,o,rfl,h4⟩
     · omega
     · refine .inr ⟨b,o + i * s,?_,?_⟩
       · unfold IL
         rw [if_neg (by omega)]
         simp [Bg]
       · exact h4.part
 · have : i * s + m * s ≤ n * s := by rw [← Nat.add_mul]; exact Nat.mul_le_mul_right _ him
   rw [List.length_take,List.length_drop,List.length_take,List.length_drop]
   have : min m (xs.length - i) = m := by omega
   rw [this]; omega
 · rw [List.getElem?_take] at hj
   split at hj
   · rename_i hjm
     rw [List.getElem?_drop] at hj
     have := h6 (i + j) x hj
     have e : ((((cs.drop (i * s)).take (m * s)).drop (j * s)).take s) = (cs.drop ((i + j) * s)).take s := by
       have hle : j * s + s ≤ m * s := by rw [← Nat.succ_mul]; exact Nat.mul_le_mul_right _ hjm
       rw [List.drop_take,List.take_take,List.drop_drop,Nat.add_mul]
       congr 1
       omega
     rw [e]; exact this
   · cases hj
section
variable {σ σ' τ : Hp} {R : Rr}
theorem gN {a b : ByteArray} : YN prog 168 #[.string a,.string b] σ (.int .i64 (JS a b)) := fun w _ => by
 rw [run_callFunc_extern Go.Proofs.Tryz.func168 (by kernel_rfl) (by kernel_rfl) (by kernel_rfl) (e := Extern.BytealgCompare.compare) (by kernel_rfl),Lib.run_compareString]
 rfl
theorem PN [Ej] {a b : ByteArray} (h : R (.returned (.int .i64 (JS a b))) σ) : Spec prog 78 #[.string a,.string b] σ R :=
 JG.start (Bu.start (.y gN ⟨_,rfl,_,rfl,h⟩))
theorem bH [Ej] {x y : Lb} (h : ∀ σ',Ext σ σ' → R (.returned (.int .i64 (SR JS JS x y))) σ') : Spec prog 76 #[.agg #[.string x.1,.string x.2],.agg #[.string y.1,.string y.2]] σ R := by
 refine JF.start fun _ _ => PN ⟨_,rfl,PN ⟨_,rfl,fun b hb => ?_⟩⟩
 have hh := h _ (.set hb (o := .cells #[.int .i64 (JS x.1 y.1),.int .i64 (JS x.2 y.2)] 3 (0,0)))
 unfold SR at hh
 generalize JS x.1 y.1 = u at *
 generalize JS x.2 y.2 = v at *
 refine Gv.start (Gv.Ab ⟨fun _ => ⟨b,0,rfl,by omega,u,by simp [Hp.ld,Hp.AB],fun h0 => ⟨_,rfl,?_⟩,fun h0 => ⟨by unfold AM; omega,Gv.Ab ⟨fun _ => ⟨b,0,rfl,by omega,v,by simp [Hp.ld,Hp.AB],fun h1 => ⟨_,rfl,?_⟩,fun h1 => ⟨by unfold AM; omega,Gv.Ab ⟨fun h2 => by omega,fun _ => ⟨_,rfl,?_⟩⟩⟩⟩,fun h2 => by omega⟩⟩⟩,fun h2 => by omega⟩)
 · rw [if_neg h0] at hh; exact hh
 · rw [if_pos (Decidable.not_not.1 h0)] at hh; exact hh
 · have h1' : v = 0 := Decidable.not_not.1 h1
   rw [if_pos (Decidable.not_not.1 h0),h1'] at hh
   rw [← h1'] at hh ⊢
   exact hh
theorem ALf : Enters prog 76 := fun args w => call76 args w
theorem A3 {α : Type} {xs : List α} {k : Nat} {y : α} (hy : xs[k]? = some y) : xs.drop k = y :: xs.drop (k + 1) := by
 obtain ⟨h,rfl⟩ := List.getElem?_eq_some_iff.1 hy
 exact List.drop_eq_getElem_cons h
theorem LN [Ej] {p q : Option Addr} {n c m d : Nat} {ls ms : List Lb} (hr : Fo σ p n ls) (hs : Fo σ q m ms) (h : ∀ σ',Ext σ σ' → R (.returned (.int .i64 (CR ls ms))) σ') : Spec prog 52 #[.slice p n c,.slice q m d] σ R := by
 have hl : ls.length = n := hr.1
 have hm : ms.length = m := hs.1
 refine Lv.start (Av.start ?_)
 suffices H : ∀ g k : Nat,∀ σ',n - k = g → k ≤ n → k ≤ m → Ext σ σ' → CR ls ms = CR (ls.drop k) (ms.drop k) → Av.Hi (AA R (CI .i64 fun x7 y => R (.returned (.int .i64 x7)) y)) p n c q m d (.func (.func 76) #[] #[]) p n c n k σ' from H n 0 σ rfl (Nat.zero_le _) (Nat.zero_le _) (.refl _) rfl
 intro g
 induction g with
 | zero =>
   intro k σ' hg hk vm hx he
   have cZ : k = n := by omega
   rw [List.drop_eq_nil_of_le (by omega)] at he
   refine Av.Bc ⟨fun Ax => by omega,fun _ => ⟨fun hnm => ⟨_,rfl,?_⟩,fun hnm => ⟨_,rfl,?_⟩⟩⟩
   · obtain ⟨y,hy⟩ := hs.ex (k := k) (by omega)
     rw [A3 hy] at he
     have := h σ' hx
     rw [he] at this; exact this
   · rw [List.drop_eq_nil_of_le (by omega)] at he
     have := h σ' hx
     rw [he] at this; exact this
 | succ g ih =>
   intro k σ' hg hk vm hx he
   obtain ⟨x,gH⟩ := hr.ex (k := k) (by omega)
   obtain ⟨b,o,rfl,ZZ⟩ := Fo.at hr gH
   rw [A3 gH] at he
   refine Av.Bc ⟨fun _ => ⟨b,o,rfl,by omega,x.1,x.2,by simpa using ZZ.mono hx,fun _ => ⟨fun iq => ⟨_,rfl,?_⟩,fun iq => ?_⟩⟩,fun hh => by omega⟩
   · rw [show ms.drop k = [] from List.drop_eq_nil_of_le (by omega)] at he
     have := h σ' hx
     rw [he] at this; exact this
   · obtain ⟨y,hyk⟩ := hs.ex (k := k) (by omega)
     obtain ⟨b',o',rfl,bI⟩ := Fo.at hs hyk
     rw [A3 hyk] at he
     have I6 : CR ls ms = if SR JS JS x y = 0 then CR (ls.drop (k + 1)) (ms.drop (k + 1)) else SR JS JS x y := he
     refine ⟨b',o',rfl,by omega,y.1,y.2,by simpa using bI.mono hx,fun _ => ⟨76,#[],#[],rfl,ALf,bH fun σ2 A5 => ⟨_,rfl,fun A4 => ⟨_,rfl,?_⟩,fun heq => ⟨AN (by omega : k < n) hr.big,ih (k + 1) σ2 (by omega) (by omega) (by omega) (hx.trans A5) ?_⟩⟩⟩⟩
     · have := h σ2 (hx.trans A5)
       rw [I6,if_neg A4] at this; exact this
     · rw [I6,if_pos (Decidable.not_not.1 heq)]
def Mf : List Pt → Bool
 | [] => false
 | [_] => true
 | a :: b :: l => decide (a.1 < b.1) && Mf (b :: l)
theorem Ko : ∀ ps : List Pt,Mf ps = true ↔ 0 < ps.length ∧ ∀ j a b,ps[j]? = some a → ps[j + 1]? = some b → a.1 < b.1
 | [] => by simp [Mf]
 | [a] => by simp [Mf]
 | a :: b :: l => by
   simp only [Mf,Bool.and_eq_true,decide_eq_true_eq]
   rw [Ko (b :: l)]
   constructor
   · rintro ⟨h1,h2,h3⟩
     refine ⟨by simp,fun j x y hx hy => ?_⟩
     cases j with
     | zero => simp at hx hy; subst hx; subst hy; exact h1
     | succ j => exact h3 j x y (by simpa using hx) (by simpa using hy)
   · rintro ⟨h1,h2⟩
     exact ⟨h2 0 a b rfl rfl,by simp,fun j x y hx hy => h2 (j + 1) x y (by simpa using hx) (by simpa using hy)⟩
theorem Ey.at {p : Option Addr} {n i : Nat} {ps : List Pt} {x : Pt} (hr : Ae 2 Ey σ p n ps) (hx : ps[i]? = some x) : ∃ b o,p = some ⟨b,o,none⟩ ∧ As σ b (o + i * 2) [.int .i64 x.1,.int .u64 x.2] := by
 obtain ⟨b,o,vs,hp,rfl,hl⟩ := Ae.idx hr hx
 exact ⟨b,o,hp,hl⟩
theorem YU {p : Option Addr} {n c : Nat} {ps : List Pt} (hr : Ae 2 Ey σ p n ps) (h : R (.returned (.bool (Mf ps))) σ) : Spec prog 69 #[.slice p n c] σ R := by
 have hl : ps.length = n := hr.1
 refine Dg.start ?_
 have fin : (∀ j a b,ps[j]? = some a → ps[j + 1]? = some b → a.1 < b.1) → R (.returned (.bool (decide (0 < (n : Int))))) σ := fun hh => by
   have e : Mf ps = decide (0 < (n : Int)) := by
     rw [Bool.eq_iff_iff,Ko,decide_eq_true_eq]
     exact ⟨fun h => by omega,fun h => ⟨by omega,hh⟩⟩
   rw [e] at h; exact h
 suffices H : ∀ g k : Nat,n - k = g → 1 ≤ k → (∀ j a b,j + 1 < k → ps[j]? = some a → ps[j + 1]? = some b → a.1 < b.1) → Dg.JD R p n c k σ from H (n - 1) 1 rfl (Nat.le_refl _) (fun j a b hj => by omega)
 intro g
 induction g with
 | zero =>
   intro k hg hk DQ
   refine Dg.BR ⟨fun Ax => by omega,fun _ => fin fun j a b ha hb => DQ j a b ?_ ha hb⟩
   have := (List.getElem?_eq_some_iff.1 hb).1; omega
 | succ g ih =>
   intro k hg hk DQ
   obtain ⟨x,hx⟩ := hr.ex (k := k) (by omega)
   obtain ⟨y,hy⟩ := hr.ex (k := k - 1) (by omega)
   obtain ⟨b,o,rfl,ZZ⟩ := Ey.at hr hx
   obtain ⟨_,_,he,bI⟩ := Ey.at hr hy
   cases he
   have e1 : Int.toNat ((k : Int) - 1) = k - 1 := by omega
   refine Dg.BR ⟨fun _ => ⟨b,o,rfl,by omega,x.1,by simpa using ZZ.1,by unfold AM; have := hr.big; omega,by omega,y.1,by rw [e1]; simpa using bI.1,fun hle => ?_,fun hgt => ⟨AN (by omega : k < n) hr.big,ih (k + 1) (by omega) (by omega) fun j a b' hj ha hb => ?_⟩⟩,fun hh => by omega⟩
   · have e : Mf ps = false := by
       rw [Bool.eq_false_iff,ne_eq,Ko]
       exact fun hh => by
         have := hh.2 (k - 1) y x hy (by rw [show k - 1 + 1 = k by omega]; exact hx)
         omega
     rw [e] at h; exact h
   · by_cases qM : j + 1 = k
     · rw [qM,hx] at hb; cases hb
       rw [show j = k - 1 by omega,hy] at ha; cases ha
       omega
     · exact DQ j a b' (by omega) ha hb
def JT : Option (List Lb) → List Sr → Bool
 | _,[] => true
 | q,s :: l => decide (OY s.ls = 0) && Mf s.ps && (match q with | none => true | some q => decide (CR q s.ls < 0)) && JT (some s.ls) l
theorem UZ (q : Option (List Lb)) (s : Sr) (l : List Sr) : JT q (s :: l) = (decide (OY s.ls = 0) && Mf s.ps && (match q with | none => true | some q => decide (CR q s.ls < 0)) && JT (some s.ls) l) := by
 cases q <;> rfl
theorem GL.at {p : Option Addr} {n i : Nat} {ss : List Sr} {s : Sr} (hr : Ae 2 GL σ p n ss) (hx : ss[i]? = some s) : ∃ b o p1 n1 c1 q m d,p = some ⟨b,o,none⟩ ∧ As σ b (o + i * 2) [.slice p1 n1 c1,.slice q m d] ∧ Fo σ p1 n1 s.ls ∧ Ae 2 Ey σ q m s.ps ∧ m ≤ d := by
 obtain ⟨b,o,vs,hp,⟨p1,n1,c1,q,m,d,rfl,h1,h2,h3⟩,hl⟩ := Ae.idx hr hx
 exact ⟨b,o,p1,n1,c1,q,m,d,hp,hl,h1,h2,h3⟩
theorem YV {p : Option Addr} {n c : Nat} {ss : List Sr} (hr : Ae 2 GL σ p n ss) (h : ∀ σ',Ext σ σ' → R (.returned (.int .i64 (if JT none ss then 0 else 100))) σ') : Spec prog 46 #[.slice p n c] σ R := by
 have hl : ss.length = n := hr.1
 refine DH.start ?_
 suffices H : ∀ g k : Nat,∀ σ',n - k = g → k ≤ n → Ext σ σ' → JT none ss = JT (if k = 0 then none else (ss[k - 1]?).map (·.ls)) (ss.drop k) → DH.Hi R p n c p n c n k σ' from H n 0 σ rfl (Nat.zero_le _) (.refl _) rfl
 intro g
 induction g with
 | zero =>
   intro k σ' hg hk hx he
   rw [List.drop_eq_nil_of_le (by omega)] at he
   refine DH.Bc ⟨fun Ax => by omega,fun _ => ?_⟩
   have := h σ' hx
   rw [he] at this; exact this
 | succ g ih =>
   intro k σ' hg hk hx he
   have IP : k < n := by omega
   obtain ⟨s,hs⟩ := hr.ex IP
   obtain ⟨b,o,p1,n1,c1,q,m,d,rfl,YW,h1,h2,h3⟩ := GL.at hr hs
   rw [A3 hs,UZ] at he
   have bad : (decide (OY s.ls = 0) && Mf s.ps && (match (if k = 0 then none else (ss[k - 1]?).map (·.ls)) with | none => true | some q => decide (CR q s.ls < 0))) = false → ∀ σ2,Ext σ σ2 → R (.returned (.int .i64 100)) σ2 := fun hf σ2 A5 => by
     have := h σ2 A5
     rw [he,hf] at this; exact this
   refine DH.Bc ⟨fun _ => ⟨b,o,rfl,by omega,p1,n1,c1,q,m,d,by simpa using YW.mono hx,fun _ => Px (h1.mono CM.mono hx) ⟨_,rfl,fun A4 => bad (by simp [A4]) σ' hx,fun h0 => YU (h2.mono Ey.mono hx) ⟨_,rfl,fun hf => bad (by simp [hf]) σ' hx,fun ht => ?_⟩⟩⟩,fun hh => by omega⟩
   have dz := Decidable.not_not.1 h0
   have jF : Mf s.ps = true := ht
   have next : ∀ σ2,Ext σ σ2 → (match (if k = 0 then none else (ss[k - 1]?).map (·.ls)) with | none => true | some q => decide (CR q s.ls < 0)) = true → AM ((k : Int) + 1) ∧ DH.Hi R (aD b o) n c (aD b o) n c n ((k : Int) + 1) σ2 := fun σ2 A5 hm => by
     refine ⟨AN IP hr.big,ih (k + 1) σ2 (by omega) (by omega) A5 ?_⟩
     rw [he,hm,dz,jF]
     simp [hs]
   refine ⟨fun Qd => ⟨by unfold AM; have := hr.big; omega,b,o,rfl,by omega,?_⟩,fun Qd => next σ' hx (by rw [if_pos (by omega)])⟩
   obtain ⟨s',TN⟩ := hr.ex (k := k - 1) (by omega)
   obtain ⟨_,_,p1',n1',c1',_,_,_,WS,ALh,h1',_,_⟩ := GL.at hr TN
   cases WS
   have e1 : Int.toNat ((k : Int) - 1) = k - 1 := by omega
   refine ⟨p1',n1',c1',by rw [e1]; simpa using (ALh.mono hx).1,LN (h1'.mono CM.mono hx) (h1.mono CM.mono hx) fun σ2 A5 => ⟨_,rfl,fun gE => bad ?_ σ2 (hx.trans A5),fun Ax => next σ2 (hx.trans A5) ?_⟩⟩
   · rw [if_neg (by omega),TN]
     simp; omega
   · rw [if_neg (by omega),TN]
     simp; omega
end
end TwW
end
section
namespace TwW
open Go Tw Go.RowKit Go.Proofs.Tryz
def Hg (x : Nat) : Bool := !(FloatKind.f64.format.order x x == some .eq)
def toF (x : Nat) : Nat := if Hg x then 9221120237041090560 else x
theorem SU (d : Ieee.Datum) : d.order d = if d.isNaN then none else some .eq := by
 cases d with
 | nan => rfl
 | infinity s => cases s <;> rfl
 | number s m i => simp [Ieee.Datum.order,Ieee.Datum.isNaN,Std.ReflCmp.compare_self]
theorem NW (x : Nat) : Hg x = true ↔ 9218868437227405312 < x % 9223372036854775808 := by
 have h1 : Hg x = (Ieee.double.read x).isNaN := by
   show (!((Ieee.double.read x).order (Ieee.double.read x) == some .eq)) = _
   rw [SU]
   cases (Ieee.double.read x).isNaN <;> rfl
 rw [h1]
 have e1 : Ieee.double.signWeight = 9223372036854775808 := by decide
 have e2 : Ieee.double.binade = 4503599627370496 := by decide
 have e3 : Ieee.double.infRung = 9218868437227405312 := by decide
 unfold Ieee.Format.read
 simp only [e1,e2,e3]
 split
 · simp [Ieee.Datum.isNaN]; omega
 · split
   · simp [Ieee.Datum.isNaN]; omega
   · split
     · simp [Ieee.Datum.isNaN]; omega
     · simp [Ieee.Datum.isNaN]; omega
theorem YX : Hg 9221120237041090560 = true := (NW _).2 (by decide)
theorem bJ (a b t : Nat) : Hg (Question.cut (.nanBits .f64 a b) t) = true := by
 rw [NW]
 show 9218868437227405312 < ((t % 2) * 9223372036854775808 + 9218868437227405312 + 1 + (t / 2) % 4503599627370495) % 9223372036854775808
 have h1 := Nat.mod_lt (t / 2) (show 0 < 4503599627370495 by decide)
 generalize (t / 2) % 4503599627370495 = r at *
 rcases Nat.mod_two_eq_zero_or_one t with h | h <;> rw [h] <;> omega
theorem toF_drawn (a b t : Nat) : toF (Question.cut (.nanBits .f64 a b) t) = 9221120237041090560 := by unfold toF; rw [bJ]; rfl
def vo (op : Int) (a b : Nat) : Option Nat := if op = 1 then Ieee.double.add a b else if op = 2 then Ieee.double.sub a b else if op = 3 then Ieee.double.mul a b else Ieee.double.div a b
def AFq : Option Nat → Nat
 | some r => toF r
 | none => 9221120237041090560
def sI (a b : Nat) : Option Nat → Sem Value
 | some r => pure (.float .f64 r)
 | none => do pure (.float .f64 (← choose (.nanBits .f64 a b)))
def Ua (op : Int) (a b : Nat) : Nat := AFq (vo op a b)
def fCm (op : Int) (a b : Nat) : Bool :=
 let c := Ieee.double.order a b
 if op = 5 then c == some .eq else if op = 6 then c != some .eq else if op = 7 then c == some .lt else if op = 8 then c == some .lt || c == some .eq else if op = 9 then c == some .gt else if op = 10 then c == some .gt || c == some .eq else false
section
variable [Ej] {σ : Hp} {R : Rr}
theorem NY {b : Nat} : YN prog 45 #[.float .f64 b] σ (.int .u64 b) := fun w _ => by
 rw [run_callFunc_extern Go.Proofs.Tryz.func45 (by kernel_rfl) (by kernel_rfl) (by kernel_rfl) (e := Extern.MathFloatBits.float64bits) (by kernel_rfl)]
 rfl
theorem Ob {x : Int} : YN prog 22 #[.int .u64 x] σ (.float .f64 x.toNat) := fun w _ => by
 rw [run_callFunc_extern Go.Proofs.Tryz.func22 (by kernel_rfl) (by kernel_rfl) (by kernel_rfl) (e := Extern.MathFloatBits.float64frombits) (by kernel_rfl)]
 rfl
theorem bK {x : Nat} (h : R (.returned (.bool (Hg x))) σ) : Spec prog 216 #[.float .f64 x] σ R :=
 RF.start ⟨Hg x,fun w _ => rfl,h⟩
theorem GM {x : Int} (h : R (.returned (.float .f64 x.toNat)) σ) : Spec prog 182 #[.int .u64 x] σ R :=
 dO.start (.y Ob ⟨_,rfl,h⟩)
theorem GN {x : Nat} (h : R (.returned (.int .u64 (toF x : Nat))) σ) : Spec prog 174 #[.float .f64 x] σ R := by
 refine df.start (bK ⟨_,rfl,fun ht => ?_,fun hf => .y NY ⟨_,rfl,?_⟩⟩)
 · rw [show toF x = 9221120237041090560 by unfold toF; rw [ht]; rfl] at h; exact h
 · rw [show toF x = x by unfold toF; rw [hf]; rfl] at h; exact h
def nrm (x : Int) : Int := (toF x.toNat : Nat)
theorem Fe {x : Int} (h : R (.returned (.int .u64 (nrm x))) σ) : Spec prog 186 #[.int .u64 x] σ R :=
 PA.start (GM ⟨_,rfl,GN ⟨_,rfl,h⟩⟩)
theorem nB {m : Sem Value} {q : Question} {f : Nat → Value} {Φ : Value → Hp → Prop} (hm : ∀ w,m.run prog w = .ok (f (q.cut (w.tape w.drawn q))) { w with drawn := w.drawn + 1 }) (h : ∀ t,Φ (f (q.cut t)) σ) : AJ prog m σ Φ := fun w F hs hF =>
 ⟨_,_,σ,hm w,h _,⟨fun b o hb => hs b o hb,fun b hb => ⟨(hF b hb).2,rfl⟩,(CZ.same rfl rfl rfl).drew,rfl,Nat.le_refl _⟩⟩
theorem Dk {m : Sem Value} {v : Value} {Φ : Value → Hp → Prop} (hm : ∀ w,m.run prog w = .ok v w) (h : Φ v σ) : AJ prog m σ Φ := fun w F hs hF =>
 ⟨_,_,σ,hm w,h,⟨hs,fun b hb => ⟨(hF b hb).2,rfl⟩,.same rfl rfl rfl,rfl,Nat.le_refl _⟩⟩
theorem LO {op : BinOp} {a b : Nat} {Φ : Value → Hp → Prop} (r : Option Nat) (hr : ∀ w,(Go.binOp op 51 (.float .f64 a) (.float .f64 b)).run prog w = (sI a b r).run prog w)
   (h : ∀ x : Nat,toF x = AFq r → Φ (.float .f64 x) σ) : AJ prog (Go.binOp op 51 (.float .f64 a) (.float .f64 b)) σ Φ := by
 cases r with
 | some r => exact Dk (v := .float .f64 r) (fun w => (hr w).trans rfl) (h r rfl)
 | none => exact nB (q := .nanBits .f64 a b) (f := fun x => .float .f64 x) (fun w => (hr w).trans rfl) (fun t => h _ (toF_drawn a b t))
theorem QP {a b : Nat} {Φ : Value → Hp → Prop} (h : ∀ x : Nat,toF x = Ua 1 a b → Φ (.float .f64 x) σ) : AJ prog (Go.binOp .add 51 (.float .f64 a) (.float .f64 b)) σ Φ :=
 LO (Ieee.double.add a b) (fun w => by refine (show _ = (Op.floatArith .add .f64 a b).run prog w from rfl).trans ?_; unfold Op.floatArith; simp only [FloatKind.format]; cases Ieee.double.add a b <;> rfl) h
theorem sJ {a b : Nat} {Φ : Value → Hp → Prop} (h : ∀ x : Nat,toF x = Ua 2 a b → Φ (.float .f64 x) σ) : AJ prog (Go.binOp .sub 51 (.float .f64 a) (.float .f64 b)) σ Φ :=
 LO (Ieee.double.sub a b) (fun w => by refine (show _ = (Op.floatArith .sub .f64 a b).run prog w from rfl).trans ?_; unfold Op.floatArith; simp only [FloatKind.format]; cases Ieee.double.sub a b <;> rfl) h
theorem NZ {a b : Nat} {Φ : Value → Hp → Prop} (h : ∀ x : Nat,toF x = Ua 3 a b → Φ (.float .f64 x) σ) : AJ prog (Go.binOp .mul 51 (.float .f64 a) (.float .f64 b)) σ Φ :=
 LO (Ieee.double.mul a b) (fun w => by refine (show _ = (Op.floatArith .mul .f64 a b).run prog w from rfl).trans ?_; unfold Op.floatArith; simp only [FloatKind.format]; cases Ieee.double.mul a b <;> rfl) h
theorem eA {a b : Nat} {Φ : Value → Hp → Prop} (h : ∀ x : Nat,toF x = Ua 4 a b → Φ (.float .f64 x) σ) : AJ prog (Go.binOp .quo 51 (.float .f64 a) (.float .f64 b)) σ Φ :=
 LO (Ieee.double.div a b) (fun w => by refine (show _ = (Op.floatArith .quo .f64 a b).run prog w from rfl).trans ?_; unfold Op.floatArith; simp only [FloatKind.format]; cases Ieee.double.div a b <;> rfl) h
def Kq (op a b : Int) : Int := (Ua op a.toNat b.toNat : Nat)
theorem Iy {op a b : Int} (h : R (.returned (if 1 ≤ op ∧ op ≤ 4 then .tuple #[.int .u64 (Kq op a b),.bool true] else .tuple #[.int .u64 0,.bool false])) σ) : Spec prog 203 #[.int .i64 op,.int .u64 a,.int .u64 b] σ R := by
 refine R8.start (GM ⟨_,rfl,GM ⟨_,rfl,fun h1 => QP fun x hx => ⟨_,rfl,GN ⟨_,rfl,?_⟩⟩,fun h1 => ⟨fun h2 => sJ fun x hx => ⟨_,rfl,GN ⟨_,rfl,?_⟩⟩,fun h2 => ⟨fun h3 => NZ fun x hx => ⟨_,rfl,GN ⟨_,rfl,?_⟩⟩,fun h3 => ⟨fun h4 => eA fun x hx => ⟨_,rfl,GN ⟨_,rfl,?_⟩⟩,fun h4 => ?_⟩⟩⟩⟩⟩)
 · subst h1; rw [hx]; exact h
 · subst h2; rw [hx]; exact h
 · subst h3; rw [hx]; exact h
 · subst h4; rw [hx]; exact h
 · rw [if_neg (by omega)] at h; exact h
end
end TwW
end
section
namespace TwW
open Go Tw Go.RowKit Go.Proofs.Tryz
section
variable [Ej] {σ : Hp} {R : Rr}
def Pz (op a b : Int) : Bool := fCm op a.toNat b.toNat
theorem Iz {op a b : Int} (h : R (.returned (.tuple #[.bool (Pz op a b),.bool (decide (5 ≤ op ∧ op ≤ 10))])) σ) : Spec prog 204 #[.int .i64 op,.int .u64 a,.int .u64 b] σ R := by
 have fin : ∀ {k : Int} {t : Bool},op = k → 5 ≤ k → k ≤ 10 → fCm k a.toNat b.toNat = t → R (.returned (.tuple #[.bool t,.bool true])) σ := fun hk h5 SN ht => by
   subst hk
   rw [show Pz op a b = fCm op a.toNat b.toNat from rfl,ht,show decide (5 ≤ op ∧ op ≤ 10) = true from decide_eq_true ⟨h5,SN⟩] at h
   exact h
 refine NQ.start (GM ⟨_,rfl,GM ⟨_,rfl,
   fun h1 => ⟨_,fun w _ => rfl,fin h1 (by decide) (by decide) rfl⟩,fun h1 =>
   ⟨fun h2 => ⟨_,fun w _ => rfl,fin h2 (by decide) (by decide) rfl⟩,fun h2 =>
   ⟨fun h3 => ⟨_,fun w _ => rfl,fin h3 (by decide) (by decide) rfl⟩,fun h3 =>
   ⟨fun h4 => ⟨_,fun w _ => rfl,fin h4 (by decide) (by decide) rfl⟩,fun h4 =>
   ⟨fun h5 => ⟨_,fun w _ => rfl,fin h5 (by decide) (by decide) rfl⟩,fun h5 =>
   ⟨fun h6 => ⟨_,fun w _ => rfl,fin h6 (by decide) (by decide) rfl⟩,fun h6 => ?_⟩⟩⟩⟩⟩⟩⟩)
 rw [show decide (5 ≤ op ∧ op ≤ 10) = false from decide_eq_false (by omega),show Pz op a b = false by unfold Pz fCm; simp only [h1,h2,h3,h4,h5,h6,if_false]] at h
 exact h
def bL (x : Int) : Int := (toF (Go.bits .andNot .u64 x 9223372036854775808).toNat : Nat)
theorem nC {x : Int} (hx : 0 ≤ x) (h : R (.returned (.int .u64 (bL x))) σ) : Spec prog 144 #[.int .u64 x] σ R := by
 refine NN.start (GM ⟨_,rfl,XM.start (.y NY ⟨_,rfl,fun x5 h5 => .y Ob ⟨_,rfl,_,rfl,GN ⟨_,rfl,?_⟩⟩⟩)⟩)
 rw [show bL x = (toF x5.toNat : Nat) by unfold bL; rw [h5,Int.toNat_of_nonneg hx]] at h
 exact h
def Mg (x : Nat) : Nat := match Ieee.double.read x with
 | .nan _ _ => 9221120237041090560
 | d => toF (Ieee.double.write (d.integral .down))
def Vr (x : Int) : Int := (Mg x.toNat : Nat)
theorem LP (x : Nat) : Hg x = (Ieee.double.read x).isNaN := by
 show (!((Ieee.double.read x).order (Ieee.double.read x) == some .eq)) = _
 rw [SU]
 cases (Ieee.double.read x).isNaN <;> rfl
theorem bM (s : Bool) (t : Nat) : Hg (Ieee.double.write (.nan s (Ieee.double.quiet t))) = true := by
 rw [NW]
 have e1 : Ieee.double.signWeight = 9223372036854775808 := by decide
 have e2 : Ieee.double.binade = 4503599627370496 := by decide
 have e3 : Ieee.double.infRung = 9218868437227405312 := by decide
 have hp : (Ieee.double.quiet t % 4503599627370496).testBit 51 = true := by
   rw [show 4503599627370496 = 2 ^ 52 from rfl,Nat.testBit_mod_two_pow]
   show (decide (51 < 52) && (t ||| 2 ^ 51).testBit 51) = true
   rw [Nat.testBit_or,Nat.testBit_two_pow_self]
   simp
 have hp0 : 0 < Ieee.double.quiet t % 4503599627370496 := by
   apply Nat.pos_of_ne_zero
   intro h0
   rw [h0] at hp
   simp at hp
 have Ax := Nat.mod_lt (Ieee.double.quiet t) (show 0 < 4503599627370496 by decide)
 show 9218868437227405312 < Ieee.double.word s (Ieee.double.infRung + Ieee.double.quiet t % Ieee.double.binade) % 9223372036854775808
 unfold Ieee.Format.word
 rw [e1,e2,e3]
 generalize Ieee.double.quiet t % 4503599627370496 = p at *
 cases s
 · rw [if_neg (by decide)]; omega
 · rw [if_pos rfl]; omega
def flo (x : Nat) : Sem Value := match Ieee.double.read x with
 | .nan s t => if Ieee.double.quiet t = t then pure (.float .f64 x) else do
   let kept ← choose (.extern "math.Floor,Ceil,Trunc,RoundToEven.signallingNaN kept" 2)
   pure (.float .f64 (if kept == 1 then x else Ieee.double.write (.nan s (Ieee.double.quiet t))))
 | d => pure (.float .f64 (Ieee.double.write (d.integral .down)))
theorem nE {x : Nat} {Φ : Value → Hp → Prop} (h : ∀ y : Nat,toF y = Mg x → Φ (.float .f64 y) σ) : EN prog 222 #[.float .f64 x] σ Φ := by
 have Ca : ∀ w,(callFunc 222 #[.float .f64 x]).run prog w = ((flo x).run prog w).andThen fun v w' => .ok (.value v) w' := fun w => by
   rw [run_callFunc_extern Go.Proofs.Tryz.func222 (by kernel_rfl) (by kernel_rfl) (by kernel_rfl) (e := Extern.MathFloor.toIntegral "math.archFloor" .down) (by kernel_rfl)]
   rfl
 have same : ∀ y,flo x = pure (.float .f64 y) → toF y = Mg x → EN prog 222 #[.float .f64 x] σ Φ := fun y hy hf => .y (v := .float .f64 y) (fun w _ => by rw [Ca,hy]; rfl) (h y hf)
 cases hd : Ieee.double.read x with
 | number s m i => exact same _ (by unfold flo; rw [hd]) (by unfold Mg; rw [hd])
 | infinity s => exact same _ (by unfold flo; rw [hd]) (by unfold Mg; rw [hd])
 | nan s t =>
   have hx : Hg x = true := by rw [LP,hd]; rfl
   have hn : Mg x = 9221120237041090560 := by unfold Mg; rw [hd]
   have e1 : toF x = 9221120237041090560 := by unfold toF; rw [hx]; rfl
   by_cases hq : Ieee.double.quiet t = t
   · exact same x (by unfold flo; rw [hd]; simp only [hq,if_true]) (by rw [e1,hn])
   · intro w F hs hF
     refine ⟨.float .f64 (if (Question.cut (.extern "math.Floor,Ceil,Trunc,RoundToEven.signallingNaN kept" 2) (w.tape w.drawn (.extern "math.Floor,Ceil,Trunc,RoundToEven.signallingNaN kept" 2))) == 1 then x else Ieee.double.write (.nan s (Ieee.double.quiet t))),{ w with drawn := w.drawn + 1 },σ,?_,?_,⟨fun b o hb => hs b o hb,fun b hb => ⟨(hF b hb).2,rfl⟩,(CZ.same rfl rfl rfl).drew,rfl,Nat.le_refl _⟩⟩
     · rw [Ca]
       unfold flo
       rw [hd]
       simp only [hq,if_false]
       rfl
     · refine h _ ?_
       rw [hn]
       split
       · exact e1
       · unfold toF; rw [bM]; rfl
theorem bN {x : Int} (h : R (.returned (.int .u64 (Vr x))) σ) : Spec prog 145 #[.int .u64 x] σ R :=
 Ir.start (GM ⟨_,rfl,SJ.start (nE fun y hy => ⟨_,rfl,_,rfl,GN ⟨_,rfl,by rw [hy]; exact h⟩⟩)⟩)
def Aq (n : Int) : Int := (FloatKind.f64.nearest n : Nat)
theorem I0 {n : Int} (h : R (.returned (.int .u64 (Aq n))) σ) : Spec prog 143 #[.int .i64 n] σ R :=
 SI.start (Dk (v := .float .f64 (FloatKind.f64.nearest n)) (fun w => by kernel_rfl) ⟨_,rfl,.y NY ⟨_,rfl,h⟩⟩)
theorem bO {b : Bool} (h : R (.returned (.int .u64 (if b then Aq 1 else Aq 0))) σ) : Spec prog 205 #[.bool b] σ R :=
 R9.start ⟨fun ht => I0 ⟨_,rfl,by rw [ht] at h; exact h⟩,fun hf => I0 ⟨_,rfl,by rw [hf] at h; exact h⟩⟩
theorem YY {a b : Int} (h : R (.returned (.int .u64 (Kq 1 a b))) σ) : Spec prog 201 #[.int .u64 a,.int .u64 b] σ R := eval_add.start (Iy ⟨_,_,rfl,h⟩)
theorem YZ {a b : Int} (h : R (.returned (.int .u64 (Kq 2 a b))) σ) : Spec prog 190 #[.int .u64 a,.int .u64 b] σ R := Xy.start (Iy ⟨_,_,rfl,h⟩)
theorem Ya {a b : Int} (h : R (.returned (.int .u64 (Kq 4 a b))) σ) : Spec prog 194 #[.int .u64 a,.int .u64 b] σ R := XX.start (Iy ⟨_,_,rfl,h⟩)
theorem nF {a : Int} (h : R (.returned (.bool (decide (nrm a = 9221120237041090560)))) σ) : Spec prog 229 #[.int .u64 a] σ R := XY.start (Fe ⟨_,rfl,h⟩)
def vq (x : Int) : Int := nrm (Go.bits .xor .u64 x 9223372036854775808)
theorem PO {x : Int} (h : R (.returned (.int .u64 (vq x))) σ) : Spec prog 162 #[.int .u64 x] σ R := PF.start fun x4 h4 => Fe ⟨_,rfl,by rw [h4]; exact h⟩
end
end TwW
end
section
namespace TwW
open Go Tw Go.RowKit Go.Proofs.Tryz
section
variable [Ej] {σ : Hp} {R : Rr}
def Oc : List Int → Int
 | [] => 0
 | v :: l => l.foldl (Kq 1) (nrm v)
theorem SX {p : Option Addr} {n c : Nat} {vs : List Int} (hr : Ep .u64 σ p n vs) (h0 : 0 < n) (hc : n ≤ c) (h : R (.returned (.int .u64 (Oc vs))) σ) : Spec prog 151 #[.slice p n c] σ R := by
 have hl : vs.length = n := hr.1
 obtain ⟨v,hv⟩ := hr.ex h0
 obtain ⟨b,o,rfl,Ek⟩ := Ep.at hr hv
 refine FY.start ⟨b,o,rfl,by omega,v,by simpa using Ek,Fe ⟨_,rfl,by omega,?_⟩⟩
 have hs : Ep .u64 σ (IL (aD b o) 1 c 1) (n - 1) ((vs.drop 1).take (n - 1)) := Ae.sub hr (by decide) (by omega) hc
 have hd : (vs.drop 1).take (n - 1) = vs.tail := by rw [List.drop_one,List.take_of_length_le (by rw [List.length_tail]; omega)]
 rw [hd] at hs
 have dD : vs = v :: vs.tail := by
   cases vs with
   | nil => cases hv
   | cons a l => simp only [List.getElem?_cons_zero,Option.some.injEq] at hv; rw [hv]; rfl
 rw [dD] at h
 change R (.returned (.int .u64 (vs.tail.foldl (Kq 1) (nrm v)))) σ at h
 generalize IL (aD b o) 1 c 1 = q at *
 suffices H : ∀ g k : Nat,∀ (q' : Option Addr) (a : Int),(0 < n - 1 → q' = q) → n - 1 - k = g → k ≤ n - 1 → vs.tail.foldl (Kq 1) (nrm v) = (vs.tail.drop k).foldl (Kq 1) a → FY.A1 R a q (n - 1) (c - 1) ((n - 1 : Nat) : Int) k σ from H (n - 1) 0 q (nrm v) (fun _ => rfl) (by omega) (by omega) rfl
 intro g
 induction g with
 | zero =>
   intro k q' a _ hg hk he
   refine FY.Ab ⟨fun Ax => by omega,fun _ => ?_⟩
   rw [List.drop_eq_nil_of_le (by rw [List.length_tail]; omega)] at he
   rw [he] at h; exact h
 | succ g ih =>
   intro k q' a hq hg hk he
   obtain ⟨x,hx⟩ := hs.ex (k := k) (by omega)
   obtain ⟨b',o',rfl,ZZ⟩ := Ep.at hs hx
   rw [A3 hx] at he
   refine FY.Ab ⟨fun _ => ⟨b',o',rfl,by omega,x,by simpa using ZZ,YY ⟨_,rfl,AN (by omega : k < n - 1) hs.big,ih (k + 1) _ _ (fun _ => rfl) (by omega) (by omega) he⟩⟩,fun hh => by omega⟩
theorem Mh {p : Option Addr} {n c : Nat} (h : R (.returned (.int .u64 (Aq n))) σ) : Spec prog 155 #[.slice p n c] σ R :=
 Gm.start (I0 ⟨_,rfl,h⟩)
theorem Na {p : Option Addr} {n c : Nat} {vs : List Int} (hr : Ep .u64 σ p n vs) (h0 : 0 < n) (hc : n ≤ c) (h : R (.returned (.int .u64 (Kq 4 (Oc vs) (Aq n)))) σ) : Spec prog 154 #[.slice p n c] σ R :=
 EZ.start (SX hr h0 hc ⟨_,rfl,Mh ⟨_,rfl,Ya ⟨_,rfl,h⟩⟩⟩)
def Lk (op : Int) (out v : Int) : Int := if Pz op v out = true ∨ nrm out = 9221120237041090560 then v else out
def HS (op : Int) : List Int → Int
 | [] => 0
 | v :: l => nrm (l.foldl (Lk op) v)
theorem Ub {op : Int} {p : Option Addr} {n c : Nat} {vs : List Int} (hr : Ep .u64 σ p n vs) (h0 : 0 < n) (hc : n ≤ c) (h : R (.returned (.int .u64 (HS op vs))) σ) : Spec prog 202 #[.int .i64 op,.slice p n c] σ R := by
 have hl : vs.length = n := hr.1
 obtain ⟨v,hv⟩ := hr.ex h0
 obtain ⟨b,o,rfl,Ek⟩ := Ep.at hr hv
 refine E8.start ⟨b,o,rfl,by omega,v,by simpa using Ek,by omega,?_⟩
 have hs : Ep .u64 σ (IL (aD b o) 1 c 1) (n - 1) ((vs.drop 1).take (n - 1)) := Ae.sub hr (by decide) (by omega) hc
 have hd : (vs.drop 1).take (n - 1) = vs.tail := by rw [List.drop_one,List.take_of_length_le (by rw [List.length_tail]; omega)]
 rw [hd] at hs
 have dD : vs = v :: vs.tail := by
   cases vs with
   | nil => cases hv
   | cons a l => simp only [List.getElem?_cons_zero,Option.some.injEq] at hv; rw [hv]; rfl
 rw [dD] at h
 change R (.returned (.int .u64 (nrm (vs.tail.foldl (Lk op) v)))) σ at h
 generalize IL (aD b o) 1 c 1 = q at *
 suffices H : ∀ g k : Nat,∀ (a : Int),n - 1 - k = g → k ≤ n - 1 → vs.tail.foldl (Lk op) v = (vs.tail.drop k).foldl (Lk op) a → E8.A1 R op a q (n - 1) (c - 1) ((n - 1 : Nat) : Int) k σ from H (n - 1) 0 v (by omega) (by omega) rfl
 intro g
 induction g with
 | zero =>
   intro k a hg hk he
   refine E8.Ab ⟨fun Ax => by omega,fun _ => Fe ⟨_,rfl,?_⟩⟩
   rw [List.drop_eq_nil_of_le (by rw [List.length_tail]; omega)] at he
   rw [he] at h; exact h
 | succ g ih =>
   intro k a hg hk he
   obtain ⟨x,hx⟩ := hs.ex (k := k) (by omega)
   obtain ⟨b',o',rfl,ZZ⟩ := Ep.at hs hx
   rw [A3 hx,List.foldl_cons] at he
   have go : ∀ y,Lk op a x = y → E8.kV R op y (aD b' o') (n - 1) (c - 1) ((n - 1 : Nat) : Int) k σ := fun y hy => E8.rK ⟨AN (by omega : k < n - 1) hs.big,ih (k + 1) y (by omega) (by omega) (by rw [← hy]; exact he)⟩
   refine E8.Ab ⟨fun _ => ⟨b',o',rfl,by omega,x,by simpa using ZZ,Iz ⟨_,_,rfl,fun ht => go x (by unfold Lk; rw [if_pos (.inl ht)]),fun hf => nF ⟨_,rfl,fun ht => go x ?_,fun hn => go a ?_⟩⟩⟩,fun hh => by omega⟩
   · unfold Lk; rw [if_pos (.inr (of_decide_eq_true ht))]
   · unfold Lk; rw [if_neg (by
                                 rintro (h1 | h1)
                                 · rw [h1] at hf; cases hf
                                 · exact absurd h1 (of_decide_eq_false hn))]
theorem SY {p : Option Addr} {n c : Nat} {vs : List Int} (hr : Ep .u64 σ p n vs) (h0 : 0 < n) (hc : n ≤ c) (h : R (.returned (.int .u64 (HS 7 vs))) σ) : Spec prog 152 #[.slice p n c] σ R := Gs.start (Ub hr h0 hc ⟨_,rfl,h⟩)
theorem MF {p : Option Addr} {n c : Nat} {vs : List Int} (hr : Ep .u64 σ p n vs) (h0 : 0 < n) (hc : n ≤ c) (h : R (.returned (.int .u64 (HS 9 vs))) σ) : Spec prog 153 #[.slice p n c] σ R := Dc.start (Ub hr h0 hc ⟨_,rfl,h⟩)
def Nb (out : Int) (p : Int × Int) : Int := if Pz 7 p.2 p.1 = true then Kq 1 out p.1 else out
def Nc (vs : List Int) : Int := (vs.zip vs.tail).foldl Nb (Kq 2 (vs.getLast?.getD 0) (vs.head?.getD 0))
theorem SZ {p : Option Addr} {n c : Nat} {vs : List Int} (hr : Ep .u64 σ p n vs) (h0 : 0 < n) (h : R (.returned (.int .u64 (Nc vs))) σ) : Spec prog 192 #[.slice p n c] σ R := by
 have hl : vs.length = n := hr.1
 have Hf := hr.big
 obtain ⟨v,hv⟩ := hr.ex h0
 obtain ⟨z,hz⟩ := hr.ex (k := n - 1) (by omega)
 obtain ⟨b,o,rfl,Ek⟩ := Ep.at hr hv
 obtain ⟨_,_,he,vr⟩ := Ep.at hr hz
 cases he
 have e1 : Int.toNat ((n : Int) - 1) = n - 1 := by omega
 refine D0.start ⟨by unfold AM; omega,b,o,rfl,by omega,z,by rw [e1]; exact vr,by omega,v,by simpa using Ek,YZ ⟨_,rfl,?_⟩⟩
 have AFr : Nc vs = (vs.zip vs.tail).foldl Nb (Kq 2 z v) := by
   unfold Nc
   rw [List.getLast?_eq_getElem?,hl,hz,List.head?_eq_getElem?,hv]; rfl
 rw [AFr] at h
 suffices H : ∀ g k : Nat,∀ a : Int,n - 1 - k = g → k ≤ n - 1 → (vs.zip vs.tail).foldl Nb (Kq 2 z v) = ((vs.zip vs.tail).drop k).foldl Nb a → D0.BF R (aD b o) n c a ((k + 1 : Nat) : Int) σ from H (n - 1) 0 _ (by omega) (by omega) rfl
 have hlen : (vs.zip vs.tail).length = n - 1 := by rw [List.length_zip,List.length_tail]; omega
 intro g
 induction g with
 | zero =>
   intro k a hg hk he
   refine D0.Ay ⟨fun Ax => by omega,fun _ => ?_⟩
   rw [List.drop_eq_nil_of_le (by omega)] at he
   rw [he] at h; exact h
 | succ g ih =>
   intro k a hg hk he
   obtain ⟨x,hx⟩ := hr.ex (k := k) (by omega)
   obtain ⟨y,hy⟩ := hr.ex (k := k + 1) (by omega)
   obtain ⟨_,_,h1,ZZ⟩ := Ep.at hr hx
   obtain ⟨_,_,h2,bI⟩ := Ep.at hr hy
   cases h1; cases h2
   have ALi : (vs.zip vs.tail)[k]? = some (x,y) := by
     rw [List.getElem?_zip_eq_some]
     exact ⟨hx,by rw [List.getElem?_tail]; exact hy⟩
   rw [A3 ALi,List.foldl_cons] at he
   have e2 : Int.toNat (((k + 1 : Nat) : Int) - 1) = k := by omega
   have e3 : Int.toNat ((k + 1 : Nat) : Int) = k + 1 := by omega
   have go : ∀ w,Nb a (x,y) = w → D0.XJ R (aD b o) n c w ((k + 1 : Nat) : Int) σ := fun w hw => D0.QH ⟨AN (by omega : k + 1 < n) hr.big,ih (k + 1) w (by omega) (by omega) (by rw [← hw]; exact he)⟩
   refine D0.Ay ⟨fun _ => ⟨b,o,rfl,by omega,y,by rw [e3]; exact bI,by unfold AM; omega,by omega,x,by rw [e2]; exact ZZ,Iz ⟨_,_,rfl,fun ht => ⟨by unfold AM; omega,by omega,x,by rw [e2]; exact ZZ,YY ⟨_,rfl,go _ ?_⟩⟩,fun hf => go _ ?_⟩⟩,fun hh => by omega⟩
   · unfold Nb; rw [if_pos ht]
   · unfold Nb; rw [if_neg (by rw [hf]; decide)]
end
end TwW
end
