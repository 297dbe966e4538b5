/-
  Part 3 of the proof that the law EvalWindowsUptoCardSaid of the given program answers true for every input of the given statement; the input reads behind the call as it did. (The texts: packed from 17 texts. Names are shortened by the packing program, for the bound on size.)
-/
import Derived.Test.YtlmhidjgplomgaaGreatDoorA2
import Derived.Laws.BytesArg
import Derived.Laws.Bits64b
import Derived.Laws.IdiomStrings
import Derived.Lib.Bytealg
import Derived.Lib.Split
import Derived.Lib.Index
set_option linter.all false
section
set_option maxRecDepth 100000
noncomputable section
namespace TwW
open Go Tw Go.Proofs.Tryz
variable [Er] {R : Rr} {σ : Hp}

namespace PS
def M : Fw := ⟨prog,14,f14,[11,15,25,35,36],[],false,[],[],[]⟩
theorem ok : M.Ok := ⟨.cons call11 (.cons call15 (.cons call25 (.cons call35 (.cons call36 (AJ.nil))))),mixed,func14,by kernel_rfl⟩
theorem start (h : Al σ fun BG => Spec prog 25 #[.float .f64 4607182418800017408] (Hp.set σ BG (.cells #[(.string (ByteArray.mk #[95,95,110,97,109,101,95,95])),(.string (ByteArray.mk #[120])),(.string (ByteArray.mk #[97])),(.string (ByteArray.mk #[49]))] 56 (0,0))) (AA R (CI .u64 fun x12 y => Spec prog 25 #[.float .f64 4613937818241073152] y (AA R (CI .u64 fun Hm AH => Al AH fun G8 => Al (Hp.set AH G8 (.cells #[.int .i64 0,.int .u64 x12,.int .i64 60,.int .u64 Hm] 50 (0,0))) fun Xi => Spec prog 25 #[.float .f64 4617315517961601024] (Hp.set (Hp.set AH G8 (.cells #[.int .i64 0,.int .u64 x12,.int .i64 60,.int .u64 Hm] 50 (0,0))) Xi (.cells #[(.string (ByteArray.mk #[95,95,110,97,109,101,95,95])),(.string (ByteArray.mk #[120])),(.string (ByteArray.mk #[97])),(.string (ByteArray.mk #[50]))] 56 (0,0))) (AA R (CI .u64 fun MC AL => Al AL fun Lh => Al (Hp.set AL Lh (.cells #[.int .i64 60,.int .u64 MC] 50 (0,0))) fun LJ => Al (Hp.set (Hp.set AL Lh (.cells #[.int .i64 60,.int .u64 MC] 50 (0,0))) LJ (.cells #[(.slice (aD BG 0) 2 2),(.slice (aD G8 0) 2 2),(.slice (aD Xi 0) 2 2),(.slice (aD Lh 0) 1 1)] 40 (0,0))) fun Wc => Al (Hp.set (Hp.set (Hp.set AL Lh (.cells #[.int .i64 60,.int .u64 MC] 50 (0,0))) LJ (.cells #[(.slice (aD BG 0) 2 2),(.slice (aD G8 0) 2 2),(.slice (aD Xi 0) 2 2),(.slice (aD Lh 0) 1 1)] 40 (0,0))) Wc (.cells #[.int .i64 1,(.string (ByteArray.mk #[95,95,110,97,109,101,95,95])),(.string (ByteArray.mk #[120]))] 77 (0,0))) fun fZ => Spec prog 11 #[(.slice (aD fZ 0) 2 2),(.slice (aD LJ 0) 2 2),.int .i64 60] (Hp.set (Hp.set (Hp.set (Hp.set AL Lh (.cells #[.int .i64 60,.int .u64 MC] 50 (0,0))) LJ (.cells #[(.slice (aD BG 0) 2 2),(.slice (aD G8 0) 2 2),(.slice (aD Xi 0) 2 2),(.slice (aD Lh 0) 1 1)] 40 (0,0))) Wc (.cells #[.int .i64 1,(.string (ByteArray.mk #[95,95,110,97,109,101,95,95])),(.string (ByteArray.mk #[120]))] 77 (0,0))) fZ (.cells #[.int .i64 2,.int .i64 0,(.string (ByteArray.mk #[])),(.slice (aD Wc 0) 1 1),.int .i64 0,.int .i64 0,.int .i64 0,.slice none 0 0,.bool false,.int .i64 0,.int .i64 5,.int .i64 1,(.string (ByteArray.mk #[])),.slice none 0 0,.int .i64 0,.int .i64 0,.int .i64 0,.slice none 0 0,.bool false,.int .i64 1] 36 (0,0))) (AA R (fun z Av => ∃ lE fa ri lF,z = (.tuple #[.slice lE fa ri,.int .i64 lF]) ∧ Spec prog 35 #[(.slice (aD fZ 0) 2 2),(.slice (aD LJ 0) 2 2),.int .i64 0,.int .i64 60,.int .i64 60] Av (AA R (fun z Hl => ∃ Xj Vn aL aM,z = (.tuple #[.slice Xj Vn aL,.int .i64 aM]) ∧ Spec prog 15 #[(.slice (aD fZ 0) 2 2)] Hl (AA R (fun z Mc => ∃ AEF AEG,z = (.tuple #[.int .i64 AEF,.int .i64 AEG]) ∧ Br (lF = 0) (Br ((fa : Int) = 1) (Pq lE fun vP zT => In 0 (fa : Int) ∧ LS Mc vP (zT + 1) fun pe n59 pf => Spec prog 25 #[.float .f64 4620693217682128896] Mc (AA R (CI .u64 fun rj ZB => Kp [vP] Mc ZB ∧ Al ZB fun ph => Spec prog 36 #[.slice pe n59 pf,(.slice (aD ph 0) 1 1)] (Hp.set ZB ph (.cells #[.int .i64 60,.int .u64 rj] 50 (0,0))) (AA R (CB fun t63 ZC => Bo t63 (Br (aM = 0) (Br ((Vn : Int) = 1) (Pq Xj fun b76 o76 => In 0 (Vn : Int) ∧ LS ZC b76 (o76 + 1) fun qA lD qB => Br ((lD : Int) = 2) (Br (AEF = 300) (R (.returned (.bool (decide (AEG = 0)))) ZC) (R (.returned (.bool false)) ZC)) (R (.returned (.bool false)) ZC)) (R (.returned (.bool false)) ZC)) (R (.returned (.bool false)) ZC)) (R (.returned (.bool false)) ZC)))))) (R (.returned (.bool false)) Mc)) (R (.returned (.bool false)) Mc)))))))))))))) : Spec prog 14 #[] σ R := M.start h ok
end PS
namespace JQ
variable {p0 : Option Addr} {n0 c0 : Nat}
def M : Fw := ⟨prog,33,f33,[],[],false,[],[],[]⟩
theorem ok : M.Ok := ⟨AJ.nil,mixed,func33,by kernel_rfl⟩
theorem start (h : Al σ fun b3 => AK prog (Builtin.append_ #[37,37] 37 #[(.slice (aD b3 0) 0 0),.slice p0 n0 c0]) (Hp.set σ b3 (.cells #[] 56 (0,0))) (CS fun p5 n5 c5 y => R (.returned (.slice p5 n5 c5)) y)) : Spec prog 33 #[.slice p0 n0 c0] σ R := M.start h ok
end JQ
namespace DI
variable {s0 s1 : ByteArray} {x5 x6 : Int}
def M : Fw := ⟨prog,55,f55,[86],[],false,[],[],[(464,[(0,wT),(1,wT),(5,wI),(6,wI)]),(467,[(0,wT),(1,wT),(5,wI),(6,wI)])]⟩
theorem ok : M.Ok := ⟨.cons call86 (AJ.nil),mixed,func55,by kernel_rfl⟩
def Ak := M.pt 0
def NT := M.pt 1
theorem start (h : Ak R s0 s1 0 0 σ) : Spec prog 55 #[.string s0,.string s1] σ R := M.start h ok
theorem AX (h : Br (x6 ≤ ((ByteArray.size s0 : Nat) : Int)) (Br (x6 = ((ByteArray.size s0 : Nat) : Int)) (∃ zU,YF prog (Instr.sliceAt 9 (.string s0) (some (.int .i64 x5)) (some (.int .i64 x6)) none) σ (.string zU) ∧ Spec prog 86 #[.string zU,.string s1] σ (AA R (CB fun t28 y => Bo t28 (R (.returned (.bool true)) y) (AG (x6 + 1) ∧ NT R s0 s1 (x6 + 1) x6 y)))) (∃ u20 : UInt8,0 ≤ x6 ∧ (ByteArray.data s0)[Int.toNat x6]? = some u20 ∧ Br ((((UInt8.toNat u20 : Nat) : Int) : Int) = 124) (∃ zU,YF prog (Instr.sliceAt 9 (.string s0) (some (.int .i64 x5)) (some (.int .i64 x6)) none) σ (.string zU) ∧ Spec prog 86 #[.string zU,.string s1] σ (AA R (CB fun t28 y => Bo t28 (R (.returned (.bool true)) y) (AG (x6 + 1) ∧ NT R s0 s1 (x6 + 1) x6 y)))) (NT R s0 s1 x5 x6 σ))) (R (.returned (.bool false)) σ)) : Ak R s0 s1 x5 x6 σ := M.of h ok rfl
theorem NU (h : AG (x6 + 1) ∧ Ak R s0 s1 x5 (x6 + 1) σ) : NT R s0 s1 x5 x6 σ := M.of h ok rfl
end DI
namespace SM
variable {x0 : Int}
def M : Fw := ⟨prog,81,f81,[],[],false,[],[],[]⟩
theorem ok : M.Ok := ⟨AJ.nil,mixed,func81,by kernel_rfl⟩
theorem start (h : Al σ fun b1 => R (.returned (.func (.func 127) #[] #[(.pointer (aD b1 0))])) (Hp.set σ b1 (.cells #[.int .i64 x0] 3 (0,0)))) : Spec prog 81 #[.int .i64 x0] σ R := M.start h ok
end SM
namespace CU
variable {s0 : ByteArray} {x3 : Int}
def M : Fw := ⟨prog,88,f88,[129],[],false,[],[],[(464,[(0,wT),(3,wI)])]⟩
theorem ok : M.Ok := ⟨.cons call129 (AJ.nil),mixed,func88,by kernel_rfl⟩
def A5 := M.pt 0
theorem start (h : Br ((((ByteArray.size s0 : Nat) : Int) : Int) < 1) (R (.returned (.bool false)) σ) (Br ((256 : Int) < ((ByteArray.size s0 : Nat) : Int)) (R (.returned (.bool false)) σ) (A5 R s0 0 σ))) : Spec prog 88 #[.string s0] σ R := M.start h ok
theorem A7 (h : Br (x3 < ((ByteArray.size s0 : Nat) : Int)) (Spec prog 129 #[.string s0,.int .i64 x3] σ (AA R (CI .i64 fun BS y => Br (BS = 0) (R (.returned (.bool false)) y) (AG (x3 + BS) ∧ A5 R s0 (x3 + BS) y)))) (R (.returned (.bool true)) σ)) : A5 R s0 x3 σ := M.of h ok rfl
end CU
namespace AW
variable {q0 Du EB p2 GV Hn HD Fv p8 fU rk vQ : Option Addr} {Dl Cc Dm Dx DT Cm G5 GH Ho F5 Hq Ie Ft Fu ic Lm Vo Q2 : Int} {Dn Ig : ByteArray} {Dy Dz D0 EC n2 c2 GX GY Hr Hs HE HF Fy Fz n8 c8 n25 fV n12 qC n47 rm : Nat} {DU Ih : Bool} {v9 : Value}
def M : Fw := ⟨prog,103,f103,[146,147,148],[4,6,11,14],false,[],[],[(488,[(2,wL),(4,.X 36 [.I .i64,.I .i64,.T,.L,.I .i64,.I .i64,.I .i64,.L,.B,.I .i64]),(6,.X 93 [.I .i64,.I .u64,.L,.L]),(8,wL),(9,wV),(25,wL),(26,wI),(27,wI)]),(2024,[(2,wL),(4,.X 36 [.I .i64,.I .i64,.T,.L,.I .i64,.I .i64,.I .i64,.L,.B,.I .i64]),(6,.X 93 [.I .i64,.I .u64,.L,.L]),(8,wL),(12,wL),(47,wL),(48,wI),(49,wI)]),(8103,[(2,wL),(4,.X 36 [.I .i64,.I .i64,.T,.L,.I .i64,.I .i64,.I .i64,.L,.B,.I .i64]),(6,.X 93 [.I .i64,.I .u64,.L,.L]),(8,wL),(12,wL),(47,wL),(48,wI),(49,wI)])]⟩
theorem ok : M.Ok := ⟨.cons call146 (.cons call147 (.cons call148 (AJ.nil))),mixed,func103,by kernel_rfl⟩
def E1 := M.pt 0
def HA := M.pt 1
def Ln := M.pt 2
theorem start (h : ∀ b4 : Nat,∀ b6 : Nat,AK prog (Instr.makeMap 191 none) σ (fun z y => ∃ m17,z = (.map (some m17)) ∧ AK prog (Instr.mapUpdate 191 (.map (some m17)) (.int .i64 11) (.func (.func 144) #[] #[])) y (fun _ AH => AK prog (Instr.mapUpdate 191 (.map (some m17)) (.int .i64 12) (.func (.func 145) #[] #[])) AH (fun _ AL => AK prog (Instr.lookup 191 (.map (some m17)) (.int .i64 Cc) false) AL (fun z Av => ∃ v21,v21 = z ∧ Pq p2 fun Lh Vf => In 0 (n2 : Int) ∧ LS Av Lh (Vf + 2) fun fU n25 fV => E1 R (aD Lh Vf) n2 c2 Dl Cc Dn Du Dy Dz Dm Dx DT EB D0 EC DU Cm 0 0 none 0 0 none 0 0 none 0 0 v21 fU n25 fV (n25 : Int) 0 Av))))) : Spec prog 103 #[.pointer q0,.agg #[.int .i64 Dl,.int .i64 Cc,.string Dn,.slice Du Dy Dz,.int .i64 Dm,.int .i64 Dx,.int .i64 DT,.slice EB D0 EC,.bool DU,.int .i64 Cm],.slice p2 n2 c2] σ R := M.start h ok
theorem FP (h : Br (Lm < ic) (Pq fU fun PR RJ => In Lm (n25 : Int) ∧ ∃ lG lH lI lJ,Au σ PR (RJ + Int.toNat Lm * 2) [.slice lG lH lI,.int .u64 lJ] ∧ ∀ BG : Nat,Spec prog 146 #[.slice lG lH lI] σ (AA R (CS fun yb n34 yc y => ∃ (f38 : Nat) (HR HS : Array Value),v9 = .func (.func f38) HR HS ∧ Enters prog f38 ∧ Spec prog f38 (HR ++ #[.int .u64 lJ] ++ HS) y (AA R (CI .u64 fun vR AH => Al AH fun Wf => AK prog (Builtin.append_ #[67,67] 67 #[.slice p8 n8 c8,(.slice (aD Wf 0) 1 1)]) (Hp.set AH Wf (.cells #[.slice yb n34 yc,.int .u64 vR] 71 (0,0))) (CS fun kE n41 aB AL => AG (Lm + 1) ∧ E1 R p2 n2 c2 G5 GH Ig GV GX GY Ho F5 Hq Hn Hr Hs Ih Ie Ft Fu HD HE HF Fv Fy Fz kE n41 aB v9 (aD PR RJ) n25 fV ic (Lm + 1) AL)))))) (Spec prog 147 #[] σ (AA R (CS fun ia n43 ib y => Pq p2 fun iX iY => In 0 (n2 : Int) ∧ LS y iX (iY + 3) fun vQ n47 rm => HA R (aD iX iY) n2 c2 G5 GH Ig GV GX GY Ho F5 Hq Hn Hr Hs Ih Ie Ft Fu HD HE HF Fv Fy Fz p8 n8 c8 ia n43 ib vQ n47 rm (n47 : Int) 0 y)))) : E1 R p2 n2 c2 G5 GH Ig GV GX GY Ho F5 Hq Hn Hr Hs Ih Ie Ft Fu HD HE HF Fv Fy Fz p8 n8 c8 v9 fU n25 fV ic Lm σ := M.fH h ok rfl fun _ _ => by kernel_rfl
theorem HO (h : Br (Q2 < Vo) (Pq vQ fun b51 o51 => In Q2 (n47 : Int) ∧ ∃ AEH AEI AEJ AEK AEL AEM,Au σ b51 (o51 + Int.toNat Q2 * 2) [.slice AEH AEI AEJ,.slice AEK AEL AEM] ∧ ∀ Bt : Nat,Pq rk fun vP zT => In GH (n12 : Int) ∧ ∃ v58,Hp.ld σ ⟨vP,(zT + Int.toNat GH * 1),none⟩ = some v58 ∧ ∃ (f63 : Nat) (KZ Ka : Array Value),v58 = .func (.func f63) KZ Ka ∧ Enters prog f63 ∧ Spec prog f63 (KZ ++ #[.slice AEK AEL AEM,.agg #[.int .i64 G5,.int .i64 GH,.string Ig,.slice GV GX GY,.int .i64 Ho,.int .i64 F5,.int .i64 Hq,.slice Hn Hr Hs,.bool Ih,.int .i64 Ie],.slice p2 n2 c2] ++ Ka) σ (AA R (fun z y => ∃ AEN AEO,z = (.tuple #[.int .u64 AEN,.bool AEO]) ∧ Bo AEO (Spec prog 146 #[.slice AEH AEI AEJ] y (AA R (CS fun p70 n70 c70 AH => Al AH fun zV => AK prog (Builtin.append_ #[67,67] 67 #[.slice p8 n8 c8,(.slice (aD zV 0) 1 1)]) (Hp.set AH zV (.cells #[.slice p70 n70 c70,.int .u64 AEN] 71 (0,0))) (CS fun p74 n74 c74 AL => Ln R p2 n2 c2 G5 GH Ig GV GX GY Ho F5 Hq Hn Hr Hs Ih Ie Ft Fu HD HE HF Fv Fy Fz p74 n74 c74 (aD vP zT) n12 qC (aD b51 o51) n47 rm Vo Q2 AL)))) (Ln R p2 n2 c2 G5 GH Ig GV GX GY Ho F5 Hq Hn Hr Hs Ih Ie Ft Fu HD HE HF Fv Fy Fz p8 n8 c8 (aD vP zT) n12 qC (aD b51 o51) n47 rm Vo Q2 y)))) (Spec prog 148 #[.slice p8 n8 c8] σ (AA R (fun z y => ∃ vS vT vU vV vW vX vY vZ AES,z = (.tuple #[.agg #[.int .i64 vS,.int .u64 vT,.slice vU vV vW,.slice vX vY vZ],.int .i64 AES]) ∧ R (.returned (.tuple #[.agg #[.int .i64 vS,.int .u64 vT,.slice vU vV vW,.slice vX vY vZ],.int .i64 AES])) y)))) : HA R p2 n2 c2 G5 GH Ig GV GX GY Ho F5 Hq Hn Hr Hs Ih Ie Ft Fu HD HE HF Fv Fy Fz p8 n8 c8 rk n12 qC vQ n47 rm Vo Q2 σ := M.fH h ok rfl fun _ _ => by kernel_rfl
theorem I5 (h : AG (Q2 + 1) ∧ HA R p2 n2 c2 G5 GH Ig GV GX GY Ho F5 Hq Hn Hr Hs Ih Ie Ft Fu HD HE HF Fv Fy Fz p8 n8 c8 rk n12 qC vQ n47 rm Vo (Q2 + 1) σ) : Ln R p2 n2 c2 G5 GH Ig GV GX GY Ho F5 Hq Hn Hr Hs Ih Ie Ft Fu HD HE HF Fv Fy Fz p8 n8 c8 rk n12 qC vQ n47 rm Vo Q2 σ := M.fH h ok rfl fun _ _ => by kernel_rfl
end AW
namespace BJ
variable {q0 Du EB p2 HD Fv p8 fU : Option Addr} {Dl Cc Dm Dx DT Cm Ft Fu ic Lm : Int} {Dn : ByteArray} {Dy Dz D0 EC n2 c2 HE HF Fy Fz n8 c8 n25 fV : Nat} {DU : Bool}
def M : Fw := ⟨prog,106,f106,[146,148,162],[4,6,10],false,[],[],[(488,[(6,.X 93 [.I .i64,.I .u64,.L,.L]),(8,wL),(25,wL),(26,wI),(27,wI)])]⟩
theorem ok : M.Ok := ⟨.cons call146 (.cons call148 (.cons call162 (AJ.nil))),mixed,func106,by kernel_rfl⟩
def rn := M.pt 0
theorem start (h : ∀ b4 : Nat,∀ b6 : Nat,Pq p2 fun Ta Tl => In 0 (n2 : Int) ∧ LI .i64 σ Ta Tl fun Hm => Br (Hm = 1) (In 0 (n2 : Int) ∧ LI .u64 σ Ta (Tl + 1) fun BS => Spec prog 162 #[.int .u64 BS] σ (AA R (CI .u64 fun Hf y => R (.returned (.tuple #[.agg #[.int .i64 1,.int .u64 Hf,.slice none 0 0,.slice none 0 0],.int .i64 0])) y))) (In 0 (n2 : Int) ∧ LS σ Ta (Tl + 2) fun fU n25 fV => rn R 0 0 none 0 0 none 0 0 none 0 0 fU n25 fV (n25 : Int) 0 σ)) : Spec prog 106 #[.pointer q0,.agg #[.int .i64 Dl,.int .i64 Cc,.string Dn,.slice Du Dy Dz,.int .i64 Dm,.int .i64 Dx,.int .i64 DT,.slice EB D0 EC,.bool DU,.int .i64 Cm],.slice p2 n2 c2] σ R := M.start h ok
theorem dB (h : Br (Lm < ic) (Pq fU fun PR RJ => In Lm (n25 : Int) ∧ ∃ lG lH lI lJ,Au σ PR (RJ + Int.toNat Lm * 2) [.slice lG lH lI,.int .u64 lJ] ∧ ∀ DD : Nat,Spec prog 146 #[.slice lG lH lI] σ (AA R (CS fun yb n34 yc y => Spec prog 162 #[.int .u64 lJ] y (AA R (CI .u64 fun Ud AH => Al AH fun We => AK prog (Builtin.append_ #[67,67] 67 #[.slice p8 n8 c8,(.slice (aD We 0) 1 1)]) (Hp.set AH We (.cells #[.slice yb n34 yc,.int .u64 Ud] 71 (0,0))) (CS fun yt n40 yu AL => AG (Lm + 1) ∧ rn R Ft Fu HD HE HF Fv Fy Fz yt n40 yu (aD PR RJ) n25 fV ic (Lm + 1) AL)))))) (Spec prog 148 #[.slice p8 n8 c8] σ (AA R (fun z y => ∃ va vd ve vf vg vh vi vj NS,z = (.tuple #[.agg #[.int .i64 va,.int .u64 vd,.slice ve vf vg,.slice vh vi vj],.int .i64 NS]) ∧ R (.returned (.tuple #[.agg #[.int .i64 va,.int .u64 vd,.slice ve vf vg,.slice vh vi vj],.int .i64 NS])) y)))) : rn R Ft Fu HD HE HF Fv Fy Fz p8 n8 c8 fU n25 fV ic Lm σ := M.pb h ok rfl fun _ => by kernel_rfl
end BJ
namespace De
variable {p0 p5 : Option Addr} {n0 c0 n5 c5 : Nat} {x1 : Int}
def M : Fw := ⟨prog,107,f107,[],[],false,[],[],[(224,[(1,wU),(5,wL)])]⟩
theorem ok : M.Ok := ⟨AJ.nil,mixed,func107,by kernel_rfl⟩
def F3 := M.pt 0
theorem start (h : Al σ fun b6 => AK prog (Builtin.append_ #[90,90] 90 #[(.slice (aD b6 0) 0 0),.slice p0 n0 c0]) (Hp.set σ b6 (.cells #[] 5 (0,0))) (CS fun p8 n8 c8 y => F3 R x1 p8 n8 c8 y)) : Spec prog 107 #[.slice p0 n0 c0,.int .u64 x1] σ R := M.start h ok
theorem As (h : Br (127 < x1) (Df (IntKind.u8.wrap x1) fun x15 => Df (Go.bits .or .u8 x15 128) fun x16 => Al σ fun aN => AK prog (Builtin.append_ #[90,90] 90 #[.slice p5 n5 c5,(.slice (aD aN 0) 1 1)]) (Hp.set σ aN (.cells #[.int .u8 x16] 5 (0,0))) (CS fun p18 n18 c18 y => ((0 : Int) ≤ 7 ∧ 7 ≤ ((IntKind.bits .u64 : Nat) : Int)) ∧ Df (x1 / 2 ^ Int.toNat 7) fun x12 => F3 R x12 p18 n18 c18 y)) (Df (IntKind.u8.wrap x1) fun MC => Al σ fun b22 => AK prog (Builtin.append_ #[90,90] 90 #[.slice p5 n5 c5,(.slice (aD b22 0) 1 1)]) (Hp.set σ b22 (.cells #[.int .u8 MC] 5 (0,0))) (CS fun Z2 n23 Z3 y => R (.returned (.slice Z2 n23 Z3)) y))) : F3 R x1 p5 n5 c5 σ := M.of h ok rfl
end De
namespace SN
variable {x0 : Int}
def M : Fw := ⟨prog,128,f128,[],[],false,[],[],[]⟩
theorem ok : M.Ok := ⟨AJ.nil,mixed,func128,by kernel_rfl⟩
theorem start (h : Br (11 ≤ x0) (R (.returned (.bool (decide (x0 ≤ 13)))) σ) (R (.returned (.bool false)) σ)) : Spec prog 128 #[.int .i64 x0] σ R := M.start h ok
end SN
namespace D1
variable {p0 p1 p5 p9 : Option Addr} {n0 c0 n1 c1 n5 c5 n9 c9 : Nat} {x10 x11 : Int}
def M : Fw := ⟨prog,142,f142,[125,178,179,180],[7],false,[],[],[(232,[(1,wL),(5,wL),(9,wL),(10,wI),(11,wI)])]⟩
theorem ok : M.Ok := ⟨.cons call125 (.cons call178 (.cons call179 (.cons call180 (AJ.nil)))),mixed,func142,by kernel_rfl⟩
def BA := M.pt 0
theorem start (h : Spec prog 178 #[] σ (AA R (CS fun p8 n8 c8 y => BA R p1 n1 c1 p8 n8 c8 p0 n0 c0 (n0 : Int) 0 y))) : Spec prog 142 #[.slice p0 n0 c0,.slice p1 n1 c1] σ R := M.start h ok
theorem Ac (h : Br (x11 < x10) (Pq p9 fun CX Vg => In x11 (n9 : Int) ∧ ∃ H8 aA zW,Au σ CX (Vg + Int.toNat x11 * 3) [.int .i64 H8,.string aA,.string zW] ∧ ∀ b7 : Nat,Spec prog 125 #[.int .i64 H8] σ (AA R (CB fun t17 y => Bn t17 (R (.returned (.bool false)) y) (Pq p5 fun Lh Vf => In H8 (n5 : Int) ∧ ∃ v24,Hp.ld y ⟨Lh,(Vf + Int.toNat H8 * 1),none⟩ = some v24 ∧ Spec prog 179 #[.string zW] y (AA R (fun z AH => ∃ Md Ll Me,z = (.agg #[.slice Md Ll Me]) ∧ Kp [Lh] y AH ∧ Spec prog 180 #[.slice p1 n1 c1,.string aA] AH (AA R (CT fun s34 AL => Kp [Lh] AH AL ∧ ∃ (f35 : Nat) (Xk Xl : Array Value),v24 = .func (.func f35) Xk Xl ∧ Enters prog f35 ∧ Spec prog f35 (Xk ++ #[.agg #[.slice Md Ll Me,.string zW],.string s34] ++ Xl) AL (AA R (CB fun t35 Av => Bn t35 (R (.returned (.bool false)) Av) (AG (x11 + 1) ∧ BA R p1 n1 c1 (aD Lh Vf) n5 c5 (aD CX Vg) n9 c9 x10 (x11 + 1) Av))))))))))) (R (.returned (.bool true)) σ)) : BA R p1 n1 c1 p5 n5 c5 p9 n9 c9 x10 x11 σ := M.of h ok rfl
end D1
namespace Ue
variable {p0 : Option Addr} {n0 c0 : Nat}
def M : Fw := ⟨prog,146,f146,[150],[],false,[],[],[]⟩
theorem ok : M.Ok := ⟨.cons call150 (AJ.nil),mixed,func146,by kernel_rfl⟩
theorem start (h : Al σ fun b4 => Spec prog 150 #[.slice p0 n0 c0,(.slice (aD b4 0) 1 1)] (Hp.set σ b4 (.cells #[(.string (ByteArray.mk #[95,95,110,97,109,101,95,95]))] 9 (0,0))) (AA R (CS fun p5 n5 c5 y => R (.returned (.slice p5 n5 c5)) y))) : Spec prog 146 #[.slice p0 n0 c0] σ R := M.start h ok
end Ue
namespace EE
variable {p0 p2c p2d : Option Addr} {n0 c0 n2c c2c n2d c2d : Nat} {x2a x2b x4 : Int}
def M : Fw := ⟨prog,148,f148,[52,195],[2],false,[],[],[(464,[(0,wL),(2,.X 93 [.I .i64,.I .u64,.L,.L]),(4,wI)])]⟩
theorem ok : M.Ok := ⟨.cons call52 (.cons call195 (AJ.nil)),mixed,func148,by kernel_rfl⟩
def Ak := M.pt 0
theorem start (h : ∀ b2 : Nat,Spec prog 195 #[.slice p0 n0 c0,(.func (.func 196) #[] #[])] σ (AA R (fun z y => z = (.tuple #[]) ∧ Ak R p0 n0 c0 0 0 none 0 0 none 0 0 1 y))) : Spec prog 148 #[.slice p0 n0 c0] σ R := M.start h ok
theorem AX (h : Br (x4 < (n0 : Int)) (AG (x4 - 1) ∧ Pq p0 fun G8 Lz => In (x4 - 1) (n0 : Int) ∧ LS σ G8 (Lz + Int.toNat (x4 - 1) * 2) fun p18 n18 c18 => In x4 (n0 : Int) ∧ LS σ G8 (Lz + Int.toNat x4 * 2) fun Z2 n23 Z3 => Spec prog 52 #[.slice p18 n18 c18,.slice Z2 n23 Z3] σ (AA R (CI .i64 fun Ia y => Br (Ia = 0) (R (.returned (.tuple #[.agg #[.int .i64 0,.int .u64 0,.slice none 0 0,.slice none 0 0],.int .i64 223])) y) (AG (x4 + 1) ∧ Ak R (aD G8 Lz) n0 c0 x2a x2b p2c n2c c2c p2d n2d c2d (x4 + 1) y)))) (R (.returned (.tuple #[.agg #[.int .i64 2,.int .u64 0,.slice p0 n0 c0,.slice none 0 0],.int .i64 0])) σ)) : Ak R p0 n0 c0 x2a x2b p2c n2c c2c p2d n2d c2d x4 σ := M.pb h ok rfl fun _ => by kernel_rfl
end EE
namespace DJ
variable {x0 : Int} {b1 b2 : Nat}
def M : Fw := ⟨prog,158,f158,[156],[],false,[],[],[]⟩
theorem ok : M.Ok := ⟨.cons call156 (AJ.nil),mixed,func158,by kernel_rfl⟩
theorem start (h : ∃ Ft Fu s6c Fv Fy Fz x6e x6f x6g p6h n6h c6h t6i x6j,Au σ b1 0 [.int .i64 Ft,.int .i64 Fu,.string s6c,.slice Fv Fy Fz,.int .i64 x6e,.int .i64 x6f,.int .i64 x6g,.slice p6h n6h c6h,.bool t6i,.int .i64 x6j] ∧ LI .u64 σ b2 1 fun x8 => Spec prog 156 #[.agg #[.int .i64 Ft,.int .i64 Fu,.string s6c,.slice Fv Fy Fz,.int .i64 x6e,.int .i64 x6f,.int .i64 x6g,.slice p6h n6h c6h,.bool t6i,.int .i64 x6j],.int .u64 x8,.int .u64 x0] σ (AA R (fun z y => ∃ Jr Q8,z = (.tuple #[.int .u64 Jr,.bool Q8]) ∧ R (.returned (.tuple #[.int .u64 Jr,.bool Q8])) y))) : Spec prog 158 #[.int .u64 x0,(.pointer (aD b1 0)),(.pointer (aD b2 0))] σ R := M.start h ok
end DJ
namespace IA
variable {p0 p7 : Option Addr} {n0 c0 n7 c7 : Nat} {s1 : ByteArray} {x8 x9 : Int}
def M : Fw := ⟨prog,180,f180,[],[6],false,[],[],[(104,[(1,wT),(7,wL),(8,wI),(9,wI)])]⟩
theorem ok : M.Ok := ⟨AJ.nil,mixed,func180,by kernel_rfl⟩
def MY := M.pt 0
theorem start (h : MY R s1 p0 n0 c0 (n0 : Int) 0 σ) : Spec prog 180 #[.slice p0 n0 c0,.string s1] σ R := M.start h ok
theorem C3 (h : Br (x9 < x8) (Pq p7 fun BG iZ => In x9 (n7 : Int) ∧ ∃ AET AEU,Au σ BG (iZ + Int.toNat x9 * 2) [.string AET,.string AEU] ∧ ∀ b6 : Nat,Bo (ByteArray.toList AET == ByteArray.toList s1) (R (.returned (.string AEU)) σ) (AG (x9 + 1) ∧ MY R s1 (aD BG iZ) n7 c7 x8 (x9 + 1) σ)) (R (.returned (.string (ByteArray.mk #[]))) σ)) : MY R s1 p7 n7 c7 x8 x9 σ := M.of h ok rfl
end IA
namespace DK
variable {p0 p1 : Option Addr} {n0 c0 n1 c1 : Nat}
def M : Fw := ⟨prog,191,f191,[192],[],false,[],[],[]⟩
theorem ok : M.Ok := ⟨.cons call192 (AJ.nil),mixed,func191,by kernel_rfl⟩
theorem start (h : Spec prog 192 #[.slice p0 n0 c0] σ (AA R (CI .u64 fun x6 y => R (.returned (.int .u64 x6)) y))) : Spec prog 191 #[.slice p0 n0 c0,.slice p1 n1 c1] σ R := M.start h ok
end DK
namespace SO
variable {x0 x1 x2 : Int}
def M : Fw := ⟨prog,203,f203,[174,182],[],false,[],[],[]⟩
theorem ok : M.Ok := ⟨.cons call174 (.cons call182 (AJ.nil)),mixed,func203,by kernel_rfl⟩
theorem start (h : Spec prog 182 #[.int .u64 x1] σ (AA R (fun z y => ∃ x11,(Value.float .f64 x11) = z ∧ Spec prog 182 #[.int .u64 x2] y (AA R (fun z AH => ∃ FE,(Value.float .f64 FE) = z ∧ Br (x0 = 1) (AK prog (binOp .add 51 (Value.float .f64 x11) (Value.float .f64 FE)) AH (fun z AL => ∃ BS,(Value.float .f64 BS) = z ∧ Spec prog 174 #[(Value.float .f64 BS)] AL (AA R (CI .u64 fun Hf Av => R (.returned (.tuple #[.int .u64 Hf,.bool true])) Av)))) (Br (x0 = 2) (AK prog (binOp .sub 51 (Value.float .f64 x11) (Value.float .f64 FE)) AH (fun z AL => ∃ Lo,(Value.float .f64 Lo) = z ∧ Spec prog 174 #[(Value.float .f64 Lo)] AL (AA R (CI .u64 fun ic Av => R (.returned (.tuple #[.int .u64 ic,.bool true])) Av)))) (Br (x0 = 3) (AK prog (binOp .mul 51 (Value.float .f64 x11) (Value.float .f64 FE)) AH (fun z AL => ∃ x31,(Value.float .f64 x31) = z ∧ Spec prog 174 #[(Value.float .f64 x31)] AL (AA R (CI .u64 fun lB Av => R (.returned (.tuple #[.int .u64 lB,.bool true])) Av)))) (Br (x0 = 4) (AK prog (binOp .quo 51 (Value.float .f64 x11) (Value.float .f64 FE)) AH (fun z AL => ∃ Ud,(Value.float .f64 Ud) = z ∧ Spec prog 174 #[(Value.float .f64 Ud)] AL (AA R (CI .u64 fun vR Av => R (.returned (.tuple #[.int .u64 vR,.bool true])) Av)))) (R (.returned (.tuple #[.int .u64 0,.bool false])) AH))))))))) : Spec prog 203 #[.int .i64 x0,.int .u64 x1,.int .u64 x2] σ R := M.start h ok
end SO
namespace SP
variable {t0 : Bool}
def M : Fw := ⟨prog,205,f205,[143],[],false,[],[],[]⟩
theorem ok : M.Ok := ⟨.cons call143 (AJ.nil),mixed,func205,by kernel_rfl⟩
theorem start (h : Bo t0 (Spec prog 143 #[.int .i64 1] σ (AA R (CI .u64 fun x4 y => R (.returned (.int .u64 x4)) y))) (Spec prog 143 #[.int .i64 0] σ (AA R (CI .u64 fun x5 y => R (.returned (.int .u64 x5)) y)))) : Spec prog 205 #[.bool t0] σ R := M.start h ok
end SP
namespace Cn
variable {s0 : ByteArray} {x1 : Int}
def M : Fw := ⟨prog,214,f214,[231],[],false,[],[],[]⟩
theorem ok : M.Ok := ⟨.cons call231 (AJ.nil),mixed,func214,by kernel_rfl⟩
theorem start (h : Spec prog 231 #[.string s0,.int .i64 x1] σ (AA R (fun z y => ∃ AEV lK AEW,z = (.tuple #[AEV,.int .i64 lK,AEW]) ∧ Br (lK ≠ ((ByteArray.size s0 : Nat) : Int)) (R (.returned (.tuple #[.float .f64 0,(.iface 264 (.int .i64 2))])) y) (R (.returned (.tuple #[AEV,AEW])) y)))) : Spec prog 214 #[.string s0,.int .i64 x1] σ R := M.start h ok
end Cn
namespace EX
variable {PL : Option Addr} {JV OC : Nat} {ZD s1 : ByteArray}
def M : Fw := ⟨prog,217,f217,[],[2],false,[],[],[]⟩
theorem ok : M.Ok := ⟨AJ.nil,mixed,func217,by kernel_rfl⟩
theorem start (h : ∀ b2 : Nat,R (.returned (.bool (ByteArray.toList s1 == ByteArray.toList ZD))) σ) : Spec prog 217 #[.agg #[.slice PL JV OC,.string ZD],.string s1] σ R := M.start h ok
end EX
namespace SQ
variable {p0 : Option Addr} {n0 c0 : Nat}
def M : Fw := ⟨prog,225,f225,[174,240,241],[],false,[],[],[]⟩
theorem ok : M.Ok := ⟨.cons call174 (.cons call240 (.cons call241 (AJ.nil))),mixed,func225,by kernel_rfl⟩
theorem start (h : Spec prog 240 #[(.int .i64 (n0 : Int))] σ (AA R (CB fun t7 y => Bn t7 (R (.returned (.tuple #[.int .u64 0,.int .i64 210])) y) ((n0 : Int) ≠ (0 : Int) ∧ Df (Int.tmod 1 (n0 : Int)) fun x12 => Spec prog 241 #[.slice p0 n0 c0,.int .i64 x12] y (AA R (fun z AH => ∃ FE y13,(Value.complex .f64 FE y13) = z ∧ ∃ x15,YF prog (Builtin.real_ #[272] 51 #[(Value.complex .f64 FE y13)]) AH (Value.float .f64 x15) ∧ ∃ x17,YF prog (Builtin.real_ #[272] 51 #[(Value.complex .f64 FE y13)]) AH (Value.float .f64 x17) ∧ AK prog (binOp .mul 51 (Value.float .f64 x15) (Value.float .f64 x17)) AH (fun z AL => ∃ Ib,(Value.float .f64 Ib) = z ∧ ∃ Hf,YF prog (Builtin.imag_ #[272] 51 #[(Value.complex .f64 FE y13)]) AL (Value.float .f64 Hf) ∧ ∃ Jd,YF prog (Builtin.imag_ #[272] 51 #[(Value.complex .f64 FE y13)]) AL (Value.float .f64 Jd) ∧ AK prog (binOp .mul 51 (Value.float .f64 Hf) (Value.float .f64 Jd)) AL (fun z Av => ∃ C6,(Value.float .f64 C6) = z ∧ AK prog (binOp .add 51 (Value.float .f64 Ib) (Value.float .f64 C6)) Av (fun z Hl => ∃ Ia,(Value.float .f64 Ia) = z ∧ Spec prog 174 #[(Value.float .f64 Ia)] Hl (AA R (CI .u64 fun Lo Mc => R (.returned (.tuple #[.int .u64 Lo,.int .i64 0])) Mc))))))))))) : Spec prog 225 #[.slice p0 n0 c0] σ R := M.start h ok
end SQ
namespace BO
variable {x0 x1 : Int} {t2 t7 : Bool} {v6 : Value}
def M : Fw := ⟨prog,282,f282,[],[],false,[],[],[(248,[(1,wI),(6,wV),(7,wB)]),(15988,[(1,wI),(6,wV),(7,wB)])]⟩
theorem ok : M.Ok := ⟨AJ.nil,mixed,func282,by kernel_rfl⟩
def zX := M.pt 0
def Fs := M.pt 1
theorem start (h : LI .u64 σ 6 0 fun x10 => (0 ≤ x10 ∧ x10 ≤ ((IntKind.bits .u64 : Nat) : Int)) ∧ Df (x0 / 2 ^ Int.toNat x10) fun x11 => Br (x11 ≠ 0) (R (.returned (.tuple #[.float .f64 0,.bool false])) σ) (AK prog (convert 48 51 (.int .u64 x0)) σ (fun z y => ∃ Hm,(Value.float .f64 Hm) = z ∧ Bo t2 (∃ x17,YF prog (Op.unary .neg (Value.float .f64 Hm)) y (Value.float .f64 x17) ∧ zX R x1 (Value.float .f64 x17) false y) (zX R x1 (Value.float .f64 Hm) false y)))) : Spec prog 282 #[.int .u64 x0,.int .i64 x1,.bool t2] σ R := M.start h ok
theorem rq (h : Br (x1 = 0) (R (.returned (.tuple #[v6,.bool true])) σ) (Br (0 < x1) (Br (x1 ≤ 37) (Br (22 < x1) (LS σ 9 0 fun p32 n32 c32 => AG (x1 - 22) ∧ Pq p32 fun b35 o35 => In (x1 - 22) (n32 : Int) ∧ ∃ ig,Hp.ld σ ⟨b35,(o35 + Int.toNat (x1 - 22) * 1),none⟩ = some (Value.float .f64 ig) ∧ AK prog (binOp .mul 51 v6 (Value.float .f64 ig)) σ (fun z y => ∃ Ud,(Value.float .f64 Ud) = z ∧ Fs R 22 (Value.float .f64 Ud) t7 y)) (Fs R x1 v6 t7 σ)) (Br (x1 < 0) (Br (((-22) : Int) ≤ x1) (LS σ 9 0 fun pc pd uf => Df (IntKind.i64.wrap (0 - x1)) fun rj => Pq pc fun b61 o61 => In rj (pd : Int) ∧ ∃ Xm,Hp.ld σ ⟨b61,(o61 + Int.toNat rj * 1),none⟩ = some (Value.float .f64 Xm) ∧ AK prog (binOp .quo 51 v6 (Value.float .f64 Xm)) σ (fun z y => ∃ x63,(Value.float .f64 x63) = z ∧ R (.returned (.tuple #[(Value.float .f64 x63),.bool true])) y)) (R (.returned (.tuple #[v6,.bool t7])) σ)) (R (.returned (.tuple #[v6,.bool t7])) σ))) (Br (x1 < 0) (Br (((-22) : Int) ≤ x1) (LS σ 9 0 fun pc pd uf => Df (IntKind.i64.wrap (0 - x1)) fun rj => Pq pc fun b61 o61 => In rj (pd : Int) ∧ ∃ Xm,Hp.ld σ ⟨b61,(o61 + Int.toNat rj * 1),none⟩ = some (Value.float .f64 Xm) ∧ AK prog (binOp .quo 51 v6 (Value.float .f64 Xm)) σ (fun z y => ∃ x63,(Value.float .f64 x63) = z ∧ R (.returned (.tuple #[(Value.float .f64 x63),.bool true])) y)) (R (.returned (.tuple #[v6,.bool t7])) σ)) (R (.returned (.tuple #[v6,.bool t7])) σ)))) : zX R x1 v6 t7 σ := M.of h ok rfl
end BO
end TwW
end
end
section
set_option maxRecDepth 100000
noncomputable section
namespace TwW
open Go Tw Go.Proofs.Tryz
variable [Er] {R : Rr} {σ : Hp}


namespace C7
variable {p0 p3 : Option Addr} {n0 c0 n3 c3 : Nat} {x4 : Int}
def M : Fw := ⟨prog,12,f12,[31,32],[5],false,[],[],[(464,[(0,wL),(3,wL),(4,wI)])]⟩
theorem ok : M.Ok := ⟨.cons call31 (.cons call32 (AJ.nil)),mixed,func12,by kernel_rfl⟩
def Ak := M.pt 0
theorem start (h : Ak R p0 n0 c0 none 0 0 0 σ) : Spec prog 12 #[.slice p0 n0 c0] σ R := M.start h ok
theorem AX (h : Br (x4 < (n0 : Int)) (Pq p0 fun Bt TY => In x4 (n0 : Int) ∧ ∃ rr aO AEZ AEa AEb AEc AEd AEe AEf AEg AEh AEi AEj AEk,Au σ Bt (TY + Int.toNat x4 * 10) [.int .i64 rr,.int .i64 aO,.string AEZ,.slice AEa AEb AEc,.int .i64 AEd,.int .i64 AEe,.int .i64 AEf,.slice AEg AEh AEi,.bool AEj,.int .i64 AEk] ∧ ∀ b5 : Nat,Spec prog 31 #[.slice AEa AEb AEc] σ (AA R (CS fun p18 n18 c18 y => Spec prog 32 #[.slice AEg AEh AEi] y (AA R (CS fun UY n22 TZ AH => Al AH fun Tp => AK prog (Builtin.append_ #[22,22] 22 #[.slice p3 n3 c3,(.slice (aD Tp 0) 1 1)]) (Hp.set AH Tp (.cells #[.int .i64 rr,.int .i64 aO,.string AEZ,.slice p18 n18 c18,.int .i64 AEd,.int .i64 AEe,.int .i64 AEf,.slice UY n22 TZ,.bool AEj,.int .i64 AEk] 36 (0,0))) (CS fun p27 n27 c27 AL => AG (x4 + 1) ∧ Ak R (aD Bt TY) n0 c0 p27 n27 c27 (x4 + 1) AL)))))) (R (.returned (.slice p3 n3 c3)) σ)) : Ak R p0 n0 c0 p3 n3 c3 x4 σ := M.of h ok rfl
end C7
namespace Ad
variable {p0 Oc ALV ALW : Option Addr} {n0 c0 n21 Ma ALX ALY ALZ ALa : Nat} {x7 x8 Jd C6 ALb aP ALc ru ALd ALe x12 : Int} {t9 ALf : Bool} {ALg : ByteArray}
def M : Fw := ⟨prog,15,f15,[37],[11],false,[],[],[(488,[(7,wI),(8,wI),(9,wB),(21,wL),(22,wI),(23,wI)]),(1959,[(7,wI),(8,wI),(9,wB),(21,wL),(22,wI),(23,wI)]),(125342,[(7,wI),(8,wI),(9,wB),(11,.X 36 [.I .i64,.I .i64,.T,.L,.I .i64,.I .i64,.I .i64,.L,.B,.I .i64]),(12,wI),(21,wL),(22,wI),(23,wI)]),(250687,[(7,wI),(8,wI),(21,wL),(22,wI),(23,wI)])]⟩
theorem ok : M.Ok := ⟨.cons call37 (AJ.nil),mixed,func15,by kernel_rfl⟩
def rv := M.pt 0
def ry := M.pt 1
def fc := M.pt 2
def Hg := M.pt 3
theorem start (h : Spec prog 37 #[.slice p0 n0 c0] σ (AA R (fun z y => ∃ rr aO AEl,z = (.tuple #[.int .i64 rr,.int .i64 aO,.int .i64 AEl]) ∧ Br (AEl ≠ 0) (R (.returned (.tuple #[.int .i64 0,.int .i64 0])) y) (rv R 0 0 false p0 n0 c0 (n0 : Int) 0 y)))) : Spec prog 15 #[.slice p0 n0 c0] σ R := M.start h ok
theorem NV (h : Br (C6 < Jd) (Pq Oc fun LJ ZF => In C6 (n21 : Int) ∧ ∃ Vp lL lM lN lO lP Oh Oi lQ lR lS lU lV lW,Au σ LJ (ZF + Int.toNat C6 * 10) [.int .i64 Vp,.int .i64 lL,.string lM,.slice lN lO lP,.int .i64 Oh,.int .i64 Oi,.int .i64 lQ,.slice lR lS lU,.bool lV,.int .i64 lW] ∧ ∀ BG : Nat,Br (Vp ≠ 2) (Br (Vp ≠ 3) (ry R x7 x8 t9 (aD LJ ZF) n21 Ma Jd C6 σ) (AG (Oi + Oh) ∧ Br (Vp = 2) (AG ((Oi + Oh) + 300) ∧ fc R x7 x8 t9 Vp lL lM lN lO lP Oh Oi lQ lR lS lU lV lW (((Oi + Oh) + 300)) (aD LJ ZF) n21 Ma Jd C6 σ) (fc R x7 x8 t9 Vp lL lM lN lO lP Oh Oi lQ lR lS lU lV lW (Oi + Oh) (aD LJ ZF) n21 Ma Jd C6 σ))) (AG (Oi + Oh) ∧ Br (Vp = 2) (AG ((Oi + Oh) + 300) ∧ fc R x7 x8 t9 Vp lL lM lN lO lP Oh Oi lQ lR lS lU lV lW (((Oi + Oh) + 300)) (aD LJ ZF) n21 Ma Jd C6 σ) (fc R x7 x8 t9 Vp lL lM lN lO lP Oh Oi lQ lR lS lU lV lW (Oi + Oh) (aD LJ ZF) n21 Ma Jd C6 σ))) (R (.returned (.tuple #[.int .i64 x7,.int .i64 x8])) σ)) : rv R x7 x8 t9 Oc n21 Ma Jd C6 σ := M.of h ok rfl
theorem Vq (h : AG (C6 + 1) ∧ rv R x7 x8 t9 Oc n21 Ma Jd (C6 + 1) σ) : ry R x7 x8 t9 Oc n21 Ma Jd C6 σ := M.of h ok rfl
theorem dC (h : Bn t9 (Hg R (if x7 < x12 then x12 else x7) ru Oc n21 Ma Jd C6 σ) (Br (ru < x8) (Hg R (if x7 < x12 then x12 else x7) ru Oc n21 Ma Jd C6 σ) (Hg R (if x7 < x12 then x12 else x7) x8 Oc n21 Ma Jd C6 σ))) : fc R x7 x8 t9 ALb aP ALg ALV ALX ALY ALc ru ALd ALW ALZ ALa ALf ALe x12 Oc n21 Ma Jd C6 σ := M.pb h ok rfl fun _ => by kernel_rfl
theorem HN (h : ry R x7 x8 true Oc n21 Ma Jd C6 σ) : Hg R x7 x8 Oc n21 Ma Jd C6 σ := M.of h ok rfl
end Ad
namespace FI
variable {p0 p1 : Option Addr} {n0 c0 n1 c1 : Nat} {x5 : Int} {t7 : Bool}
def M : Fw := ⟨prog,38,f38,[54,55],[],false,[],[],[(208,[(0,wL),(1,wL),(5,wI)]),(6734,[(0,wL),(1,wL),(5,wI),(7,wB)])]⟩
theorem ok : M.Ok := ⟨.cons call54 (.cons call55 (AJ.nil)),mixed,func38,by kernel_rfl⟩
def F3 := M.pt 0
def P2 := M.pt 1
theorem start (h : F3 R p0 n0 c0 p1 n1 c1 0 σ) : Spec prog 38 #[.slice p0 n0 c0,.slice p1 n1 c1] σ R := M.start h ok
theorem As (h : Br (x5 < (n0 : Int)) (Pq p0 fun aN lX => In x5 (n0 : Int) ∧ LT σ aN ((lX + Int.toNat x5 * 3) + 1) fun s19 => Spec prog 54 #[.slice p1 n1 c1,.string s19] σ (AA R (CT fun s20 y => In x5 (n0 : Int) ∧ LI .i64 y aN (lX + Int.toNat x5 * 3) fun Lo => Br (Lo = 1) (In x5 (n0 : Int) ∧ LT y aN ((lX + Int.toNat x5 * 3) + 2) fun s33 => P2 R (aD aN lX) n0 c0 p1 n1 c1 x5 (ByteArray.toList s20 == ByteArray.toList s33) y) (Br (Lo = 2) (In x5 (n0 : Int) ∧ LT y aN ((lX + Int.toNat x5 * 3) + 2) fun s42 => P2 R (aD aN lX) n0 c0 p1 n1 c1 x5 ((!(ByteArray.toList s20 == ByteArray.toList s42))) y) (Br (Lo = 3) (In x5 (n0 : Int) ∧ LT y aN ((lX + Int.toNat x5 * 3) + 2) fun s50 => Spec prog 55 #[.string s50,.string s20] y (AA R (CB fun t52 AH => P2 R (aD aN lX) n0 c0 p1 n1 c1 x5 t52 AH))) (Br (Lo = 4) (In x5 (n0 : Int) ∧ LT y aN ((lX + Int.toNat x5 * 3) + 2) fun s59 => Spec prog 55 #[.string s59,.string s20] y (AA R (CB fun t61 AH => P2 R (aD aN lX) n0 c0 p1 n1 c1 x5 (!t61) AH))) (P2 R (aD aN lX) n0 c0 p1 n1 c1 x5 false y))))))) (R (.returned (.bool true)) σ)) : F3 R p0 n0 c0 p1 n1 c1 x5 σ := M.of h ok rfl
theorem Vr (h : Bn t7 (R (.returned (.bool false)) σ) (AG (x5 + 1) ∧ F3 R p0 n0 c0 p1 n1 c1 (x5 + 1) σ)) : P2 R p0 n0 c0 p1 n1 c1 x5 t7 σ := M.of h ok rfl
end FI
namespace NW
variable {PL p0b p1a p1b : Option Addr} {JV OC n0b c0b n1a c1a n1b c1b : Nat}
def M : Fw := ⟨prog,51,f51,[52],[2,3],false,[],[],[]⟩
theorem ok : M.Ok := ⟨.cons call52 (AJ.nil),mixed,func51,by kernel_rfl⟩
theorem start (h : ∀ b2 : Nat,∀ b3 : Nat,Spec prog 52 #[.slice PL JV OC,.slice p1a n1a c1a] σ (AA R (CI .i64 fun x9 y => R (.returned (.int .i64 x9)) y))) : Spec prog 51 #[.agg #[.slice PL JV OC,.slice p0b n0b c0b],.agg #[.slice p1a n1a c1a,.slice p1b n1b c1b]] σ R := M.start h ok
end NW
namespace MD
variable {p0 p1 : Option Addr} {n0 c0 n1 c1 : Nat}
def M : Fw := ⟨prog,52,f52,[75],[],false,[],[],[]⟩
theorem ok : M.Ok := ⟨.cons call75 (AJ.nil),mixed,func52,by kernel_rfl⟩
theorem start (h : Spec prog 75 #[.slice p0 n0 c0,.slice p1 n1 c1,(.func (.func 76) #[] #[])] σ (AA R (CI .i64 fun x7 y => R (.returned (.int .i64 x7)) y))) : Spec prog 52 #[.slice p0 n0 c0,.slice p1 n1 c1] σ R := M.start h ok
end MD
namespace Ba
variable {p0 : Option Addr} {n0 c0 : Nat} {x3 : Int}
def M : Fw := ⟨prog,56,f56,[87,88],[],false,[(10,17,true)],[],[(464,[(0,wL),(3,wI)])]⟩
theorem ok : M.Ok := ⟨.cons call87 (.cons call88 (AJ.nil)),mixed,func56,by kernel_rfl⟩
def A5 := M.pt 0
theorem start (h : Br (16 < (n0 : Int)) (R (.returned (.int .i64 30)) σ) (A5 R p0 n0 c0 0 σ)) : Spec prog 56 #[.slice p0 n0 c0] σ R := M.start h ok
theorem A7 (h : Br (x3 < (n0 : Int)) (Pq p0 fun G8 Lz => In x3 (n0 : Int) ∧ LT σ G8 (Lz + Int.toNat x3 * 2) fun s18 => Spec prog 87 #[.string s18] σ (AA R (CB fun t19 y => Bn t19 (R (.returned (.int .i64 31)) y) (In x3 (n0 : Int) ∧ LT y G8 ((Lz + Int.toNat x3 * 2) + 1) fun zU => Spec prog 88 #[.string zU] y (AA R (CB fun t27 AH => Bn t27 (R (.returned (.int .i64 32)) AH) (Br (0 < x3) (In x3 (n0 : Int) ∧ LT AH G8 (Lz + Int.toNat x3 * 2) fun s37 => AG (x3 - 1) ∧ In (x3 - 1) (n0 : Int) ∧ LT AH G8 (Lz + Int.toNat (x3 - 1) * 2) fun s43 => ∃ t44,YF prog ((do eqGuard .leq 9 (.tmp 37) (.tmp 43) (.string s37) (.string s43); binOp .leq 9 (.string s37) (.string s43))) AH (.bool t44) ∧ Bo t44 (R (.returned (.int .i64 33)) AH) (AG (x3 + 1) ∧ A5 R (aD G8 Lz) n0 c0 (x3 + 1) AH)) (AG (x3 + 1) ∧ A5 R (aD G8 Lz) n0 c0 (x3 + 1) AH)))))))) (R (.returned (.int .i64 0)) σ)) : A5 R p0 n0 c0 x3 σ := M.of h ok rfl
end Ba
namespace NY
variable {PL p0b : Option Addr} {JV OC n0b c0b : Nat}
def M : Fw := ⟨prog,58,f58,[],[1,2],false,[(1,9,false)],[],[]⟩
theorem ok : M.Ok := ⟨AJ.nil,mixed,func58,by kernel_rfl⟩
theorem start (h : ∀ b1 : Nat,∀ b2 : Nat,(Al σ fun b3 => (AK prog (Builtin.append_ #[37,37] 37 #[(.slice (aD b3 0) 0 0),.slice PL JV OC]) (Hp.set σ b3 (.cells #[] 56 (0,0))) (CS fun p6 n6 c6 y => Al y fun b7 => AK prog (Builtin.append_ #[38,38] 38 #[(.slice (aD b7 0) 0 0),.slice p0b n0b c0b]) (Hp.set y b7 (.cells #[] 50 (0,0))) (CS fun QM n10 NH AH => R (.returned (.agg #[.slice p6 n6 c6,.slice QM n10 NH])) AH))) ∧ (Al (Hp.set σ b3 (.cells #[] 56 (0,0))) fun b7 => AK prog (Builtin.append_ #[37,37] 37 #[(.slice (aD b3 0) 0 0),.slice PL JV OC]) (Hp.set (Hp.set σ b3 (.cells #[] 56 (0,0))) b7 (.cells #[] 50 (0,0))) (CS fun p6 n6 c6 y => AK prog (Builtin.append_ #[38,38] 38 #[(.slice (aD b7 0) 0 0),.slice p0b n0b c0b]) y (CS fun QM n10 NH AH => R (.returned (.agg #[.slice p6 n6 c6,.slice QM n10 NH])) AH)))) ∧ (Al σ fun b7 => Al (Hp.set σ b7 (.cells #[] 50 (0,0))) fun b3 => AK prog (Builtin.append_ #[37,37] 37 #[(.slice (aD b3 0) 0 0),.slice PL JV OC]) (Hp.set (Hp.set σ b7 (.cells #[] 50 (0,0))) b3 (.cells #[] 56 (0,0))) (CS fun p6 n6 c6 y => AK prog (Builtin.append_ #[38,38] 38 #[(.slice (aD b7 0) 0 0),.slice p0b n0b c0b]) y (CS fun QM n10 NH AH => R (.returned (.agg #[.slice p6 n6 c6,.slice QM n10 NH])) AH)))) : Spec prog 58 #[.agg #[.slice PL JV OC,.slice p0b n0b c0b]] σ R := M.start h ok
end NY
namespace EY
variable {q0 Du EB p2 : Option Addr} {Dl Cc Dm Dx DT Cm : Int} {Dn : ByteArray} {Dy Dz D0 EC n2 c2 : Nat} {DU : Bool}
def M : Fw := ⟨prog,84,f84,[124,128],[4],false,[(1,10,true)],[],[]⟩
theorem ok : M.Ok := ⟨.cons call124 (.cons call128 (AJ.nil)),mixed,func84,by kernel_rfl⟩
theorem start (h : ∀ b4 : Nat,Pq p2 fun CX Vg => In 0 (n2 : Int) ∧ LI .i64 σ CX Vg fun x15 => In 1 (n2 : Int) ∧ LI .i64 σ CX (Vg + 1) fun BS => Br (x15 = 2) (Br (x15 = 1) (Br (x15 = 3) (R (.returned (.tuple #[.int .i64 0,.int .i64 192])) σ) (Br (BS = 3) (R (.returned (.tuple #[.int .i64 0,.int .i64 192])) σ) (Spec prog 128 #[.int .i64 Cc] σ (AA R (CB fun t41 y => Bo t41 (Bm (BS = 2) (R (.returned (.tuple #[.int .i64 0,.int .i64 192])) y) (Br (BS = 1) (Spec prog 124 #[.int .i64 Cc] y (AA R (CB fun t57 AH => Bo t57 (Bn DU (R (.returned (.tuple #[.int .i64 0,.int .i64 192])) AH) (R (.returned (.tuple #[(.int .i64 (if x15 < BS then BS else x15)),.int .i64 0])) AH)) (R (.returned (.tuple #[(.int .i64 (if x15 < BS then BS else x15)),.int .i64 0])) AH)))) (R (.returned (.tuple #[(.int .i64 (if x15 < BS then BS else x15)),.int .i64 0])) y))) (Br (DT ≠ 0) (Bm (BS = 2) (R (.returned (.tuple #[.int .i64 0,.int .i64 192])) y) (Br (BS = 1) (Spec prog 124 #[.int .i64 Cc] y (AA R (CB fun t57 AH => Bo t57 (Bn DU (R (.returned (.tuple #[.int .i64 0,.int .i64 192])) AH) (R (.returned (.tuple #[(.int .i64 (if x15 < BS then BS else x15)),.int .i64 0])) AH)) (R (.returned (.tuple #[(.int .i64 (if x15 < BS then BS else x15)),.int .i64 0])) AH)))) (R (.returned (.tuple #[(.int .i64 (if x15 < BS then BS else x15)),.int .i64 0])) y))) (Br (BS = 1) (Spec prog 124 #[.int .i64 Cc] y (AA R (CB fun t57 AH => Bo t57 (Bn DU (R (.returned (.tuple #[.int .i64 0,.int .i64 192])) AH) (R (.returned (.tuple #[(.int .i64 (if x15 < BS then BS else x15)),.int .i64 0])) AH)) (R (.returned (.tuple #[(.int .i64 (if x15 < BS then BS else x15)),.int .i64 0])) AH)))) (R (.returned (.tuple #[(.int .i64 (if x15 < BS then BS else x15)),.int .i64 0])) y)))))))) (Br (x15 = 3) (R (.returned (.tuple #[.int .i64 0,.int .i64 192])) σ) (Br (BS = 3) (R (.returned (.tuple #[.int .i64 0,.int .i64 192])) σ) (Spec prog 128 #[.int .i64 Cc] σ (AA R (CB fun t41 y => Bo t41 (Bm (BS = 2) (R (.returned (.tuple #[.int .i64 0,.int .i64 192])) y) (R (.returned (.tuple #[(.int .i64 (if x15 < BS then BS else x15)),.int .i64 0])) y)) (Br (DT ≠ 0) (Bm (BS = 2) (R (.returned (.tuple #[.int .i64 0,.int .i64 192])) y) (R (.returned (.tuple #[(.int .i64 (if x15 < BS then BS else x15)),.int .i64 0])) y)) (R (.returned (.tuple #[(.int .i64 (if x15 < BS then BS else x15)),.int .i64 0])) y)))))))) (Br (x15 = 1) (Br (x15 = 3) (R (.returned (.tuple #[.int .i64 0,.int .i64 192])) σ) (Br (BS = 3) (R (.returned (.tuple #[.int .i64 0,.int .i64 192])) σ) (Spec prog 128 #[.int .i64 Cc] σ (AA R (CB fun t41 y => Bo t41 (R (.returned (.tuple #[.int .i64 0,.int .i64 192])) y) (Br (DT ≠ 0) (R (.returned (.tuple #[.int .i64 0,.int .i64 192])) y) (Br (BS = 1) (Spec prog 124 #[.int .i64 Cc] y (AA R (CB fun t57 AH => Bo t57 (Bn DU (R (.returned (.tuple #[.int .i64 0,.int .i64 192])) AH) (R (.returned (.tuple #[(.int .i64 (if x15 < BS then BS else x15)),.int .i64 0])) AH)) (R (.returned (.tuple #[(.int .i64 (if x15 < BS then BS else x15)),.int .i64 0])) AH)))) (R (.returned (.tuple #[(.int .i64 (if x15 < BS then BS else x15)),.int .i64 0])) y)))))))) (Br (x15 = 3) (R (.returned (.tuple #[.int .i64 0,.int .i64 192])) σ) (Br (BS = 3) (R (.returned (.tuple #[.int .i64 0,.int .i64 192])) σ) (Spec prog 128 #[.int .i64 Cc] σ (AA R (CB fun t41 y => Bo t41 (R (.returned (.tuple #[.int .i64 0,.int .i64 192])) y) (Br (DT ≠ 0) (R (.returned (.tuple #[.int .i64 0,.int .i64 192])) y) (R (.returned (.tuple #[(.int .i64 (if x15 < BS then BS else x15)),.int .i64 0])) y))))))))) : Spec prog 84 #[.pointer q0,.agg #[.int .i64 Dl,.int .i64 Cc,.string Dn,.slice Du Dy Dz,.int .i64 Dm,.int .i64 Dx,.int .i64 DT,.slice EB D0 EC,.bool DU,.int .i64 Cm],.slice p2 n2 c2] σ R := M.start h ok
end EY
namespace Am
variable {s0 s1 : ByteArray} {p5 p8 : Option Addr} {n5 c5 n8 c8 : Nat} {x6 x7 x9 x10 : Int}
def M : Fw := ⟨prog,86,f86,[],[],false,[(16,19,true)],[],[(976,[(0,wT),(1,wT),(5,wL),(6,wI)]),(2000,[(0,wT),(1,wT),(5,wL),(7,wI)]),(512592,[(0,wT),(1,wT),(5,wL),(7,wI),(8,wL),(9,wI)]),(1025232,[(0,wT),(1,wT),(7,wI),(8,wL),(10,wI)]),(4100754,[(0,wT),(1,wT),(5,wL),(7,wI),(8,wL),(9,wI)]),(512595,[(0,wT),(1,wT),(5,wL),(7,wI),(8,wL),(9,wI)])]⟩
theorem ok : M.Ok := ⟨AJ.nil,mixed,func86,by kernel_rfl⟩
def P3 := M.pt 0
def JW := M.pt 1
def rz := M.pt 2
def Xn := M.pt 3
def fe := M.pt 4
def P4 := M.pt 5
theorem start (h : AG (((ByteArray.size s0 : Nat) : Int) + 1) ∧ AK prog (Instr.makeSlice 174 (.int .i64 (((ByteArray.size s0 : Nat) : Int) + 1)) (.int .i64 (((ByteArray.size s0 : Nat) : Int) + 1))) σ (CS fun Jc n14 H7 y => Pq Jc fun G8 Lz => In 0 (n14 : Int) ∧ AK prog (Instr.storeAt 4 (.pointer (aD G8 Lz)) (.bool true)) y (fun _ AH => P3 R s0 s1 (aD G8 Lz) n14 H7 0 AH))) : Spec prog 86 #[.string s0,.string s1] σ R := M.start h ok
theorem NZ (h : Br (x6 < ((ByteArray.size s0 : Nat) : Int)) (AG (x6 + 1) ∧ AG (x6 + 1) ∧ Pq p5 fun PR RJ => In (x6 + 1) (n5 : Int) ∧ LB σ PR (RJ + Int.toNat (x6 + 1) * 1) fun t30 => Bo t30 (In (x6 + 1) (n5 : Int) ∧ AK prog (Instr.storeAt 4 (.pointer (aD PR (RJ + Int.toNat (x6 + 1) * 1))) (.bool true)) σ (fun _ y => AG (x6 + 1) ∧ P3 R s0 s1 (aD PR RJ) n5 c5 (x6 + 1) y)) (In x6 (n5 : Int) ∧ LB σ PR (RJ + Int.toNat x6 * 1) fun t35 => Bo t35 (∃ u39 : UInt8,0 ≤ x6 ∧ (ByteArray.data s0)[Int.toNat x6]? = some u39 ∧ In (x6 + 1) (n5 : Int) ∧ AK prog (Instr.storeAt 4 (.pointer (aD PR (RJ + Int.toNat (x6 + 1) * 1))) (.bool (decide ((((UInt8.toNat u39 : Nat) : Int) : Int) = 42)))) σ (fun _ y => AG (x6 + 1) ∧ P3 R s0 s1 (aD PR RJ) n5 c5 (x6 + 1) y)) (In (x6 + 1) (n5 : Int) ∧ AK prog (Instr.storeAt 4 (.pointer (aD PR (RJ + Int.toNat (x6 + 1) * 1))) (.bool false)) σ (fun _ y => AG (x6 + 1) ∧ P3 R s0 s1 (aD PR RJ) n5 c5 (x6 + 1) y)))) (JW R s0 s1 p5 n5 c5 0 σ)) : P3 R s0 s1 p5 n5 c5 x6 σ := M.of h ok rfl
theorem I3 (h : Br (x7 < ((ByteArray.size s1 : Nat) : Int)) (AG (((ByteArray.size s0 : Nat) : Int) + 1) ∧ AK prog (Instr.makeSlice 174 (.int .i64 (((ByteArray.size s0 : Nat) : Int) + 1)) (.int .i64 (((ByteArray.size s0 : Nat) : Int) + 1))) σ (CS fun p53 n53 c53 y => rz R s0 s1 p5 n5 c5 x7 p53 n53 c53 0 y)) (Pq p5 fun ALh ALi => In (((ByteArray.size s0 : Nat) : Int)) (n5 : Int) ∧ LB σ ALh (ALi + Int.toNat ((ByteArray.size s0 : Nat) : Int) * 1) fun t128 => R (.returned (.bool t128)) σ)) : JW R s0 s1 p5 n5 c5 x7 σ := M.of h ok rfl
theorem dD (h : Br (x9 < ((ByteArray.size s0 : Nat) : Int)) (Pq p5 fun ph o62 => In x9 (n5 : Int) ∧ LB σ ph (o62 + Int.toNat x9 * 1) fun t63 => Bo t63 (∃ u67 : UInt8,0 ≤ x9 ∧ (ByteArray.data s0)[Int.toNat x9]? = some u67 ∧ Br ((((UInt8.toNat u67 : Nat) : Int) : Int) = 42) (Pq p8 fun yd ye => In x9 (n8 : Int) ∧ AK prog (Instr.storeAt 4 (.pointer (aD yd (ye + Int.toNat x9 * 1))) (.bool true)) σ (fun _ y => fe R s0 s1 (aD ph o62) n5 c5 x7 (aD yd ye) n8 c8 x9 y)) (fe R s0 s1 (aD ph o62) n5 c5 x7 p8 n8 c8 x9 σ)) (fe R s0 s1 (aD ph o62) n5 c5 x7 p8 n8 c8 x9 σ)) (Xn R s0 s1 x7 p8 n8 c8 0 σ)) : rz R s0 s1 p5 n5 c5 x7 p8 n8 c8 x9 σ := M.of h ok rfl
theorem dE (h : Br (x10 < ((ByteArray.size s0 : Nat) : Int)) (AG (x10 + 1) ∧ AG (x10 + 1) ∧ Pq p8 fun Na Nb => In (x10 + 1) (n8 : Int) ∧ LB σ Na (Nb + Int.toNat (x10 + 1) * 1) fun t109 => Bo t109 (In (x10 + 1) (n8 : Int) ∧ AK prog (Instr.storeAt 4 (.pointer (aD Na (Nb + Int.toNat (x10 + 1) * 1))) (.bool true)) σ (fun _ y => AG (x10 + 1) ∧ Xn R s0 s1 x7 (aD Na Nb) n8 c8 (x10 + 1) y)) (In x10 (n8 : Int) ∧ LB σ Na (Nb + Int.toNat x10 * 1) fun t114 => Bo t114 (∃ AEm : UInt8,0 ≤ x10 ∧ (ByteArray.data s0)[Int.toNat x10]? = some AEm ∧ In (x10 + 1) (n8 : Int) ∧ AK prog (Instr.storeAt 4 (.pointer (aD Na (Nb + Int.toNat (x10 + 1) * 1))) (.bool (decide ((((UInt8.toNat AEm : Nat) : Int) : Int) = 42)))) σ (fun _ y => AG (x10 + 1) ∧ Xn R s0 s1 x7 (aD Na Nb) n8 c8 (x10 + 1) y)) (In (x10 + 1) (n8 : Int) ∧ AK prog (Instr.storeAt 4 (.pointer (aD Na (Nb + Int.toNat (x10 + 1) * 1))) (.bool false)) σ (fun _ y => AG (x10 + 1) ∧ Xn R s0 s1 x7 (aD Na Nb) n8 c8 (x10 + 1) y)))) (AG (x7 + 1) ∧ JW R s0 s1 p8 n8 c8 (x7 + 1) σ)) : Xn R s0 s1 x7 p8 n8 c8 x10 σ := M.of h ok rfl
theorem r5 (h : Pq p5 fun ij o75 => In x9 (n5 : Int) ∧ LB σ ij (o75 + Int.toNat x9 * 1) fun t76 => Bo t76 (∃ u80 : UInt8,0 ≤ x9 ∧ (ByteArray.data s0)[Int.toNat x9]? = some u80 ∧ Br ((((UInt8.toNat u80 : Nat) : Int) : Int) ≠ 42) (∃ u86 : UInt8,0 ≤ x9 ∧ (ByteArray.data s0)[Int.toNat x9]? = some u86 ∧ ∃ u89 : UInt8,0 ≤ x7 ∧ (ByteArray.data s1)[Int.toNat x7]? = some u89 ∧ Br ((((UInt8.toNat u86 : Nat) : Int) : Int) = ((UInt8.toNat u89 : Nat) : Int)) (AG (x9 + 1) ∧ Pq p8 fun b95 o95 => In (x9 + 1) (n8 : Int) ∧ AK prog (Instr.storeAt 4 (.pointer (aD b95 (o95 + Int.toNat (x9 + 1) * 1))) (.bool true)) σ (fun _ y => P4 R s0 s1 (aD ij o75) n5 c5 x7 (aD b95 o95) n8 c8 x9 y)) (P4 R s0 s1 (aD ij o75) n5 c5 x7 p8 n8 c8 x9 σ)) (P4 R s0 s1 (aD ij o75) n5 c5 x7 p8 n8 c8 x9 σ)) (P4 R s0 s1 (aD ij o75) n5 c5 x7 p8 n8 c8 x9 σ)) : fe R s0 s1 p5 n5 c5 x7 p8 n8 c8 x9 σ := M.of h ok rfl
theorem QN (h : AG (x9 + 1) ∧ rz R s0 s1 p5 n5 c5 x7 p8 n8 c8 (x9 + 1) σ) : P4 R s0 s1 p5 n5 c5 x7 p8 n8 c8 x9 σ := M.of h ok rfl
end Am
namespace Bp
variable {q0 Du EB p2 : Option Addr} {Dl Cc Dm Dx DT Cm : Int} {Dn : ByteArray} {Dy Dz D0 EC n2 c2 : Nat} {DU : Bool}
def M : Fw := ⟨prog,100,f100,[140],[4,6],false,[],[],[]⟩
theorem ok : M.Ok := ⟨.cons call140 (AJ.nil),mixed,func100,by kernel_rfl⟩
theorem start (h : ∀ b4 : Nat,∀ b6 : Nat,Spec prog 140 #[.string Dn] σ (AA R (fun z y => ∃ kl ALj,z = (.tuple #[.int .u64 kl,.bool ALj]) ∧ R (.returned (.tuple #[.agg #[.int .i64 1,.int .u64 kl,.slice none 0 0,.slice none 0 0],.int .i64 0])) y))) : Spec prog 100 #[.pointer q0,.agg #[.int .i64 Dl,.int .i64 Cc,.string Dn,.slice Du Dy Dz,.int .i64 Dm,.int .i64 Dx,.int .i64 DT,.slice EB D0 EC,.bool DU,.int .i64 Cm],.slice p2 n2 c2] σ R := M.start h ok
end Bp
namespace SR
variable {x0 x1 : Int}
def M : Fw := ⟨prog,123,f123,[],[],false,[],[],[]⟩
theorem ok : M.Ok := ⟨AJ.nil,mixed,func123,by kernel_rfl⟩
theorem start (h : Br (x1 ≤ x0) (R (.returned (.bool (decide (x0 < 2147483648)))) σ) (R (.returned (.bool false)) σ)) : Spec prog 123 #[.int .i64 x0,.int .i64 x1] σ R := M.start h ok
end SR
namespace SS
variable {s0 : ByteArray}
def M : Fw := ⟨prog,126,f126,[98],[],false,[],[],[]⟩
theorem ok : M.Ok := ⟨.cons call98 (AJ.nil),mixed,func126,by kernel_rfl⟩
theorem start (h : Spec prog 98 #[.string s0] σ (AA R (CB fun t4 y => R (.returned (.bool t4)) y))) : Spec prog 126 #[.string s0] σ R := M.start h ok
end SS
namespace AM
variable {s0 : ByteArray} {x1 x6 x7 x8 x9 : Int}
def M : Fw := ⟨prog,129,f129,[],[],false,[],[],[(252,[(0,wT),(1,wI),(6,wI),(7,.o (.I .i32)),(8,.o (.I .i32))]),(8144,[(0,wT),(1,wI),(6,wI),(7,.o (.I .i32)),(8,.o (.I .i32)),(9,wI)])]⟩
theorem ok : M.Ok := ⟨AJ.nil,mixed,func129,by kernel_rfl⟩
def GG := M.pt 0
def SU := M.pt 1
theorem start (h : ∃ NI : UInt8,0 ≤ x1 ∧ (ByteArray.data s0)[Int.toNat x1]? = some NI ∧ Br ((((UInt8.toNat NI : Nat) : Int) : Int) < 128) (R (.returned (.int .i64 1)) σ) (Br ((192 : Int) ≤ ((UInt8.toNat NI : Nat) : Int)) (Br ((((UInt8.toNat NI : Nat) : Int) : Int) < 224) (Df (Go.bits .and .u8 ((UInt8.toNat NI : Nat) : Int) 31) fun Ia => Df (IntKind.i32.wrap Ia) fun Lo => GG R s0 x1 2 128 Lo σ) (Br ((224 : Int) ≤ ((UInt8.toNat NI : Nat) : Int)) (Br ((((UInt8.toNat NI : Nat) : Int) : Int) < 240) (Df (Go.bits .and .u8 ((UInt8.toNat NI : Nat) : Int) 15) fun fY => Df (IntKind.i32.wrap fY) fun PQ => GG R s0 x1 3 2048 PQ σ) (Br ((240 : Int) ≤ ((UInt8.toNat NI : Nat) : Int)) (Br ((((UInt8.toNat NI : Nat) : Int) : Int) < 248) (Df (Go.bits .and .u8 ((UInt8.toNat NI : Nat) : Int) 7) fun il => Df (IntKind.i32.wrap il) fun Y9 => GG R s0 x1 4 65536 Y9 σ) (R (.returned (.int .i64 0)) σ)) (R (.returned (.int .i64 0)) σ))) (Br ((240 : Int) ≤ ((UInt8.toNat NI : Nat) : Int)) (Br ((((UInt8.toNat NI : Nat) : Int) : Int) < 248) (Df (Go.bits .and .u8 ((UInt8.toNat NI : Nat) : Int) 7) fun il => Df (IntKind.i32.wrap il) fun Y9 => GG R s0 x1 4 65536 Y9 σ) (R (.returned (.int .i64 0)) σ)) (R (.returned (.int .i64 0)) σ)))) (Br ((224 : Int) ≤ ((UInt8.toNat NI : Nat) : Int)) (Br ((((UInt8.toNat NI : Nat) : Int) : Int) < 240) (Df (Go.bits .and .u8 ((UInt8.toNat NI : Nat) : Int) 15) fun fY => Df (IntKind.i32.wrap fY) fun PQ => GG R s0 x1 3 2048 PQ σ) (Br ((240 : Int) ≤ ((UInt8.toNat NI : Nat) : Int)) (Br ((((UInt8.toNat NI : Nat) : Int) : Int) < 248) (Df (Go.bits .and .u8 ((UInt8.toNat NI : Nat) : Int) 7) fun il => Df (IntKind.i32.wrap il) fun Y9 => GG R s0 x1 4 65536 Y9 σ) (R (.returned (.int .i64 0)) σ)) (R (.returned (.int .i64 0)) σ))) (Br ((240 : Int) ≤ ((UInt8.toNat NI : Nat) : Int)) (Br ((((UInt8.toNat NI : Nat) : Int) : Int) < 248) (Df (Go.bits .and .u8 ((UInt8.toNat NI : Nat) : Int) 7) fun il => Df (IntKind.i32.wrap il) fun Y9 => GG R s0 x1 4 65536 Y9 σ) (R (.returned (.int .i64 0)) σ)) (R (.returned (.int .i64 0)) σ))))) : Spec prog 129 #[.string s0,.int .i64 x1] σ R := M.start h ok
theorem Dk (h : AG (x1 + x6) ∧ Br ((((ByteArray.size s0 : Nat) : Int) : Int) < (x1 + x6)) (R (.returned (.int .i64 0)) σ) (SU R s0 x1 x6 x7 x8 1 σ)) : GG R s0 x1 x6 x7 x8 σ := M.of h ok rfl
theorem QO (h : Br (x9 < x6) (AG (x1 + x9) ∧ ∃ u61 : UInt8,(0 : Int) ≤ (x1 + x9) ∧ (ByteArray.data s0)[Int.toNat (x1 + x9)]? = some u61 ∧ Df (Go.bits .and .u8 ((UInt8.toNat u61 : Nat) : Int) 192) fun Xm => Br (Xm ≠ 128) (R (.returned (.int .i64 0)) σ) (((0 : Int) ≤ 6 ∧ 6 ≤ ((IntKind.bits .i32 : Nat) : Int)) ∧ Df (IntKind.i32.wrap (x8 * 2 ^ Int.toNat 6)) fun ym => AG (x1 + x9) ∧ ∃ u70 : UInt8,(0 : Int) ≤ (x1 + x9) ∧ (ByteArray.data s0)[Int.toNat (x1 + x9)]? = some u70 ∧ Df (Go.bits .and .u8 ((UInt8.toNat u70 : Nat) : Int) 63) fun vL => Df (IntKind.i32.wrap vL) fun pn => Df (Go.bits .or .i32 ym pn) fun x73 => AG (x9 + 1) ∧ SU R s0 x1 x6 x7 x73 (x9 + 1) σ)) (Br (x8 < x7) (R (.returned (.int .i64 0)) σ) (Br (1114111 < x8) (R (.returned (.int .i64 0)) σ) (Br (55296 ≤ x8) (Br (x8 ≤ 57343) (R (.returned (.int .i64 0)) σ) (R (.returned (.int .i64 x6)) σ)) (R (.returned (.int .i64 x6)) σ))))) : SU R s0 x1 x6 x7 x8 x9 σ := M.of h ok rfl
end AM
namespace EZ
variable {p0 : Option Addr} {n0 c0 : Nat}
def M : Fw := ⟨prog,154,f154,[151,155,194],[],false,[],[],[]⟩
theorem ok : M.Ok := ⟨.cons call151 (.cons call155 (.cons call194 (AJ.nil))),mixed,func154,by kernel_rfl⟩
theorem start (h : Spec prog 151 #[.slice p0 n0 c0] σ (AA R (CI .u64 fun x4 y => Spec prog 155 #[.slice p0 n0 c0] y (AA R (CI .u64 fun x6 AH => Spec prog 194 #[.int .u64 x4,.int .u64 x6] AH (AA R (CI .u64 fun x7 AL => R (.returned (.int .u64 x7)) AL))))))) : Spec prog 154 #[.slice p0 n0 c0] σ R := M.start h ok
end EZ
namespace Ab
variable {q0 Du EB p2 p3 Ir Iy En Ev Jc p35 po : Option Addr} {Dl Cc Dm Dx DT Cm Ip G9 Iv Iw Ix I1 Ew Ex ig Ud aJ M7 : Int} {Dn Iq : ByteArray} {Dy Dz D0 EC n2 c2 n3 c3 Is Iu Iz I0 Eo Ep Ey Ez n14 H7 n35 vk kL ct : Nat} {DU Js : Bool} {m10 m12 : Option Nat}
def M : Fw := ⟨prog,160,f160,[49,148,206,207],[5,8,16,17,20,21],false,[],[],[(1000,[(3,wL),(5,.X 36 [.I .i64,.I .i64,.T,.L,.I .i64,.I .i64,.I .i64,.L,.B,.I .i64]),(8,.X 93 [.I .i64,.I .u64,.L,.L]),(10,wM),(12,wM),(14,wL),(35,wL),(36,wI),(37,wI)]),(2024,[(5,.X 36 [.I .i64,.I .i64,.T,.L,.I .i64,.I .i64,.I .i64,.L,.B,.I .i64]),(8,.X 93 [.I .i64,.I .u64,.L,.L]),(10,wM),(14,wL),(66,wL),(67,wI),(68,wI)]),(8103,[(5,.X 36 [.I .i64,.I .i64,.T,.L,.I .i64,.I .i64,.I .i64,.L,.B,.I .i64]),(8,.X 93 [.I .i64,.I .u64,.L,.L]),(10,wM),(14,wL),(66,wL),(67,wI),(68,wI)]),(4007,[(3,wL),(5,.X 36 [.I .i64,.I .i64,.T,.L,.I .i64,.I .i64,.I .i64,.L,.B,.I .i64]),(8,.X 93 [.I .i64,.I .u64,.L,.L]),(10,wM),(12,wM),(14,wL),(35,wL),(36,wI),(37,wI)])]⟩
theorem ok : M.Ok := ⟨.cons call49 (.cons call148 (.cons call206 (.cons call207 (AJ.nil)))),mixed,func160,by kernel_rfl⟩
def sB := M.pt 0
def Fs := M.pt 1
def ND := M.pt 2
def NT := M.pt 3
theorem start (h : ∀ b5 : Nat,∀ b8 : Nat,Spec prog 206 #[.agg #[.int .i64 Dl,.int .i64 Cc,.string Dn,.slice Du Dy Dz,.int .i64 Dm,.int .i64 Dx,.int .i64 DT,.slice EB D0 EC,.bool DU,.int .i64 Cm],.slice p2 n2 c2] σ (AA R (fun z y => ∃ AEo ALl,z = (.tuple #[.map AEo,.bool ALl]) ∧ Spec prog 206 #[.agg #[.int .i64 Dl,.int .i64 Cc,.string Dn,.slice Du Dy Dz,.int .i64 Dm,.int .i64 Dx,.int .i64 DT,.slice EB D0 EC,.bool DU,.int .i64 Cm],.slice p3 n3 c3] y (AA R (fun z AH => ∃ AEp ALm,z = (.tuple #[.map AEp,.bool ALm]) ∧ sB R p3 n3 c3 Dl Cc Dn Du Dy Dz Dm Dx DT EB D0 EC DU Cm 0 0 none 0 0 none 0 0 AEo AEp none 0 0 p2 n2 c2 (n2 : Int) 0 AH))))) : Spec prog 160 #[.pointer q0,.agg #[.int .i64 Dl,.int .i64 Cc,.string Dn,.slice Du Dy Dz,.int .i64 Dm,.int .i64 Dx,.int .i64 DT,.slice EB D0 EC,.bool DU,.int .i64 Cm],.slice p2 n2 c2,.slice p3 n3 c3] σ R := M.start h ok
theorem dF (h : Br (Ud < ig) (Pq p35 fun We cg => In Ud (n35 : Int) ∧ ∃ Xj Vn aL aM,Au σ We (cg + Int.toNat Ud * 2) [.slice Xj Vn aL,.int .u64 aM] ∧ ∀ G8 : Nat,Spec prog 207 #[.agg #[.int .i64 Ip,.int .i64 G9,.string Iq,.slice Ir Is Iu,.int .i64 Iv,.int .i64 Iw,.int .i64 Ix,.slice Iy Iz I0,.bool Js,.int .i64 I1],.slice Xj Vn aL] σ (AA R (CS fun iq n46 ff y => Spec prog 49 #[.slice iq n46 ff] y (AA R (CT fun s47 AH => AK prog (Instr.lookup 243 (.map m12) (.string s47) true) AH (fun z AL => ∃ AEq AEr AEs AEt AEu,z = (.tuple #[.agg #[.slice AEq AEr AEs,.int .u64 AEt],.bool AEu]) ∧ ∀ aN : Nat,Br (G9 = 12) (Al AL fun fg => AK prog (Builtin.append_ #[67,67] 67 #[.slice Jc n14 H7,(.slice (aD fg 0) 1 1)]) (Hp.set AL fg (.cells #[.slice Xj Vn aL,.int .u64 aM] 71 (0,0))) (CS fun pj kG pk Av => NT R p3 n3 c3 Ip G9 Iq Ir Is Iu Iv Iw Ix Iy Iz I0 Js I1 Ew Ex En Eo Ep Ev Ey Ez m10 m12 pj kG pk (aD We cg) n35 vk ig Ud Av)) (Bo AEu (Br (G9 = 11) (Al AL fun fg => AK prog (Builtin.append_ #[67,67] 67 #[.slice Jc n14 H7,(.slice (aD fg 0) 1 1)]) (Hp.set AL fg (.cells #[.slice Xj Vn aL,.int .u64 aM] 71 (0,0))) (CS fun pj kG pk Av => NT R p3 n3 c3 Ip G9 Iq Ir Is Iu Iv Iw Ix Iy Iz I0 Js I1 Ew Ex En Eo Ep Ev Ey Ez m10 m12 pj kG pk (aD We cg) n35 vk ig Ud Av)) (NT R p3 n3 c3 Ip G9 Iq Ir Is Iu Iv Iw Ix Iy Iz I0 Js I1 Ew Ex En Eo Ep Ev Ey Ez m10 m12 Jc n14 H7 (aD We cg) n35 vk ig Ud AL)) (Br (G9 = 11) (NT R p3 n3 c3 Ip G9 Iq Ir Is Iu Iv Iw Ix Iy Iz I0 Js I1 Ew Ex En Eo Ep Ev Ey Ez m10 m12 Jc n14 H7 (aD We cg) n35 vk ig Ud AL) (Al AL fun fg => AK prog (Builtin.append_ #[67,67] 67 #[.slice Jc n14 H7,(.slice (aD fg 0) 1 1)]) (Hp.set AL fg (.cells #[.slice Xj Vn aL,.int .u64 aM] 71 (0,0))) (CS fun pj kG pk Av => NT R p3 n3 c3 Ip G9 Iq Ir Is Iu Iv Iw Ix Iy Iz I0 Js I1 Ew Ex En Eo Ep Ev Ey Ez m10 m12 pj kG pk (aD We cg) n35 vk ig Ud Av)))))))))) (Fs R Ip G9 Iq Ir Is Iu Iv Iw Ix Iy Iz I0 Js I1 Ew Ex En Eo Ep Ev Ey Ez m10 Jc n14 H7 p3 n3 c3 (n3 : Int) 0 σ)) : sB R p3 n3 c3 Ip G9 Iq Ir Is Iu Iv Iw Ix Iy Iz I0 Js I1 Ew Ex En Eo Ep Ev Ey Ez m10 m12 Jc n14 H7 p35 n35 vk ig Ud σ := M.fH h ok rfl fun _ _ => by kernel_rfl
theorem GF (h : Br (M7 < aJ) (Pq po fun b70 o70 => In M7 (kL : Int) ∧ ∃ zY zZ za AEv,Au σ b70 (o70 + Int.toNat M7 * 2) [.slice zY zZ za,.int .u64 AEv] ∧ ∀ Xi : Nat,Spec prog 207 #[.agg #[.int .i64 Ip,.int .i64 G9,.string Iq,.slice Ir Is Iu,.int .i64 Iv,.int .i64 Iw,.int .i64 Ix,.slice Iy Iz I0,.bool Js,.int .i64 I1],.slice zY zZ za] σ (AA R (CS fun p77 n77 c77 y => Spec prog 49 #[.slice p77 n77 c77] y (AA R (CT fun s78 AH => AK prog (Instr.lookup 243 (.map m10) (.string s78) true) AH (fun z AL => ∃ AEw AEx AEy AEz AE0,z = (.tuple #[.agg #[.slice AEw AEx AEy,.int .u64 AEz],.bool AE0]) ∧ ∀ b21 : Nat,Bn AE0 (Br (G9 = 12) (Al AL fun iW => AK prog (Builtin.append_ #[67,67] 67 #[.slice Jc n14 H7,(.slice (aD iW 0) 1 1)]) (Hp.set AL iW (.cells #[.slice zY zZ za,.int .u64 AEv] 71 (0,0))) (CS fun p92 n92 c92 Av => ND R Ip G9 Iq Ir Is Iu Iv Iw Ix Iy Iz I0 Js I1 Ew Ex En Eo Ep Ev Ey Ez m10 p92 n92 c92 (aD b70 o70) kL ct aJ M7 Av)) (ND R Ip G9 Iq Ir Is Iu Iv Iw Ix Iy Iz I0 Js I1 Ew Ex En Eo Ep Ev Ey Ez m10 Jc n14 H7 (aD b70 o70) kL ct aJ M7 AL)) (ND R Ip G9 Iq Ir Is Iu Iv Iw Ix Iy Iz I0 Js I1 Ew Ex En Eo Ep Ev Ey Ez m10 Jc n14 H7 (aD b70 o70) kL ct aJ M7 AL))))))) (Spec prog 148 #[.slice Jc n14 H7] σ (AA R (fun z y => ∃ vo vq vr vt vu vv vw vx AE1,z = (.tuple #[.agg #[.int .i64 vo,.int .u64 vq,.slice vr vt vu,.slice vv vw vx],.int .i64 AE1]) ∧ R (.returned (.tuple #[.agg #[.int .i64 vo,.int .u64 vq,.slice vr vt vu,.slice vv vw vx],.int .i64 AE1])) y)))) : Fs R Ip G9 Iq Ir Is Iu Iv Iw Ix Iy Iz I0 Js I1 Ew Ex En Eo Ep Ev Ey Ez m10 Jc n14 H7 po kL ct aJ M7 σ := M.fH h ok rfl fun _ _ => by kernel_rfl
theorem Vi (h : AG (M7 + 1) ∧ Fs R Ip G9 Iq Ir Is Iu Iv Iw Ix Iy Iz I0 Js I1 Ew Ex En Eo Ep Ev Ey Ez m10 Jc n14 H7 po kL ct aJ (M7 + 1) σ) : ND R Ip G9 Iq Ir Is Iu Iv Iw Ix Iy Iz I0 Js I1 Ew Ex En Eo Ep Ev Ey Ez m10 Jc n14 H7 po kL ct aJ M7 σ := M.fH h ok rfl fun _ _ => by kernel_rfl
theorem NU (h : AG (Ud + 1) ∧ sB R p3 n3 c3 Ip G9 Iq Ir Is Iu Iv Iw Ix Iy Iz I0 Js I1 Ew Ex En Eo Ep Ev Ey Ez m10 m12 Jc n14 H7 p35 n35 vk ig (Ud + 1) σ) : NT R p3 n3 c3 Ip G9 Iq Ir Is Iu Iv Iw Ix Iy Iz I0 Js I1 Ew Ex En Eo Ep Ev Ey Ez m10 m12 Jc n14 H7 p35 n35 vk ig Ud σ := M.fH h ok rfl fun _ _ => by kernel_rfl
end Ab
namespace ME
variable {Eu ES x1 : Int}
def M : Fw := ⟨prog,177,f177,[],[2],false,[],[],[]⟩
theorem ok : M.Ok := ⟨AJ.nil,mixed,func177,by kernel_rfl⟩
theorem start (h : ∀ b2 : Nat,Br (Eu ≤ x1) (R (.returned (.int .i64 (-1))) σ) (R (.returned (.int .i64 1)) σ)) : Spec prog 177 #[.agg #[.int .i64 Eu,.int .u64 ES],.int .i64 x1] σ R := M.start h ok
end ME
namespace GI
variable {vM ZD : ByteArray} {b1 : Nat}
def M : Fw := ⟨prog,198,f198,[199],[2],false,[],[],[]⟩
theorem ok : M.Ok := ⟨.cons call199 (AJ.nil),mixed,func198,by kernel_rfl⟩
theorem start (h : ∀ b2 : Nat,LS σ b1 0 fun p4 n4 c4 => Spec prog 199 #[.slice p4 n4 c4,.string vM] σ (AA R (CB fun t7 y => R (.returned (.bool t7)) y))) : Spec prog 198 #[.agg #[.string vM,.string ZD],(.pointer (aD b1 0))] σ R := M.start h ok
end GI
namespace Ea
variable {PL : Option Addr} {JV OC : Nat} {ZD s1 : ByteArray}
def M : Fw := ⟨prog,218,f218,[],[2],false,[],[],[]⟩
theorem ok : M.Ok := ⟨AJ.nil,mixed,func218,by kernel_rfl⟩
theorem start (h : ∀ b2 : Nat,R (.returned (.bool (!(ByteArray.toList s1 == ByteArray.toList ZD)))) σ) : Spec prog 218 #[.agg #[.slice PL JV OC,.string ZD],.string s1] σ R := M.start h ok
end Ea
namespace Uf
variable {x0 : Int}
def M : Fw := ⟨prog,240,f240,[],[],false,[],[],[]⟩
theorem ok : M.Ok := ⟨AJ.nil,mixed,func240,by kernel_rfl⟩
theorem start (h : Br (x0 = 1) (R (.returned (.bool true)) σ) (Br (x0 = 2) (R (.returned (.bool true)) σ) (Br (x0 = 4) (R (.returned (.bool true)) σ) (R (.returned (.bool (decide (x0 = 8)))) σ)))) : Spec prog 240 #[.int .i64 x0] σ R := M.start h ok
end Uf
namespace MF
def M : Fw := ⟨prog,263,f263,[182],[],false,[],[],[]⟩
theorem ok : M.Ok := ⟨.cons call182 (AJ.nil),mixed,func263,by kernel_rfl⟩
theorem start (h : Spec prog 182 #[.int .u64 4604544271217802189] σ (AA R (fun z y => ∃ x2,(Value.float .f64 x2) = z ∧ ∃ x5,YF prog (Op.unary .neg (Value.float .f64 x2)) y (Value.float .f64 x5) ∧ ∃ x6 y6,YF prog (Builtin.complex_ #[51,51] 272 #[(Value.float .f64 x2),(Value.float .f64 x5)]) y (Value.complex .f64 x6 y6) ∧ ∃ x8,YF prog (Op.unary .neg (Value.float .f64 x2)) y (Value.float .f64 x8) ∧ ∃ x10,YF prog (Op.unary .neg (Value.float .f64 x2)) y (Value.float .f64 x10) ∧ ∃ x11 y11,YF prog (Builtin.complex_ #[51,51] 272 #[(Value.float .f64 x8),(Value.float .f64 x10)]) y (Value.complex .f64 x11 y11) ∧ ∃ FE,YF prog (Op.unary .neg (Value.float .f64 x2)) y (Value.float .f64 FE) ∧ ∃ x15 y15,YF prog (Builtin.complex_ #[51,51] 272 #[(Value.float .f64 FE),(Value.float .f64 x2)]) y (Value.complex .f64 x15 y15) ∧ ∃ Ib y18,YF prog (Builtin.complex_ #[51,51] 272 #[(Value.float .f64 x2),(Value.float .f64 x2)]) y (Value.complex .f64 Ib y18) ∧ Al y fun CY => R (.returned (.slice (aD CY 0) 8 8)) (Hp.set y CY (.cells #[.complex .f64 4607182418800017408 0,(Value.complex .f64 x6 y6),.complex .f64 0 13830554455654793216,(Value.complex .f64 x11 y11),.complex .f64 13830554455654793216 0,(Value.complex .f64 x15 y15),.complex .f64 0 4607182418800017408,(Value.complex .f64 Ib y18)] 272 (0,0)))))) : Spec prog 263 #[] σ R := M.start h ok
end MF
end TwW
end
end
section
set_option maxRecDepth 100000
noncomputable section
namespace TwW
open Go Tw Go.Proofs.Tryz
variable [Er] {R : Rr} {σ : Hp}

namespace Ug
variable {v0 : Value}
def M : Fw := ⟨prog,25,f25,[],[],false,[],[],[]⟩
theorem ok : M.Ok := ⟨AJ.nil,mixed,func25,by kernel_rfl⟩
theorem start (h : EN prog 45 #[v0] σ (CI .u64 fun x4 y => R (.returned (.int .u64 x4)) y)) : Spec prog 25 #[v0] σ R := M.FD h ok [(0,.o (.V v0))] rfl rfl (by kernel_rfl)
end Ug
namespace Uh
variable {p0 p1 : Option Addr} {n0 c0 n1 c1 : Nat}
def M : Fw := ⟨prog,28,f28,[37,46],[],false,[],[],[]⟩
theorem ok : M.Ok := ⟨.cons call37 (.cons call46 (AJ.nil)),mixed,func28,by kernel_rfl⟩
theorem start (h : Spec prog 37 #[.slice p0 n0 c0] σ (AA R (fun z y => ∃ Jr ALn AE2,z = (.tuple #[.int .i64 Jr,.int .i64 ALn,.int .i64 AE2]) ∧ Br (AE2 ≠ 0) (R (.returned (.int .i64 220)) y) (Br (Jr = 3) (R (.returned (.int .i64 220)) y) (Spec prog 46 #[.slice p1 n1 c1] y (AA R (CI .i64 fun C6 AH => Br (C6 ≠ 0) (R (.returned (.int .i64 224)) AH) (R (.returned (.int .i64 0)) AH)))))))) : Spec prog 28 #[.slice p0 n0 c0,.slice p1 n1 c1] σ R := M.start h ok
end Uh
namespace DL
variable {p0 p5 : Option Addr} {n0 c0 n5 c5 : Nat} {x6 x7 : Int}
def M : Fw := ⟨prog,46,f46,[52,68,69],[4],false,[],[],[(104,[(0,wL),(5,wL),(6,wI),(7,wI)])]⟩
theorem ok : M.Ok := ⟨.cons call52 (.cons call68 (.cons call69 (AJ.nil))),mixed,func46,by kernel_rfl⟩
def MY := M.pt 0
theorem start (h : MY R p0 n0 c0 p0 n0 c0 (n0 : Int) 0 σ) : Spec prog 46 #[.slice p0 n0 c0] σ R := M.start h ok
theorem C3 (h : Br (x7 < x6) (Pq p5 fun DD sC => In x7 (n5 : Int) ∧ ∃ Li Lj Lk Tm Q9 Tn,Au σ DD (sC + Int.toNat x7 * 2) [.slice Li Lj Lk,.slice Tm Q9 Tn] ∧ ∀ b4 : Nat,Spec prog 68 #[.slice Li Lj Lk] σ (AA R (CI .i64 fun Hm y => Br (Hm ≠ 0) (R (.returned (.int .i64 100)) y) (Spec prog 69 #[.slice Tm Q9 Tn] y (AA R (CB fun t19 AH => Bn t19 (R (.returned (.int .i64 100)) AH) (Br (0 < x7) (AG (x7 - 1) ∧ Pq p0 fun PR RJ => In (x7 - 1) (n0 : Int) ∧ LS AH PR (RJ + Int.toNat (x7 - 1) * 2) fun p31 n31 c31 => Spec prog 52 #[.slice p31 n31 c31,.slice Li Lj Lk] AH (AA R (CI .i64 fun fY AL => Br (0 ≤ fY) (R (.returned (.int .i64 100)) AL) (AG (x7 + 1) ∧ MY R (aD PR RJ) n0 c0 (aD DD sC) n5 c5 x6 (x7 + 1) AL)))) (AG (x7 + 1) ∧ MY R p0 n0 c0 (aD DD sC) n5 c5 x6 (x7 + 1) AH)))))))) (R (.returned (.int .i64 0)) σ)) : MY R p0 n0 c0 p5 n5 c5 x6 x7 σ := M.of h ok rfl
end DL
namespace Ui
variable {x0 : Int}
def M : Fw := ⟨prog,90,f90,[],[],false,[],[],[]⟩
theorem ok : M.Ok := ⟨AJ.nil,mixed,func90,by kernel_rfl⟩
theorem start (h : Br (48 ≤ x0) (R (.returned (.bool (decide (x0 ≤ 57)))) σ) (R (.returned (.bool false)) σ)) : Spec prog 90 #[.int .u8 x0] σ R := M.start h ok
end Ui
namespace Ah
variable {q0 Du EB p2 GV Hn HD Fv En Ev Em : Option Addr} {Dl Cc Dm Dx DT Cm G5 GH Ho F5 Hq Ie Ft Fu Ew Ex x17 Ib : Int} {Dn Ig : ByteArray} {Dy Dz D0 EC n2 c2 GX GY Hr Hs HE HF Fy Fz Eo Ep Ey Ez n16 ER : Nat} {DU Ih : Bool}
def M : Fw := ⟨prog,101,f101,[141,142],[4,6,8,10],false,[(7,15,false)],[],[(232,[(0,wQ),(4,.X 36 [.I .i64,.I .i64,.T,.L,.I .i64,.I .i64,.I .i64,.L,.B,.I .i64]),(6,.X 93 [.I .i64,.I .u64,.L,.L]),(8,.X 93 [.I .i64,.I .u64,.L,.L]),(16,wL),(17,wI),(18,wI)]),(935,[(0,wQ),(4,.X 36 [.I .i64,.I .i64,.T,.L,.I .i64,.I .i64,.I .i64,.L,.B,.I .i64]),(6,.X 93 [.I .i64,.I .u64,.L,.L]),(8,.X 93 [.I .i64,.I .u64,.L,.L]),(16,wL),(17,wI),(18,wI)])]⟩
theorem ok : M.Ok := ⟨.cons call141 (.cons call142 (AJ.nil)),mixed,func101,by kernel_rfl⟩
def BA := M.pt 0
def JW := M.pt 1
theorem start (h : ∀ b4 : Nat,∀ b6 : Nat,∀ b8 : Nat,Pq q0 fun Bt TY => LS σ Bt TY fun Em n16 ER => BA R (aD Bt TY) Dl Cc Dn Du Dy Dz Dm Dx DT EB D0 EC DU Cm 0 0 none 0 0 none 0 0 2 0 none 0 0 none 0 0 Em n16 ER (n16 : Int) 0 σ) : Spec prog 101 #[.pointer q0,.agg #[.int .i64 Dl,.int .i64 Cc,.string Dn,.slice Du Dy Dz,.int .i64 Dm,.int .i64 Dx,.int .i64 DT,.slice EB D0 EC,.bool DU,.int .i64 Cm],.slice p2 n2 c2] σ R := M.start h ok
theorem Ac (h : Br (Ib < x17) (Pq Em fun Xi zb => In Ib (n16 : Int) ∧ ∃ zc zd ze AE3 AE4 AE5,Au σ Xi (zb + Int.toNat Ib * 2) [.slice zc zd ze,.slice AE3 AE4 AE5] ∧ ∀ DD : Nat,Pq q0 fun LJ ZF => LI .i64 σ LJ (ZF + 1) fun Lm => AG (Lm - F5) ∧ AG ((Lm - F5) - 300) ∧ LI .i64 σ LJ (ZF + 1) fun PQ => AG (PQ - F5) ∧ Spec prog 141 #[.slice AE3 AE4 AE5,(.int .i64 ((Lm - F5) - 300)),(.int .i64 (PQ - F5))] σ (AA R (CS fun p39 n39 c39 y => Br ((n39 : Int) = 0) (JW R (aD LJ ZF) G5 GH Ig GV GX GY Ho F5 Hq Hn Hr Hs Ih Ie Ft Fu HD HE HF Fv Fy Fz Ew Ex En Eo Ep Ev Ey Ez (aD Xi zb) n16 ER x17 Ib y) (AG ((n39 : Int) - 1) ∧ Pq p39 fun P1 o48 => In (((n39 : Int) - 1)) (n39 : Int) ∧ LI .u64 y P1 ((o48 + Int.toNat ((n39 : Int) - 1) * 2) + 1) fun x50 => Br (x50 = 9218868437227405314) (JW R (aD LJ ZF) G5 GH Ig GV GX GY Ho F5 Hq Hn Hr Hs Ih Ie Ft Fu HD HE HF Fv Fy Fz Ew Ex En Eo Ep Ev Ey Ez (aD Xi zb) n16 ER x17 Ib y) (Spec prog 142 #[.slice GV GX GY,.slice zc zd ze] y (AA R (CB fun t58 AH => Bn t58 (JW R (aD LJ ZF) G5 GH Ig GV GX GY Ho F5 Hq Hn Hr Hs Ih Ie Ft Fu HD HE HF Fv Fy Fz Ew Ex En Eo Ep Ev Ey Ez (aD Xi zb) n16 ER x17 Ib AH) (AG ((n39 : Int) - 1) ∧ In (((n39 : Int) - 1)) (n39 : Int) ∧ LI .u64 AH P1 ((o48 + Int.toNat ((n39 : Int) - 1) * 2) + 1) fun vL => Al AH fun zV => AK prog (Builtin.append_ #[67,67] 67 #[.slice En Eo Ep,(.slice (aD zV 0) 1 1)]) (Hp.set AH zV (.cells #[.slice zc zd ze,.int .u64 vL] 71 (0,0))) (CS fun p74 n74 c74 AL => JW R (aD LJ ZF) G5 GH Ig GV GX GY Ho F5 Hq Hn Hr Hs Ih Ie Ft Fu HD HE HF Fv Fy Fz Ew Ex p74 n74 c74 Ev Ey Ez (aD Xi zb) n16 ER x17 Ib AL))))))))) (R (.returned (.tuple #[.agg #[.int .i64 Ew,.int .u64 Ex,.slice En Eo Ep,.slice Ev Ey Ez],.int .i64 0])) σ)) : BA R q0 G5 GH Ig GV GX GY Ho F5 Hq Hn Hr Hs Ih Ie Ft Fu HD HE HF Fv Fy Fz Ew Ex En Eo Ep Ev Ey Ez Em n16 ER x17 Ib σ := M.of3 h ok rfl fun _ _ _ => by kernel_rfl
theorem I3 (h : AG (Ib + 1) ∧ BA R q0 G5 GH Ig GV GX GY Ho F5 Hq Hn Hr Hs Ih Ie Ft Fu HD HE HF Fv Fy Fz Ew Ex En Eo Ep Ev Ey Ez Em n16 ER x17 (Ib + 1) σ) : JW R q0 G5 GH Ig GV GX GY Ho F5 Hq Hn Hr Hs Ih Ie Ft Fu HD HE HF Fv Fy Fz Ew Ex En Eo Ep Ev Ey Ez Em n16 ER x17 Ib σ := M.of3 h ok rfl fun _ _ _ => by kernel_rfl
end Ah
namespace AT
variable {q0 Du EB p2 GV Hn HD Fv En Ev Oc aQ lY Lx iq : Option Addr} {Dl Cc Dm Dx DT Cm G5 GH Ho F5 Hq Ie Ft Fu Ew Ex Jd C6 kQ Vo : Int} {Dn Ig : ByteArray} {Dy Dz D0 EC n2 c2 GX GY Hr Hs HE HF Fy Fz Eo Ep Ey Ez n21 Ma aR aS lZ lf n11 Ly n46 ff : Nat} {DU Ih : Bool}
def M : Fw := ⟨prog,102,f102,[141,142,143],[4,6,8,10,13],false,[],[],[(232,[(0,wQ),(4,.X 36 [.I .i64,.I .i64,.T,.L,.I .i64,.I .i64,.I .i64,.L,.B,.I .i64]),(6,.X 93 [.I .i64,.I .u64,.L,.L]),(8,.X 93 [.I .i64,.I .u64,.L,.L]),(21,wL),(22,wI),(23,wI)]),(239208,[(0,wQ),(4,.X 36 [.I .i64,.I .i64,.T,.L,.I .i64,.I .i64,.I .i64,.L,.B,.I .i64]),(6,.X 93 [.I .i64,.I .u64,.L,.L]),(8,.X 93 [.I .i64,.I .u64,.L,.L]),(10,.X 40 [.L,.L]),(11,wL),(21,wL),(22,wI),(23,wI),(46,wL),(47,wI),(48,wI)]),(935,[(0,wQ),(4,.X 36 [.I .i64,.I .i64,.T,.L,.I .i64,.I .i64,.I .i64,.L,.B,.I .i64]),(6,.X 93 [.I .i64,.I .u64,.L,.L]),(8,.X 93 [.I .i64,.I .u64,.L,.L]),(21,wL),(22,wI),(23,wI)]),(956839,[(0,wQ),(4,.X 36 [.I .i64,.I .i64,.T,.L,.I .i64,.I .i64,.I .i64,.L,.B,.I .i64]),(6,.X 93 [.I .i64,.I .u64,.L,.L]),(8,.X 93 [.I .i64,.I .u64,.L,.L]),(10,.X 40 [.L,.L]),(11,wL),(21,wL),(22,wI),(23,wI),(46,wL),(47,wI),(48,wI)])]⟩
theorem ok : M.Ok := ⟨.cons call141 (.cons call142 (.cons call143 (AJ.nil))),mixed,func102,by kernel_rfl⟩
def BA := M.pt 0
def Tq := M.pt 1
def Ln := M.pt 2
def P2 := M.pt 3
theorem start (h : ∀ b4 : Nat,∀ b6 : Nat,Spec prog 143 #[.int .i64 Dm] σ (AA R (CI .u64 fun x16 y => ∀ b8 : Nat,Pq q0 fun CY Wd => LS y CY Wd fun Oc n21 Ma => BA R (aD CY Wd) Dl Cc Dn Du Dy Dz Dm Dx DT EB D0 EC DU Cm 0 0 none 0 0 none 0 0 3 x16 none 0 0 none 0 0 Oc n21 Ma (n21 : Int) 0 y))) : Spec prog 102 #[.pointer q0,.agg #[.int .i64 Dl,.int .i64 Cc,.string Dn,.slice Du Dy Dz,.int .i64 Dm,.int .i64 Dx,.int .i64 DT,.slice EB D0 EC,.bool DU,.int .i64 Cm],.slice p2 n2 c2] σ R := M.start h ok
theorem Ac (h : Br (C6 < Jd) (Pq Oc fun LJ ZF => In C6 (n21 : Int) ∧ ∃ AE6 AE7 AE8 zf zg zh,Au σ LJ (ZF + Int.toNat C6 * 2) [.slice AE6 AE7 AE8,.slice zf zg zh] ∧ ∀ DD : Nat,Pq q0 fun fZ o30 => LI .i64 σ fZ (o30 + 1) fun lB => AG (lB - F5) ∧ AG ((lB - F5) - Ho) ∧ LI .i64 σ fZ (o30 + 1) fun Vh => AG (Vh - F5) ∧ Spec prog 141 #[.slice zf zg zh,(.int .i64 ((lB - F5) - Ho)),(.int .i64 (Vh - F5))] σ (AA R (CS fun iq n46 ff y => Tq R (aD fZ o30) G5 GH Ig GV GX GY Ho F5 Hq Hn Hr Hs Ih Ie Ft Fu HD HE HF Fv Fy Fz Ew Ex En Eo Ep Ev Ey Ez AE6 AE7 AE8 zf zg zh none 0 0 (aD LJ ZF) n21 Ma Jd C6 iq n46 ff (n46 : Int) 0 y))) (R (.returned (.tuple #[.agg #[.int .i64 Ew,.int .u64 Ex,.slice En Eo Ep,.slice Ev Ey Ez],.int .i64 0])) σ)) : BA R q0 G5 GH Ig GV GX GY Ho F5 Hq Hn Hr Hs Ih Ie Ft Fu HD HE HF Fv Fy Fz Ew Ex En Eo Ep Ev Ey Ez Oc n21 Ma Jd C6 σ := M.of3 h ok rfl fun _ _ _ => by kernel_rfl
theorem QP (h : Br (Vo < kQ) (Pq iq fun Vk o50 => In Vo (n46 : Int) ∧ ∃ ALq zi,Au σ Vk (o50 + Int.toNat Vo * 2) [.int .i64 ALq,.int .u64 zi] ∧ ∀ CX : Nat,Br (zi ≠ 9218868437227405314) (Al σ fun b58 => AK prog (Builtin.append_ #[187,187] 187 #[.slice Lx n11 Ly,(.slice (aD b58 0) 1 1)]) (Hp.set σ b58 (.cells #[.int .u64 zi] 48 (0,0))) (CS fun pe n59 pf y => P2 R q0 G5 GH Ig GV GX GY Ho F5 Hq Hn Hr Hs Ih Ie Ft Fu HD HE HF Fv Fy Fz Ew Ex En Eo Ep Ev Ey Ez aQ aR aS lY lZ lf pe n59 pf Oc n21 Ma Jd C6 (aD Vk o50) n46 ff kQ Vo y)) (P2 R q0 G5 GH Ig GV GX GY Ho F5 Hq Hn Hr Hs Ih Ie Ft Fu HD HE HF Fv Fy Fz Ew Ex En Eo Ep Ev Ey Ez aQ aR aS lY lZ lf Lx n11 Ly Oc n21 Ma Jd C6 (aD Vk o50) n46 ff kQ Vo σ)) (Br (0 < (n11 : Int)) (Spec prog 142 #[.slice GV GX GY,.slice aQ aR aS] σ (AA R (CB fun t69 y => Bo t69 (Al y fun b77 => AK prog (Builtin.append_ #[91,91] 91 #[.slice Ev Ey Ez,(.slice (aD b77 0) 1 1)]) (Hp.set y b77 (.cells #[.slice aQ aR aS,.slice Lx n11 Ly] 189 (0,0))) (CS fun qA lD qB AH => Ln R q0 G5 GH Ig GV GX GY Ho F5 Hq Hn Hr Hs Ih Ie Ft Fu HD HE HF Fv Fy Fz Ew Ex En Eo Ep qA lD qB Oc n21 Ma Jd C6 AH)) (Ln R q0 G5 GH Ig GV GX GY Ho F5 Hq Hn Hr Hs Ih Ie Ft Fu HD HE HF Fv Fy Fz Ew Ex En Eo Ep Ev Ey Ez Oc n21 Ma Jd C6 y)))) (Ln R q0 G5 GH Ig GV GX GY Ho F5 Hq Hn Hr Hs Ih Ie Ft Fu HD HE HF Fv Fy Fz Ew Ex En Eo Ep Ev Ey Ez Oc n21 Ma Jd C6 σ))) : Tq R q0 G5 GH Ig GV GX GY Ho F5 Hq Hn Hr Hs Ih Ie Ft Fu HD HE HF Fv Fy Fz Ew Ex En Eo Ep Ev Ey Ez aQ aR aS lY lZ lf Lx n11 Ly Oc n21 Ma Jd C6 iq n46 ff kQ Vo σ := M.of4 h ok rfl fun _ _ _ _ => by kernel_rfl
theorem I5 (h : AG (C6 + 1) ∧ BA R q0 G5 GH Ig GV GX GY Ho F5 Hq Hn Hr Hs Ih Ie Ft Fu HD HE HF Fv Fy Fz Ew Ex En Eo Ep Ev Ey Ez Oc n21 Ma Jd (C6 + 1) σ) : Ln R q0 G5 GH Ig GV GX GY Ho F5 Hq Hn Hr Hs Ih Ie Ft Fu HD HE HF Fv Fy Fz Ew Ex En Eo Ep Ev Ey Ez Oc n21 Ma Jd C6 σ := M.of3 h ok rfl fun _ _ _ => by kernel_rfl
theorem Vr (h : AG (Vo + 1) ∧ Tq R q0 G5 GH Ig GV GX GY Ho F5 Hq Hn Hr Hs Ih Ie Ft Fu HD HE HF Fv Fy Fz Ew Ex En Eo Ep Ev Ey Ez aQ aR aS lY lZ lf Lx n11 Ly Oc n21 Ma Jd C6 iq n46 ff kQ (Vo + 1) σ) : P2 R q0 G5 GH Ig GV GX GY Ho F5 Hq Hn Hr Hs Ih Ie Ft Fu HD HE HF Fv Fy Fz Ew Ex En Eo Ep Ev Ey Ez aQ aR aS lY lZ lf Lx n11 Ly Oc n21 Ma Jd C6 iq n46 ff kQ Vo σ := M.of4 h ok rfl fun _ _ _ _ => by kernel_rfl
end AT
namespace FY
variable {Eu ES Pz NC Hk JM Dl Cc Dm Dx DT Cm x7 x8 : Int} {P0 Dn : ByteArray} {Ua RC Du EB p6 : Option Addr} {To Ub QL RD Dy Dz D0 EC n6 c6 : Nat} {Mb DU : Bool}
def M : Fw := ⟨prog,122,f122,[126],[1],false,[],[],[(104,[(1,.X 36 [.I .i64,.I .i64,.T,.L,.I .i64,.I .i64,.I .i64,.L,.B,.I .i64]),(6,wL),(7,wI),(8,wI)])]⟩
theorem ok : M.Ok := ⟨.cons call126 (AJ.nil),mixed,func122,by kernel_rfl⟩
def MY := M.pt 0
theorem start (h : ∀ b1 : Nat,MY R Eu ES P0 Ua To Ub Pz NC Hk RC QL RD Mb JM RC QL RD (QL : Int) 0 σ) : Spec prog 122 #[.agg #[.int .i64 Eu,.int .i64 ES,.string P0,.slice Ua To Ub,.int .i64 Pz,.int .i64 NC,.int .i64 Hk,.slice RC QL RD,.bool Mb,.int .i64 JM]] σ R := M.start h ok
theorem C3 (h : Br (x8 < x7) (Pq p6 fun DD sC => In x8 (n6 : Int) ∧ LT σ DD (sC + Int.toNat x8 * 1) fun s11 => Spec prog 126 #[.string s11] σ (AA R (CB fun t13 y => Bn t13 (R (.returned (.bool false)) y) (AG (x8 + 1) ∧ MY R Dl Cc Dn Du Dy Dz Dm Dx DT EB D0 EC DU Cm (aD DD sC) n6 c6 x7 (x8 + 1) y)))) (Br ((D0 : Int) = 0) (R (.returned (.bool true)) σ) (R (.returned (.bool (decide (DT ≠ 0)))) σ))) : MY R Dl Cc Dn Du Dy Dz Dm Dx DT EB D0 EC DU Cm p6 n6 c6 x7 x8 σ := M.pb h ok rfl fun _ => by kernel_rfl
end FY
namespace DM
variable {Eu ES Pz NC Hk JM : Int} {P0 : ByteArray} {Ua RC p1 : Option Addr} {To Ub QL RD n1 c1 b2 : Nat} {Mb : Bool}
def M : Fw := ⟨prog,127,f127,[],[3],false,[],[],[]⟩
theorem ok : M.Ok := ⟨AJ.nil,mixed,func127,by kernel_rfl⟩
theorem start (h : ∀ b3 : Nat,LI .i64 σ b2 0 fun x7 => R (.returned (.tuple #[.int .i64 x7,.int .i64 0])) σ) : Spec prog 127 #[.agg #[.int .i64 Eu,.int .i64 ES,.string P0,.slice Ua To Ub,.int .i64 Pz,.int .i64 NC,.int .i64 Hk,.slice RC QL RD,.bool Mb,.int .i64 JM],.slice p1 n1 c1,(.pointer (aD b2 0))] σ R := M.start h ok
end DM
namespace Nc
variable {x0 : Int}
def M : Fw := ⟨prog,144,f144,[174,181,182],[],false,[],[],[]⟩
theorem ok : M.Ok := ⟨.cons call174 (.cons call181 (.cons call182 (AJ.nil))),mixed,func144,by kernel_rfl⟩
theorem start (h : Spec prog 182 #[.int .u64 x0] σ (AA R (fun z y => ∃ x4,(Value.float .f64 x4) = z ∧ Spec prog 181 #[(Value.float .f64 x4)] y (AA R (fun z AH => ∃ x5,(Value.float .f64 x5) = z ∧ Spec prog 174 #[(Value.float .f64 x5)] AH (AA R (CI .u64 fun x6 AL => R (.returned (.int .u64 x6)) AL))))))) : Spec prog 144 #[.int .u64 x0] σ R := M.start h ok
end Nc
namespace FZ
variable {p0 Lx : Option Addr} {n0 c0 n11 Ly : Nat} {x3 x12 FE : Int}
def M : Fw := ⟨prog,151,f151,[186,201],[],false,[],[],[(232,[(3,wU),(11,wL),(12,wI),(13,wI)])]⟩
theorem ok : M.Ok := ⟨.cons call186 (.cons call201 (AJ.nil)),mixed,func151,by kernel_rfl⟩
def BA := M.pt 0
theorem start (h : Pq p0 fun b7 o7 => In 0 (n0 : Int) ∧ LI .u64 σ b7 o7 fun x8 => Spec prog 186 #[.int .u64 x8] σ (AA R (CI .u64 fun x9 y => ((0 : Int) ≤ 1 ∧ 1 ≤ (n0 : Int)) ∧ BA R x9 ((Jg (aD b7 o7) (1) c0 1)) (n0 - 1) (c0 - 1) ((((n0 - 1) : Nat) : Int)) 0 y))) : Spec prog 151 #[.slice p0 n0 c0] σ R := M.start h ok
theorem Ac (h : Br (FE < x12) (Pq Lx fun b15 o15 => In FE (n11 : Int) ∧ LI .u64 σ b15 (o15 + Int.toNat FE * 1) fun x16 => Spec prog 201 #[.int .u64 x3,.int .u64 x16] σ (AA R (CI .u64 fun BS y => AG (FE + 1) ∧ BA R BS (aD b15 o15) n11 Ly x12 (FE + 1) y))) (R (.returned (.int .u64 x3)) σ)) : BA R x3 Lx n11 Ly x12 FE σ := M.of h ok rfl
end FZ
namespace Gt
variable {p0 : Option Addr} {n0 c0 : Nat}
def M : Fw := ⟨prog,152,f152,[202],[],false,[],[],[]⟩
theorem ok : M.Ok := ⟨.cons call202 (AJ.nil),mixed,func152,by kernel_rfl⟩
theorem start (h : Spec prog 202 #[.int .i64 7,.slice p0 n0 c0] σ (AA R (CI .u64 fun x4 y => R (.returned (.int .u64 x4)) y))) : Spec prog 152 #[.slice p0 n0 c0] σ R := M.start h ok
end Gt
namespace PT
variable {Eu ES Pz NC Hk JM x1 x2 : Int} {P0 : ByteArray} {Ua RC : Option Addr} {To Ub QL RD : Nat} {Mb : Bool}
def M : Fw := ⟨prog,156,f156,[203,204,205],[3],false,[],[],[]⟩
theorem ok : M.Ok := ⟨.cons call203 (.cons call204 (.cons call205 (AJ.nil))),mixed,func156,by kernel_rfl⟩
theorem start (h : ∀ b3 : Nat,Spec prog 203 #[.int .i64 ES,.int .u64 x1,.int .u64 x2] σ (AA R (fun z y => ∃ Ve AE9,z = (.tuple #[.int .u64 Ve,.bool AE9]) ∧ Bo AE9 (R (.returned (.tuple #[.int .u64 Ve,.bool true])) y) (Spec prog 204 #[.int .i64 ES,.int .u64 x1,.int .u64 x2] y (AA R (fun z AH => ∃ zj ALu,z = (.tuple #[.bool zj,.bool ALu]) ∧ Spec prog 205 #[.bool zj] AH (AA R (CI .u64 fun x31 AL => R (.returned (.tuple #[.int .u64 x31,.bool zj])) AL)))))))) : Spec prog 156 #[.agg #[.int .i64 Eu,.int .i64 ES,.string P0,.slice Ua To Ub,.int .i64 Pz,.int .i64 NC,.int .i64 Hk,.slice RC QL RD,.bool Mb,.int .i64 JM],.int .u64 x1,.int .u64 x2] σ R := M.start h ok
end PT
namespace Gu
variable {s0 : ByteArray} {x1 : Int}
def M : Fw := ⟨prog,173,f173,[214,215],[],false,[],[],[]⟩
theorem ok : M.Ok := ⟨.cons call214 (.cons call215 (AJ.nil)),mixed,func173,by kernel_rfl⟩
theorem start (h : Spec prog 214 #[.string s0,.int .i64 x1] σ (AA R (fun z y => ∃ fQ fR,z = (.tuple #[fQ,fR]) ∧ ∃ t15,YF prog ((do eqGuard .neq 214 (.tmp 14) (.const .nilIface) fR .nilIface; binOp .neq 214 fR .nilIface)) y (.bool t15) ∧ Bo t15 (Spec prog 215 #[(.string (ByteArray.mk #[80,97,114,115,101,70,108,111,97,116])),.string s0,.int .i64 0,.int .i64 x1,fR] y (AA R (fun z AH => ∃ v20,v20 = z ∧ R (.returned (.tuple #[fQ,v20])) AH))) (R (.returned (.tuple #[fQ,.nilIface])) y)))) : Spec prog 173 #[.string s0,.int .i64 x1] σ R := M.start h ok
end Gu
namespace dG
variable {v0 : Value}
def M : Fw := ⟨prog,174,f174,[216],[],false,[],[],[]⟩
theorem ok : M.Ok := ⟨.cons call216 (AJ.nil),mixed,func174,by kernel_rfl⟩
theorem start (h : Spec prog 216 #[v0] σ (AA R (CB fun t4 y => Bo t4 (R (.returned (.int .u64 9221120237041090560)) y) (EN prog 45 #[v0] y (CI .u64 fun x6 AH => R (.returned (.int .u64 x6)) AH))))) : Spec prog 174 #[v0] σ R := M.FD h ok [(0,.o (.V v0))] rfl rfl (by kernel_rfl)
end dG
namespace A2
variable {p0 : Option Addr} {n0 c0 : Nat} {x1 x8 x9 x10 : Int} {v2 : Value}
def M : Fw := ⟨prog,175,f175,[],[],false,[],[],[(480,[(0,wL),(1,wI),(2,wV),(8,wI),(9,wI),(10,wI)])]⟩
theorem ok : M.Ok := ⟨AJ.nil,mixed,func175,by kernel_rfl⟩
def Ak := M.pt 0
theorem start (h : Ak R p0 n0 c0 x1 v2 (n0 : Int) 0 (n0 : Int) σ) : Spec prog 175 #[.slice p0 n0 c0,.int .i64 x1,v2] σ R := M.FD h ok [(0,.o (.L p0 n0 c0)),(1,.o (.I .i64 x1)),(2,.o (.V v2))] rfl rfl (by kernel_rfl)
theorem AX (h : Br (x9 < x10) (AG (x9 + x10) ∧ Df (IntKind.u64.wrap (x9 + x10)) fun MC => ((0 : Int) ≤ 1 ∧ 1 ≤ ((IntKind.bits .u64 : Nat) : Int)) ∧ Df (MC / 2 ^ Int.toNat 1) fun Jd => Df (IntKind.i64.wrap Jd) fun C6 => Pq p0 fun Wc pg => In C6 (n0 : Int) ∧ ∃ Xg RH,Au σ Wc (pg + Int.toNat C6 * 2) [.int .i64 Xg,.int .u64 RH] ∧ ∃ (f30 : Nat) (vy vz : Array Value),v2 = .func (.func f30) vy vz ∧ Enters prog f30 ∧ Spec prog f30 (vy ++ #[.agg #[.int .i64 Xg,.int .u64 RH],.int .i64 x1] ++ vz) σ (AA R (CI .i64 fun RL y => Br (RL < 0) (AG (C6 + 1) ∧ Ak R (aD Wc pg) n0 c0 x1 v2 x8 (C6 + 1) x10 y) (Ak R (aD Wc pg) n0 c0 x1 v2 x8 x9 C6 y)))) (Br (x9 < x8) (Pq p0 fun cb o43 => In x9 (n0 : Int) ∧ ∃ AFA AFB,Au σ cb (o43 + Int.toNat x9 * 2) [.int .i64 AFA,.int .u64 AFB] ∧ ∃ (f46 : Nat) (v7 wC : Array Value),v2 = .func (.func f46) v7 wC ∧ Enters prog f46 ∧ Spec prog f46 (v7 ++ #[.agg #[.int .i64 AFA,.int .u64 AFB],.int .i64 x1] ++ wC) σ (AA R (CI .i64 fun x46 y => R (.returned (.tuple #[.int .i64 x9,(.bool (decide (x46 = 0)))])) y))) (R (.returned (.tuple #[.int .i64 x9,.bool false])) σ))) : Ak R p0 n0 c0 x1 v2 x8 x9 x10 σ := M.of h ok rfl
end A2
namespace Xo
variable {x0 x1 : Int}
def M : Fw := ⟨prog,190,f190,[203],[],false,[],[],[]⟩
theorem ok : M.Ok := ⟨.cons call203 (AJ.nil),mixed,func190,by kernel_rfl⟩
theorem start (h : Spec prog 203 #[.int .i64 2,.int .u64 x0,.int .u64 x1] σ (AA R (fun z y => ∃ Jr Q8,z = (.tuple #[.int .u64 Jr,.bool Q8]) ∧ R (.returned (.int .u64 Jr)) y))) : Spec prog 190 #[.int .u64 x0,.int .u64 x1] σ R := M.start h ok
end Xo
namespace D2
variable {p0 : Option Addr} {n0 c0 : Nat} {x3 x4 : Int}
def M : Fw := ⟨prog,192,f192,[190,201,204],[],false,[],[],[(464,[(0,wL),(3,wU),(4,wI)]),(467,[(0,wL),(3,wU),(4,wI)])]⟩
theorem ok : M.Ok := ⟨.cons call190 (.cons call201 (.cons call204 (AJ.nil))),mixed,func192,by kernel_rfl⟩
def Ak := M.pt 0
def XO := M.pt 1
theorem start (h : AG ((n0 : Int) - 1) ∧ Pq p0 fun BG iZ => In (((n0 : Int) - 1)) (n0 : Int) ∧ LI .u64 σ BG (iZ + Int.toNat ((n0 : Int) - 1) * 1) fun x12 => In 0 (n0 : Int) ∧ LI .u64 σ BG iZ fun x15 => Spec prog 190 #[.int .u64 x12,.int .u64 x15] σ (AA R (CI .u64 fun x16 y => Ak R (aD BG iZ) n0 c0 x16 1 y))) : Spec prog 192 #[.slice p0 n0 c0] σ R := M.start h ok
theorem AX (h : Br (x4 < (n0 : Int)) (Pq p0 fun Tp ZG => In x4 (n0 : Int) ∧ LI .u64 σ Tp (ZG + Int.toNat x4 * 1) fun Lm => AG (x4 - 1) ∧ In (x4 - 1) (n0 : Int) ∧ LI .u64 σ Tp (ZG + Int.toNat (x4 - 1) * 1) fun lB => Spec prog 204 #[.int .i64 7,.int .u64 Lm,.int .u64 lB] σ (AA R (fun z y => ∃ AFC lC,z = (.tuple #[.bool AFC,.bool lC]) ∧ Bo AFC (AG (x4 - 1) ∧ In (x4 - 1) (n0 : Int) ∧ LI .u64 y Tp (ZG + Int.toNat (x4 - 1) * 1) fun Vh => Spec prog 201 #[.int .u64 x3,.int .u64 Vh] y (AA R (CI .u64 fun ck AH => XO R (aD Tp ZG) n0 c0 ck x4 AH))) (XO R (aD Tp ZG) n0 c0 x3 x4 y)))) (R (.returned (.int .u64 x3)) σ)) : Ak R p0 n0 c0 x3 x4 σ := M.of h ok rfl
theorem QI (h : AG (x4 + 1) ∧ Ak R p0 n0 c0 x3 (x4 + 1) σ) : XO R p0 n0 c0 x3 x4 σ := M.of h ok rfl
end D2
namespace JR
variable {vM ZD : ByteArray} {b1 : Nat}
def M : Fw := ⟨prog,200,f200,[199],[2],false,[],[],[]⟩
theorem ok : M.Ok := ⟨.cons call199 (AJ.nil),mixed,func200,by kernel_rfl⟩
theorem start (h : ∀ b2 : Nat,LS σ b1 0 fun p4 n4 c4 => Spec prog 199 #[.slice p4 n4 c4,.string vM] σ (AA R (CB fun t7 y => R (.returned (.bool (!t7))) y))) : Spec prog 200 #[.agg #[.string vM,.string ZD],(.pointer (aD b1 0))] σ R := M.start h ok
end JR
namespace Fa
variable {s0 : ByteArray} {x3 : Int}
def M : Fw := ⟨prog,213,f213,[],[],false,[],[],[(224,[(0,wT),(3,wI)])]⟩
theorem ok : M.Ok := ⟨AJ.nil,mixed,func213,by kernel_rfl⟩
def F3 := M.pt 0
theorem start (h : F3 R s0 0 σ) : Spec prog 213 #[.string s0] σ R := M.start h ok
theorem As (h : Br (x3 < ((ByteArray.size s0 : Nat) : Int)) (∃ u11 : UInt8,0 ≤ x3 ∧ (ByteArray.data s0)[Int.toNat x3]? = some u11 ∧ Br ((48 : Int) ≤ ((UInt8.toNat u11 : Nat) : Int)) (∃ u17 : UInt8,0 ≤ x3 ∧ (ByteArray.data s0)[Int.toNat x3]? = some u17 ∧ Br ((((UInt8.toNat u17 : Nat) : Int) : Int) ≤ 57) (AG (x3 + 1) ∧ F3 R s0 (x3 + 1) σ) (R (.returned (.int .i64 x3)) σ)) (R (.returned (.int .i64 x3)) σ)) (R (.returned (.int .i64 x3)) σ)) : F3 R s0 x3 σ := M.of h ok rfl
end Fa
namespace Dp
variable {PL : Option Addr} {JV OC : Nat} {ZD s1 : ByteArray}
def M : Fw := ⟨prog,220,f220,[236],[2],false,[],[],[]⟩
theorem ok : M.Ok := ⟨.cons call236 (AJ.nil),mixed,func220,by kernel_rfl⟩
theorem start (h : ∀ b2 : Nat,Spec prog 236 #[.agg #[.slice PL JV OC],.string s1] σ (AA R (CB fun t8 y => R (.returned (.bool (!t8))) y))) : Spec prog 220 #[.agg #[.slice PL JV OC,.string ZD],.string s1] σ R := M.start h ok
end Dp
namespace IB
variable {p0 p5 : Option Addr} {n0 c0 n5 c5 : Nat} {x1 x7 : Int} {v6 : Value}
def M : Fw := ⟨prog,241,f241,[182,263],[],false,[],[],[(444,[(0,wL),(1,wI),(5,wL),(6,wV),(7,wI)])]⟩
theorem ok : M.Ok := ⟨.cons call182 (.cons call263 (AJ.nil)),mixed,func241,by kernel_rfl⟩
def P3 := M.pt 0
theorem start (h : Spec prog 263 #[] σ (AA R (CS fun QM n10 NH y => P3 R p0 n0 c0 x1 QM n10 NH (.complex .f64 0 0) 0 y))) : Spec prog 241 #[.slice p0 n0 c0,.int .i64 x1] σ R := M.start h ok
theorem NZ (h : Br (x7 = (n0 : Int)) (R (.returned v6) σ) (Pq p0 fun Uc aH => In x7 (n0 : Int) ∧ LI .u64 σ Uc (aH + Int.toNat x7 * 1) fun BS => AG (x1 * x7) ∧ (n0 : Int) ≠ (0 : Int) ∧ Df (Int.tmod (x1 * x7) (n0 : Int)) fun Lm => (n0 : Int) ≠ (0 : Int) ∧ Df (IntKind.i64.wrap (Int.tdiv 8 (n0 : Int))) fun RL => AG (Lm * RL) ∧ Pq p5 fun b32 o32 => In (Lm * RL) (n5 : Int) ∧ ∃ aT y33,Hp.ld σ ⟨b32,(o32 + Int.toNat (Lm * RL) * 1),none⟩ = some (Value.complex .f64 aT y33) ∧ Spec prog 182 #[.int .u64 BS] σ (AA R (fun z y => ∃ Hf,(Value.float .f64 Hf) = z ∧ Kp [b32] σ y ∧ ∃ PQ,YF prog (Builtin.real_ #[272] 51 #[v6]) y (Value.float .f64 PQ) ∧ ∃ vR,YF prog (Builtin.real_ #[272] 51 #[(Value.complex .f64 aT y33)]) y (Value.float .f64 vR) ∧ AK prog (binOp .mul 51 (Value.float .f64 Hf) (Value.float .f64 vR)) y (fun z AH => ∃ x39,(Value.float .f64 x39) = z ∧ AK prog (binOp .add 51 (Value.float .f64 PQ) (Value.float .f64 x39)) AH (fun z AL => ∃ pw,(Value.float .f64 pw) = z ∧ ∃ Vh,YF prog (Builtin.imag_ #[272] 51 #[v6]) AL (Value.float .f64 Vh) ∧ ∃ Y9,YF prog (Builtin.imag_ #[272] 51 #[(Value.complex .f64 aT y33)]) AL (Value.float .f64 Y9) ∧ AK prog (binOp .mul 51 (Value.float .f64 Hf) (Value.float .f64 Y9)) AL (fun z Av => ∃ x46,(Value.float .f64 x46) = z ∧ AK prog (binOp .add 51 (Value.float .f64 Vh) (Value.float .f64 x46)) Av (fun z Hl => ∃ kQ,(Value.float .f64 kQ) = z ∧ ∃ Vo y48,YF prog (Builtin.complex_ #[51,51] 272 #[(Value.float .f64 pw),(Value.float .f64 kQ)]) Hl (Value.complex .f64 Vo y48) ∧ AG (x7 + 1) ∧ P3 R (aD Uc aH) n0 c0 x1 (aD b32 o32) n5 c5 (Value.complex .f64 Vo y48) (x7 + 1) Hl)))))))) : P3 R p0 n0 c0 x1 p5 n5 c5 v6 x7 σ := M.of h ok rfl
end IB
namespace strings_Index
variable {s0 s1 : ByteArray}
end strings_Index
namespace AE
variable {s0 : ByteArray} {x2 x3 x7 x10 x11 x12 x15 x16 x17 BS Hf : Int} {t4 t5 t6 t8 t9 t13 t14 : Bool}
def M : Fw := ⟨prog,272,f272,[302,303],[],false,[],[],[(110,[(0,wT),(2,wU),(3,wI),(4,wB),(5,wB),(6,wB),(7,wI),(8,wB),(9,wB)]),(1790,[(0,wT),(2,wU),(3,wI),(4,wB),(5,wB),(6,wB),(7,wI),(8,wB),(9,wB),(10,wU),(11,wI),(12,w8)]),(1834976,[(0,wT),(2,wU),(3,wI),(4,wB),(5,wB),(6,wB),(7,wI),(8,wB),(9,wB),(10,wU),(11,wI),(12,w8),(13,wB),(14,wB),(15,wI),(16,wI),(17,wI)]),(458748,[(0,wT),(2,wU),(3,wI),(4,wB),(5,wB),(6,wB),(7,wI),(8,wB),(9,wB),(10,wU),(12,w8),(13,wB),(14,wB),(15,wI),(16,wI),(17,wI)]),(1835004,[(0,wT),(2,wU),(3,wI),(4,wB),(5,wB),(6,wB),(7,wI),(8,wB),(9,wB),(10,wU),(12,w8),(16,wI),(17,wI)]),(3670012,[(0,wT),(2,wU),(3,wI),(4,wB),(5,wB),(6,wB),(7,wI),(8,wB),(9,wB),(10,wU),(12,w8),(16,wI),(17,wI)]),(7340028,[(0,wT),(2,wU),(3,wI),(4,wB),(5,wB),(6,wB),(7,wI),(8,wB),(9,wB),(16,wI),(17,wI)]),(14680060,[(0,wT),(2,wU),(3,wI),(4,wB),(5,wB),(6,wB),(7,wI),(8,wB),(9,wB)]),(469761724,[(0,wT),(2,wU),(3,wI),(4,wB),(5,wB),(6,wB),(7,wI),(8,wB),(9,wB),(16,wI),(17,wI),(19,wI)]),(15032375264,[(0,wT),(2,wU),(3,wI),(4,wB),(5,wB),(6,wB),(7,wI),(8,wB),(9,wB),(16,wI),(17,wI),(19,wI),(20,wI)]),(15032375267,[(0,wT),(2,wU),(3,wI),(4,wB),(5,wB),(6,wB),(7,wI),(8,wB),(9,wB),(16,wI),(17,wI),(19,wI),(20,wI)]),(1834979,[(0,wT),(2,wU),(3,wI),(4,wB),(5,wB),(6,wB),(7,wI),(8,wB),(9,wB),(10,wU),(11,wI),(12,w8),(13,wB),(14,wB),(15,wI),(16,wI),(17,wI)])]⟩
theorem ok : M.Ok := ⟨.cons call302 (.cons call303 (AJ.nil)),mixed,func272,by kernel_rfl⟩
def Tq := M.pt 0
def Ln := M.pt 1
def lg := M.pt 2
def Nf := M.pt 3
def dH := M.pt 4
def lh := M.pt 5
def lj := M.pt 6
def lk := M.pt 7
def ll := M.pt 8
def Fb := M.pt 11
theorem start (h : Br ((((ByteArray.size s0 : Nat) : Int) : Int) ≤ 0) (R (.returned (.tuple #[.int .u64 0,.int .i64 0,.bool false,.bool false,.bool false,.int .i64 0,.bool false])) σ) (∃ u27 : UInt8,(0 : Int) ≤ 0 ∧ (ByteArray.data s0)[Int.toNat 0]? = some u27 ∧ Br ((((UInt8.toNat u27 : Nat) : Int) : Int) = 43) (AG (0 + 1) ∧ Tq R s0 0 0 false false false (0 + 1) false false σ) (Br ((((UInt8.toNat u27 : Nat) : Int) : Int) = 45) (AG (0 + 1) ∧ Tq R s0 0 0 true false false (0 + 1) false false σ) (Tq R s0 0 0 false false false 0 false false σ)))) : Spec prog 272 #[.string s0] σ R := M.start h ok
theorem QP (h : AG (x7 + 2) ∧ Br (((x7 + 2) : Int) < ((ByteArray.size s0 : Nat) : Int)) (∃ u44 : UInt8,0 ≤ x7 ∧ (ByteArray.data s0)[Int.toNat x7]? = some u44 ∧ Br ((((UInt8.toNat u44 : Nat) : Int) : Int) = 48) (AG (x7 + 1) ∧ ∃ u51 : UInt8,(0 : Int) ≤ (x7 + 1) ∧ (ByteArray.data s0)[Int.toNat (x7 + 1)]? = some u51 ∧ Spec prog 302 #[(.int .u8 ((UInt8.toNat u51 : Nat) : Int))] σ (AA R (CI .u8 fun ra y => Br (ra = 120) (AG (x7 + 2) ∧ Ln R s0 x2 x3 t4 t5 true (x7 + 2) t8 t9 16 16 112 y) (Ln R s0 x2 x3 t4 t5 t6 x7 t8 t9 10 19 101 y)))) (Ln R s0 x2 x3 t4 t5 t6 x7 t8 t9 10 19 101 σ)) (Ln R s0 x2 x3 t4 t5 t6 x7 t8 t9 10 19 101 σ)) : Tq R s0 x2 x3 t4 t5 t6 x7 t8 t9 σ := M.of h ok rfl
theorem I5 (h : lg R s0 x2 x3 t4 t5 t6 x7 t8 t9 x10 x11 x12 false false 0 0 0 σ) : Ln R s0 x2 x3 t4 t5 t6 x7 t8 t9 x10 x11 x12 σ := M.of h ok rfl
theorem dI (h : Br (x7 < ((ByteArray.size s0 : Nat) : Int)) (∃ ZH : UInt8,0 ≤ x7 ∧ (ByteArray.data s0)[Int.toNat x7]? = some ZH ∧ Br ((((UInt8.toNat ZH : Nat) : Int) : Int) = 95) (Fb R s0 x2 x3 t4 t5 t6 x7 t8 true x10 x11 x12 t13 t14 x15 x16 x17 σ) (Br ((((UInt8.toNat ZH : Nat) : Int) : Int) = 46) (Bo t13 (Nf R s0 x2 x3 t4 t5 t6 x7 t8 t9 x10 x12 true t14 x15 x16 x17 σ) (Fb R s0 x2 x3 t4 t5 t6 x7 t8 t9 x10 x11 x12 true t14 x15 x16 x15 σ)) (Br ((48 : Int) ≤ ((UInt8.toNat ZH : Nat) : Int)) (Br ((((UInt8.toNat ZH : Nat) : Int) : Int) ≤ 57) (Br ((((UInt8.toNat ZH : Nat) : Int) : Int) = 48) (Br (x15 = 0) (AG (x17 - 1) ∧ Fb R s0 x2 x3 t4 t5 t6 x7 t8 t9 x10 x11 x12 t13 true x15 x16 (x17 - 1) σ) (AG (x15 + 1) ∧ Br (x16 < x11) (Df (IntKind.u64.wrap (x2 * x10)) fun x99 => Df (IntKind.u8.wrap (((UInt8.toNat ZH : Nat) : Int) - 48)) fun fh => Df (IntKind.u64.wrap fh) fun fi => Df (IntKind.u64.wrap (x99 + fi)) fun aU => AG (x16 + 1) ∧ Fb R s0 aU x3 t4 t5 t6 x7 t8 t9 x10 x11 x12 t13 true (x15 + 1) (x16 + 1) x17 σ) (Br ((((UInt8.toNat ZH : Nat) : Int) : Int) ≠ 48) (Fb R s0 x2 x3 t4 true t6 x7 t8 t9 x10 x11 x12 t13 true (x15 + 1) x16 x17 σ) (Fb R s0 x2 x3 t4 t5 t6 x7 t8 t9 x10 x11 x12 t13 true (x15 + 1) x16 x17 σ)))) (AG (x15 + 1) ∧ Br (x16 < x11) (Df (IntKind.u64.wrap (x2 * x10)) fun x99 => Df (IntKind.u8.wrap (((UInt8.toNat ZH : Nat) : Int) - 48)) fun fh => Df (IntKind.u64.wrap fh) fun fi => Df (IntKind.u64.wrap (x99 + fi)) fun aU => AG (x16 + 1) ∧ Fb R s0 aU x3 t4 t5 t6 x7 t8 t9 x10 x11 x12 t13 true (x15 + 1) (x16 + 1) x17 σ) (Br ((((UInt8.toNat ZH : Nat) : Int) : Int) ≠ 48) (Fb R s0 x2 x3 t4 true t6 x7 t8 t9 x10 x11 x12 t13 true (x15 + 1) x16 x17 σ) (Fb R s0 x2 x3 t4 t5 t6 x7 t8 t9 x10 x11 x12 t13 true (x15 + 1) x16 x17 σ)))) (Br (x10 = 16) (Spec prog 302 #[(.int .u8 ((UInt8.toNat ZH : Nat) : Int))] σ (AA R (CI .u8 fun zk y => Br (97 ≤ zk) (Spec prog 302 #[(.int .u8 ((UInt8.toNat ZH : Nat) : Int))] y (AA R (CI .u8 fun zl AH => Br (zl ≤ 102) (AG (x15 + 1) ∧ Br (x16 < x11) (Df (IntKind.u64.wrap (x2 * 16)) fun zm => Spec prog 302 #[(.int .u8 ((UInt8.toNat ZH : Nat) : Int))] AH (AA R (CI .u8 fun zn AL => Df (IntKind.u8.wrap (zn - 97)) fun zo => Df (IntKind.u8.wrap (zo + 10)) fun zp => Df (IntKind.u64.wrap zp) fun zq => Df (IntKind.u64.wrap (zm + zq)) fun zr => AG (x16 + 1) ∧ Fb R s0 zr x3 t4 t5 t6 x7 t8 t9 x10 x11 x12 t13 true (x15 + 1) (x16 + 1) x17 AL))) (Fb R s0 x2 x3 t4 true t6 x7 t8 t9 x10 x11 x12 t13 true (x15 + 1) x16 x17 AH)) (Nf R s0 x2 x3 t4 t5 t6 x7 t8 t9 x10 x12 t13 t14 x15 x16 x17 AH)))) (Nf R s0 x2 x3 t4 t5 t6 x7 t8 t9 x10 x12 t13 t14 x15 x16 x17 y)))) (Nf R s0 x2 x3 t4 t5 t6 x7 t8 t9 x10 x12 t13 t14 x15 x16 x17 σ))) (Br (x10 = 16) (Spec prog 302 #[(.int .u8 ((UInt8.toNat ZH : Nat) : Int))] σ (AA R (CI .u8 fun zk y => Br (97 ≤ zk) (Spec prog 302 #[(.int .u8 ((UInt8.toNat ZH : Nat) : Int))] y (AA R (CI .u8 fun zl AH => Br (zl ≤ 102) (AG (x15 + 1) ∧ Br (x16 < x11) (Df (IntKind.u64.wrap (x2 * 16)) fun zm => Spec prog 302 #[(.int .u8 ((UInt8.toNat ZH : Nat) : Int))] AH (AA R (CI .u8 fun zn AL => Df (IntKind.u8.wrap (zn - 97)) fun zo => Df (IntKind.u8.wrap (zo + 10)) fun zp => Df (IntKind.u64.wrap zp) fun zq => Df (IntKind.u64.wrap (zm + zq)) fun zr => AG (x16 + 1) ∧ Fb R s0 zr x3 t4 t5 t6 x7 t8 t9 x10 x11 x12 t13 true (x15 + 1) (x16 + 1) x17 AL))) (Fb R s0 x2 x3 t4 true t6 x7 t8 t9 x10 x11 x12 t13 true (x15 + 1) x16 x17 AH)) (Nf R s0 x2 x3 t4 t5 t6 x7 t8 t9 x10 x12 t13 t14 x15 x16 x17 AH)))) (Nf R s0 x2 x3 t4 t5 t6 x7 t8 t9 x10 x12 t13 t14 x15 x16 x17 y)))) (Nf R s0 x2 x3 t4 t5 t6 x7 t8 t9 x10 x12 t13 t14 x15 x16 x17 σ))))) (Nf R s0 x2 x3 t4 t5 t6 x7 t8 t9 x10 x12 t13 t14 x15 x16 x17 σ)) : lg R s0 x2 x3 t4 t5 t6 x7 t8 t9 x10 x11 x12 t13 t14 x15 x16 x17 σ := M.of h ok rfl
theorem lq (h : Bn t14 (R (.returned (.tuple #[.int .u64 x2,.int .i64 x3,.bool t4,.bool t5,.bool t6,.int .i64 x7,.bool t8])) σ) (Bn t13 (dH R s0 x2 x3 t4 t5 t6 x7 t8 t9 x10 x12 x16 x15 σ) (dH R s0 x2 x3 t4 t5 t6 x7 t8 t9 x10 x12 x16 x17 σ))) : Nf R s0 x2 x3 t4 t5 t6 x7 t8 t9 x10 x12 t13 t14 x15 x16 x17 σ := M.of h ok rfl
theorem lr (h : Br (x10 = 16) (AG (x17 * 4) ∧ AG (x16 * 4) ∧ lh R s0 x2 x3 t4 t5 t6 x7 t8 t9 x10 x12 (x16 * 4) (x17 * 4) σ) (lh R s0 x2 x3 t4 t5 t6 x7 t8 t9 x10 x12 x16 x17 σ)) : dH R s0 x2 x3 t4 t5 t6 x7 t8 t9 x10 x12 x16 x17 σ := M.of h ok rfl
theorem lu (h : Br (x7 < ((ByteArray.size s0 : Nat) : Int)) (∃ AFD : UInt8,0 ≤ x7 ∧ (ByteArray.data s0)[Int.toNat x7]? = some AFD ∧ Spec prog 302 #[(.int .u8 ((UInt8.toNat AFD : Nat) : Int))] σ (AA R (CI .u8 fun ALy y => Br (ALy = x12) (AG (x7 + 1) ∧ Br ((((ByteArray.size s0 : Nat) : Int) : Int) ≤ (x7 + 1)) (R (.returned (.tuple #[.int .u64 x2,.int .i64 x3,.bool t4,.bool t5,.bool t6,(.int .i64 (x7 + 1)),.bool t8])) y) (∃ zt : UInt8,(0 : Int) ≤ (x7 + 1) ∧ (ByteArray.data s0)[Int.toNat (x7 + 1)]? = some zt ∧ Br ((((UInt8.toNat zt : Nat) : Int) : Int) = 43) (AG ((x7 + 1) + 1) ∧ ll R s0 x2 x3 t4 t5 t6 (((x7 + 1) + 1)) t8 t9 x16 x17 1 y) (Br ((((UInt8.toNat zt : Nat) : Int) : Int) = 45) (AG ((x7 + 1) + 1) ∧ ll R s0 x2 x3 t4 t5 t6 (((x7 + 1) + 1)) t8 t9 x16 x17 (-1) y) (ll R s0 x2 x3 t4 t5 t6 (x7 + 1) t8 t9 x16 x17 1 y)))) (Br (x10 = 16) (R (.returned (.tuple #[.int .u64 x2,.int .i64 x3,.bool t4,.bool t5,.bool t6,.int .i64 x7,.bool t8])) y) (lj R s0 x2 x3 t4 t5 t6 x7 t8 t9 x16 x17 y))))) (Br (x10 = 16) (R (.returned (.tuple #[.int .u64 x2,.int .i64 x3,.bool t4,.bool t5,.bool t6,.int .i64 x7,.bool t8])) σ) (lj R s0 x2 x3 t4 t5 t6 x7 t8 t9 x16 x17 σ))) : lh R s0 x2 x3 t4 t5 t6 x7 t8 t9 x10 x12 x16 x17 σ := M.of h ok rfl
theorem lv (h : Br (x2 ≠ 0) (AG (x17 - x16) ∧ lk R s0 x2 (x17 - x16) t4 t5 t6 x7 t8 t9 σ) (lk R s0 x2 x3 t4 t5 t6 x7 t8 t9 σ)) : lj R s0 x2 x3 t4 t5 t6 x7 t8 t9 x16 x17 σ := M.of h ok rfl
theorem Xp (h : Bo t9 (∃ AFE,YF prog (Instr.sliceAt 9 (.string s0) none (some (.int .i64 x7)) none) σ (.string AFE) ∧ Spec prog 303 #[.string AFE] σ (AA R (CB fun t250 y => Bn t250 (R (.returned (.tuple #[.int .u64 x2,.int .i64 x3,.bool t4,.bool t5,.bool t6,.int .i64 x7,.bool t8])) y) (R (.returned (.tuple #[.int .u64 x2,.int .i64 x3,.bool t4,.bool t5,.bool t6,.int .i64 x7,.bool true])) y)))) (R (.returned (.tuple #[.int .u64 x2,.int .i64 x3,.bool t4,.bool t5,.bool t6,.int .i64 x7,.bool true])) σ)) : lk R s0 x2 x3 t4 t5 t6 x7 t8 t9 σ := M.of h ok rfl
theorem lz (h : AG (x7 + 1) ∧ lg R s0 x2 x3 t4 t5 t6 (x7 + 1) t8 t9 x10 x11 x12 t13 t14 x15 x16 x17 σ) : Fb R s0 x2 x3 t4 t5 t6 x7 t8 t9 x10 x11 x12 t13 t14 x15 x16 x17 σ := M.of h ok rfl
end AE
end TwW
end
end
section
set_option maxRecDepth 100000
noncomputable section
namespace TwW
open Go Tw Go.Proofs.Tryz
variable [Er] {R : Rr} {σ : Hp}

namespace AI
variable {p0 p1 p3 p9 H9 EA Em : Option Addr} {n0 c0 n1 c1 n3 c3 n9 c9 n13 Ic n15 Dt n16 ER : Nat} {x2 Hm x17 BS MC Ib : Int} {t20 : Bool}
def M : Fw := ⟨prog,3,f3,[11,12,13,14,15,16,17,18],[],false,[],[],[(8144,[(0,wL),(1,wL),(2,wI),(3,wL),(9,wL),(13,wL),(14,wI),(15,wL),(16,wL),(17,wI)]),(16336,[(0,wL),(1,wL),(2,wI),(3,wL),(9,wL),(13,wL),(14,wI),(15,wL),(16,wL),(19,wI)]),(4182608,[(0,wL),(1,wL),(2,wI),(3,wL),(9,wL),(13,wL),(14,wI),(15,wL),(16,wL),(19,wI),(20,wB),(21,wI)]),(16339,[(0,wL),(1,wL),(2,wI),(3,wL),(9,wL),(13,wL),(14,wI),(15,wL),(16,wL),(19,wI)]),(521360,[(0,wL),(1,wL),(2,wI),(3,wL),(9,wL),(13,wL),(14,wI),(15,wL),(16,wL),(17,wI),(18,wI)]),(8147,[(0,wL),(1,wL),(2,wI),(3,wL),(9,wL),(13,wL),(14,wI),(15,wL),(16,wL),(17,wI)])]⟩
theorem ok : M.Ok := ⟨.cons call11 (.cons call12 (.cons call13 (.cons call14 (.cons call15 (.cons call16 (.cons call17 (.cons call18 (AJ.nil)))))))),mixed,func3,by kernel_rfl⟩
def sD := M.pt 0
def aV := M.pt 1
def Xq := M.pt 2
def sE := M.pt 3
def Fs := M.pt 4
def Hg := M.pt 5
theorem start (h : Spec prog 12 #[.slice p0 n0 c0] σ (AA R (CS fun p30 n30 c30 y => Spec prog 13 #[.slice p1 n1 c1] y (AA R (CS fun p32 n32 c32 AH => Spec prog 11 #[.slice p30 n30 c30,.slice p32 n32 c32,.int .i64 x2] AH (AA R (fun z AL => ∃ lE fa ri lF,z = (.tuple #[.slice lE fa ri,.int .i64 lF]) ∧ Br (lF ≠ 0) (Spec prog 14 #[] AL (AA R (CB fun t43 Av => R (.returned (.bool t43)) Av))) (Br (x2 < (-1095216660480)) (Spec prog 14 #[] AL (AA R (CB fun t43 Av => R (.returned (.bool t43)) Av))) (Spec prog 12 #[.slice p0 n0 c0] AL (AA R (CS fun iq n46 ff Av => Spec prog 15 #[.slice iq n46 ff] Av (AA R (fun z Hl => ∃ sF Og,z = (.tuple #[.int .i64 sF,.int .i64 Og]) ∧ Spec prog 12 #[.slice p0 n0 c0] Hl (AA R (CS fun p52 n52 c52 Mc => AG (x2 - sF) ∧ AG ((x2 - sF) + 1) ∧ Spec prog 16 #[.slice p1 n1 c1,.slice none 0 0,(.int .i64 ((x2 - sF) + 1)),.int .i64 x2] Mc (AA R (CS fun pe n59 pf ZB => Spec prog 11 #[.slice p52 n52 c52,.slice pe n59 pf,.int .i64 x2] ZB (AA R (fun z ZC => ∃ Q4 M9 Q5 Lg,z = (.tuple #[.slice Q4 M9 Q5,.int .i64 Lg]) ∧ sD R p0 n0 c0 p1 n1 c1 x2 p3 n3 c3 lE fa ri Q4 M9 Q5 Lg none 0 0 none 0 0 0 ZC))))))))))))))))))) : Spec prog 3 #[.slice p0 n0 c0,.slice p1 n1 c1,.int .i64 x2,.slice p3 n3 c3] σ R := M.start h ok
theorem dJ (h : Br (x17 < (n1 : Int)) (Fs R p0 n0 c0 p1 n1 c1 x2 p3 n3 c3 p9 n9 c9 H9 n13 Ic Hm EA n15 Dt Em n16 ER x17 0 σ) (aV R p0 n0 c0 p1 n1 c1 x2 p3 n3 c3 p9 n9 c9 H9 n13 Ic Hm EA n15 Dt Em n16 ER 0 σ)) : sD R p0 n0 c0 p1 n1 c1 x2 p3 n3 c3 p9 n9 c9 H9 n13 Ic Hm EA n15 Dt Em n16 ER x17 σ := M.of h ok rfl
theorem dK (h : Br (BS < (n3 : Int)) (Xq R p0 n0 c0 p1 n1 c1 x2 p3 n3 c3 p9 n9 c9 H9 n13 Ic Hm EA n15 Dt Em n16 ER BS false 0 σ) (Spec prog 12 #[.slice p0 n0 c0] σ (AA R (CS fun AL1 n167 AL2 y => Spec prog 13 #[.slice EA n15 Dt] y (AA R (CS fun AL3 n169 AL4 AH => Spec prog 11 #[.slice AL1 n167 AL2,.slice AL3 n169 AL4,.int .i64 x2] AH (AA R (fun z AL => ∃ l5 l6 l8 mA,z = (.tuple #[.slice l5 l6 l8,.int .i64 mA]) ∧ Al AL fun AFF => Spec prog 17 #[(.slice (aD AFF 0) 2 2)] (Hp.set AL AFF (.cells #[.slice p1 n1 c1,.slice Em n16 ER] 23 (0,0))) (AA R (fun z Av => ∃ wD wE wF wG,z = (.tuple #[.slice wD wE wF,.int .i64 wG]) ∧ Br (wG ≠ 0) (Br (Hm = 0) (Br (mA = 0) (Spec prog 18 #[.slice H9 n13 Ic,.slice p9 n9 c9] Av (AA R (CB fun t192 Hl => Bo t192 (Spec prog 18 #[.slice l5 l6 l8,.slice p9 n9 c9] Hl (AA R (CB fun t197 Mc => Bo t197 (Spec prog 14 #[] Mc (AA R (CB fun t200 ZB => R (.returned (.bool t200)) ZB))) (R (.returned (.bool false)) Mc)))) (R (.returned (.bool false)) Hl)))) (R (.returned (.bool false)) Av)) (R (.returned (.bool false)) Av)) (Spec prog 12 #[.slice p0 n0 c0] Av (AA R (CS fun AL5 n204 AL6 Hl => Spec prog 11 #[.slice AL5 n204 AL6,.slice wD wE wF,.int .i64 x2] Hl (AA R (fun z Mc => ∃ wH wJ wK wN,z = (.tuple #[.slice wH wJ wK,.int .i64 wN]) ∧ Br (Hm = 0) (Br (mA = 0) (Br (wN = 0) (Spec prog 18 #[.slice H9 n13 Ic,.slice p9 n9 c9] Mc (AA R (CB fun t223 ZB => Bo t223 (Spec prog 18 #[.slice l5 l6 l8,.slice p9 n9 c9] ZB (AA R (CB fun t228 ZC => Bo t228 (Spec prog 18 #[.slice wH wJ wK,.slice p9 n9 c9] ZC (AA R (CB fun t233 y_9 => Bo t233 (Spec prog 14 #[] y_9 (AA R (CB fun t236 fW => R (.returned (.bool t236)) fW))) (R (.returned (.bool false)) y_9)))) (R (.returned (.bool false)) ZC)))) (R (.returned (.bool false)) ZB)))) (R (.returned (.bool false)) Mc)) (R (.returned (.bool false)) Mc)) (R (.returned (.bool false)) Mc)))))))))))))))) : aV R p0 n0 c0 p1 n1 c1 x2 p3 n3 c3 p9 n9 c9 H9 n13 Ic Hm EA n15 Dt Em n16 ER BS σ := M.of h ok rfl
theorem dL (h : Br (MC < (n0 : Int)) (Bo t20 (AG (MC + 1) ∧ Xq R p0 n0 c0 p1 n1 c1 x2 p3 n3 c3 p9 n9 c9 H9 n13 Ic Hm EA n15 Dt Em n16 ER BS true (MC + 1) σ) (Pq p0 fun aW aX => In MC (n0 : Int) ∧ LI .i64 σ aW (aX + Int.toNat MC * 10) fun AL7 => Br (AL7 = 2) (AG (BS + 1) ∧ (0 ≤ BS ∧ BS ≤ (BS + 1) ∧ (BS + 1) ≤ (c3 : Int)) ∧ In MC (n0 : Int) ∧ LS σ aW ((aX + Int.toNat MC * 10) + 3) fun zu n150 zv => Spec prog 16 #[(.slice (Jg p3 (Int.toNat BS) c3 2) (Int.toNat (BS + 1) - Int.toNat BS) (c3 - Int.toNat BS)),.slice zu n150 zv,(.int .i64 (-9223372036854775808)),.int .i64 9223372036854775807] σ (AA R (CS fun AL8 n151 AL9 y => AG (MC + 1) ∧ Xq R (aD aW aX) n0 c0 p1 n1 c1 x2 p3 n3 c3 p9 n9 c9 H9 n13 Ic Hm EA n15 Dt Em n16 ER BS ((decide (0 < (n151 : Int)))) (MC + 1) y))) (In MC (n0 : Int) ∧ LI .i64 σ aW (aX + Int.toNat MC * 10) fun AMA => Br (AMA = 3) (AG (BS + 1) ∧ (0 ≤ BS ∧ BS ≤ (BS + 1) ∧ (BS + 1) ≤ (c3 : Int)) ∧ In MC (n0 : Int) ∧ LS σ aW ((aX + Int.toNat MC * 10) + 3) fun zu n150 zv => Spec prog 16 #[(.slice (Jg p3 (Int.toNat BS) c3 2) (Int.toNat (BS + 1) - Int.toNat BS) (c3 - Int.toNat BS)),.slice zu n150 zv,(.int .i64 (-9223372036854775808)),.int .i64 9223372036854775807] σ (AA R (CS fun AL8 n151 AL9 y => AG (MC + 1) ∧ Xq R (aD aW aX) n0 c0 p1 n1 c1 x2 p3 n3 c3 p9 n9 c9 H9 n13 Ic Hm EA n15 Dt Em n16 ER BS ((decide (0 < (n151 : Int)))) (MC + 1) y))) (AG (MC + 1) ∧ Xq R (aD aW aX) n0 c0 p1 n1 c1 x2 p3 n3 c3 p9 n9 c9 H9 n13 Ic Hm EA n15 Dt Em n16 ER BS false (MC + 1) σ)))) (Bn t20 (Pq p3 fun AFG AFH => In BS (n3 : Int) ∧ ∃ wO wP wR wS wX wY,Au σ AFG (AFH + Int.toNat BS * 2) [.slice wO wP wR,.slice wS wX wY] ∧ Al σ fun zw => AK prog (Builtin.append_ #[23,23] 23 #[.slice Em n16 ER,(.slice (aD zw 0) 1 1)]) (Hp.set σ zw (.cells #[.slice wO wP wR,.slice wS wX wY] 40 (0,0))) (CS fun AMB n164 AMC y => sE R p0 n0 c0 p1 n1 c1 x2 (aD AFG AFH) n3 c3 p9 n9 c9 H9 n13 Ic Hm EA n15 Dt AMB n164 AMC BS y)) (sE R p0 n0 c0 p1 n1 c1 x2 p3 n3 c3 p9 n9 c9 H9 n13 Ic Hm EA n15 Dt Em n16 ER BS σ))) : Xq R p0 n0 c0 p1 n1 c1 x2 p3 n3 c3 p9 n9 c9 H9 n13 Ic Hm EA n15 Dt Em n16 ER BS t20 MC σ := M.of h ok rfl
theorem sG (h : AG (BS + 1) ∧ aV R p0 n0 c0 p1 n1 c1 x2 p3 n3 c3 p9 n9 c9 H9 n13 Ic Hm EA n15 Dt Em n16 ER (BS + 1) σ) : sE R p0 n0 c0 p1 n1 c1 x2 p3 n3 c3 p9 n9 c9 H9 n13 Ic Hm EA n15 Dt Em n16 ER BS σ := M.of h ok rfl
theorem GF (h : Br (Ib < (n0 : Int)) (Pq p0 fun sH sI => In Ib (n0 : Int) ∧ LI .i64 σ sH (sI + Int.toNat Ib * 10) fun x80 => Br (x80 = 2) (AG (x17 + 1) ∧ (0 ≤ x17 ∧ x17 ≤ (x17 + 1) ∧ (x17 + 1) ≤ (c1 : Int)) ∧ In Ib (n0 : Int) ∧ LS σ sH ((sI + Int.toNat Ib * 10) + 3) fun XN n100 Z8 => Spec prog 16 #[(.slice (Jg p1 (Int.toNat x17) c1 2) (Int.toNat (x17 + 1) - Int.toNat x17) (c1 - Int.toNat x17)),.slice XN n100 Z8,(.int .i64 (-9223372036854775808)),.int .i64 9223372036854775807] σ (AA R (CS fun AMD n101 AME y => Br (0 < (n101 : Int)) (Pq p1 fun Na Nb => In x17 (n1 : Int) ∧ ∃ Xr Xs Xt Xu Xv Xw,Au y Na (Nb + Int.toNat x17 * 2) [.slice Xr Xs Xt,.slice Xu Xv Xw] ∧ Al y fun fj => AK prog (Builtin.append_ #[23,23] 23 #[.slice EA n15 Dt,(.slice (aD fj 0) 1 1)]) (Hp.set y fj (.cells #[.slice Xr Xs Xt,.slice Xu Xv Xw] 40 (0,0))) (CS fun zx n111 zy AH => Hg R (aD sH sI) n0 c0 (aD Na Nb) n1 c1 x2 p3 n3 c3 p9 n9 c9 H9 n13 Ic Hm zx n111 zy Em n16 ER x17 AH)) (AG (Ib + 1) ∧ Fs R (aD sH sI) n0 c0 p1 n1 c1 x2 p3 n3 c3 p9 n9 c9 H9 n13 Ic Hm EA n15 Dt Em n16 ER x17 (Ib + 1) y)))) (In Ib (n0 : Int) ∧ LI .i64 σ sH (sI + Int.toNat Ib * 10) fun x87 => Br (x87 = 3) (AG (x17 + 1) ∧ (0 ≤ x17 ∧ x17 ≤ (x17 + 1) ∧ (x17 + 1) ≤ (c1 : Int)) ∧ In Ib (n0 : Int) ∧ LS σ sH ((sI + Int.toNat Ib * 10) + 3) fun XN n100 Z8 => Spec prog 16 #[(.slice (Jg p1 (Int.toNat x17) c1 2) (Int.toNat (x17 + 1) - Int.toNat x17) (c1 - Int.toNat x17)),.slice XN n100 Z8,(.int .i64 (-9223372036854775808)),.int .i64 9223372036854775807] σ (AA R (CS fun AMD n101 AME y => Br (0 < (n101 : Int)) (Pq p1 fun Na Nb => In x17 (n1 : Int) ∧ ∃ Xr Xs Xt Xu Xv Xw,Au y Na (Nb + Int.toNat x17 * 2) [.slice Xr Xs Xt,.slice Xu Xv Xw] ∧ Al y fun fj => AK prog (Builtin.append_ #[23,23] 23 #[.slice EA n15 Dt,(.slice (aD fj 0) 1 1)]) (Hp.set y fj (.cells #[.slice Xr Xs Xt,.slice Xu Xv Xw] 40 (0,0))) (CS fun zx n111 zy AH => Hg R (aD sH sI) n0 c0 (aD Na Nb) n1 c1 x2 p3 n3 c3 p9 n9 c9 H9 n13 Ic Hm zx n111 zy Em n16 ER x17 AH)) (AG (Ib + 1) ∧ Fs R (aD sH sI) n0 c0 p1 n1 c1 x2 p3 n3 c3 p9 n9 c9 H9 n13 Ic Hm EA n15 Dt Em n16 ER x17 (Ib + 1) y)))) (AG (Ib + 1) ∧ Fs R (aD sH sI) n0 c0 p1 n1 c1 x2 p3 n3 c3 p9 n9 c9 H9 n13 Ic Hm EA n15 Dt Em n16 ER x17 (Ib + 1) σ))) (Hg R p0 n0 c0 p1 n1 c1 x2 p3 n3 c3 p9 n9 c9 H9 n13 Ic Hm EA n15 Dt Em n16 ER x17 σ)) : Fs R p0 n0 c0 p1 n1 c1 x2 p3 n3 c3 p9 n9 c9 H9 n13 Ic Hm EA n15 Dt Em n16 ER x17 Ib σ := M.of h ok rfl
theorem HN (h : AG (x17 + 1) ∧ sD R p0 n0 c0 p1 n1 c1 x2 p3 n3 c3 p9 n9 c9 H9 n13 Ic Hm EA n15 Dt Em n16 ER (x17 + 1) σ) : Hg R p0 n0 c0 p1 n1 c1 x2 p3 n3 c3 p9 n9 c9 H9 n13 Ic Hm EA n15 Dt Em n16 ER x17 σ := M.of h ok rfl
end AI
namespace Uj
variable {x0 : Int}
def M : Fw := ⟨prog,29,f29,[],[],false,[],[],[]⟩
theorem ok : M.Ok := ⟨AJ.nil,mixed,func29,by kernel_rfl⟩
theorem start (h : Br (((-1099511627776) : Int) ≤ x0) (R (.returned (.bool (decide (x0 ≤ 1099511627776)))) σ) (R (.returned (.bool false)) σ)) : Spec prog 29 #[.int .i64 x0] σ R := M.start h ok
end Uj
namespace Kb
variable {p0 : Option Addr} {n0 c0 : Nat}
def M : Fw := ⟨prog,32,f32,[],[],false,[],[],[]⟩
theorem ok : M.Ok := ⟨AJ.nil,mixed,func32,by kernel_rfl⟩
theorem start (h : Al σ fun b3 => AK prog (Builtin.append_ #[34,34] 34 #[(.slice (aD b3 0) 0 0),.slice p0 n0 c0]) (Hp.set σ b3 (.cells #[] 9 (0,0))) (CS fun p5 n5 c5 y => R (.returned (.slice p5 n5 c5)) y)) : Spec prog 32 #[.slice p0 n0 c0] σ R := M.start h ok
end Kb
namespace Cb
variable {p0 p1 : Option Addr} {n0 c0 n1 c1 : Nat} {x5 : Int}
def M : Fw := ⟨prog,36,f36,[],[],false,[(6,9,true)],[],[(464,[(0,wL),(1,wL),(5,wI)])]⟩
theorem ok : M.Ok := ⟨AJ.nil,mixed,func36,by kernel_rfl⟩
def A5 := M.pt 0
theorem start (h : Br ((n0 : Int) ≠ (n1 : Int)) (R (.returned (.bool false)) σ) (A5 R p0 n0 c0 p1 n1 c1 0 σ)) : Spec prog 36 #[.slice p0 n0 c0,.slice p1 n1 c1] σ R := M.start h ok
theorem A7 (h : Br (x5 < (n0 : Int)) (Pq p0 fun CY Wd => In x5 (n0 : Int) ∧ ∃ JX aG,Au σ CY (Wd + Int.toNat x5 * 2) [.int .i64 JX,.int .u64 aG] ∧ Pq p1 fun Lh Vf => In x5 (n1 : Int) ∧ ∃ fk fl,Au σ Lh (Vf + Int.toNat x5 * 2) [.int .i64 fk,.int .u64 fl] ∧ ∃ t25,YF prog ((do eqGuard .neq 50 (.tmp 20) (.tmp 24) (.agg #[.int .i64 JX,.int .u64 aG]) (.agg #[.int .i64 fk,.int .u64 fl]); binOp .neq 50 (.agg #[.int .i64 JX,.int .u64 aG]) (.agg #[.int .i64 fk,.int .u64 fl]))) σ (.bool t25) ∧ Bo t25 (R (.returned (.bool false)) σ) (AG (x5 + 1) ∧ A5 R (aD CY Wd) n0 c0 (aD Lh Vf) n1 c1 (x5 + 1) σ)) (R (.returned (.bool true)) σ)) : A5 R p0 n0 c0 p1 n1 c1 x5 σ := M.of h ok rfl
end Cb
namespace BW
variable {p0 p1 p5 : Option Addr} {n0 c0 n1 c1 n5 c5 : Nat} {x6 x7 x8 : Int}
def M : Fw := ⟨prog,40,f40,[57,58,59],[],false,[],[],[(480,[(0,wL),(1,wL),(5,wL),(6,wI),(7,wI)]),(7724,[(0,wL),(1,wL),(5,wL),(6,wI),(7,wI),(8,wI)])]⟩
theorem ok : M.Ok := ⟨.cons call57 (.cons call58 (.cons call59 (AJ.nil))),mixed,func40,by kernel_rfl⟩
def Ak := M.pt 0
def HA := M.pt 1
theorem start (h : Ak R p0 n0 c0 p1 n1 c1 none 0 0 0 0 σ) : Spec prog 40 #[.slice p0 n0 c0,.slice p1 n1 c1] σ R := M.start h ok
theorem AX (h : Br (x6 < (n0 : Int)) (Br (x7 = (n1 : Int)) (HA R p0 n0 c0 p1 n1 c1 p5 n5 c5 x6 x7 (-1) σ) (Br (x6 = (n0 : Int)) (HA R p0 n0 c0 p1 n1 c1 p5 n5 c5 x6 x7 1 σ) (Pq p0 fun b21 o21 => In x6 (n0 : Int) ∧ LS σ b21 (o21 + Int.toNat x6 * 2) fun Z2 n23 Z3 => Pq p1 fun Tp ZG => In x7 (n1 : Int) ∧ LS σ Tp (ZG + Int.toNat x7 * 2) fun p28 n28 c28 => Spec prog 57 #[.slice Z2 n23 Z3,.slice p28 n28 c28] σ (AA R (CI .i64 fun x29 y => HA R (aD b21 o21) n0 c0 (aD Tp ZG) n1 c1 p5 n5 c5 x6 x7 x29 y))))) (Br (x7 < (n1 : Int)) (Br (x7 = (n1 : Int)) (HA R p0 n0 c0 p1 n1 c1 p5 n5 c5 x6 x7 (-1) σ) (Br (x6 = (n0 : Int)) (HA R p0 n0 c0 p1 n1 c1 p5 n5 c5 x6 x7 1 σ) (Pq p0 fun b21 o21 => In x6 (n0 : Int) ∧ LS σ b21 (o21 + Int.toNat x6 * 2) fun Z2 n23 Z3 => Pq p1 fun Tp ZG => In x7 (n1 : Int) ∧ LS σ Tp (ZG + Int.toNat x7 * 2) fun p28 n28 c28 => Spec prog 57 #[.slice Z2 n23 Z3,.slice p28 n28 c28] σ (AA R (CI .i64 fun x29 y => HA R (aD b21 o21) n0 c0 (aD Tp ZG) n1 c1 p5 n5 c5 x6 x7 x29 y))))) (R (.returned (.slice p5 n5 c5)) σ))) : Ak R p0 n0 c0 p1 n1 c1 p5 n5 c5 x6 x7 σ := M.of h ok rfl
theorem HO (h : Br (x8 < 0) (Pq p0 fun yd ye => In x6 (n0 : Int) ∧ ∃ AFK AFL AFM AFN AFO AFP,Au σ yd (ye + Int.toNat x6 * 2) [.slice AFK AFL AFM,.slice AFN AFO AFP] ∧ Spec prog 58 #[.agg #[.slice AFK AFL AFM,.slice AFN AFO AFP]] σ (AA R (fun z y => ∃ mB mC mD mE mF mG,z = (.agg #[.slice mB mC mD,.slice mE mF mG]) ∧ Al y fun ij => AK prog (Builtin.append_ #[23,23] 23 #[.slice p5 n5 c5,(.slice (aD ij 0) 1 1)]) (Hp.set y ij (.cells #[.slice mB mC mD,.slice mE mF mG] 40 (0,0))) (CS fun j8 j9 kA AH => AG (x6 + 1) ∧ Ak R (aD yd ye) n0 c0 p1 n1 c1 j8 j9 kA (x6 + 1) x7 AH)))) (Br (0 < x8) (Pq p1 fun b85 o85 => In x7 (n1 : Int) ∧ ∃ AFQ AFR AFS AFT AFU AFV,Au σ b85 (o85 + Int.toNat x7 * 2) [.slice AFQ AFR AFS,.slice AFT AFU AFV] ∧ Spec prog 58 #[.agg #[.slice AFQ AFR AFS,.slice AFT AFU AFV]] σ (AA R (fun z y => ∃ AFW AFX AFY AFZ AFa AFb,z = (.agg #[.slice AFW AFX AFY,.slice AFZ AFa AFb]) ∧ Al y fun XT => AK prog (Builtin.append_ #[23,23] 23 #[.slice p5 n5 c5,(.slice (aD XT 0) 1 1)]) (Hp.set y XT (.cells #[.slice AFW AFX AFY,.slice AFZ AFa AFb] 40 (0,0))) (CS fun p89 n89 c89 AH => AG (x7 + 1) ∧ Ak R p0 n0 c0 (aD b85 o85) n1 c1 p89 n89 c89 x6 (x7 + 1) AH)))) (Pq p0 fun b44 o44 => In x6 (n0 : Int) ∧ LS σ b44 (o44 + Int.toNat x6 * 2) fun iq n46 ff => In x6 (n0 : Int) ∧ LS σ b44 ((o44 + Int.toNat x6 * 2) + 1) fun p52 n52 c52 => Pq p1 fun SX Tc => In x7 (n1 : Int) ∧ LS σ SX ((Tc + Int.toNat x7 * 2) + 1) fun rf n57 rh => Al σ fun b41 => AK prog (Builtin.append_ #[37,37] 37 #[(.slice (aD b41 0) 0 0),.slice iq n46 ff]) (Hp.set σ b41 (.cells #[] 56 (0,0))) (CS fun vQ n47 rm y => Kp [SX,b44] (Hp.set σ b41 (.cells #[] 56 (0,0))) y ∧ Spec prog 59 #[.slice p52 n52 c52,.slice rf n57 rh] y (AA R (CS fun pc pd uf AH => Al AH fun Ms => AK prog (Builtin.append_ #[23,23] 23 #[.slice p5 n5 c5,(.slice (aD Ms 0) 1 1)]) (Hp.set AH Ms (.cells #[.slice vQ n47 rm,.slice pc pd uf] 40 (0,0))) (CS fun zz n61 c61 AL => AG (x6 + 1) ∧ AG (x7 + 1) ∧ Ak R (aD b44 o44) n0 c0 (aD SX Tc) n1 c1 zz n61 c61 (x6 + 1) (x7 + 1) AL))))))) : HA R p0 n0 c0 p1 n1 c1 p5 n5 c5 x6 x7 x8 σ := M.of h ok rfl
end BW
namespace DN
variable {p0 p1 : Option Addr} {n0 c0 n1 c1 : Nat} {x5 : Int}
def M : Fw := ⟨prog,57,f57,[89],[],false,[],[],[(208,[(0,wL),(1,wL),(5,wI)])]⟩
theorem ok : M.Ok := ⟨.cons call89 (AJ.nil),mixed,func57,by kernel_rfl⟩
def F3 := M.pt 0
theorem start (h : F3 R p0 n0 c0 p1 n1 c1 0 σ) : Spec prog 57 #[.slice p0 n0 c0,.slice p1 n1 c1] σ R := M.start h ok
theorem As (h : Br (x5 < (n0 : Int)) (Br (x5 < (n1 : Int)) (Pq p0 fun b22 o22 => In x5 (n0 : Int) ∧ LT σ b22 (o22 + Int.toNat x5 * 2) fun s24 => Pq p1 fun Wc pg => In x5 (n1 : Int) ∧ LT σ Wc (pg + Int.toNat x5 * 2) fun s29 => Spec prog 89 #[.string s24,.string s29] σ (AA R (CI .i64 fun RL y => Br (RL ≠ 0) (R (.returned (.int .i64 RL)) y) (In x5 (n0 : Int) ∧ LT y b22 ((o22 + Int.toNat x5 * 2) + 1) fun s38 => In x5 (n1 : Int) ∧ LT y Wc ((pg + Int.toNat x5 * 2) + 1) fun s43 => Spec prog 89 #[.string s38,.string s43] y (AA R (CI .i64 fun il AH => Br (il ≠ 0) (R (.returned (.int .i64 il)) AH) (AG (x5 + 1) ∧ F3 R (aD b22 o22) n0 c0 (aD Wc pg) n1 c1 (x5 + 1) AH))))))) (Br ((n0 : Int) < (n1 : Int)) (R (.returned (.int .i64 (-1))) σ) (Br ((n1 : Int) < (n0 : Int)) (R (.returned (.int .i64 1)) σ) (R (.returned (.int .i64 0)) σ)))) (Br ((n0 : Int) < (n1 : Int)) (R (.returned (.int .i64 (-1))) σ) (Br ((n1 : Int) < (n0 : Int)) (R (.returned (.int .i64 1)) σ) (R (.returned (.int .i64 0)) σ)))) : F3 R p0 n0 c0 p1 n1 c1 x5 σ := M.of h ok rfl
end DN
namespace BH
variable {p0 p1 p5 : Option Addr} {n0 c0 n1 c1 n5 c5 : Nat} {x6 x7 : Int}
def M : Fw := ⟨prog,59,f59,[],[],false,[(7,24,true),(10,18,true)],[],[(480,[(0,wL),(1,wL),(5,wL),(6,wI),(7,wI)])]⟩
theorem ok : M.Ok := ⟨AJ.nil,mixed,func59,by kernel_rfl⟩
def Ak := M.pt 0
theorem start (h : Ak R p0 n0 c0 p1 n1 c1 none 0 0 0 0 σ) : Spec prog 59 #[.slice p0 n0 c0,.slice p1 n1 c1] σ R := M.start h ok
theorem AX (h : Br (x6 < (n0 : Int)) (Br (x7 = (n1 : Int)) (Pq p0 fun iu o69 => In x6 (n0 : Int) ∧ ∃ SY SZ,Au σ iu (o69 + Int.toNat x6 * 2) [.int .i64 SY,.int .u64 SZ] ∧ Al σ fun MX => AK prog (Builtin.append_ #[38,38] 38 #[.slice p5 n5 c5,(.slice (aD MX 0) 1 1)]) (Hp.set σ MX (.cells #[.int .i64 SY,.int .u64 SZ] 50 (0,0))) (CS fun kM kN kO y => AG (x6 + 1) ∧ Ak R (aD iu o69) n0 c0 p1 n1 c1 kM kN kO (x6 + 1) x7 y)) (Br (x6 < (n0 : Int)) (Pq p0 fun SX Tc => In x6 (n0 : Int) ∧ LI .i64 σ SX (Tc + Int.toNat x6 * 2) fun x57 => Pq p1 fun Ms Vs => In x7 (n1 : Int) ∧ LI .i64 σ Ms (Vs + Int.toNat x7 * 2) fun Xm => Br (x57 < Xm) (In x6 (n0 : Int) ∧ ∃ SY SZ,Au σ SX (Tc + Int.toNat x6 * 2) [.int .i64 SY,.int .u64 SZ] ∧ Al σ fun MX => AK prog (Builtin.append_ #[38,38] 38 #[.slice p5 n5 c5,(.slice (aD MX 0) 1 1)]) (Hp.set σ MX (.cells #[.int .i64 SY,.int .u64 SZ] 50 (0,0))) (CS fun kM kN kO y => AG (x6 + 1) ∧ Ak R (aD SX Tc) n0 c0 (aD Ms Vs) n1 c1 kM kN kO (x6 + 1) x7 y)) (Br (x6 = (n0 : Int)) (In x7 (n1 : Int) ∧ ∃ Fc Fe,Au σ Ms (Vs + Int.toNat x7 * 2) [.int .i64 Fc,.int .u64 Fe] ∧ Al σ fun PU => AK prog (Builtin.append_ #[38,38] 38 #[.slice p5 n5 c5,(.slice (aD PU 0) 1 1)]) (Hp.set σ PU (.cells #[.int .i64 Fc,.int .u64 Fe] 50 (0,0))) (CS fun Xx n99 Xy y => AG (x7 + 1) ∧ Ak R (aD SX Tc) n0 c0 (aD Ms Vs) n1 c1 Xx n99 Xy x6 (x7 + 1) y)) (In x7 (n1 : Int) ∧ LI .i64 σ Ms (Vs + Int.toNat x7 * 2) fun pr => In x6 (n0 : Int) ∧ LI .i64 σ SX (Tc + Int.toNat x6 * 2) fun x90 => Br (pr < x90) (In x7 (n1 : Int) ∧ ∃ Fc Fe,Au σ Ms (Vs + Int.toNat x7 * 2) [.int .i64 Fc,.int .u64 Fe] ∧ Al σ fun PU => AK prog (Builtin.append_ #[38,38] 38 #[.slice p5 n5 c5,(.slice (aD PU 0) 1 1)]) (Hp.set σ PU (.cells #[.int .i64 Fc,.int .u64 Fe] 50 (0,0))) (CS fun Xx n99 Xy y => AG (x7 + 1) ∧ Ak R (aD SX Tc) n0 c0 (aD Ms Vs) n1 c1 Xx n99 Xy x6 (x7 + 1) y)) (In x6 (n0 : Int) ∧ LI .i64 σ SX (Tc + Int.toNat x6 * 2) fun C6 => In x6 (n0 : Int) ∧ LI .u64 σ SX ((Tc + Int.toNat x6 * 2) + 1) fun MZ => In x7 (n1 : Int) ∧ LI .u64 σ Ms ((Vs + Int.toNat x7 * 2) + 1) fun aT => Al σ fun mH => AK prog (Builtin.append_ #[38,38] 38 #[.slice p5 n5 c5,(.slice (aD mH 0) 1 1)]) (Hp.set σ mH (.cells #[.int .i64 C6,(.int .u64 (if MZ < aT then aT else MZ))] 50 (0,0))) (CS fun OD n37 OE y => AG (x6 + 1) ∧ AG (x7 + 1) ∧ Ak R (aD SX Tc) n0 c0 (aD Ms Vs) n1 c1 OD n37 OE (x6 + 1) (x7 + 1) y))))) (Br (x6 = (n0 : Int)) (Pq p1 fun Z7 o96 => In x7 (n1 : Int) ∧ ∃ Fc Fe,Au σ Z7 (o96 + Int.toNat x7 * 2) [.int .i64 Fc,.int .u64 Fe] ∧ Al σ fun PU => AK prog (Builtin.append_ #[38,38] 38 #[.slice p5 n5 c5,(.slice (aD PU 0) 1 1)]) (Hp.set σ PU (.cells #[.int .i64 Fc,.int .u64 Fe] 50 (0,0))) (CS fun Xx n99 Xy y => AG (x7 + 1) ∧ Ak R p0 n0 c0 (aD Z7 o96) n1 c1 Xx n99 Xy x6 (x7 + 1) y)) (Pq p1 fun dM dO => In x7 (n1 : Int) ∧ LI .i64 σ dM (dO + Int.toNat x7 * 2) fun pr => Pq p0 fun XT mI => In x6 (n0 : Int) ∧ LI .i64 σ XT (mI + Int.toNat x6 * 2) fun x90 => Br (pr < x90) (In x7 (n1 : Int) ∧ ∃ Fc Fe,Au σ dM (dO + Int.toNat x7 * 2) [.int .i64 Fc,.int .u64 Fe] ∧ Al σ fun PU => AK prog (Builtin.append_ #[38,38] 38 #[.slice p5 n5 c5,(.slice (aD PU 0) 1 1)]) (Hp.set σ PU (.cells #[.int .i64 Fc,.int .u64 Fe] 50 (0,0))) (CS fun Xx n99 Xy y => AG (x7 + 1) ∧ Ak R (aD XT mI) n0 c0 (aD dM dO) n1 c1 Xx n99 Xy x6 (x7 + 1) y)) (In x6 (n0 : Int) ∧ LI .i64 σ XT (mI + Int.toNat x6 * 2) fun C6 => In x6 (n0 : Int) ∧ LI .u64 σ XT ((mI + Int.toNat x6 * 2) + 1) fun MZ => In x7 (n1 : Int) ∧ LI .u64 σ dM ((dO + Int.toNat x7 * 2) + 1) fun aT => Al σ fun mH => AK prog (Builtin.append_ #[38,38] 38 #[.slice p5 n5 c5,(.slice (aD mH 0) 1 1)]) (Hp.set σ mH (.cells #[.int .i64 C6,(.int .u64 (if MZ < aT then aT else MZ))] 50 (0,0))) (CS fun OD n37 OE y => AG (x6 + 1) ∧ AG (x7 + 1) ∧ Ak R (aD XT mI) n0 c0 (aD dM dO) n1 c1 OD n37 OE (x6 + 1) (x7 + 1) y)))))) (Br (x7 < (n1 : Int)) (Br (x7 = (n1 : Int)) (Pq p0 fun iu o69 => In x6 (n0 : Int) ∧ ∃ SY SZ,Au σ iu (o69 + Int.toNat x6 * 2) [.int .i64 SY,.int .u64 SZ] ∧ Al σ fun MX => AK prog (Builtin.append_ #[38,38] 38 #[.slice p5 n5 c5,(.slice (aD MX 0) 1 1)]) (Hp.set σ MX (.cells #[.int .i64 SY,.int .u64 SZ] 50 (0,0))) (CS fun kM kN kO y => AG (x6 + 1) ∧ Ak R (aD iu o69) n0 c0 p1 n1 c1 kM kN kO (x6 + 1) x7 y)) (Br (x6 < (n0 : Int)) (Pq p0 fun SX Tc => In x6 (n0 : Int) ∧ LI .i64 σ SX (Tc + Int.toNat x6 * 2) fun x57 => Pq p1 fun Ms Vs => In x7 (n1 : Int) ∧ LI .i64 σ Ms (Vs + Int.toNat x7 * 2) fun Xm => Br (x57 < Xm) (In x6 (n0 : Int) ∧ ∃ SY SZ,Au σ SX (Tc + Int.toNat x6 * 2) [.int .i64 SY,.int .u64 SZ] ∧ Al σ fun MX => AK prog (Builtin.append_ #[38,38] 38 #[.slice p5 n5 c5,(.slice (aD MX 0) 1 1)]) (Hp.set σ MX (.cells #[.int .i64 SY,.int .u64 SZ] 50 (0,0))) (CS fun kM kN kO y => AG (x6 + 1) ∧ Ak R (aD SX Tc) n0 c0 (aD Ms Vs) n1 c1 kM kN kO (x6 + 1) x7 y)) (Br (x6 = (n0 : Int)) (In x7 (n1 : Int) ∧ ∃ Fc Fe,Au σ Ms (Vs + Int.toNat x7 * 2) [.int .i64 Fc,.int .u64 Fe] ∧ Al σ fun PU => AK prog (Builtin.append_ #[38,38] 38 #[.slice p5 n5 c5,(.slice (aD PU 0) 1 1)]) (Hp.set σ PU (.cells #[.int .i64 Fc,.int .u64 Fe] 50 (0,0))) (CS fun Xx n99 Xy y => AG (x7 + 1) ∧ Ak R (aD SX Tc) n0 c0 (aD Ms Vs) n1 c1 Xx n99 Xy x6 (x7 + 1) y)) (In x7 (n1 : Int) ∧ LI .i64 σ Ms (Vs + Int.toNat x7 * 2) fun pr => In x6 (n0 : Int) ∧ LI .i64 σ SX (Tc + Int.toNat x6 * 2) fun x90 => Br (pr < x90) (In x7 (n1 : Int) ∧ ∃ Fc Fe,Au σ Ms (Vs + Int.toNat x7 * 2) [.int .i64 Fc,.int .u64 Fe] ∧ Al σ fun PU => AK prog (Builtin.append_ #[38,38] 38 #[.slice p5 n5 c5,(.slice (aD PU 0) 1 1)]) (Hp.set σ PU (.cells #[.int .i64 Fc,.int .u64 Fe] 50 (0,0))) (CS fun Xx n99 Xy y => AG (x7 + 1) ∧ Ak R (aD SX Tc) n0 c0 (aD Ms Vs) n1 c1 Xx n99 Xy x6 (x7 + 1) y)) (In x6 (n0 : Int) ∧ LI .i64 σ SX (Tc + Int.toNat x6 * 2) fun C6 => In x6 (n0 : Int) ∧ LI .u64 σ SX ((Tc + Int.toNat x6 * 2) + 1) fun MZ => In x7 (n1 : Int) ∧ LI .u64 σ Ms ((Vs + Int.toNat x7 * 2) + 1) fun aT => Al σ fun mH => AK prog (Builtin.append_ #[38,38] 38 #[.slice p5 n5 c5,(.slice (aD mH 0) 1 1)]) (Hp.set σ mH (.cells #[.int .i64 C6,(.int .u64 (if MZ < aT then aT else MZ))] 50 (0,0))) (CS fun OD n37 OE y => AG (x6 + 1) ∧ AG (x7 + 1) ∧ Ak R (aD SX Tc) n0 c0 (aD Ms Vs) n1 c1 OD n37 OE (x6 + 1) (x7 + 1) y))))) (Br (x6 = (n0 : Int)) (Pq p1 fun Z7 o96 => In x7 (n1 : Int) ∧ ∃ Fc Fe,Au σ Z7 (o96 + Int.toNat x7 * 2) [.int .i64 Fc,.int .u64 Fe] ∧ Al σ fun PU => AK prog (Builtin.append_ #[38,38] 38 #[.slice p5 n5 c5,(.slice (aD PU 0) 1 1)]) (Hp.set σ PU (.cells #[.int .i64 Fc,.int .u64 Fe] 50 (0,0))) (CS fun Xx n99 Xy y => AG (x7 + 1) ∧ Ak R p0 n0 c0 (aD Z7 o96) n1 c1 Xx n99 Xy x6 (x7 + 1) y)) (Pq p1 fun dM dO => In x7 (n1 : Int) ∧ LI .i64 σ dM (dO + Int.toNat x7 * 2) fun pr => Pq p0 fun XT mI => In x6 (n0 : Int) ∧ LI .i64 σ XT (mI + Int.toNat x6 * 2) fun x90 => Br (pr < x90) (In x7 (n1 : Int) ∧ ∃ Fc Fe,Au σ dM (dO + Int.toNat x7 * 2) [.int .i64 Fc,.int .u64 Fe] ∧ Al σ fun PU => AK prog (Builtin.append_ #[38,38] 38 #[.slice p5 n5 c5,(.slice (aD PU 0) 1 1)]) (Hp.set σ PU (.cells #[.int .i64 Fc,.int .u64 Fe] 50 (0,0))) (CS fun Xx n99 Xy y => AG (x7 + 1) ∧ Ak R (aD XT mI) n0 c0 (aD dM dO) n1 c1 Xx n99 Xy x6 (x7 + 1) y)) (In x6 (n0 : Int) ∧ LI .i64 σ XT (mI + Int.toNat x6 * 2) fun C6 => In x6 (n0 : Int) ∧ LI .u64 σ XT ((mI + Int.toNat x6 * 2) + 1) fun MZ => In x7 (n1 : Int) ∧ LI .u64 σ dM ((dO + Int.toNat x7 * 2) + 1) fun aT => Al σ fun mH => AK prog (Builtin.append_ #[38,38] 38 #[.slice p5 n5 c5,(.slice (aD mH 0) 1 1)]) (Hp.set σ mH (.cells #[.int .i64 C6,(.int .u64 (if MZ < aT then aT else MZ))] 50 (0,0))) (CS fun OD n37 OE y => AG (x6 + 1) ∧ AG (x7 + 1) ∧ Ak R (aD XT mI) n0 c0 (aD dM dO) n1 c1 OD n37 OE (x6 + 1) (x7 + 1) y)))))) (R (.returned (.slice p5 n5 c5)) σ))) : Ak R p0 n0 c0 p1 n1 c1 p5 n5 c5 x6 x7 σ := M.of h ok rfl
end BH
namespace CG
variable {v0 : Value} {b1 b2 b3 : Nat} {x5 : Int}
def M : Fw := ⟨prog,71,f71,[],[100000],false,[],[],[(48,[(0,wV),(2,wA),(3,wA),(5,wI)])]⟩
theorem ok : M.Ok := ⟨AJ.nil,mixed,func71,by kernel_rfl⟩
def pt6 := M.pt 0
theorem start (h : LI .i64 σ b1 0 fun x6 => pt6 R v0 b2 b3 x6 σ) : Spec prog 71 #[v0,(.pointer (aD b1 0)),(.pointer (aD b2 0)),(.pointer (aD b3 0))] σ R := M.FD h ok [(0,.o (.V v0)),(1,.o (.A b1)),(2,.o (.A b2)),(3,.o (.A b3))] rfl rfl (by kernel_rfl)
theorem mJ (h : ∃ l9 : Nat,v0 = .func (.yield l9) #[] #[] ∧ Hx prog l9 #[.int .i64 x5] σ (AA R (CB fun t9 y => Bo t9 (LI .i64 y b2 0 fun x11 => LI .i64 y b3 0 fun x12 => AG (x12 - x5) ∧ Br (x11 ≤ (x12 - x5)) (LI .i64 y b2 0 fun Ib => AG (x5 + Ib) ∧ pt6 R v0 b2 b3 (x5 + Ib) y) (R (.returned (.tuple #[])) y)) (R (.returned (.tuple #[])) y)))) : pt6 R v0 b2 b3 x5 σ := M.of h ok rfl
end CG
namespace Eb
variable {p0 p3 QM : Option Addr} {n0 c0 n3 c3 n10 NH : Nat} {x11 x12 : Int}
def M : Fw := ⟨prog,72,f72,[107,108],[5],false,[],[],[(232,[(3,wL),(10,wL),(11,wI),(12,wI)])]⟩
theorem ok : M.Ok := ⟨.cons call107 (.cons call108 (AJ.nil)),mixed,func72,by kernel_rfl⟩
def BA := M.pt 0
theorem start (h : Df (IntKind.u64.wrap (n0 : Int)) fun x8 => Spec prog 107 #[.slice none 0 0,.int .u64 x8] σ (AA R (CS fun p9 n9 c9 y => BA R p9 n9 c9 p0 n0 c0 (n0 : Int) 0 y))) : Spec prog 72 #[.slice p0 n0 c0] σ R := M.start h ok
theorem Ac (h : Br (x12 < x11) (Pq QM fun Bt TY => In x12 (n10 : Int) ∧ ∃ AFf AFg,Au σ Bt (TY + Int.toNat x12 * 2) [.string AFf,.string AFg] ∧ ∀ b5 : Nat,Spec prog 108 #[.slice p3 n3 c3,.string AFf] σ (AA R (CS fun p19 n19 c19 y => Spec prog 108 #[.slice p19 n19 c19,.string AFg] y (AA R (CS fun UY n22 TZ AH => AG (x12 + 1) ∧ BA R UY n22 TZ (aD Bt TY) n10 NH x11 (x12 + 1) AH))))) (R (.returned (.slice p3 n3 c3)) σ)) : BA R p3 n3 c3 QM n10 NH x11 x12 σ := M.of h ok rfl
end Eb
namespace Gv
variable {p0 p6 : Option Addr} {n0 c0 n6 c6 : Nat} {x3 x7 x8 : Int}
def M : Fw := ⟨prog,77,f77,[],[],false,[],[],[(232,[(3,wI),(6,wL),(7,wI),(8,wI)])]⟩
theorem ok : M.Ok := ⟨AJ.nil,mixed,func77,by kernel_rfl⟩
def BA := M.pt 0
theorem start (h : BA R 0 p0 n0 c0 (n0 : Int) 0 σ) : Spec prog 77 #[.slice p0 n0 c0] σ R := M.start h ok
theorem Ac (h : Br (x8 < x7) (Pq p6 fun DD sC => In x8 (n6 : Int) ∧ LI .i64 σ DD (sC + Int.toNat x8 * 1) fun x11 => Br (x11 ≠ x3) (R (.returned (.int .i64 x11)) σ) (AG (x8 + 1) ∧ BA R x3 (aD DD sC) n6 c6 x7 (x8 + 1) σ)) (R (.returned (.int .i64 x3)) σ)) : BA R x3 p6 n6 c6 x7 x8 σ := M.of h ok rfl
end Gv
namespace Ec
variable {q0 Du EB p2 : Option Addr} {Dl Cc Dm Dx DT Cm : Int} {Dn : ByteArray} {Dy Dz D0 EC n2 c2 : Nat} {DU : Bool}
def M : Fw := ⟨prog,85,f85,[],[4],false,[],[],[]⟩
theorem ok : M.Ok := ⟨AJ.nil,mixed,func85,by kernel_rfl⟩
theorem start (h : ∀ b4 : Nat,Pq p2 fun b9 o9 => In 0 (n2 : Int) ∧ LI .i64 σ b9 o9 fun x11 => Br (x11 = 3) (R (.returned (.tuple #[.int .i64 0,.int .i64 191])) σ) (In 0 (n2 : Int) ∧ LI .i64 σ b9 o9 fun x16 => R (.returned (.tuple #[.int .i64 x16,.int .i64 0])) σ)) : Spec prog 85 #[.pointer q0,.agg #[.int .i64 Dl,.int .i64 Cc,.string Dn,.slice Du Dy Dz,.int .i64 Dm,.int .i64 Dx,.int .i64 DT,.slice EB D0 EC,.bool DU,.int .i64 Cm],.slice p2 n2 c2] σ R := M.start h ok
end Ec
namespace GZ
variable {s0 : ByteArray} {x3 : Int}
def M : Fw := ⟨prog,87,f87,[],[],false,[],[],[(464,[(0,wT),(3,wI)])]⟩
theorem ok : M.Ok := ⟨AJ.nil,mixed,func87,by kernel_rfl⟩
def A5 := M.pt 0
theorem start (h : Br ((((ByteArray.size s0 : Nat) : Int) : Int) < 1) (R (.returned (.bool false)) σ) (Br ((64 : Int) < ((ByteArray.size s0 : Nat) : Int)) (R (.returned (.bool false)) σ) (∃ u15 : UInt8,(0 : Int) ≤ 0 ∧ (ByteArray.data s0)[Int.toNat 0]? = some u15 ∧ Br ((48 : Int) ≤ ((UInt8.toNat u15 : Nat) : Int)) (∃ u19 : UInt8,(0 : Int) ≤ 0 ∧ (ByteArray.data s0)[Int.toNat 0]? = some u19 ∧ Br ((((UInt8.toNat u19 : Nat) : Int) : Int) ≤ 57) (R (.returned (.bool false)) σ) (A5 R s0 0 σ)) (A5 R s0 0 σ)))) : Spec prog 87 #[.string s0] σ R := M.start h ok
theorem A7 (h : Br (x3 < ((ByteArray.size s0 : Nat) : Int)) (∃ L9 : UInt8,0 ≤ x3 ∧ (ByteArray.data s0)[Int.toNat x3]? = some L9 ∧ Br ((65 : Int) ≤ ((UInt8.toNat L9 : Nat) : Int)) (Br ((((UInt8.toNat L9 : Nat) : Int) : Int) ≤ 90) (AG (x3 + 1) ∧ A5 R s0 (x3 + 1) σ) (Br ((97 : Int) ≤ ((UInt8.toNat L9 : Nat) : Int)) (Br ((((UInt8.toNat L9 : Nat) : Int) : Int) ≤ 122) (AG (x3 + 1) ∧ A5 R s0 (x3 + 1) σ) (Br ((48 : Int) ≤ ((UInt8.toNat L9 : Nat) : Int)) (Br ((((UInt8.toNat L9 : Nat) : Int) : Int) ≤ 57) (AG (x3 + 1) ∧ A5 R s0 (x3 + 1) σ) (Bm ((((UInt8.toNat L9 : Nat) : Int) : Int) = 95) (R (.returned (.bool false)) σ) (AG (x3 + 1) ∧ A5 R s0 (x3 + 1) σ))) (Bm ((((UInt8.toNat L9 : Nat) : Int) : Int) = 95) (R (.returned (.bool false)) σ) (AG (x3 + 1) ∧ A5 R s0 (x3 + 1) σ)))) (Br ((48 : Int) ≤ ((UInt8.toNat L9 : Nat) : Int)) (Br ((((UInt8.toNat L9 : Nat) : Int) : Int) ≤ 57) (AG (x3 + 1) ∧ A5 R s0 (x3 + 1) σ) (Bm ((((UInt8.toNat L9 : Nat) : Int) : Int) = 95) (R (.returned (.bool false)) σ) (AG (x3 + 1) ∧ A5 R s0 (x3 + 1) σ))) (Bm ((((UInt8.toNat L9 : Nat) : Int) : Int) = 95) (R (.returned (.bool false)) σ) (AG (x3 + 1) ∧ A5 R s0 (x3 + 1) σ))))) (Br ((97 : Int) ≤ ((UInt8.toNat L9 : Nat) : Int)) (Br ((((UInt8.toNat L9 : Nat) : Int) : Int) ≤ 122) (AG (x3 + 1) ∧ A5 R s0 (x3 + 1) σ) (Br ((48 : Int) ≤ ((UInt8.toNat L9 : Nat) : Int)) (Br ((((UInt8.toNat L9 : Nat) : Int) : Int) ≤ 57) (AG (x3 + 1) ∧ A5 R s0 (x3 + 1) σ) (Bm ((((UInt8.toNat L9 : Nat) : Int) : Int) = 95) (R (.returned (.bool false)) σ) (AG (x3 + 1) ∧ A5 R s0 (x3 + 1) σ))) (Bm ((((UInt8.toNat L9 : Nat) : Int) : Int) = 95) (R (.returned (.bool false)) σ) (AG (x3 + 1) ∧ A5 R s0 (x3 + 1) σ)))) (Br ((48 : Int) ≤ ((UInt8.toNat L9 : Nat) : Int)) (Br ((((UInt8.toNat L9 : Nat) : Int) : Int) ≤ 57) (AG (x3 + 1) ∧ A5 R s0 (x3 + 1) σ) (Bm ((((UInt8.toNat L9 : Nat) : Int) : Int) = 95) (R (.returned (.bool false)) σ) (AG (x3 + 1) ∧ A5 R s0 (x3 + 1) σ))) (Bm ((((UInt8.toNat L9 : Nat) : Int) : Int) = 95) (R (.returned (.bool false)) σ) (AG (x3 + 1) ∧ A5 R s0 (x3 + 1) σ))))) (R (.returned (.bool true)) σ)) : A5 R s0 x3 σ := M.of h ok rfl
end GZ
namespace Sa
variable {s0 : ByteArray}
def M : Fw := ⟨prog,94,f94,[131,132],[],false,[],[],[]⟩
theorem ok : M.Ok := ⟨.cons call131 (.cons call132 (AJ.nil)),mixed,func94,by kernel_rfl⟩
theorem start (h : Spec prog 131 #[.string s0] σ (AA R (CI .i64 fun x6 y => Br (x6 = 0) (R (.returned (.bool false)) y) (∃ s12,YF prog (Instr.sliceAt 9 (.string s0) none (some (.int .i64 x6)) none) y (.string s12) ∧ Spec prog 132 #[.string s12] y (AA R (CB fun t13 AH => Bo t13 (R (.returned (.bool false)) AH) (Br (x6 = ((ByteArray.size s0 : Nat) : Int)) (R (.returned (.bool (decide (x6 ≤ 15)))) AH) (AG (x6 + 1) ∧ ∃ s24,YF prog (Instr.sliceAt 9 (.string s0) (some (.int .i64 (x6 + 1))) none none) AH (.string s24) ∧ Spec prog 131 #[.string s24] AH (AA R (CI .i64 fun Lo AL => ∃ u28 : UInt8,0 ≤ x6 ∧ (ByteArray.data s0)[Int.toNat x6]? = some u28 ∧ Br ((((UInt8.toNat u28 : Nat) : Int) : Int) = 46) (Br (0 < Lo) (AG (x6 + 1) ∧ AG ((x6 + 1) + Lo) ∧ Br ((((x6 + 1) + Lo) : Int) = ((ByteArray.size s0 : Nat) : Int)) (AG (x6 + Lo) ∧ R (.returned (.bool (decide (((x6 + Lo) : Int) ≤ 15)))) AL) (R (.returned (.bool false)) AL)) (R (.returned (.bool false)) AL)) (R (.returned (.bool false)) AL))))))))))) : Spec prog 94 #[.string s0] σ R := M.start h ok
end Sa
namespace AQ
variable {q0 Du EB p2 GV Hn HD Fv p9 UY EA p79 Li rk q13 : Option Addr} {Dl Cc Dm Dx DT Cm G5 GH Ho F5 Hq Ie Ft Fu C6 Ia x80 x81 aP : Int} {Dn Ig : ByteArray} {Dy Dz D0 EC n2 c2 GX GY Hr Hs HE HF Fy Fz n9 c9 n22 TZ n15 Dt n79 c79 Lj Lk n12 qC : Nat} {DU Ih : Bool} {m8 : Option Nat} {qD : Value}
def M : Fw := ⟨prog,104,f104,[49,146,148,149,150],[4,6,11],false,[(17,11,false)],[],[(488,[(4,.X 36 [.I .i64,.I .i64,.T,.L,.I .i64,.I .i64,.I .i64,.L,.B,.I .i64]),(6,.X 93 [.I .i64,.I .u64,.L,.L]),(8,wM),(9,wL),(22,wL),(23,wI),(24,wI)]),(4072,[(6,.X 93 [.I .i64,.I .u64,.L,.L]),(14,wV),(15,wL),(79,wL),(80,wI),(81,wI)]),(62670,[(4,.X 36 [.I .i64,.I .i64,.T,.L,.I .i64,.I .i64,.I .i64,.L,.B,.I .i64]),(6,.X 93 [.I .i64,.I .u64,.L,.L]),(8,wM),(9,wL),(11,.X 71 [.L,.I .u64]),(12,wL),(22,wL),(23,wI),(24,wI)]),(125343,[(4,.X 36 [.I .i64,.I .i64,.T,.L,.I .i64,.I .i64,.I .i64,.L,.B,.I .i64]),(6,.X 93 [.I .i64,.I .u64,.L,.L]),(8,wM),(9,wL),(11,.X 71 [.L,.I .u64]),(13,wQ),(22,wL),(23,wI),(24,wI)])]⟩
theorem ok : M.Ok := ⟨.cons call49 (.cons call146 (.cons call148 (.cons call149 (.cons call150 (AJ.nil))))),mixed,func104,by kernel_rfl⟩
def E1 := M.pt 0
def P4 := M.pt 1
def Fs := M.pt 2
def mK := M.pt 3
theorem start (h : ∀ b4 : Nat,∀ b6 : Nat,AK prog (Instr.makeMap 197 none) σ (fun z y => ∃ m18,z = (.map (some m18)) ∧ Pq p2 fun Xi zb => In 0 (n2 : Int) ∧ LS y Xi (zb + 2) fun UY n22 TZ => E1 R Dl Cc Dn Du Dy Dz Dm Dx DT EB D0 EC DU Cm 0 0 none 0 0 none 0 0 (some m18) none 0 0 UY n22 TZ (n22 : Int) 0 y)) : Spec prog 104 #[.pointer q0,.agg #[.int .i64 Dl,.int .i64 Cc,.string Dn,.slice Du Dy Dz,.int .i64 Dm,.int .i64 Dx,.int .i64 DT,.slice EB D0 EC,.bool DU,.int .i64 Cm],.slice p2 n2 c2] σ R := M.start h ok
theorem FP (h : Br (Ia < C6) (Pq UY fun Tp ZG => In Ia (n22 : Int) ∧ ∃ Md Ll Me Xf,Au σ Tp (ZG + Int.toNat Ia * 2) [.slice Md Ll Me,.int .u64 Xf] ∧ ∀ BG : Nat,Br (Hq = 1) (Spec prog 149 #[.slice Md Ll Me,.slice Hn Hr Hs] σ (AA R (CS fun p36 n36 c36 y => Fs R G5 GH Ig GV GX GY Ho F5 Hq Hn Hr Hs Ih Ie Ft Fu HD HE HF Fv Fy Fz m8 p9 n9 c9 Md Ll Me Xf p36 n36 c36 (aD Tp ZG) n22 TZ C6 Ia y))) (Br (Hq = 2) (Spec prog 150 #[.slice Md Ll Me,.slice Hn Hr Hs] σ (AA R (CS fun ia n43 ib y => Spec prog 146 #[.slice ia n43 ib] y (AA R (CS fun pq n44 yw AH => Fs R G5 GH Ig GV GX GY Ho F5 Hq Hn Hr Hs Ih Ie Ft Fu HD HE HF Fv Fy Fz m8 p9 n9 c9 Md Ll Me Xf pq n44 yw (aD Tp ZG) n22 TZ C6 Ia AH))))) (Fs R G5 GH Ig GV GX GY Ho F5 Hq Hn Hr Hs Ih Ie Ft Fu HD HE HF Fv Fy Fz m8 p9 n9 c9 Md Ll Me Xf none 0 0 (aD Tp ZG) n22 TZ C6 Ia σ))) (AK prog (Instr.makeMap 202 none) σ (fun z y => ∃ Z5,z = (.map (some Z5)) ∧ AK prog (Instr.mapUpdate 202 (.map (some Z5)) (.int .i64 1) (.func (.func 151) #[] #[])) y (fun _ AH => AK prog (Instr.mapUpdate 202 (.map (some Z5)) (.int .i64 2) (.func (.func 152) #[] #[])) AH (fun _ AL => AK prog (Instr.mapUpdate 202 (.map (some Z5)) (.int .i64 3) (.func (.func 153) #[] #[])) AL (fun _ Av => AK prog (Instr.mapUpdate 202 (.map (some Z5)) (.int .i64 4) (.func (.func 154) #[] #[])) Av (fun _ Hl => AK prog (Instr.mapUpdate 202 (.map (some Z5)) (.int .i64 5) (.func (.func 155) #[] #[])) Hl (fun _ Mc => AK prog (Instr.lookup 202 (.map (some Z5)) (.int .i64 GH) false) Mc (fun z ZB => ∃ v78,v78 = z ∧ P4 R Ft Fu HD HE HF Fv Fy Fz v78 none 0 0 p9 n9 c9 (n9 : Int) 0 ZB))))))))) : E1 R G5 GH Ig GV GX GY Ho F5 Hq Hn Hr Hs Ih Ie Ft Fu HD HE HF Fv Fy Fz m8 p9 n9 c9 UY n22 TZ C6 Ia σ := M.fH h ok rfl fun _ _ => by kernel_rfl
theorem QN (h : Br (x81 < x80) (Pq p79 fun dM dO => In x81 (n79 : Int) ∧ LQ σ dM (dO + Int.toNat x81 * 1) fun q84 => Pq q84 fun b87 o87 => LS σ b87 o87 fun p89 n89 c89 => LS σ b87 (o87 + 1) fun qz q4 q6 => ∃ (f95 : Nat) (Xz X0 : Array Value),qD = .func (.func f95) Xz X0 ∧ Enters prog f95 ∧ Spec prog f95 (Xz ++ #[.slice qz q4 q6] ++ X0) σ (AA R (CI .u64 fun x95 y => Kp [b87] σ y ∧ Al y fun b97 => AK prog (Builtin.append_ #[67,67] 67 #[.slice EA n15 Dt,(.slice (aD b97 0) 1 1)]) (Hp.set y b97 (.cells #[.slice p89 n89 c89,.int .u64 x95] 71 (0,0))) (CS fun p98 n98 c98 AH => AG (x81 + 1) ∧ P4 R Ft Fu HD HE HF Fv Fy Fz qD p98 n98 c98 (aD dM dO) n79 c79 x80 (x81 + 1) AH)))) (Spec prog 148 #[.slice EA n15 Dt] σ (AA R (fun z y => ∃ mL mM mN mO mP mQ mR mS wZ,z = (.tuple #[.agg #[.int .i64 mL,.int .u64 mM,.slice mN mO mP,.slice mQ mR mS],.int .i64 wZ]) ∧ R (.returned (.tuple #[.agg #[.int .i64 mL,.int .u64 mM,.slice mN mO mP,.slice mQ mR mS],.int .i64 wZ])) y)))) : P4 R Ft Fu HD HE HF Fv Fy Fz qD EA n15 Dt p79 n79 c79 x80 x81 σ := M.pb h ok rfl fun _ => by kernel_rfl
theorem GF (h : Spec prog 49 #[.slice rk n12 qC] σ (AA R (CT fun s47 y => AK prog (Instr.lookup 197 (.map m8) (.string s47) false) y (CQ fun q48 AH => Bo (Option.isNone q48) (Al AH fun Oe => Spec prog 49 #[.slice rk n12 qC] (Hp.set AH Oe (.cells #[.slice rk n12 qC,.slice none 0 0] 189 (0,0))) (AA R (CT fun s56 AL => AK prog (Instr.mapUpdate 197 (.map m8) (.string s56) (.pointer (aD Oe 0))) AL (fun _ Av => Al Av fun Ms => AK prog (Builtin.append_ #[198,198] 198 #[.slice p9 n9 c9,(.slice (aD Ms 0) 1 1)]) (Hp.set Av Ms (.cells #[(.pointer (aD Oe 0))] 200 (0,0))) (CS fun zz n61 c61 Hl => mK R G5 GH Ig GV GX GY Ho F5 Hq Hn Hr Hs Ih Ie Ft Fu HD HE HF Fv Fy Fz m8 zz n61 c61 Li Lj Lk aP (aD Oe 0) UY n22 TZ C6 Ia Hl))))) (mK R G5 GH Ig GV GX GY Ho F5 Hq Hn Hr Hs Ih Ie Ft Fu HD HE HF Fv Fy Fz m8 p9 n9 c9 Li Lj Lk aP q48 UY n22 TZ C6 Ia AH))))) : Fs R G5 GH Ig GV GX GY Ho F5 Hq Hn Hr Hs Ih Ie Ft Fu HD HE HF Fv Fy Fz m8 p9 n9 c9 Li Lj Lk aP rk n12 qC UY n22 TZ C6 Ia σ := M.of3 h ok rfl fun _ _ _ => by kernel_rfl
theorem sJ (h : Pq q13 fun b64 o64 => LS σ b64 (o64 + 1) fun po kL ct => Al σ fun iu => AK prog (Builtin.append_ #[187,187] 187 #[.slice po kL ct,(.slice (aD iu 0) 1 1)]) (Hp.set σ iu (.cells #[.int .u64 aP] 48 (0,0))) (CS fun p70 n70 c70 y => AK prog (Instr.storeAt 187 (.pointer (aD b64 (o64 + 1))) (.slice p70 n70 c70)) y (fun _ AH => AG (Ia + 1) ∧ E1 R G5 GH Ig GV GX GY Ho F5 Hq Hn Hr Hs Ih Ie Ft Fu HD HE HF Fv Fy Fz m8 p9 n9 c9 UY n22 TZ C6 (Ia + 1) AH))) : mK R G5 GH Ig GV GX GY Ho F5 Hq Hn Hr Hs Ih Ie Ft Fu HD HE HF Fv Fy Fz m8 p9 n9 c9 Li Lj Lk aP q13 UY n22 TZ C6 Ia σ := M.of3 h ok rfl fun _ _ _ => by kernel_rfl
end AQ
namespace Sb
variable {Eu ES Pz NC Hk JM : Int} {P0 : ByteArray} {Ua RC : Option Addr} {To Ub QL RD : Nat} {Mb : Bool}
def M : Fw := ⟨prog,121,f121,[],[1,2],false,[(12,7,false),(15,7,false),(18,11,false),(21,15,false)],[],[]⟩
theorem ok : M.Ok := ⟨AJ.nil,mixed,func121,by kernel_rfl⟩
theorem start (h : ∀ b1 : Nat,∀ b2 : Nat,Al σ fun b3 => AK prog (Instr.storeAt 36 (.pointer (aD b3 0)) (.agg #[.int .i64 Eu,.int .i64 0,(.string (ByteArray.mk #[])),.slice none 0 0,.int .i64 0,.int .i64 0,.int .i64 0,.slice none 0 0,.bool false,.int .i64 0])) (Hp.set σ b3 (.cells #[.int .i64 0,.int .i64 0,(.string (ByteArray.mk #[])),.slice none 0 0,.int .i64 0,.int .i64 0,.int .i64 0,.slice none 0 0,.bool false,.int .i64 0] 36 (0,0))) (fun _ y => Br (Eu = 1) (AK prog (Instr.storeAt 9 (.pointer (aD b3 2)) (.string P0)) y (fun _ AH => ∃ mT mU mV mW mX mY mZ mc me mg mh mi mj ml,Au AH b3 0 [.int .i64 mT,.int .i64 mU,.string mV,.slice mW mX mY,.int .i64 mZ,.int .i64 mc,.int .i64 me,.slice mg mh mi,.bool mj,.int .i64 ml] ∧ R (.returned (.agg #[.int .i64 mT,.int .i64 mU,.string mV,.slice mW mX mY,.int .i64 mZ,.int .i64 mc,.int .i64 me,.slice mg mh mi,.bool mj,.int .i64 ml])) AH)) (Br (Eu = 2) (AK prog (Instr.storeAt 2 (.pointer (aD b3 5)) (.int .i64 NC)) y (fun _ AH => ∃ fk fl AFi AFj AFk AFl AFm AFn AFo AFp AFq AFr AFs AFt,Au AH b3 0 [.int .i64 fk,.int .i64 fl,.string AFi,.slice AFj AFk AFl,.int .i64 AFm,.int .i64 AFn,.int .i64 AFo,.slice AFp AFq AFr,.bool AFs,.int .i64 AFt] ∧ R (.returned (.agg #[.int .i64 fk,.int .i64 fl,.string AFi,.slice AFj AFk AFl,.int .i64 AFm,.int .i64 AFn,.int .i64 AFo,.slice AFp AFq AFr,.bool AFs,.int .i64 AFt])) AH)) (Br (Eu = 3) (AK prog (Instr.storeAt 2 (.pointer (aD b3 4)) (.int .i64 Pz)) y (fun _ AH => AK prog (Instr.storeAt 2 (.pointer (aD b3 5)) (.int .i64 NC)) AH (fun _ AL => ∃ Xh AFu AFv AFw AFx AFy AFz AF0 AF1 AF2 AF3 AF4 AF5 AF6,Au AL b3 0 [.int .i64 Xh,.int .i64 AFu,.string AFv,.slice AFw AFx AFy,.int .i64 AFz,.int .i64 AF0,.int .i64 AF1,.slice AF2 AF3 AF4,.bool AF5,.int .i64 AF6] ∧ R (.returned (.agg #[.int .i64 Xh,.int .i64 AFu,.string AFv,.slice AFw AFx AFy,.int .i64 AFz,.int .i64 AF0,.int .i64 AF1,.slice AF2 AF3 AF4,.bool AF5,.int .i64 AF6])) AL))) (Br (Eu = 4) (AK prog (Instr.storeAt 3 (.pointer (aD b3 1)) (.int .i64 ES)) y (fun _ AH => AK prog (Instr.storeAt 3 (.pointer (aD b3 9)) (.int .i64 JM)) AH (fun _ AL => ∃ AF7 AF8 AF9 AGA AGB AGC AGD AGE AGF AGG AGH AGI AGJ AGK,Au AL b3 0 [.int .i64 AF7,.int .i64 AF8,.string AF9,.slice AGA AGB AGC,.int .i64 AGD,.int .i64 AGE,.int .i64 AGF,.slice AGG AGH AGI,.bool AGJ,.int .i64 AGK] ∧ R (.returned (.agg #[.int .i64 AF7,.int .i64 AF8,.string AF9,.slice AGA AGB AGC,.int .i64 AGD,.int .i64 AGE,.int .i64 AGF,.slice AGG AGH AGI,.bool AGJ,.int .i64 AGK])) AL))) (Br (Eu = 5) (AK prog (Instr.storeAt 3 (.pointer (aD b3 1)) (.int .i64 ES)) y (fun _ AH => AK prog (Instr.storeAt 3 (.pointer (aD b3 9)) (.int .i64 JM)) AH (fun _ AL => AK prog (Instr.storeAt 3 (.pointer (aD b3 6)) (.int .i64 Hk)) AL (fun _ Av => ∃ ke kg AGL kh ki kj AGM AGN AGO AGP AGQ AGR AGS AGT,Au Av b3 0 [.int .i64 ke,.int .i64 kg,.string AGL,.slice kh ki kj,.int .i64 AGM,.int .i64 AGN,.int .i64 AGO,.slice AGP AGQ AGR,.bool AGS,.int .i64 AGT] ∧ R (.returned (.agg #[.int .i64 ke,.int .i64 kg,.string AGL,.slice kh ki kj,.int .i64 AGM,.int .i64 AGN,.int .i64 AGO,.slice AGP AGQ AGR,.bool AGS,.int .i64 AGT])) Av)))) (Br (Eu = 6) (AK prog (Instr.storeAt 3 (.pointer (aD b3 1)) (.int .i64 ES)) y (fun _ AH => AK prog (Instr.storeAt 3 (.pointer (aD b3 9)) (.int .i64 JM)) AH (fun _ AL => AK prog (Instr.storeAt 4 (.pointer (aD b3 8)) (.bool Mb)) AL (fun _ Av => AK prog (Instr.storeAt 3 (.pointer (aD b3 6)) (.int .i64 Hk)) Av (fun _ Hl => ∃ AGU AGV AGW AGX AGY AGZ AGa AGb AGc AGd AGe AGf AGg AGh,Au Hl b3 0 [.int .i64 AGU,.int .i64 AGV,.string AGW,.slice AGX AGY AGZ,.int .i64 AGa,.int .i64 AGb,.int .i64 AGc,.slice AGd AGe AGf,.bool AGg,.int .i64 AGh] ∧ R (.returned (.agg #[.int .i64 AGU,.int .i64 AGV,.string AGW,.slice AGX AGY AGZ,.int .i64 AGa,.int .i64 AGb,.int .i64 AGc,.slice AGd AGe AGf,.bool AGg,.int .i64 AGh])) Hl))))) (AK prog (Instr.storeAt 3 (.pointer (aD b3 9)) (.int .i64 JM)) y (fun _ AH => ∃ AGi lK AGj AGk AGl AGm AGn AGo AGp AGq AGr AGs AGt AGu,Au AH b3 0 [.int .i64 AGi,.int .i64 lK,.string AGj,.slice AGk AGl AGm,.int .i64 AGn,.int .i64 AGo,.int .i64 AGp,.slice AGq AGr AGs,.bool AGt,.int .i64 AGu] ∧ R (.returned (.agg #[.int .i64 AGi,.int .i64 lK,.string AGj,.slice AGk AGl AGm,.int .i64 AGn,.int .i64 AGo,.int .i64 AGp,.slice AGq AGr AGs,.bool AGt,.int .i64 AGu])) AH))))))))) : Spec prog 121 #[.agg #[.int .i64 Eu,.int .i64 ES,.string P0,.slice Ua To Ub,.int .i64 Pz,.int .i64 NC,.int .i64 Hk,.slice RC QL RD,.bool Mb,.int .i64 JM]] σ R := M.start h ok
end Sb
namespace Sc
variable {x0 : Int}
def M : Fw := ⟨prog,143,f143,[],[],false,[],[],[]⟩
theorem ok : M.Ok := ⟨AJ.nil,mixed,func143,by kernel_rfl⟩
theorem start (h : AK prog (convert 2 51 (.int .i64 x0)) σ (fun z y => ∃ x4,(Value.float .f64 x4) = z ∧ EN prog 45 #[(Value.float .f64 x4)] y (CI .u64 fun x5 AH => R (.returned (.int .u64 x5)) AH))) : Spec prog 143 #[.int .i64 x0] σ R := M.start h ok
end Sc
namespace Kc
def M : Fw := ⟨prog,147,f147,[184,188],[],false,[],[],[]⟩
theorem ok : M.Ok := ⟨.cons call184 (.cons call188 (AJ.nil)),mixed,func147,by kernel_rfl⟩
theorem start (h : Spec prog 184 #[(.func (.func 151) #[] #[])] σ (AA R (fun z y => ∃ f1 a1 c1,(Value.func f1 a1 c1) = z ∧ Spec prog 184 #[(.func (.func 154) #[] #[])] y (AA R (fun z AH => ∃ f2 a2 c2,(Value.func f2 a2 c2) = z ∧ Spec prog 184 #[(.func (.func 152) #[] #[])] AH (AA R (fun z AL => ∃ f3 a3 c3,(Value.func f3 a3 c3) = z ∧ Spec prog 184 #[(.func (.func 153) #[] #[])] AL (AA R (fun z Av => ∃ f4 a4 c4,(Value.func f4 a4 c4) = z ∧ Spec prog 184 #[(.func (.func 155) #[] #[])] Av (AA R (fun z Hl => ∃ f5 a5 c5,(Value.func f5 a5 c5) = z ∧ Spec prog 184 #[(.func (.func 185) #[] #[])] Hl (AA R (fun z Mc => ∃ f6 a6 c6,(Value.func f6 a6 c6) = z ∧ Spec prog 184 #[(.func (.func 187) #[] #[])] Mc (AA R (fun z ZB => ∃ f7 a7 c7,(Value.func f7 a7 c7) = z ∧ Spec prog 188 #[(.func (.func 189) #[] #[])] ZB (AA R (fun z ZC => ∃ f8 a8 c8,(Value.func f8 a8 c8) = z ∧ Spec prog 188 #[(.func (.func 191) #[] #[])] ZC (AA R (fun z y_9 => ∃ f9 a9 c9,(Value.func f9 a9 c9) = z ∧ Spec prog 188 #[(.func (.func 193) #[] #[])] y_9 (AA R (fun z fW => ∃ f10 a10 NH,(Value.func f10 a10 NH) = z ∧ Al fW fun BG => R (.returned (.slice (aD BG 0) 11 11)) (Hp.set fW BG (.cells #[.nilFunc,(Value.func f10 a10 NH),(Value.func f9 a9 c9),(Value.func f8 a8 c8),(Value.func f1 a1 c1),(Value.func f2 a2 c2),(Value.func f3 a3 c3),(Value.func f4 a4 c4),(Value.func f5 a5 c5),(Value.func f6 a6 c6),(Value.func f7 a7 c7)] 195 (0,0)))))))))))))))))))))))) : Spec prog 147 #[] σ R := M.start h ok
end Kc
namespace MG
variable {p0 p1 : Option Addr} {n0 c0 n1 c1 : Nat}
def M : Fw := ⟨prog,150,f150,[197],[],false,[],[],[]⟩
theorem ok : M.Ok := ⟨.cons call197 (AJ.nil),mixed,func150,by kernel_rfl⟩
theorem start (h : Al σ fun b3 => Spec prog 197 #[.slice p0 n0 c0,(.func (.func 200) #[] #[(.pointer (aD b3 0))])] (Hp.set σ b3 (.cells #[.slice p1 n1 c1] 34 (0,0))) (AA R (CS fun p7 n7 c7 y => R (.returned (.slice p7 n7 c7)) y))) : Spec prog 150 #[.slice p0 n0 c0,.slice p1 n1 c1] σ R := M.start h ok
end MG
namespace PW
variable {x0 : Int}
def M : Fw := ⟨prog,162,f162,[186],[],false,[],[],[]⟩
theorem ok : M.Ok := ⟨.cons call186 (AJ.nil),mixed,func162,by kernel_rfl⟩
theorem start (h : Df (Go.bits .xor .u64 x0 9223372036854775808) fun x4 => Spec prog 186 #[.int .u64 x4] σ (AA R (CI .u64 fun x5 y => R (.returned (.int .u64 x5)) y))) : Spec prog 162 #[.int .u64 x0] σ R := M.start h ok
end PW
namespace MH
variable {Eu ES x1 : Int}
def M : Fw := ⟨prog,176,f176,[],[2],false,[],[],[]⟩
theorem ok : M.Ok := ⟨AJ.nil,mixed,func176,by kernel_rfl⟩
theorem start (h : ∀ b2 : Nat,Br (Eu ≤ x1) (R (.returned (.int .i64 (-1))) σ) (R (.returned (.int .i64 1)) σ)) : Spec prog 176 #[.agg #[.int .i64 Eu,.int .u64 ES],.int .i64 x1] σ R := M.start h ok
end MH
namespace Sd
variable {v0 : Value}
def M : Fw := ⟨prog,183,f183,[],[],false,[],[],[]⟩
theorem ok : M.Ok := ⟨AJ.nil,mixed,func183,by kernel_rfl⟩
theorem start (h : EN prog 222 #[v0] σ (fun z y => ∃ x4,(Value.float .f64 x4) = z ∧ R (.returned (Value.float .f64 x4)) y)) : Spec prog 183 #[v0] σ R := M.FD h ok [(0,.o (.V v0))] rfl rfl (by kernel_rfl)
end Sd
namespace DO
variable {p0 p1 : Option Addr} {n0 c0 n1 c1 : Nat}
def M : Fw := ⟨prog,193,f193,[192,194],[],false,[],[],[]⟩
theorem ok : M.Ok := ⟨.cons call192 (.cons call194 (AJ.nil)),mixed,func193,by kernel_rfl⟩
theorem start (h : Pq p1 fun b8 o8 => In 0 (n1 : Int) ∧ LI .u64 σ b8 (o8 + 1) fun x10 => Spec prog 192 #[.slice p0 n0 c0] σ (AA R (CI .u64 fun x6 y => Kp [b8] σ y ∧ Spec prog 194 #[.int .u64 x6,.int .u64 x10] y (AA R (CI .u64 fun x11 AH => R (.returned (.int .u64 x11)) AH))))) : Spec prog 193 #[.slice p0 n0 c0,.slice p1 n1 c1] σ R := M.start h ok
end DO
namespace eval_add
variable {x0 x1 : Int}
def M : Fw := ⟨prog,201,f201,[203],[],false,[],[],[]⟩
theorem ok : M.Ok := ⟨.cons call203 (AJ.nil),mixed,func201,by kernel_rfl⟩
theorem start (h : Spec prog 203 #[.int .i64 1,.int .u64 x0,.int .u64 x1] σ (AA R (fun z y => ∃ Jr Q8,z = (.tuple #[.int .u64 Jr,.bool Q8]) ∧ R (.returned (.int .u64 Jr)) y))) : Spec prog 201 #[.int .u64 x0,.int .u64 x1] σ R := M.start h ok
end eval_add
namespace Ng
variable {x0 x1 x2 : Int}
def M : Fw := ⟨prog,204,f204,[182],[],false,[],[],[]⟩
theorem ok : M.Ok := ⟨.cons call182 (AJ.nil),mixed,func204,by kernel_rfl⟩
theorem start (h : Spec prog 182 #[.int .u64 x1] σ (AA R (fun z y => ∃ x11,(Value.float .f64 x11) = z ∧ Spec prog 182 #[.int .u64 x2] y (AA R (fun z AH => ∃ FE,(Value.float .f64 FE) = z ∧ Br (x0 = 5) (∃ t19,YF prog ((do eqGuard .eql 51 (.tmp 17) (.tmp 18) (Value.float .f64 x11) (Value.float .f64 FE); binOp .eql 51 (Value.float .f64 x11) (Value.float .f64 FE))) AH (.bool t19) ∧ R (.returned (.tuple #[.bool t19,.bool true])) AH) (Br (x0 = 6) (∃ t24,YF prog ((do eqGuard .neq 51 (.tmp 22) (.tmp 23) (Value.float .f64 x11) (Value.float .f64 FE); binOp .neq 51 (Value.float .f64 x11) (Value.float .f64 FE))) AH (.bool t24) ∧ R (.returned (.tuple #[.bool t24,.bool true])) AH) (Br (x0 = 7) (∃ t29,YF prog ((do eqGuard .lss 51 (.tmp 27) (.tmp 28) (Value.float .f64 x11) (Value.float .f64 FE); binOp .lss 51 (Value.float .f64 x11) (Value.float .f64 FE))) AH (.bool t29) ∧ R (.returned (.tuple #[.bool t29,.bool true])) AH) (Br (x0 = 8) (∃ t34,YF prog ((do eqGuard .leq 51 (.tmp 32) (.tmp 33) (Value.float .f64 x11) (Value.float .f64 FE); binOp .leq 51 (Value.float .f64 x11) (Value.float .f64 FE))) AH (.bool t34) ∧ R (.returned (.tuple #[.bool t34,.bool true])) AH) (Br (x0 = 9) (∃ t39,YF prog ((do eqGuard .gtr 51 (.tmp 37) (.tmp 38) (Value.float .f64 x11) (Value.float .f64 FE); binOp .gtr 51 (Value.float .f64 x11) (Value.float .f64 FE))) AH (.bool t39) ∧ R (.returned (.tuple #[.bool t39,.bool true])) AH) (Br (x0 = 10) (∃ t44,YF prog ((do eqGuard .geq 51 (.tmp 42) (.tmp 43) (Value.float .f64 x11) (Value.float .f64 FE); binOp .geq 51 (Value.float .f64 x11) (Value.float .f64 FE))) AH (.bool t44) ∧ R (.returned (.tuple #[.bool t44,.bool true])) AH) (R (.returned (.tuple #[.bool false,.bool false])) AH))))))))))) : Spec prog 204 #[.int .i64 x0,.int .u64 x1,.int .u64 x2] σ R := M.start h ok
end Ng
namespace Gw
variable {Eu ES Pz NC Hk JM x2a x2b x2e x2f x2g x2j x11 x12 : Int} {P0 s2c : ByteArray} {Ua RC p1 p2d p2h QM : Option Addr} {To Ub QL RD n1 c1 n2d c2d n2h c2h n10 NH : Nat} {Mb t2i : Bool} {m6 : Option Nat}
def M : Fw := ⟨prog,206,f206,[49,207],[2,8],false,[(5,7,false)],[],[(232,[(1,wL),(2,.X 36 [.I .i64,.I .i64,.T,.L,.I .i64,.I .i64,.I .i64,.L,.B,.I .i64]),(6,wM),(10,wL),(11,wI),(12,wI)])]⟩
theorem ok : M.Ok := ⟨.cons call49 (.cons call207 (AJ.nil)),mixed,func206,by kernel_rfl⟩
def BA := M.pt 0
theorem start (h : ∀ b2 : Nat,AK prog (Instr.makeMap 243 none) σ (fun z y => ∃ m9,z = (.map (some m9)) ∧ BA R p1 n1 c1 Eu ES P0 Ua To Ub Pz NC Hk RC QL RD Mb JM (some m9) p1 n1 c1 (n1 : Int) 0 y)) : Spec prog 206 #[.agg #[.int .i64 Eu,.int .i64 ES,.string P0,.slice Ua To Ub,.int .i64 Pz,.int .i64 NC,.int .i64 Hk,.slice RC QL RD,.bool Mb,.int .i64 JM],.slice p1 n1 c1] σ R := M.start h ok
theorem Ac (h : Br (x12 < x11) (Pq QM fun Bt TY => In x12 (n10 : Int) ∧ ∃ AAD AAE AAF aO,Au σ Bt (TY + Int.toNat x12 * 2) [.slice AAD AAE AAF,.int .u64 aO] ∧ ∀ b8 : Nat,Spec prog 207 #[.agg #[.int .i64 x2a,.int .i64 x2b,.string s2c,.slice p2d n2d c2d,.int .i64 x2e,.int .i64 x2f,.int .i64 x2g,.slice p2h n2h c2h,.bool t2i,.int .i64 x2j],.slice AAD AAE AAF] σ (AA R (CS fun p20 n20 c20 y => Spec prog 49 #[.slice p20 n20 c20] y (AA R (CT fun yn AH => AK prog (Instr.mapUpdate 243 (.map m6) (.string yn) (.agg #[.slice AAD AAE AAF,.int .u64 aO])) AH (fun _ AL => AG (x12 + 1) ∧ BA R p1 n1 c1 x2a x2b s2c p2d n2d c2d x2e x2f x2g p2h n2h c2h t2i x2j m6 (aD Bt TY) n10 NH x11 (x12 + 1) AL)))))) (∃ ic,YF prog (Builtin.len_ #[243] 3 #[.map m6]) σ (.int .i64 ic) ∧ R (.returned (.tuple #[.map m6,(.bool (decide (ic = (n1 : Int))))])) σ)) : BA R p1 n1 c1 x2a x2b s2c p2d n2d c2d x2e x2f x2g p2h n2h c2h t2i x2j m6 QM n10 NH x11 x12 σ := M.pb h ok rfl fun _ => by kernel_rfl
end Gw
namespace Dq
variable {PL : Option Addr} {JV OC : Nat} {ZD s1 : ByteArray}
def M : Fw := ⟨prog,219,f219,[236],[2],false,[],[],[]⟩
theorem ok : M.Ok := ⟨.cons call236 (AJ.nil),mixed,func219,by kernel_rfl⟩
theorem start (h : ∀ b2 : Nat,Spec prog 236 #[.agg #[.slice PL JV OC],.string s1] σ (AA R (CB fun t8 y => R (.returned (.bool t8)) y))) : Spec prog 219 #[.agg #[.slice PL JV OC,.string ZD],.string s1] σ R := M.start h ok
end Dq
end TwW
end
end
section
namespace Tw
open Go
variable [Er]
def A4 (τ : Hp) : List (Nat × Obj) → Hp
 | [] => τ
 | (b,o) :: L => (A4 τ L).set b o
abbrev names (L : List (Nat × Obj)) : List Nat := L.map Prod.fst
section
variable {τ : Hp} {L : List (Nat × Obj)} {b i : Nat} {o o' : Obj}
theorem IC (h : b ∉ names L) : A4 τ L b = τ b := by
 induction L with
 | nil => rfl
 | cons p L ih =>
   simp only [names,List.map_cons,List.mem_cons,not_or] at h
   simp only [A4,Hp.AO h.1]
   exact ih h.2
theorem Ed : ∀ {L : List (Nat × Obj)} {i : Nat},(names L).Nodup → L[i]? = some (b,o) → A4 τ L b = some o
 | p :: L,0,_,h => by simp at h; subst h; exact Hp.AB _ _ _
 | p :: L,i + 1,hn,h => by
   simp only [List.getElem?_cons_succ] at h
   have hm : b ∈ names L := List.mem_map.2 ⟨_,List.mem_of_getElem? h,rfl⟩
   have hn := List.nodup_cons.1 (show (p.1 :: names L).Nodup from hn)
   have BD : b ≠ p.1 := fun e => hn.1 (e ▸ hm)
   simp only [A4,Hp.AO BD]
   exact Ed hn.2 h
theorem Hp.Kd {σ : Hp} {a b : Nat} {o u : Obj} (h : a ≠ b) : (σ.set a o).set b u = (σ.set b u).set a o := by
 funext k
 simp only [Hp.set]
 by_cases h1 : k = a
 · subst h1; simp [h]
 · simp [h1]
theorem Nh : ∀ {L : List (Nat × Obj)} {i : Nat},(names L).Nodup → L[i]? = some (b,o) → (A4 τ L).set b o' = A4 τ (L.set i (b,o'))
 | p :: L,0,_,h => by simp at h; subst h; exact Hp.set_set
 | p :: L,i + 1,hn,h => by
   simp only [List.getElem?_cons_succ] at h
   have hm : b ∈ names L := List.mem_map.2 ⟨_,List.mem_of_getElem? h,rfl⟩
   have hn := List.nodup_cons.1 (show (p.1 :: names L).Nodup from hn)
   have BD : b ≠ p.1 := fun e => hn.1 (e ▸ hm)
   simp only [A4,List.set_cons_succ]
   rw [Hp.Kd (Ne.symm BD),Nh hn.2 h]
theorem Gx : ∀ {L : List (Nat × Obj)},b ∉ names L → (A4 τ L).set b o = A4 (τ.set b o) L
 | [],_ => rfl
 | p :: L,h => by
   simp only [names,List.map_cons,List.mem_cons,not_or] at h
   simp only [A4]
   rw [Hp.Kd (Ne.symm h.1),Gx h.2]
theorem Uk : ∀ {L : List (Nat × Obj)},b ∈ names L → A4 τ L b ≠ none
 | p :: L,h => by
   by_cases hb : b = p.1
   · subst hb; simp only [A4,Hp.AB]; simp
   · simp only [names,List.map_cons,List.mem_cons] at h
     simp only [A4,Hp.AO hb]
     exact Uk (h.resolve_left hb)
theorem CH (h : A4 τ L b = none) : b ∉ names L ∧ τ b = none := by
 have hs : ∀ {L : List (Nat × Obj)},b ∉ names L → A4 τ L b = τ b := IC
 have hn : b ∉ names L := fun hm => Uk hm h
 exact ⟨hn,(hs hn).symm.trans h⟩
def PY (L : List (Nat × Obj)) (τ : Hp) : Prop := ∀ b ∈ names L,τ b = none
theorem PY.ext {τ : Hp} : ∀ {L : List (Nat × Obj)},(names L).Nodup → PY L τ → Ext τ (A4 τ L)
 | [],_,_ => .refl τ
 | p :: L,hn,h => by
   have hn := List.nodup_cons.1 (show (p.1 :: names L).Nodup from hn)
   have ih := PY.ext hn.2 (fun b hb => h b (List.mem_cons_of_mem _ hb))
   refine ih.trans (.set ?_)
   rw [IC hn.1]
   exact h _ (List.mem_cons_self ..)
theorem PY.set {τ : Hp} {b : Nat} {o : Obj} (h : PY L τ) (hb : b ∉ names L) : PY L (τ.set b o) := fun c hc => by
 have BD : c ≠ b := fun e => hb (e ▸ hc)
 rw [Hp.AO BD]; exact h c hc
end
theorem Spec.Ee {P : Program} {f : FuncId} {args : Array Value} {τ : Hp} : ∀ {L : List (Nat × Obj)} {R : Rr},(names L).Nodup → PY L τ →
   Spec P f args τ (fun e τ' => PY L τ' → R e (A4 τ' L)) → Spec P f args (A4 τ L) R
 | [],R,_,_,h => h.mono fun e τ' hr => hr (fun b hb => by cases hb)
 | p :: L,R,hn,ho,h => by
   have hn := List.nodup_cons.1 (show (p.1 :: names L).Nodup from hn)
   refine Spec.Gk (by rw [IC hn.1]; exact ho _ (List.mem_cons_self ..)) ?_
   refine Spec.Ee hn.2 (fun b hb => ho b (List.mem_cons_of_mem _ hb)) (h.mono fun e τ' hr Ts HT => hr fun b hb => ?_)
   rcases List.mem_cons.1 (show b ∈ p.1 :: names L from hb) with rfl | hb
   · rw [IC hn.1] at HT; exact HT
   · exact Ts b hb
theorem AK.Ee {P : Program} {α : Type} {m : Sem α} {τ : Hp} : ∀ {L : List (Nat × Obj)} {Φ : α → Hp → Prop},(names L).Nodup → PY L τ →
   AK P m τ (fun v τ' => PY L τ' → Φ v (A4 τ' L)) → AK P m (A4 τ L) Φ
 | [],R,_,_,h => h.mono fun e τ' hr => hr (fun b hb => by cases hb)
 | p :: L,R,hn,ho,h => by
   have hn := List.nodup_cons.1 (show (p.1 :: names L).Nodup from hn)
   refine AK.Gk (by rw [IC hn.1]; exact ho _ (List.mem_cons_self ..)) ?_
   refine AK.Ee hn.2 (fun b hb => ho b (List.mem_cons_of_mem _ hb)) (h.mono fun e τ' hr Ts HT => hr fun b hb => ?_)
   rcases List.mem_cons.1 (show b ∈ p.1 :: names L from hb) with rfl | hb
   · rw [IC hn.1] at HT; exact HT
   · exact Ts b hb
theorem AK.Se {P : Program} {τ : Hp} {L : List (Nat × Obj)} {i b n o : Nat} {T t : TypeId} {c c' : Array Value} {v : Value} {Φ : Unit → Hp → Prop} (hz : ∀ w,(Go.sizeOf T).run P w = .ok n w) (hn : (names L).Nodup) (hi : L[i]? = some (b,.cells c t (0,0)))
   (hv : v.cells.size = n) (hl : Nat.ble (o + n) c.size = true) (h1 : (v.cells.toList.all fun u => u.oneCell') = true) (hc : Mz c o v.cells.toList = c') (h : Φ () (A4 τ (L.set i (b,.cells c' t (0,0))))) :
   AK P (Instr.storeAt T (.pointer (some ⟨b,o,none⟩)) v) (A4 τ L) Φ := by
 subst hc
 refine AK.store hz (Ed hn hi) hv (Nat.le_of_ble_eq_true hl) (fun u hu => List.all_eq_true.1 h1 u hu) ?_
 rw [Nh hn hi]; exact h
theorem YA {τ : Hp} {L : List (Nat × Obj)} {i b o : Nat} {t : TypeId} {c : Array Value} {v : Value} (hn : (names L).Nodup) (hi : L[i]? = some (b,.cells c t (0,0))) (h : c[o]? = some v) : Hp.ld (A4 τ L) ⟨b,o,none⟩ = some v := by
 simp [Hp.ld,Ed hn hi,h]
end Tw
end
section
namespace Tw
open Go Go.MapKept
variable [Er]
def Qg (p : Option Addr) : List Nat := match p with
 | some a => [a.block]
 | none => []
structure Loc (A : Hp → Prop) (σ : Hp) (S : List Nat) : Prop where
 here : A σ
 known : ∀ b ∈ S,σ b ≠ none
 loc : ∀ σ',(∀ b ∈ S,σ' b = σ b) → A σ'
section
variable {P : Program} {σ : Hp} {α : Type}
theorem AK.obj {m : Sem α} {b : Nat} {o o' : Obj} {v : α} {Φ : α → Hp → Prop} (hb : σ b = some o) (hm : ∀ w,Sat σ w → ∃ w1 : World,(w1 = w ∨ w1 = w.drew) ∧ m.run P w = .ok v (ChangeMaps.setBlock w1 b o')) (h : Φ v (σ.set b o')) : AK P m σ Φ := fun w F hs hF => by
 obtain ⟨w1,hw,B9⟩ := hm w hs
 have Az : b < w.heap.size := (Array.getElem?_eq_some_iff.1 (hs b o hb)).1
 have M0 : w1.heap = w.heap := by rcases hw with rfl | rfl <;> rfl
 refine ⟨v,_,_,B9,h,fun k u hk => ?_,fun k hk => ?_,?_,?_,?_⟩
 · simp only [ChangeMaps.setBlock,M0]
   by_cases Gj : k = b
   · subst Gj; rw [Hp.AB] at hk; cases hk; simp [Az]
   · rw [Hp.AO Gj] at hk; simp [Ne.symm Gj,hs k u hk]
 · have Gj : k ≠ b := fun e => by have := (hF k hk).2; rw [e,hb] at this; cases this
   refine ⟨by rw [Hp.AO Gj]; exact (hF k hk).2,?_⟩
   simp [ChangeMaps.setBlock,M0,Ne.symm Gj]
 · rcases hw with rfl | rfl
   · exact .same rfl rfl rfl
   · exact ⟨rfl,rfl,fun _ => ⟨1,rfl⟩⟩
 · rcases hw with rfl | rfl <;> rfl
 · simp [ChangeMaps.setBlock,M0]
theorem AK.new {m : Sem α} {o : Obj} {v : Nat → α} {Φ : α → Hp → Prop} (hm : ∀ w,Sat σ w → m.run P w = .ok (v w.heap.size) (w.alloc o)) (h : ∀ b,σ b = none → Φ (v b) (σ.set b o)) : AK P m σ Φ := fun w F hs hF =>
 ⟨_,_,_,hm w hs,h _ (FT hs),Fin.alloc hs hF _ rfl (.same rfl rfl rfl) rfl⟩
class mn (P : Program) (T : TypeId) (K V : outParam TypeId) : Prop where
 cB : P.underlying T = some (.map K V)
 key : P.underlying K = some .string
def BV (σ : Hp) (b : Nat) (l : List MapEntry) (clock : Nat) : Prop := σ b = some (.map l.toArray clock) ∧ Stamped l.toArray clock ∧ ∀ x ∈ l,IsKey .string x.key
theorem BV.mono {σ σ' : Hp} {b : Nat} {l : List MapEntry} {clock : Nat} (h : BV σ b l clock) (hx : Ext σ σ') : BV σ' b l clock := ⟨hx _ _ h.1,h.2⟩
theorem BV.loc {σ σ' : Hp} {b : Nat} {l : List MapEntry} {clock : Nat} (h : BV σ b l clock) (hx : σ' b = σ b) : BV σ' b l clock := ⟨hx.trans h.1,h.2⟩
theorem BV.nodup {σ : Hp} {b : Nat} {l : List MapEntry} {clock : Nat} (h : BV σ b l clock) : (l.map (·.key)).Nodup := h.2.1.2.2
theorem FJ {s : ByteArray} {l : List MapEntry} (hk : ∀ x ∈ l,IsKey .string x.key) :
   (Instr.findNow .string (.string s) l 0 = some none ∧ ∀ x ∈ l,x.key ≠ .string s) ∨ ∃ l1 e l2,l = l1 ++ e :: l2 ∧ e.key = .string s ∧ Instr.findNow .string (.string s) l 0 = some (some (l1.length,e.val)) := by
 rcases findNow_spec (d := .string) (k := .string s) trivial l 0 hk with h | ⟨j,e,h1,h2,h3⟩
 · exact .inl h
 · obtain ⟨hj,rfl⟩ := List.getElem?_eq_some_iff.1 h2
   refine .inr ⟨l.take j,l[j],l.drop (j + 1),?_,h3,?_⟩
   · rw [List.getElem_cons_drop,List.take_append_drop]
   · rw [h1]; simp [Nat.min_eq_left (Nat.le_of_lt hj)]
section
variable {T K V ty : TypeId} {b clock : Nat} {l : List MapEntry} {s : ByteArray}
theorem EF {Φ : Value → Hp → Prop} (h : ∀ b,σ b = none → Φ (.map (some b)) (σ.set b (.map #[] 0))) : AK P (Instr.makeMap T none) σ Φ :=
 AK.new (v := fun b => .map (some b)) (fun w _ => by simp [Instr.makeMap,Result.andThen]) h
theorem BV.fresh {b : Nat} {σ : Hp} : BV (σ.set b (.map #[] 0)) b [] 0 := ⟨Hp.AB _ _ _,stamped_empty 0,by simp⟩
theorem Oj [t : mn P T K V] (hm : BV σ b l clock) {z : Value} (hz : ∀ w,(zeroValue V).run P w = .ok z w) {Q : Value → Prop}
   (h0 : (∀ x ∈ l,x.key ≠ .string s) → Q z) (h1 : ∀ l1 e l2,l = l1 ++ e :: l2 → e.key = .string s → Q e.val) : ∃ v,Q v ∧ YF P (Instr.lookup T (.map (some b)) (.string s) false) σ v := by
 rcases FJ (s := s) hm.2.2 with ⟨hf,hn⟩ | ⟨l1,e,l2,hl,he,hf⟩
 · refine ⟨z,h0 hn,fun w hs => ?_⟩
   have := hs _ _ hm.1
   simp [Instr.lookup,run_underlying t.cB,run_getObj_map this,run_checkKey t.key (k := .string s) trivial,run_findKey t.key hf,hz,Result.andThen]
 · refine ⟨e.val,h1 l1 e l2 hl he,fun w hs => ?_⟩
   have := hs _ _ hm.1
   simp [Instr.lookup,run_underlying t.cB,run_getObj_map this,run_checkKey t.key (k := .string s) trivial,run_findKey t.key hf,Result.andThen]
theorem Mf [t : mn P T K V] (hm : BV σ b l clock) {z : Value} (hz : ∀ w,(zeroValue V).run P w = .ok z w) {Φ : Value → Hp → Prop}
   (h0 : (∀ x ∈ l,x.key ≠ .string s) → Φ z σ) (h1 : ∀ l1 e l2,l = l1 ++ e :: l2 → e.key = .string s → Φ e.val σ) : AK P (Instr.lookup T (.map (some b)) (.string s) false) σ Φ := by
 obtain ⟨v,hq,hy⟩ := Oj (T := T) (K := K) (s := s) (Q := fun v => Φ v σ) hm hz h0 h1
 exact AK.pu hy hq
theorem mq [t : mn P T K V] (hm : BV σ b l clock) : YF P (Builtin.len_ #[T] ty #[.map (some b)]) σ (.int .i64 l.length) := fun w hs => by
 have := hs _ _ hm.1
 simp [Builtin.len_,run_underlying t.cB,run_getObj_map this,goInt,Result.andThen]
abbrev M6 (s : ByteArray) (v : Value) (n : Nat) : MapEntry := { key := .string s,val := v,born := n }
theorem Hh [t : mn P T K V] (hm : BV σ b l clock) {v : Value} {Φ : Unit → Hp → Prop}
   (h0 : (∀ x ∈ l,x.key ≠ .string s) → ∀ σ',σ' = σ.set b (.map (l ++ [M6 s v clock]).toArray (clock + 1)) → BV σ' b (l ++ [M6 s v clock]) (clock + 1) → Φ () σ')
   (h1 : ∀ l1 e l2,l = l1 ++ e :: l2 → e.key = .string s → ∀ σ',σ' = σ.set b (.map (l1 ++ M6 s v e.born :: l2).toArray clock) → BV σ' b (l1 ++ M6 s v e.born :: l2) clock → Φ () σ') :
   AK P (Instr.mapUpdate T (.map (some b)) (.string s) v) σ Φ := by
 obtain ⟨hb,Fp,hk⟩ := hm
 rcases FJ (s := s) hk with ⟨hf,hn⟩ | ⟨l1,e,l2,hl,he,hf⟩
 · have YB : (l ++ [M6 s v clock]).toArray = l.toArray.push (M6 s v clock) := by simp
   refine AK.obj (v := ()) (o' := .map (l ++ [M6 s v clock]).toArray (clock + 1)) hb (fun w hs => ⟨w,.inl rfl,?_⟩) (h0 hn _ rfl ⟨Hp.AB _ _ _,?_,?_⟩)
   · have := hs _ _ hb
     rw [YB]
     simp only [Instr.mapUpdate,Sem.run_bind,run_underlying t.cB,run_getObj_map this,run_checkKey t.key (k := .string s) trivial,run_findKey t.key hf,Result.andThen_ok]
     simp [setObj,Sem.run,this,ChangeMaps.setBlock]
   · rw [YB]; exact stamped_push Fp (by simpa using hn)
   · intro x hx
     rcases List.mem_append.1 hx with hx | hx
     · exact hk x hx
     · rw [List.mem_singleton] at hx; subst hx; trivial
 · subst hl
   have mr : (l1 ++ M6 s v e.born :: l2).toArray = (l1 ++ e :: l2).toArray.modify l1.length (fun e => { e with key := .string s,val := v }) := by
     rw [← Array.toList_inj]
     apply List.ext_getElem?
     intro j
     simp only [Array.getElem?_toList,Array.getElem?_modify,List.getElem?_toArray]
     by_cases hj : l1.length = j
     · subst hj; simp
     · rw [if_neg hj]
       rcases Nat.lt_or_ge j l1.length with h | h
       · rw [List.getElem?_append_left h,List.getElem?_append_left h]
       · have : ∃ k,j = l1.length + (k + 1) := ⟨j - l1.length - 1,by omega⟩
         obtain ⟨k,rfl⟩ := this
         simp [List.getElem?_append_right]
   have Ul : (l1 ++ e :: l2).toArray[l1.length]? = some e := by simp
   refine AK.obj (v := ()) (o' := .map (l1 ++ M6 s v e.born :: l2).toArray clock) hb (fun w hs => ⟨w,.inl rfl,?_⟩) (h1 l1 e l2 rfl he _ rfl ⟨Hp.AB _ _ _,?_,?_⟩)
   · have := hs _ _ hb
     rw [mr]
     simp only [Instr.mapUpdate,Sem.run_bind,run_underlying t.cB,run_getObj_map this,run_checkKey t.key (k := .string s) trivial,run_findKey t.key hf,Result.andThen_ok,Ul,Option.map_some,Option.getD_some,he,
       run_keyThatStays (d := .string) (k := .string s) trivial]
     simp [setObj,Sem.run,this,ChangeMaps.setBlock]
   · rw [mr]; exact stamped_modify Fp _ _ (fun _ _ => rfl) (fun e' _ QQ => by rw [Ul] at QQ; cases QQ; exact he.symm)
   · intro x hx
     rcases List.mem_append.1 hx with hx | hx
     · exact hk x (List.mem_append_left _ hx)
     · rcases List.mem_cons.1 hx with rfl | hx
       · trivial
       · exact hk x (List.mem_append_right _ (List.mem_cons_of_mem _ hx))
end
end
end Tw
end
section
theorem Tw.Hp.Bq {σ : Tw.Hp} {b k : Nat} {o : Go.Obj} (h : (σ.set b o) k = none) : k ≠ b ∧ σ k = none := by
 have BD : k ≠ b := fun e => by rw [e,Tw.Hp.AB] at h; cases h
 exact ⟨BD,by rw [Tw.Hp.AO BD] at h; exact h⟩
namespace mu
open Go Go.MapKept Tw
variable [Er]
section
variable {P : Program} {σ : Hp}
class qE (P : Program) (T : TypeId) (K V : outParam TypeId) : Prop where
 cB : P.underlying T = some (.map K V)
 key : P.underlying K = some (.int .i64)
def BV (σ : Hp) (b : Nat) (l : List MapEntry) (clock : Nat) : Prop := σ b = some (.map l.toArray clock) ∧ Stamped l.toArray clock ∧ ∀ x ∈ l,IsKey (.int .i64) x.key
theorem BV.loc {σ σ' : Hp} {b : Nat} {l : List MapEntry} {clock : Nat} (h : BV σ b l clock) (hx : σ' b = σ b) : BV σ' b l clock := ⟨hx.trans h.1,h.2⟩
theorem FJ {s : Int} {l : List MapEntry} (hk : ∀ x ∈ l,IsKey (.int .i64) x.key) :
   (Instr.findNow (.int .i64) (.int .i64 s) l 0 = some none ∧ ∀ x ∈ l,x.key ≠ .int .i64 s) ∨ ∃ l1 e l2,l = l1 ++ e :: l2 ∧ e.key = .int .i64 s ∧ Instr.findNow (.int .i64) (.int .i64 s) l 0 = some (some (l1.length,e.val)) := by
 rcases findNow_spec (d := .int .i64) (k := .int .i64 s) rfl l 0 hk with h | ⟨j,e,h1,h2,h3⟩
 · exact .inl h
 · obtain ⟨hj,rfl⟩ := List.getElem?_eq_some_iff.1 h2
   refine .inr ⟨l.take j,l[j],l.drop (j + 1),?_,h3,?_⟩
   · rw [List.getElem_cons_drop,List.take_append_drop]
   · rw [h1]; simp [Nat.min_eq_left (Nat.le_of_lt hj)]
section
variable {T K V ty : TypeId} {b clock : Nat} {l : List MapEntry} {s : Int}
theorem BV.fresh {b : Nat} {σ : Hp} : BV (σ.set b (.map #[] 0)) b [] 0 := ⟨Hp.AB _ _ _,stamped_empty 0,by simp⟩
theorem Oj [t : qE P T K V] (hm : BV σ b l clock) {z : Value} (hz : ∀ w,(zeroValue V).run P w = .ok z w) {Q : Value → Prop}
   (h0 : (∀ x ∈ l,x.key ≠ .int .i64 s) → Q z) (h1 : ∀ l1 e l2,l = l1 ++ e :: l2 → e.key = .int .i64 s → Q e.val) : ∃ v,Q v ∧ YF P (Instr.lookup T (.map (some b)) (.int .i64 s) false) σ v := by
 rcases FJ (s := s) hm.2.2 with ⟨hf,hn⟩ | ⟨l1,e,l2,hl,he,hf⟩
 · refine ⟨z,h0 hn,fun w hs => ?_⟩
   have := hs _ _ hm.1
   simp [Instr.lookup,run_underlying t.cB,run_getObj_map this,run_checkKey t.key (k := .int .i64 s) rfl,run_findKey t.key hf,hz,Result.andThen]
 · refine ⟨e.val,h1 l1 e l2 hl he,fun w hs => ?_⟩
   have := hs _ _ hm.1
   simp [Instr.lookup,run_underlying t.cB,run_getObj_map this,run_checkKey t.key (k := .int .i64 s) rfl,run_findKey t.key hf,Result.andThen]
theorem Mf [t : qE P T K V] (hm : BV σ b l clock) {z : Value} (hz : ∀ w,(zeroValue V).run P w = .ok z w) {Φ : Value → Hp → Prop}
   (h0 : (∀ x ∈ l,x.key ≠ .int .i64 s) → Φ z σ) (h1 : ∀ l1 e l2,l = l1 ++ e :: l2 → e.key = .int .i64 s → Φ e.val σ) : AK P (Instr.lookup T (.map (some b)) (.int .i64 s) false) σ Φ := by
 obtain ⟨v,hq,hy⟩ := Oj (T := T) (K := K) (s := s) (Q := fun v => Φ v σ) hm hz h0 h1
 exact AK.pu hy hq
theorem mq [t : qE P T K V] (hm : BV σ b l clock) : YF P (Builtin.len_ #[T] ty #[.map (some b)]) σ (.int .i64 l.length) := fun w hs => by
 have := hs _ _ hm.1
 simp [Builtin.len_,run_underlying t.cB,run_getObj_map this,goInt,Result.andThen]
abbrev M6 (s : Int) (v : Value) (n : Nat) : MapEntry := { key := .int .i64 s,val := v,born := n }
theorem Hh [t : qE P T K V] (hm : BV σ b l clock) {v : Value} {Φ : Unit → Hp → Prop}
   (h0 : (∀ x ∈ l,x.key ≠ .int .i64 s) → ∀ σ',σ' = σ.set b (.map (l ++ [M6 s v clock]).toArray (clock + 1)) → BV σ' b (l ++ [M6 s v clock]) (clock + 1) → Φ () σ')
   (h1 : ∀ l1 e l2,l = l1 ++ e :: l2 → e.key = .int .i64 s → ∀ σ',σ' = σ.set b (.map (l1 ++ M6 s v e.born :: l2).toArray clock) → BV σ' b (l1 ++ M6 s v e.born :: l2) clock → Φ () σ') :
   AK P (Instr.mapUpdate T (.map (some b)) (.int .i64 s) v) σ Φ := by
 obtain ⟨hb,Fp,hk⟩ := hm
 rcases FJ (s := s) hk with ⟨hf,hn⟩ | ⟨l1,e,l2,hl,he,hf⟩
 · have YB : (l ++ [M6 s v clock]).toArray = l.toArray.push (M6 s v clock) := by simp
   refine AK.obj (v := ()) (o' := .map (l ++ [M6 s v clock]).toArray (clock + 1)) hb (fun w hs => ⟨w,.inl rfl,?_⟩) (h0 hn _ rfl ⟨Hp.AB _ _ _,?_,?_⟩)
   · have := hs _ _ hb
     rw [YB]
     simp only [Instr.mapUpdate,Sem.run_bind,run_underlying t.cB,run_getObj_map this,run_checkKey t.key (k := .int .i64 s) rfl,run_findKey t.key hf,Result.andThen_ok]
     simp [setObj,Sem.run,this,ChangeMaps.setBlock]
   · rw [YB]; exact stamped_push Fp (by simpa using hn)
   · intro x hx
     rcases List.mem_append.1 hx with hx | hx
     · exact hk x hx
     · rw [List.mem_singleton] at hx; subst hx; rfl
 · subst hl
   have mr : (l1 ++ M6 s v e.born :: l2).toArray = (l1 ++ e :: l2).toArray.modify l1.length (fun e => { e with key := .int .i64 s,val := v }) := by
     rw [← Array.toList_inj]
     apply List.ext_getElem?
     intro j
     simp only [Array.getElem?_toList,Array.getElem?_modify,List.getElem?_toArray]
     by_cases hj : l1.length = j
     · subst hj; simp
     · rw [if_neg hj]
       rcases Nat.lt_or_ge j l1.length with h | h
       · rw [List.getElem?_append_left h,List.getElem?_append_left h]
       · have : ∃ k,j = l1.length + (k + 1) := ⟨j - l1.length - 1,by omega⟩
         obtain ⟨k,rfl⟩ := this
         simp [List.getElem?_append_right]
   have Ul : (l1 ++ e :: l2).toArray[l1.length]? = some e := by simp
   refine AK.obj (v := ()) (o' := .map (l1 ++ M6 s v e.born :: l2).toArray clock) hb (fun w hs => ⟨w,.inl rfl,?_⟩) (h1 l1 e l2 rfl he _ rfl ⟨Hp.AB _ _ _,?_,?_⟩)
   · have := hs _ _ hb
     rw [mr]
     simp only [Instr.mapUpdate,Sem.run_bind,run_underlying t.cB,run_getObj_map this,run_checkKey t.key (k := .int .i64 s) rfl,run_findKey t.key hf,Result.andThen_ok,Ul,Option.map_some,Option.getD_some,he,
       run_keyThatStays (d := .int .i64) (k := .int .i64 s) rfl]
     simp [setObj,Sem.run,this,ChangeMaps.setBlock]
   · rw [mr]; exact stamped_modify Fp _ _ (fun _ _ => rfl) (fun e' _ QQ => by rw [Ul] at QQ; cases QQ; exact he.symm)
   · intro x hx
     rcases List.mem_append.1 hx with hx | hx
     · exact hk x (List.mem_append_left _ hx)
     · rcases List.mem_cons.1 hx with rfl | hx
       · rfl
       · exact hk x (List.mem_append_right _ (List.mem_cons_of_mem _ hx))
end
end
end mu
end
section
namespace Tw
open Go
variable [Er]
def Sf (s : ByteArray) : List Value := s.data.toList.map fun b => .int .u8 b.toNat
theorem mw {s : ByteArray} : (Sf s).length = s.size := by simp [Sf]
theorem mz {s : ByteArray} : Fq (Sf s) := fun u hu => by obtain ⟨x,_,rfl⟩ := List.mem_map.1 hu; rfl
section append
variable {P : Program} {T E ty : TypeId} {bs : Nat} {σ : Hp} {p : Option Addr} {n c m : Nat} {cs ys : List Value} {Φ : Value → Hp → Prop}
theorem Sg {str : ByteArray} (w : World) (size : Nat) : (Builtin.firstCells size str.size (.string str)).run P w = .ok (Sf str).toArray w := by
 have hx : (Array.map (fun b : UInt8 => Value.int IntKind.u8 (b.toNat : Int)) str.data).extract 0 str.size = (Sf str).toArray := by
   have hs : str.size = (Array.map (fun b : UInt8 => Value.int IntKind.u8 (b.toNat : Int)) str.data).size := by rw [Array.size_map]; rfl
   rw [hs,Array.extract_size]
   apply Array.ext'
   simp [Sf]
 have A1 : Array.map (fun b : UInt8 => Value.int IntKind.u8 (b.toNat : Int)) str.data = (Sf str).toArray := by apply Array.ext'; simp [Sf]
 simp [Builtin.firstCells,A1]
theorem sK [h : Ji P T E 1 bs] {U : TypeId} {str : ByteArray} (hU : P.underlying U = some .string) (Bd : A8 1 σ p n c cs) (hm : str.size = m) (uS : Sf str = ys) (hb : (n + m) * bs ≤ 140737488355328)
   (hΦ : ∀ p' c' σ',A8 1 σ' p' (n + m) c' (cs ++ ys) → Ext (σ.del p) (σ'.del p') → ((p' = p ∧ c' = c ∧ n + m ≤ c) ∨ (c < n + m ∧ Ext σ σ' ∧ ∀ a,p' = some a → σ a.block = none)) → Φ (.slice p' (n + m) c') σ') :
   AK P (Builtin.append_ #[T,U] ty #[.slice p n c,.string str]) σ Φ := by
 obtain ⟨ht,⟨i,z,hi,hz,JY,rfl,hzs⟩,MR,jP⟩ := h
 have h1 : Fq ys := uS ▸ mz
 have hyl : ys.length = m * 1 := by rw [← uS,← hm,Nat.mul_one]; exact mw
 have xR : n + m ≤ 140737488355328 := Nat.le_trans (Nat.le_mul_of_pos_right _ jP) hb
 intro w F hs hF
 have hf := Sg (P := P) (str := str) w 1
 rw [uS,hm] at hf
 have hf' := fun w' : World => Sg (P := P) (str := str) w' 1
 rw [uS,hm] at hf'
 have Es := fun w' (hw : Sat σ w') => LC (P := P) (d := c) w' hw Bd.rd
 have hlen : (cs ++ ys).length = (n + m) * 1 := by rw [List.length_append,Bd.1,hyl,Nat.add_mul]
 by_cases HJ : n + m ≤ c
 · -- there is room
   rcases Bd.2.2 with ⟨hp,hn,hc⟩ | ⟨b,o,arr,T',rfl,hblk,iU,Ld,Mr⟩
   · subst hp hn hc
     have hm : m = 0 := by omega
     subst hm
     have uS : ys = [] := List.eq_nil_of_length_eq_zero (by simpa using hyl)
     have Mr : cs = [] := List.eq_nil_of_length_eq_zero (by simpa using Bd.1)
     subst uS Mr
     refine ⟨.slice none 0 0,w,σ,?_,hΦ none 0 σ A8.nil (Ext.refl _) (.inl ⟨rfl,rfl,HJ⟩),hs,fun b hb => ⟨(hF b hb).2,rfl⟩,.same rfl rfl rfl,rfl,Nat.le_refl _⟩
     simp [Builtin.append_,run_underlying ht,run_underlying hU,JY,hm,Go.sizeOf,typeInfo,hi,Builtin.lenOf,hf]
   · have hw := hs _ _ hblk
     have xS : o + n * 1 + 0 + ys.length ≤ arr.size := by
       rw [hyl]
       have : (n + m) * 1 ≤ c * 1 := Nat.mul_le_mul_right _ HJ
       rw [Nat.add_mul] at this
       omega
     have Fp := EK (P := P) b (o + n * 1) T' ys 0 arr w hw xS h1
     simp only [Nat.add_zero,Nat.mul_one] at Fp
     refine ⟨.slice (some ⟨b,o,none⟩) (n + m) c,w.setRow b (Mz arr (o + n) ys),σ.set b (.cells (Mz arr (o + n) ys) T' (0,0)),?_,hΦ _ _ _ ⟨hlen,by omega,.inr ⟨b,o,_,T',rfl,Hp.AB _ _ _,HJ,by rw [Hw]; exact Ld,?_⟩⟩ (by rw [Hp.GC]; exact Ext.refl _) (.inl ⟨rfl,rfl,HJ⟩),?_⟩
     · simp [Builtin.append_,run_underlying ht,run_underlying hU,JY,hm,Go.sizeOf,typeInfo,hi,Builtin.lenOf,HJ,hf,Bj,Fp]
     · refine List.ext_getElem? fun j => ?_
       rw [List.getElem?_take]
       simp only [List.getElem?_drop,Array.getElem?_toList]
       rw [QB _ _ _ _ (by omega),List.getElem?_append]
       have e1 : cs.length = n * 1 := Bd.1
       have e2 : ys.length = m * 1 := hyl
       have e3 : (n + m) * 1 = n * 1 + m * 1 := Nat.add_mul ..
       by_cases qU : j < cs.length
       · rw [if_pos (by omega),if_neg (by omega),if_pos qU,← Mr,List.getElem?_take,if_pos (by omega)]
         simp
       · rw [if_neg qU]
         by_cases hj2 : j < (n + m) * 1
         · rw [if_pos hj2,if_pos (by omega),show o + j - (o + n) = j - cs.length by omega]
         · rw [if_neg hj2,List.getElem?_eq_none (by omega)]
     · refine ⟨fun k u hk => ?_,fun k hk => ?_,.same rfl rfl rfl,rfl,by simp⟩
       · by_cases Gj : k = b
         · subst Gj; rw [Hp.AB] at hk; cases hk; exact setRow_heap w k arr _ T' (0,0) hw
         · rw [Hp.AO Gj] at hk; rw [setRow_other _ _ _ _ Gj]; exact hs k u hk
       · have Gj : k ≠ b := fun h => by have := (hF k hk).2; rw [h,hblk] at this; cases this
         exact ⟨by rw [Hp.AO Gj]; exact (hF k hk).2,setRow_other _ _ _ _ Gj⟩
 · -- it ACV
   have ACW : Builtin.nextslicecap (n + m) c * i.bytes ≤ 281474976710656 := growslice_fits (by omega) hb
   have hgc := grownCap_ge w (n + m) c E
   have OM : Sat σ w.drew := hs
   have B9 : (Builtin.append_ #[T,U] ty #[.slice p n c,.string str]).run P w =
       .ok (.slice (some ⟨w.heap.size,0,none⟩) (n + m) (grownCap w (n + m) c E))
         (w.drew.alloc (.cells (cs.toArray ++ ys.toArray ++ Builtin.zeroCells z.cells (grownCap w (n + m) c E - (n + m))) E)) := by
     have xT : ¬ (9223372036854775807 < ((n : Int) + (m : Int))) := by omega
     have xU : ¬ (281474976710656 < Builtin.nextslicecap (n + m) c * i.bytes) := by omega
     simp [Builtin.append_,run_underlying ht,run_underlying hU,JY,hm,Go.sizeOf,typeInfo,zeroValue,hi,hz,Builtin.lenOf,HJ,xT,xU,Question.forced,hf',Es _ OM,newRow,grownCap]
     congr 2
     apply Array.ext'
     simp [List.append_assoc]
   refine ⟨_,_,σ.set w.heap.size _,B9,hΦ _ _ _ ⟨hlen,by omega,.inr ⟨w.heap.size,0,_,E,rfl,Hp.AB _ _ _,hgc,?_,?_⟩⟩ ?_ (.inr ⟨by omega,Ext.set (FT hs),fun a ha => by cases ha; exact FT hs⟩),Fin.alloc hs hF _ rfl ⟨rfl,rfl,fun _ => ⟨1,rfl⟩⟩ rfl⟩
   · simp only [Array.size_append,List.size_toArray,size_zeroCells,hzs,Bd.1,hyl,← Nat.add_mul]
     have : n + m + (grownCap w (n + m) c E - (n + m)) = grownCap w (n + m) c E := by omega
     rw [this]; omega
   · simp only [Array.toList_append,List.drop_zero]
     rw [← hlen]
     exact List.take_left
   · rw [Hp.Ij (FT hs)]
     exact Ext.Jh σ p
end append
end Tw
end
section
namespace Tw
open Go
variable [Er]
def Hp.or (N M : Hp) : Hp := fun k => match N k with | some o => some o | none => M k
def Dis (N M : Hp) : Prop := ∀ k,M k ≠ none → N k = none
theorem Hp.sL {N M : Hp} {k : Nat} {o : Obj} (h : N k = some o) : N.or M k = some o := by simp [Hp.or,h]
theorem Hp.aY {N M : Hp} {k : Nat} (h : N k = none) : N.or M k = M k := by simp [Hp.or,h]
theorem Ext.sL (N M : Hp) : Ext N (N.or M) := fun _ _ h => Hp.sL h
theorem Ext.aY {N M : Hp} (hd : Dis N M) : Ext M (N.or M) := fun k o h => by rw [Hp.aY (hd k (by rw [h]; simp))]; exact h
theorem Ext.nB {N M σ : Hp} (h1 : Ext N σ) (h2 : Ext M σ) : Ext (N.or M) σ := fun k o h => by
 unfold Hp.or at h
 split at h
 · rename_i u hu; cases h; exact h1 _ _ hu
 · exact h2 _ _ h
end Tw
end
section
namespace TwW
open Go Tw Go.Proofs.Tryz
theorem Ai {σ : Hp} {b o : Nat} {c : Array Value} {t : TypeId} {fr : Nat × Nat} {v : Value} (h : σ b = some (.cells c t fr)) (hv : c[o]? = some v) : σ.ld ⟨b,o,none⟩ = some v := by simp [Hp.ld,h,hv]
section
variable {σ : Hp} {d : Nat} {S : List Nat} {R : Rr}
end
end TwW
namespace TwW
open Go Tw Go.Proofs.Tryz
section
variable {σ : Hp} {d : Nat} {S : List Nat} {R : Rr}
theorem A8.cap {s : Nat} {σ : Hp} {p : Option Addr} {n c : Nat} {cs : List Value} (h : A8 s σ p n c cs) : n ≤ c := by
 rcases h.2.2 with ⟨_,h1,h2⟩ | ⟨b,o,arr,T,_,_,h3,_⟩
 · omega
 · exact h3
end
end TwW
namespace TwW
open Go Tw Go.Proofs.Tryz
def uv (x : Nat) : List Int := if h : 128 ≤ x then ((x % 128 + 128 : Nat) : Int) :: uv (x / 128) else [(x : Int)]
termination_by x
decreasing_by omega
theorem nC {x : Nat} (h : 128 ≤ x) : uv x = ((x % 128 + 128 : Nat) : Int) :: uv (x / 128) := by rw [uv,dif_pos h]
theorem Ni {x : Nat} (h : ¬ 128 ≤ x) : uv x = [(x : Int)] := by rw [uv,dif_neg h]
theorem nE : ∀ (k x : Nat),x < 128 ^ (k + 1) → (uv x).length ≤ k + 1
 | 0,x,h => by rw [Ni (by simpa using h)]; simp
 | k + 1,x,h => by
   by_cases hx : 128 ≤ x
   · rw [nC hx]
     have := nE k (x / 128) (by rw [Nat.div_lt_iff_lt_mul (by decide)]; rw [Nat.pow_succ] at h; exact h)
     simp; omega
   · rw [Ni hx]; simp
theorem Ke {x : Nat} (h : x < 18446744073709551616) : (uv x).length ≤ 10 := nE 9 x (by omega)
set_option maxRecDepth 100000 in
theorem AGw : ∀ y : Fin 256,Go.bits .or .u8 (y.1 : Int) 128 = ((y.1 % 128 + 128 : Nat) : Int) := by decide
theorem Nj {R : Rr} {σ : Hp} {p : Option Addr} {n c x : Nat} {xs : List Int} (hr : E3 .u8 σ p n xs) (hn : n ≤ 70368744177664) (hx : x < 18446744073709551616)
   (h : ∀ p' n' c' σ',DZ .u8 (σ.new σ') p' n' c' (xs ++ uv x) → Ext σ σ' → R (.returned (.slice p' n' c')) σ') : Spec prog 107 #[.slice p n c,.int .u64 x] σ R := by
 refine De.start fun b hb => ?_
 refine DB A8.empty ((G6.of_map hr).mono (.set hb)) Fq.QC (by omega) fun p' c' σ' Bd I6 => ?_
 have hq : ∀ a : Addr,(some (⟨b,0,none⟩ : Addr)) = some a → σ a.block = none := fun a ha => by cases ha; exact hb
 have ho := A8.ON Bd (E9 hq I6 (.set hb))
 have he := Ik hq I6 (.set hb)
 refine ⟨p',0 + n,c',rfl,?_⟩
 rw [Nat.zero_add] at ho ⊢
 have hlen := hr.1
 suffices H : ∀ (k x n' : Nat) p' c' σ' ys,x < 128 ^ (k + 1) → n' + k ≤ n + 9 → DZ .u8 (σ.new σ') p' n' c' ys → Ext σ σ' → (∀ p' n' c' σ',DZ .u8 (σ.new σ') p' n' c' (ys ++ uv x) → Ext σ σ' → R (.returned (.slice p' n' c')) σ') → De.F3 R x p' n' c' σ' from
   H 9 x n p' c' σ' xs (by omega) (by omega) ho he h
 intro k
 induction k with
 | zero =>
   intro x n' p' c' σ' ys hx hn' ho he h
   refine De.As ⟨fun Az => by omega,fun _ MC AAG b2 Y5 => ?_⟩
   have aZ : MC = (x : Int) := by rw [AAG]; simp [IntKind.wrap,IntKind.bits,IntKind.signed]; omega
   subst aZ
   refine DZ.Hb he ho (by omega) (fun p2 c2 σ2 BM QR _ => ⟨p2,n' + 1,c2,rfl,h _ _ _ _ ?_ QR⟩) Y5
   rw [Ni (by omega)]; exact BM
 | succ k ih =>
   intro x n' p' c' σ' ys hx hn' ho he h
   refine De.As ⟨fun Az x15 AMX x16 AMY b2 Y5 => ?_,fun Ul MC AAG b2 Y5 => ?_⟩
   · have h15 : x15 = ((x % 256 : Nat) : Int) := by rw [AMX]; simp [IntKind.wrap,IntKind.bits,IntKind.signed]
     have h16 : x16 = ((x % 128 + 128 : Nat) : Int) := by
       rw [AMY,h15,AGw ⟨x % 256,Nat.mod_lt _ (by decide)⟩]
       have : x % 256 % 128 = x % 128 := by omega
       rw [this]
     subst h16
     refine DZ.Hb he ho (by omega) (fun p2 c2 σ2 BM QR _ => ⟨p2,n' + 1,c2,rfl,by simp [IntKind.bits],fun x12 AMZ => ?_⟩) Y5
     have YC : x12 = ((x / 128 : Nat) : Int) := by rw [AMZ]; simp
     subst YC
     refine ih (x / 128) (n' + 1) p2 c2 σ2 _ (by rw [Nat.div_lt_iff_lt_mul (by decide)]; rw [Nat.pow_succ] at hx; exact hx) (by omega) BM QR fun p3 n3 c3 σ3 Ct he3 => h p3 n3 c3 σ3 ?_ he3
     rw [nC (by omega)]
     simpa using Ct
   · have aZ : MC = (x : Int) := by rw [AAG]; simp [IntKind.wrap,IntKind.bits,IntKind.signed]; omega
     subst aZ
     refine DZ.Hb he ho (by omega) (fun p2 c2 σ2 BM QR _ => ⟨p2,n' + 1,c2,rfl,h _ _ _ _ ?_ QR⟩) Y5
     rw [Ni (by omega)]; exact BM
end TwW
namespace TwW
open Go Tw Go.RowKit Go.Proofs.Tryz
theorem G6.at1 {σ : Hp} {p : Option Addr} {n k : Nat} {L : List Value} {v : Value} (h : G6 1 σ p n L) (hk : L[k]? = some v) : ∃ b o,p = some ⟨b,o,none⟩ ∧ σ.ld ⟨b,o + k * 1,none⟩ = some v := by
 obtain ⟨h1,_,h2⟩ := h
 have Az := (List.getElem?_eq_some_iff.1 hk).1
 rcases h2 with h2 | ⟨b,o,hp,hl⟩
 · simp at h1; omega
 · refine ⟨b,o,hp,?_⟩
   rw [Nat.mul_one]
   exact hl.get hk
section
variable {σ τ : Hp} {d : Nat} {R : Rr}
end
section
variable {dir : ByteArray} {cnt : Nat}
end
end TwW
namespace TwW
open Go Tw Go.RowKit Go.Proofs.Tryz
def byt (s : ByteArray) : List Int := s.data.toList.map fun b => (b.toNat : Int)
theorem dP {s : ByteArray} : (byt s).length = s.size := by simp [byt]
theorem nF {s : ByteArray} : Sf s = (byt s).map (.int .u8) := by simp [Sf,byt]
section
variable {σ : Hp} {R : Rr}
theorem Nk {p : Option Addr} {n c : Nat} {xs : List Int} {s : ByteArray} (hr : E3 .u8 σ p n xs) (hn : n ≤ 1048576) (hs : s.size ≤ 1048576)
   (h : ∀ p' n' c' σ',DZ .u8 (σ.new σ') p' n' c' (xs ++ uv s.size ++ byt s) → Ext σ σ' → R (.returned (.slice p' n' c')) σ') : Spec prog 108 #[.slice p n c,.string s] σ R := by
 refine MA.start fun x8 h8 => ?_
 have e8 : x8 = (s.size : Int) := by rw [h8]; simp [IntKind.wrap,IntKind.bits,IntKind.signed]; omega
 subst e8
 refine Nj hr (by omega) (by omega) fun p' n' c' σ1 ho CO => ⟨p',n',c',rfl,?_⟩
 have hq : ∀ a,p' = some a → σ a.block = none := fun a ha => by
   have h2 := A8.block ho a ha
   cases hh : (σ.new σ1) a.block with
   | none => exact absurd hh h2
   | some o => exact (AY.1 hh).1
 have hl : (xs ++ uv s.size).length = n' := by have := ho.1; simpa using this
 have ad := Ke (x := s.size) (by omega)
 have iw : xs.length = n := hr.1
 rw [List.length_append] at hl
 refine sK underlying9 (A8.mono (Ext.Cw _ _) ho) rfl nF (by omega) fun p2 c2 σ2 BM A1 _ => ⟨p2,_,c2,rfl,?_⟩
 have Y5 := E9 hq A1 CO
 refine h p2 _ c2 σ2 ?_ (Ik hq A1 CO)
 have := A8.ON BM Y5
 simpa [DZ] using this
theorem PZ {p : Option Addr} {n c : Nat} {xs : List Int} (h : DZ .u8 σ p n c xs) : xs.length = n := by have := h.1; simpa using this
theorem nG {s : ByteArray} : (ByteArray.toList s == ByteArray.toList (ByteArray.mk #[])) = decide (s.size = 0) := by
 rw [ByteArray.toList_eq,ByteArray.toList_eq]
 by_cases h : s.size = 0
 · have : s = ⟨#[]⟩ := ByteArray.ext (Array.eq_empty_of_size_eq_zero h)
   subst this; rfl
 · rw [decide_eq_false h]
   simp only [beq_eq_false_iff_ne]
   intro e
   apply h
   have := congrArg List.length e
   simpa using this
end
end TwW
namespace TwW
open Go Tw Go.RowKit Go.Proofs.Tryz
abbrev Lb := ByteArray × ByteArray
def BT (_ : Hp) (vs : List Value) (x : Lb) : Prop := vs = [.string x.1,.string x.2]
theorem BT.mono : Ha BT := fun _ _ _ _ _ h => h
abbrev Cq := Aa 2 BT
section
variable {σ : Hp} {R : Rr}
theorem Cq.at {p : Option Addr} {n i : Nat} {ls : List Lb} {x : Lb} (hr : Cq σ p n ls) (hx : ls[i]? = some x) : ∃ b o,p = some ⟨b,o,none⟩ ∧ Au σ b (o + i * 2) [.string x.1,.string x.2] := by
 obtain ⟨b,o,vs,hp,rfl,hl⟩ := Aa.idx hr hx
 exact ⟨b,o,hp,hl⟩
theorem fm {s t : ByteArray} : (s.toList == t.toList) = decide (s = t) := by
 rw [ByteArray.toList_eq,ByteArray.toList_eq]
 by_cases h : s = t
 · subst h; simp
 · rw [decide_eq_false h,beq_eq_false_iff_ne]
   exact fun e => h (ByteArray.ext (Array.toList_inj.1 e))
theorem An {α : Type} {xs : List α} {k : Nat} {y : α} (hy : xs[k]? = some y) : xs.drop k = y :: xs.drop (k + 1) := by
 obtain ⟨h,rfl⟩ := List.getElem?_eq_some_iff.1 hy
 exact List.drop_eq_getElem_cons h
def Bz : List Lb → ByteArray → ByteArray
 | [],_ => ⟨#[]⟩
 | x :: l,k => if x.1 = k then x.2 else Bz l k
theorem Tt {p : Option Addr} {n c : Nat} {ls : List Lb} {k : ByteArray} (hr : Cq σ p n ls) (h : R (.returned (.string (Bz ls k))) σ) : Spec prog 180 #[.slice p n c,.string k] σ R := by
 refine IA.start ?_
 suffices H : ∀ d i : Nat,n - i = d → i ≤ n → Bz ls k = Bz (ls.drop i) k → IA.MY R k p n c n i σ from H n 0 rfl (Nat.zero_le _) rfl
 intro d
 induction d with
 | zero =>
   intro i hd hi he
   refine IA.C3 ⟨fun Az => by omega,fun _ => ?_⟩
   rw [List.drop_of_length_le (by rw [hr.1]; omega)] at he
   rw [he] at h; exact h
 | succ d ih =>
   intro i hd hi he
   refine IA.C3 ⟨fun _ => ?_,fun hh => by omega⟩
   have BI : i < n := by omega
   obtain ⟨x,hx⟩ := hr.ex BI
   obtain ⟨b,o,rfl,hl⟩ := Cq.at hr hx
   rw [An hx,Bz] at he
   refine ⟨b,o,rfl,by omega,x.1,x.2,by simpa using hl,fun _ => ⟨fun hk => ?_,fun hk => ⟨AF BI hr.big,ih (i + 1) (by omega) (by omega) ?_⟩⟩⟩
   · rw [fm,decide_eq_true_eq] at hk
     rw [if_pos hk] at he
     rw [he] at h; exact h
   · rw [fm,decide_eq_false_iff_not] at hk
     rwa [if_neg hk] at he
theorem dQ {s : ByteArray} {ok : UInt8 → Bool} {pt : Int → Prop} {G : Bool → Prop}
   (jU : G true → pt s.size) (Gm : ∀ (k : Nat) (u : UInt8),k < s.size → s.data[Int.toNat (k : Int)]? = some u → AG ((k : Int) + 1) → (ok u = true → pt ((k : Int) + 1)) → (ok u = false → G false) → pt k)
   (h : G (s.data.toList.all ok)) (hb : s.size ≤ 4611686018427387904) : pt 0 := by
 have Ld : s.data.toList.length = s.size := rfl
 suffices H : ∀ d k : Nat,s.size - k = d → k ≤ s.size → (s.data.toList.take k).all ok = true → pt k from H s.size 0 rfl (Nat.zero_le _) rfl
 intro d
 induction d with
 | zero =>
   intro k hd hk Hv
   rw [List.take_of_length_le (by omega)] at Hv
   rw [Hv] at h
   have : k = s.size := by omega
   rw [this]; exact jU h
 | succ d ih =>
   intro k hd hk Hv
   have E4 : k < s.size := by omega
   obtain ⟨u,hu⟩ : ∃ u,s.data.toList[k]? = some u := ⟨_,List.getElem?_eq_getElem (by omega)⟩
   refine Gm k u E4 (by simpa using hu) (by unfold AG; omega) (fun hc => ih (k + 1) (by omega) (by omega) (by rw [AS hu,List.all_append,Hv]; simpa using hc)) fun hc => ?_
   have : s.data.toList.all ok = false := by
     rw [List.all_eq_false]
     exact ⟨u,List.mem_of_getElem? hu,by simp [hc]⟩
   rwa [this] at h
def sM (u : UInt8) : Bool := decide (48 ≤ u.toNat ∧ u.toNat ≤ 57)
def nch (u : UInt8) : Bool := decide (u.toNat = 95 ∨ (48 ≤ u.toNat ∧ u.toNat ≤ 57) ∨ (65 ≤ u.toNat ∧ u.toNat ≤ 90) ∨ (97 ≤ u.toNat ∧ u.toNat ≤ 122))
def Cj (s : ByteArray) : Bool := decide (0 < s.size) && decide (s.size ≤ 64) && !(s.data.toList.head?.any sM) && s.data.toList.all nch
theorem Kf {s : ByteArray} (h : R (.returned (.bool (Cj s))) σ) : Spec prog 98 #[.string s] σ R := by
 have Ld : s.data.toList.length = s.size := rfl
 refine FH.start ⟨fun h0 => ?_,fun h0 => ⟨fun h1 => ?_,fun h1 => ?_⟩⟩
 · rw [nG,decide_eq_true_eq] at h0
   simpa [Cj,h0] using h
 · have : ¬ s.size ≤ 64 := by omega
   simpa [Cj,this] using h
 · rw [nG,decide_eq_false_iff_not] at h0
   obtain ⟨u,hu⟩ : ∃ u,s.data.toList[0]? = some u := ⟨_,List.getElem?_eq_getElem (by omega)⟩
   have DY : s.data[Int.toNat (0 : Int)]? = some u := by simpa using hu
   have hh : s.data.toList.head? = some u := by rw [← hu]; cases s.data.toList <;> rfl
   have rest : sM u = false → FH.A5 R s 0 σ := fun hd => by
     have e : Cj s = s.data.toList.all nch := by simp [Cj,show 0 < s.size by omega,show s.size ≤ 64 by omega,hh,hd]
     rw [e] at h
     refine dQ (s := s) (pt := fun k => FH.A5 R s k σ) (ok := nch) (G := fun t => R (.returned (.bool t)) σ) (fun g => FH.A7 ⟨fun Az => by omega,fun _ => g⟩) (fun k u hk hu hi good bad => ?_) h (by omega)
     simp only [nch,decide_eq_true_eq,decide_eq_false_iff_not] at good bad
     refine FH.A7 ⟨fun Az => ⟨u,by omega,hu,?_⟩,fun Ul => by omega⟩
     clear h
     generalize u.toNat = n at good bad
     repeat' (first | refine ⟨fun _ => ?_,fun _ => ?_⟩ | exact ⟨hi,good (by omega)⟩ | exact bad (by omega))
   simp only [sM,decide_eq_false_iff_not] at rest
   refine ⟨u,by omega,DY,fun h2 => ⟨u,by omega,DY,fun h3 => ?_,fun h3 => rest (by omega)⟩,fun h2 => rest (by omega)⟩
   have : sM u = true := by simp [sM]; omega
   simpa [Cj,hh,this] using h
def vl : Nat → Nat → Nat → List UInt8 → Bool
 | 0,_,_,[] => true
 | _ + 1,_,_,[] => false
 | 0,_,_,c :: r =>
   if c.toNat < 128 then vl 0 128 191 r
   else if 194 ≤ c.toNat ∧ c.toNat ≤ 223 then vl 1 128 191 r
   else if 224 ≤ c.toNat ∧ c.toNat ≤ 239 then (if c.toNat = 224 then vl 2 160 191 r else if c.toNat = 237 then vl 2 128 159 r else vl 2 128 191 r)
   else if 240 ≤ c.toNat ∧ c.toNat ≤ 244 then (if c.toNat = 240 then vl 3 144 191 r else if c.toNat = 244 then vl 3 128 143 r else vl 3 128 191 r)
   else false
 | m + 1,lo,hi,c :: r => if c.toNat < lo ∨ hi < c.toNat then false else vl m 128 191 r
def ID (s : ByteArray) : Bool := vl 0 128 191 s.data.toList
theorem vl0 (l : List UInt8) (a b c d : Nat) : vl 0 a b l = vl 0 c d l := by cases l <;> rfl
attribute [local irreducible] Ap.Ak Ap.HC Ap.km in
theorem P5 {s : ByteArray} (hb : s.size ≤ 4611686018427387904) (h : R (.returned (.bool (ID s))) σ) : Spec prog 99 #[.string s] σ R := by
 have Ld : s.data.toList.length = s.size := rfl
 refine Ap.start ?_
 suffices H : ∀ d : Nat,(∀ k : Nat,s.size - k = d → k ≤ s.size → ID s = vl 0 128 191 (s.data.toList.drop k) → Ap.Ak R s k σ) ∧
     (∀ (k m lo hi : Nat),s.size - k = d → k ≤ s.size → ID s = vl m lo hi (s.data.toList.drop k) → m ≤ 3 → Ap.km R s k m lo hi σ) from (H s.size).1 0 (by omega) (by omega) rfl
 intro d
 induction d with
 | zero =>
   have A : ∀ k : Nat,s.size - k = 0 → k ≤ s.size → ID s = vl 0 128 191 (s.data.toList.drop k) → Ap.Ak R s k σ := fun k hd hk he => by
     refine Ap.AX ⟨fun _ => ?_,fun BD => by omega⟩
     rw [List.drop_of_length_le (by omega)] at he
     rw [he] at h; exact h
   refine ⟨A,fun k m lo hi hd hk he hm => Ap.cz ⟨fun h0 => A k hd hk ?_,fun h0 => ⟨fun _ => ?_,fun BD => by omega⟩⟩⟩
   · have : m = 0 := by omega
     subst this; rw [he]; exact vl0 _ _ _ _ _
   · obtain ⟨m',rfl⟩ : ∃ m',m = m' + 1 := ⟨m - 1,by omega⟩
     rw [List.drop_of_length_le (by omega)] at he
     rw [he] at h; exact h
 | succ d ih =>
   have A : ∀ k : Nat,s.size - k = d + 1 → k ≤ s.size → ID s = vl 0 128 191 (s.data.toList.drop k) → Ap.Ak R s k σ := fun k hd hk he => by
     have E4 : k < s.size := by omega
     obtain ⟨u,hu⟩ : ∃ u,s.data.toList[k]? = some u := ⟨_,List.getElem?_eq_getElem (by omega)⟩
     have DY : s.data[Int.toNat (k : Int)]? = some u := by simpa using hu
     have hi : AG ((k : Int) + 1) := by unfold AG; omega
     rw [An hu,vl] at he
     have st : ∀ (m lo hi : Nat),m ≤ 3 → ID s = vl m lo hi (s.data.toList.drop (k + 1)) → Ap.HC R s k m lo hi σ := fun m lo hh hm he => Ap.rZ ⟨hi,ih.2 (k + 1) m lo hh (by omega) (by omega) he hm⟩
     have nx : ID s = vl 0 128 191 (s.data.toList.drop (k + 1)) → Ap.Ak R s ((k : Int) + 1) σ := fun he => ih.1 (k + 1) (by omega) (by omega) he
     have no : ID s = false → R (.returned (.bool false)) σ := fun e => by rw [e] at h; exact h
     refine Ap.AX ⟨fun BD => by omega,fun _ => ⟨u,by omega,DY,?_⟩⟩
     generalize s.data.toList.drop (k + 1) = r at he st nx
     clear ih h hu DY
     generalize u.toNat = n at he
     have st1 := st 1 128 191 (by omega)
     have st2 := st 2 160 191 (by omega)
     have uU := st 2 128 159 (by omega)
     have st4 := st 2 128 191 (by omega)
     have st5 := st 3 144 191 (by omega)
     have st6 := st 3 128 143 (by omega)
     have st7 := st 3 128 191 (by omega)
     repeat' (first | refine ⟨fun _ => ?_,fun _ => ?_⟩ | refine ⟨hi,nx ?_⟩ | refine st1 ?_ | refine st2 ?_ | refine uU ?_ | refine st4 ?_ | refine st5 ?_ | refine st6 ?_ | refine st7 ?_ | refine no ?_)
     all_goals first | (exfalso; clear he; omega) | (rw [he]; repeat' (first | rfl | rw [if_pos (by omega)] | rw [if_neg (by omega)]))
   refine ⟨A,fun k m lo hi hd hk he hm => Ap.cz ⟨fun h0 => A k hd hk ?_,fun h0 => ⟨fun BD => by omega,fun _ => ?_⟩⟩⟩
   · have : m = 0 := by omega
     subst this; rw [he]; exact vl0 _ _ _ _ _
   · obtain ⟨m',rfl⟩ : ∃ m',m = m' + 1 := ⟨m - 1,by omega⟩
     have E4 : k < s.size := by omega
     obtain ⟨u,hu⟩ : ∃ u,s.data.toList[k]? = some u := ⟨_,List.getElem?_eq_getElem (by omega)⟩
     have DY : s.data[Int.toNat (k : Int)]? = some u := by simpa using hu
     rw [An hu,vl] at he
     refine ⟨u,by omega,DY,fun h1 => ?_,fun h1 => ⟨u,by omega,DY,fun h2 => ?_,fun h2 => ⟨by unfold AG; omega,by unfold AG; omega,?_⟩⟩⟩
     · rw [if_pos (by omega)] at he
       rw [he] at h; exact h
     · rw [if_pos (by omega)] at he
       rw [he] at h; exact h
     · rw [if_neg (by omega)] at he
       have := ih.2 (k + 1) m' 128 191 (by omega) (by omega) he (by omega)
       have e1 : ((m' + 1 : Nat) : Int) - 1 = (m' : Nat) := by omega
       rw [e1]; exact this
end
end TwW
namespace TwW
open Go Tw Go.RowKit Go.Proofs.Tryz
section
variable {σ : Hp} {R : Rr}
def sle (a b : ByteArray) : Bool := Op.bytesLess a.toList b.toList || a.toList == b.toList
theorem ae {x y : Operand} {a b : ByteArray} {T : TypeId} : YF prog (do eqGuard .leq T x y (.string a) (.string b); binOp .leq T (.string a) (.string b)) σ (.bool (sle a b)) := fun w _ => by
 simp [eqGuard,binOp,Op.stringOp,sle]
def C8 : Option ByteArray → List Lb → Int
 | _,[] => 0
 | pv,x :: l => if Cj x.1 = false then 31 else if x.2.size = 0 ∨ 256 < x.2.size ∨ ID x.2 = false then 32 else if pv.any (sle x.1 ·) = true then 33 else C8 (some x.1) l
def Cr (ls : List Lb) : Int := if 16 < ls.length then 30 else C8 none ls
theorem P6 {p : Option Addr} {n c : Nat} {ls : List Lb} (hr : Cq σ p n ls) (h : R (.returned (.int .i64 (Cr ls))) σ) : Spec prog 68 #[.slice p n c] σ R := by
 have hn : ls.length = n := hr.1
 refine D9.start ⟨fun h1 => ?_,fun h1 => ?_⟩
 · rw [Cr,if_pos (by omega)] at h; exact h
 rw [Cr,if_neg (by omega)] at h
 let pv : Nat → Option ByteArray := fun i => if i = 0 then none else (ls[i - 1]?).map (·.1)
 suffices H : ∀ d i : Nat,n - i = d → i ≤ n → C8 none ls = C8 (pv i) (ls.drop i) → D9.Q6 R p n c p n c n i σ from H n 0 rfl (Nat.zero_le _) rfl
 intro d
 induction d with
 | zero =>
   intro i hd hi he
   refine D9.NA ⟨fun Az => by omega,fun _ => ?_⟩
   rw [List.drop_of_length_le (by omega)] at he
   rw [he] at h; exact h
 | succ d ih =>
   intro i hd hi he
   have BI : i < n := by omega
   obtain ⟨x,hx⟩ := hr.ex BI
   obtain ⟨b,o,rfl,hl⟩ := Cq.at hr hx
   rw [An hx,C8] at he
   have out : ∀ e : Int,C8 none ls = e → R (.returned (.int .i64 e)) σ := fun e h1 => h1 ▸ h
   refine D9.NA ⟨fun _ => ?_,fun hh => by omega⟩
   refine ⟨b,o,rfl,by omega,x.1,x.2,by simpa using hl,fun _ => Kf ⟨_,rfl,fun h1 => out _ ?_,fun h1 => ?_⟩⟩
   · rw [he,if_pos h1]
   rw [if_neg (by simp [h1])] at he
   rw [nG]
   refine ⟨fun h2 => out _ ?_,fun h2 => ⟨fun h3 => out _ ?_,fun h3 => P5 (by omega) ⟨_,rfl,fun h4 => out _ ?_,fun h4 => ?_⟩⟩⟩
   · rw [he,if_pos (.inl (by simpa using h2))]
   · rw [he,if_pos (.inr (.inl (by omega)))]
   · rw [he,if_pos (.inr (.inr h4))]
   rw [if_neg (by rw [decide_eq_false_iff_not] at h2; simp [h2,h4]; omega)] at he
   have nx : pv (i + 1) = some x.1 := by simp [pv,hx]
   have go : (pv i).any (sle x.1 ·) = false → D9.Q6 R (aD b o) n c (aD b o) n c n ((i : Int) + 1) σ := fun h5 => by
     rw [if_neg (by simp [h5]),← nx] at he
     exact ih (i + 1) (by omega) (by omega) he
   refine ⟨fun h5 => ?_,fun h5 => ⟨AF BI hr.big,go ?_⟩⟩
   · obtain ⟨y,hy⟩ := hr.ex (k := i - 1) (by omega)
     obtain ⟨b',o',hp,fE⟩ := Cq.at hr hy
     cases hp
     have e1 : ((i : Int) - 1).toNat = i - 1 := by omega
     have wc : pv i = some y.1 := by simp [pv,hy,show i ≠ 0 by omega]
     refine ⟨by have := hr.big; unfold AG; omega,b,o,rfl,by omega,y.1,by rw [e1]; exact fE.1,_,ae,fun h6 => out _ ?_,fun h6 => ⟨AF BI hr.big,go ?_⟩⟩
     · rw [he,if_pos (by rw [wc]; exact h6)]
     · rw [wc]; exact h6
   · have : i = 0 := by omega
     simp [pv,this]
theorem Um : ∀ {ls : List Lb} {pv : Option ByteArray},C8 pv ls = 0 → ∀ x ∈ ls,Cj x.1 = true ∧ 0 < x.2.size ∧ x.2.size ≤ 256 ∧ ID x.2 = true
 | [],_,_,_,hx => by cases hx
 | y :: l,pv,h,x,hx => by
   rw [C8] at h
   split at h
   · cases h
   split at h
   · cases h
   split at h
   · cases h
   rename_i h1 h2 h3
   rcases List.mem_cons.1 hx with rfl | hx
   · simp only [not_or,Bool.not_eq_false] at h1 h2
     exact ⟨h1,by omega,by omega,h2.2.2⟩
   · exact Um h x hx
def Aq (ls : List Lb) : Prop := ls.length ≤ 16 ∧ ∀ x ∈ ls,x.1.size ≤ 256 ∧ x.2.size ≤ 256
theorem Aq.of {ls : List Lb} (h : Cr ls = 0) : Aq ls := by
 unfold Cr at h
 split at h
 · cases h
 · refine ⟨by omega,fun x hx => ?_⟩
   obtain ⟨h1,_,h2,_⟩ := Um h x hx
   simp [Cj] at h1
   exact ⟨by omega,h2⟩
theorem BT.one (σ : Hp) (vs : List Value) (x : Lb) (h : BT σ vs x) : Fq vs := by
 rw [h]
 intro u hu
 simp only [List.mem_cons,List.not_mem_nil,or_false] at hu
 rcases hu with rfl | rfl <;> rfl
theorem DP {σ1 : Hp} {q : Option Addr} {j c b : Nat} {ls : List Lb} {ty : TypeId} {Φ : Value → Hp → Prop} (ht : Cq σ1 q j ls) (hb : j ≤ 1000000000)
   (hΦ : ∀ p' c' σ',GD 2 BT (σ1.new σ') p' j c' ls → Ext σ1 σ' → Φ (.slice p' j c') σ') (hn : σ1 b = none) :
   AK prog (Builtin.append_ #[37,37] ty #[.slice (some ⟨b,0,none⟩) 0 0,.slice q j c]) (σ1.set b (.cells #[] 56 (0,0))) Φ := by
 obtain ⟨h1,cs,h2,h3⟩ := ht
 refine DB A8.empty (h2.mono (.set hn)) (Ch.eb BT.one h3 (by decide)) (by omega) fun p' c' σ' Bd I6 => ?_
 have hq : ∀ a : Addr,(some (⟨b,0,none⟩ : Addr)) = some a → σ1 a.block = none := fun a ha => by cases ha; exact hn
 rw [Nat.zero_add] at Bd ⊢
 rw [List.nil_append] at Bd
 exact hΦ p' c' σ' ⟨h1,cs,A8.ON Bd (E9 hq I6 (.set hn)),h3⟩ (Ik hq I6 (.set hn))
def Un (x : Lb) : List Int := uv x.1.size ++ byt x.1 ++ (uv x.2.size ++ byt x.2)
def AAK (ls : List Lb) : List Int := uv ls.length ++ ls.flatMap Un
theorem fp {x : Lb} (h : x.1.size ≤ 256 ∧ x.2.size ≤ 256) : (Un x).length ≤ 532 := by
 have h1 := Ke (x := x.1.size) (by omega)
 have h2 := Ke (x := x.2.size) (by omega)
 simp only [Un,List.length_append,dP]
 omega
theorem nH {ls : List Lb} (h : ∀ x ∈ ls,x.1.size ≤ 256 ∧ x.2.size ≤ 256) : (ls.flatMap Un).length ≤ ls.length * 532 := by
 induction ls with
 | nil => simp
 | cons x l ih =>
   have := ih fun y hy => h y (List.mem_cons_of_mem _ hy)
   have := fp (h x (by simp))
   rw [List.flatMap_cons,List.length_append,List.length_cons]
   omega
theorem Vt {p : Option Addr} {n c : Nat} {ls : List Lb} (hr : Cq σ p n ls) (hs : Aq ls) (h : ∀ p' n' c' σ',DZ .u8 (σ.new σ') p' n' c' (AAK ls) → Ext σ σ' → R (.returned (.slice p' n' c')) σ') : Spec prog 72 #[.slice p n c] σ R := by
 have hn : ls.length = n := hr.1
 have h16 := hs.1
 refine Eb.start fun x8 h8 => ?_
 have e8 : x8 = (n : Int) := by rw [h8]; simp [IntKind.wrap,IntKind.bits,IntKind.signed]; omega
 subst e8
 refine Nj Aa.nil (by omega) (by omega) fun p1 n1 c1 σ1 pZ CO => ⟨p1,n1,c1,rfl,?_⟩
 rw [List.nil_append] at pZ
 suffices H : ∀ d k : Nat,∀ p3 n3 c3 σ3,n - k = d → k ≤ n → DZ .u8 (σ.new σ3) p3 n3 c3 (uv n ++ (ls.take k).flatMap Un) → Ext σ σ3 → Eb.BA R p3 n3 c3 p n c n k σ3 from H n 0 p1 n1 c1 σ1 rfl (Nat.zero_le _) (by simpa using pZ) CO
 intro d
 induction d with
 | zero =>
   intro k p3 n3 c3 σ3 hd hk ho hx
   refine Eb.Ac ⟨fun Az => by omega,fun _ => h p3 n3 c3 σ3 ?_ hx⟩
   rw [List.take_of_length_le (by omega)] at ho
   rw [AAK,hn]; exact ho
 | succ d ih =>
   intro k p3 n3 c3 σ3 hd hk ho hx
   have E4 : k < n := by omega
   obtain ⟨y,hy⟩ := hr.ex E4
   obtain ⟨b,o,rfl,hl⟩ := Cq.at hr hy
   have iz := hs.2 y (List.mem_of_getElem? hy)
   have hl3 := PZ ho
   have ad := Ke (x := n) (by omega)
   have hfl := nH (ls := ls.take k) fun x hx => hs.2 x (List.mem_of_mem_take hx)
   rw [List.length_append] at hl3
   rw [List.length_take] at hfl
   have h3b : n3 ≤ 9000 := by omega
   refine Eb.Ac ⟨fun _ => ⟨b,o,rfl,by omega,y.1,y.2,by simpa using hl.mono hx,fun _ => ?_⟩,fun hh => by omega⟩
   refine Nk (DZ.rd (A8.mono (Ext.Cw _ _) ho)) (by omega) (by omega) fun p4 n4 c4 σ4 JS Mu => ⟨p4,n4,c4,rfl,?_⟩
   have hl4 := PZ JS
   have hu1 := Ke (x := y.1.size) (by omega)
   simp only [List.length_append,dP] at hl4
   refine Nk (DZ.rd (A8.mono (Ext.Cw _ _) JS)) (by omega) (by omega) fun p5 n5 c5 σ5 OF Tu => ⟨p5,n5,c5,rfl,AF E4 hr.big,?_⟩
   refine ih (k + 1) p5 n5 c5 σ5 (by omega) (by omega) ?_ (hx.trans (Mu.trans Tu))
   have := A8.mono (Ext.CA (hx.trans Mu)) OF
   rw [AS hy,List.flatMap_append]
   simpa [Un,DZ] using this
end
end TwW
namespace TwW
open Go Tw Go.RowKit Go.Proofs.Tryz
section
variable {σ σ' τ : Hp} {R : Rr}
def P7 (x : ByteArray) (xs : List ByteArray) : Bool := xs.any fun y => decide (x = y)
theorem nI {x : ByteArray} {xs : List ByteArray} : P7 x xs = true ↔ x ∈ xs := by simp [P7]
theorem Kg {p : Option Addr} {n c : Nat} {x : ByteArray} {xs : List ByteArray} (hr : G6 1 σ p n (xs.map .string)) (h : R (.returned (.bool (P7 x xs))) σ) : Spec prog 199 #[.slice p n c,.string x] σ R := by
 have hn : xs.length = n := by have := hr.1; simpa using this
 have Si : n ≤ 4611686018427387904 := hr.2.1
 have key : ∀ i : Int,(0 ≤ i ↔ x ∈ xs) → AA R (CI .i64 fun x7 y => R (.returned (.bool (decide (0 ≤ x7)))) y) (.returned (.int .i64 i)) σ := fun i hi => ⟨i,rfl,by
   dsimp only
   rw [show decide (0 ≤ i) = P7 x xs by rw [Bool.eq_iff_iff,nI,decide_eq_true_eq]; exact hi]; exact h⟩
 refine EU.start (BR.start ?_)
 suffices H : ∀ d k : Nat,n - k = d → k ≤ n → x ∉ xs.take k → BR.MY (AA R (CI .i64 fun x7 y => R (.returned (.bool (decide (0 ≤ x7)))) y)) p n c x n k σ from H n 0 rfl (Nat.zero_le _) (by simp)
 intro d
 induction d with
 | zero =>
   intro k hd hk Bc
   refine BR.C3 ⟨fun Az => by omega,fun _ => key (-1) ?_⟩
   rw [List.take_of_length_le (by omega)] at Bc
   exact ⟨fun h => absurd h (by decide),fun h => absurd h Bc⟩
 | succ d ih =>
   intro k hd hk Bc
   have E4 : k < n := by omega
   obtain ⟨y,hy⟩ : ∃ y,xs[k]? = some y := ⟨_,List.getElem?_eq_getElem (by omega)⟩
   obtain ⟨b,o,rfl,hl⟩ := G6.at1 hr (k := k) (v := .string y) (by rw [List.getElem?_map,hy]; rfl)
   refine BR.C3 ⟨fun _ => ⟨b,o,rfl,by omega,y,by simpa using hl,fun he => key k ⟨fun _ => ?_,fun _ => by omega⟩,fun BD => ⟨AF E4 Si,ih (k + 1) (by omega) (by omega) ?_⟩⟩,fun Ul => by omega⟩
   · rw [fm,decide_eq_true_eq] at he
     rw [he]; exact List.mem_of_getElem? hy
   · rw [fm,decide_eq_false_iff_not] at BD
     rw [Tg hy]
     rintro (h1 | h1)
     · exact Bc h1
     · exact BD h1
theorem Pa {f : Nat} {cap : Array Value} {g : Lb → Bool} {p : Option Addr} {n c : Nat} {ls : List Lb} (Pr : Enters prog f) (hr : Cq σ p n ls) (hn : n ≤ 1000000)
   (hf : ∀ (σ' : Hp) (x : Lb) (R' : Rr),Ext σ σ' → R' (.returned (.bool (g x))) σ' → Spec prog f (#[] ++ #[.agg #[.string x.1,.string x.2]] ++ cap) σ' R')
   (h : ∀ p' n' c' σ',GD 2 BT (σ.new σ') p' n' c' (ls.filter g) → Ext σ σ' → R (.returned (.slice p' n' c')) σ') : Spec prog 197 #[.slice p n c,.func (.func f) #[] cap] σ R := by
 have nJ : ls.length = n := hr.1
 refine CR.start ?_
 suffices H : ∀ d k : Nat,∀ p5 n5 c5 σ5,n - k = d → k ≤ n → GD 2 BT (σ.new σ5) p5 n5 c5 ((ls.take k).filter g) → Ext σ σ5 → CR.BA R (.func (.func f) #[] cap) p5 n5 c5 p n c n k σ5 from H n 0 none 0 0 σ rfl (Nat.zero_le _) GD.nil (.refl _)
 intro d
 induction d with
 | zero =>
   intro k p5 n5 c5 σ5 hd hk ho hx
   refine CR.Ac ⟨fun Az => by omega,fun _ => h p5 n5 c5 σ5 ?_ hx⟩
   rw [List.take_of_length_le (by omega)] at ho; exact ho
 | succ d ih =>
   intro k p5 n5 c5 σ5 hd hk ho hx
   have E4 : k < n := by omega
   obtain ⟨x,fq⟩ := hr.ex E4
   obtain ⟨b,o,rfl,hl⟩ := Cq.at hr fq
   have hn5 : n5 ≤ n := by
     have h1 := ho.1
     have h2 := List.length_filter_le g (ls.take k)
     rw [List.length_take] at h2
     omega
   have ht : (ls.take (k + 1)).filter g = (ls.take k).filter g ++ if g x then [x] else [] := by
     rw [AS fq,List.filter_append]
     by_cases hg : g x <;> simp [hg]
   refine CR.Ac ⟨fun _ => ⟨b,o,rfl,by omega,x.1,x.2,by simpa using hl.mono hx,fun _ => ⟨f,#[],cap,rfl,Pr,hf σ5 x _ hx ⟨_,rfl,fun hg CY AMb => ?_,fun hg => ?_⟩⟩⟩,fun hh => by omega⟩
   · refine GD.Hb BT.mono (vs := [.string x.1,.string x.2]) (x := x) hx ho rfl (BT.one σ _ _ rfl) rfl (by omega) (fun p' c' σ' Es Kh => ⟨_,_,_,rfl,CR.QI ⟨AF E4 hr.big,ih (k + 1) _ _ _ _ (by omega) (by omega) ?_ Kh⟩⟩) AMb
     rw [ht,if_pos hg]; exact Es
   · refine CR.QI ⟨AF E4 hr.big,ih (k + 1) _ _ _ _ (by omega) (by omega) ?_ hx⟩
     rw [ht,if_neg (by simp [hg]),List.append_nil]; exact ho
theorem AGx : Enters prog 200 := fun args w => call200 args w
theorem I7 {p q : Option Addr} {n c m d : Nat} {ls : List Lb} {ns : List ByteArray} (hr : Cq σ p n ls) (hn : n ≤ 1000000) (hs : G6 1 σ q m (ns.map .string))
   (h : ∀ p' n' c' σ',GD 2 BT (σ.new σ') p' n' c' (ls.filter fun x => !P7 x.1 ns) → Ext σ σ' → R (.returned (.slice p' n' c')) σ') : Spec prog 150 #[.slice p n c,.slice q m d] σ R := by
 refine MG.start fun b3 hb3 => ?_
 have CV : Ext σ (σ.set b3 (.cells #[.slice q m d] 34 (0,0))) := .set hb3
 refine Pa (f := 200) (g := fun x => !P7 x.1 ns) AGx (hr.mono BT.mono CV) hn (fun σ' x R' hx Mv => ?_) fun p' n' c' σ' ho hx => ⟨_,_,_,rfl,h p' n' c' σ' ?_ (CV.trans hx)⟩
 · refine JR.start fun _ => ⟨q,m,d,Ai (hx _ _ (Hp.AB _ _ _)) rfl,Kg (hs.mono (CV.trans hx)) ⟨_,rfl,Mv⟩⟩
 · exact ho.mono BT.mono (Ext.CA CV)
end
end TwW
namespace TwW
open Go Tw Go.RowKit Go.Proofs.Tryz
section
variable {σ σ' τ : Hp} {R : Rr}
theorem Vu {α : Type} {b : Nat} {T : TypeId} {f : α → Value} {x : α} {ρ : Hp} (h : ρ b = some (.cells #[f x] T (0,0))) : G6 1 ρ (some ⟨b,0,none⟩) 1 ([x].map f) := ⟨rfl,by omega,.inr ⟨b,0,rfl,⟨Ai h rfl,trivial⟩⟩⟩
end
end TwW
end
section
namespace TwW
open Go Tw
structure Mt where
 kind : Int
 name : ByteArray
 val : ByteArray
structure Nd where
 kind : Int
 op : Int
 text : ByteArray
 mt : List Mt
 width : Int
 back : Int
 EH : Int
 names : List ByteArray
 bool : Bool
 parts : Int
structure Sr where
 ls : List Lb
 ps : List (Int × Int)
structure El where
 ls : List Lb
 v : Int
structure Rg where
 ls : List Lb
 vs : List Int
structure Vv where
 kind : Int
 v : Int
 vec : List El
 OU : List Rg
structure Fl where
 num : ByteArray → Int
 abs : Int → Int
 floor : Int → Int
 whole : Int → Int
 nK : Int → Int
 over : Int → List Int → Int → Option Int
 fold : Int → List Int → Int
 Nl : Int → Int → Int → Int × Bool
 Hi : List Mt → List Lb → Bool
 cmpL : List Lb → List Lb → Int
abbrev IE : Int := 9218868437227405314
def Uo : ByteArray := ⟨#[95,95,110,97,109,101,95,95]⟩
def GJ (ls : List Lb) : ByteArray := strOfNums (AAK ls)
section
variable {α : Type}
def Vw : List (ByteArray × α) → ByteArray → α → List (ByteArray × α)
 | [],k,x => [(k,x)]
 | (a,b) :: l,k,x => if a = k then (k,x) :: l else (a,b) :: Vw l k x
def DV : List (ByteArray × α) → ByteArray → Option α
 | [],_ => none
 | (a,b) :: l,k => if a = k then some b else DV l k
end
def C9 (ls : List Lb) : List Lb := ls.filter fun x => !P7 x.1 [Uo]
def YD (ns : List ByteArray) (ls : List Lb) : List Lb := ls.filter fun x => P7 x.1 ns
def YE (ns : List ByteArray) (ls : List Lb) : List Lb := ls.filter fun x => !P7 x.1 ns
section
variable (F : Fl)
def af (x : El) : List El → List El
 | [] => [x]
 | y :: l => if F.cmpL x.ls y.ls ≤ 0 then x :: y :: l else y :: af x l
def dR (l : List El) : List El := l.foldr (af F) []
def DQ (l : List El) : Option (List El) := if l.Pairwise (fun a b => F.cmpL a.ls b.ls ≠ 0) then some (dR F l) else none
def D3 (ps : List (Int × Int)) (DW Gy : Int) : List (Int × Int) := ps.filter fun p => decide (DW < p.1) && decide (p.1 ≤ Gy)
def BE (n : Nd) (ss : List Sr) (at_ : Int) : List El := ss.filterMap fun s => match (D3 s.ps (at_ - n.back - 300) (at_ - n.back)).getLast? with
 | none => none
 | some p => if p.2 = IE ∨ F.Hi n.mt s.ls = false then none else some ⟨s.ls,p.2⟩
def Bh (n : Nd) (ss : List Sr) (at_ : Int) : List Rg := ss.filterMap fun s =>
 let vs := ((D3 s.ps (at_ - n.back - n.width) (at_ - n.back)).filter fun p => decide (p.2 ≠ IE)).map Prod.snd
 bif !vs.isEmpty && F.Hi n.mt s.ls then some ⟨s.ls,vs⟩ else none
def Sj (n : Nd) (p : Vv) : List El := (p.vec.map fun x => ⟨C9 x.ls,if n.op = 11 then F.abs x.v else F.floor x.v⟩) ++ p.OU.filterMap fun s => (F.over n.op s.vs p.v).map fun v => ⟨C9 s.ls,v⟩
def D4 (n : Nd) (ls : List Lb) : List Lb := if n.EH = 1 then YD n.names ls else if n.EH = 2 then C9 (YE n.names ls) else []
def IF (ls : List Lb) (v : Int) : List Rg → List Rg
 | [] => [⟨ls,[v]⟩]
 | g :: l => if GJ g.ls = GJ ls then ⟨g.ls,g.vs ++ [v]⟩ :: l else g :: IF ls v l
def ag (n : Nd) (p : Vv) : List El := (p.vec.foldl (fun gs x => IF (D4 n x.ls) x.v gs) []).map fun g => ⟨g.ls,F.fold n.op g.vs⟩
def Ff (op : Int) : Bool := decide (5 ≤ op) && decide (op ≤ 10)
def Sk (n : Nd) (vec : List El) (f : Int → Int × Bool) : List El := vec.filterMap fun x =>
 if Ff n.op = false ∨ n.bool = true then some ⟨C9 x.ls,(f x.v).1⟩ else if (f x.v).2 then some x else none
def Mw (n : Nd) (ls : List Lb) : List Lb := if n.EH = 3 then YD n.names ls else C9 (YE n.names ls)
def Vx (n : Nd) (l : List El) : List (ByteArray × El) := l.foldl (fun m x => Vw m (GJ (Mw n x.ls)) x) []
def Up (n : Nd) (l : List El) (k : List Lb) : Option El := DV (Vx n l) (GJ k)
def ft (n : Nd) (l : List El) : Bool := decide ((Vx n l).length = l.length)
def MJ (n : Nd) (x y : List El) : List El :=
 (x.filter fun e => decide (n.op = 12) || ((Up n y (Mw n e.ls)).isSome == decide (n.op = 11))) ++ y.filter fun e => (Up n x (Mw n e.ls)).isNone && decide (n.op = 12)
def Nn (n : Nd) (x y : List El) : Option (List El) := if ft n x && ft n y then some (x.filterMap fun e => match Up n y (Mw n e.ls) with
 | none => none
 | some o => if Ff n.op = false ∨ n.bool = true then some ⟨Mw n e.ls,(F.Nl n.op e.v o.v).1⟩ else if (F.Nl n.op e.v o.v).2 then some e else none) else none
def fu (n : Nd) (x y : Vv) : Option Vv :=
 if x.kind = 1 ∧ y.kind = 1 then some ⟨1,(F.Nl n.op x.v y.v).1,[],[]⟩
 else ((if x.kind = 1 then some (Sk n y.vec (F.Nl n.op x.v)) else if y.kind = 1 then some (Sk n x.vec fun v => F.Nl n.op v y.v) else if 11 ≤ n.op ∧ n.op ≤ 13 then some (MJ n x.vec y.vec) else Nn F n x.vec y.vec).bind (DQ F)).map fun l => ⟨2,0,l,[]⟩
def fw (p : Vv) : Option Vv := if p.kind = 1 then some ⟨1,F.nK p.v,[],[]⟩ else (DQ F (p.vec.map fun x => ⟨C9 x.ls,F.nK x.v⟩)).map fun l => ⟨2,0,l,[]⟩
def F6 (ss : List Sr) (at_ : Int) (n : Nd) (l : List Vv) : Option Vv :=
 if n.kind = 1 then some ⟨1,F.num n.text,[],[]⟩
 else if n.kind = 2 then some ⟨2,0,BE F n ss at_,[]⟩
 else if n.kind = 3 then some ⟨3,F.whole n.width,[],Bh F n ss at_⟩
 else match l with
   | [p] => if n.kind = 4 then (DQ F (Sj F n p)).map fun l => ⟨2,0,l,[]⟩ else if n.kind = 5 then (DQ F (ag F n p)).map fun l => ⟨2,0,l,[]⟩ else if n.kind = 7 then fw F p else none
   | [p,q] => if n.kind = 6 then fu F n p q else none
   | _ => none
def HG (ss : List Sr) (at_ : Int) : List Nd → List Vv → Option (List Vv)
 | [],st => some st
 | n :: t,st => (F6 F ss at_ n (st.drop (st.length - n.parts.toNat))).bind fun v => HG ss at_ t (st.take (st.length - n.parts.toNat) ++ [v])
def BB (t : List Nd) (ss : List Sr) (at_ : Int) : Option (List El) := (HG F ss at_ t []).bind fun st => st.head?.map fun v => if v.kind = 1 then [⟨[],v.v⟩] else v.vec
end
section
variable {F : Fl}
end
end TwW
end
section
namespace TwW
open Go Tw
structure MK {α : Type} (c : α → α → Int) : Prop where
 eq : ∀ x y,c x y = 0 ↔ x = y
 Tv : ∀ x y,c x y < 0 ↔ 0 < c y x
 trans : ∀ x y z,c x y < 0 → c y z < 0 → c x z < 0
def IG {α : Type} (c : α → α → Int) : List α → List α → Int
 | [],[] => 0
 | [],_ :: _ => -1
 | _ :: _,[] => 1
 | x :: l,y :: m => if c x y = 0 then IG c l m else c x y
def I8 {α β : Type} (c : α → α → Int) (d : β → β → Int) (x y : α × β) : Int := if c x.1 y.1 = 0 then d x.2 y.2 else c x.1 y.1
theorem MK.IG {α : Type} {c : α → α → Int} (h : MK c) : MK (IG c) := by
 refine ⟨fun l => ?_,fun l => ?_,fun l => ?_⟩
 · induction l with
   | nil => intro m; cases m <;> simp [TwW.IG]
   | cons x l ih =>
     intro m
     cases m with
     | nil => simp [TwW.IG]
     | cons y m =>
       unfold TwW.IG
       by_cases hc : c x y = 0
       · rw [if_pos hc,ih]; simp [(h.eq x y).1 hc]
       · rw [if_neg hc]; simp [hc,mt (h.eq x y).2 hc]
 · induction l with
   | nil => intro m; cases m <;> simp [TwW.IG]
   | cons x l ih =>
     intro m
     cases m with
     | nil => simp [TwW.IG]
     | cons y m =>
       unfold TwW.IG
       by_cases hc : c x y = 0
       · have Sl := (h.eq x y).1 hc
         rw [if_pos hc,if_pos ((h.eq y x).2 Sl.symm),ih]
       · have hc' : c y x ≠ 0 := fun e => hc ((h.eq x y).2 ((h.eq y x).1 e).symm)
         rw [if_neg hc,if_neg hc',h.Tv]
 · induction l with
   | nil =>
     intro m k h1 h2
     cases m with
     | nil => simp [TwW.IG] at h1
     | cons y m =>
       cases k with
       | nil => simp [TwW.IG] at h2
       | cons z k => simp [TwW.IG]
   | cons x l ih =>
     intro m k h1 h2
     cases m with
     | nil => simp [TwW.IG] at h1
     | cons y m =>
       cases k with
       | nil => simp [TwW.IG] at h2
       | cons z k =>
         unfold TwW.IG at h1 h2 ⊢
         by_cases Sl : c x y = 0
         · rw [if_pos Sl] at h1
           have e := (h.eq x y).1 Sl
           subst e
           by_cases ah : c x z = 0
           · rw [if_pos ah] at h2 ⊢; exact ih m k h1 h2
           · rw [if_neg ah] at h2 ⊢; exact h2
         · rw [if_neg Sl] at h1
           by_cases ah : c y z = 0
           · rw [if_pos ah] at h2
             have e := (h.eq y z).1 ah
             subst e
             rw [if_neg Sl]; exact h1
           · rw [if_neg ah] at h2
             have h3 := h.trans x y z h1 h2
             rw [if_neg (by omega)]; exact h3
theorem MK.I8 {α β : Type} {c : α → α → Int} {d : β → β → Int} (h : MK c) (g : MK d) : MK (I8 c d) := by
 refine ⟨fun x y => ?_,fun x y => ?_,fun x y z h1 h2 => ?_⟩
 · obtain ⟨x1,x2⟩ := x
   obtain ⟨y1,y2⟩ := y
   unfold TwW.I8
   by_cases hc : c x1 y1 = 0
   · simp only [hc,if_pos]; rw [g.eq]; simp [(h.eq x1 y1).1 hc]
   · simp only [hc,if_false]; simp [hc,mt (h.eq x1 y1).2 hc]
 · unfold TwW.I8
   by_cases hc : c x.1 y.1 = 0
   · rw [if_pos hc,if_pos ((h.eq _ _).2 ((h.eq _ _).1 hc).symm),g.Tv]
   · rw [if_neg hc,if_neg (fun e => hc ((h.eq _ _).2 ((h.eq _ _).1 e).symm)),h.Tv]
 · unfold TwW.I8 at h1 h2 ⊢
   by_cases Sl : c x.1 y.1 = 0
   · rw [if_pos Sl] at h1
     rw [(h.eq _ _).1 Sl]
     by_cases ah : c y.1 z.1 = 0
     · rw [if_pos ah] at h2 ⊢; exact g.trans _ _ _ h1 h2
     · rw [if_neg ah] at h2 ⊢; exact h2
   · rw [if_neg Sl] at h1
     by_cases ah : c y.1 z.1 = 0
     · rw [if_pos ah] at h2
       rw [← (h.eq _ _).1 ah,if_neg Sl]; exact h1
     · rw [if_neg ah] at h2
       have h3 := h.trans _ _ _ h1 h2
       rw [if_neg (by omega)]; exact h3
def ai (a b : UInt8) : Int := if a < b then -1 else if b < a then 1 else 0
theorem Vy {a b : UInt8} : ai a b < 0 ↔ a.toNat < b.toNat := by
 unfold ai
 by_cases h : a < b
 · have := UInt8.lt_iff_toNat_lt.1 h; simp [h,this]
 · have h' := mt UInt8.lt_iff_toNat_lt.2 h
   rw [if_neg h]
   by_cases g : b < a <;> simp [g] <;> omega
theorem dS {a b : UInt8} : 0 < ai a b ↔ b.toNat < a.toNat := by
 unfold ai
 by_cases h : a < b
 · have := UInt8.lt_iff_toNat_lt.1 h; simp [h]; omega
 · rw [if_neg h]
   by_cases g : b < a
   · have := UInt8.lt_iff_toNat_lt.1 g; simp [g,this]
   · have h' := mt UInt8.lt_iff_toNat_lt.2 g; simp [g]; omega
theorem sN : MK ai := by
 refine ⟨fun x y => ?_,fun x y => ?_,fun x y z h1 h2 => ?_⟩
 · have h1 := @Vy x y
   have h2 := @dS x y
   rw [← UInt8.toNat_inj]; omega
 · rw [Vy,dS]
 · rw [Vy] at *; omega
theorem nL : ∀ a b : List UInt8,IG ai a b = Lib.compareBytes a b
 | [],[] => rfl
 | [],_ :: _ => rfl
 | _ :: _,[] => rfl
 | x :: l,y :: m => by
   unfold IG Lib.compareBytes
   rw [← nL l m]
   unfold ai
   by_cases h1 : x < y
   · simp [h1]
   · by_cases h2 : y < x <;> simp [h1,h2]
def DR (a b : ByteArray) : Int := Lib.compareBytes a.data.toList b.data.toList
theorem dT : MK DR := by
 have h := sN.IG
 refine ⟨fun x y => ?_,fun x y => ?_,fun x y z h1 h2 => ?_⟩
 · unfold DR
   rw [← nL,h.eq]
   exact ⟨fun e => by cases x; cases y; simp at e; rw [e],fun e => by rw [e]⟩
 · unfold DR; rw [← nL,← nL]; exact h.Tv _ _
 · unfold DR at *; rw [← nL] at *; exact h.trans _ _ _ h1 h2
def Aj : List Lb → List Lb → Int := IG (I8 DR DR)
theorem Af : MK Aj := (dT.I8 dT).IG
section
variable {F : Fl} (hF : F.cmpL = Aj)
theorem Ol (x : El) : ∀ l : List El,(af F x l).Perm (x :: l)
 | [] => List.Perm.refl _
 | y :: l => by
   unfold af
   split
   · exact List.Perm.refl _
   · exact ((Ol x l).cons y).trans (List.Perm.swap ..)
theorem I9 : ∀ l : List El,(dR F l).Perm l
 | [] => List.Perm.refl _
 | x :: l => (Ol x _).trans ((I9 l).cons x)
include hF
theorem le_trans' {x y z : El} (h1 : F.cmpL x.ls y.ls ≤ 0) (h2 : F.cmpL y.ls z.ls ≤ 0) : F.cmpL x.ls z.ls ≤ 0 := by
 rw [hF] at *
 rcases Int.lt_or_eq_of_le h1 with g1 | g1
 · rcases Int.lt_or_eq_of_le h2 with g2 | g2
   · exact Int.le_of_lt (Af.trans _ _ _ g1 g2)
   · rw [← (Af.eq _ _).1 g2]; exact h1
 · rw [(Af.eq _ _).1 g1]; exact h2
theorem Pb (x : El) : ∀ l : List El,l.Pairwise (fun a b => F.cmpL a.ls b.ls ≤ 0) → (af F x l).Pairwise fun a b => F.cmpL a.ls b.ls ≤ 0
 | [],_ => by simp [af]
 | y :: l,h => by
   rw [List.pairwise_cons] at h
   unfold af
   split
   · rename_i Sl
     refine List.pairwise_cons.2 ⟨fun z hz => ?_,List.pairwise_cons.2 h⟩
     rcases List.mem_cons.1 hz with rfl | hz
     · exact Sl
     · exact le_trans' hF Sl (h.1 z hz)
   · rename_i Sl
     refine List.pairwise_cons.2 ⟨fun z hz => ?_,Pb x l h.2⟩
     rcases List.mem_cons.1 ((Ol x l).mem_iff.1 hz) with rfl | hz
     · have h1 : 0 < F.cmpL z.ls y.ls := by omega
       rw [hF] at *
       exact Int.le_of_lt ((Af.Tv _ _).2 h1)
     · exact h.1 z hz
theorem JA : ∀ l : List El,(dR F l).Pairwise fun a b => F.cmpL a.ls b.ls ≤ 0
 | [] => List.Pairwise.nil
 | x :: l => Pb hF x _ (JA l)
theorem fx {l m : List El} (hp : m.Perm l) (hs : m.Pairwise fun a b => F.cmpL a.ls b.ls < 0) : DQ F l = some m := by
 have BD : m.Pairwise fun a b => F.cmpL a.ls b.ls ≠ 0 := hs.imp fun h => by omega
 have AMd : l.Pairwise fun a b => F.cmpL a.ls b.ls ≠ 0 := (hp.pairwise_iff fun {a b} h e => by
   rw [hF] at *
   exact h ((Af.eq _ _).2 ((Af.eq _ _).1 e).symm)).1 BD
 unfold DQ
 rw [if_pos AMd]
 refine congrArg some (List.Perm.eq_of_pairwise (le := fun a b : El => F.cmpL a.ls b.ls ≤ 0) (fun a b ha hb h1 h2 => ?_) (JA hF l) (hs.imp fun h => Int.le_of_lt h) ((I9 l).trans hp.symm))
 have qF : F.cmpL a.ls b.ls = 0 := by
   refine Int.le_antisymm h1 (Int.not_lt.1 fun h3 => ?_)
   rw [hF] at *
   have := (Af.Tv _ _).1 h3
   omega
 have ham := ((I9 (F := F) l).trans hp.symm).mem_iff.1 ha
 obtain ⟨i,hi,rfl⟩ := List.mem_iff_getElem.1 ham
 obtain ⟨j,hj,rfl⟩ := List.mem_iff_getElem.1 hb
 have qG := List.pairwise_iff_getElem.1 BD
 rcases Nat.lt_trichotomy i j with h | h | h
 · exact absurd qF (qG i j hi hj h)
 · subst h; rfl
 · have h4 := qG j i hj hi h
   rw [hF] at qF h4
   exact absurd ((Af.eq _ _).2 ((Af.eq _ _).1 qF).symm) h4
theorem fy {l m : List El} (hp : m.Perm l) (h : ¬ m.Pairwise fun a b => F.cmpL a.ls b.ls ≠ 0) : DQ F l = none := by
 unfold DQ
 rw [if_neg fun hl => h ((hp.pairwise_iff fun {a b} h e => by
   rw [hF] at *
   exact h ((Af.eq _ _).2 ((Af.eq _ _).1 e).symm)).2 hl)]
end
end TwW
end
section
namespace TwW
open Go Tw
def Dg (c : UInt8) (s : ByteArray) : List ByteArray := Lib.splitB ⟨#[c]⟩ 0 (Lib.countB s ⟨#[c]⟩) s
def Tx : List ByteArray → ByteArray → Bool
 | [],_ => true
 | t :: r,s => if Lib.index s.data.toList t.data.toList < 0 then false else Tx r (s.extract ((Lib.index s.data.toList t.data.toList).toNat + t.size) s.size)
def jA (l : List ByteArray) (s : ByteArray) : Bool :=
 let a := l.head?.getD ⟨#[]⟩
 let z := l.getLast?.getD ⟨#[]⟩
 if l.length = 1 then decide (s = a) else
   if s.size < a.size + z.size ∨ s.extract 0 a.size ≠ a ∨ s.extract (s.size - z.size) s.size ≠ z then false else Tx l.tail.dropLast (s.extract a.size (s.size - z.size))
def IH (p s : ByteArray) : Bool := (Dg 124 p).any fun x => jA (Dg 42 x) s
def Ki (m : Mt) (ls : List Lb) : Bool :=
 let v := Bz ls m.name
 if m.kind = 1 then decide (v = m.val) else if m.kind = 2 then decide (v ≠ m.val) else if m.kind = 3 then IH m.val v else if m.kind = 4 then !IH m.val v else false
def Fg (ms : List Mt) (ls : List Lb) : Bool := ms.all fun m => Ki m ls
def Fh (u : UInt8) : Bool := decide (48 ≤ u.toNat ∧ u.toNat ≤ 57)
end TwW
end
section
namespace TwW
open Go Tw
def JT (v least : Int) : Bool := decide (least ≤ v) && decide (v < 2147483648)
section
variable (nM : ByteArray → Bool) (AP3 : ByteArray → Bool)
def Om (n : Nd) : Bool := n.names.all nM && (decide (n.names.length = 0) || decide (n.EH ≠ 0))
def II (ms : List Mt) : Int := if 8 < ms.length then 41 else if ms.all (fun m => decide (1 ≤ m.kind ∧ m.kind ≤ 4) && nM m.name && decide (m.val.size ≤ 256)) then 0 else 40
end
end TwW
end
section
namespace TwW
open Go Tw Go.RowKit Go.Proofs.Tryz
abbrev Pt := Int × Int
def Co (_ : Hp) (vs : List Value) (x : Pt) : Prop := vs = [.int .i64 x.1,.int .u64 x.2]
theorem Co.mono : Ha Co := fun _ _ _ _ _ h => h
def Ay (σ : Hp) (vs : List Value) (s : Sr) : Prop := ∃ p n c q m d,vs = [.slice p n c,.slice q m d] ∧ Cq σ p n s.ls ∧ Aa 2 Co σ q m s.ps ∧ m ≤ d
theorem Ay.mono : Ha Ay := fun _ _ _ _ hx ⟨p,n,c,q,m,d,hv,h1,h2,h3⟩ => ⟨p,n,c,q,m,d,hv,h1.mono BT.mono hx,h2.mono Co.mono hx,h3⟩
def JZ (_ : Hp) (vs : List Value) (m : Mt) : Prop := vs = [.int .i64 m.kind,.string m.name,.string m.val]
theorem JZ.mono : Ha JZ := fun _ _ _ _ _ h => h
def EI (σ : Hp) (vs : List Value) (n : Nd) : Prop := ∃ p k c q m d,vs = [.int .i64 n.kind,.int .i64 n.op,.string n.text,.slice p k c,.int .i64 n.width,.int .i64 n.back,.int .i64 n.EH,.slice q m d,.bool n.bool,.int .i64 n.parts] ∧ Aa 3 JZ σ p k n.mt ∧ G6 1 σ q m (n.names.map .string)
theorem EI.mono : Ha EI := fun _ _ _ _ hx ⟨p,k,c,q,m,d,hv,h1,h2⟩ => ⟨p,k,c,q,m,d,hv,h1.mono JZ.mono hx,h2.mono hx⟩
def By (σ : Hp) (vs : List Value) (x : El) : Prop := ∃ p n c,vs = [.slice p n c,.int .u64 x.v] ∧ Cq σ p n x.ls
theorem By.mono : Ha By := fun _ _ _ _ hx ⟨p,n,c,hv,h⟩ => ⟨p,n,c,hv,h.mono BT.mono hx⟩
def Sm (σ : Hp) (vs : List Value) (x : Rg) : Prop := ∃ p n c q m d,vs = [.slice p n c,.slice q m d] ∧ Cq σ p n x.ls ∧ E3 .u64 σ q m x.vs ∧ m ≤ d
theorem Sm.mono : Ha Sm := fun _ _ _ _ hx ⟨p,n,c,q,m,d,hv,h1,h2,h3⟩ => ⟨p,n,c,q,m,d,hv,h1.mono BT.mono hx,h2.mono hx,h3⟩
def Mg (σ : Hp) (vs : List Value) (x : Vv) : Prop := ∃ p n c q m d,vs = [.int .i64 x.kind,.int .u64 x.v,.slice p n c,.slice q m d] ∧ Aa 2 By σ p n x.vec ∧ Aa 2 Sm σ q m x.OU
theorem Mg.mono : Ha Mg := fun _ _ _ _ hx ⟨p,n,c,q,m,d,hv,h1,h2⟩ => ⟨p,n,c,q,m,d,hv,h1.mono By.mono hx,h2.mono Sm.mono hx⟩
theorem Aa.sub {α : Type} {s : Nat} {E : Hp → List Value → α → Prop} {σ : Hp} {p : Option Addr} {n c i m : Nat} {xs : List α} (h : Aa s E σ p n xs) (hs : 0 < s) (him : i + m ≤ n) (hc : n ≤ c) : Aa s E σ (Jg p i c s) m ((xs.drop i).take m) := by
 obtain ⟨h1,cs,⟨h2,h3,h4⟩,h5,h6⟩ := h
 refine ⟨by rw [List.length_take,List.length_drop]; omega,(cs.drop (i * s)).take (m * s),⟨?_,by omega,?_⟩,?_,fun j x hj => ?_⟩
 · have : i * s + m * s ≤ n * s := by rw [← Nat.add_mul]; exact Nat.mul_le_mul_right _ him
   rw [List.length_take,List.length_drop]; omega
 · rcases Nat.eq_zero_or_pos m with hm | hm
   · exact .inl hm
   · rcases h4 with h4 | ⟨b,o,rfl,h4⟩
     · omega
     · refine .inr ⟨b,o + i * s,?_,?_⟩
       · unfold Jg
         rw [if_neg (by omega)]
         simp [Bj]
       · exact h4.part
 · have : i * s + m * s ≤ n * s := by rw [← Nat.add_mul]; exact Nat.mul_le_mul_right _ him
   rw [List.length_take,List.length_drop,List.length_take,List.length_drop]
   have : min m (xs.length - i) = m := by omega
   rw [this]; omega
 · rw [List.getElem?_take] at hj
   split at hj
   · rename_i hjm
     rw [List.getElem?_drop] at hj
     have := h6 (i + j) x hj
     have e : ((((cs.drop (i * s)).take (m * s)).drop (j * s)).take s) = (cs.drop ((i + j) * s)).take s := by
       have hle : j * s + s ≤ m * s := by rw [← Nat.succ_mul]; exact Nat.mul_le_mul_right _ hjm
       rw [List.drop_take,List.take_take,List.drop_drop,Nat.add_mul]
       congr 1
       omega
     rw [e]; exact this
   · cases hj
section
variable {σ σ' τ : Hp} {R : Rr}
theorem fz {a b : ByteArray} : YN prog 168 #[.string a,.string b] σ (.int .i64 (DR a b)) := fun w _ => by
 rw [run_callFunc_extern Go.Proofs.Tryz.func168 (by kernel_rfl) (by kernel_rfl) (by kernel_rfl) (e := Extern.BytealgCompare.compare) (by kernel_rfl),Lib.run_compareString]
 rfl
theorem Pc [Er] {a b : ByteArray} (h : R (.returned (.int .i64 (DR a b))) σ) : Spec prog 78 #[.string a,.string b] σ R :=
 JP.start (CC.start (.y fz ⟨_,rfl,_,rfl,h⟩))
theorem aj [Er] {x y : Lb} (h : ∀ σ',Ext σ σ' → R (.returned (.int .i64 (I8 DR DR x y))) σ') : Spec prog 76 #[.agg #[.string x.1,.string x.2],.agg #[.string y.1,.string y.2]] σ R := by
 refine JO.start fun _ _ => Pc ⟨_,rfl,Pc ⟨_,rfl,fun b hb => ?_⟩⟩
 have hh := h _ (.set hb (o := .cells #[.int .i64 (DR x.1 y.1),.int .i64 (DR x.2 y.2)] 3 (0,0)))
 unfold I8 at hh
 generalize DR x.1 y.1 = u at *
 generalize DR x.2 y.2 = v at *
 refine Gv.start (Gv.Ac ⟨fun _ => ⟨b,0,rfl,by omega,u,by simp [Hp.ld,Hp.AB],fun h0 => ⟨_,rfl,?_⟩,fun h0 => ⟨by unfold AG; omega,Gv.Ac ⟨fun _ => ⟨b,0,rfl,by omega,v,by simp [Hp.ld,Hp.AB],fun h1 => ⟨_,rfl,?_⟩,fun h1 => ⟨by unfold AG; omega,Gv.Ac ⟨fun h2 => by omega,fun _ => ⟨_,rfl,?_⟩⟩⟩⟩,fun h2 => by omega⟩⟩⟩,fun h2 => by omega⟩)
 · rw [if_neg h0] at hh; exact hh
 · rw [if_pos (Decidable.not_not.1 h0)] at hh; exact hh
 · have qH : v = 0 := Decidable.not_not.1 h1
   rw [if_pos (Decidable.not_not.1 h0),qH] at hh
   rw [← qH] at hh ⊢
   exact hh
theorem AMe : Enters prog 76 := fun args w => call76 args w
theorem BC {α : Type} {xs : List α} {k : Nat} {y : α} (hy : xs[k]? = some y) : xs.drop k = y :: xs.drop (k + 1) := by
 obtain ⟨h,rfl⟩ := List.getElem?_eq_some_iff.1 hy
 exact List.drop_eq_getElem_cons h
theorem LL [Er] {p q : Option Addr} {n c m d : Nat} {ls ms : List Lb} (hr : Cq σ p n ls) (hs : Cq σ q m ms) (h : ∀ σ',Ext σ σ' → R (.returned (.int .i64 (Aj ls ms))) σ') : Spec prog 52 #[.slice p n c,.slice q m d] σ R := by
 have hl : ls.length = n := hr.1
 have hm : ms.length = m := hs.1
 refine MD.start (A3.start ?_)
 suffices H : ∀ g k : Nat,∀ σ',n - k = g → k ≤ n → k ≤ m → Ext σ σ' → Aj ls ms = Aj (ls.drop k) (ms.drop k) → A3.MY (AA R (CI .i64 fun x7 y => R (.returned (.int .i64 x7)) y)) p n c q m d (.func (.func 76) #[] #[]) p n c n k σ' from H n 0 σ rfl (Nat.zero_le _) (Nat.zero_le _) (.refl _) rfl
 intro g
 induction g with
 | zero =>
   intro k σ' hg hk Sn hx he
   have Wi : k = n := by omega
   rw [List.drop_eq_nil_of_le (by omega)] at he
   refine A3.C3 ⟨fun Az => by omega,fun _ => ⟨fun hnm => ⟨_,rfl,?_⟩,fun hnm => ⟨_,rfl,?_⟩⟩⟩
   · obtain ⟨y,hy⟩ := hs.ex (k := k) (by omega)
     rw [BC hy] at he
     have := h σ' hx
     rw [he] at this; exact this
   · rw [List.drop_eq_nil_of_le (by omega)] at he
     have := h σ' hx
     rw [he] at this; exact this
 | succ g ih =>
   intro k σ' hg hk Sn hx he
   obtain ⟨x,fq⟩ := hr.ex (k := k) (by omega)
   obtain ⟨b,o,rfl,LM⟩ := Cq.at hr fq
   rw [BC fq] at he
   refine A3.C3 ⟨fun _ => ⟨b,o,rfl,by omega,x.1,x.2,by simpa using LM.mono hx,fun _ => ⟨fun pa => ⟨_,rfl,?_⟩,fun pa => ?_⟩⟩,fun hh => by omega⟩
   · rw [show ms.drop k = [] from List.drop_eq_nil_of_le (by omega)] at he
     have := h σ' hx
     rw [he] at this; exact this
   · obtain ⟨y,hyk⟩ := hs.ex (k := k) (by omega)
     obtain ⟨b',o',rfl,Mx⟩ := Cq.at hs hyk
     rw [BC hyk] at he
     have Gm : Aj ls ms = if I8 DR DR x y = 0 then Aj (ls.drop (k + 1)) (ms.drop (k + 1)) else I8 DR DR x y := he
     refine ⟨b',o',rfl,by omega,y.1,y.2,by simpa using Mx.mono hx,fun _ => ⟨76,#[],#[],rfl,AMe,aj fun σ2 A1 => ⟨_,rfl,fun BD => ⟨_,rfl,?_⟩,fun heq => ⟨AF (by omega : k < n) hr.big,ih (k + 1) σ2 (by omega) (by omega) (by omega) (hx.trans A1) ?_⟩⟩⟩⟩
     · have := h σ2 (hx.trans A1)
       rw [Gm,if_neg BD] at this; exact this
     · rw [Gm,if_pos (Decidable.not_not.1 heq)]
def GK : List Pt → Bool
 | [] => false
 | [_] => true
 | a :: b :: l => decide (a.1 < b.1) && GK (b :: l)
theorem Ef : ∀ ps : List Pt,GK ps = true ↔ 0 < ps.length ∧ ∀ j a b,ps[j]? = some a → ps[j + 1]? = some b → a.1 < b.1
 | [] => by simp [GK]
 | [a] => by simp [GK]
 | a :: b :: l => by
   simp only [GK,Bool.and_eq_true,decide_eq_true_eq]
   rw [Ef (b :: l)]
   constructor
   · rintro ⟨h1,h2,h3⟩
     refine ⟨by simp,fun j x y hx hy => ?_⟩
     cases j with
     | zero => simp at hx hy; subst hx; subst hy; exact h1
     | succ j => exact h3 j x y (by simpa using hx) (by simpa using hy)
   · rintro ⟨h1,h2⟩
     exact ⟨h2 0 a b rfl rfl,by simp,fun j x y hx hy => h2 (j + 1) x y (by simpa using hx) (by simpa using hy)⟩
theorem Co.at {p : Option Addr} {n i : Nat} {ps : List Pt} {x : Pt} (hr : Aa 2 Co σ p n ps) (hx : ps[i]? = some x) : ∃ b o,p = some ⟨b,o,none⟩ ∧ Au σ b (o + i * 2) [.int .i64 x.1,.int .u64 x.2] := by
 obtain ⟨b,o,vs,hp,rfl,hl⟩ := Aa.idx hr hx
 exact ⟨b,o,hp,hl⟩
theorem YG {p : Option Addr} {n c : Nat} {ps : List Pt} (hr : Aa 2 Co σ p n ps) (h : R (.returned (.bool (GK ps))) σ) : Spec prog 69 #[.slice p n c] σ R := by
 have hl : ps.length = n := hr.1
 refine Dc.start ?_
 have fin : (∀ j a b,ps[j]? = some a → ps[j + 1]? = some b → a.1 < b.1) → R (.returned (.bool (decide (0 < (n : Int))))) σ := fun hh => by
   have e : GK ps = decide (0 < (n : Int)) := by
     rw [Bool.eq_iff_iff,Ef,decide_eq_true_eq]
     exact ⟨fun h => by omega,fun h => ⟨by omega,hh⟩⟩
   rw [e] at h; exact h
 suffices H : ∀ g k : Nat,n - k = g → 1 ≤ k → (∀ j a b,j + 1 < k → ps[j]? = some a → ps[j + 1]? = some b → a.1 < b.1) → Dc.F3 R p n c k σ from H (n - 1) 1 rfl (Nat.le_refl _) (fun j a b hj => by omega)
 intro g
 induction g with
 | zero =>
   intro k hg hk Bc
   refine Dc.As ⟨fun Az => by omega,fun _ => fin fun j a b ha hb => Bc j a b ?_ ha hb⟩
   have := (List.getElem?_eq_some_iff.1 hb).1; omega
 | succ g ih =>
   intro k hg hk Bc
   obtain ⟨x,hx⟩ := hr.ex (k := k) (by omega)
   obtain ⟨y,hy⟩ := hr.ex (k := k - 1) (by omega)
   obtain ⟨b,o,rfl,LM⟩ := Co.at hr hx
   obtain ⟨_,_,he,Mx⟩ := Co.at hr hy
   cases he
   have e1 : Int.toNat ((k : Int) - 1) = k - 1 := by omega
   refine Dc.As ⟨fun _ => ⟨b,o,rfl,by omega,x.1,by simpa using LM.1,by unfold AG; have := hr.big; omega,by omega,y.1,by rw [e1]; simpa using Mx.1,fun hle => ?_,fun hgt => ⟨AF (by omega : k < n) hr.big,ih (k + 1) (by omega) (by omega) fun j a b' hj ha hb => ?_⟩⟩,fun hh => by omega⟩
   · have e : GK ps = false := by
       rw [Bool.eq_false_iff,ne_eq,Ef]
       exact fun hh => by
         have := hh.2 (k - 1) y x hy (by rw [show k - 1 + 1 = k by omega]; exact hx)
         omega
     rw [e] at h; exact h
   · by_cases qP : j + 1 = k
     · rw [qP,hx] at hb; cases hb
       rw [show j = k - 1 by omega,hy] at ha; cases ha
       omega
     · exact Bc j a b' (by omega) ha hb
def BN : Option (List Lb) → List Sr → Bool
 | _,[] => true
 | q,s :: l => decide (Cr s.ls = 0) && GK s.ps && (match q with | none => true | some q => decide (Aj q s.ls < 0)) && BN (some s.ls) l
theorem FK (q : Option (List Lb)) (s : Sr) (l : List Sr) : BN q (s :: l) = (decide (Cr s.ls = 0) && GK s.ps && (match q with | none => true | some q => decide (Aj q s.ls < 0)) && BN (some s.ls) l) := by
 cases q <;> rfl
theorem Ay.at {p : Option Addr} {n i : Nat} {ss : List Sr} {s : Sr} (hr : Aa 2 Ay σ p n ss) (hx : ss[i]? = some s) : ∃ b o p1 n1 c1 q m d,p = some ⟨b,o,none⟩ ∧ Au σ b (o + i * 2) [.slice p1 n1 c1,.slice q m d] ∧ Cq σ p1 n1 s.ls ∧ Aa 2 Co σ q m s.ps ∧ m ≤ d := by
 obtain ⟨b,o,vs,hp,⟨p1,n1,c1,q,m,d,rfl,h1,h2,h3⟩,hl⟩ := Aa.idx hr hx
 exact ⟨b,o,p1,n1,c1,q,m,d,hp,hl,h1,h2,h3⟩
theorem YH {p : Option Addr} {n c : Nat} {ss : List Sr} (hr : Aa 2 Ay σ p n ss) (h : ∀ σ',Ext σ σ' → R (.returned (.int .i64 (if BN none ss then 0 else 100))) σ') : Spec prog 46 #[.slice p n c] σ R := by
 have hl : ss.length = n := hr.1
 refine DL.start ?_
 suffices H : ∀ g k : Nat,∀ σ',n - k = g → k ≤ n → Ext σ σ' → BN none ss = BN (if k = 0 then none else (ss[k - 1]?).map (·.ls)) (ss.drop k) → DL.MY R p n c p n c n k σ' from H n 0 σ rfl (Nat.zero_le _) (.refl _) rfl
 intro g
 induction g with
 | zero =>
   intro k σ' hg hk hx he
   rw [List.drop_eq_nil_of_le (by omega)] at he
   refine DL.C3 ⟨fun Az => by omega,fun _ => ?_⟩
   have := h σ' hx
   rw [he] at this; exact this
 | succ g ih =>
   intro k σ' hg hk hx he
   have E4 : k < n := by omega
   obtain ⟨s,hs⟩ := hr.ex E4
   obtain ⟨b,o,p1,n1,c1,q,m,d,rfl,Ja,h1,h2,h3⟩ := Ay.at hr hs
   rw [BC hs,FK] at he
   have bad : (decide (Cr s.ls = 0) && GK s.ps && (match (if k = 0 then none else (ss[k - 1]?).map (·.ls)) with | none => true | some q => decide (Aj q s.ls < 0))) = false → ∀ σ2,Ext σ σ2 → R (.returned (.int .i64 100)) σ2 := fun hf σ2 A1 => by
     have := h σ2 A1
     rw [he,hf] at this; exact this
   refine DL.C3 ⟨fun _ => ⟨b,o,rfl,by omega,p1,n1,c1,q,m,d,by simpa using Ja.mono hx,fun _ => P6 (h1.mono BT.mono hx) ⟨_,rfl,fun BD => bad (by simp [BD]) σ' hx,fun h0 => YG (h2.mono Co.mono hx) ⟨_,rfl,fun hf => bad (by simp [hf]) σ' hx,fun ht => ?_⟩⟩⟩,fun hh => by omega⟩
   have Pd := Decidable.not_not.1 h0
   have ht' : GK s.ps = true := ht
   have next : ∀ σ2,Ext σ σ2 → (match (if k = 0 then none else (ss[k - 1]?).map (·.ls)) with | none => true | some q => decide (Aj q s.ls < 0)) = true → AG ((k : Int) + 1) ∧ DL.MY R (aD b o) n c (aD b o) n c n ((k : Int) + 1) σ2 := fun σ2 A1 hm => by
     refine ⟨AF E4 hr.big,ih (k + 1) σ2 (by omega) (by omega) A1 ?_⟩
     rw [he,hm,Pd,ht']
     simp [hs]
   refine ⟨fun MR => ⟨by unfold AG; have := hr.big; omega,b,o,rfl,by omega,?_⟩,fun MR => next σ' hx (by rw [if_pos (by omega)])⟩
   obtain ⟨s',OM⟩ := hr.ex (k := k - 1) (by omega)
   obtain ⟨_,_,p1',n1',c1',_,_,_,QQ,ak,qH,_,_⟩ := Ay.at hr OM
   cases QQ
   have e1 : Int.toNat ((k : Int) - 1) = k - 1 := by omega
   refine ⟨p1',n1',c1',by rw [e1]; simpa using (ak.mono hx).1,LL (qH.mono BT.mono hx) (h1.mono BT.mono hx) fun σ2 A1 => ⟨_,rfl,fun Ul => bad ?_ σ2 (hx.trans A1),fun Az => next σ2 (hx.trans A1) ?_⟩⟩
   · rw [if_neg (by omega),OM]
     simp; omega
   · rw [if_neg (by omega),OM]
     simp; omega
end
end TwW
end
section
namespace TwW
open Go Tw Go.RowKit Go.Proofs.Tryz
def IJ (x : Nat) : Bool := !(FloatKind.f64.format.order x x == some .eq)
def toF (x : Nat) : Nat := if IJ x then 9221120237041090560 else x
theorem Sp (d : Ieee.Datum) : d.order d = if d.isNaN then none else some .eq := by
 cases d with
 | nan => rfl
 | infinity s => cases s <;> rfl
 | number s m i => simp [Ieee.Datum.order,Ieee.Datum.isNaN,Std.ReflCmp.compare_self]
theorem Kj (x : Nat) : IJ x = true ↔ 9218868437227405312 < x % 9223372036854775808 := by
 have h1 : IJ x = (Ieee.double.read x).isNaN := by
   show (!((Ieee.double.read x).order (Ieee.double.read x) == some .eq)) = _
   rw [Sp]
   cases (Ieee.double.read x).isNaN <;> rfl
 rw [h1]
 have e1 : Ieee.double.signWeight = 9223372036854775808 := by decide
 have e2 : Ieee.double.binade = 4503599627370496 := by decide
 have e3 : Ieee.double.infRung = 9218868437227405312 := by decide
 unfold Ieee.Format.read
 simp only [e1,e2,e3]
 split
 · simp [Ieee.Datum.isNaN]; omega
 · split
   · simp [Ieee.Datum.isNaN]; omega
   · split
     · simp [Ieee.Datum.isNaN]; omega
     · simp [Ieee.Datum.isNaN]; omega
theorem YI : IJ 9221120237041090560 = true := (Kj _).2 (by decide)
theorem al (a b t : Nat) : IJ (Question.cut (.nanBits .f64 a b) t) = true := by
 rw [Kj]
 show 9218868437227405312 < ((t % 2) * 9223372036854775808 + 9218868437227405312 + 1 + (t / 2) % 4503599627370495) % 9223372036854775808
 have h1 := Nat.mod_lt (t / 2) (show 0 < 4503599627370495 by decide)
 generalize (t / 2) % 4503599627370495 = r at *
 rcases Nat.mod_two_eq_zero_or_one t with h | h <;> rw [h] <;> omega
theorem toF_drawn (a b t : Nat) : toF (Question.cut (.nanBits .f64 a b) t) = 9221120237041090560 := by unfold toF; rw [al]; rfl
def fAr (op : Int) (a b : Nat) : Option Nat := if op = 1 then Ieee.double.add a b else if op = 2 then Ieee.double.sub a b else if op = 3 then Ieee.double.mul a b else Ieee.double.div a b
def AG1 : Option Nat → Nat
 | some r => toF r
 | none => 9221120237041090560
def AMf (a b : Nat) : Option Nat → Sem Value
 | some r => pure (.float .f64 r)
 | none => do pure (.float .f64 (← choose (.nanBits .f64 a b)))
def Vz (op : Int) (a b : Nat) : Nat := AG1 (fAr op a b)
def fCm (op : Int) (a b : Nat) : Bool :=
 let c := Ieee.double.order a b
 if op = 5 then c == some .eq else if op = 6 then c != some .eq else if op = 7 then c == some .lt else if op = 8 then c == some .lt || c == some .eq else if op = 9 then c == some .gt else if op = 10 then c == some .gt || c == some .eq else false
section
variable [Er] {σ : Hp} {R : Rr}
theorem No {b : Nat} : YN prog 45 #[.float .f64 b] σ (.int .u64 b) := fun w _ => by
 rw [run_callFunc_extern Go.Proofs.Tryz.func45 (by kernel_rfl) (by kernel_rfl) (by kernel_rfl) (e := Extern.MathFloatBits.float64bits) (by kernel_rfl)]
 rfl
theorem nN {x : Int} : YN prog 22 #[.int .u64 x] σ (.float .f64 x.toNat) := fun w _ => by
 rw [run_callFunc_extern Go.Proofs.Tryz.func22 (by kernel_rfl) (by kernel_rfl) (by kernel_rfl) (e := Extern.MathFloatBits.float64frombits) (by kernel_rfl)]
 rfl
theorem ao {x : Nat} (h : R (.returned (.bool (IJ x))) σ) : Spec prog 216 #[.float .f64 x] σ R :=
 RF.start ⟨IJ x,fun w _ => rfl,h⟩
theorem GL {x : Int} (h : R (.returned (.float .f64 x.toNat)) σ) : Spec prog 182 #[.int .u64 x] σ R :=
 cd.start (.y nN ⟨_,rfl,h⟩)
theorem GM {x : Nat} (h : R (.returned (.int .u64 (toF x : Nat))) σ) : Spec prog 174 #[.float .f64 x] σ R := by
 refine dG.start (ao ⟨_,rfl,fun ht => ?_,fun hf => .y No ⟨_,rfl,?_⟩⟩)
 · rw [show toF x = 9221120237041090560 by unfold toF; rw [ht]; rfl] at h; exact h
 · rw [show toF x = x by unfold toF; rw [hf]; rfl] at h; exact h
def nrm (x : Int) : Int := (toF x.toNat : Nat)
theorem Fi {x : Int} (h : R (.returned (.int .u64 (nrm x))) σ) : Spec prog 186 #[.int .u64 x] σ R :=
 PO.start (GL ⟨_,rfl,GM ⟨_,rfl,h⟩⟩)
theorem nO {m : Sem Value} {q : Question} {f : Nat → Value} {Φ : Value → Hp → Prop} (hm : ∀ w,m.run prog w = .ok (f (q.cut (w.tape w.drawn q))) { w with drawn := w.drawn + 1 }) (h : ∀ t,Φ (f (q.cut t)) σ) : AK prog m σ Φ := fun w F hs hF =>
 ⟨_,_,σ,hm w,h _,⟨fun b o hb => hs b o hb,fun b hb => ⟨(hF b hb).2,rfl⟩,(Dr.same rfl rfl rfl).drew,rfl,Nat.le_refl _⟩⟩
theorem Ss {m : Sem Value} {v : Value} {Φ : Value → Hp → Prop} (hm : ∀ w,m.run prog w = .ok v w) (h : Φ v σ) : AK prog m σ Φ := fun w F hs hF =>
 ⟨_,_,σ,hm w,h,⟨hs,fun b hb => ⟨(hF b hb).2,rfl⟩,.same rfl rfl rfl,rfl,Nat.le_refl _⟩⟩
theorem LN {op : BinOp} {a b : Nat} {Φ : Value → Hp → Prop} (r : Option Nat) (hr : ∀ w,(Go.binOp op 51 (.float .f64 a) (.float .f64 b)).run prog w = (AMf a b r).run prog w)
   (h : ∀ x : Nat,toF x = AG1 r → Φ (.float .f64 x) σ) : AK prog (Go.binOp op 51 (.float .f64 a) (.float .f64 b)) σ Φ := by
 cases r with
 | some r => exact Ss (v := .float .f64 r) (fun w => (hr w).trans rfl) (h r rfl)
 | none => exact nO (q := .nanBits .f64 a b) (f := fun x => .float .f64 x) (fun w => (hr w).trans rfl) (fun t => h _ (toF_drawn a b t))
theorem QS {a b : Nat} {Φ : Value → Hp → Prop} (h : ∀ x : Nat,toF x = Vz 1 a b → Φ (.float .f64 x) σ) : AK prog (Go.binOp .add 51 (.float .f64 a) (.float .f64 b)) σ Φ :=
 LN (Ieee.double.add a b) (fun w => by refine (show _ = (Op.floatArith .add .f64 a b).run prog w from rfl).trans ?_; unfold Op.floatArith; simp only [FloatKind.format]; cases Ieee.double.add a b <;> rfl) h
theorem sO {a b : Nat} {Φ : Value → Hp → Prop} (h : ∀ x : Nat,toF x = Vz 2 a b → Φ (.float .f64 x) σ) : AK prog (Go.binOp .sub 51 (.float .f64 a) (.float .f64 b)) σ Φ :=
 LN (Ieee.double.sub a b) (fun w => by refine (show _ = (Op.floatArith .sub .f64 a b).run prog w from rfl).trans ?_; unfold Op.floatArith; simp only [FloatKind.format]; cases Ieee.double.sub a b <;> rfl) h
theorem Np {a b : Nat} {Φ : Value → Hp → Prop} (h : ∀ x : Nat,toF x = Vz 3 a b → Φ (.float .f64 x) σ) : AK prog (Go.binOp .mul 51 (.float .f64 a) (.float .f64 b)) σ Φ :=
 LN (Ieee.double.mul a b) (fun w => by refine (show _ = (Op.floatArith .mul .f64 a b).run prog w from rfl).trans ?_; unfold Op.floatArith; simp only [FloatKind.format]; cases Ieee.double.mul a b <;> rfl) h
theorem dU {a b : Nat} {Φ : Value → Hp → Prop} (h : ∀ x : Nat,toF x = Vz 4 a b → Φ (.float .f64 x) σ) : AK prog (Go.binOp .quo 51 (.float .f64 a) (.float .f64 b)) σ Φ :=
 LN (Ieee.double.div a b) (fun w => by refine (show _ = (Op.floatArith .quo .f64 a b).run prog w from rfl).trans ?_; unfold Op.floatArith; simp only [FloatKind.format]; cases Ieee.double.div a b <;> rfl) h
def QT (op a b : Int) : Int := (Vz op a.toNat b.toNat : Nat)
theorem JB {op a b : Int} (h : R (.returned (if 1 ≤ op ∧ op ≤ 4 then .tuple #[.int .u64 (QT op a b),.bool true] else .tuple #[.int .u64 0,.bool false])) σ) : Spec prog 203 #[.int .i64 op,.int .u64 a,.int .u64 b] σ R := by
 refine SO.start (GL ⟨_,rfl,GL ⟨_,rfl,fun h1 => QS fun x hx => ⟨_,rfl,GM ⟨_,rfl,?_⟩⟩,fun h1 => ⟨fun h2 => sO fun x hx => ⟨_,rfl,GM ⟨_,rfl,?_⟩⟩,fun h2 => ⟨fun h3 => Np fun x hx => ⟨_,rfl,GM ⟨_,rfl,?_⟩⟩,fun h3 => ⟨fun h4 => dU fun x hx => ⟨_,rfl,GM ⟨_,rfl,?_⟩⟩,fun h4 => ?_⟩⟩⟩⟩⟩)
 · subst h1; rw [hx]; exact h
 · subst h2; rw [hx]; exact h
 · subst h3; rw [hx]; exact h
 · subst h4; rw [hx]; exact h
 · rw [if_neg (by omega)] at h; exact h
end
end TwW
end
section
namespace TwW
open Go Tw Go.RowKit Go.Proofs.Tryz
section
variable [Er] {σ : Hp} {R : Rr}
def YJ (op a b : Int) : Bool := fCm op a.toNat b.toNat
theorem JC {op a b : Int} (h : R (.returned (.tuple #[.bool (YJ op a b),.bool (decide (5 ≤ op ∧ op ≤ 10))])) σ) : Spec prog 204 #[.int .i64 op,.int .u64 a,.int .u64 b] σ R := by
 have fin : ∀ {k : Int} {t : Bool},op = k → 5 ≤ k → k ≤ 10 → fCm k a.toNat b.toNat = t → R (.returned (.tuple #[.bool t,.bool true])) σ := fun hk h5 ad ht => by
   subst hk
   rw [show YJ op a b = fCm op a.toNat b.toNat from rfl,ht,show decide (5 ≤ op ∧ op ≤ 10) = true from decide_eq_true ⟨h5,ad⟩] at h
   exact h
 refine Ng.start (GL ⟨_,rfl,GL ⟨_,rfl,
   fun h1 => ⟨_,fun w _ => rfl,fin h1 (by decide) (by decide) rfl⟩,fun h1 =>
   ⟨fun h2 => ⟨_,fun w _ => rfl,fin h2 (by decide) (by decide) rfl⟩,fun h2 =>
   ⟨fun h3 => ⟨_,fun w _ => rfl,fin h3 (by decide) (by decide) rfl⟩,fun h3 =>
   ⟨fun h4 => ⟨_,fun w _ => rfl,fin h4 (by decide) (by decide) rfl⟩,fun h4 =>
   ⟨fun h5 => ⟨_,fun w _ => rfl,fin h5 (by decide) (by decide) rfl⟩,fun h5 =>
   ⟨fun h6 => ⟨_,fun w _ => rfl,fin h6 (by decide) (by decide) rfl⟩,fun h6 => ?_⟩⟩⟩⟩⟩⟩⟩)
 rw [show decide (5 ≤ op ∧ op ≤ 10) = false from decide_eq_false (by omega),show YJ op a b = false by unfold YJ fCm; simp only [h1,h2,h3,h4,h5,h6,if_false]] at h
 exact h
def V0 (x : Int) : Int := (toF (Go.bits .andNot .u64 x 9223372036854775808).toNat : Nat)
theorem nP {x : Int} (hx : 0 ≤ x) (h : R (.returned (.int .u64 (V0 x))) σ) : Spec prog 144 #[.int .u64 x] σ R := by
 refine Nc.start (GL ⟨_,rfl,XU.start (.y No ⟨_,rfl,fun x5 h5 => .y nN ⟨_,rfl,_,rfl,GM ⟨_,rfl,?_⟩⟩⟩)⟩)
 rw [show V0 x = (toF x5.toNat : Nat) by unfold V0; rw [h5,Int.toNat_of_nonneg hx]] at h
 exact h
def Kk (x : Nat) : Nat := match Ieee.double.read x with
 | .nan _ _ => 9221120237041090560
 | d => toF (Ieee.double.write (d.integral .down))
def Mh (x : Int) : Int := (Kk x.toNat : Nat)
theorem Uq (x : Nat) : IJ x = (Ieee.double.read x).isNaN := by
 show (!((Ieee.double.read x).order (Ieee.double.read x) == some .eq)) = _
 rw [Sp]
 cases (Ieee.double.read x).isNaN <;> rfl
theorem aq (s : Bool) (t : Nat) : IJ (Ieee.double.write (.nan s (Ieee.double.quiet t))) = true := by
 rw [Kj]
 have e1 : Ieee.double.signWeight = 9223372036854775808 := by decide
 have e2 : Ieee.double.binade = 4503599627370496 := by decide
 have e3 : Ieee.double.infRung = 9218868437227405312 := by decide
 have hp : (Ieee.double.quiet t % 4503599627370496).testBit 51 = true := by
   rw [show 4503599627370496 = 2 ^ 52 from rfl,Nat.testBit_mod_two_pow]
   show (decide (51 < 52) && (t ||| 2 ^ 51).testBit 51) = true
   rw [Nat.testBit_or,Nat.testBit_two_pow_self]
   simp
 have hp0 : 0 < Ieee.double.quiet t % 4503599627370496 := by
   apply Nat.pos_of_ne_zero
   intro h0
   rw [h0] at hp
   simp at hp
 have Az := Nat.mod_lt (Ieee.double.quiet t) (show 0 < 4503599627370496 by decide)
 show 9218868437227405312 < Ieee.double.word s (Ieee.double.infRung + Ieee.double.quiet t % Ieee.double.binade) % 9223372036854775808
 unfold Ieee.Format.word
 rw [e1,e2,e3]
 generalize Ieee.double.quiet t % 4503599627370496 = p at *
 cases s
 · rw [if_neg (by decide)]; omega
 · rw [if_pos rfl]; omega
def flo (x : Nat) : Sem Value := match Ieee.double.read x with
 | .nan s t => if Ieee.double.quiet t = t then pure (.float .f64 x) else do
   let kept ← choose (.extern "math.Floor,Ceil,Trunc,RoundToEven.signallingNaN kept" 2)
   pure (.float .f64 (if kept == 1 then x else Ieee.double.write (.nan s (Ieee.double.quiet t))))
 | d => pure (.float .f64 (Ieee.double.write (d.integral .down)))
theorem nQ {x : Nat} {Φ : Value → Hp → Prop} (h : ∀ y : Nat,toF y = Kk x → Φ (.float .f64 y) σ) : EN prog 222 #[.float .f64 x] σ Φ := by
 have B9 : ∀ w,(callFunc 222 #[.float .f64 x]).run prog w = ((flo x).run prog w).andThen fun v w' => .ok (.value v) w' := fun w => by
   rw [run_callFunc_extern Go.Proofs.Tryz.func222 (by kernel_rfl) (by kernel_rfl) (by kernel_rfl) (e := Extern.MathFloor.toIntegral "math.archFloor" .down) (by kernel_rfl)]
   rfl
 have same : ∀ y,flo x = pure (.float .f64 y) → toF y = Kk x → EN prog 222 #[.float .f64 x] σ Φ := fun y hy hf => .y (v := .float .f64 y) (fun w _ => by rw [B9,hy]; rfl) (h y hf)
 cases hd : Ieee.double.read x with
 | number s m i => exact same _ (by unfold flo; rw [hd]) (by unfold Kk; rw [hd])
 | infinity s => exact same _ (by unfold flo; rw [hd]) (by unfold Kk; rw [hd])
 | nan s t =>
   have hx : IJ x = true := by rw [Uq,hd]; rfl
   have hn : Kk x = 9221120237041090560 := by unfold Kk; rw [hd]
   have e1 : toF x = 9221120237041090560 := by unfold toF; rw [hx]; rfl
   by_cases hq : Ieee.double.quiet t = t
   · exact same x (by unfold flo; rw [hd]; simp only [hq,if_true]) (by rw [e1,hn])
   · intro w F hs hF
     refine ⟨.float .f64 (if (Question.cut (.extern "math.Floor,Ceil,Trunc,RoundToEven.signallingNaN kept" 2) (w.tape w.drawn (.extern "math.Floor,Ceil,Trunc,RoundToEven.signallingNaN kept" 2))) == 1 then x else Ieee.double.write (.nan s (Ieee.double.quiet t))),{ w with drawn := w.drawn + 1 },σ,?_,?_,⟨fun b o hb => hs b o hb,fun b hb => ⟨(hF b hb).2,rfl⟩,(Dr.same rfl rfl rfl).drew,rfl,Nat.le_refl _⟩⟩
     · rw [B9]
       unfold flo
       rw [hd]
       simp only [hq,if_false]
       rfl
     · refine h _ ?_
       rw [hn]
       split
       · exact e1
       · unfold toF; rw [aq]; rfl
theorem au {x : Int} (h : R (.returned (.int .u64 (Mh x))) σ) : Spec prog 145 #[.int .u64 x] σ R :=
 I4.start (GL ⟨_,rfl,Sd.start (nQ fun y hy => ⟨_,rfl,_,rfl,GM ⟨_,rfl,by rw [hy]; exact h⟩⟩)⟩)
def BP (n : Int) : Int := (FloatKind.f64.nearest n : Nat)
theorem JD {n : Int} (h : R (.returned (.int .u64 (BP n))) σ) : Spec prog 143 #[.int .i64 n] σ R :=
 Sc.start (Ss (v := .float .f64 (FloatKind.f64.nearest n)) (fun w => by kernel_rfl) ⟨_,rfl,.y No ⟨_,rfl,h⟩⟩)
theorem aw {b : Bool} (h : R (.returned (.int .u64 (if b then BP 1 else BP 0))) σ) : Spec prog 205 #[.bool b] σ R :=
 SP.start ⟨fun ht => JD ⟨_,rfl,by rw [ht] at h; exact h⟩,fun hf => JD ⟨_,rfl,by rw [hf] at h; exact h⟩⟩
theorem YK {a b : Int} (h : R (.returned (.int .u64 (QT 1 a b))) σ) : Spec prog 201 #[.int .u64 a,.int .u64 b] σ R := eval_add.start (JB ⟨_,_,rfl,h⟩)
theorem YL {a b : Int} (h : R (.returned (.int .u64 (QT 2 a b))) σ) : Spec prog 190 #[.int .u64 a,.int .u64 b] σ R := Xo.start (JB ⟨_,_,rfl,h⟩)
theorem YM {a b : Int} (h : R (.returned (.int .u64 (QT 4 a b))) σ) : Spec prog 194 #[.int .u64 a,.int .u64 b] σ R := Xd.start (JB ⟨_,_,rfl,h⟩)
theorem nR {a : Int} (h : R (.returned (.bool (decide (nrm a = 9221120237041090560)))) σ) : Spec prog 229 #[.int .u64 a] σ R := Xe.start (Fi ⟨_,rfl,h⟩)
def nS (x : Int) : Int := nrm (Go.bits .xor .u64 x 9223372036854775808)
theorem Pe {x : Int} (h : R (.returned (.int .u64 (nS x))) σ) : Spec prog 162 #[.int .u64 x] σ R := PW.start fun x4 h4 => Fi ⟨_,rfl,by rw [h4]; exact h⟩
end
end TwW
end
