/-
  Part 3 of the proof that the law EvalMomentsUptoCardSaid of the given program answers true for every input of the given statement; the input reads behind the call as it did. (The texts: packed from 21 texts. Names are shortened by the packing program, for the bound on size.)
-/
import Derived.Test.YthdjajblkfphiaaGreatDoorA2
import Derived.Laws.BytesArg
import Derived.Laws.Bits64b
import Derived.Laws.IdiomStrings
import Derived.Lib.Bytealg
import Derived.Lib.Split
import Derived.Lib.Index
set_option linter.all false
section
set_option maxRecDepth 100000
noncomputable section
namespace TwW
open Go Tw Go.Proofs.Tryz
variable [Ei]{R:Rr}{σ:Hp}

namespace Ci
variable {p0 p1:Option Addr}{n0 c0 n1 c1:Nat}{x5:Int}
def M:Fw:=⟨prog,11,f11,[14,31],[],false,[],[],[(464,[(0,wL),(1,wL),(5,wI)])]⟩
def ok:M.Ok:=⟨.cons call14 (.cons call31 (AG.nil)),mixed,func11,by kernel_rfl⟩
def Ek:=M.pt 0
def start (h:Br ((n0:Int)≠(n1:Int)) (R (.B false) σ) (Ek R p0 n0 c0 p1 n1 c1 0 σ)):Spec prog 11 #[.slice p0 n0 c0,.slice p1 n1 c1] σ R:=M.start h ok
def EP (h:Br (x5<(n0:Int)) (Pq p0 fun BR Xe=>In x5 (n0:Int)∧LS σ BR (Xe+x5.toNat*2) fun Pa n21 Me=>Pq p1 fun yG yH=>In x5 (n1:Int)∧LS σ yG (yH+x5.toNat*2) fun p26 n26 c26=>AL 31 #[.slice Pa n21 Me,.slice p26 n26 c26] σ R (CB fun t27 y=>Bn t27 (R (.B false) y) (In x5 (n0:Int)∧LS y BR ((Xe+x5.toNat*2)+1) fun p34 n34 c34=>In x5 (n1:Int)∧LS y yG ((yH+x5.toNat*2)+1) fun p39 n39 c39=>AL 14 #[.slice p34 n34 c34,.slice p39 n39 c39] y R (CB fun t40 AE=>Bn t40 (R (.B false) AE) (AM (x5+1)∧Ek R (aD BR Xe) n0 c0 (aD yG yH) n1 c1 (x5+1) AE))))) (R (.B true) σ)):Ek R p0 n0 c0 p1 n1 c1 x5 σ:=M.of h ok rfl
end Ci
namespace D9
variable {p0 p8:Option Addr}{n0 c0 n8 c8:Nat}{x9 x10:Int}
def M:Fw:=⟨prog,43,f43,[64,65],[4],false,[(10,14,true)],[],[(232,[(0,wL),(8,wL),(9,wI),(10,wI)])]⟩
def ok:M.Ok:=⟨.cons call64 (.cons call65 (AG.nil)),mixed,func43,by kernel_rfl⟩
def SR:=M.pt 0
def start (h:Br (16<(n0:Int)) (R (.returned (.I 30)) σ) (SR R p0 n0 c0 p0 n0 c0 (n0:Int) 0 σ)):Spec prog 43 #[.slice p0 n0 c0] σ R:=M.start h ok
def NR (h:Br (x10<x9) (Pq p8 fun Bc lQ=>In x10 (n8:Int)∧∃u5 dW,Av σ Bc (lQ+x10.toNat*2) [.string u5,.string dW]∧∀b4:Nat,AL 64 #[.string u5] σ R (CB fun t18 y=>Bn t18 (R (.returned (.I 31)) y) (Bo ((ByteArray.toList dW==ByteArray.toList (ByteArray.mk #[]))) (R (.returned (.I 32)) y) (Br ((256:Int)<(dW.size:Int)) (R (.returned (.I 32)) y) (AL 65 #[.string dW] y R (CB fun t33 AE=>Bn t33 (R (.returned (.I 32)) AE) (Br (0<x10) (AM (x10-1)∧Pq p0 fun Uy lS=>In (x10-1) (n0:Int)∧LT AE Uy (lS+Int.toNat (x10-1)*2) fun s47=>∃t48,YF prog ((do eqGuard .leq 9 (.tmp 41) (.tmp 47) (.string u5) (.string s47);binOp .leq 9 (.string u5) (.string s47))) AE (.bool t48)∧Bo t48 (R (.returned (.I 33)) AE) (AM (x10+1)∧SR R (aD Uy lS) n0 c0 (aD Bc lQ) n8 c8 x9 (x10+1) AE)) (AM (x10+1)∧SR R p0 n0 c0 (aD Bc lQ) n8 c8 x9 (x10+1) AE)))))))) (R (.returned (.I 0)) σ)):SR R p0 n0 c0 p8 n8 c8 x9 x10 σ:=M.of h ok rfl
end D9
namespace DR
variable {v0 v1:Value}
def M:Fw:=⟨prog,46,f46,[66],[],false,[],[],[]⟩
def ok:M.Ok:=⟨.cons call66 (AG.nil),mixed,func46,by kernel_rfl⟩
def start (h:MC prog v0 xK #[v1] σ (Ap R (fun z y=>z=(.tuple #[])∧MC prog v0 mR #[] y (Ap R (CI .i64 fun x9 AE=>AM (x9-1)∧AL 66 #[v0,(.I (x9-1))] AE R (fun z AJ=>z=(.tuple #[])∧R (.T #[]) AJ)))))):Spec prog 46 #[v0,v1] σ R:=M.CY h ok [(0,.o (.V v0)),(1,.o (.V v1))] rfl rfl (by kernel_rfl)
end DR
namespace EU
variable {q0 Dl D6 p2:Option Addr}{Dc Cp Dd Dm DO Cs:Int}{De:ByteArray}{Dn Dp Dq D7 n2 c2:Nat}{DP:Bool}
def M:Fw:=⟨prog,72,f72,[],[4],false,[],[],[]⟩
def ok:M.Ok:=⟨AG.nil,mixed,func72,by kernel_rfl⟩
def start (h:∀b4:Nat,Pq p2 fun b9 o9=>In 0 (n2:Int)∧LI .i64 σ b9 o9 fun x11=>Br (x11≠2) (R (.T #[.I 0,.I 191]) σ) (R (.T #[.I 2,.I 0]) σ)):Spec prog 72 #[.pointer q0,.agg #[.I Dc,.I Cp,.string De,.slice Dl Dn Dp,.I Dd,.I Dm,.I DO,.slice D6 Dq D7,.bool DP,.I Cs],.slice p2 n2 c2] σ R:=M.start h ok
end EU
namespace EV
variable {q0 Dl D6 p2:Option Addr}{Dc Cp Dd Dm DO Cs:Int}{De:ByteArray}{Dn Dp Dq D7 n2 c2:Nat}{DP:Bool}
def M:Fw:=⟨prog,73,f73,[93,97],[4],false,[(1,10,true)],[],[]⟩
def ok:M.Ok:=⟨.cons call93 (.cons call97 (AG.nil)),mixed,func73,by kernel_rfl⟩
def start (h:∀b4:Nat,Pq p2 fun Bc lQ=>In 0 (n2:Int)∧LI .i64 σ Bc lQ fun x15=>In 1 (n2:Int)∧LI .i64 σ Bc (lQ+1) fun Dg=>Br (x15=2) (Br (x15=1) (Br (x15=3) (R (.T #[.I 0,.I 192]) σ) (Br (Dg=3) (R (.T #[.I 0,.I 192]) σ) (AL 97 #[.I Cp] σ R (CB fun t41 y=>Bo t41 (Bm (Dg=2) (R (.T #[.I 0,.I 192]) y) (Br (Dg=1) (AL 93 #[.I Cp] y R (CB fun t57 AE=>Bo t57 (Bn DP (R (.T #[.I 0,.I 192]) AE) (R (.T #[(.I (if x15<Dg then Dg else x15)),.I 0]) AE)) (R (.T #[(.I (if x15<Dg then Dg else x15)),.I 0]) AE))) (R (.T #[(.I (if x15<Dg then Dg else x15)),.I 0]) y))) (Br (DO≠0) (Bm (Dg=2) (R (.T #[.I 0,.I 192]) y) (Br (Dg=1) (AL 93 #[.I Cp] y R (CB fun t57 AE=>Bo t57 (Bn DP (R (.T #[.I 0,.I 192]) AE) (R (.T #[(.I (if x15<Dg then Dg else x15)),.I 0]) AE)) (R (.T #[(.I (if x15<Dg then Dg else x15)),.I 0]) AE))) (R (.T #[(.I (if x15<Dg then Dg else x15)),.I 0]) y))) (Br (Dg=1) (AL 93 #[.I Cp] y R (CB fun t57 AE=>Bo t57 (Bn DP (R (.T #[.I 0,.I 192]) AE) (R (.T #[(.I (if x15<Dg then Dg else x15)),.I 0]) AE)) (R (.T #[(.I (if x15<Dg then Dg else x15)),.I 0]) AE))) (R (.T #[(.I (if x15<Dg then Dg else x15)),.I 0]) y))))))) (Br (x15=3) (R (.T #[.I 0,.I 192]) σ) (Br (Dg=3) (R (.T #[.I 0,.I 192]) σ) (AL 97 #[.I Cp] σ R (CB fun t41 y=>Bo t41 (Bm (Dg=2) (R (.T #[.I 0,.I 192]) y) (R (.T #[(.I (if x15<Dg then Dg else x15)),.I 0]) y)) (Br (DO≠0) (Bm (Dg=2) (R (.T #[.I 0,.I 192]) y) (R (.T #[(.I (if x15<Dg then Dg else x15)),.I 0]) y)) (R (.T #[(.I (if x15<Dg then Dg else x15)),.I 0]) y))))))) (Br (x15=1) (Br (x15=3) (R (.T #[.I 0,.I 192]) σ) (Br (Dg=3) (R (.T #[.I 0,.I 192]) σ) (AL 97 #[.I Cp] σ R (CB fun t41 y=>Bo t41 (R (.T #[.I 0,.I 192]) y) (Br (DO≠0) (R (.T #[.I 0,.I 192]) y) (Br (Dg=1) (AL 93 #[.I Cp] y R (CB fun t57 AE=>Bo t57 (Bn DP (R (.T #[.I 0,.I 192]) AE) (R (.T #[(.I (if x15<Dg then Dg else x15)),.I 0]) AE)) (R (.T #[(.I (if x15<Dg then Dg else x15)),.I 0]) AE))) (R (.T #[(.I (if x15<Dg then Dg else x15)),.I 0]) y))))))) (Br (x15=3) (R (.T #[.I 0,.I 192]) σ) (Br (Dg=3) (R (.T #[.I 0,.I 192]) σ) (AL 97 #[.I Cp] σ R (CB fun t41 y=>Bo t41 (R (.T #[.I 0,.I 192]) y) (Br (DO≠0) (R (.T #[.I 0,.I 192]) y) (R (.T #[(.I (if x15<Dg then Dg else x15)),.I 0]) y)))))))):Spec prog 73 #[.pointer q0,.agg #[.I Dc,.I Cp,.string De,.slice Dl Dn Dp,.I Dd,.I Dm,.I DO,.slice D6 Dq D7,.bool DP,.I Cs],.slice p2 n2 c2] σ R:=M.start h ok
end EV
namespace C9
variable {q0 Dl D6 p2:Option Addr}{Dc Cp Dd Dm DO Cs:Int}{De:ByteArray}{Dn Dp Dq D7 n2 c2:Nat}{DP:Bool}
def M:Fw:=⟨prog,80,f80,[97,114,115,118,119],[6],false,[(1,9,false)],[],[]⟩
def ok:M.Ok:=⟨.cons call97 (.cons call114 (.cons call115 (.cons call118 (.cons call119 (AG.nil))))),mixed,func80,by kernel_rfl⟩
def start (h:Al σ fun b4=>∀b6:Nat,Pq p2 fun Bc lQ=>In 0 (n2:Int)∧∃Hq jf ABI ABJ ABK ABL ABM ABN,Av (Hp.set σ b4 (.cells #[.I Dc,.I Cp,.string De,.slice Dl Dn Dp,.I Dd,.I Dm,.I DO,.slice D6 Dq D7,.bool DP,.I Cs] 51 (0,0))) Bc lQ [.I Hq,.U jf,.slice ABI ABJ ABK,.slice ABL ABM ABN]∧In 1 (n2:Int)∧∃Wl jh ABO ABP ABQ ji jl jm,Av (Hp.set σ b4 (.cells #[.I Dc,.I Cp,.string De,.slice Dl Dn Dp,.I Dd,.I Dm,.I DO,.slice D6 Dq D7,.bool DP,.I Cs] 51 (0,0))) Bc (lQ+4) [.I Wl,.U jh,.slice ABO ABP ABQ,.slice ji jl jm]∧(Al (Hp.set σ b4 (.cells #[.I Dc,.I Cp,.string De,.slice Dl Dn Dp,.I Dd,.I Dm,.I DO,.slice D6 Dq D7,.bool DP,.I Cs] 51 (0,0))) fun b8=>Al (Hp.set (Hp.set σ b4 (.cells #[.I Dc,.I Cp,.string De,.slice Dl Dn Dp,.I Dd,.I Dm,.I DO,.slice D6 Dq D7,.bool DP,.I Cs] 51 (0,0))) b8 (.cells #[.I 0,.U 0,.N,.N] 84 (0,0))) fun b9=>AH prog (Instr.storeAt 84 (.pointer (aD b8 0)) (.agg #[.I Hq,.U jf,.slice ABI ABJ ABK,.slice ABL ABM ABN])) (Hp.set (Hp.set (Hp.set σ b4 (.cells #[.I Dc,.I Cp,.string De,.slice Dl Dn Dp,.I Dd,.I Dm,.I DO,.slice D6 Dq D7,.bool DP,.I Cs] 51 (0,0))) b8 (.cells #[.I 0,.U 0,.N,.N] 84 (0,0))) b9 (.cells #[.I 0,.U 0,.N,.N] 84 (0,0))) (fun _ y=>Kp [Bc] (Hp.set (Hp.set (Hp.set σ b4 (.cells #[.I Dc,.I Cp,.string De,.slice Dl Dn Dp,.I Dd,.I Dm,.I DO,.slice D6 Dq D7,.bool DP,.I Cs] 51 (0,0))) b8 (.cells #[.I 0,.U 0,.N,.N] 84 (0,0))) b9 (.cells #[.I 0,.U 0,.N,.N] 84 (0,0))) y∧AH prog (Instr.storeAt 84 (.pointer (aD b9 0)) (.agg #[.I Wl,.U jh,.slice ABO ABP ABQ,.slice ji jl jm])) y (fun _ AE=>LI .i64 AE b8 0 fun HO=>Br (HO=1) (LI .i64 AE b9 0 fun HS=>Br (HS=1) (∃Yt SP o0 o3 o4 pC pD pE pF pG pH pI pJ pK,Av AE b4 0 [.I Yt,.I SP,.string o0,.slice o3 o4 pC,.I pD,.I pE,.I pF,.slice pG pH pI,.bool pJ,.I pK]∧LI .u64 AE b8 1 fun Vp=>LI .u64 AE b9 1 fun nM=>AL 114 #[.agg #[.I Yt,.I SP,.string o0,.slice o3 o4 pC,.I pD,.I pE,.I pF,.slice pG pH pI,.bool pJ,.I pK],.U Vp,.U nM] AE R (fun z AJ=>∃Yb pL,z=(.tuple #[.U Yb,.bool pL])∧R (.T #[.agg #[.I 1,.U Yb,.N,.N],.I 0]) AJ)) (LI .i64 AE b8 0 fun tD=>Br (tD=1) (∃SS NN SU SX SY SZ Sa Sb Sc Sd Se Sf Sg Si,Av AE b4 0 [.I SS,.I NN,.string SU,.slice SX SY SZ,.I Sa,.I Sb,.I Sc,.slice Sd Se Sf,.bool Sg,.I Si]∧LS AE b9 2 fun p45 n45 c45=>AL 115 #[.pointer q0,.agg #[.I SS,.I NN,.string SU,.slice SX SY SZ,.I Sa,.I Sb,.I Sc,.slice Sd Se Sf,.bool Sg,.I Si],.slice p45 n45 c45,(.func (.func 116) #[] #[(.pointer (aD b4 0)),(.pointer (aD b8 0))])] AE R (fun z AJ=>∃Je Jf Jg Jh Ji Jj Jk Jl Sj,z=(.tuple #[.agg #[.I Je,.U Jf,.slice Jg Jh Ji,.slice Jj Jk Jl],.I Sj])∧R (.T #[.agg #[.I Je,.U Jf,.slice Jg Jh Ji,.slice Jj Jk Jl],.I Sj]) AJ)) (LI .i64 AE b9 0 fun u6=>Br (u6=1) (∃Sk Sl Sm Sn Sp Ss Su Sv Sx Sz S0 S1 S2 S3,Av AE b4 0 [.I Sk,.I Sl,.string Sm,.slice Sn Sp Ss,.I Su,.I Sv,.I Sx,.slice Sz S0 S1,.bool S2,.I S3]∧LS AE b8 2 fun p57 n57 c57=>AL 115 #[.pointer q0,.agg #[.I Sk,.I Sl,.string Sm,.slice Sn Sp Ss,.I Su,.I Sv,.I Sx,.slice Sz S0 S1,.bool S2,.I S3],.slice p57 n57 c57,(.func (.func 117) #[] #[(.pointer (aD b4 0)),(.pointer (aD b9 0))])] AE R (fun z AJ=>∃Jn Jo Jp Jq Jr Js Jt Ju Jb,z=(.tuple #[.agg #[.I Jn,.U Jo,.slice Jp Jq Jr,.slice Js Jt Ju],.I Jb])∧R (.T #[.agg #[.I Jn,.U Jo,.slice Jp Jq Jr,.slice Js Jt Ju],.I Jb]) AJ)) (LI .i64 AE b4 1 fun x64=>AL 97 #[.I x64] AE R (CB fun t65 AJ=>Bo t65 (∃S4 S5 S6 S7 S8 S9 TA TB TC TD TE TF TG TH,Av AJ b4 0 [.I S4,.I S5,.string S6,.slice S7 S8 S9,.I TA,.I TB,.I TC,.slice TD TE TF,.bool TG,.I TH]∧LS AJ b8 2 fun p69 n69 c69=>LS AJ b9 2 fun p71 n71 c71=>AL 118 #[.pointer q0,.agg #[.I S4,.I S5,.string S6,.slice S7 S8 S9,.I TA,.I TB,.I TC,.slice TD TE TF,.bool TG,.I TH],.slice p69 n69 c69,.slice p71 n71 c71] AJ R (fun z As=>∃Jv Jw Jx Jy Jz J0 J1 J2 JX,z=(.tuple #[.agg #[.I Jv,.U Jw,.slice Jx Jy Jz,.slice J0 J1 J2],.I JX])∧R (.T #[.agg #[.I Jv,.U Jw,.slice Jx Jy Jz,.slice J0 J1 J2],.I JX]) As)) (∃TI TJ TL TM TN TO TP TQ TR TT TU TV TW TX,Av AJ b4 0 [.I TI,.I TJ,.string TL,.slice TM TN TO,.I TP,.I TQ,.I TR,.slice TT TU TV,.bool TW,.I TX]∧LS AJ b8 2 fun so nN sq=>LS AJ b9 2 fun p80 n80 c80=>AL 119 #[.pointer q0,.agg #[.I TI,.I TJ,.string TL,.slice TM TN TO,.I TP,.I TQ,.I TR,.slice TT TU TV,.bool TW,.I TX],.slice so nN sq,.slice p80 n80 c80] AJ R (fun z As=>∃J6 J7 J8 J9 KA KB KD KE TY,z=(.tuple #[.agg #[.I J6,.U J7,.slice J8 J9 KA,.slice KB KD KE],.I TY])∧R (.T #[.agg #[.I J6,.U J7,.slice J8 J9 KA,.slice KB KD KE],.I TY]) As))))))) (LI .i64 AE b8 0 fun tD=>Br (tD=1) (∃SS NN SU SX SY SZ Sa Sb Sc Sd Se Sf Sg Si,Av AE b4 0 [.I SS,.I NN,.string SU,.slice SX SY SZ,.I Sa,.I Sb,.I Sc,.slice Sd Se Sf,.bool Sg,.I Si]∧LS AE b9 2 fun p45 n45 c45=>AL 115 #[.pointer q0,.agg #[.I SS,.I NN,.string SU,.slice SX SY SZ,.I Sa,.I Sb,.I Sc,.slice Sd Se Sf,.bool Sg,.I Si],.slice p45 n45 c45,(.func (.func 116) #[] #[(.pointer (aD b4 0)),(.pointer (aD b8 0))])] AE R (fun z AJ=>∃Je Jf Jg Jh Ji Jj Jk Jl Sj,z=(.tuple #[.agg #[.I Je,.U Jf,.slice Jg Jh Ji,.slice Jj Jk Jl],.I Sj])∧R (.T #[.agg #[.I Je,.U Jf,.slice Jg Jh Ji,.slice Jj Jk Jl],.I Sj]) AJ)) (LI .i64 AE b9 0 fun u6=>Br (u6=1) (∃Sk Sl Sm Sn Sp Ss Su Sv Sx Sz S0 S1 S2 S3,Av AE b4 0 [.I Sk,.I Sl,.string Sm,.slice Sn Sp Ss,.I Su,.I Sv,.I Sx,.slice Sz S0 S1,.bool S2,.I S3]∧LS AE b8 2 fun p57 n57 c57=>AL 115 #[.pointer q0,.agg #[.I Sk,.I Sl,.string Sm,.slice Sn Sp Ss,.I Su,.I Sv,.I Sx,.slice Sz S0 S1,.bool S2,.I S3],.slice p57 n57 c57,(.func (.func 117) #[] #[(.pointer (aD b4 0)),(.pointer (aD b9 0))])] AE R (fun z AJ=>∃Jn Jo Jp Jq Jr Js Jt Ju Jb,z=(.tuple #[.agg #[.I Jn,.U Jo,.slice Jp Jq Jr,.slice Js Jt Ju],.I Jb])∧R (.T #[.agg #[.I Jn,.U Jo,.slice Jp Jq Jr,.slice Js Jt Ju],.I Jb]) AJ)) (LI .i64 AE b4 1 fun x64=>AL 97 #[.I x64] AE R (CB fun t65 AJ=>Bo t65 (∃S4 S5 S6 S7 S8 S9 TA TB TC TD TE TF TG TH,Av AJ b4 0 [.I S4,.I S5,.string S6,.slice S7 S8 S9,.I TA,.I TB,.I TC,.slice TD TE TF,.bool TG,.I TH]∧LS AJ b8 2 fun p69 n69 c69=>LS AJ b9 2 fun p71 n71 c71=>AL 118 #[.pointer q0,.agg #[.I S4,.I S5,.string S6,.slice S7 S8 S9,.I TA,.I TB,.I TC,.slice TD TE TF,.bool TG,.I TH],.slice p69 n69 c69,.slice p71 n71 c71] AJ R (fun z As=>∃Jv Jw Jx Jy Jz J0 J1 J2 JX,z=(.tuple #[.agg #[.I Jv,.U Jw,.slice Jx Jy Jz,.slice J0 J1 J2],.I JX])∧R (.T #[.agg #[.I Jv,.U Jw,.slice Jx Jy Jz,.slice J0 J1 J2],.I JX]) As)) (∃TI TJ TL TM TN TO TP TQ TR TT TU TV TW TX,Av AJ b4 0 [.I TI,.I TJ,.string TL,.slice TM TN TO,.I TP,.I TQ,.I TR,.slice TT TU TV,.bool TW,.I TX]∧LS AJ b8 2 fun so nN sq=>LS AJ b9 2 fun p80 n80 c80=>AL 119 #[.pointer q0,.agg #[.I TI,.I TJ,.string TL,.slice TM TN TO,.I TP,.I TQ,.I TR,.slice TT TU TV,.bool TW,.I TX],.slice so nN sq,.slice p80 n80 c80] AJ R (fun z As=>∃J6 J7 J8 J9 KA KB KD KE TY,z=(.tuple #[.agg #[.I J6,.U J7,.slice J8 J9 KA,.slice KB KD KE],.I TY])∧R (.T #[.agg #[.I J6,.U J7,.slice J8 J9 KA,.slice KB KD KE],.I TY]) As)))))))))∧(Al (Hp.set σ b4 (.cells #[.I Dc,.I Cp,.string De,.slice Dl Dn Dp,.I Dd,.I Dm,.I DO,.slice D6 Dq D7,.bool DP,.I Cs] 51 (0,0))) fun b9=>Al (Hp.set (Hp.set σ b4 (.cells #[.I Dc,.I Cp,.string De,.slice Dl Dn Dp,.I Dd,.I Dm,.I DO,.slice D6 Dq D7,.bool DP,.I Cs] 51 (0,0))) b9 (.cells #[.I 0,.U 0,.N,.N] 84 (0,0))) fun b8=>AH prog (Instr.storeAt 84 (.pointer (aD b8 0)) (.agg #[.I Hq,.U jf,.slice ABI ABJ ABK,.slice ABL ABM ABN])) (Hp.set (Hp.set (Hp.set σ b4 (.cells #[.I Dc,.I Cp,.string De,.slice Dl Dn Dp,.I Dd,.I Dm,.I DO,.slice D6 Dq D7,.bool DP,.I Cs] 51 (0,0))) b9 (.cells #[.I 0,.U 0,.N,.N] 84 (0,0))) b8 (.cells #[.I 0,.U 0,.N,.N] 84 (0,0))) (fun _ y=>Kp [Bc] (Hp.set (Hp.set (Hp.set σ b4 (.cells #[.I Dc,.I Cp,.string De,.slice Dl Dn Dp,.I Dd,.I Dm,.I DO,.slice D6 Dq D7,.bool DP,.I Cs] 51 (0,0))) b9 (.cells #[.I 0,.U 0,.N,.N] 84 (0,0))) b8 (.cells #[.I 0,.U 0,.N,.N] 84 (0,0))) y∧AH prog (Instr.storeAt 84 (.pointer (aD b9 0)) (.agg #[.I Wl,.U jh,.slice ABO ABP ABQ,.slice ji jl jm])) y (fun _ AE=>LI .i64 AE b8 0 fun HO=>Br (HO=1) (LI .i64 AE b9 0 fun HS=>Br (HS=1) (∃Yt SP o0 o3 o4 pC pD pE pF pG pH pI pJ pK,Av AE b4 0 [.I Yt,.I SP,.string o0,.slice o3 o4 pC,.I pD,.I pE,.I pF,.slice pG pH pI,.bool pJ,.I pK]∧LI .u64 AE b8 1 fun Vp=>LI .u64 AE b9 1 fun nM=>AL 114 #[.agg #[.I Yt,.I SP,.string o0,.slice o3 o4 pC,.I pD,.I pE,.I pF,.slice pG pH pI,.bool pJ,.I pK],.U Vp,.U nM] AE R (fun z AJ=>∃Yb pL,z=(.tuple #[.U Yb,.bool pL])∧R (.T #[.agg #[.I 1,.U Yb,.N,.N],.I 0]) AJ)) (LI .i64 AE b8 0 fun tD=>Br (tD=1) (∃SS NN SU SX SY SZ Sa Sb Sc Sd Se Sf Sg Si,Av AE b4 0 [.I SS,.I NN,.string SU,.slice SX SY SZ,.I Sa,.I Sb,.I Sc,.slice Sd Se Sf,.bool Sg,.I Si]∧LS AE b9 2 fun p45 n45 c45=>AL 115 #[.pointer q0,.agg #[.I SS,.I NN,.string SU,.slice SX SY SZ,.I Sa,.I Sb,.I Sc,.slice Sd Se Sf,.bool Sg,.I Si],.slice p45 n45 c45,(.func (.func 116) #[] #[(.pointer (aD b4 0)),(.pointer (aD b8 0))])] AE R (fun z AJ=>∃Je Jf Jg Jh Ji Jj Jk Jl Sj,z=(.tuple #[.agg #[.I Je,.U Jf,.slice Jg Jh Ji,.slice Jj Jk Jl],.I Sj])∧R (.T #[.agg #[.I Je,.U Jf,.slice Jg Jh Ji,.slice Jj Jk Jl],.I Sj]) AJ)) (LI .i64 AE b9 0 fun u6=>Br (u6=1) (∃Sk Sl Sm Sn Sp Ss Su Sv Sx Sz S0 S1 S2 S3,Av AE b4 0 [.I Sk,.I Sl,.string Sm,.slice Sn Sp Ss,.I Su,.I Sv,.I Sx,.slice Sz S0 S1,.bool S2,.I S3]∧LS AE b8 2 fun p57 n57 c57=>AL 115 #[.pointer q0,.agg #[.I Sk,.I Sl,.string Sm,.slice Sn Sp Ss,.I Su,.I Sv,.I Sx,.slice Sz S0 S1,.bool S2,.I S3],.slice p57 n57 c57,(.func (.func 117) #[] #[(.pointer (aD b4 0)),(.pointer (aD b9 0))])] AE R (fun z AJ=>∃Jn Jo Jp Jq Jr Js Jt Ju Jb,z=(.tuple #[.agg #[.I Jn,.U Jo,.slice Jp Jq Jr,.slice Js Jt Ju],.I Jb])∧R (.T #[.agg #[.I Jn,.U Jo,.slice Jp Jq Jr,.slice Js Jt Ju],.I Jb]) AJ)) (LI .i64 AE b4 1 fun x64=>AL 97 #[.I x64] AE R (CB fun t65 AJ=>Bo t65 (∃S4 S5 S6 S7 S8 S9 TA TB TC TD TE TF TG TH,Av AJ b4 0 [.I S4,.I S5,.string S6,.slice S7 S8 S9,.I TA,.I TB,.I TC,.slice TD TE TF,.bool TG,.I TH]∧LS AJ b8 2 fun p69 n69 c69=>LS AJ b9 2 fun p71 n71 c71=>AL 118 #[.pointer q0,.agg #[.I S4,.I S5,.string S6,.slice S7 S8 S9,.I TA,.I TB,.I TC,.slice TD TE TF,.bool TG,.I TH],.slice p69 n69 c69,.slice p71 n71 c71] AJ R (fun z As=>∃Jv Jw Jx Jy Jz J0 J1 J2 JX,z=(.tuple #[.agg #[.I Jv,.U Jw,.slice Jx Jy Jz,.slice J0 J1 J2],.I JX])∧R (.T #[.agg #[.I Jv,.U Jw,.slice Jx Jy Jz,.slice J0 J1 J2],.I JX]) As)) (∃TI TJ TL TM TN TO TP TQ TR TT TU TV TW TX,Av AJ b4 0 [.I TI,.I TJ,.string TL,.slice TM TN TO,.I TP,.I TQ,.I TR,.slice TT TU TV,.bool TW,.I TX]∧LS AJ b8 2 fun so nN sq=>LS AJ b9 2 fun p80 n80 c80=>AL 119 #[.pointer q0,.agg #[.I TI,.I TJ,.string TL,.slice TM TN TO,.I TP,.I TQ,.I TR,.slice TT TU TV,.bool TW,.I TX],.slice so nN sq,.slice p80 n80 c80] AJ R (fun z As=>∃J6 J7 J8 J9 KA KB KD KE TY,z=(.tuple #[.agg #[.I J6,.U J7,.slice J8 J9 KA,.slice KB KD KE],.I TY])∧R (.T #[.agg #[.I J6,.U J7,.slice J8 J9 KA,.slice KB KD KE],.I TY]) As))))))) (LI .i64 AE b8 0 fun tD=>Br (tD=1) (∃SS NN SU SX SY SZ Sa Sb Sc Sd Se Sf Sg Si,Av AE b4 0 [.I SS,.I NN,.string SU,.slice SX SY SZ,.I Sa,.I Sb,.I Sc,.slice Sd Se Sf,.bool Sg,.I Si]∧LS AE b9 2 fun p45 n45 c45=>AL 115 #[.pointer q0,.agg #[.I SS,.I NN,.string SU,.slice SX SY SZ,.I Sa,.I Sb,.I Sc,.slice Sd Se Sf,.bool Sg,.I Si],.slice p45 n45 c45,(.func (.func 116) #[] #[(.pointer (aD b4 0)),(.pointer (aD b8 0))])] AE R (fun z AJ=>∃Je Jf Jg Jh Ji Jj Jk Jl Sj,z=(.tuple #[.agg #[.I Je,.U Jf,.slice Jg Jh Ji,.slice Jj Jk Jl],.I Sj])∧R (.T #[.agg #[.I Je,.U Jf,.slice Jg Jh Ji,.slice Jj Jk Jl],.I Sj]) AJ)) (LI .i64 AE b9 0 fun u6=>Br (u6=1) (∃Sk Sl Sm Sn Sp Ss Su Sv Sx Sz S0 S1 S2 S3,Av AE b4 0 [.I Sk,.I Sl,.string Sm,.slice Sn Sp Ss,.I Su,.I Sv,.I Sx,.slice Sz S0 S1,.bool S2,.I S3]∧LS AE b8 2 fun p57 n57 c57=>AL 115 #[.pointer q0,.agg #[.I Sk,.I Sl,.string Sm,.slice Sn Sp Ss,.I Su,.I Sv,.I Sx,.slice Sz S0 S1,.bool S2,.I S3],.slice p57 n57 c57,(.func (.func 117) #[] #[(.pointer (aD b4 0)),(.pointer (aD b9 0))])] AE R (fun z AJ=>∃Jn Jo Jp Jq Jr Js Jt Ju Jb,z=(.tuple #[.agg #[.I Jn,.U Jo,.slice Jp Jq Jr,.slice Js Jt Ju],.I Jb])∧R (.T #[.agg #[.I Jn,.U Jo,.slice Jp Jq Jr,.slice Js Jt Ju],.I Jb]) AJ)) (LI .i64 AE b4 1 fun x64=>AL 97 #[.I x64] AE R (CB fun t65 AJ=>Bo t65 (∃S4 S5 S6 S7 S8 S9 TA TB TC TD TE TF TG TH,Av AJ b4 0 [.I S4,.I S5,.string S6,.slice S7 S8 S9,.I TA,.I TB,.I TC,.slice TD TE TF,.bool TG,.I TH]∧LS AJ b8 2 fun p69 n69 c69=>LS AJ b9 2 fun p71 n71 c71=>AL 118 #[.pointer q0,.agg #[.I S4,.I S5,.string S6,.slice S7 S8 S9,.I TA,.I TB,.I TC,.slice TD TE TF,.bool TG,.I TH],.slice p69 n69 c69,.slice p71 n71 c71] AJ R (fun z As=>∃Jv Jw Jx Jy Jz J0 J1 J2 JX,z=(.tuple #[.agg #[.I Jv,.U Jw,.slice Jx Jy Jz,.slice J0 J1 J2],.I JX])∧R (.T #[.agg #[.I Jv,.U Jw,.slice Jx Jy Jz,.slice J0 J1 J2],.I JX]) As)) (∃TI TJ TL TM TN TO TP TQ TR TT TU TV TW TX,Av AJ b4 0 [.I TI,.I TJ,.string TL,.slice TM TN TO,.I TP,.I TQ,.I TR,.slice TT TU TV,.bool TW,.I TX]∧LS AJ b8 2 fun so nN sq=>LS AJ b9 2 fun p80 n80 c80=>AL 119 #[.pointer q0,.agg #[.I TI,.I TJ,.string TL,.slice TM TN TO,.I TP,.I TQ,.I TR,.slice TT TU TV,.bool TW,.I TX],.slice so nN sq,.slice p80 n80 c80] AJ R (fun z As=>∃J6 J7 J8 J9 KA KB KD KE TY,z=(.tuple #[.agg #[.I J6,.U J7,.slice J8 J9 KA,.slice KB KD KE],.I TY])∧R (.T #[.agg #[.I J6,.U J7,.slice J8 J9 KA,.slice KB KD KE],.I TY]) As)))))))))):Spec prog 80 #[.pointer q0,.agg #[.I Dc,.I Cp,.string De,.slice Dl Dn Dp,.I Dd,.I Dm,.I DO,.slice D6 Dq D7,.bool DP,.I Cs],.slice p2 n2 c2] σ R:=M.start h ok
end C9
namespace QR
variable {Em ES Qr NF HT I5 Dc Cp Dd Dm DO Cs:Int}{Qt De:ByteArray}{Vi R9 Dl D6:Option Addr}{Uv Vj RI SA Dn Dp Dq D7:Nat}{Mb DP:Bool}
def M:Fw:=⟨prog,88,f88,[],[2,3],false,[],[],[]⟩
def ok:M.Ok:=⟨AG.nil,mixed,func88,by kernel_rfl⟩
def start (h:∀b2:Nat,∀b3:Nat,Br (Em=Dc) (Br (ES=Cp) (Bo (ByteArray.toList Qt==ByteArray.toList De) (Br (Qr=Dd) (Br (NF=Dm) (Br (HT=DO) (Bo Mb (Bo DP (R (.returned (.bool (decide (I5=Cs)))) σ) (R (.B false) σ)) (Bo DP (R (.B false) σ) (R (.returned (.bool (decide (I5=Cs)))) σ))) (R (.B false) σ)) (R (.B false) σ)) (R (.B false) σ)) (R (.B false) σ)) (R (.B false) σ)) (R (.B false) σ)):Spec prog 88 #[.agg #[.I Em,.I ES,.string Qt,.slice Vi Uv Vj,.I Qr,.I NF,.I HT,.slice R9 RI SA,.bool Mb,.I I5],.agg #[.I Dc,.I Cp,.string De,.slice Dl Dn Dp,.I Dd,.I Dm,.I DO,.slice D6 Dq D7,.bool DP,.I Cs]] σ R:=M.start h ok
end QR
namespace KF
variable {x0:Int}
def M:Fw:=⟨prog,93,f93,[],[],false,[],[],[]⟩
def ok:M.Ok:=⟨AG.nil,mixed,func93,by kernel_rfl⟩
def start (h:Br (5≤x0) (R (.returned (.bool (decide (x0≤10)))) σ) (R (.B false) σ)):Spec prog 93 #[.I x0] σ R:=M.start h ok
end KF
namespace Au
variable {q0 Dl D6 p2 p3 IX IY Ef En LH ja:Option Addr}{Dc Cp Dd Dm DO Cs IZ Gy Ia Ib Ic Ie Eo Ep Ya gV:Int}{De Ig:ByteArray}{Dn Dp Dq D7 n2 c2 n3 c3 Ih Ii Ij Ik Eg Eh Er Es n14 Il n41 bN:Nat}{DP Jc:Bool}{m12:Option Nat}
def M:Fw:=⟨prog,119,f119,[19,93,106,114,158,159],[5,8,16,18],false,[],[],[(2024,[(5,.X 51 [.I .i64,.I .i64,.T,.L,.I .i64,.I .i64,.I .i64,.L,.B,.I .i64]),(8,.X 84 [.I .i64,.I .u64,.L,.L]),(12,wM),(14,wL),(41,wL),(42,wI),(43,wI)]),(8103,[(5,.X 51 [.I .i64,.I .i64,.T,.L,.I .i64,.I .i64,.I .i64,.L,.B,.I .i64]),(8,.X 84 [.I .i64,.I .u64,.L,.L]),(12,wM),(14,wL),(41,wL),(42,wI),(43,wI)])]⟩
def ok:M.Ok:=⟨.cons call19 (.cons call93 (.cons call106 (.cons call114 (.cons call158 (.cons call159 (AG.nil)))))),mixed,func119,by kernel_rfl⟩
def Yu:=M.pt 0
def NQ:=M.pt 1
def start (h:∀b5:Nat,∀b8:Nat,AL 158 #[.agg #[.I Dc,.I Cp,.string De,.slice Dl Dn Dp,.I Dd,.I Dm,.I DO,.slice D6 Dq D7,.bool DP,.I Cs],.slice p2 n2 c2] σ R (fun z y=>∃ANh ou,z=(.tuple #[.map ANh,.bool ou])∧AL 158 #[.agg #[.I Dc,.I Cp,.string De,.slice Dl Dn Dp,.I Dd,.I Dm,.I DO,.slice D6 Dq D7,.bool DP,.I Cs],.slice p3 n3 c3] y R (fun z AE=>∃AIA AIB,z=(.tuple #[.map AIA,.bool AIB])∧Bn ou (R (.T #[.agg #[.I 0,.U 0,.N,.N],.I 223]) AE) (Bn AIB (R (.T #[.agg #[.I 0,.U 0,.N,.N],.I 223]) AE) (Yu R Dc Cp De Dl Dn Dp Dd Dm DO D6 Dq D7 DP Cs 0 0 none 0 0 none 0 0 AIA none 0 0 p2 n2 c2 (n2:Int) 0 AE))))):Spec prog 119 #[.pointer q0,.agg #[.I Dc,.I Cp,.string De,.slice Dl Dn Dp,.I Dd,.I Dm,.I DO,.slice D6 Dq D7,.bool DP,.I Cs],.slice p2 n2 c2,.slice p3 n3 c3] σ R:=M.start h ok
def FG (h:Br (gV<Ya) (Pq ja fun Uy lS=>In gV (n41:Int)∧∃jq jr js jt,Av σ Uy (lS+gV.toNat*2) [.slice jq jr js,.U jt]∧∀Lx:Nat,AL 159 #[.agg #[.I IZ,.I Gy,.string Ig,.slice IX Ih Ii,.I Ia,.I Ib,.I Ic,.slice IY Ij Ik,.bool Jc,.I Ie],.slice jq jr js] σ R (CS fun dX n50 dY y=>AL 19 #[.slice dX n50 dY] y R (CT fun s54 AE=>AH prog (Instr.lookup 222 (.map m12) (.string s54) true) AE (fun z AJ=>∃AIC AID AIE yI AIF,z=(.tuple #[.agg #[.slice AIC AID AIE,.U yI],.bool AIF])∧∀Vk:Nat,Bn AIF (NQ R IZ Gy Ig IX Ih Ii Ia Ib Ic IY Ij Ik Jc Ie Eo Ep Ef Eg Eh En Er Es m12 LH n14 Il (aD Uy lS) n41 bN Ya gV AJ) (AL 114 #[.agg #[.I IZ,.I Gy,.string Ig,.slice IX Ih Ii,.I Ia,.I Ib,.I Ic,.slice IY Ij Ik,.bool Jc,.I Ie],.U jt,.U yI] AJ R (fun z As=>∃ABe AIH,z=(.tuple #[.U ABe,.bool AIH])∧AL 93 #[.I Gy] As R (CB fun t72 JY=>Bn t72 (Al JY fun yJ=>AH prog (I4 60 LH n14 Il yJ) (Hp.set JY yJ (.cells #[.slice dX n50 dY,.U ABe] 64 (0,0))) (CS fun uK YY uL Uw=>NQ R IZ Gy Ig IX Ih Ii Ia Ib Ic IY Ij Ik Jc Ie Eo Ep Ef Eg Eh En Er Es m12 uK YY uL (aD Uy lS) n41 bN Ya gV Uw)) (Bo Jc (Al JY fun yJ=>AH prog (I4 60 LH n14 Il yJ) (Hp.set JY yJ (.cells #[.slice dX n50 dY,.U ABe] 64 (0,0))) (CS fun uK YY uL Uw=>NQ R IZ Gy Ig IX Ih Ii Ia Ib Ic IY Ij Ik true Ie Eo Ep Ef Eg Eh En Er Es m12 uK YY uL (aD Uy lS) n41 bN Ya gV Uw)) (Bo AIH (Al JY fun b88=>AH prog (I4 60 LH n14 Il b88) (Hp.set JY b88 (.cells #[.slice jq jr js,.U jt] 64 (0,0))) (CS fun p89 n89 c89 Uw=>NQ R IZ Gy Ig IX Ih Ii Ia Ib Ic IY Ij Ik false Ie Eo Ep Ef Eg Eh En Er Es m12 p89 n89 c89 (aD Uy lS) n41 bN Ya gV Uw)) (NQ R IZ Gy Ig IX Ih Ii Ia Ib Ic IY Ij Ik false Ie Eo Ep Ef Eg Eh En Er Es m12 LH n14 Il (aD Uy lS) n41 bN Ya gV JY)))))))))) (AL 106 #[.slice LH n14 Il] σ R (fun z y=>∃yK yL yM yN yO yP yQ yR AII,z=(.tuple #[.agg #[.I yK,.U yL,.slice yM yN yO,.slice yP yQ yR],.I AII])∧R (.T #[.agg #[.I yK,.U yL,.slice yM yN yO,.slice yP yQ yR],.I AII]) y))):Yu R IZ Gy Ig IX Ih Ii Ia Ib Ic IY Ij Ik Jc Ie Eo Ep Ef Eg Eh En Er Es m12 LH n14 Il ja n41 bN Ya gV σ:=M.jQ h ok rfl fun _ _=>by kernel_rfl
def Wx (h:AM (gV+1)∧Yu R IZ Gy Ig IX Ih Ii Ia Ib Ic IY Ij Ik Jc Ie Eo Ep Ef Eg Eh En Er Es m12 LH n14 Il ja n41 bN Ya (gV+1) σ):NQ R IZ Gy Ig IX Ih Ii Ia Ib Ic IY Ij Ik Jc Ie Eo Ep Ef Eg Eh En Er Es m12 LH n14 Il ja n41 bN Ya gV σ:=M.jQ h ok rfl fun _ _=>by kernel_rfl
end Au
namespace gW
variable {v0:Value}
def M:Fw:=⟨prog,126,f126,[164],[],false,[],[],[]⟩
def ok:M.Ok:=⟨.cons call164 (AG.nil),mixed,func126,by kernel_rfl⟩
def start (h:AL 164 #[v0] σ R (CB fun t4 y=>Bo t4 (R (.returned (.U 9221120237041090560)) y) (EN prog 32 #[v0] y (CI .u64 fun x6 AE=>R (.returned (.U x6)) AE)))):Spec prog 126 #[v0] σ R:=M.CY h ok [(0,.o (.V v0))] rfl rfl (by kernel_rfl)
end gW
namespace MA
variable {Em ES x1:Int}
def M:Fw:=⟨prog,128,f128,[],[2],false,[],[],[]⟩
def ok:M.Ok:=⟨AG.nil,mixed,func128,by kernel_rfl⟩
def start (h:∀b2:Nat,Br (Em≤x1) (R (.returned (.I (-1))) σ) (R (.returned (.I 1)) σ)):Spec prog 128 #[.agg #[.I Em,.U ES],.I x1] σ R:=M.start h ok
end MA
namespace TZ
variable {v0:Value}
def M:Fw:=⟨prog,135,f135,[],[],false,[],[],[]⟩
def ok:M.Ok:=⟨AG.nil,mixed,func135,by kernel_rfl⟩
def start (h:EN prog 171 #[v0] σ (fun z y=>∃x4,(Value.float .f64 x4)=z∧R (.returned (Value.float .f64 x4)) y)):Spec prog 135 #[v0] σ R:=M.CY h ok [(0,.o (.V v0))] rfl rfl (by kernel_rfl)
end TZ
namespace BU
variable {p0:Option Addr}{n0 c0:Nat}{x3:Int}
def M:Fw:=⟨prog,139,f139,[174],[],false,[],[],[(224,[(0,wL),(3,wI)])]⟩
def ok:M.Ok:=⟨.cons call174 (AG.nil),mixed,func139,by kernel_rfl⟩
def Ho:=M.pt 0
def start (h:Ho R p0 n0 c0 8 σ):Spec prog 139 #[.slice p0 n0 c0] σ R:=M.start h ok
def BJ (h:Br ((n0:Int)<x3) (2≠(0:Int)∧Df (IntKind.i64.wrap (Int.tdiv x3 2)) fun x11=>Ho R p0 n0 c0 x11 σ) (AM ((n0:Int)-x3)∧((0:Int)≤((n0:Int)-x3)∧((n0:Int)-x3)≤(n0:Int))∧AL 174 #[(.slice (Fe p0 (Int.toNat ((n0:Int)-x3)) c0 1) (n0-Int.toNat ((n0:Int)-x3)) (c0-Int.toNat ((n0:Int)-x3)))] σ R (fun z y=>∃Ph Wy,z=(.tuple #[.U Ph,.I Wy])∧R (.returned (.U Ph)) y))):Ho R p0 n0 c0 x3 σ:=M.of h ok rfl
end BU
namespace Yv
variable {x0 x1:Int}
def M:Fw:=⟨prog,142,f142,[155],[],false,[],[],[]⟩
def ok:M.Ok:=⟨.cons call155 (AG.nil),mixed,func142,by kernel_rfl⟩
def start (h:AL 155 #[.I 2,.U x0,.U x1] σ R (fun z y=>∃Jd SO,z=(.tuple #[.U Jd,.bool SO])∧R (.returned (.U Jd)) y)):Spec prog 142 #[.U x0,.U x1] σ R:=M.start h ok
end Yv
namespace DH
variable {p0 p1:Option Addr}{n0 c0 n1 c1:Nat}
def M:Fw:=⟨prog,143,f143,[144],[],false,[],[],[]⟩
def ok:M.Ok:=⟨.cons call144 (AG.nil),mixed,func143,by kernel_rfl⟩
def start (h:AL 144 #[.slice p0 n0 c0] σ R (CI .u64 fun x6 y=>R (.returned (.U x6)) y)):Spec prog 143 #[.slice p0 n0 c0,.slice p1 n1 c1] σ R:=M.start h ok
end DH
namespace MB
variable {U1 p1a:Option Addr}{Lz SM n1a c1a:Nat}{ES Cp:Int}
def M:Fw:=⟨prog,148,f148,[22],[2,3],false,[],[],[]⟩
def ok:M.Ok:=⟨.cons call22 (AG.nil),mixed,func148,by kernel_rfl⟩
def start (h:∀b2:Nat,∀b3:Nat,AL 22 #[.slice U1 Lz SM,.slice p1a n1a c1a] σ R (CI .i64 fun x9 y=>R (.returned (.I x9)) y)):Spec prog 148 #[.agg #[.slice U1 Lz SM,.U ES],.agg #[.slice p1a n1a c1a,.U Cp]] σ R:=M.start h ok
end MB
namespace Cc
variable {p0 p5 p8:Option Addr}{n0 c0 n5 c5 n8 c8:Nat}{v1:Value}{x9 x10:Int}
def M:Fw:=⟨prog,149,f149,[],[7],false,[],[],[(232,[(1,wV),(5,wL),(8,wL),(9,wI),(10,wI)]),(935,[(1,wV),(5,wL),(8,wL),(9,wI),(10,wI)])]⟩
def ok:M.Ok:=⟨AG.nil,mixed,func149,by kernel_rfl⟩
def Aw:=M.pt 0
def Yw:=M.pt 1
def start (h:Aw R v1 none 0 0 p0 n0 c0 (n0:Int) 0 σ):Spec prog 149 #[.slice p0 n0 c0,v1] σ R:=M.CY h ok [(0,.o (.L p0 n0 c0)),(1,.o (.V v1))] rfl rfl (by kernel_rfl)
def AY (h:Br (x10<x9) (Pq p8 fun NM PD=>In x10 (n8:Int)∧∃ABf ju,Av σ NM (PD+x10.toNat*2) [.string ABf,.string ju]∧∀b7:Nat,∃(f16:Nat) (yS yT:Array Value),v1=.func (.func f16) yS yT∧Enters prog f16∧Spec prog f16 (yS++#[.agg #[.string ABf,.string ju]]++yT) σ (Ap R (CB fun t16 y=>Bo t16 (Al y fun BR=>AH prog (I4 37 p5 n5 c5 BR) (Hp.set y BR (.cells #[.string ABf,.string ju] 36 (0,0))) (CS fun Xi n20 Xj AE=>Yw R v1 Xi n20 Xj (aD NM PD) n8 c8 x9 x10 AE)) (Yw R v1 p5 n5 c5 (aD NM PD) n8 c8 x9 x10 y)))) (R (.returned (.slice p5 n5 c5)) σ)):Aw R v1 p5 n5 c5 p8 n8 c8 x9 x10 σ:=M.of h ok rfl
def RL (h:AM (x10+1)∧Aw R v1 p5 n5 c5 p8 n8 c8 x9 (x10+1) σ):Yw R v1 p5 n5 c5 p8 n8 c8 x9 x10 σ:=M.of h ok rfl
end Cc
namespace FN
variable {s0:ByteArray}{x3:Int}
def M:Fw:=⟨prog,161,f161,[],[],false,[],[],[(224,[(0,wT),(3,wI)])]⟩
def ok:M.Ok:=⟨AG.nil,mixed,func161,by kernel_rfl⟩
def Ho:=M.pt 0
def start (h:Ho R s0 0 σ):Spec prog 161 #[.string s0] σ R:=M.start h ok
def BJ (h:Br (x3<(s0.size:Int)) (∃u11:UInt8,0≤x3∧(ByteArray.data s0)[x3.toNat]?=some u11∧Br ((48:Int)≤(u11.toNat:Int)) (∃u17:UInt8,0≤x3∧(ByteArray.data s0)[x3.toNat]?=some u17∧Br (((u17.toNat:Int):Int)≤57) (AM (x3+1)∧Ho R s0 (x3+1) σ) (R (.returned (.I x3)) σ)) (R (.returned (.I x3)) σ)) (R (.returned (.I x3)) σ)):Ho R s0 x3 σ:=M.of h ok rfl
end FN
namespace Di
variable {U1:Option Addr}{Lz SM:Nat}{bR s1:ByteArray}
def M:Fw:=⟨prog,168,f168,[184],[2],false,[],[],[]⟩
def ok:M.Ok:=⟨.cons call184 (AG.nil),mixed,func168,by kernel_rfl⟩
def start (h:∀b2:Nat,AL 184 #[.agg #[.slice U1 Lz SM],.string s1] σ R (CB fun t8 y=>R (.returned (.bool (!t8))) y)):Spec prog 168 #[.agg #[.slice U1 Lz SM,.string bR],.string s1] σ R:=M.start h ok
end Di
namespace DA
variable {U1 tB:Option Addr}{Lz SM oz tC:Nat}{s1:ByteArray}{x65 yF:Int}
def M:Fw:=⟨prog,203,f203,[206,227,228],[2],false,[(1,14,true)],[],[(2024,[(1,wT),(64,wL),(65,wI),(66,wI)])]⟩
def ok:M.Ok:=⟨.cons call206 (.cons call227 (.cons call228 (AG.nil))),mixed,func203,by kernel_rfl⟩
def Lp:=M.pt 0
def start (h:∀b2:Nat,Pq U1 fun NM PD=>In 0 (Lz:Int)∧LT σ NM PD fun s13=>AM ((Lz:Int)-1)∧In (((Lz:Int)-1)) (Lz:Int)∧LT σ NM (PD+Int.toNat ((Lz:Int)-1)*1) fun s21=>Br ((Lz:Int)=1) (R (.returned (.bool (ByteArray.toList s1==ByteArray.toList s13))) σ) (AM ((s13.size:Int)+(s21.size:Int))∧Br (((s1.size:Int):Int)<((s13.size:Int)+(s21.size:Int))) (R (.B false) σ) (AL 227 #[.string s1,.string s13] σ R (CB fun t40 y=>Bn t40 (R (.B false) y) (AL 228 #[.string s1,.string s21] y R (CB fun t46 AE=>Bn t46 (R (.B false) AE) (AM ((s1.size:Int)-(s21.size:Int))∧∃s57,YF prog (Instr.sliceAt 9 (.string s1) (some (.I (s13.size:Int))) (some (.I ((s1.size:Int)-(s21.size:Int)))) none) AE (.string s57)∧AM ((Lz:Int)-1)∧((0:Int)≤1∧1≤((Lz:Int)-1)∧((Lz:Int)-1)≤(SM:Int))∧Lp R s57 ((Fe (aD NM PD) (1) SM 1)) ((Int.toNat ((Lz:Int)-1)-1)) (SM-1) ((((Int.toNat ((Lz:Int)-1)-1):Nat):Int)) 0 AE))))))):Spec prog 203 #[.agg #[.slice U1 Lz SM],.string s1] σ R:=M.start h ok
def LG (h:Br (yF<x65) (Pq tB fun b68 o68=>In yF (oz:Int)∧LT σ b68 (o68+yF.toNat*1) fun s69=>AL 206 #[.string s1,.string s69] σ R (CI .i64 fun x72 y=>Br (x72<0) (R (.B false) y) (AM (x72+(s69.size:Int))∧∃s80,YF prog (Instr.sliceAt 9 (.string s1) (some (.I (x72+(s69.size:Int)))) none none) y (.string s80)∧AM (yF+1)∧Lp R s80 (aD b68 o68) oz tC x65 (yF+1) y))) (R (.B true) σ)):Lp R s1 tB oz tC x65 yF σ:=M.of h ok rfl
end DA
namespace G8
variable {s0 s1:ByteArray}
def M:Fw:=⟨prog,227,f227,[252],[],false,[],[],[]⟩
def ok:M.Ok:=⟨.cons call252 (AG.nil),mixed,func227,by kernel_rfl⟩
def start (h:AL 252 #[.string s0,.string s1] σ R (CB fun t7 y=>R (.B t7) y)):Spec prog 227 #[.string s0,.string s1] σ R:=M.start h ok
end G8
end TwW
end
end
section
set_option maxRecDepth 100000
noncomputable section
namespace TwW
open Go Tw Go.Proofs.Tryz
variable [Ei]{R:Rr}{σ:Hp}

namespace DI
variable {p0 p5:Option Addr}{n0 c0 n5 c5:Nat}{x6 x7:Int}
def M:Fw:=⟨prog,27,f27,[22,43,44],[4],false,[],[],[(104,[(0,wL),(5,wL),(6,wI),(7,wI)])]⟩
def ok:M.Ok:=⟨.cons call22 (.cons call43 (.cons call44 (AG.nil))),mixed,func27,by kernel_rfl⟩
def II:=M.pt 0
def start (h:II R p0 n0 c0 p0 n0 c0 (n0:Int) 0 σ):Spec prog 27 #[.slice p0 n0 c0] σ R:=M.start h ok
def A8 (h:Br (x7<x6) (Pq p5 fun CC gA=>In x7 (n5:Int)∧∃Pe Pf Pg de df dg,Av σ CC (gA+x7.toNat*2) [.slice Pe Pf Pg,.slice de df dg]∧∀b4:Nat,AL 43 #[.slice Pe Pf Pg] σ R (CI .i64 fun U0 y=>Br (U0≠0) (R (.returned (.I 100)) y) (AL 44 #[.slice de df dg] y R (CB fun t19 AE=>Bn t19 (R (.returned (.I 100)) AE) (Br (0<x7) (AM (x7-1)∧Pq p0 fun Uh gR=>In (x7-1) (n0:Int)∧LS AE Uh (gR+Int.toNat (x7-1)*2) fun p31 n31 c31=>AL 22 #[.slice p31 n31 c31,.slice Pe Pf Pg] AE R (CI .i64 fun x34 AJ=>Br (0≤x34) (R (.returned (.I 100)) AJ) (AM (x7+1)∧II R (aD Uh gR) n0 c0 (aD CC gA) n5 c5 x6 (x7+1) AJ))) (AM (x7+1)∧II R p0 n0 c0 (aD CC gA) n5 c5 x6 (x7+1) AE)))))) (R (.returned (.I 0)) σ)):II R p0 n0 c0 p5 n5 c5 x6 x7 σ:=M.of h ok rfl
end DI
namespace EA
variable {p0 p3 p6:Option Addr}{n0 c0 n3 c3 n6 c6:Nat}{x7 x8:Int}
def M:Fw:=⟨prog,30,f30,[],[5],false,[],[],[(232,[(3,wL),(6,wL),(7,wI),(8,wI)])]⟩
def ok:M.Ok:=⟨AG.nil,mixed,func30,by kernel_rfl⟩
def Aw:=M.pt 0
def start (h:Aw R none 0 0 p0 n0 c0 (n0:Int) 0 σ):Spec prog 30 #[.slice p0 n0 c0] σ R:=M.start h ok
def AY (h:Br (x8<x7) (Pq p6 fun CC gA=>In x8 (n6:Int)∧∃Pe Pf Pg de df dg,Av σ CC (gA+x8.toNat*2) [.slice Pe Pf Pg,.slice de df dg]∧∀b5:Nat,(Al σ fun Bc=>(AH prog (Builtin.append_ #[37,37] 37 #[(.slice (aD Bc 0) 0 0),.slice Pe Pf Pg]) (Hp.set σ Bc (.cells #[] 36 (0,0))) (CS fun Mv n16 Ln y=>Al y fun Mf=>AH prog (Builtin.append_ #[43,43] 43 #[(.slice (aD Mf 0) 0 0),.slice de df dg]) (Hp.set y Mf (.cells #[] 42 (0,0))) (CS fun Xi n20 Xj AE=>Al AE fun dh=>AH prog (I4 23 p3 n3 c3 dh) (Hp.set AE dh (.cells #[.slice Mv n16 Ln,.slice Xi n20 Xj] 45 (0,0))) (CS fun Us n23 RG AJ=>AM (x8+1)∧Aw R Us n23 RG (aD CC gA) n6 c6 x7 (x8+1) AJ))))∧(Al (Hp.set σ Bc (.cells #[] 36 (0,0))) fun Mf=>AH prog (Builtin.append_ #[37,37] 37 #[(.slice (aD Bc 0) 0 0),.slice Pe Pf Pg]) (Hp.set (Hp.set σ Bc (.cells #[] 36 (0,0))) Mf (.cells #[] 42 (0,0))) (CS fun Mv n16 Ln y=>AH prog (Builtin.append_ #[43,43] 43 #[(.slice (aD Mf 0) 0 0),.slice de df dg]) y (CS fun Xi n20 Xj AE=>Al AE fun dh=>AH prog (I4 23 p3 n3 c3 dh) (Hp.set AE dh (.cells #[.slice Mv n16 Ln,.slice Xi n20 Xj] 45 (0,0))) (CS fun Us n23 RG AJ=>AM (x8+1)∧Aw R Us n23 RG (aD CC gA) n6 c6 x7 (x8+1) AJ)))))∧(Al σ fun Mf=>Al (Hp.set σ Mf (.cells #[] 42 (0,0))) fun Bc=>AH prog (Builtin.append_ #[37,37] 37 #[(.slice (aD Bc 0) 0 0),.slice Pe Pf Pg]) (Hp.set (Hp.set σ Mf (.cells #[] 42 (0,0))) Bc (.cells #[] 36 (0,0))) (CS fun Mv n16 Ln y=>AH prog (Builtin.append_ #[43,43] 43 #[(.slice (aD Mf 0) 0 0),.slice de df dg]) y (CS fun Xi n20 Xj AE=>Al AE fun dh=>AH prog (I4 23 p3 n3 c3 dh) (Hp.set AE dh (.cells #[.slice Mv n16 Ln,.slice Xi n20 Xj] 45 (0,0))) (CS fun Us n23 RG AJ=>AM (x8+1)∧Aw R Us n23 RG (aD CC gA) n6 c6 x7 (x8+1) AJ))))) (R (.returned (.slice p3 n3 c3)) σ)):Aw R p3 n3 c3 p6 n6 c6 x7 x8 σ:=M.of h ok rfl
end EA
namespace DX
variable {p0 p5:Option Addr}{n0 c0 n5 c5:Nat}{x1:Int}
def M:Fw:=⟨prog,51,f51,[],[],false,[],[],[(224,[(1,wU),(5,wL)])]⟩
def ok:M.Ok:=⟨AG.nil,mixed,func51,by kernel_rfl⟩
def Ho:=M.pt 0
def start (h:Al σ fun b6=>AH prog (Builtin.append_ #[90,90] 90 #[(.slice (aD b6 0) 0 0),.slice p0 n0 c0]) (Hp.set σ b6 (.cells #[] 5 (0,0))) (CS fun p8 n8 c8 y=>Ho R x1 p8 n8 c8 y)):Spec prog 51 #[.slice p0 n0 c0,.U x1] σ R:=M.start h ok
def BJ (h:Br (127<x1) (Df (IntKind.u8.wrap x1) fun x15=>Df (Go.bits .or .u8 x15 128) fun x16=>Al σ fun Mf=>AH prog (I4 90 p5 n5 c5 Mf) (Hp.set σ Mf (.cells #[.int .u8 x16] 5 (0,0))) (CS fun p18 n18 c18 y=>((0:Int)≤7∧7≤((IntKind.bits .u64:Nat):Int))∧Df (x1/2^Int.toNat 7) fun x12=>Ho R x12 p18 n18 c18 y)) (Df (IntKind.u8.wrap x1) fun jv=>Al σ fun dh=>AH prog (I4 90 p5 n5 c5 dh) (Hp.set σ dh (.cells #[.int .u8 jv] 5 (0,0))) (CS fun Us n23 RG y=>R (.returned (.slice Us n23 RG)) y))):Ho R x1 p5 n5 c5 σ:=M.of h ok rfl
end DX
namespace FO
variable {p0 p8:Option Addr}{n0 c0 n8 c8:Nat}{x9 x10:Int}
def M:Fw:=⟨prog,69,f69,[94,95],[4],false,[],[],[(232,[(8,wL),(9,wI),(10,wI)])]⟩
def ok:M.Ok:=⟨.cons call94 (.cons call95 (AG.nil)),mixed,func69,by kernel_rfl⟩
def SR:=M.pt 0
def start (h:Br (8<(n0:Int)) (R (.returned (.I 41)) σ) (SR R p0 n0 c0 (n0:Int) 0 σ)):Spec prog 69 #[.slice p0 n0 c0] σ R:=M.start h ok
def NR (h:Br (x10<x9) (Pq p8 fun NM PD=>In x10 (n8:Int)∧∃pM ju AIL,Av σ NM (PD+x10.toNat*3) [.I pM,.string ju,.string AIL]∧∀b4:Nat,AL 94 #[.I pM] σ R (CB fun t16 y=>Bn t16 (R (.returned (.I 40)) y) (AL 95 #[.string ju] y R (CB fun t21 AE=>Bn t21 (R (.returned (.I 40)) AE) (Br ((256:Int)<(AIL.size:Int)) (R (.returned (.I 40)) AE) (AM (x10+1)∧SR R (aD NM PD) n8 c8 x9 (x10+1) AE)))))) (R (.returned (.I 0)) σ)):SR R p8 n8 c8 x9 x10 σ:=M.of h ok rfl
end FO
namespace AW
variable {q0 Dl D6 p2 F6 HU Gv Fg p8 dJ oL p47:Option Addr}{Dc Cp Dd Dm DO Cs Gp Fy HV Ft HW IJ Fh Fi Uz Ja Wn Ug:Int}{De IK:ByteArray}{Dn Dp Dq D7 n2 c2 F7 GA HX HY Gw Gx Fj Fk n8 c8 n25 dK n12 lP n47 c47:Nat}{DP IL:Bool}{v9:Value}
def M:Fw:=⟨prog,78,f78,[104,105,106],[4,6,11,14],false,[],[],[(488,[(2,wL),(4,.X 51 [.I .i64,.I .i64,.T,.L,.I .i64,.I .i64,.I .i64,.L,.B,.I .i64]),(6,.X 84 [.I .i64,.I .u64,.L,.L]),(8,wL),(9,wV),(25,wL),(26,wI),(27,wI)]),(2024,[(2,wL),(4,.X 51 [.I .i64,.I .i64,.T,.L,.I .i64,.I .i64,.I .i64,.L,.B,.I .i64]),(6,.X 84 [.I .i64,.I .u64,.L,.L]),(8,wL),(12,wL),(47,wL),(48,wI),(49,wI)]),(8103,[(2,wL),(4,.X 51 [.I .i64,.I .i64,.T,.L,.I .i64,.I .i64,.I .i64,.L,.B,.I .i64]),(6,.X 84 [.I .i64,.I .u64,.L,.L]),(8,wL),(12,wL),(47,wL),(48,wI),(49,wI)])]⟩
def ok:M.Ok:=⟨.cons call104 (.cons call105 (.cons call106 (AG.nil))),mixed,func78,by kernel_rfl⟩
def Eu:=M.pt 0
def Qy:=M.pt 1
def Ll:=M.pt 2
def start (h:∀b4:Nat,∀b6:Nat,AH prog (Instr.makeMap 170 none) σ (fun z y=>∃m17,z=(.map (some m17))∧AH prog (Instr.mapUpdate 170 (.map (some m17)) (.I 11) (.func (.func 102) #[] #[])) y (fun _ AE=>AH prog (Instr.mapUpdate 170 (.map (some m17)) (.I 12) (.func (.func 103) #[] #[])) AE (fun _ AJ=>AH prog (Instr.lookup 170 (.map (some m17)) (.I Cp) false) AJ (fun z As=>∃v21,v21=z∧Pq p2 fun PC fz=>In 0 (n2:Int)∧LS As PC (fz+2) fun dJ n25 dK=>Eu R (aD PC fz) n2 c2 Dc Cp De Dl Dn Dp Dd Dm DO D6 Dq D7 DP Cs 0 0 none 0 0 none 0 0 none 0 0 v21 dJ n25 dK (n25:Int) 0 As))))):Spec prog 78 #[.pointer q0,.agg #[.I Dc,.I Cp,.string De,.slice Dl Dn Dp,.I Dd,.I Dm,.I DO,.slice D6 Dq D7,.bool DP,.I Cs],.slice p2 n2 c2] σ R:=M.start h ok
def FE (h:Br (Ja<Uz) (Pq dJ fun Uh gR=>In Ja (n25:Int)∧∃oW oX oY oZ,Av σ Uh (gR+Ja.toNat*2) [.slice oW oX oY,.U oZ]∧∀A7:Nat,AL 104 #[.slice oW oX oY] σ R (CS fun p34 n34 c34 y=>∃(f38:Nat) (G9 HA:Array Value),v9=.func (.func f38) G9 HA∧Enters prog f38∧Spec prog f38 (G9++#[.U oZ]++HA) y (Ap R (CI .u64 fun bM AE=>Al AE fun Xg=>AH prog (I4 60 p8 n8 c8 Xg) (Hp.set AE Xg (.cells #[.slice p34 n34 c34,.U bM] 64 (0,0))) (CS fun ja n41 bN AJ=>AM (Ja+1)∧Eu R p2 n2 c2 Gp Fy IK F6 F7 GA HV Ft HW HU HX HY IL IJ Fh Fi Gv Gw Gx Fg Fj Fk ja n41 bN v9 (aD Uh gR) n25 dK Uz (Ja+1) AJ))))) (AL 105 #[] σ R (CS fun lM n43 lN y=>Pq p2 fun Uy lS=>In 0 (n2:Int)∧LS y Uy (lS+3) fun p47 n47 c47=>Qy R (aD Uy lS) n2 c2 Gp Fy IK F6 F7 GA HV Ft HW HU HX HY IL IJ Fh Fi Gv Gw Gx Fg Fj Fk p8 n8 c8 lM n43 lN p47 n47 c47 (n47:Int) 0 y))):Eu R p2 n2 c2 Gp Fy IK F6 F7 GA HV Ft HW HU HX HY IL IJ Fh Fi Gv Gw Gx Fg Fj Fk p8 n8 c8 v9 dJ n25 dK Uz Ja σ:=M.jQ h ok rfl fun _ _=>by kernel_rfl
def RJ (h:Br (Ug<Wn) (Pq p47 fun b51 o51=>In Ug (n47:Int)∧∃AIM AIN AIO AIP AIQ AIR,Av σ b51 (o51+Ug.toNat*2) [.slice AIM AIN AIO,.slice AIP AIQ AIR]∧∀BT:Nat,Pq oL fun IU yU=>In Fy (n12:Int)∧∃v58,Hp.ld σ ⟨IU,(yU+Fy.toNat*1),none⟩=some v58∧∃(f63:Nat) (KG KH:Array Value),v58=.func (.func f63) KG KH∧Enters prog f63∧Spec prog f63 (KG++#[.slice AIP AIQ AIR,.agg #[.I Gp,.I Fy,.string IK,.slice F6 F7 GA,.I HV,.I Ft,.I HW,.slice HU HX HY,.bool IL,.I IJ],.slice p2 n2 c2]++KH) σ (Ap R (fun z y=>∃AIS AIT,z=(.tuple #[.U AIS,.bool AIT])∧Bo AIT (AL 104 #[.slice AIM AIN AIO] y R (CS fun p70 n70 c70 AE=>Al AE fun b73=>AH prog (I4 60 p8 n8 c8 b73) (Hp.set AE b73 (.cells #[.slice p70 n70 c70,.U AIS] 64 (0,0))) (CS fun p74 n74 c74 AJ=>Ll R p2 n2 c2 Gp Fy IK F6 F7 GA HV Ft HW HU HX HY IL IJ Fh Fi Gv Gw Gx Fg Fj Fk p74 n74 c74 (aD IU yU) n12 lP (aD b51 o51) n47 c47 Wn Ug AJ))) (Ll R p2 n2 c2 Gp Fy IK F6 F7 GA HV Ft HW HU HX HY IL IJ Fh Fi Gv Gw Gx Fg Fj Fk p8 n8 c8 (aD IU yU) n12 lP (aD b51 o51) n47 c47 Wn Ug y)))) (AL 106 #[.slice p8 n8 c8] σ R (fun z y=>∃yV yW yX yY yZ ya yb yc AIU,z=(.tuple #[.agg #[.I yV,.U yW,.slice yX yY yZ,.slice ya yb yc],.I AIU])∧R (.T #[.agg #[.I yV,.U yW,.slice yX yY yZ,.slice ya yb yc],.I AIU]) y))):Qy R p2 n2 c2 Gp Fy IK F6 F7 GA HV Ft HW HU HX HY IL IJ Fh Fi Gv Gw Gx Fg Fj Fk p8 n8 c8 oL n12 lP p47 n47 c47 Wn Ug σ:=M.jQ h ok rfl fun _ _=>by kernel_rfl
def IV (h:AM (Ug+1)∧Qy R p2 n2 c2 Gp Fy IK F6 F7 GA HV Ft HW HU HX HY IL IJ Fh Fi Gv Gw Gx Fg Fj Fk p8 n8 c8 oL n12 lP p47 n47 c47 Wn (Ug+1) σ):Ll R p2 n2 c2 Gp Fy IK F6 F7 GA HV Ft HW HU HX HY IL IJ Fh Fi Gv Gw Gx Fg Fj Fk p8 n8 c8 oL n12 lP p47 n47 c47 Wn Ug σ:=M.jQ h ok rfl fun _ _=>by kernel_rfl
end AW
namespace DJ
variable {Em ES Qr NF HT I5:Int}{Qt:ByteArray}{Vi R9 p1:Option Addr}{Uv Vj RI SA n1 c1 b2:Nat}{Mb:Bool}
def M:Fw:=⟨prog,96,f96,[],[3],false,[],[],[]⟩
def ok:M.Ok:=⟨AG.nil,mixed,func96,by kernel_rfl⟩
def start (h:∀b3:Nat,LI .i64 σ b2 0 fun x7=>R (.T #[.I x7,.I 0]) σ):Spec prog 96 #[.agg #[.I Em,.I ES,.string Qt,.slice Vi Uv Vj,.I Qr,.I NF,.I HT,.slice R9 RI SA,.bool Mb,.I I5],.slice p1 n1 c1,(.pointer (aD b2 0))] σ R:=M.start h ok
end DJ
namespace MD
variable {p0 p1:Option Addr}{n0 c0 n1 c1:Nat}
def M:Fw:=⟨prog,108,f108,[149],[],false,[],[],[]⟩
def ok:M.Ok:=⟨.cons call149 (AG.nil),mixed,func108,by kernel_rfl⟩
def start (h:Al σ fun b3=>AL 149 #[.slice p0 n0 c0,(.func (.func 152) #[] #[(.pointer (aD b3 0))])] (Hp.set σ b3 (.cells #[.slice p1 n1 c1] 49 (0,0))) R (CS fun p7 n7 c7 y=>R (.returned (.slice p7 n7 c7)) y)):Spec prog 108 #[.slice p0 n0 c0,.slice p1 n1 c1] σ R:=M.start h ok
end MD
namespace FP
variable {p0 Kz:Option Addr}{n0 c0 n11 LA:Nat}{x3 x12 E4:Int}
def M:Fw:=⟨prog,109,f109,[138,153],[],false,[],[],[(232,[(3,wU),(11,wL),(12,wI),(13,wI)])]⟩
def ok:M.Ok:=⟨.cons call138 (.cons call153 (AG.nil)),mixed,func109,by kernel_rfl⟩
def Aw:=M.pt 0
def start (h:Pq p0 fun b7 o7=>In 0 (n0:Int)∧LI .u64 σ b7 o7 fun x8=>AL 138 #[.U x8] σ R (CI .u64 fun x9 y=>((0:Int)≤1∧1≤(n0:Int))∧Aw R x9 ((Fe (aD b7 o7) (1) c0 1)) (n0-1) (c0-1) ((((n0-1):Nat):Int)) 0 y)):Spec prog 109 #[.slice p0 n0 c0] σ R:=M.start h ok
def AY (h:Br (E4<x12) (Pq Kz fun b15 o15=>In E4 (n11:Int)∧LI .u64 σ b15 (o15+E4.toNat*1) fun x16=>AL 153 #[.U x3,.U x16] σ R (CI .u64 fun Dg y=>AM (E4+1)∧Aw R Dg (aD b15 o15) n11 LA x12 (E4+1) y)) (R (.returned (.U x3)) σ)):Aw R x3 Kz n11 LA x12 E4 σ:=M.of h ok rfl
end FP
namespace EW
variable {p0:Option Addr}{n0 c0:Nat}
def M:Fw:=⟨prog,112,f112,[109,113,146],[],false,[],[],[]⟩
def ok:M.Ok:=⟨.cons call109 (.cons call113 (.cons call146 (AG.nil))),mixed,func112,by kernel_rfl⟩
def start (h:AL 109 #[.slice p0 n0 c0] σ R (CI .u64 fun x4 y=>AL 113 #[.slice p0 n0 c0] y R (CI .u64 fun x6 AE=>AL 146 #[.U x4,.U x6] AE R (CI .u64 fun x7 AJ=>R (.returned (.U x7)) AJ)))):Spec prog 112 #[.slice p0 n0 c0] σ R:=M.start h ok
end EW
namespace Gd
variable {p0:Option Addr}{n0 c0:Nat}
def M:Fw:=⟨prog,113,f113,[101],[],false,[],[],[]⟩
def ok:M.Ok:=⟨.cons call101 (AG.nil),mixed,func113,by kernel_rfl⟩
def start (h:AL 101 #[(.I (n0:Int))] σ R (CI .u64 fun x5 y=>R (.returned (.U x5)) y)):Spec prog 113 #[.slice p0 n0 c0] σ R:=M.start h ok
end Gd
namespace Ax
variable {p0:Option Addr}{n0 c0:Nat}{x1 x8 x9 x10:Int}{v2:Value}
def M:Fw:=⟨prog,127,f127,[],[],false,[],[],[(480,[(0,wL),(1,wI),(2,wV),(8,wI),(9,wI),(10,wI)])]⟩
def ok:M.Ok:=⟨AG.nil,mixed,func127,by kernel_rfl⟩
def CZ:=M.pt 0
def start (h:CZ R p0 n0 c0 x1 v2 (n0:Int) 0 (n0:Int) σ):Spec prog 127 #[.slice p0 n0 c0,.I x1,v2] σ R:=M.CY h ok [(0,.o (.L p0 n0 c0)),(1,.o (.I .i64 x1)),(2,.o (.V v2))] rfl rfl (by kernel_rfl)
def BE (h:Br (x9<x10) (AM (x9+x10)∧Df (IntKind.u64.wrap (x9+x10)) fun jv=>((0:Int)≤1∧1≤((IntKind.bits .u64:Nat):Int))∧Df (jv/2^Int.toNat 1) fun I6=>Df (IntKind.i64.wrap I6) fun Cz=>Pq p0 fun bQ xY=>In Cz (n0:Int)∧∃Yt SP,Av σ bQ (xY+Cz.toNat*2) [.I Yt,.U SP]∧∃(f30:Nat) (yd ye:Array Value),v2=.func (.func f30) yd ye∧Enters prog f30∧Spec prog f30 (yd++#[.agg #[.I Yt,.U SP],.I x1]++ye) σ (Ap R (CI .i64 fun Vp y=>Br (Vp<0) (AM (Cz+1)∧CZ R (aD bQ xY) n0 c0 x1 v2 x8 (Cz+1) x10 y) (CZ R (aD bQ xY) n0 c0 x1 v2 x8 x9 Cz y)))) (Br (x9<x8) (Pq p0 fun gN o43=>In x9 (n0:Int)∧∃SF SG,Av σ gN (o43+x9.toNat*2) [.I SF,.U SG]∧∃(f46:Nat) (yf yh:Array Value),v2=.func (.func f46) yf yh∧Enters prog f46∧Spec prog f46 (yf++#[.agg #[.I SF,.U SG],.I x1]++yh) σ (Ap R (CI .i64 fun x46 y=>R (.T #[.I x9,(.bool (decide (x46=0)))]) y))) (R (.T #[.I x9,.bool false]) σ))):CZ R p0 n0 c0 x1 v2 x8 x9 x10 σ:=M.of h ok rfl
end Ax
namespace ME
variable {Em ES x1:Int}
def M:Fw:=⟨prog,129,f129,[],[2],false,[],[],[]⟩
def ok:M.Ok:=⟨AG.nil,mixed,func129,by kernel_rfl⟩
def start (h:∀b2:Nat,Br (Em≤x1) (R (.returned (.I (-1))) σ) (R (.returned (.I 1)) σ)):Spec prog 129 #[.agg #[.I Em,.U ES],.I x1] σ R:=M.start h ok
end ME
namespace Hr
variable {p0 p7:Option Addr}{n0 c0 n7 c7:Nat}{s1:ByteArray}{x8 x9:Int}
def M:Fw:=⟨prog,132,f132,[],[6],false,[],[],[(104,[(1,wT),(7,wL),(8,wI),(9,wI)])]⟩
def ok:M.Ok:=⟨AG.nil,mixed,func132,by kernel_rfl⟩
def II:=M.pt 0
def start (h:II R s1 p0 n0 c0 (n0:Int) 0 σ):Spec prog 132 #[.slice p0 n0 c0,.string s1] σ R:=M.start h ok
def A8 (h:Br (x9<x8) (Pq p7 fun A7 Xh=>In x9 (n7:Int)∧∃AIV AIW,Av σ A7 (Xh+x9.toNat*2) [.string AIV,.string AIW]∧∀b6:Nat,Bo (ByteArray.toList AIV==ByteArray.toList s1) (R (.returned (.string AIW)) σ) (AM (x9+1)∧II R s1 (aD A7 Xh) n7 c7 x8 (x9+1) σ)) (R (.returned (.string (ByteArray.mk #[]))) σ)):II R s1 p7 n7 c7 x8 x9 σ:=M.of h ok rfl
end Hr
namespace QS
variable {x0:Int}
def M:Fw:=⟨prog,138,f138,[126,134],[],false,[],[],[]⟩
def ok:M.Ok:=⟨.cons call126 (.cons call134 (AG.nil)),mixed,func138,by kernel_rfl⟩
def start (h:AL 134 #[.U x0] σ R (fun z y=>∃x4,(Value.float .f64 x4)=z∧AL 126 #[(Value.float .f64 x4)] y R (CI .u64 fun x5 AE=>R (.returned (.U x5)) AE))):Spec prog 138 #[.U x0] σ R:=M.start h ok
end QS
namespace EX
variable {p0:Option Addr}{n0 c0:Nat}{s1:ByteArray}
def M:Fw:=⟨prog,151,f151,[177],[],false,[],[],[]⟩
def ok:M.Ok:=⟨.cons call177 (AG.nil),mixed,func151,by kernel_rfl⟩
def start (h:AL 177 #[.slice p0 n0 c0,.string s1] σ R (CI .i64 fun x7 y=>R (.returned (.bool (decide (0≤x7)))) y)):Spec prog 151 #[.slice p0 n0 c0,.string s1] σ R:=M.start h ok
end EX
namespace eval_add
variable {x0 x1:Int}
def M:Fw:=⟨prog,153,f153,[155],[],false,[],[],[]⟩
def ok:M.Ok:=⟨.cons call155 (AG.nil),mixed,func153,by kernel_rfl⟩
def start (h:AL 155 #[.I 1,.U x0,.U x1] σ R (fun z y=>∃Jd SO,z=(.tuple #[.U Jd,.bool SO])∧R (.returned (.U Jd)) y)):Spec prog 153 #[.U x0,.U x1] σ R:=M.start h ok
end eval_add
namespace E6
variable {x0 x5 x15 x16:Int}{p1 LH:Option Addr}{n1 c1 n14 Il:Nat}
def M:Fw:=⟨prog,154,f154,[138,156,178],[],false,[],[],[(232,[(0,wI),(5,wU),(14,wL),(15,wI),(16,wI)]),(935,[(0,wI),(5,wU),(14,wL),(15,wI),(16,wI)])]⟩
def ok:M.Ok:=⟨.cons call138 (.cons call156 (.cons call178 (AG.nil))),mixed,func154,by kernel_rfl⟩
def Aw:=M.pt 0
def pN:=M.pt 1
def start (h:Pq p1 fun A7 Xh=>In 0 (n1:Int)∧LI .u64 σ A7 Xh fun x12=>((0:Int)≤1∧1≤(n1:Int))∧Aw R x0 x12 ((Fe (aD A7 Xh) (1) c1 1)) (n1-1) (c1-1) ((((n1-1):Nat):Int)) 0 σ):Spec prog 154 #[.I x0,.slice p1 n1 c1] σ R:=M.start h ok
def AY (h:Br (x16<x15) (Pq LH fun Vk di=>In x16 (n14:Int)∧LI .u64 σ Vk (di+x16.toNat*1) fun Dg=>AL 156 #[.I x0,.U Dg,.U x5] σ R (fun z y=>∃AIX ANm,z=(.tuple #[.bool AIX,.bool ANm])∧Bo AIX (pN R x0 Dg (aD Vk di) n14 Il x15 x16 y) (AL 178 #[.U x5] y R (CB fun t30 AE=>Bo t30 (pN R x0 Dg (aD Vk di) n14 Il x15 x16 AE) (pN R x0 x5 (aD Vk di) n14 Il x15 x16 AE))))) (AL 138 #[.U x5] σ R (CI .u64 fun Xf y=>R (.returned (.U Xf)) y))):Aw R x0 x5 LH n14 Il x15 x16 σ:=M.of h ok rfl
def u7 (h:AM (x16+1)∧Aw R x0 x5 LH n14 Il x15 (x16+1) σ):pN R x0 x5 LH n14 Il x15 x16 σ:=M.of h ok rfl
end E6
namespace Ta
variable {x0 x1 x2:Int}
def M:Fw:=⟨prog,155,f155,[126,134],[],false,[],[],[]⟩
def ok:M.Ok:=⟨.cons call126 (.cons call134 (AG.nil)),mixed,func155,by kernel_rfl⟩
def start (h:AL 134 #[.U x1] σ R (fun z y=>∃x11,(Value.float .f64 x11)=z∧AL 134 #[.U x2] y R (fun z AE=>∃E4,(Value.float .f64 E4)=z∧Br (x0=1) (AH prog (binOp .add 40 (Value.float .f64 x11) (Value.float .f64 E4)) AE (fun z AJ=>∃Dg,(Value.float .f64 Dg)=z∧AL 126 #[(Value.float .f64 Dg)] AJ R (CI .u64 fun HO As=>R (.T #[.U HO,.bool true]) As))) (Br (x0=2) (AH prog (binOp .sub 40 (Value.float .f64 x11) (Value.float .f64 E4)) AE (fun z AJ=>∃Ky,(Value.float .f64 Ky)=z∧AL 126 #[(Value.float .f64 Ky)] AJ R (CI .u64 fun Uz As=>R (.T #[.U Uz,.bool true]) As))) (Br (x0=3) (AH prog (binOp .mul 40 (Value.float .f64 x11) (Value.float .f64 E4)) AE (fun z AJ=>∃x31,(Value.float .f64 x31)=z∧AL 126 #[(Value.float .f64 x31)] AJ R (CI .u64 fun nM As=>R (.T #[.U nM,.bool true]) As))) (Br (x0=4) (AH prog (binOp .quo 40 (Value.float .f64 x11) (Value.float .f64 E4)) AE (fun z AJ=>∃Vn,(Value.float .f64 Vn)=z∧AL 126 #[(Value.float .f64 Vn)] AJ R (CI .u64 fun bM As=>R (.T #[.U bM,.bool true]) As))) (R (.T #[.U 0,.bool false]) AE))))))):Spec prog 155 #[.I x0,.U x1,.U x2] σ R:=M.start h ok
end Ta
namespace Ge
variable {Em ES Qr NF HT I5 x2a x2b x2e x2f x2g x2j x11 x12:Int}{Qt s2c:ByteArray}{Vi R9 p1 p2d p2h SC:Option Addr}{Uv Vj RI SA n1 c1 n2d c2d n2h c2h n10 NI:Nat}{Mb t2i:Bool}{m6:Option Nat}
def M:Fw:=⟨prog,158,f158,[19,159],[2,8],false,[(5,7,false)],[],[(232,[(1,wL),(2,.X 51 [.I .i64,.I .i64,.T,.L,.I .i64,.I .i64,.I .i64,.L,.B,.I .i64]),(6,wM),(10,wL),(11,wI),(12,wI)])]⟩
def ok:M.Ok:=⟨.cons call19 (.cons call159 (AG.nil)),mixed,func158,by kernel_rfl⟩
def Aw:=M.pt 0
def start (h:∀b2:Nat,AH prog (Instr.makeMap 222 none) σ (fun z y=>∃m9,z=(.map (some m9))∧Aw R p1 n1 c1 Em ES Qt Vi Uv Vj Qr NF HT R9 RI SA Mb I5 (some m9) p1 n1 c1 (n1:Int) 0 y)):Spec prog 158 #[.agg #[.I Em,.I ES,.string Qt,.slice Vi Uv Vj,.I Qr,.I NF,.I HT,.slice R9 RI SA,.bool Mb,.I I5],.slice p1 n1 c1] σ R:=M.start h ok
def AY (h:Br (x12<x11) (Pq SC fun BT PZ=>In x12 (n10:Int)∧∃ABi ABj ABk dG,Av σ BT (PZ+x12.toNat*2) [.slice ABi ABj ABk,.U dG]∧∀b8:Nat,AL 159 #[.agg #[.I x2a,.I x2b,.string s2c,.slice p2d n2d c2d,.I x2e,.I x2f,.I x2g,.slice p2h n2h c2h,.bool t2i,.I x2j],.slice ABi ABj ABk] σ R (CS fun Xi n20 Xj y=>AL 19 #[.slice Xi n20 Xj] y R (CT fun s21 AE=>AH prog (Instr.mapUpdate 222 (.map m6) (.string s21) (.agg #[.slice ABi ABj ABk,.U dG])) AE (fun _ AJ=>AM (x12+1)∧Aw R p1 n1 c1 x2a x2b s2c p2d n2d c2d x2e x2f x2g p2h n2h c2h t2i x2j m6 (aD BT PZ) n10 NI x11 (x12+1) AJ)))) (∃Uz,YF prog (Builtin.len_ #[222] 3 #[.map m6]) σ (.I Uz)∧R (.T #[.map m6,(.bool (decide (Uz=(n1:Int))))]) σ)):Aw R p1 n1 c1 x2a x2b s2c p2d n2d c2d x2e x2f x2g p2h n2h c2h t2i x2j m6 SC n10 NI x11 x12 σ:=M.xN h ok rfl fun _=>by kernel_rfl
end Ge
namespace EY
variable {U1:Option Addr}{Lz SM:Nat}{bR s1:ByteArray}
def M:Fw:=⟨prog,165,f165,[],[2],false,[],[],[]⟩
def ok:M.Ok:=⟨AG.nil,mixed,func165,by kernel_rfl⟩
def start (h:∀b2:Nat,R (.returned (.bool (ByteArray.toList s1==ByteArray.toList bR))) σ):Spec prog 165 #[.agg #[.slice U1 Lz SM,.string bR],.string s1] σ R:=M.start h ok
end EY
namespace CP
variable {t0:Bool}
def M:Fw:=⟨prog,222,f222,[],[],false,[],[],[]⟩
def ok:M.Ok:=⟨AG.nil,mixed,func222,by kernel_rfl⟩
def start (h:Bo t0 (R (.returned (.U 1)) σ) (R (.returned (.U 0)) σ)):Spec prog 222 #[.bool t0] σ R:=M.start h ok
end CP
namespace BL
variable {x0 x1:Int}{t2 t7:Bool}{v6:Value}
def M:Fw:=⟨prog,224,f224,[],[],false,[],[],[(248,[(1,wI),(6,wV),(7,wB)]),(15988,[(1,wI),(6,wV),(7,wB)])]⟩
def ok:M.Ok:=⟨AG.nil,mixed,func224,by kernel_rfl⟩
def ABl:=M.pt 0
def JV:=M.pt 1
def start (h:LI .u64 σ 6 0 fun x10=>(0≤x10∧x10≤((IntKind.bits .u64:Nat):Int))∧Df (x0/2^x10.toNat) fun x11=>Br (x11≠0) (R (.T #[.float .f64 0,.bool false]) σ) (AH prog (convert 38 40 (.U x0)) σ (fun z y=>∃U0,(Value.float .f64 U0)=z∧Bo t2 (∃x17,YF prog (Op.unary .neg (Value.float .f64 U0)) y (Value.float .f64 x17)∧ABl R x1 (Value.float .f64 x17) false y) (ABl R x1 (Value.float .f64 U0) false y)))):Spec prog 224 #[.U x0,.I x1,.bool t2] σ R:=M.start h ok
def vA (h:Br (x1=0) (R (.T #[v6,.bool true]) σ) (Br (0<x1) (Br (x1≤37) (Br (22<x1) (LS σ 9 0 fun p32 n32 c32=>AM (x1-22)∧Pq p32 fun b35 o35=>In (x1-22) (n32:Int)∧∃lR,Hp.ld σ ⟨b35,(o35+Int.toNat (x1-22)*1),none⟩=some (Value.float .f64 lR)∧AH prog (binOp .mul 40 v6 (Value.float .f64 lR)) σ (fun z y=>∃Vn,(Value.float .f64 Vn)=z∧JV R 22 (Value.float .f64 Vn) t7 y)) (JV R x1 v6 t7 σ)) (Br (x1<0) (Br (((-22):Int)≤x1) (LS σ 9 0 fun Mu ND N9=>Df (IntKind.i64.wrap (0-x1)) fun vB=>Pq Mu fun b61 o61=>In vB (ND:Int)∧∃vC,Hp.ld σ ⟨b61,(o61+vB.toNat*1),none⟩=some (Value.float .f64 vC)∧AH prog (binOp .quo 40 v6 (Value.float .f64 vC)) σ (fun z y=>∃x63,(Value.float .f64 x63)=z∧R (.T #[(Value.float .f64 x63),.bool true]) y)) (R (.T #[v6,.bool t7]) σ)) (R (.T #[v6,.bool t7]) σ))) (Br (x1<0) (Br (((-22):Int)≤x1) (LS σ 9 0 fun Mu ND N9=>Df (IntKind.i64.wrap (0-x1)) fun vB=>Pq Mu fun b61 o61=>In vB (ND:Int)∧∃vC,Hp.ld σ ⟨b61,(o61+vB.toNat*1),none⟩=some (Value.float .f64 vC)∧AH prog (binOp .quo 40 v6 (Value.float .f64 vC)) σ (fun z y=>∃x63,(Value.float .f64 x63)=z∧R (.T #[(Value.float .f64 x63),.bool true]) y)) (R (.T #[v6,.bool t7]) σ)) (R (.T #[v6,.bool t7]) σ)))):ABl R x1 v6 t7 σ:=M.of h ok rfl
end BL
namespace EZ
variable {x0:Int}
def M:Fw:=⟨prog,239,f239,[],[],false,[],[],[]⟩
def ok:M.Ok:=⟨AG.nil,mixed,func239,by kernel_rfl⟩
def start (h:Df (Go.bits .or .u8 x0 32) fun x4=>R (.returned (.int .u8 x4)) σ):Spec prog 239 #[.int .u8 x0] σ R:=M.start h ok
end EZ
namespace CF
variable {p0:Option Addr}{n0 c0:Nat}{x1 x2:Int}
def M:Fw:=⟨prog,293,f293,[22],[],false,[],[],[]⟩
def ok:M.Ok:=⟨.cons call22 (AG.nil),mixed,func293,by kernel_rfl⟩
def start (h:Pq p0 fun b9 o9=>In x1 (n0:Int)∧LQ σ b9 (o9+x1.toNat*1) fun q10=>Pq q10 fun A7 Xh=>LS σ A7 Xh fun p13 n13 c13=>Pq p13 fun BT PZ=>In 0 (n13:Int)∧LS σ BT PZ fun Mv n16 Ln=>In x2 (n0:Int)∧LQ σ b9 (o9+x2.toNat*1) fun q20=>Pq q20 fun b21 o21=>LS σ b21 o21 fun Us n23 RG=>Pq Us fun yG yH=>In 0 (n23:Int)∧LS σ yG yH fun p26 n26 c26=>AL 22 #[.slice Mv n16 Ln,.slice p26 n26 c26] σ R (CI .i64 fun Ja y=>R (.returned (.bool (decide (Ja<0)))) y)):Spec prog 293 #[.slice p0 n0 c0,.I x1,.I x2] σ R:=M.start h ok
end CF
namespace BA
variable {p0:Option Addr}{n0 c0:Nat}{x1 x2:Int}
def M:Fw:=⟨prog,294,f294,[],[],false,[(0,15,false)],[],[]⟩
def ok:M.Ok:=⟨AG.nil,mixed,func294,by kernel_rfl⟩
def start (h:Pq p0 fun NM PD=>In x2 (n0:Int)∧LQ σ NM (PD+x2.toNat*1) fun q13=>In x1 (n0:Int)∧LQ σ NM (PD+x1.toNat*1) fun q17=>In x1 (n0:Int)∧AH prog (Instr.storeAt 106 (.pointer (aD NM (PD+x1.toNat*1))) (.pointer q13)) σ (fun _ y=>In x2 (n0:Int)∧AH prog (Instr.storeAt 106 (.pointer (aD NM (PD+x2.toNat*1))) (.pointer q17)) y (fun _ AE=>R (.T #[]) AE))):Spec prog 294 #[.slice p0 n0 c0,.I x1,.I x2] σ R:=M.start h ok
end BA
end TwW
end
end
section
set_option maxRecDepth 100000
noncomputable section
namespace TwW
open Go Tw Go.Proofs.Tryz
variable [Ei]{R:Rr}{σ:Hp}

namespace Vq
variable {p0 p1:Option Addr}{n0 c0 n1 c1:Nat}
def M:Fw:=⟨prog,15,f15,[27,33],[],false,[],[],[]⟩
def ok:M.Ok:=⟨.cons call27 (.cons call33 (AG.nil)),mixed,func15,by kernel_rfl⟩
def start (h:AL 33 #[.slice p0 n0 c0] σ R (fun z y=>∃Jd ANy AIZ,z=(.tuple #[.I Jd,.I ANy,.I AIZ])∧Br (AIZ≠0) (R (.returned (.I 220)) y) (Br (Jd=3) (R (.returned (.I 220)) y) (AL 27 #[.slice p1 n1 c1] y R (CI .i64 fun Cz AE=>Br (Cz≠0) (R (.returned (.I 224)) AE) (R (.returned (.I 0)) AE)))))):Spec prog 15 #[.slice p0 n0 c0,.slice p1 n1 c1] σ R:=M.start h ok
end Vq
namespace CN
variable {q0 p1 p4c F6 p6 p7 LH:Option Addr}{n1 c1 n4c c4c F7 GA n6 c6 n7 c7 n14 Il:Nat}{Gp Fy x15 x16:Int}
def M:Fw:=⟨prog,35,f35,[50],[4,9],false,[],[],[(488,[(0,wQ),(4,.X 84 [.I .i64,.I .u64,.L,.L]),(6,wL),(7,wL),(14,wL),(15,wI),(16,wI)])]⟩
def ok:M.Ok:=⟨.cons call50 (AG.nil),mixed,func35,by kernel_rfl⟩
def Eu:=M.pt 0
def start (h:∀b4:Nat,AL 50 #[] σ R (CS fun p13 n13 c13 y=>Eu R q0 0 0 none 0 0 none 0 0 p13 n13 c13 none 0 0 p1 n1 c1 (n1:Int) 0 y)):Spec prog 35 #[.pointer q0,.slice p1 n1 c1] σ R:=M.start h ok
def FE (h:Br (x16<x15) (Pq LH fun Vk di=>In x16 (n14:Int)∧∃Ph Wy pO pP pQ pR pS pT pU pV pW pX pY Ea,Av σ Vk (di+x16.toNat*10) [.I Ph,.I Wy,.string pO,.slice pP pQ pR,.I pS,.I pT,.I pU,.slice pV pW pX,.bool pY,.I Ea]∧∀b9:Nat,AM ((n7:Int)-Ea)∧Pq p6 fun Uh gR=>In Ph (n6:Int)∧∃v30,Hp.ld σ ⟨Uh,(gR+Ph.toNat*1),none⟩=some v30∧((0:Int)≤((n7:Int)-Ea)∧((n7:Int)-Ea)≤(n7:Int))∧(Al σ fun Ux=>(AH prog (Builtin.append_ #[120,120] 120 #[(.slice (aD Ux 0) 0 0),(.slice (Fe p7 (Int.toNat ((n7:Int)-Ea)) c7 4) (n7-Int.toNat ((n7:Int)-Ea)) (c7-Int.toNat ((n7:Int)-Ea)))]) (Hp.set σ Ux (.cells #[] 84 (0,0))) (CS fun Qv n37 Qw y=>Kp [Uh] (Hp.set σ Ux (.cells #[] 84 (0,0))) y∧(∃(f38:Nat) (G9 HA:Array Value),v30=.func (.func f38) G9 HA∧Enters prog f38∧Spec prog f38 (G9++#[.pointer q0,.agg #[.I Ph,.I Wy,.string pO,.slice pP pQ pR,.I pS,.I pT,.I pU,.slice pV pW pX,.bool pY,.I Ea],.slice Qv n37 Qw]++HA) y (Ap R (fun z AE=>∃KI KJ KK KL KM KO KQ KR Gu,z=(.tuple #[.agg #[.I KI,.U KJ,.slice KK KL KM,.slice KO KQ KR],.I Gu])∧Al AE fun A7=>AH prog (Instr.storeAt 84 (.pointer (aD A7 0)) (.agg #[.I KI,.U KJ,.slice KK KL KM,.slice KO KQ KR])) (Hp.set AE A7 (.cells #[.I 0,.U 0,.N,.N] 84 (0,0))) (fun _ AJ=>Br (Gu≠0) (R (.T #[.agg #[.I 0,.U 0,.N,.N],.I Gu]) AJ) (((0:Int)≤((n7:Int)-Ea)∧((n7:Int)-Ea)≤(c7:Int))∧∃NS NT NU NV NW NY NZ Na,Av AJ A7 0 [.I NS,.U NT,.slice NU NV NW,.slice NY NZ Na]∧Al AJ fun Vo=>AH prog (Builtin.append_ #[120,120] 120 #[(.slice p7 (Int.toNat ((n7:Int)-Ea)) c7),(.slice (aD Vo 0) 1 1)]) (Hp.set AJ Vo (.cells #[.I NS,.U NT,.slice NU NV NW,.slice NY NZ Na] 84 (0,0))) (CS fun dX n50 dY As=>AM (x16+1)∧Eu R q0 Gp Fy p4c n4c c4c F6 F7 GA (aD Uh gR) n6 c6 dX n50 dY (aD Vk di) n14 Il x15 (x16+1) As))))))∧(Al y fun A7=>∃(f38:Nat) (G9 HA:Array Value),v30=.func (.func f38) G9 HA∧Enters prog f38∧Spec prog f38 (G9++#[.pointer q0,.agg #[.I Ph,.I Wy,.string pO,.slice pP pQ pR,.I pS,.I pT,.I pU,.slice pV pW pX,.bool pY,.I Ea],.slice Qv n37 Qw]++HA) (Hp.set y A7 (.cells #[.I 0,.U 0,.N,.N] 84 (0,0))) (Ap R (fun z AE=>∃KI KJ KK KL KM KO KQ KR Gu,z=(.tuple #[.agg #[.I KI,.U KJ,.slice KK KL KM,.slice KO KQ KR],.I Gu])∧AH prog (Instr.storeAt 84 (.pointer (aD A7 0)) (.agg #[.I KI,.U KJ,.slice KK KL KM,.slice KO KQ KR])) AE (fun _ AJ=>Br (Gu≠0) (R (.T #[.agg #[.I 0,.U 0,.N,.N],.I Gu]) AJ) (((0:Int)≤((n7:Int)-Ea)∧((n7:Int)-Ea)≤(c7:Int))∧∃NS NT NU NV NW NY NZ Na,Av AJ A7 0 [.I NS,.U NT,.slice NU NV NW,.slice NY NZ Na]∧Al AJ fun Vo=>AH prog (Builtin.append_ #[120,120] 120 #[(.slice p7 (Int.toNat ((n7:Int)-Ea)) c7),(.slice (aD Vo 0) 1 1)]) (Hp.set AJ Vo (.cells #[.I NS,.U NT,.slice NU NV NW,.slice NY NZ Na] 84 (0,0))) (CS fun dX n50 dY As=>AM (x16+1)∧Eu R q0 Gp Fy p4c n4c c4c F6 F7 GA (aD Uh gR) n6 c6 dX n50 dY (aD Vk di) n14 Il x15 (x16+1) As))))))))∧(Al (Hp.set σ Ux (.cells #[] 84 (0,0))) fun A7=>AH prog (Builtin.append_ #[120,120] 120 #[(.slice (aD Ux 0) 0 0),(.slice (Fe p7 (Int.toNat ((n7:Int)-Ea)) c7 4) (n7-Int.toNat ((n7:Int)-Ea)) (c7-Int.toNat ((n7:Int)-Ea)))]) (Hp.set (Hp.set σ Ux (.cells #[] 84 (0,0))) A7 (.cells #[.I 0,.U 0,.N,.N] 84 (0,0))) (CS fun Qv n37 Qw y=>Kp [Uh] (Hp.set (Hp.set σ Ux (.cells #[] 84 (0,0))) A7 (.cells #[.I 0,.U 0,.N,.N] 84 (0,0))) y∧∃(f38:Nat) (G9 HA:Array Value),v30=.func (.func f38) G9 HA∧Enters prog f38∧Spec prog f38 (G9++#[.pointer q0,.agg #[.I Ph,.I Wy,.string pO,.slice pP pQ pR,.I pS,.I pT,.I pU,.slice pV pW pX,.bool pY,.I Ea],.slice Qv n37 Qw]++HA) y (Ap R (fun z AE=>∃KI KJ KK KL KM KO KQ KR Gu,z=(.tuple #[.agg #[.I KI,.U KJ,.slice KK KL KM,.slice KO KQ KR],.I Gu])∧AH prog (Instr.storeAt 84 (.pointer (aD A7 0)) (.agg #[.I KI,.U KJ,.slice KK KL KM,.slice KO KQ KR])) AE (fun _ AJ=>Br (Gu≠0) (R (.T #[.agg #[.I 0,.U 0,.N,.N],.I Gu]) AJ) (((0:Int)≤((n7:Int)-Ea)∧((n7:Int)-Ea)≤(c7:Int))∧∃NS NT NU NV NW NY NZ Na,Av AJ A7 0 [.I NS,.U NT,.slice NU NV NW,.slice NY NZ Na]∧Al AJ fun Vo=>AH prog (Builtin.append_ #[120,120] 120 #[(.slice p7 (Int.toNat ((n7:Int)-Ea)) c7),(.slice (aD Vo 0) 1 1)]) (Hp.set AJ Vo (.cells #[.I NS,.U NT,.slice NU NV NW,.slice NY NZ Na] 84 (0,0))) (CS fun dX n50 dY As=>AM (x16+1)∧Eu R q0 Gp Fy p4c n4c c4c F6 F7 GA (aD Uh gR) n6 c6 dX n50 dY (aD Vk di) n14 Il x15 (x16+1) As))))))))∧(Al σ fun A7=>Al (Hp.set σ A7 (.cells #[.I 0,.U 0,.N,.N] 84 (0,0))) fun Ux=>AH prog (Builtin.append_ #[120,120] 120 #[(.slice (aD Ux 0) 0 0),(.slice (Fe p7 (Int.toNat ((n7:Int)-Ea)) c7 4) (n7-Int.toNat ((n7:Int)-Ea)) (c7-Int.toNat ((n7:Int)-Ea)))]) (Hp.set (Hp.set σ A7 (.cells #[.I 0,.U 0,.N,.N] 84 (0,0))) Ux (.cells #[] 84 (0,0))) (CS fun Qv n37 Qw y=>Kp [Uh] (Hp.set (Hp.set σ A7 (.cells #[.I 0,.U 0,.N,.N] 84 (0,0))) Ux (.cells #[] 84 (0,0))) y∧∃(f38:Nat) (G9 HA:Array Value),v30=.func (.func f38) G9 HA∧Enters prog f38∧Spec prog f38 (G9++#[.pointer q0,.agg #[.I Ph,.I Wy,.string pO,.slice pP pQ pR,.I pS,.I pT,.I pU,.slice pV pW pX,.bool pY,.I Ea],.slice Qv n37 Qw]++HA) y (Ap R (fun z AE=>∃KI KJ KK KL KM KO KQ KR Gu,z=(.tuple #[.agg #[.I KI,.U KJ,.slice KK KL KM,.slice KO KQ KR],.I Gu])∧AH prog (Instr.storeAt 84 (.pointer (aD A7 0)) (.agg #[.I KI,.U KJ,.slice KK KL KM,.slice KO KQ KR])) AE (fun _ AJ=>Br (Gu≠0) (R (.T #[.agg #[.I 0,.U 0,.N,.N],.I Gu]) AJ) (((0:Int)≤((n7:Int)-Ea)∧((n7:Int)-Ea)≤(c7:Int))∧∃NS NT NU NV NW NY NZ Na,Av AJ A7 0 [.I NS,.U NT,.slice NU NV NW,.slice NY NZ Na]∧Al AJ fun Vo=>AH prog (Builtin.append_ #[120,120] 120 #[(.slice p7 (Int.toNat ((n7:Int)-Ea)) c7),(.slice (aD Vo 0) 1 1)]) (Hp.set AJ Vo (.cells #[.I NS,.U NT,.slice NU NV NW,.slice NY NZ Na] 84 (0,0))) (CS fun dX n50 dY As=>AM (x16+1)∧Eu R q0 Gp Fy p4c n4c c4c F6 F7 GA (aD Uh gR) n6 c6 dX n50 dY (aD Vk di) n14 Il x15 (x16+1) As)))))))) (Pq p7 fun LC xU=>In 0 (n7:Int)∧∃ng nh AId AIe AIf ni nj nq,Av σ LC xU [.I ng,.U nh,.slice AId AIe AIf,.slice ni nj nq]∧R (.T #[.agg #[.I ng,.U nh,.slice AId AIe AIf,.slice ni nj nq],.I 0]) σ)):Eu R q0 Gp Fy p4c n4c c4c F6 F7 GA p6 n6 c6 p7 n7 c7 LH n14 Il x15 x16 σ:=M.xN h ok rfl fun _=>by kernel_rfl
end CN
namespace A1
variable {p0 p1 Kz:Option Addr}{n0 c0 n1 c1 n11 LA:Nat}{v2:Value}{x12 E4:Int}
def M:Fw:=⟨prog,39,f39,[],[8,9],false,[],[],[(104,[(0,wL),(1,wL),(2,wV),(11,wL),(12,wI),(13,wI)])]⟩
def ok:M.Ok:=⟨AG.nil,mixed,func39,by kernel_rfl⟩
def II:=M.pt 0
def start (h:II R p0 n0 c0 p1 n1 c1 v2 p0 n0 c0 (n0:Int) 0 σ):Spec prog 39 #[.slice p0 n0 c0,.slice p1 n1 c1,v2] σ R:=M.CY h ok [(0,.o (.L p0 n0 c0)),(1,.o (.L p1 n1 c1)),(2,.o (.V v2))] rfl rfl (by kernel_rfl)
def A8 (h:Br (E4<x12) (Pq Kz fun Lx Wt=>In E4 (n11:Int)∧∃AIg AIh,Av σ Lx (Wt+E4.toNat*2) [.string AIg,.string AIh]∧∀b8:Nat,Br ((n1:Int)≤E4) (R (.returned (.I 1)) σ) (Pq p1 fun yG yH=>In E4 (n1:Int)∧∃AIi AIj,Av σ yG (yH+E4.toNat*2) [.string AIi,.string AIj]∧∀b9:Nat,∃(f29:Nat) (yi yj:Array Value),v2=.func (.func f29) yi yj∧Enters prog f29∧Spec prog f29 (yi++#[.agg #[.string AIg,.string AIh],.agg #[.string AIi,.string AIj]]++yj) σ (Ap R (CI .i64 fun x29 y=>Br (x29≠0) (R (.returned (.I x29)) y) (AM (E4+1)∧II R p0 n0 c0 (aD yG yH) n1 c1 v2 (aD Lx Wt) n11 LA x12 (E4+1) y))))) (Br ((n0:Int)<(n1:Int)) (R (.returned (.I (-1))) σ) (R (.returned (.I 0)) σ))):II R p0 n0 c0 p1 n1 c1 v2 Kz n11 LA x12 E4 σ:=M.of h ok rfl
end A1
namespace An
variable {s0:ByteArray}{x3 x4 x5 x6:Int}
def M:Fw:=⟨prog,65,f65,[],[],false,[],[],[(220,[(0,wT),(3,wI)]),(894,[(0,wT),(3,wI),(4,wI),(5,w8),(6,w8)]),(7164,[(0,wT),(3,wI),(4,wI),(5,w8),(6,w8)])]⟩
def ok:M.Ok:=⟨AG.nil,mixed,func65,by kernel_rfl⟩
def CZ:=M.pt 0
def Gz:=M.pt 1
def pZ:=M.pt 2
def start (h:CZ R s0 0 σ):Spec prog 65 #[.string s0] σ R:=M.start h ok
def BE (h:Br (x3=(s0.size:Int)) (R (.B true) σ) (∃LD:UInt8,0≤x3∧(ByteArray.data s0)[x3.toNat]?=some LD∧Br (((LD.toNat:Int):Int)<128) (AM (x3+1)∧CZ R s0 (x3+1) σ) (Br ((194:Int)≤(LD.toNat:Int)) (Br (((LD.toNat:Int):Int)≤223) (Gz R s0 x3 1 128 191 σ) (Br ((224:Int)≤(LD.toNat:Int)) (Br (((LD.toNat:Int):Int)≤239) (Br (((LD.toNat:Int):Int)=224) (Gz R s0 x3 2 160 191 σ) (Br (((LD.toNat:Int):Int)=237) (Gz R s0 x3 2 128 159 σ) (Gz R s0 x3 2 128 191 σ))) (Br ((240:Int)≤(LD.toNat:Int)) (Br (((LD.toNat:Int):Int)≤244) (Br (((LD.toNat:Int):Int)=240) (Gz R s0 x3 3 144 191 σ) (Br (((LD.toNat:Int):Int)=244) (Gz R s0 x3 3 128 143 σ) (Gz R s0 x3 3 128 191 σ))) (R (.B false) σ)) (R (.B false) σ))) (Br ((240:Int)≤(LD.toNat:Int)) (Br (((LD.toNat:Int):Int)≤244) (Br (((LD.toNat:Int):Int)=240) (Gz R s0 x3 3 144 191 σ) (Br (((LD.toNat:Int):Int)=244) (Gz R s0 x3 3 128 143 σ) (Gz R s0 x3 3 128 191 σ))) (R (.B false) σ)) (R (.B false) σ)))) (Br ((224:Int)≤(LD.toNat:Int)) (Br (((LD.toNat:Int):Int)≤239) (Br (((LD.toNat:Int):Int)=224) (Gz R s0 x3 2 160 191 σ) (Br (((LD.toNat:Int):Int)=237) (Gz R s0 x3 2 128 159 σ) (Gz R s0 x3 2 128 191 σ))) (Br ((240:Int)≤(LD.toNat:Int)) (Br (((LD.toNat:Int):Int)≤244) (Br (((LD.toNat:Int):Int)=240) (Gz R s0 x3 3 144 191 σ) (Br (((LD.toNat:Int):Int)=244) (Gz R s0 x3 3 128 143 σ) (Gz R s0 x3 3 128 191 σ))) (R (.B false) σ)) (R (.B false) σ))) (Br ((240:Int)≤(LD.toNat:Int)) (Br (((LD.toNat:Int):Int)≤244) (Br (((LD.toNat:Int):Int)=240) (Gz R s0 x3 3 144 191 σ) (Br (((LD.toNat:Int):Int)=244) (Gz R s0 x3 3 128 143 σ) (Gz R s0 x3 3 128 191 σ))) (R (.B false) σ)) (R (.B false) σ)))))):CZ R s0 x3 σ:=M.of h ok rfl
def vD (h:AM (x3+1)∧pZ R s0 (x3+1) x4 x5 x6 σ):Gz R s0 x3 x4 x5 x6 σ:=M.of h ok rfl
def gX (h:Br (x4=0) (CZ R s0 x3 σ) (Br (x3=(s0.size:Int)) (R (.B false) σ) (∃u60:UInt8,0≤x3∧(ByteArray.data s0)[x3.toNat]?=some u60∧Br (((u60.toNat:Int):Int)<x5) (R (.B false) σ) (∃u67:UInt8,0≤x3∧(ByteArray.data s0)[x3.toNat]?=some u67∧Br (x6<(u67.toNat:Int)) (R (.B false) σ) (AM (x4-1)∧AM (x3+1)∧pZ R s0 (x3+1) (x4-1) 128 191 σ))))):pZ R s0 x3 x4 x5 x6 σ:=M.of h ok rfl
end An
namespace Cv
noncomputable def K0:=f66.body.getD .skip
def K1:=cl K0
def K2:=cl K1
def K3:=cl K2
def K4:=cl K3
def K5:=cr K3
def K6:=cl K5
def K7:=cl K6
def K8:=cr K6
def K9:=cl K8
def lK:=cr K8
def si:=cr K5
def uD:=cl si
def sj:=cr si
abbrev gl (R:Rr):Gl:=Gl.fn prog 66 23 R
def pt4 (R:Rr)(v0:Value)(x1:Int)(σ:Hp):Prop:=∀(J:Env),At (gl R) [.code K4,.code K5,.inBlock 1,.inLoop K2,.inBlock 0] (Hd J [(0,v0),(1,(.I x1))]) [] σ
def start {R:Rr}{v0:Value}{x1:Int}{σ:Hp}(h:AM (x1-1)∧2≠(0:Int)∧∀x7:Int,x7=IntKind.i64.wrap (Int.tdiv (x1-1) 2)→((x7:Int)=x1→R (.T #[]) σ)∧(¬((x7:Int)=x1)→MC prog v0 QF #[(.I x1),(.I x7)] σ (Ap R (fun v σ1=>∃t15:Bool,v=(.bool t15)∧(t15=false→R (.T #[]) σ1)∧(t15=true→MC prog v0 NA #[(.I x7),(.I x1)] σ1 (Ap R (fun Uf A3=>Uf=(.tuple #[])∧pt4 R v0 x7 A3))))))):Spec prog 66 #[v0,(.I x1)] σ R:=by
 refine Spec.RW (fn:=f66) (c:=K0) func66 (by kernel_rfl) (AXZ (by kernel_rfl)) (fun e he=>?_);refine At.ofL (l:=[(0,v0),(1,(.I x1))]) ⟨he 0,he 1,trivial⟩ (fun J=>?_);show At (gl R) _ _ _ _
 refine At.b 0 K1 ?_;refine At.loop (x:=K2) (by kernel_rfl) ?_;refine At.b 1 K3 ?_;refine At.s K4 K5 ?_;refine At.rg 0 [0,1,2,3] ?_;refine Seq.u 5 (.I x1) ?_;obtain⟨hi,h⟩:=h;refine Seq.z 6 (.binOp .sub 3 (.tmp 5) (.const (.I 1)) 3) 3 (.I (x1-1)) (Y.iu hi rfl rfl) ?_;obtain⟨hc,h⟩:=h;obtain⟨x7,pc⟩:∃y,y=IntKind.i64.wrap (Int.tdiv (x1-1) 2):=⟨_,rfl⟩
 replace h:=h x7 pc
 refine Seq.y (d:=(some 7)) (op:=(.binOp .quo 3 (.tmp 6) (.const (.I 2)) 3)) (ty:=3) (v:=(.I x7)) (by kernel_rfl) rfl (pc▸Y.quo hc rfl rfl) ?_;refine Seq.u 4 (.I x7) (Seq.done ?_);refine At.s K6 si (At.s K7 K8 ?_);refine At.rg 1 [0,1,2,3,4,5,6,7,8,9] ?_;refine Seq.us [(8,.I x7),(9,.I x1),(10,.bool (decide ((x7:Int)=x1))),(11,.bool (decide ((x7:Int)=x1)))] ?_;cases hb:(decide ((x7:Int)=x1)) with
 | true=>
  replace h:=h.1 (AWr hb)
  refine Seq.n 12 ?_;refine Seq.n 13 ?_;refine Seq.n 14 ?_;refine Seq.n 15 ?_;refine Seq.n 16 ?_;refine Seq.u 17 (.bool true) (Seq.done ?_);refine At.cT 17 K9 lK ?_;refine At.x 0 [] ?_;exact At.Xo (rs:=[]) (vs:=[]) func66 (by kernel_rfl) rfl h
 | false=>
  replace h:=h.2 (AW2 hb)
  refine Seq.us [(12,v0),(13,.I x1),(14,.I x7)] ?_;refine Seq.o ?_;refine AI.inv (g:=(gl R)) (u:=v0) (vs:=#[(.I x1),(.I x7)]) (name:=QF) (d:=(some 15)) (x:=(.tmp 12)) (xs:=#[(.tmp 13),(.tmp 14)]) (ts:=#[3,3]) (ty:=4) (gd:=(some (3,false))) (by kernel_rfl) rfl rfl rfl rfl (h.cont (fun v σ1 h2=>?_));replace h:=h2;clear h2;obtain⟨t15,rfl,h⟩:=h;refine Seq.us [(16,.bool (!t15)),(17,.bool (!t15))] (Seq.done ?_);cases hb:(!t15) with
  | true=>
   replace h:=h.1 (Tw.nt hb)
   refine At.cT 17 K9 lK ?_;refine At.x 0 [] ?_;exact At.Xo (rs:=[]) (vs:=[]) func66 (by kernel_rfl) rfl h
  | false=>
   replace h:=h.2 (Tw.nf hb)
   refine At.cF 17 K9 lK ?_;refine At.skip ?_;refine At.s uD sj ?_;refine At.rg 2 [0,1,2,3] ?_;refine Seq.us [(18,v0),(19,.I x7),(20,.I x1)] ?_;refine Seq.o ?_;refine AI.inv (g:=(gl R)) (u:=v0) (vs:=#[(.I x7),(.I x1)]) (name:=NA) (d:=(some 21)) (x:=(.tmp 18)) (xs:=#[(.tmp 19),(.tmp 20)]) (ts:=#[3,3]) (ty:=0) (gd:=none) (by kernel_rfl) rfl rfl rfl rfl (h.cont (fun Uf A3 h2=>?_));replace h:=h2;clear h2;obtain⟨rfl,h⟩:=h;refine Seq.done ?_;refine At.rg 3 [0,1] ?_;refine Seq.us [(22,.I x7),(1,.I x7)] (Seq.done ?_);refine At.inBlock ?_;refine At.inLoop ?_;refine At.b 1 K3 ?_;refine At.s K4 K5 ?_;exact At.v [(0,v0),(1,(.I x7))] (h _)
def ABn {R:Rr}{v0:Value}{x1:Int}{σ:Hp}(h:AM (x1-1)∧2≠(0:Int)∧∀x7:Int,x7=IntKind.i64.wrap (Int.tdiv (x1-1) 2)→((x7:Int)=x1→R (.T #[]) σ)∧(¬((x7:Int)=x1)→MC prog v0 QF #[(.I x1),(.I x7)] σ (Ap R (fun v σ1=>∃t15:Bool,v=(.bool t15)∧(t15=false→R (.T #[]) σ1)∧(t15=true→MC prog v0 NA #[(.I x7),(.I x1)] σ1 (Ap R (fun Uf A3=>Uf=(.tuple #[])∧pt4 R v0 x7 A3))))))):pt4 R v0 x1 σ:=by
 intro J;show At (gl R) _ _ _ _
 refine At.rg 0 [0,1,2,3] ?_;refine Seq.u 5 (.I x1) ?_;obtain⟨hi,h⟩:=h;refine Seq.z 6 (.binOp .sub 3 (.tmp 5) (.const (.I 1)) 3) 3 (.I (x1-1)) (Y.iu hi rfl rfl) ?_;obtain⟨hc,h⟩:=h;obtain⟨x7,pc⟩:∃y,y=IntKind.i64.wrap (Int.tdiv (x1-1) 2):=⟨_,rfl⟩
 replace h:=h x7 pc
 refine Seq.y (d:=(some 7)) (op:=(.binOp .quo 3 (.tmp 6) (.const (.I 2)) 3)) (ty:=3) (v:=(.I x7)) (by kernel_rfl) rfl (pc▸Y.quo hc rfl rfl) ?_;refine Seq.u 4 (.I x7) (Seq.done ?_);refine At.s K6 si (At.s K7 K8 ?_);refine At.rg 1 [0,1,2,3,4,5,6,7,8,9] ?_;refine Seq.us [(8,.I x7),(9,.I x1),(10,.bool (decide ((x7:Int)=x1))),(11,.bool (decide ((x7:Int)=x1)))] ?_;cases hb:(decide ((x7:Int)=x1)) with
 | true=>
  replace h:=h.1 (AWr hb)
  refine Seq.n 12 ?_;refine Seq.n 13 ?_;refine Seq.n 14 ?_;refine Seq.n 15 ?_;refine Seq.n 16 ?_;refine Seq.u 17 (.bool true) (Seq.done ?_);refine At.cT 17 K9 lK ?_;refine At.x 0 [] ?_;exact At.Xo (rs:=[]) (vs:=[]) func66 (by kernel_rfl) rfl h
 | false=>
  replace h:=h.2 (AW2 hb)
  refine Seq.us [(12,v0),(13,.I x1),(14,.I x7)] ?_;refine Seq.o ?_;refine AI.inv (g:=(gl R)) (u:=v0) (vs:=#[(.I x1),(.I x7)]) (name:=QF) (d:=(some 15)) (x:=(.tmp 12)) (xs:=#[(.tmp 13),(.tmp 14)]) (ts:=#[3,3]) (ty:=4) (gd:=(some (3,false))) (by kernel_rfl) rfl rfl rfl rfl (h.cont (fun v σ1 h2=>?_));replace h:=h2;clear h2;obtain⟨t15,rfl,h⟩:=h;refine Seq.us [(16,.bool (!t15)),(17,.bool (!t15))] (Seq.done ?_);cases hb:(!t15) with
  | true=>
   replace h:=h.1 (Tw.nt hb)
   refine At.cT 17 K9 lK ?_;refine At.x 0 [] ?_;exact At.Xo (rs:=[]) (vs:=[]) func66 (by kernel_rfl) rfl h
  | false=>
   replace h:=h.2 (Tw.nf hb)
   refine At.cF 17 K9 lK ?_;refine At.skip ?_;refine At.s uD sj ?_;refine At.rg 2 [0,1,2,3] ?_;refine Seq.us [(18,v0),(19,.I x7),(20,.I x1)] ?_;refine Seq.o ?_;refine AI.inv (g:=(gl R)) (u:=v0) (vs:=#[(.I x7),(.I x1)]) (name:=NA) (d:=(some 21)) (x:=(.tmp 18)) (xs:=#[(.tmp 19),(.tmp 20)]) (ts:=#[3,3]) (ty:=0) (gd:=none) (by kernel_rfl) rfl rfl rfl rfl (h.cont (fun Uf A3 h2=>?_));replace h:=h2;clear h2;obtain⟨rfl,h⟩:=h;refine Seq.done ?_;refine At.rg 3 [0,1] ?_;refine Seq.us [(22,.I x7),(1,.I x7)] (Seq.done ?_);refine At.inBlock ?_;refine At.inLoop ?_;refine At.b 1 K3 ?_;refine At.s K4 K5 ?_;exact At.v [(0,v0),(1,(.I x7))] (h _)
end Cv
namespace Bt
variable {q0 Dl D6 p2:Option Addr}{Dc Cp Dd Dm DO Cs:Int}{De:ByteArray}{Dn Dp Dq D7 n2 c2:Nat}{DP:Bool}
def M:Fw:=⟨prog,75,f75,[98],[4,6],false,[],[],[]⟩
def ok:M.Ok:=⟨.cons call98 (AG.nil),mixed,func75,by kernel_rfl⟩
def start (h:∀b4:Nat,∀b6:Nat,AL 98 #[.string De] σ R (fun z y=>∃pM AN0,z=(.tuple #[.U pM,.bool AN0])∧R (.T #[.agg #[.I 1,.U pM,.N,.N],.I 0]) y)):Spec prog 75 #[.pointer q0,.agg #[.I Dc,.I Cp,.string De,.slice Dl Dn Dp,.I Dd,.I Dm,.I DO,.slice D6 Dq D7,.bool DP,.I Cs],.slice p2 n2 c2] σ R:=M.start h ok
end Bt
namespace Tc
variable {x0 x1:Int}
def M:Fw:=⟨prog,92,f92,[],[],false,[],[],[]⟩
def ok:M.Ok:=⟨AG.nil,mixed,func92,by kernel_rfl⟩
def start (h:Br (x1≤x0) (R (.returned (.bool (decide (x0<2147483648)))) σ) (R (.B false) σ)):Spec prog 92 #[.I x0,.I x1] σ R:=M.start h ok
end Tc
namespace Td
variable {x0:Int}
def M:Fw:=⟨prog,97,f97,[],[],false,[],[],[]⟩
def ok:M.Ok:=⟨AG.nil,mixed,func97,by kernel_rfl⟩
def start (h:Br (11≤x0) (R (.returned (.bool (decide (x0≤13)))) σ) (R (.B false) σ)):Spec prog 97 #[.I x0] σ R:=M.start h ok
end Td
namespace QT
variable {p0:Option Addr}{n0 c0:Nat}{x1 x2:Int}
def M:Fw:=⟨prog,99,f99,[127],[],false,[],[],[]⟩
def ok:M.Ok:=⟨.cons call127 (AG.nil),mixed,func99,by kernel_rfl⟩
def start (h:AL 127 #[.slice p0 n0 c0,.I x1,(.func (.func 128) #[] #[])] σ R (fun z y=>∃Hq AN1,z=(.tuple #[.I Hq,.bool AN1])∧AL 127 #[.slice p0 n0 c0,.I x2,(.func (.func 129) #[] #[])] y R (fun z AE=>∃JI AN2,z=(.tuple #[.I JI,.bool AN2])∧((0:Int)≤(if JI<Hq then JI else Hq)∧(if JI<Hq then JI else Hq)≤JI∧JI≤(c0:Int))∧R (.returned (.slice (Fe p0 (Int.toNat (if JI<Hq then JI else Hq)) c0 2) (JI.toNat-Int.toNat (if JI<Hq then JI else Hq)) (c0-Int.toNat (if JI<Hq then JI else Hq)))) AE))):Spec prog 99 #[.slice p0 n0 c0,.I x1,.I x2] σ R:=M.start h ok
end QT
namespace Im
variable {x0:Int}
def M:Fw:=⟨prog,103,f103,[126,134,135],[],false,[],[],[]⟩
def ok:M.Ok:=⟨.cons call126 (.cons call134 (.cons call135 (AG.nil))),mixed,func103,by kernel_rfl⟩
def start (h:AL 134 #[.U x0] σ R (fun z y=>∃x4,(Value.float .f64 x4)=z∧AL 135 #[(Value.float .f64 x4)] y R (fun z AE=>∃x5,(Value.float .f64 x5)=z∧AL 126 #[(Value.float .f64 x5)] AE R (CI .u64 fun x6 AJ=>R (.returned (.U x6)) AJ)))):Spec prog 103 #[.U x0] σ R:=M.start h ok
end Im
namespace Vr
variable {p0:Option Addr}{n0 c0:Nat}
def M:Fw:=⟨prog,104,f104,[108],[],false,[],[],[]⟩
def ok:M.Ok:=⟨.cons call108 (AG.nil),mixed,func104,by kernel_rfl⟩
def start (h:Al σ fun b4=>AL 108 #[.slice p0 n0 c0,(.slice (aD b4 0) 1 1)] (Hp.set σ b4 (.cells #[(.string (ByteArray.mk #[95,95,110,97,109,101,95,95]))] 9 (0,0))) R (CS fun p5 n5 c5 y=>R (.returned (.slice p5 n5 c5)) y)):Spec prog 104 #[.slice p0 n0 c0] σ R:=M.start h ok
end Vr
namespace KS
def M:Fw:=⟨prog,105,f105,[136,140],[],false,[],[],[]⟩
def ok:M.Ok:=⟨.cons call136 (.cons call140 (AG.nil)),mixed,func105,by kernel_rfl⟩
def start (h:AL 136 #[(.func (.func 109) #[] #[])] σ R (fun z y=>∃f1 a1 c1,(Value.func f1 a1 c1)=z∧AL 136 #[(.func (.func 112) #[] #[])] y R (fun z AE=>∃f2 a2 c2,(Value.func f2 a2 c2)=z∧AL 136 #[(.func (.func 110) #[] #[])] AE R (fun z AJ=>∃f3 a3 c3,(Value.func f3 a3 c3)=z∧AL 136 #[(.func (.func 111) #[] #[])] AJ R (fun z As=>∃f4 a4 c4,(Value.func f4 a4 c4)=z∧AL 136 #[(.func (.func 113) #[] #[])] As R (fun z JY=>∃f5 a5 c5,(Value.func f5 a5 c5)=z∧AL 136 #[(.func (.func 137) #[] #[])] JY R (fun z Uw=>∃f6 a6 c6,(Value.func f6 a6 c6)=z∧AL 136 #[(.func (.func 139) #[] #[])] Uw R (fun z ug=>∃f7 a7 c7,(Value.func f7 a7 c7)=z∧AL 140 #[(.func (.func 141) #[] #[])] ug R (fun z oh=>∃f8 a8 c8,(Value.func f8 a8 c8)=z∧AL 140 #[(.func (.func 143) #[] #[])] oh R (fun z y_9=>∃f9 a9 c9,(Value.func f9 a9 c9)=z∧AL 140 #[(.func (.func 145) #[] #[])] y_9 R (fun z uo=>∃f10 a10 NI,(Value.func f10 a10 NI)=z∧Al uo fun A7=>R (.returned (.slice (aD A7 0) 11 11)) (Hp.set uo A7 (.cells #[.nilFunc,(Value.func f10 a10 NI),(Value.func f9 a9 c9),(Value.func f8 a8 c8),(Value.func f1 a1 c1),(Value.func f2 a2 c2),(Value.func f3 a3 c3),(Value.func f4 a4 c4),(Value.func f5 a5 c5),(Value.func f6 a6 c6),(Value.func f7 a7 c7)] 174 (0,0)))))))))))))):Spec prog 105 #[] σ R:=M.start h ok
end KS
namespace EB
variable {p0 p2c p2d:Option Addr}{n0 c0 n2c c2c n2d c2d:Nat}{x2a x2b x4:Int}
def M:Fw:=⟨prog,106,f106,[22,147],[2],false,[],[],[(464,[(0,wL),(2,.X 84 [.I .i64,.I .u64,.L,.L]),(4,wI)])]⟩
def ok:M.Ok:=⟨.cons call22 (.cons call147 (AG.nil)),mixed,func106,by kernel_rfl⟩
def CZ:=M.pt 0
def start (h:∀b2:Nat,AL 147 #[.slice p0 n0 c0,(.func (.func 148) #[] #[])] σ R (fun z y=>z=(.tuple #[])∧CZ R p0 n0 c0 0 0 none 0 0 none 0 0 1 y)):Spec prog 106 #[.slice p0 n0 c0] σ R:=M.start h ok
def BE (h:Br (x4<(n0:Int)) (AM (x4-1)∧Pq p0 fun Lx Wt=>In (x4-1) (n0:Int)∧LS σ Lx (Wt+Int.toNat (x4-1)*2) fun p18 n18 c18=>In x4 (n0:Int)∧LS σ Lx (Wt+x4.toNat*2) fun Us n23 RG=>AL 22 #[.slice p18 n18 c18,.slice Us n23 RG] σ R (CI .i64 fun HS y=>Br (HS=0) (R (.T #[.agg #[.I 0,.U 0,.N,.N],.I 223]) y) (AM (x4+1)∧CZ R (aD Lx Wt) n0 c0 x2a x2b p2c n2c c2c p2d n2d c2d (x4+1) y))) (R (.T #[.agg #[.I 2,.U 0,.slice p0 n0 c0,.N],.I 0]) σ)):CZ R p0 n0 c0 x2a x2b p2c n2c c2c p2d n2d c2d x4 σ:=M.xN h ok rfl fun _=>by kernel_rfl
end EB
namespace Gf
variable {s0:ByteArray}{x3:Int}
def M:Fw:=⟨prog,122,f122,[160],[],false,[],[],[(224,[(0,wT),(3,wI)])]⟩
def ok:M.Ok:=⟨.cons call160 (AG.nil),mixed,func122,by kernel_rfl⟩
def Ho:=M.pt 0
def start (h:Ho R s0 0 σ):Spec prog 122 #[.string s0] σ R:=M.start h ok
def BJ (h:Br (x3<(s0.size:Int)) (∃u11:UInt8,0≤x3∧(ByteArray.data s0)[x3.toNat]?=some u11∧AL 160 #[(.int .u8 (u11.toNat:Int))] σ R (CB fun t12 y=>Bo t12 (AM (x3+1)∧Ho R s0 (x3+1) y) (R (.returned (.I x3)) y))) (R (.returned (.I x3)) σ)):Ho R s0 x3 σ:=M.of h ok rfl
end Gf
namespace CR
variable {f0:Fn}{a0 c0:Array Value}
def M:Fw:=⟨prog,136,f136,[],[],false,[],[],[]⟩
def ok:M.Ok:=⟨AG.nil,mixed,func136,by kernel_rfl⟩
def start (h:Al σ fun b1=>R (.returned (.func (.func 173) #[] #[(.pointer (aD b1 0))])) (Hp.set σ b1 (.cells #[(Value.func f0 a0 c0)] 180 (0,0)))):Spec prog 136 #[(Value.func f0 a0 c0)] σ R:=M.CY h ok [(0,.o (.V (Value.func f0 a0 c0)))] rfl rfl (by kernel_rfl)
end CR
namespace DK
variable {p0 p1:Option Addr}{n0 c0 n1 c1:Nat}
def M:Fw:=⟨prog,141,f141,[142],[],false,[],[],[]⟩
def ok:M.Ok:=⟨.cons call142 (AG.nil),mixed,func141,by kernel_rfl⟩
def start (h:AM ((n0:Int)-1)∧Pq p0 fun b9 o9=>In (((n0:Int)-1)) (n0:Int)∧LI .u64 σ b9 (o9+Int.toNat ((n0:Int)-1)*1) fun x10=>In 0 (n0:Int)∧LI .u64 σ b9 o9 fun E4=>AL 142 #[.U x10,.U E4] σ R (CI .u64 fun U0 y=>R (.returned (.U U0)) y)):Spec prog 141 #[.slice p0 n0 c0,.slice p1 n1 c1] σ R:=M.start h ok
end DK
namespace Du
variable {p0:Option Addr}{n0 c0:Nat}{x3 x4:Int}
def M:Fw:=⟨prog,144,f144,[142,153,156],[],false,[],[],[(464,[(0,wL),(3,wU),(4,wI)]),(467,[(0,wL),(3,wU),(4,wI)])]⟩
def ok:M.Ok:=⟨.cons call142 (.cons call153 (.cons call156 (AG.nil))),mixed,func144,by kernel_rfl⟩
def CZ:=M.pt 0
def Yw:=M.pt 1
def start (h:AM ((n0:Int)-1)∧Pq p0 fun A7 Xh=>In (((n0:Int)-1)) (n0:Int)∧LI .u64 σ A7 (Xh+Int.toNat ((n0:Int)-1)*1) fun x12=>In 0 (n0:Int)∧LI .u64 σ A7 Xh fun x15=>AL 142 #[.U x12,.U x15] σ R (CI .u64 fun x16 y=>CZ R (aD A7 Xh) n0 c0 x16 1 y)):Spec prog 144 #[.slice p0 n0 c0] σ R:=M.start h ok
def BE (h:Br (x4<(n0:Int)) (Pq p0 fun dH su=>In x4 (n0:Int)∧LI .u64 σ dH (su+x4.toNat*1) fun Ja=>AM (x4-1)∧In (x4-1) (n0:Int)∧LI .u64 σ dH (su+Int.toNat (x4-1)*1) fun nM=>AL 156 #[.I 7,.U Ja,.U nM] σ R (fun z y=>∃AIk pL,z=(.tuple #[.bool AIk,.bool pL])∧Bo AIk (AM (x4-1)∧In (x4-1) (n0:Int)∧LI .u64 y dH (su+Int.toNat (x4-1)*1) fun Ya=>AL 153 #[.U x3,.U Ya] y R (CI .u64 fun gV AE=>Yw R (aD dH su) n0 c0 gV x4 AE)) (Yw R (aD dH su) n0 c0 x3 x4 y))) (R (.returned (.U x3)) σ)):CZ R p0 n0 c0 x3 x4 σ:=M.of h ok rfl
def RL (h:AM (x4+1)∧CZ R p0 n0 c0 x3 (x4+1) σ):Yw R p0 n0 c0 x3 x4 σ:=M.of h ok rfl
end Du
namespace Yx
variable {x0 x1:Int}
def M:Fw:=⟨prog,146,f146,[155],[],false,[],[],[]⟩
def ok:M.Ok:=⟨.cons call155 (AG.nil),mixed,func146,by kernel_rfl⟩
def start (h:AL 155 #[.I 4,.U x0,.U x1] σ R (fun z y=>∃Jd SO,z=(.tuple #[.U Jd,.bool SO])∧R (.returned (.U Jd)) y)):Spec prog 146 #[.U x0,.U x1] σ R:=M.start h ok
end Yx
namespace JB
variable {xl bR:ByteArray}{b1:Nat}
def M:Fw:=⟨prog,152,f152,[151],[2],false,[],[],[]⟩
def ok:M.Ok:=⟨.cons call151 (AG.nil),mixed,func152,by kernel_rfl⟩
def start (h:∀b2:Nat,LS σ b1 0 fun p4 n4 c4=>AL 151 #[.slice p4 n4 c4,.string xl] σ R (CB fun t7 y=>R (.returned (.bool (!t7))) y)):Spec prog 152 #[.agg #[.string xl,.string bR],(.pointer (aD b1 0))] σ R:=M.start h ok
end JB
namespace gY
variable {Em ES Qr NF HT I5:Int}{Qt:ByteArray}{Vi R9 p1:Option Addr}{Uv Vj RI SA n1 c1:Nat}{Mb:Bool}
def M:Fw:=⟨prog,159,f159,[104,107,108],[2],false,[],[],[]⟩
def ok:M.Ok:=⟨.cons call104 (.cons call107 (.cons call108 (AG.nil))),mixed,func159,by kernel_rfl⟩
def start (h:∀b2:Nat,Br (HT=3) (AL 107 #[.slice p1 n1 c1,.slice R9 RI SA] σ R (CS fun Kz n11 LA y=>R (.returned (.slice Kz n11 LA)) y)) (AL 108 #[.slice p1 n1 c1,.slice R9 RI SA] σ R (CS fun SD n15 QM y=>AL 104 #[.slice SD n15 QM] y R (CS fun Mv n16 Ln AE=>R (.returned (.slice Mv n16 Ln)) AE)))):Spec prog 159 #[.agg #[.I Em,.I ES,.string Qt,.slice Vi Uv Vj,.I Qr,.I NF,.I HT,.slice R9 RI SA,.bool Mb,.I I5],.slice p1 n1 c1] σ R:=M.start h ok
end gY
namespace Eb
variable {U1:Option Addr}{Lz SM:Nat}{bR s1:ByteArray}
def M:Fw:=⟨prog,166,f166,[],[2],false,[],[],[]⟩
def ok:M.Ok:=⟨AG.nil,mixed,func166,by kernel_rfl⟩
def start (h:∀b2:Nat,R (.returned (.bool (!(ByteArray.toList s1==ByteArray.toList bR)))) σ):Spec prog 166 #[.agg #[.slice U1 Lz SM,.string bR],.string s1] σ R:=M.start h ok
end Eb
namespace Ht
variable {p0 p5:Option Addr}{n0 c0 n5 c5:Nat}{x1 x7:Int}{v6:Value}
def M:Fw:=⟨prog,189,f189,[134,209],[],false,[],[],[(444,[(0,wL),(1,wI),(5,wL),(6,wV),(7,wI)])]⟩
def ok:M.Ok:=⟨.cons call134 (.cons call209 (AG.nil)),mixed,func189,by kernel_rfl⟩
def vE:=M.pt 0
def start (h:AL 209 #[] σ R (CS fun SC n10 NI y=>vE R p0 n0 c0 x1 SC n10 NI (.complex .f64 0 0) 0 y)):Spec prog 189 #[.slice p0 n0 c0,.I x1] σ R:=M.start h ok
def gZ (h:Br (x7=(n0:Int)) (R (.returned v6) σ) (Pq p0 fun Vk di=>In x7 (n0:Int)∧LI .u64 σ Vk (di+x7.toNat*1) fun Dg=>AM (x1*x7)∧(n0:Int)≠(0:Int)∧Df (Int.tmod (x1*x7) (n0:Int)) fun Ja=>(n0:Int)≠(0:Int)∧Df (IntKind.i64.wrap (Int.tdiv 8 (n0:Int))) fun Vp=>AM (Ja*Vp)∧Pq p5 fun b32 o32=>In (Ja*Vp) (n5:Int)∧∃x33 y33,Hp.ld σ ⟨b32,(o32+Int.toNat (Ja*Vp)*1),none⟩=some (Value.complex .f64 x33 y33)∧AL 134 #[.U Dg] σ R (fun z y=>∃HO,(Value.float .f64 HO)=z∧Kp [b32] σ y∧∃Xf,YF prog (Builtin.real_ #[248] 40 #[v6]) y (Value.float .f64 Xf)∧∃bM,YF prog (Builtin.real_ #[248] 40 #[(Value.complex .f64 x33 y33)]) y (Value.float .f64 bM)∧AH prog (binOp .mul 40 (Value.float .f64 HO) (Value.float .f64 bM)) y (fun z AE=>∃xX,(Value.float .f64 xX)=z∧AH prog (binOp .add 40 (Value.float .f64 Xf) (Value.float .f64 xX)) AE (fun z AJ=>∃tD,(Value.float .f64 tD)=z∧∃Ya,YF prog (Builtin.imag_ #[248] 40 #[v6]) AJ (Value.float .f64 Ya)∧∃x45,YF prog (Builtin.imag_ #[248] 40 #[(Value.complex .f64 x33 y33)]) AJ (Value.float .f64 x45)∧AH prog (binOp .mul 40 (Value.float .f64 HO) (Value.float .f64 x45)) AJ (fun z As=>∃x46,(Value.float .f64 x46)=z∧AH prog (binOp .add 40 (Value.float .f64 Ya) (Value.float .f64 x46)) As (fun z JY=>∃nJ,(Value.float .f64 nJ)=z∧∃Wn y48,YF prog (Builtin.complex_ #[40,40] 248 #[(Value.float .f64 tD),(Value.float .f64 nJ)]) JY (Value.complex .f64 Wn y48)∧AM (x7+1)∧vE R (aD Vk di) n0 c0 x1 (aD b32 o32) n5 c5 (Value.complex .f64 Wn y48) (x7+1) JY))))))):vE R p0 n0 c0 x1 p5 n5 c5 v6 x7 σ:=M.of h ok rfl
end Ht
namespace Ak
variable {s0:ByteArray}{x5 x6 x12 x7:Int}{t13 t16 t19:Bool}
def M:Fw:=⟨prog,213,f213,[236,237,238],[],false,[],[],[(128001,[(0,wT),(5,wI),(6,wI),(12,w8),(13,wB)]),(256005,[(0,wT),(5,wI),(6,wI),(12,w8),(16,wB)]),(8004,[(0,wT),(5,wI),(6,wI)]),(256007,[(0,wT),(19,wB)]),(126,[]),(32022,[(5,wI),(6,wI),(7,wI)]),(32006,[(0,wT),(5,wI)])]⟩
def ok:M.Ok:=⟨.cons call236 (.cons call237 (.cons call238 (AG.nil))),mixed,func213,by kernel_rfl⟩
def ABo:=M.pt 0
def ABp:=M.pt 1
def AN6:=M.pt 2
def Yc:=M.pt 3
def ABq:=M.pt 4
def AIl:=M.pt 6
def start (h:Br (((s0.size:Int):Int)=0) (R (.T #[.float .f64 0,.I 0,.bool false]) σ) (∃u12:UInt8,(0:Int)≤0∧(ByteArray.data s0)[Int.toNat 0]?=some u12∧Br (((u12.toNat:Int):Int)=43) (ABo R s0 1 0 ((u12.toNat:Int)) true σ) (ABo R s0 1 0 ((u12.toNat:Int)) ((decide (((u12.toNat:Int):Int)=45))) σ))):Spec prog 213 #[.string s0] σ R:=M.start h ok
def vF (h:Bo t13 (∃u23:UInt8,(0:Int)≤0∧(ByteArray.data s0)[Int.toNat 0]?=some u23∧Br (((u23.toNat:Int):Int)=45) (AIl R s0 (-1) σ) (AIl R s0 x5 σ)) (Br (x12=105) (ABp R s0 x5 x6 x12 true σ) (ABp R s0 x5 x6 x12 ((decide (x12=73))) σ))):ABo R s0 x5 x6 x12 t13 σ:=M.of h ok rfl
def vG (h:Bo t16 (AN6 R s0 x5 x6 σ) (Br (x12=110) (Yc R s0 true σ) (Yc R s0 ((decide (x12=78))) σ))):ABp R s0 x5 x6 x12 t16 σ:=M.of h ok rfl
def Ws (h:Bo t19 (AL 236 #[.string s0,(.string (ByteArray.mk #[110,97,110]))] σ R (CI .i64 fun nJ y=>Br (nJ=3) (AL 238 #[] y R (fun z AE=>∃Ug,(Value.float .f64 Ug)=z∧R (.T #[(Value.float .f64 Ug),.I 3,.bool true]) AE)) (ABq R y))) (ABq R σ)):Yc R s0 t19 σ:=M.of h ok rfl
def vH (h:R (.T #[.float .f64 0,.I 0,.bool false]) σ):ABq R  σ:=M.of h ok rfl
end Ak
namespace HB
variable {s0 s1:ByteArray}
def M:Fw:=⟨prog,228,f228,[253],[],false,[],[],[]⟩
def ok:M.Ok:=⟨.cons call253 (AG.nil),mixed,func228,by kernel_rfl⟩
def start (h:AL 253 #[.string s0,.string s1] σ R (CB fun t7 y=>R (.B t7) y)):Spec prog 228 #[.string s0,.string s1] σ R:=M.start h ok
end HB
end TwW
end
end
section
set_option maxRecDepth 100000
noncomputable section
namespace TwW
open Go Tw Go.Proofs.Tryz
variable [Ei]{R:Rr}{σ:Hp}

namespace BI
variable {p0 p1 p13 SD:Option Addr}{n0 c0 n1 c1 n13 c13 n15 QM:Nat}{x2 x3 x4 x11 x12 U0 x16:Int}
def M:Fw:=⟨prog,3,f3,[4,5,6,7,8,9,10,11],[],false,[],[],[(4048,[(0,wL),(1,wL),(2,wI),(11,wI),(12,wI),(13,wL),(14,wI),(15,wL),(16,wI)])]⟩
def ok:M.Ok:=⟨.cons call4 (.cons call5 (.cons call6 (.cons call7 (.cons call8 (.cons call9 (.cons call10 (.cons call11 (AG.nil)))))))),mixed,func3,by kernel_rfl⟩
def pd:=M.pt 0
def start (h:AL 4 #[.I x3] σ R (CI .i64 fun I6 y=>6≠(0:Int)∧Df (Int.tmod I6 6) fun Cz=>Df (Go.bits .and .i64 x4 1023) fun Ky=>AM (1+Ky)∧Br (x2<(-1099511627776)) (AL 5 #[] y R (CB fun t33 AE=>R (.B t33) AE)) (Br (1099511621632<x2) (AL 5 #[] y R (CB fun t33 AE=>R (.B t33) AE)) (AL 7 #[.slice p0 n0 c0] y R (CS fun p36 n36 c36 AE=>AL 8 #[.slice p1 n1 c1] AE R (CS fun p38 n38 c38 AJ=>AM (Cz*(1+Ky))∧AM (x2+(Cz*(1+Ky)))∧AL 6 #[.slice p36 n36 c36,.slice p38 n38 c38,.I x2,(.I (x2+(Cz*(1+Ky)))),(.I (1+Ky))] AJ R (fun z As=>∃jq jr js jt,z=(.tuple #[.slice jq jr js,.I jt])∧pd R p0 n0 c0 p1 n1 c1 x2 Cz (1+Ky) jq jr js jt none 0 0 0 As))))))):Spec prog 3 #[.slice p0 n0 c0,.slice p1 n1 c1,.I x2,.I x3,.I x4] σ R:=M.start h ok
def ga (h:Br (x16≤x11) (AL 7 #[.slice p0 n0 c0] σ R (CS fun p56 n56 c56 y=>AL 8 #[.slice p1 n1 c1] y R (CS fun Mu ND N9 AE=>AM (x16*x12)∧AM (x2+(x16*x12))∧AL 9 #[.slice p56 n56 c56,.slice Mu ND N9,(.I (x2+(x16*x12)))] AE R (fun z AJ=>∃AIn AIo AIp ABr,z=(.tuple #[.slice AIn AIo AIp,.I ABr])∧Br (ABr≠0) (Br (U0=ABr) (Br ((n13:Int)=0) (AL 5 #[] AJ R (CB fun t78 As=>R (.B t78) As)) (R (.B false) AJ)) (R (.B false) AJ)) (Al AJ fun b83=>AL 10 #[(.slice (aD b83 0) 2 2)] (Hp.set AJ b83 (.cells #[.slice SD n15 QM,.slice AIn AIo AIp] 23 (0,0))) R (fun z As=>∃AIq AIr AIs AIt,z=(.tuple #[.slice AIq AIr AIs,.I AIt])∧Br (AIt≠0) (R (.B false) As) (AM (x16+1)∧pd R p0 n0 c0 p1 n1 c1 x2 x11 x12 p13 n13 c13 U0 AIq AIr AIs (x16+1) As))))))) (Br (U0=0) (AL 11 #[.slice p13 n13 c13,.slice SD n15 QM] σ R (CB fun t95 y=>Bo t95 (AL 5 #[] y R (CB fun t98 AE=>R (.B t98) AE)) (R (.B false) y))) (R (.B false) σ))):pd R p0 n0 c0 p1 n1 c1 x2 x11 x12 p13 n13 c13 U0 SD n15 QM x16 σ:=M.of h ok rfl
end BI
namespace Yy
variable {x0:Int}
def M:Fw:=⟨prog,4,f4,[],[],false,[],[],[]⟩
def ok:M.Ok:=⟨AG.nil,mixed,func4,by kernel_rfl⟩
def start (h:Df (Go.bits .and .i64 x0 9223372036854775807) fun x4=>R (.returned (.I x4)) σ):Spec prog 4 #[.I x0] σ R:=M.start h ok
end Yy
namespace QU
def M:Fw:=⟨prog,5,f5,[6,9,12,13,14],[],false,[],[],[]⟩
def ok:M.Ok:=⟨.cons call6 (.cons call9 (.cons call12 (.cons call13 (.cons call14 (AG.nil))))),mixed,func5,by kernel_rfl⟩
def start (h:Al σ fun A7=>AL 12 #[.float .f64 4607182418800017408] (Hp.set σ A7 (.cells #[(.string (ByteArray.mk #[95,95,110,97,109,101,95,95])),(.string (ByteArray.mk #[120])),(.string (ByteArray.mk #[97])),(.string (ByteArray.mk #[49]))] 36 (0,0))) R (CI .u64 fun x12 y=>AL 12 #[.float .f64 4613937818241073152] y R (CI .u64 fun U0 AE=>Al AE fun Lx=>Al (Hp.set AE Lx (.cells #[.I 0,.U x12,.I 60,.U U0] 42 (0,0))) fun Pd=>AL 12 #[.float .f64 4617315517961601024] (Hp.set (Hp.set AE Lx (.cells #[.I 0,.U x12,.I 60,.U U0] 42 (0,0))) Pd (.cells #[(.string (ByteArray.mk #[95,95,110,97,109,101,95,95])),(.string (ByteArray.mk #[120])),(.string (ByteArray.mk #[97])),(.string (ByteArray.mk #[50]))] 36 (0,0))) R (CI .u64 fun jv AJ=>Al AJ fun PC=>Al (Hp.set AJ PC (.cells #[.I 60,.U jv] 42 (0,0))) fun LF=>Al (Hp.set (Hp.set AJ PC (.cells #[.I 60,.U jv] 42 (0,0))) LF (.cells #[(.slice (aD A7 0) 2 2),(.slice (aD Lx 0) 2 2),(.slice (aD Pd 0) 2 2),(.slice (aD PC 0) 1 1)] 45 (0,0))) fun bQ=>Al (Hp.set (Hp.set (Hp.set AJ PC (.cells #[.I 60,.U jv] 42 (0,0))) LF (.cells #[(.slice (aD A7 0) 2 2),(.slice (aD Lx 0) 2 2),(.slice (aD Pd 0) 2 2),(.slice (aD PC 0) 1 1)] 45 (0,0))) bQ (.cells #[.I 1,(.string (ByteArray.mk #[95,95,110,97,109,101,95,95])),(.string (ByteArray.mk #[120]))] 47 (0,0))) fun jc=>AL 9 #[(.slice (aD jc 0) 2 2),(.slice (aD LF 0) 2 2),.I 60] (Hp.set (Hp.set (Hp.set (Hp.set AJ PC (.cells #[.I 60,.U jv] 42 (0,0))) LF (.cells #[(.slice (aD A7 0) 2 2),(.slice (aD Lx 0) 2 2),(.slice (aD Pd 0) 2 2),(.slice (aD PC 0) 1 1)] 45 (0,0))) bQ (.cells #[.I 1,(.string (ByteArray.mk #[95,95,110,97,109,101,95,95])),(.string (ByteArray.mk #[120]))] 47 (0,0))) jc (.cells #[.I 2,.I 0,(.string (ByteArray.mk #[])),(.slice (aD bQ 0) 1 1),.I 0,.I 0,.I 0,.N,.bool false,.I 0,.I 5,.I 1,(.string (ByteArray.mk #[])),.N,.I 0,.I 0,.I 0,.N,.bool false,.I 1] 51 (0,0))) R (fun z As=>∃AIu ABs AN7 AIv,z=(.tuple #[.slice AIu ABs AN7,.I AIv])∧AL 6 #[(.slice (aD jc 0) 2 2),(.slice (aD LF 0) 2 2),.I 0,.I 60,.I 60] As R (fun z JY=>∃Yr Ww da db,z=(.tuple #[.slice Yr Ww da,.I db])∧AL 13 #[(.slice (aD jc 0) 2 2)] JY R (fun z Uw=>∃AIw AIx,z=(.tuple #[.I AIw,.I AIx])∧Br (AIv=0) (Br ((ABs:Int)=1) (Pq AIu fun IU yU=>In 0 (ABs:Int)∧LS Uw IU (yU+1) fun jT n59 jU=>AL 12 #[.float .f64 4620693217682128896] Uw R (CI .u64 fun vB ug=>Kp [IU] Uw ug∧Al ug fun b62=>AL 14 #[.slice jT n59 jU,(.slice (aD b62 0) 1 1)] (Hp.set ug b62 (.cells #[.I 60,.U vB] 42 (0,0))) R (CB fun t63 oh=>Bo t63 (Br (db=0) (Br ((Ww:Int)=1) (Pq Yr fun b76 o76=>In 0 (Ww:Int)∧LS oh b76 (o76+1) fun so nN sq=>Br ((nN:Int)=2) (Br (AIw=300) (R (.returned (.bool (decide (AIx=0)))) oh) (R (.B false) oh)) (R (.B false) oh)) (R (.B false) oh)) (R (.B false) oh)) (R (.B false) oh)))) (R (.B false) Uw)) (R (.B false) Uw)))))))):Spec prog 5 #[] σ R:=M.start h ok
end QU
namespace Cj
variable {p0 p3:Option Addr}{n0 c0 n3 c3:Nat}{x4:Int}
def M:Fw:=⟨prog,8,f8,[25,26],[],false,[],[],[(464,[(0,wL),(3,wL),(4,wI)])]⟩
def ok:M.Ok:=⟨.cons call25 (.cons call26 (AG.nil)),mixed,func8,by kernel_rfl⟩
def CZ:=M.pt 0
def start (h:CZ R p0 n0 c0 none 0 0 0 σ):Spec prog 8 #[.slice p0 n0 c0] σ R:=M.start h ok
def BE (h:Br (x4<(n0:Int)) (Pq p0 fun BT PZ=>In x4 (n0:Int)∧LS σ BT (PZ+x4.toNat*2) fun Mv n16 Ln=>In x4 (n0:Int)∧LS σ BT ((PZ+x4.toNat*2)+1) fun Vc n22 Ue=>AL 25 #[.slice Mv n16 Ln] σ R (CS fun p17 n17 c17 y=>Kp [BT] σ y∧AL 26 #[.slice Vc n22 Ue] y R (CS fun Us n23 RG AE=>Al AE fun LF=>AH prog (I4 23 p3 n3 c3 LF) (Hp.set AE LF (.cells #[.slice p17 n17 c17,.slice Us n23 RG] 45 (0,0))) (CS fun p26 n26 c26 AJ=>AM (x4+1)∧CZ R (aD BT PZ) n0 c0 p26 n26 c26 (x4+1) AJ)))) (R (.returned (.slice p3 n3 c3)) σ)):CZ R p0 n0 c0 p3 n3 c3 x4 σ:=M.of h ok rfl
end Cj
namespace JC
variable {s0 s1:ByteArray}
def M:Fw:=⟨prog,42,f42,[63],[],false,[],[],[]⟩
def ok:M.Ok:=⟨.cons call63 (AG.nil),mixed,func42,by kernel_rfl⟩
def start (h:AL 63 #[.string s0,.string s1] σ R (CI .i64 fun x7 y=>R (.returned (.I x7)) y)):Spec prog 42 #[.string s0,.string s1] σ R:=M.start h ok
end JC
namespace DY
variable {p0:Option Addr}{n0 c0:Nat}{x3:Int}
def M:Fw:=⟨prog,44,f44,[],[],false,[(4,12,true)],[],[(208,[(0,wL),(3,wI)])]⟩
def ok:M.Ok:=⟨AG.nil,mixed,func44,by kernel_rfl⟩
def Ho:=M.pt 0
def start (h:Ho R p0 n0 c0 1 σ):Spec prog 44 #[.slice p0 n0 c0] σ R:=M.start h ok
def BJ (h:Br (x3<(n0:Int)) (Pq p0 fun NM PD=>In x3 (n0:Int)∧LI .i64 σ NM (PD+x3.toNat*2) fun U0=>AM (x3-1)∧In (x3-1) (n0:Int)∧LI .i64 σ NM (PD+Int.toNat (x3-1)*2) fun HO=>Br (U0≤HO) (R (.B false) σ) (AM (x3+1)∧Ho R (aD NM PD) n0 c0 (x3+1) σ)) (R (.returned (.bool (decide (0<(n0:Int))))) σ)):Ho R p0 n0 c0 x3 σ:=M.of h ok rfl
end DY
namespace AK
variable {v0:Value}{b1 b3 n7 c7:Nat}{p7:Option Addr}{x8 x9:Int}
def M:Fw:=⟨prog,45,f45,[46,47,48],[100000],false,[],[],[(104,[(0,wV),(3,wA),(7,wL),(8,wI),(9,wI)]),(112,[(0,wV),(3,wA)]),(423,[(0,wV),(3,wA),(7,wL),(8,wI),(9,wI)])]⟩
def ok:M.Ok:=⟨.cons call46 (.cons call47 (.cons call48 (AG.nil))),mixed,func45,by kernel_rfl⟩
def II:=M.pt 0
def Hn:=M.pt 1
def Yu:=M.pt 2
def start (h:Al σ fun b3=>LS (Hp.set σ b3 (.cells #[.N] 103 (0,0))) b1 0 fun p7 n7 c7=>II R v0 b3 p7 n7 c7 (n7:Int) 0 (Hp.set σ b3 (.cells #[.N] 103 (0,0)))):Spec prog 45 #[v0,(.pointer (aD b1 0))] σ R:=M.CY h ok [(0,.o (.V v0)),(1,.o (.A b1))] rfl rfl (by kernel_rfl)
def A8 (h:Br (x9<x8) (Pq p7 fun A7 Xh=>In x9 (n7:Int)∧LS σ A7 (Xh+x9.toNat*1) fun oL n12 lP=>Br (0<(n12:Int)) (Al σ fun BR=>AL 46 #[(.iface 105 (.pointer (aD b3 0))),(.iface 106 (.pointer (aD BR 0)))] (Hp.set σ BR (.cells #[.slice oL n12 lP] 108 (0,0))) R (fun z y=>z=(.tuple #[])∧Yu R v0 b3 (aD A7 Xh) n7 c7 x8 x9 y)) (Yu R v0 b3 (aD A7 Xh) n7 c7 x8 x9 σ)) (Hn R v0 b3 σ)):II R v0 b3 p7 n7 c7 x8 x9 σ:=M.of h ok rfl
def G7 (h:LS σ b3 0 fun Us n23 RG=>Br (0<(n23:Int)) (LS σ b3 0 fun p26 n26 c26=>Pq p26 fun bQ xY=>In 0 (n26:Int)∧LQ σ bQ xY fun q28=>Pq q28 fun jg o31=>LS σ jg o31 fun p33 n33 c33=>Pq p33 fun b34 o34=>In 0 (n33:Int)∧∃AIy AIz AI0 AI1 AI2 AI3,Av σ b34 o34 [.slice AIy AIz AI0,.slice AI1 AI2 AI3]∧∃l36:Nat,v0=.func (.yield l36) #[] #[]∧GV prog l36 #[.agg #[.slice AIy AIz AI0,.slice AI1 AI2 AI3]] σ (Ap R (CB fun t36 y=>Bn t36 (R (.T #[]) y) (LS y jg o31 fun p42 n42 c42=>((0:Int)≤1∧1≤(n42:Int))∧AH prog (Instr.storeAt 23 (.pointer (aD jg o31)) (.slice (Fe p42 (1) c42 2) (n42-1) (c42-1))) y (fun _ AE=>LS AE jg o31 fun p49 n49 c49=>Br ((n49:Int)=0) (AL 47 #[(.iface 105 (.pointer (aD b3 0)))] AE R (fun z AJ=>∃v53,v53=z∧Hn R v0 b3 AJ)) (AL 48 #[(.iface 105 (.pointer (aD b3 0))),.I 0] AE R (fun z AJ=>z=(.tuple #[])∧Hn R v0 b3 AJ))))))) (R (.T #[]) σ)):Hn R v0 b3 σ:=M.of h ok rfl
def FG (h:AM (x9+1)∧II R v0 b3 p7 n7 c7 x8 (x9+1) σ):Yu R v0 b3 p7 n7 c7 x8 x9 σ:=M.of h ok rfl
end AK
namespace Dx
variable {v0:Value}{x1:Int}
def M:Fw:=⟨prog,48,f48,[66,67],[],false,[],[],[]⟩
def ok:M.Ok:=⟨.cons call66 (.cons call67 (AG.nil)),mixed,func48,by kernel_rfl⟩
def start (h:MC prog v0 mR #[] σ (Ap R (CI .i64 fun x7 y=>AL 67 #[v0,.I x1,.I x7] y R (CB fun t8 AE=>Bn t8 (AL 66 #[v0,.I x1] AE R (fun z AJ=>z=(.tuple #[])∧R (.T #[]) AJ)) (R (.T #[]) AE))))):Spec prog 48 #[v0,.I x1] σ R:=M.CY h ok [(0,.o (.V v0)),(1,.o (.I .i64 x1))] rfl rfl (by kernel_rfl)
end Dx
namespace Te
variable {Em ES Qr NF HT I5:Int}{Qt:ByteArray}{Vi R9:Option Addr}{Uv Vj RI SA:Nat}{Mb:Bool}
def M:Fw:=⟨prog,68,f68,[88,89,90,91,92,93],[1],false,[],[],[]⟩
def ok:M.Ok:=⟨.cons call88 (.cons call89 (.cons call90 (.cons call91 (.cons call92 (.cons call93 (AG.nil)))))),mixed,func68,by kernel_rfl⟩
def start (h:∀b1:Nat,AL 89 #[.agg #[.I Em,.I ES,.string Qt,.slice Vi Uv Vj,.I Qr,.I NF,.I HT,.slice R9 RI SA,.bool Mb,.I I5]] σ R (fun z y=>∃IZ Gy Ig IX Ih Ii Ia Ib Ic IY Ij Ik Jc Ie,z=(.agg #[.I IZ,.I Gy,.string Ig,.slice IX Ih Ii,.I Ia,.I Ib,.I Ic,.slice IY Ij Ik,.bool Jc,.I Ie])∧AL 88 #[.agg #[.I Em,.I ES,.string Qt,.slice Vi Uv Vj,.I Qr,.I NF,.I HT,.slice R9 RI SA,.bool Mb,.I I5],.agg #[.I IZ,.I Gy,.string Ig,.slice IX Ih Ii,.I Ia,.I Ib,.I Ic,.slice IY Ij Ik,.bool Jc,.I Ie]] y R (CB fun t6 AE=>Bn t6 (R (.B false) AE) (AL 90 #[.agg #[.I Em,.I ES,.string Qt,.slice Vi Uv Vj,.I Qr,.I NF,.I HT,.slice R9 RI SA,.bool Mb,.I I5]] AE R (CB fun t10 AJ=>Bn t10 (R (.B false) AJ) (Br (0<(Uv:Int)) (Br (Em≠2) (Br (Em≠3) (R (.B false) AJ) (Br (Em=1) (AL 91 #[.string Qt] AJ R (CB fun t35 As=>R (.B t35) As)) (Br (Em=2) (AL 92 #[.I NF,.I 0] AJ R (CB fun t40 As=>R (.B t40) As)) (Br (Em=3) (AL 92 #[.I Qr,.I 1] AJ R (CB fun t45 As=>Bo t45 (AL 92 #[.I NF,.I 0] As R (CB fun t49 JY=>R (.B t49) JY)) (R (.B false) As))) (Br (Em=4) (Br (I5=1) (Br (1≤ES) (R (.returned (.bool (decide (ES≤12)))) AJ) (R (.B false) AJ)) (R (.B false) AJ)) (Br (Em=5) (Br (I5=1) (Br (1≤ES) (Br (ES≤5) (Br (HT=0) (R (.B true) AJ) (Br (HT=1) (R (.B true) AJ) (R (.returned (.bool (decide (HT=2)))) AJ))) (R (.B false) AJ)) (R (.B false) AJ)) (R (.B false) AJ)) (Br (Em=6) (Br (I5=2) (Br (1≤ES) (Br (ES≤13) (Br (HT=0) (Bn Mb (R (.B true) AJ) (AL 93 #[.I ES] AJ R (CB fun t133 As=>R (.B t133) As))) (Br (HT=3) (Bn Mb (R (.B true) AJ) (AL 93 #[.I ES] AJ R (CB fun t133 As=>R (.B t133) As))) (Br (HT=4) (Bn Mb (R (.B true) AJ) (AL 93 #[.I ES] AJ R (CB fun t133 As=>R (.B t133) As))) (R (.B false) AJ)))) (R (.B false) AJ)) (R (.B false) AJ)) (R (.B false) AJ)) (Br (Em=7) (R (.returned (.bool (decide (I5=1)))) AJ) (R (.B false) AJ))))))))) (Br (Em=1) (AL 91 #[.string Qt] AJ R (CB fun t35 As=>R (.B t35) As)) (Br (Em=2) (AL 92 #[.I NF,.I 0] AJ R (CB fun t40 As=>R (.B t40) As)) (Br (Em=3) (AL 92 #[.I Qr,.I 1] AJ R (CB fun t45 As=>Bo t45 (AL 92 #[.I NF,.I 0] As R (CB fun t49 JY=>R (.B t49) JY)) (R (.B false) As))) (Br (Em=4) (Br (I5=1) (Br (1≤ES) (R (.returned (.bool (decide (ES≤12)))) AJ) (R (.B false) AJ)) (R (.B false) AJ)) (Br (Em=5) (Br (I5=1) (Br (1≤ES) (Br (ES≤5) (Br (HT=0) (R (.B true) AJ) (Br (HT=1) (R (.B true) AJ) (R (.returned (.bool (decide (HT=2)))) AJ))) (R (.B false) AJ)) (R (.B false) AJ)) (R (.B false) AJ)) (Br (Em=6) (Br (I5=2) (Br (1≤ES) (Br (ES≤13) (Br (HT=0) (Bn Mb (R (.B true) AJ) (AL 93 #[.I ES] AJ R (CB fun t133 As=>R (.B t133) As))) (Br (HT=3) (Bn Mb (R (.B true) AJ) (AL 93 #[.I ES] AJ R (CB fun t133 As=>R (.B t133) As))) (Br (HT=4) (Bn Mb (R (.B true) AJ) (AL 93 #[.I ES] AJ R (CB fun t133 As=>R (.B t133) As))) (R (.B false) AJ)))) (R (.B false) AJ)) (R (.B false) AJ)) (R (.B false) AJ)) (Br (Em=7) (R (.returned (.bool (decide (I5=1)))) AJ) (R (.B false) AJ))))))))) (Br (Em=1) (AL 91 #[.string Qt] AJ R (CB fun t35 As=>R (.B t35) As)) (Br (Em=2) (AL 92 #[.I NF,.I 0] AJ R (CB fun t40 As=>R (.B t40) As)) (Br (Em=3) (AL 92 #[.I Qr,.I 1] AJ R (CB fun t45 As=>Bo t45 (AL 92 #[.I NF,.I 0] As R (CB fun t49 JY=>R (.B t49) JY)) (R (.B false) As))) (Br (Em=4) (Br (I5=1) (Br (1≤ES) (R (.returned (.bool (decide (ES≤12)))) AJ) (R (.B false) AJ)) (R (.B false) AJ)) (Br (Em=5) (Br (I5=1) (Br (1≤ES) (Br (ES≤5) (Br (HT=0) (R (.B true) AJ) (Br (HT=1) (R (.B true) AJ) (R (.returned (.bool (decide (HT=2)))) AJ))) (R (.B false) AJ)) (R (.B false) AJ)) (R (.B false) AJ)) (Br (Em=6) (Br (I5=2) (Br (1≤ES) (Br (ES≤13) (Br (HT=0) (Bn Mb (R (.B true) AJ) (AL 93 #[.I ES] AJ R (CB fun t133 As=>R (.B t133) As))) (Br (HT=3) (Bn Mb (R (.B true) AJ) (AL 93 #[.I ES] AJ R (CB fun t133 As=>R (.B t133) As))) (Br (HT=4) (Bn Mb (R (.B true) AJ) (AL 93 #[.I ES] AJ R (CB fun t133 As=>R (.B t133) As))) (R (.B false) AJ)))) (R (.B false) AJ)) (R (.B false) AJ)) (R (.B false) AJ)) (Br (Em=7) (R (.returned (.bool (decide (I5=1)))) AJ) (R (.B false) AJ)))))))))))))):Spec prog 68 #[.agg #[.I Em,.I ES,.string Qt,.slice Vi Uv Vj,.I Qr,.I NF,.I HT,.slice R9 RI SA,.bool Mb,.I I5]] σ R:=M.start h ok
end Te
namespace Bh
variable {q0 Dl D6 p2:Option Addr}{Dc Cp Dd Dm DO Cs x8:Int}{De:ByteArray}{Dn Dp Dq D7 n2 c2:Nat}{DP:Bool}
def M:Fw:=⟨prog,71,f71,[],[4],false,[],[],[(60,[(2,wL),(8,wI)])]⟩
def ok:M.Ok:=⟨AG.nil,mixed,func71,by kernel_rfl⟩
def Eu:=M.pt 0
def start (h:∀b4:Nat,Br (Cp=11) (Eu R p2 n2 c2 2 σ) (Br (Cp=12) (Eu R p2 n2 c2 2 σ) (Eu R p2 n2 c2 3 σ))):Spec prog 71 #[.pointer q0,.agg #[.I Dc,.I Cp,.string De,.slice Dl Dn Dp,.I Dd,.I Dm,.I DO,.slice D6 Dq D7,.bool DP,.I Cs],.slice p2 n2 c2] σ R:=M.start h ok
def FE (h:Pq p2 fun Vk di=>In 0 (n2:Int)∧LI .i64 σ Vk di fun HO=>Br (HO≠x8) (R (.T #[.I 0,.I 191]) σ) (R (.T #[.I 2,.I 0]) σ)):Eu R p2 n2 c2 x8 σ:=M.of h ok rfl
end Bh
namespace DL
variable {x0:Int}{b1 b2:Nat}
def M:Fw:=⟨prog,117,f117,[114],[],false,[],[],[]⟩
def ok:M.Ok:=⟨.cons call114 (AG.nil),mixed,func117,by kernel_rfl⟩
def start (h:∃Fh Fi s6c Fg Fj Fk x6e x6f x6g p6h n6h c6h t6i x6j,Av σ b1 0 [.I Fh,.I Fi,.string s6c,.slice Fg Fj Fk,.I x6e,.I x6f,.I x6g,.slice p6h n6h c6h,.bool t6i,.I x6j]∧LI .u64 σ b2 1 fun x9=>AL 114 #[.agg #[.I Fh,.I Fi,.string s6c,.slice Fg Fj Fk,.I x6e,.I x6f,.I x6g,.slice p6h n6h c6h,.bool t6i,.I x6j],.U x0,.U x9] σ R (fun z y=>∃Jd SO,z=(.tuple #[.U Jd,.bool SO])∧R (.T #[.U Jd,.bool SO]) y)):Spec prog 117 #[.U x0,(.pointer (aD b1 0)),(.pointer (aD b2 0))] σ R:=M.start h ok
end DL
namespace QV
variable {s0:ByteArray}
def M:Fw:=⟨prog,124,f124,[161],[],false,[],[],[]⟩
def ok:M.Ok:=⟨.cons call161 (AG.nil),mixed,func124,by kernel_rfl⟩
def start (h:AL 161 #[.string s0] σ R (CI .i64 fun x6 y=>Br (x6=0) (R (.B false) y) (Br (1<x6) (∃LD:UInt8,(0:Int)≤0∧(ByteArray.data s0)[Int.toNat 0]?=some LD∧Br (((LD.toNat:Int):Int)=48) (R (.B false) y) (Br (x6=(s0.size:Int)) (R (.returned (.bool (decide (x6≤15)))) y) (AM (x6+1)∧∃yk,YF prog (Instr.sliceAt 9 (.string s0) (some (.I (x6+1))) none none) y (.string yk)∧AL 161 #[.string yk] y R (CI .i64 fun Yz AE=>∃ym:UInt8,0≤x6∧(ByteArray.data s0)[x6.toNat]?=some ym∧Br (((ym.toNat:Int):Int)=46) (Br (0<Yz) (AM (x6+1)∧AM ((x6+1)+Yz)∧Br ((((x6+1)+Yz):Int)=(s0.size:Int)) (AM (x6+Yz)∧R (.returned (.bool (decide (((x6+Yz):Int)≤15)))) AE) (R (.B false) AE)) (R (.B false) AE)) (R (.B false) AE))))) (Br (x6=(s0.size:Int)) (R (.returned (.bool (decide (x6≤15)))) y) (AM (x6+1)∧∃yk,YF prog (Instr.sliceAt 9 (.string s0) (some (.I (x6+1))) none none) y (.string yk)∧AL 161 #[.string yk] y R (CI .i64 fun Yz AE=>∃ym:UInt8,0≤x6∧(ByteArray.data s0)[x6.toNat]?=some ym∧Br (((ym.toNat:Int):Int)=46) (Br (0<Yz) (AM (x6+1)∧AM ((x6+1)+Yz)∧Br ((((x6+1)+Yz):Int)=(s0.size:Int)) (AM (x6+Yz)∧R (.returned (.bool (decide (((x6+Yz):Int)≤15)))) AE) (R (.B false) AE)) (R (.B false) AE)) (R (.B false) AE))))))):Spec prog 124 #[.string s0] σ R:=M.start h ok
end QV
namespace Y0
variable {v0:Value}
def M:Fw:=⟨prog,133,f133,[],[],false,[],[],[]⟩
def ok:M.Ok:=⟨AG.nil,mixed,func133,by kernel_rfl⟩
def start (h:EN prog 32 #[v0] σ (CI .u64 fun x4 y=>Df (Go.bits .andNot .u64 x4 9223372036854775808) fun x5=>EN prog 170 #[.U x5] y (fun z AE=>∃x6,(Value.float .f64 x6)=z∧R (.returned (Value.float .f64 x6)) AE))):Spec prog 133 #[v0] σ R:=M.CY h ok [(0,.o (.V v0))] rfl rfl (by kernel_rfl)
end Y0
namespace DM
variable {p0 p1:Option Addr}{n0 c0 n1 c1:Nat}
def M:Fw:=⟨prog,145,f145,[144,146],[],false,[],[],[]⟩
def ok:M.Ok:=⟨.cons call144 (.cons call146 (AG.nil)),mixed,func145,by kernel_rfl⟩
def start (h:Pq p1 fun b8 o8=>In 0 (n1:Int)∧LI .u64 σ b8 (o8+1) fun x10=>AL 144 #[.slice p0 n0 c0] σ R (CI .u64 fun x6 y=>Kp [b8] σ y∧AL 146 #[.U x6,.U x10] y R (CI .u64 fun x11 AE=>R (.returned (.U x11)) AE))):Spec prog 145 #[.slice p0 n0 c0,.slice p1 n1 c1] σ R:=M.start h ok
end DM
namespace Tf
variable {t0:Bool}
def M:Fw:=⟨prog,157,f157,[101],[],false,[],[],[]⟩
def ok:M.Ok:=⟨.cons call101 (AG.nil),mixed,func157,by kernel_rfl⟩
def start (h:Bo t0 (AL 101 #[.I 1] σ R (CI .u64 fun x4 y=>R (.returned (.U x4)) y)) (AL 101 #[.I 0] σ R (CI .u64 fun x5 y=>R (.returned (.U x5)) y))):Spec prog 157 #[.bool t0] σ R:=M.start h ok
end Tf
namespace Vs
variable {x0:Int}
def M:Fw:=⟨prog,188,f188,[],[],false,[],[],[]⟩
def ok:M.Ok:=⟨AG.nil,mixed,func188,by kernel_rfl⟩
def start (h:Br (x0=1) (R (.B true) σ) (Br (x0=2) (R (.B true) σ) (Br (x0=4) (R (.B true) σ) (R (.returned (.bool (decide (x0=8)))) σ)))):Spec prog 188 #[.I x0] σ R:=M.start h ok
end Vs
namespace strings_Index
variable {s0 s1:ByteArray}
end strings_Index
namespace MF
def M:Fw:=⟨prog,209,f209,[134],[],false,[],[],[]⟩
def ok:M.Ok:=⟨.cons call134 (AG.nil),mixed,func209,by kernel_rfl⟩
def start (h:AL 134 #[.U 4604544271217802189] σ R (fun z y=>∃x2,(Value.float .f64 x2)=z∧∃x5,YF prog (Op.unary .neg (Value.float .f64 x2)) y (Value.float .f64 x5)∧∃x6 y6,YF prog (Builtin.complex_ #[40,40] 248 #[(Value.float .f64 x2),(Value.float .f64 x5)]) y (Value.complex .f64 x6 y6)∧∃x8,YF prog (Op.unary .neg (Value.float .f64 x2)) y (Value.float .f64 x8)∧∃x10,YF prog (Op.unary .neg (Value.float .f64 x2)) y (Value.float .f64 x10)∧∃x11 y11,YF prog (Builtin.complex_ #[40,40] 248 #[(Value.float .f64 x8),(Value.float .f64 x10)]) y (Value.complex .f64 x11 y11)∧∃E4,YF prog (Op.unary .neg (Value.float .f64 x2)) y (Value.float .f64 E4)∧∃x15 y15,YF prog (Builtin.complex_ #[40,40] 248 #[(Value.float .f64 E4),(Value.float .f64 x2)]) y (Value.complex .f64 x15 y15)∧∃Vh y18,YF prog (Builtin.complex_ #[40,40] 248 #[(Value.float .f64 x2),(Value.float .f64 x2)]) y (Value.complex .f64 Vh y18)∧Al y fun BR=>R (.returned (.slice (aD BR 0) 8 8)) (Hp.set y BR (.cells #[.complex .f64 4607182418800017408 0,(Value.complex .f64 x6 y6),.complex .f64 0 13830554455654793216,(Value.complex .f64 x11 y11),.complex .f64 13830554455654793216 0,(Value.complex .f64 x15 y15),.complex .f64 0 4607182418800017408,(Value.complex .f64 Vh y18)] 248 (0,0))))):Spec prog 209 #[] σ R:=M.start h ok
end MF
namespace AD
variable {s0:ByteArray}{x2 x3 x7 x10 x11 x12 x15 x16 x17 Dg HO:Int}{t4 t5 t6 t8 t9 t13 t14:Bool}
def M:Fw:=⟨prog,214,f214,[239,240],[],false,[],[],[(110,[(0,wT),(2,wU),(3,wI),(4,wB),(5,wB),(6,wB),(7,wI),(8,wB),(9,wB)]),(1790,[(0,wT),(2,wU),(3,wI),(4,wB),(5,wB),(6,wB),(7,wI),(8,wB),(9,wB),(10,wU),(11,wI),(12,w8)]),(1834976,[(0,wT),(2,wU),(3,wI),(4,wB),(5,wB),(6,wB),(7,wI),(8,wB),(9,wB),(10,wU),(11,wI),(12,w8),(13,wB),(14,wB),(15,wI),(16,wI),(17,wI)]),(458748,[(0,wT),(2,wU),(3,wI),(4,wB),(5,wB),(6,wB),(7,wI),(8,wB),(9,wB),(10,wU),(12,w8),(13,wB),(14,wB),(15,wI),(16,wI),(17,wI)]),(1835004,[(0,wT),(2,wU),(3,wI),(4,wB),(5,wB),(6,wB),(7,wI),(8,wB),(9,wB),(10,wU),(12,w8),(16,wI),(17,wI)]),(3670012,[(0,wT),(2,wU),(3,wI),(4,wB),(5,wB),(6,wB),(7,wI),(8,wB),(9,wB),(10,wU),(12,w8),(16,wI),(17,wI)]),(7340028,[(0,wT),(2,wU),(3,wI),(4,wB),(5,wB),(6,wB),(7,wI),(8,wB),(9,wB),(16,wI),(17,wI)]),(14680060,[(0,wT),(2,wU),(3,wI),(4,wB),(5,wB),(6,wB),(7,wI),(8,wB),(9,wB)]),(469761724,[(0,wT),(2,wU),(3,wI),(4,wB),(5,wB),(6,wB),(7,wI),(8,wB),(9,wB),(16,wI),(17,wI),(19,wI)]),(15032375264,[(0,wT),(2,wU),(3,wI),(4,wB),(5,wB),(6,wB),(7,wI),(8,wB),(9,wB),(16,wI),(17,wI),(19,wI),(20,wI)]),(15032375267,[(0,wT),(2,wU),(3,wI),(4,wB),(5,wB),(6,wB),(7,wI),(8,wB),(9,wB),(16,wI),(17,wI),(19,wI),(20,wI)]),(1834979,[(0,wT),(2,wU),(3,wI),(4,wB),(5,wB),(6,wB),(7,wI),(8,wB),(9,wB),(10,wU),(11,wI),(12,w8),(13,wB),(14,wB),(15,wI),(16,wI),(17,wI)])]⟩
def ok:M.Ok:=⟨.cons call239 (.cons call240 (AG.nil)),mixed,func214,by kernel_rfl⟩
def Hn:=M.pt 0
def Ll:=M.pt 1
def pe:=M.pt 2
def Nb:=M.pt 3
def gb:=M.pt 4
def pf:=M.pt 5
def pg:=M.pt 6
def ph:=M.pt 7
def pj:=M.pt 8
def FQ:=M.pt 11
def start (h:Br (((s0.size:Int):Int)≤0) (R (.T #[.U 0,.I 0,.bool false,.bool false,.bool false,.I 0,.bool false]) σ) (∃u27:UInt8,(0:Int)≤0∧(ByteArray.data s0)[Int.toNat 0]?=some u27∧Br (((u27.toNat:Int):Int)=43) (AM (0+1)∧Hn R s0 0 0 false false false (0+1) false false σ) (Br (((u27.toNat:Int):Int)=45) (AM (0+1)∧Hn R s0 0 0 true false false (0+1) false false σ) (Hn R s0 0 0 false false false 0 false false σ)))):Spec prog 214 #[.string s0] σ R:=M.start h ok
def G7 (h:AM (x7+2)∧Br (((x7+2):Int)<(s0.size:Int)) (∃u44:UInt8,0≤x7∧(ByteArray.data s0)[x7.toNat]?=some u44∧Br (((u44.toNat:Int):Int)=48) (AM (x7+1)∧∃u51:UInt8,(0:Int)≤(x7+1)∧(ByteArray.data s0)[Int.toNat (x7+1)]?=some u51∧AL 239 #[(.int .u8 (u51.toNat:Int))] σ R (CI .u8 fun u6 y=>Br (u6=120) (AM (x7+2)∧Ll R s0 x2 x3 t4 t5 true (x7+2) t8 t9 16 16 112 y) (Ll R s0 x2 x3 t4 t5 t6 x7 t8 t9 10 19 101 y))) (Ll R s0 x2 x3 t4 t5 t6 x7 t8 t9 10 19 101 σ)) (Ll R s0 x2 x3 t4 t5 t6 x7 t8 t9 10 19 101 σ)):Hn R s0 x2 x3 t4 t5 t6 x7 t8 t9 σ:=M.of h ok rfl
def IV (h:pe R s0 x2 x3 t4 t5 t6 x7 t8 t9 x10 x11 x12 false false 0 0 0 σ):Ll R s0 x2 x3 t4 t5 t6 x7 t8 t9 x10 x11 x12 σ:=M.of h ok rfl
def gh (h:Br (x7<(s0.size:Int)) (∃bS:UInt8,0≤x7∧(ByteArray.data s0)[x7.toNat]?=some bS∧Br (((bS.toNat:Int):Int)=95) (FQ R s0 x2 x3 t4 t5 t6 x7 t8 true x10 x11 x12 t13 t14 x15 x16 x17 σ) (Br (((bS.toNat:Int):Int)=46) (Bo t13 (Nb R s0 x2 x3 t4 t5 t6 x7 t8 t9 x10 x12 true t14 x15 x16 x17 σ) (FQ R s0 x2 x3 t4 t5 t6 x7 t8 t9 x10 x11 x12 true t14 x15 x16 x15 σ)) (Br ((48:Int)≤(bS.toNat:Int)) (Br (((bS.toNat:Int):Int)≤57) (Br (((bS.toNat:Int):Int)=48) (Br (x15=0) (AM (x17-1)∧FQ R s0 x2 x3 t4 t5 t6 x7 t8 t9 x10 x11 x12 t13 true x15 x16 (x17-1) σ) (AM (x15+1)∧Br (x16<x11) (Df (IntKind.u64.wrap (x2*x10)) fun x99=>Df (IntKind.u8.wrap ((bS.toNat:Int)-48)) fun jw=>Df (IntKind.u64.wrap jw) fun jx=>Df (IntKind.u64.wrap (x99+jx)) fun dn=>AM (x16+1)∧FQ R s0 dn x3 t4 t5 t6 x7 t8 t9 x10 x11 x12 t13 true (x15+1) (x16+1) x17 σ) (Br (((bS.toNat:Int):Int)≠48) (FQ R s0 x2 x3 t4 true t6 x7 t8 t9 x10 x11 x12 t13 true (x15+1) x16 x17 σ) (FQ R s0 x2 x3 t4 t5 t6 x7 t8 t9 x10 x11 x12 t13 true (x15+1) x16 x17 σ)))) (AM (x15+1)∧Br (x16<x11) (Df (IntKind.u64.wrap (x2*x10)) fun x99=>Df (IntKind.u8.wrap ((bS.toNat:Int)-48)) fun jw=>Df (IntKind.u64.wrap jw) fun jx=>Df (IntKind.u64.wrap (x99+jx)) fun dn=>AM (x16+1)∧FQ R s0 dn x3 t4 t5 t6 x7 t8 t9 x10 x11 x12 t13 true (x15+1) (x16+1) x17 σ) (Br (((bS.toNat:Int):Int)≠48) (FQ R s0 x2 x3 t4 true t6 x7 t8 t9 x10 x11 x12 t13 true (x15+1) x16 x17 σ) (FQ R s0 x2 x3 t4 t5 t6 x7 t8 t9 x10 x11 x12 t13 true (x15+1) x16 x17 σ)))) (Br (x10=16) (AL 239 #[(.int .u8 (bS.toNat:Int))] σ R (CI .u8 fun ABt y=>Br (97≤ABt) (AL 239 #[(.int .u8 (bS.toNat:Int))] y R (CI .u8 fun ABu AE=>Br (ABu≤102) (AM (x15+1)∧Br (x16<x11) (Df (IntKind.u64.wrap (x2*16)) fun ABv=>AL 239 #[(.int .u8 (bS.toNat:Int))] AE R (CI .u8 fun ABw AJ=>Df (IntKind.u8.wrap (ABw-97)) fun ABx=>Df (IntKind.u8.wrap (ABx+10)) fun ABy=>Df (IntKind.u64.wrap ABy) fun ABz=>Df (IntKind.u64.wrap (ABv+ABz)) fun AB0=>AM (x16+1)∧FQ R s0 AB0 x3 t4 t5 t6 x7 t8 t9 x10 x11 x12 t13 true (x15+1) (x16+1) x17 AJ)) (FQ R s0 x2 x3 t4 true t6 x7 t8 t9 x10 x11 x12 t13 true (x15+1) x16 x17 AE)) (Nb R s0 x2 x3 t4 t5 t6 x7 t8 t9 x10 x12 t13 t14 x15 x16 x17 AE))) (Nb R s0 x2 x3 t4 t5 t6 x7 t8 t9 x10 x12 t13 t14 x15 x16 x17 y))) (Nb R s0 x2 x3 t4 t5 t6 x7 t8 t9 x10 x12 t13 t14 x15 x16 x17 σ))) (Br (x10=16) (AL 239 #[(.int .u8 (bS.toNat:Int))] σ R (CI .u8 fun ABt y=>Br (97≤ABt) (AL 239 #[(.int .u8 (bS.toNat:Int))] y R (CI .u8 fun ABu AE=>Br (ABu≤102) (AM (x15+1)∧Br (x16<x11) (Df (IntKind.u64.wrap (x2*16)) fun ABv=>AL 239 #[(.int .u8 (bS.toNat:Int))] AE R (CI .u8 fun ABw AJ=>Df (IntKind.u8.wrap (ABw-97)) fun ABx=>Df (IntKind.u8.wrap (ABx+10)) fun ABy=>Df (IntKind.u64.wrap ABy) fun ABz=>Df (IntKind.u64.wrap (ABv+ABz)) fun AB0=>AM (x16+1)∧FQ R s0 AB0 x3 t4 t5 t6 x7 t8 t9 x10 x11 x12 t13 true (x15+1) (x16+1) x17 AJ)) (FQ R s0 x2 x3 t4 true t6 x7 t8 t9 x10 x11 x12 t13 true (x15+1) x16 x17 AE)) (Nb R s0 x2 x3 t4 t5 t6 x7 t8 t9 x10 x12 t13 t14 x15 x16 x17 AE))) (Nb R s0 x2 x3 t4 t5 t6 x7 t8 t9 x10 x12 t13 t14 x15 x16 x17 y))) (Nb R s0 x2 x3 t4 t5 t6 x7 t8 t9 x10 x12 t13 t14 x15 x16 x17 σ))))) (Nb R s0 x2 x3 t4 t5 t6 x7 t8 t9 x10 x12 t13 t14 x15 x16 x17 σ)):pe R s0 x2 x3 t4 t5 t6 x7 t8 t9 x10 x11 x12 t13 t14 x15 x16 x17 σ:=M.of h ok rfl
def pn (h:Bn t14 (R (.T #[.U x2,.I x3,.bool t4,.bool t5,.bool t6,.I x7,.bool t8]) σ) (Bn t13 (gb R s0 x2 x3 t4 t5 t6 x7 t8 t9 x10 x12 x16 x15 σ) (gb R s0 x2 x3 t4 t5 t6 x7 t8 t9 x10 x12 x16 x17 σ))):Nb R s0 x2 x3 t4 t5 t6 x7 t8 t9 x10 x12 t13 t14 x15 x16 x17 σ:=M.of h ok rfl
def po (h:Br (x10=16) (AM (x17*4)∧AM (x16*4)∧pf R s0 x2 x3 t4 t5 t6 x7 t8 t9 x10 x12 (x16*4) (x17*4) σ) (pf R s0 x2 x3 t4 t5 t6 x7 t8 t9 x10 x12 x16 x17 σ)):gb R s0 x2 x3 t4 t5 t6 x7 t8 t9 x10 x12 x16 x17 σ:=M.of h ok rfl
def pq (h:Br (x7<(s0.size:Int)) (∃AI4:UInt8,0≤x7∧(ByteArray.data s0)[x7.toNat]?=some AI4∧AL 239 #[(.int .u8 (AI4.toNat:Int))] σ R (CI .u8 fun AOA y=>Br (AOA=x12) (AM (x7+1)∧Br (((s0.size:Int):Int)≤(x7+1)) (R (.T #[.U x2,.I x3,.bool t4,.bool t5,.bool t6,(.I (x7+1)),.bool t8]) y) (∃AB1:UInt8,(0:Int)≤(x7+1)∧(ByteArray.data s0)[Int.toNat (x7+1)]?=some AB1∧Br (((AB1.toNat:Int):Int)=43) (AM ((x7+1)+1)∧pj R s0 x2 x3 t4 t5 t6 (((x7+1)+1)) t8 t9 x16 x17 1 y) (Br (((AB1.toNat:Int):Int)=45) (AM ((x7+1)+1)∧pj R s0 x2 x3 t4 t5 t6 (((x7+1)+1)) t8 t9 x16 x17 (-1) y) (pj R s0 x2 x3 t4 t5 t6 (x7+1) t8 t9 x16 x17 1 y)))) (Br (x10=16) (R (.T #[.U x2,.I x3,.bool t4,.bool t5,.bool t6,.I x7,.bool t8]) y) (pg R s0 x2 x3 t4 t5 t6 x7 t8 t9 x16 x17 y)))) (Br (x10=16) (R (.T #[.U x2,.I x3,.bool t4,.bool t5,.bool t6,.I x7,.bool t8]) σ) (pg R s0 x2 x3 t4 t5 t6 x7 t8 t9 x16 x17 σ))):pf R s0 x2 x3 t4 t5 t6 x7 t8 t9 x10 x12 x16 x17 σ:=M.of h ok rfl
def pz (h:Br (x2≠0) (AM (x17-x16)∧ph R s0 x2 (x17-x16) t4 t5 t6 x7 t8 t9 σ) (ph R s0 x2 x3 t4 t5 t6 x7 t8 t9 σ)):pg R s0 x2 x3 t4 t5 t6 x7 t8 t9 x16 x17 σ:=M.of h ok rfl
def Y1 (h:Bo t9 (∃AI5,YF prog (Instr.sliceAt 9 (.string s0) none (some (.I x7)) none) σ (.string AI5)∧AL 240 #[.string AI5] σ R (CB fun t250 y=>Bn t250 (R (.T #[.U x2,.I x3,.bool t4,.bool t5,.bool t6,.I x7,.bool t8]) y) (R (.T #[.U x2,.I x3,.bool t4,.bool t5,.bool t6,.I x7,.bool true]) y))) (R (.T #[.U x2,.I x3,.bool t4,.bool t5,.bool t6,.I x7,.bool true]) σ)):ph R s0 x2 x3 t4 t5 t6 x7 t8 t9 σ:=M.of h ok rfl
def qA (h:AM (x7+1)∧pe R s0 x2 x3 t4 t5 t6 (x7+1) t8 t9 x10 x11 x12 t13 t14 x15 x16 x17 σ):FQ R s0 x2 x3 t4 t5 t6 x7 t8 t9 x10 x11 x12 t13 t14 x15 x16 x17 σ:=M.of h ok rfl
end AD
namespace BQ
variable {q0:Option Addr}{v1:Value}
def M:Fw:=⟨prog,296,f296,[],[],false,[(0,9,false)],[],[]⟩
def ok:M.Ok:=⟨AG.nil,mixed,func296,by kernel_rfl⟩
def start (h:Pq q0 fun b6 o6=>LS σ b6 o6 fun p7 n7 c7=>AH prog (Instr.typeAssert v1 20 106 false) σ (CQ fun q9 y=>Kp [b6] σ y∧Al y fun CC=>AH prog (I4 103 p7 n7 c7 CC) (Hp.set y CC (.cells #[.pointer q9] 106 (0,0))) (CS fun Kz n11 LA AE=>AH prog (Instr.storeAt 103 (.pointer (aD b6 o6)) (.slice Kz n11 LA)) AE (fun _ AJ=>R (.T #[]) AJ)))):Spec prog 296 #[.pointer q0,v1] σ R:=M.CY h ok [(0,.o (.Q q0)),(1,.o (.V v1))] rfl rfl (by kernel_rfl)
end BQ
end TwW
end
end
section
namespace Tw
open Go
variable [Ei]
def AU (τ:Hp):List (Nat×Obj)→Hp
 | []=>τ
 | (b,o)::L=>(AU τ L).set b o
abbrev names (L:List (Nat×Obj)):List Nat:=L.map Prod.fst
section
variable {τ:Hp}{L:List (Nat×Obj)}{b i:Nat}{o o':Obj}
theorem Hu (h:b ∉ names L):AU τ L b=τ b:=by
 induction L with
 | nil=>rfl
 | cons p L ih=>
  simp only[names,AXa,AWo,not_or]at h;simp only[AU,Hp.AF h.1];exact ih h.2
theorem A2:∀{L:List (Nat×Obj)} {i:Nat},(names L).Nodup→L[i]?=some (b,o)→AU τ L b=some o
 | p::L,0,_,h=>by simp at h;subst h;exact Hp.AA _ _ _
 | p::L,i+1,hn,h=>by
  simp only[AXU]at h;have hm:b∈names L:=AXB.2 ⟨_,AWn h,rfl⟩;have hn:=AXL.1 (show(p.1::names L).Nodup from hn);have Ay:b≠p.1:=fun e=>hn.1 (e▸hm);simp only[AU,Hp.AF Ay];exact A2 hn.2 h
theorem Hp.KT {σ:Hp}{a b:Nat}{o u:Obj}(h:a≠b):(σ.set a o).set b u=(σ.set b u).set a o:=by
 funext k
 simp only[Hp.set];by_cases h1:k=a
 ·subst h1;simp[h]
 ·simp[h1]
theorem FR:∀{L:List (Nat×Obj)} {i:Nat},(names L).Nodup→L[i]?=some (b,o)→(AU τ L).set b o'=AU τ (L.set i (b,o'))
 | p::L,0,_,h=>by simp at h;subst h;exact Hp.set_set
 | p::L,i+1,hn,h=>by
  simp only[AXU]at h;have hm:b∈names L:=AXB.2 ⟨_,AWn h,rfl⟩;have hn:=AXL.1 (show(p.1::names L).Nodup from hn);have Ay:b≠p.1:=fun e=>hn.1 (e▸hm);simp only[AU,AYv];rw[Hp.KT (AXn Ay),FR hn.2 h]
theorem Dy:∀{L:List (Nat×Obj)},b ∉ names L→(AU τ L).set b o=AU (τ.set b o) L
 | [],_=>rfl
 | p::L,h=>by
  simp only[names,AXa,AWo,not_or]at h;simp only[AU];rw[Hp.KT (AXn h.1),Dy h.2]
theorem Vt:∀{L:List (Nat×Obj)},b∈names L→AU τ L b≠none
 | p::L,h=>by
  by_cases hb:b=p.1
  ·subst hb;simp only[AU,Hp.AA];simp
  ·simp only[names,AXa,AWo]at h;simp only[AU,Hp.AF hb];exact Vt (h.resolve_left hb)
theorem BD (h:AU τ L b=none):b ∉ names L∧τ b=none:=by
 have hs:∀{L:List (Nat×Obj)},b ∉ names L→AU τ L b=τ b:=Hu;have hn:b ∉ names L:=fun hm=>Vt hm h;exact⟨hn,(hs hn).symm.trans h⟩
def HZ (L:List (Nat×Obj))(τ:Hp):Prop:=∀b∈names L,τ b=none
theorem HZ.ext {τ:Hp}:∀{L:List (Nat×Obj)},(names L).Nodup→HZ L τ→Ext τ (AU τ L)
 | [],_,_=>.refl τ
 | p::L,hn,h=>by
  have hn:=AXL.1 (show(p.1::names L).Nodup from hn);have ih:=HZ.ext hn.2 (fun b hb=>h b (AWq _ hb));refine ih.trans (.set ?_);rw[Hu hn.1];exact h _ (AW1 ..)
theorem HZ.set {τ:Hp}{b:Nat}{o:Obj}(h:HZ L τ)(hb:b ∉ names L):HZ L (τ.set b o):=fun c hc=>by
 have Ay:c≠b:=fun e=>hb (e▸hc);rw[Hp.AF Ay];exact h c hc
end
theorem Spec.Cd {P:Program}{f:FuncId}{args:Array Value}{τ:Hp}:∀{L:List (Nat×Obj)} {R:Rr},(names L).Nodup→HZ L τ→
  Spec P f args τ (fun e τ'=>HZ L τ'→R e (AU τ' L))→Spec P f args (AU τ L) R
 | [],R,_,_,h=>h.mono fun e τ' hr=>hr (fun b hb=>by cases hb)
 | p::L,R,hn,ho,h=>by
  have hn:=AXL.1 (show(p.1::names L).Nodup from hn);refine Spec.GU (by rw[Hu hn.1];exact ho _ (AW1 ..)) ?_;refine Spec.Cd hn.2 (fun b hb=>ho b (AWq _ hb)) (h.mono fun e τ' hr JJ HC=>hr fun b hb=>?_);rcases AWo.1 (show b∈p.1::names L from hb) with rfl|hb
  ·rw[Hu hn.1]at HC;exact HC
  ·exact JJ b hb
theorem AH.Cd {P:Program}{α:Type}{m:Sem α}{τ:Hp}:∀{L:List (Nat×Obj)} {Φ:α→Hp→Prop},(names L).Nodup→HZ L τ→
  AH P m τ (fun v τ'=>HZ L τ'→Φ v (AU τ' L))→AH P m (AU τ L) Φ
 | [],R,_,_,h=>h.mono fun e τ' hr=>hr (fun b hb=>by cases hb)
 | p::L,R,hn,ho,h=>by
  have hn:=AXL.1 (show(p.1::names L).Nodup from hn);refine AH.GU (by rw[Hu hn.1];exact ho _ (AW1 ..)) ?_;refine AH.Cd hn.2 (fun b hb=>ho b (AWq _ hb)) (h.mono fun e τ' hr JJ HC=>hr fun b hb=>?_);rcases AWo.1 (show b∈p.1::names L from hb) with rfl|hb
  ·rw[Hu hn.1]at HC;exact HC
  ·exact JJ b hb
theorem AH.Fm {P:Program}{τ:Hp}{L:List (Nat×Obj)}{i b n o:Nat}{T t:TypeId}{c c':Array Value}{v:Value}{Φ:Unit→Hp→Prop}(hz:∀w,(Go.sizeOf T).run P w=.ok n w)(hn:(names L).Nodup)(hi:L[i]?=some (b,.cells c t (0,0)))
  (hv:v.cells.size=n) (hl:Nat.ble (o+n) c.size=true) (h1:(v.cells.toList.all fun u=>u.oneCell')=true) (hc:Lt c o v.cells.toList=c') (h:Φ () (AU τ (L.set i (b,.cells c' t (0,0))))) :
  AH P (Instr.storeAt T (.pointer (some ⟨b,o,none⟩)) v) (AU τ L) Φ:=by
 subst hc;refine AH.store hz (A2 hn hi) hv (AXZ hl) (fun u hu=>AXj.1 h1 u hu) ?_;rw[FR hn hi];exact h
theorem Pj {τ:Hp}{L:List (Nat×Obj)}{i b o:Nat}{t:TypeId}{c:Array Value}{v:Value}(hn:(names L).Nodup)(hi:L[i]?=some (b,.cells c t (0,0)))(h:c[o]?=some v):Hp.ld (AU τ L) ⟨b,o,none⟩=some v:=by
 simp[Hp.ld,A2 hn hi,h]
end Tw
end
section
namespace Tw
open Go Go.MapKept
variable [Ei]
def Ri (p:Option Addr):List Nat:=match p with
 | some a=>[a.block]
 | none=>[]
structure Loc (A:Hp→Prop)(σ:Hp)(S:List Nat):Prop where
 here:A σ
 known:∀b∈S,σ b≠none
 loc:∀σ',(∀b∈S,σ' b=σ b)→A σ'
section
variable {P:Program}{σ:Hp}{α:Type}
theorem AH.obj {m:Sem α}{b:Nat}{o o':Obj}{v:α}{Φ:α→Hp→Prop}(hb:σ b=some o)(hm:∀w,Sat σ w→∃w1:World,(w1=w∨w1=w.drew)∧m.run P w=.ok v (ChangeMaps.setBlock w1 b o'))(h:Φ v (σ.set b o')):AH P m σ Φ:=fun w F hs hF=>by
 obtain⟨w1,hw,BC⟩:=hm w hs;have Am:b<w.heap.size:=(AW3.1 (hs b o hb)).1;have M4:w1.heap=w.heap:=by rcases hw with rfl|rfl<;>rfl
 refine⟨v,_,_,BC,h,fun k u hk=>?_,fun k hk=>?_,?_,?_,?_⟩
 ·simp only[ChangeMaps.setBlock,M4];by_cases Gn:k=b
  ·subst Gn;rw[Hp.AA]at hk;cases hk;simp[Am]
  ·rw[Hp.AF Gn]at hk;simp[AXn Gn,hs k u hk]
 ·have Gn:k≠b:=fun e=>by have:=(hF k hk).2;rw[e,hb]at this;cases this
  refine⟨by rw[Hp.AF Gn];exact(hF k hk).2,?_⟩;simp[ChangeMaps.setBlock,M4,AXn Gn]
 ·rcases hw with rfl|rfl
  ·exact .same rfl rfl rfl
  ·exact⟨rfl,rfl,fun _=>⟨1,rfl⟩⟩
 ·rcases hw with rfl|rfl<;>rfl
 ·simp[ChangeMaps.setBlock,M4]
theorem AH.new {m:Sem α}{o:Obj}{v:Nat→α}{Φ:α→Hp→Prop}(hm:∀w,Sat σ w→m.run P w=.ok (v w.heap.size) (w.alloc o))(h:∀b,σ b=none→Φ (v b) (σ.set b o)):AH P m σ Φ:=fun w F hs hF=>
 ⟨_,_,_,hm w hs,h _ (FI hs),Fin.alloc hs hF _ rfl (.same rfl rfl rfl) rfl⟩
class qB (P:Program)(T:TypeId)(K V:outParam TypeId):Prop where
 fU:P.underlying T=some (.map K V)
 key:P.underlying K=some .string
def BV (σ:Hp)(b:Nat)(l:List MapEntry)(clock:Nat):Prop:=σ b=some (.map l.toArray clock)∧Stamped l.toArray clock∧∀x∈l,IsKey .string x.key
theorem BV.mono {σ σ':Hp}{b:Nat}{l:List MapEntry}{clock:Nat}(h:BV σ b l clock)(hx:Ext σ σ'):BV σ' b l clock:=⟨hx _ _ h.1,h.2⟩
theorem BV.loc {σ σ':Hp}{b:Nat}{l:List MapEntry}{clock:Nat}(h:BV σ b l clock)(hx:σ' b=σ b):BV σ' b l clock:=⟨hx.trans h.1,h.2⟩
theorem BV.nodup {σ:Hp}{b:Nat}{l:List MapEntry}{clock:Nat}(h:BV σ b l clock):(l.map (·.key)).Nodup:=h.2.1.2.2
theorem E7 {s:ByteArray}{l:List MapEntry}(hk:∀x∈l,IsKey .string x.key):
  (Instr.findNow .string (.string s) l 0=some none∧∀x∈l,x.key≠.string s)∨∃l1 e l2,l=l1++e::l2∧e.key=.string s∧Instr.findNow .string (.string s) l 0=some (some (l1.length,e.val)):=by
 rcases findNow_spec (d:=.string) (k:=.string s) trivial l 0 hk with h|⟨j,e,h1,h2,h3⟩
 ·exact .inl h
 ·obtain⟨hj,rfl⟩:=AWk.1 h2;refine .inr ⟨l.take j,l[j],l.drop (j+1),?_,h3,?_⟩
  ·rw[AY5,AXr]
  ·rw[h1];simp[AZE (Nat.le_of_lt hj)]
section
variable {T K V ty:TypeId}{b clock:Nat}{l:List MapEntry}{s:ByteArray}
theorem EC {Φ:Value→Hp→Prop}(h:∀b,σ b=none→Φ (.map (some b)) (σ.set b (.map #[] 0))):AH P (Instr.makeMap T none) σ Φ:=
 AH.new (v:=fun b=>.map (some b)) (fun w _=>by simp[Instr.makeMap,Result.andThen]) h
theorem BV.fresh {b:Nat}{σ:Hp}:BV (σ.set b (.map #[] 0)) b [] 0:=⟨Hp.AA _ _ _,stamped_empty 0,by simp⟩
theorem Pm [t:qB P T K V](hm:BV σ b l clock){z:Value}(hz:∀w,(zeroValue V).run P w=.ok z w){Q:Value→Prop}
  (h0:(∀x∈l,x.key≠.string s)→Q z) (h1:∀l1 e l2,l=l1++e::l2→e.key=.string s→Q e.val):∃v,Q v∧YF P (Instr.lookup T (.map (some b)) (.string s) false) σ v:=by
 rcases E7 (s:=s) hm.2.2 with ⟨hf,hn⟩|⟨l1,e,l2,hl,he,hf⟩
 ·refine⟨z,h0 hn,fun w hs=>?_⟩;have:=hs _ _ hm.1;simp[Instr.lookup,run_underlying t.fU,run_getObj_map this,run_checkKey t.key (k:=.string s) trivial,run_findKey t.key hf,hz,Result.andThen]
 ·refine⟨e.val,h1 l1 e l2 hl he,fun w hs=>?_⟩;have:=hs _ _ hm.1;simp[Instr.lookup,run_underlying t.fU,run_getObj_map this,run_checkKey t.key (k:=.string s) trivial,run_findKey t.key hf,Result.andThen]
theorem Mg [t:qB P T K V](hm:BV σ b l clock){z:Value}(hz:∀w,(zeroValue V).run P w=.ok z w){Φ:Value→Hp→Prop}
  (h0:(∀x∈l,x.key≠.string s)→Φ z σ) (h1:∀l1 e l2,l=l1++e::l2→e.key=.string s→Φ e.val σ):AH P (Instr.lookup T (.map (some b)) (.string s) false) σ Φ:=by
 obtain⟨v,hq,hy⟩:=Pm (T:=T) (K:=K) (s:=s) (Q:=fun v=>Φ v σ) hm hz h0 h1;exact AH.pu hy hq
theorem qC [t:qB P T K V](hm:BV σ b l clock):YF P (Builtin.len_ #[T] ty #[.map (some b)]) σ (.int .i64 l.length):=fun w hs=>by
 have:=hs _ _ hm.1;simp[Builtin.len_,run_underlying t.fU,run_getObj_map this,goInt,Result.andThen]
abbrev M9 (s:ByteArray)(v:Value)(n:Nat):MapEntry:={ key:=.string s,val:=v,born:=n }
theorem HQ [t:qB P T K V](hm:BV σ b l clock){v:Value}{Φ:Unit→Hp→Prop}
  (h0:(∀x∈l,x.key≠.string s)→∀σ',σ'=σ.set b (.map (l++[M9 s v clock]).toArray (clock+1))→BV σ' b (l++[M9 s v clock]) (clock+1)→Φ () σ')
  (h1:∀l1 e l2,l=l1++e::l2→e.key=.string s→∀σ',σ'=σ.set b (.map (l1++M9 s v e.born::l2).toArray clock)→BV σ' b (l1++M9 s v e.born::l2) clock→Φ () σ') :
  AH P (Instr.mapUpdate T (.map (some b)) (.string s) v) σ Φ:=by
 obtain⟨hb,IH,hk⟩:=hm;rcases E7 (s:=s) hk with ⟨hf,hn⟩|⟨l1,e,l2,hl,he,hf⟩
 ·have Y2:(l++[M9 s v clock]).toArray=l.toArray.push (M9 s v clock):=by simp
  refine AH.obj (v:=()) (o':=.map (l++[M9 s v clock]).toArray (clock+1)) hb (fun w hs=>⟨w,.inl rfl,?_⟩) (h0 hn _ rfl ⟨Hp.AA _ _ _,?_,?_⟩)
  ·have:=hs _ _ hb;rw[Y2];simp only[Instr.mapUpdate,Sem.run_bind,run_underlying t.fU,run_getObj_map this,run_checkKey t.key (k:=.string s) trivial,run_findKey t.key hf,Result.andThen_ok];simp[setObj,Sem.run,this,ChangeMaps.setBlock]
  ·rw[Y2];exact stamped_push IH (by simpa using hn)
  ·intro x hx;rcases AW8.1 hx with hx|hx
   ·exact hk x hx
   ·rw[AWs]at hx;subst hx;trivial
 ·subst hl;have qD:(l1++M9 s v e.born::l2).toArray=(l1++e::l2).toArray.modify l1.length (fun e=>{ e with key:=.string s,val:=v }):=by
   rw[←AW5];apply AXm
   intro j;simp only[AXh,AZA,AZB];by_cases hj:l1.length=j
   ·subst hj;simp
   ·rw[AWj hj];rcases AYf j l1.length with h|h
    ·rw[AXW h,AXW h]
    ·have:∃k,j=l1.length+(k+1):=⟨j-l1.length-1,by omega⟩;obtain⟨k,rfl⟩:=this;simp[AXV]
  have Vu:(l1++e::l2).toArray[l1.length]?=some e:=by simp
  refine AH.obj (v:=()) (o':=.map (l1++M9 s v e.born::l2).toArray clock) hb (fun w hs=>⟨w,.inl rfl,?_⟩) (h1 l1 e l2 rfl he _ rfl ⟨Hp.AA _ _ _,?_,?_⟩)
  ·have:=hs _ _ hb;rw[qD];simp only[Instr.mapUpdate,Sem.run_bind,run_underlying t.fU,run_getObj_map this,run_checkKey t.key (k:=.string s) trivial,run_findKey t.key hf,Result.andThen_ok,Vu,AXT,Option.getD_some,he,
    run_keyThatStays (d:=.string) (k:=.string s) trivial]
   simp[setObj,Sem.run,this,ChangeMaps.setBlock]
  ·rw[qD];exact stamped_modify IH _ _ (fun _ _=>rfl) (fun e' _ Vw=>by rw[Vu]at Vw;cases Vw;exact he.symm)
  ·intro x hx;rcases AW8.1 hx with hx|hx
   ·exact hk x (AXz _ hx)
   ·rcases AWo.1 hx with rfl|hx
    ·trivial
    ·exact hk x (AYg _ (AWq _ hx))
end
end
end Tw
end
section
theorem Tw.Hp.Bu {σ:Tw.Hp}{b k:Nat}{o:Go.Obj}(h:(σ.set b o) k=none):k≠b∧σ k=none:=by
 have Ay:k≠b:=fun e=>by rw[e,Tw.Hp.AA]at h;cases h
 exact⟨Ay,by rw[Tw.Hp.AF Ay]at h;exact h⟩
namespace qE
open Go Go.MapKept Tw
variable [Ei]
section
variable {P:Program}{σ:Hp}
class tE (P:Program)(T:TypeId)(K V:outParam TypeId):Prop where
 fU:P.underlying T=some (.map K V)
 key:P.underlying K=some (.int .i64)
def BV (σ:Hp)(b:Nat)(l:List MapEntry)(clock:Nat):Prop:=σ b=some (.map l.toArray clock)∧Stamped l.toArray clock∧∀x∈l,IsKey (.int .i64) x.key
theorem BV.loc {σ σ':Hp}{b:Nat}{l:List MapEntry}{clock:Nat}(h:BV σ b l clock)(hx:σ' b=σ b):BV σ' b l clock:=⟨hx.trans h.1,h.2⟩
theorem E7 {s:Int}{l:List MapEntry}(hk:∀x∈l,IsKey (.int .i64) x.key):
  (Instr.findNow (.int .i64) (.int .i64 s) l 0=some none∧∀x∈l,x.key≠.int .i64 s)∨∃l1 e l2,l=l1++e::l2∧e.key=.int .i64 s∧Instr.findNow (.int .i64) (.int .i64 s) l 0=some (some (l1.length,e.val)):=by
 rcases findNow_spec (d:=.int .i64) (k:=.int .i64 s) rfl l 0 hk with h|⟨j,e,h1,h2,h3⟩
 ·exact .inl h
 ·obtain⟨hj,rfl⟩:=AWk.1 h2;refine .inr ⟨l.take j,l[j],l.drop (j+1),?_,h3,?_⟩
  ·rw[AY5,AXr]
  ·rw[h1];simp[AZE (Nat.le_of_lt hj)]
section
variable {T K V ty:TypeId}{b clock:Nat}{l:List MapEntry}{s:Int}
theorem BV.fresh {b:Nat}{σ:Hp}:BV (σ.set b (.map #[] 0)) b [] 0:=⟨Hp.AA _ _ _,stamped_empty 0,by simp⟩
theorem Pm [t:tE P T K V](hm:BV σ b l clock){z:Value}(hz:∀w,(zeroValue V).run P w=.ok z w){Q:Value→Prop}
  (h0:(∀x∈l,x.key≠.int .i64 s)→Q z) (h1:∀l1 e l2,l=l1++e::l2→e.key=.int .i64 s→Q e.val):∃v,Q v∧YF P (Instr.lookup T (.map (some b)) (.int .i64 s) false) σ v:=by
 rcases E7 (s:=s) hm.2.2 with ⟨hf,hn⟩|⟨l1,e,l2,hl,he,hf⟩
 ·refine⟨z,h0 hn,fun w hs=>?_⟩;have:=hs _ _ hm.1;simp[Instr.lookup,run_underlying t.fU,run_getObj_map this,run_checkKey t.key (k:=.int .i64 s) rfl,run_findKey t.key hf,hz,Result.andThen]
 ·refine⟨e.val,h1 l1 e l2 hl he,fun w hs=>?_⟩;have:=hs _ _ hm.1;simp[Instr.lookup,run_underlying t.fU,run_getObj_map this,run_checkKey t.key (k:=.int .i64 s) rfl,run_findKey t.key hf,Result.andThen]
theorem Mg [t:tE P T K V](hm:BV σ b l clock){z:Value}(hz:∀w,(zeroValue V).run P w=.ok z w){Φ:Value→Hp→Prop}
  (h0:(∀x∈l,x.key≠.int .i64 s)→Φ z σ) (h1:∀l1 e l2,l=l1++e::l2→e.key=.int .i64 s→Φ e.val σ):AH P (Instr.lookup T (.map (some b)) (.int .i64 s) false) σ Φ:=by
 obtain⟨v,hq,hy⟩:=Pm (T:=T) (K:=K) (s:=s) (Q:=fun v=>Φ v σ) hm hz h0 h1;exact AH.pu hy hq
theorem qC [t:tE P T K V](hm:BV σ b l clock):YF P (Builtin.len_ #[T] ty #[.map (some b)]) σ (.int .i64 l.length):=fun w hs=>by
 have:=hs _ _ hm.1;simp[Builtin.len_,run_underlying t.fU,run_getObj_map this,goInt,Result.andThen]
abbrev M9 (s:Int)(v:Value)(n:Nat):MapEntry:={ key:=.int .i64 s,val:=v,born:=n }
theorem HQ [t:tE P T K V](hm:BV σ b l clock){v:Value}{Φ:Unit→Hp→Prop}
  (h0:(∀x∈l,x.key≠.int .i64 s)→∀σ',σ'=σ.set b (.map (l++[M9 s v clock]).toArray (clock+1))→BV σ' b (l++[M9 s v clock]) (clock+1)→Φ () σ')
  (h1:∀l1 e l2,l=l1++e::l2→e.key=.int .i64 s→∀σ',σ'=σ.set b (.map (l1++M9 s v e.born::l2).toArray clock)→BV σ' b (l1++M9 s v e.born::l2) clock→Φ () σ') :
  AH P (Instr.mapUpdate T (.map (some b)) (.int .i64 s) v) σ Φ:=by
 obtain⟨hb,IH,hk⟩:=hm;rcases E7 (s:=s) hk with ⟨hf,hn⟩|⟨l1,e,l2,hl,he,hf⟩
 ·have Y2:(l++[M9 s v clock]).toArray=l.toArray.push (M9 s v clock):=by simp
  refine AH.obj (v:=()) (o':=.map (l++[M9 s v clock]).toArray (clock+1)) hb (fun w hs=>⟨w,.inl rfl,?_⟩) (h0 hn _ rfl ⟨Hp.AA _ _ _,?_,?_⟩)
  ·have:=hs _ _ hb;rw[Y2];simp only[Instr.mapUpdate,Sem.run_bind,run_underlying t.fU,run_getObj_map this,run_checkKey t.key (k:=.int .i64 s) rfl,run_findKey t.key hf,Result.andThen_ok];simp[setObj,Sem.run,this,ChangeMaps.setBlock]
  ·rw[Y2];exact stamped_push IH (by simpa using hn)
  ·intro x hx;rcases AW8.1 hx with hx|hx
   ·exact hk x hx
   ·rw[AWs]at hx;subst hx;rfl
 ·subst hl;have qD:(l1++M9 s v e.born::l2).toArray=(l1++e::l2).toArray.modify l1.length (fun e=>{ e with key:=.int .i64 s,val:=v }):=by
   rw[←AW5];apply AXm
   intro j;simp only[AXh,AZA,AZB];by_cases hj:l1.length=j
   ·subst hj;simp
   ·rw[AWj hj];rcases AYf j l1.length with h|h
    ·rw[AXW h,AXW h]
    ·have:∃k,j=l1.length+(k+1):=⟨j-l1.length-1,by omega⟩;obtain⟨k,rfl⟩:=this;simp[AXV]
  have Vu:(l1++e::l2).toArray[l1.length]?=some e:=by simp
  refine AH.obj (v:=()) (o':=.map (l1++M9 s v e.born::l2).toArray clock) hb (fun w hs=>⟨w,.inl rfl,?_⟩) (h1 l1 e l2 rfl he _ rfl ⟨Hp.AA _ _ _,?_,?_⟩)
  ·have:=hs _ _ hb;rw[qD];simp only[Instr.mapUpdate,Sem.run_bind,run_underlying t.fU,run_getObj_map this,run_checkKey t.key (k:=.int .i64 s) rfl,run_findKey t.key hf,Result.andThen_ok,Vu,AXT,Option.getD_some,he,
    run_keyThatStays (d:=.int .i64) (k:=.int .i64 s) rfl]
   simp[setObj,Sem.run,this,ChangeMaps.setBlock]
  ·rw[qD];exact stamped_modify IH _ _ (fun _ _=>rfl) (fun e' _ Vw=>by rw[Vu]at Vw;cases Vw;exact he.symm)
  ·intro x hx;rcases AW8.1 hx with hx|hx
   ·exact hk x (AXz _ hx)
   ·rcases AWo.1 hx with rfl|hx
    ·rfl
    ·exact hk x (AYg _ (AWq _ hx))
end
end
end qE
end
section
namespace Tw
open Go
variable [Ei]
def Tg (s:ByteArray):List Value:=s.data.toList.map fun b=>.int .u8 b.toNat
theorem qF {s:ByteArray}:(Tg s).length=s.size:=by simp[Tg]
theorem qG {s:ByteArray}:Ey (Tg s):=fun u hu=>by obtain⟨x,_,rfl⟩:=AXB.1 hu;rfl
section append
variable {P:Program}{T E ty:TypeId}{bs:Nat}{σ:Hp}{p:Option Addr}{n c m:Nat}{cs ys:List Value}{Φ:Value→Hp→Prop}
theorem Th {str:ByteArray}(w:World)(size:Nat):(Builtin.firstCells size str.size (.string str)).run P w=.ok (Tg str).toArray w:=by
 have hx:(Array.map (fun b:UInt8=>Value.int IntKind.u8 (b.toNat:Int)) str.data).extract 0 str.size=(Tg str).toArray:=by
  have hs:str.size=(Array.map (fun b:UInt8=>Value.int IntKind.u8 (b.toNat:Int)) str.data).size:=by rw[Array.size_map];rfl
  rw[hs,AZO];apply AZq
  simp[Tg]
 have A4:Array.map (fun b:UInt8=>Value.int IntKind.u8 (b.toNat:Int)) str.data=(Tg str).toArray:=by apply AZq;simp[Tg]
 simp[Builtin.firstCells,A4]
theorem vI [h:I3 P T E 1 bs]{U:TypeId}{str:ByteArray}(hU:P.underlying U=some .string)(BS:Ao 1 σ p n c cs)(hm:str.size=m)(se:Tg str=ys)(hb:(n+m)*bs≤140737488355328)
  (hΦ:∀p' c' σ',Ao 1 σ' p' (n+m) c' (cs++ys)→Ext (σ.del p) (σ'.del p')→((p'=p∧c'=c∧n+m≤c)∨(c<n+m∧Ext σ σ'∧∀a,p'=some a→σ a.block=none))→Φ (.slice p' (n+m) c') σ') :
  AH P (Builtin.append_ #[T,U] ty #[.slice p n c,.string str]) σ Φ:=by
 obtain⟨ht,⟨i,z,hi,hz,Io,rfl,hzs⟩,Rc,lu⟩:=h;have h1:Ey ys:=se▸qG;have hyl:ys.length=m*1:=by rw[←se,←hm,AYJ];exact qF
 have h62:n+m≤140737488355328:=AXD (AY1 _ lu) hb;intro w F hs hF;have hf:=Th (P:=P) (str:=str) w 1;rw[se,hm]at hf;have hf':=fun w':World=>Th (P:=P) (str:=str) w' 1;rw[se,hm] at hf';have Qp:=fun w' (hw:Sat σ w')=>Kr (P:=P) (d:=c) w' hw BS.rd;have hlen:(cs++ys).length=(n+m)*1:=by rw[AWz,BS.1,hyl,AXs]
 by_cases G3:n+m≤c
 ·
  rcases BS.2.2 with ⟨hp,hn,hc⟩|⟨b,o,arr,T',rfl,hblk,fT,Qo,Lu⟩
  ·subst hp hn hc;have hm:m=0:=by omega
   subst hm;have se:ys=[]:=AXo (by simpa using hyl);have Lu:cs=[]:=AXo (by simpa using BS.1);subst se Lu;refine⟨.slice none 0 0,w,σ,?_,hΦ none 0 σ Ao.nil (Ext.refl _) (.inl ⟨rfl,rfl,G3⟩),hs,fun b hb=>⟨(hF b hb).2,rfl⟩,.same rfl rfl rfl,rfl,AWu _⟩;simp[Builtin.append_,run_underlying ht,run_underlying hU,Io,hm,Go.sizeOf,typeInfo,hi,Builtin.lenOf,hf]
  ·have hw:=hs _ _ hblk;have zd:o+n*1+0+ys.length≤arr.size:=by
    rw[hyl];have:(n+m)*1≤c*1:=AXR _ G3;rw[AXs]at this;omega
   have IH:=EJ (P:=P) b (o+n*1) T' ys 0 arr w hw zd h1;simp only[AX1,AYJ]at IH;refine⟨.slice (some ⟨b,o,none⟩) (n+m) c,w.setRow b (Lt arr (o+n) ys),σ.set b (.cells (Lt arr (o+n) ys) T' (0,0)),?_,hΦ _ _ _ ⟨hlen,by omega,.inr ⟨b,o,_,T',rfl,Hp.AA _ _ _,G3,by rw[Hf];exact Qo,?_⟩⟩ (by rw[Hp.IM];exact Ext.refl _) (.inl ⟨rfl,rfl,G3⟩),?_⟩
   ·simp[Builtin.append_,run_underlying ht,run_underlying hU,Io,hm,Go.sizeOf,typeInfo,hi,Builtin.lenOf,G3,hf,Bl,IH]
   ·refine AXm fun j=>?_;rw[AW4];simp only[AXQ,AXh];rw[Q8 _ _ _ _ (by omega),AXt];have e1:cs.length=n*1:=BS.1;have e2:ys.length=m*1:=hyl;have e3:(n+m)*1=n*1+m*1:=AXs ..;by_cases lv:j<cs.length
    ·rw[AWl (by omega),AWj (by omega),AWl lv,←Lu,AW4,AWl (by omega)];simp
    ·rw[AWj lv];by_cases hj2:j<(n+m)*1
     ·rw[AWl hj2,AWl (by omega),show o+j-(o+n)=j-cs.length by omega]
     ·rw[AWj hj2,AX6 (by omega)]
   ·refine⟨fun k u hk=>?_,fun k hk=>?_,.same rfl rfl rfl,rfl,by simp⟩
    ·by_cases Gn:k=b
     ·subst Gn;rw[Hp.AA]at hk;cases hk;exact setRow_heap w k arr _ T' (0,0) hw
     ·rw[Hp.AF Gn]at hk;rw[setRow_other _ _ _ _ Gn];exact hs k u hk
    ·have Gn:k≠b:=fun h=>by have:=(hF k hk).2;rw[h,hblk]at this;cases this
     exact⟨by rw[Hp.AF Gn];exact(hF k hk).2,setRow_other _ _ _ _ Gn⟩
 ·
  have AEW:Builtin.nextslicecap (n+m) c*i.bytes≤281474976710656:=growslice_fits (by omega) hb;have hgc:=grownCap_ge w (n+m) c E;have Re:Sat σ w.drew:=hs;have BC:(Builtin.append_ #[T,U] ty #[.slice p n c,.string str]).run P w =
    .ok (.slice (some ⟨w.heap.size,0,none⟩) (n+m) (grownCap w (n+m) c E))
     (w.drew.alloc (.cells (cs.toArray++ys.toArray++Builtin.zeroCells z.cells (grownCap w (n+m) c E-(n+m))) E)):=by
   have ze:¬(9223372036854775807<((n:Int)+(m:Int))):=by omega
   have zf:¬(281474976710656<Builtin.nextslicecap (n+m) c*i.bytes):=by omega
   simp[Builtin.append_,run_underlying ht,run_underlying hU,Io,hm,Go.sizeOf,typeInfo,zeroValue,hi,hz,Builtin.lenOf,G3,ze,zf,Question.forced,hf',Qp _ Re,newRow,grownCap]
   congr 2
   apply AZq
   simp[AXf]
  refine⟨_,_,σ.set w.heap.size _,BC,hΦ _ _ _ ⟨hlen,by omega,.inr ⟨w.heap.size,0,_,E,rfl,Hp.AA _ _ _,hgc,?_,?_⟩⟩ ?_ (.inr ⟨by omega,Ext.set (FI hs),fun a ha=>by cases ha;exact FI hs⟩),Fin.alloc hs hF _ rfl ⟨rfl,rfl,fun _=>⟨1,rfl⟩⟩ rfl⟩
  ·simp only[AZX,AZY,size_zeroCells,hzs,BS.1,hyl,←AXs];have:n+m+(grownCap w (n+m) c E-(n+m))=grownCap w (n+m) c E:=by omega
   rw[this];omega
  ·simp only[AZM,AZN];rw[←hlen];exact AZm
  ·rw[Hp.M5 (FI hs)];exact Ext.JR σ p
end append
end Tw
end
section
namespace Tw
open Go
variable [Ei]
def Hp.or (N M:Hp):Hp:=fun k=>match N k with | some o=>some o | none=>M k
def Hp.minus (σ N:Hp):Hp:=fun k=>match N k with | some _=>none | none=>σ k
def vJ (N M:Hp):Prop:=∀k,M k≠none→N k=none
theorem Hp.U2 {N M:Hp}{k:Nat}{o:Obj}(h:N k=some o):N.or M k=some o:=by simp[Hp.or,h]
theorem Hp.Mh {N M:Hp}{k:Nat}(h:N k=none):N.or M k=M k:=by simp[Hp.or,h]
theorem Ext.U2 (N M:Hp):Ext N (N.or M):=fun _ _ h=>Hp.U2 h
theorem Ext.Mh {N M:Hp}(hd:vJ N M):Ext M (N.or M):=fun k o h=>by rw[Hp.Mh (hd k (by rw[h];simp))];exact h
theorem Ext.Y3 {N M σ:Hp}(h1:Ext N σ)(h2:Ext M σ):Ext (N.or M) σ:=fun k o h=>by
 unfold Hp.or at h;split at h
 ·rename_i u hu;cases h;exact h1 _ _ hu
 ·exact h2 _ _ h
theorem Hp.Gg {σ N:Hp}{k:Nat}{o:Obj}:σ.minus N k=some o↔N k=none∧σ k=some o:=by
 unfold Hp.minus;cases N k<;>simp
theorem Ext.Y4 (σ N:Hp):Ext (σ.minus N) σ:=fun _ _ h=>(Hp.Gg.1 h).2
theorem vJ.minus (σ N:Hp):vJ N (σ.minus N):=fun k h=>by
 cases hh:σ.minus N k with
 | none=>exact absurd hh h
 | some o=>exact(Hp.Gg.1 hh).1
theorem Spec.qH {P:Program}{f:FuncId}{args:Array Value}{N M σ:Hp}{R:Rr}(hN:Ext N σ)(hM:Ext M σ)(hd:vJ N M)
  (h:Spec P f args N (fun e N'=>vJ N' M→R e (N'.or M))):Spec P f args σ R:=fun w F hs hF=>by
 have hMs:∀k,M k≠none→∃o,M k=some o∧w.heap[k]?=some o:=fun k hk=>by
  cases hh:M k with
  | none=>exact absurd hh hk
  | some o=>exact⟨o,rfl,hs _ _ (hM _ _ hh)⟩
 refine(h w (fun k=>F k∨M k≠none) (fun k o hk=>hs _ _ (hN _ _ hk)) fun k hk=>?_).mono ?_
 ·rcases hk with hk|hk
  ·exact⟨(hF k hk).1,Ae hN (hF k hk).2⟩
  ·obtain⟨o,_,ho⟩:=hMs k hk;exact⟨(AW3.1 ho).1,hd k hk⟩
 ·rintro e w' ⟨N',hr,hf⟩
  have hd':vJ N' M:=fun k hk=>(hf.CV k (.inr hk)).1;refine⟨N'.or M,hr hd',fun k o hk=>?_,fun k hk=>⟨?_,(hf.CV k (.inl hk)).2⟩,hf.os,hf.out,hf.grow⟩
  ·unfold Hp.or at hk;split at hk
   ·rename_i u hu;cases hk;exact hf.sat _ _ hu
   ·have Ay:M k≠none:=by rw[hk];simp
    obtain⟨o',h1,h2⟩:=hMs k Ay;rw[hk]at h1;cases h1;rw[(hf.CV k (.inr Ay)).2];exact h2
  ·rw[Hp.Mh (hf.CV k (.inl hk)).1];exact Ae hM (hF k hk).2
end Tw
end
section
namespace TwW
open Go Tw Go.Proofs.Tryz
theorem Af {σ:Hp}{b o:Nat}{c:Array Value}{t:TypeId}{fr:Nat×Nat}{v:Value}(h:σ b=some (.cells c t fr))(hv:c[o]?=some v):σ.ld ⟨b,o,none⟩=some v:=by simp[Hp.ld,h,hv]
section
variable {σ:Hp}{d:Nat}{S:List Nat}{R:Rr}
end
end TwW
namespace TwW
open Go Tw Go.Proofs.Tryz
section
variable {σ:Hp}{d:Nat}{S:List Nat}{R:Rr}
theorem Ao.cap {s:Nat}{σ:Hp}{p:Option Addr}{n c:Nat}{cs:List Value}(h:Ao s σ p n c cs):n≤c:=by
 rcases h.2.2 with ⟨_,h1,h2⟩|⟨b,o,arr,T,_,_,h3,_⟩
 ·omega
 ·exact h3
end
end TwW
namespace TwW
open Go Tw Go.Proofs.Tryz
def uv (x:Nat):List Int:=if h:128≤x then((x%128+128:Nat):Int)::uv (x/128) else[(x:Int)]
termination_by x
decreasing_by omega
theorem Mi {x:Nat}(h:128≤x):uv x=((x%128+128:Nat):Int)::uv (x/128):=by rw[uv,dif_pos h]
theorem Ec {x:Nat}(h:¬128≤x):uv x=[(x:Int)]:=by rw[uv,dif_neg h]
theorem qI:∀(k x:Nat),x<128^(k+1)→(uv x).length≤k+1
 | 0,x,h=>by rw[Ec (by simpa using h)];simp
 | k+1,x,h=>by
  by_cases hx:128≤x
  ·rw[Mi hx];have:=qI k (x/128) (by rw[AY9 (by decide)];rw[AZx]at h;exact h);simp;omega
  ·rw[Ec hx];simp
theorem KU {x:Nat}(h:x<18446744073709551616):(uv x).length≤10:=qI 9 x (by omega)
set_option maxRecDepth 100000 in
theorem AI8:∀y:Fin 256,Go.bits .or .u8 (y.1:Int) 128=((y.1%128+128:Nat):Int):=by decide
theorem Nc {R:Rr}{σ:Hp}{p:Option Addr}{n c x:Nat}{xs:List Int}(hr:Ev .u8 σ p n xs)(hn:n≤70368744177664)(hx:x<18446744073709551616)
  (h:∀p' n' c' σ',DT .u8 (σ.new σ') p' n' c' (xs++uv x)→Ext σ σ'→R (.returned (.slice p' n' c')) σ'):Spec prog 51 #[.slice p n c,.U x] σ R:=by
 refine DX.start fun b hb=>?_;refine CE Ao.empty ((Gq.of_map hr).mono (.set hb)) Ey.Q9 (by omega) fun p' c' σ' BS Ip=>?_;have hq:∀a:Addr,(some (⟨b,0,none⟩:Addr))=some a→σ a.block=none:=fun a ha=>by cases ha;exact hb
 have ho:=Ao.PI BS (Ez hq Ip (.set hb));have he:=IN hq Ip (.set hb);refine⟨p',0+n,c',rfl,?_⟩;rw[AXl]at ho ⊢;have hlen:=hr.1
 suffices H:∀(k x n':Nat) p' c' σ' ys,x<128^(k+1)→n'+k≤n+9→DT .u8 (σ.new σ') p' n' c' ys→Ext σ σ'→(∀p' n' c' σ',DT .u8 (σ.new σ') p' n' c' (ys++uv x)→Ext σ σ'→R (.returned (.slice p' n' c')) σ')→DX.Ho R x p' n' c' σ' from
  H 9 x n p' c' σ' xs (by omega) (by omega) ho he h
 intro k
 induction k with
 | zero=>
  intro x n' p' c' σ' ys hx hn' ho he h;refine DX.BJ ⟨fun Am=>by omega,fun _ jv AB2 b2 ft=>?_⟩;have dq:jv=(x:Int):=by rw[AB2];simp[IntKind.wrap,IntKind.bits,IntKind.signed];omega
  subst dq;refine DT.LZ he ho (by omega) (fun p2 c2 σ2 Bp tF _=>⟨p2,n'+1,c2,rfl,h _ _ _ _ ?_ tF⟩) ft;rw[Ec (by omega)];exact Bp
 | succ k ih=>
  intro x n' p' c' σ' ys hx hn' ho he h;refine DX.BJ ⟨fun Am x15 AOB x16 AOC b2 ft=>?_,fun Vu jv AB2 b2 ft=>?_⟩
  ·have h15:x15=((x%256:Nat):Int):=by rw[AOB];simp[IntKind.wrap,IntKind.bits,IntKind.signed]
   have h16:x16=((x%128+128:Nat):Int):=by
    rw[AOC,h15,AI8 ⟨x%256,AYy _ (by decide)⟩];have:x%256%128=x%128:=by omega
    rw[this]
   subst h16;refine DT.LZ he ho (by omega) (fun p2 c2 σ2 Bp tF _=>⟨p2,n'+1,c2,rfl,by simp[IntKind.bits],fun x12 AOD=>?_⟩) ft;have Y5:x12=((x/128:Nat):Int):=by rw[AOD];simp
   subst Y5;refine ih (x/128) (n'+1) p2 c2 σ2 _ (by rw[AY9 (by decide)];rw[AZx]at hx;exact hx) (by omega) Bp tF fun p3 n3 c3 σ3 Db he3=>h p3 n3 c3 σ3 ?_ he3;rw[Mi (by omega)];simpa using Db
  ·have dq:jv=(x:Int):=by rw[AB2];simp[IntKind.wrap,IntKind.bits,IntKind.signed];omega
   subst dq;refine DT.LZ he ho (by omega) (fun p2 c2 σ2 Bp tF _=>⟨p2,n'+1,c2,rfl,h _ _ _ _ ?_ tF⟩) ft;rw[Ec (by omega)];exact Bp
theorem dt:∀(v w:Nat) (r s:List Int),uv v++r=uv w++s→v=w∧r=s:=by
 intro v
 induction v using Nat.strongRecOn with
 | _ v ih=>
 intro w r s h;by_cases hv:128≤v<;>by_cases hw:128≤w
 ·rw[Mi hv,Mi hw]at h;simp only[AXb,AYB]at h;have:=ih (v/128) (by omega) (w/128) r s h.2;exact⟨by omega,this.2⟩
 ·rw[Mi hv,Ec hw]at h;simp only[AXb,AYB]at h;omega
 ·rw[Ec hv,Mi hw]at h;simp only[AXb,AYB]at h;omega
 ·rw[Ec hv,Ec hw]at h;simp only[AXb,AXi,AYB]at h;exact⟨by omega,h.2⟩
end TwW
namespace TwW
open Go Tw Go.RowKit Go.Proofs.Tryz
theorem Gq.at1 {σ:Hp}{p:Option Addr}{n k:Nat}{L:List Value}{v:Value}(h:Gq 1 σ p n L)(hk:L[k]?=some v):∃b o,p=some ⟨b,o,none⟩∧σ.ld ⟨b,o+k*1,none⟩=some v:=by
 obtain⟨h1,_,h2⟩:=h;have Am:=(AWk.1 hk).1;rcases h2 with h2|⟨b,o,hp,hl⟩
 ·simp at h1;omega
 ·refine⟨b,o,hp,?_⟩;rw[AYJ];exact hl.get hk
section
variable {σ τ:Hp}{d:Nat}{R:Rr}
end
section
variable {dir:ByteArray}{cnt:Nat}
end
end TwW
namespace TwW
open Go Tw Go.RowKit Go.Proofs.Tryz
def bT (s:ByteArray):List Int:=s.data.toList.map fun b=>(b.toNat:Int)
theorem LJ {s:ByteArray}:(bT s).length=s.size:=by simp[bT]
theorem qJ {s:ByteArray}:Tg s=(bT s).map (.int .u8):=by simp[Tg,bT]
theorem Ti (l:List UInt8):strOfNums (l.map fun b=>(b.toNat:Int))=⟨l.toArray⟩:=by
 apply AZT
 apply AW5.1
 rw[strOfNums_data,AZG]
 conv=>rhs;rw[←List.map_id l]
 exact List.map_congr_left fun a _=>by simp
theorem Vx {s:ByteArray}:strOfNums (bT s)=s:=by
 rw[bT,Ti]
theorem gi {s t:ByteArray}(h:bT s=bT t):s=t:=by rw[←Vx (s:=s),h,Vx]
section
variable {σ:Hp}{R:Rr}
theorem Nf {p:Option Addr}{n c:Nat}{xs:List Int}{s:ByteArray}(hr:Ev .u8 σ p n xs)(hn:n≤1048576)(hs:s.size≤1048576)
  (h:∀p' n' c' σ',DT .u8 (σ.new σ') p' n' c' (xs++uv s.size++bT s)→Ext σ σ'→R (.returned (.slice p' n' c')) σ'):Spec prog 52 #[.slice p n c,.string s] σ R:=by
 refine Ly.start fun x8 h8=>?_;have e8:x8=(s.size:Int):=by rw[h8];simp[IntKind.wrap,IntKind.bits,IntKind.signed];omega
 subst e8;refine Nc hr (by omega) (by omega) fun p' n' c' σ1 ho Bi=>⟨p',n',c',rfl,?_⟩;have hq:∀a,p'=some a→σ a.block=none:=fun a ha=>by
  have h2:=Ao.block ho a ha;cases hh:(σ.new σ1) a.block with
  | none=>exact absurd hh h2
  | some o=>exact(AQ.1 hh).1
 have hl:(xs++uv s.size).length=n':=by have:=ho.1;simpa using this
 have Y6:=KU (x:=s.size) (by omega);have lT:xs.length=n:=hr.1;rw[AWz]at hl;refine vI underlying9 (Ao.mono (Ext.CW _ _) ho) rfl qJ (by omega) fun p2 c2 σ2 Bp A4 _=>⟨p2,_,c2,rfl,?_⟩;have ft:=Ez hq A4 Bi;refine h p2 _ c2 σ2 ?_ (IN hq A4 Bi);have:=Ao.PI Bp ft;simpa[DT] using this
theorem QW {p:Option Addr}{n c:Nat}{xs:List Int}(h:DT .u8 σ p n c xs):xs.length=n:=by have:=h.1;simpa using this
theorem qK {s:ByteArray}:(ByteArray.toList s==ByteArray.toList (ByteArray.mk #[]))=decide (s.size=0):=by
 rw[ByteArray.toList_eq,ByteArray.toList_eq];by_cases h:s.size=0
 ·have:s=⟨#[]⟩:=AZT (AYb h);subst this;rfl
 ·rw[AXC h];simp only[AYn];intro e;apply h
  have:=AWy List.length e;simpa using this
end
end TwW
namespace TwW
open Go Tw Go.RowKit Go.Proofs.Tryz
abbrev Lb:=ByteArray×ByteArray
def BM (_:Hp)(vs:List Value)(x:Lb):Prop:=vs=[.string x.1,.string x.2]
theorem BM.mono:Gs BM:=fun _ _ _ _ _ h=>h
abbrev Dz:=Ac 2 BM
section
variable {σ:Hp}{R:Rr}
theorem Dz.at {p:Option Addr}{n i:Nat}{ls:List Lb}{x:Lb}(hr:Dz σ p n ls)(hx:ls[i]?=some x):∃b o,p=some ⟨b,o,none⟩∧Av σ b (o+i*2) [.string x.1,.string x.2]:=by
 obtain⟨b,o,vs,hp,rfl,hl⟩:=Ac.idx hr hx;exact⟨b,o,hp,hl⟩
theorem vK {s t:ByteArray}:(s.toList==t.toList)=decide (s=t):=by
 rw[ByteArray.toList_eq,ByteArray.toList_eq];by_cases h:s=t
 ·subst h;simp
 ·rw[AXC h,AYn];exact fun e=>h (AZT (AW5.1 e))
theorem RM {α:Type}{xs:List α}{k:Nat}{y:α}(hy:xs[k]?=some y):xs.drop k=y::xs.drop (k+1):=by
 obtain⟨h,rfl⟩:=AWk.1 hy;exact AYp h
def Dk:List Lb→ByteArray→ByteArray
 | [],_=>⟨#[]⟩
 | x::l,k=>if x.1=k then x.2 else Dk l k
theorem U3 {p:Option Addr}{n c:Nat}{ls:List Lb}{k:ByteArray}(hr:Dz σ p n ls)(h:R (.returned (.string (Dk ls k))) σ):Spec prog 132 #[.slice p n c,.string k] σ R:=by
 refine Hr.start ?_
 suffices H:∀d i:Nat,n-i=d→i≤n→Dk ls k=Dk (ls.drop i) k→Hr.II R k p n c n i σ from H n 0 rfl (AWx _) rfl
 intro d
 induction d with
 | zero=>
  intro i hd hi he;refine Hr.A8 ⟨fun Am=>by omega,fun _=>?_⟩;rw[AYc (by rw[hr.1];omega)]at he;rw[he]at h;exact h
 | succ d ih=>
  intro i hd hi he;refine Hr.A8 ⟨fun _=>?_,fun hh=>by omega⟩;have Bj:i<n:=by omega
  obtain⟨x,hx⟩:=hr.ex Bj;obtain⟨b,o,rfl,hl⟩:=Dz.at hr hx;rw[RM hx,Dk]at he;refine⟨b,o,rfl,by omega,x.1,x.2,by simpa using hl,fun _=>⟨fun hk=>?_,fun hk=>⟨AN Bj hr.big,ih (i+1) (by omega) (by omega) ?_⟩⟩⟩
  ·rw[vK,AW6]at hk;rw[AWl hk]at he;rw[he]at h;exact h
  ·rw[vK,AXy]at hk;rwa[AWj hk]at he
theorem vL {s:ByteArray}{ok:UInt8→Bool}{pt:Int→Prop}{G:Bool→Prop}
  (Un:G true→pt s.size) (GX:∀(k:Nat) (u:UInt8),k<s.size→s.data[Int.toNat (k:Int)]?=some u→AM ((k:Int)+1)→(ok u=true→pt ((k:Int)+1))→(ok u=false→G false)→pt k)
  (h:G (s.data.toList.all ok)) (hb:s.size≤4611686018427387904):pt 0:=by
 have Qo:s.data.toList.length=s.size:=rfl
 suffices H:∀d k:Nat,s.size-k=d→k≤s.size→(s.data.toList.take k).all ok=true→pt k from H s.size 0 rfl (AWx _) rfl
 intro d
 induction d with
 | zero=>
  intro k hd hk JF;rw[AWt (by omega)]at JF;rw[JF]at h;have:k=s.size:=by omega
  rw[this];exact Un h
 | succ d ih=>
  intro k hd hk JF;have Ew:k<s.size:=by omega
  obtain⟨u,hu⟩:∃u,s.data.toList[k]?=some u:=⟨_,AWm (by omega)⟩;refine GX k u Ew (by simpa using hu) (by unfold AM;omega) (fun hc=>ih (k+1) (by omega) (by omega) (by rw[Ag hu,List.all_append,JF];simpa using hc)) fun hc=>?_;have:s.data.toList.all ok=false:=by
   rw[List.all_eq_false];exact⟨u,AWn hu,by simp[hc]⟩
  rwa[this]at h
def dgt (u:UInt8):Bool:=decide (48≤u.toNat∧u.toNat≤57)
def nch (u:UInt8):Bool:=decide (u.toNat=95∨(48≤u.toNat∧u.toNat≤57)∨(65≤u.toNat∧u.toNat≤90)∨(97≤u.toNat∧u.toNat≤122))
def FT (s:ByteArray):Bool:=decide (0<s.size)&&decide (s.size≤64)&&!(s.data.toList.head?.any dgt)&&s.data.toList.all nch
theorem KV {s:ByteArray}(h:R (.returned (.bool (FT s))) σ):Spec prog 64 #[.string s] σ R:=by
 have Qo:s.data.toList.length=s.size:=rfl;refine E5.start ⟨fun h0=>?_,fun h0=>⟨fun h1=>?_,fun h1=>?_⟩⟩
 ·rw[qK,AW6]at h0;simpa[FT,h0] using h
 ·have:¬s.size≤64:=by omega
  simpa[FT,this] using h
 ·rw[qK,AXy]at h0;obtain⟨u,hu⟩:∃u,s.data.toList[0]?=some u:=⟨_,AWm (by omega)⟩;have JO:s.data[Int.toNat (0:Int)]?=some u:=by simpa using hu
  have hh:s.data.toList.head?=some u:=by rw[←hu];cases s.data.toList<;>rfl
  have rest:dgt u=false→E5.Ek R s 0 σ:=fun hd=>by
   have e:FT s=s.data.toList.all nch:=by simp[FT,show 0<s.size by omega,show s.size≤64 by omega,hh,hd]
   rw[e]at h;refine vL (s:=s) (pt:=fun k=>E5.Ek R s k σ) (ok:=nch) (G:=fun t=>R (.B t) σ) (fun g=>E5.EP ⟨fun Am=>by omega,fun _=>g⟩) (fun k u hk hu hi good bad=>?_) h (by omega);simp only[nch,AW6,AXy]at good bad;refine E5.EP ⟨fun Am=>⟨u,by omega,hu,?_⟩,fun Vu=>by omega⟩;clear h;generalize u.toNat=n at good bad
   repeat' (first|refine⟨fun _=>?_,fun _=>?_⟩|exact⟨hi,good (by omega)⟩|exact bad (by omega))
  simp only[dgt,AXy]at rest;refine⟨u,by omega,JO,fun h2=>⟨u,by omega,JO,fun h3=>?_,fun h3=>rest (by omega)⟩,fun h2=>rest (by omega)⟩;have:dgt u=true:=by simp[dgt];omega
  simpa[FT,hh,this] using h
def vl:Nat→Nat→Nat→List UInt8→Bool
 | 0,_,_,[]=>true
 | _+1,_,_,[]=>false
 | 0,_,_,c::r=>
  if c.toNat<128 then vl 0 128 191 r
  else if 194≤c.toNat∧c.toNat≤223 then vl 1 128 191 r
  else if 224≤c.toNat∧c.toNat≤239 then(if c.toNat=224 then vl 2 160 191 r else if c.toNat=237 then vl 2 128 159 r else vl 2 128 191 r)
  else if 240≤c.toNat∧c.toNat≤244 then(if c.toNat=240 then vl 3 144 191 r else if c.toNat=244 then vl 3 128 143 r else vl 3 128 191 r)
  else false
 | m+1,lo,hi,c::r=>if c.toNat<lo∨hi<c.toNat then false else vl m 128 191 r
def Qz (s:ByteArray):Bool:=vl 0 128 191 s.data.toList
theorem vl0 (l:List UInt8)(a b c d:Nat):vl 0 a b l=vl 0 c d l:=by cases l<;>rfl
attribute [local irreducible] An.CZ An.Gz An.pZ in
theorem Q1 {s:ByteArray}(hb:s.size≤4611686018427387904)(h:R (.returned (.bool (Qz s))) σ):Spec prog 65 #[.string s] σ R:=by
 have Qo:s.data.toList.length=s.size:=rfl;refine An.start ?_
 suffices H:∀d:Nat,(∀k:Nat,s.size-k=d→k≤s.size→Qz s=vl 0 128 191 (s.data.toList.drop k)→An.CZ R s k σ)∧
   (∀(k m lo hi:Nat),s.size-k=d→k≤s.size→Qz s=vl m lo hi (s.data.toList.drop k)→m≤3→An.pZ R s k m lo hi σ) from(H s.size).1 0 (by omega) (by omega) rfl
 intro d
 induction d with
 | zero=>
  have A:∀k:Nat,s.size-k=0→k≤s.size→Qz s=vl 0 128 191 (s.data.toList.drop k)→An.CZ R s k σ:=fun k hd hk he=>by
   refine An.BE ⟨fun _=>?_,fun Ay=>by omega⟩;rw[AYc (by omega)]at he;rw[he]at h;exact h
  refine⟨A,fun k m lo hi hd hk he hm=>An.gX ⟨fun h0=>A k hd hk ?_,fun h0=>⟨fun _=>?_,fun Ay=>by omega⟩⟩⟩
  ·have:m=0:=by omega
   subst this;rw[he];exact vl0 _ _ _ _ _
  ·obtain⟨m',rfl⟩:∃m',m=m'+1:=⟨m-1,by omega⟩;rw[AYc (by omega)]at he;rw[he]at h;exact h
 | succ d ih=>
  have A:∀k:Nat,s.size-k=d+1→k≤s.size→Qz s=vl 0 128 191 (s.data.toList.drop k)→An.CZ R s k σ:=fun k hd hk he=>by
   have Ew:k<s.size:=by omega
   obtain⟨u,hu⟩:∃u,s.data.toList[k]?=some u:=⟨_,AWm (by omega)⟩;have JO:s.data[Int.toNat (k:Int)]?=some u:=by simpa using hu
   have hi:AM ((k:Int)+1):=by unfold AM;omega
   rw[RM hu,vl]at he;have st:∀(m lo hi:Nat),m≤3→Qz s=vl m lo hi (s.data.toList.drop (k+1))→An.Gz R s k m lo hi σ:=fun m lo hh hm he=>An.vD ⟨hi,ih.2 (k+1) m lo hh (by omega) (by omega) he hm⟩;have nx:Qz s=vl 0 128 191 (s.data.toList.drop (k+1))→An.CZ R s ((k:Int)+1) σ:=fun he=>ih.1 (k+1) (by omega) (by omega) he;have no:Qz s=false→R (.B false) σ:=fun e=>by rw[e]at h;exact h
   refine An.BE ⟨fun Ay=>by omega,fun _=>⟨u,by omega,JO,?_⟩⟩;generalize s.data.toList.drop (k+1)=r at he st nx;clear ih h hu JO;generalize u.toNat=n at he;have st1:=st 1 128 191 (by omega);have st2:=st 2 160 191 (by omega);have xF:=st 2 128 159 (by omega);have st4:=st 2 128 191 (by omega);have st5:=st 3 144 191 (by omega);have st6:=st 3 128 143 (by omega);have st7:=st 3 128 191 (by omega)
   repeat' (first|refine⟨fun _=>?_,fun _=>?_⟩|refine⟨hi,nx ?_⟩|refine st1 ?_|refine st2 ?_|refine xF ?_|refine st4 ?_|refine st5 ?_|refine st6 ?_|refine st7 ?_|refine no ?_)
   all_goals first|(exfalso;clear he;omega)|(rw[he];repeat' (first|rfl|rw[AWl (by omega)] | rw[AWj (by omega)]))
  refine⟨A,fun k m lo hi hd hk he hm=>An.gX ⟨fun h0=>A k hd hk ?_,fun h0=>⟨fun Ay=>by omega,fun _=>?_⟩⟩⟩
  ·have:m=0:=by omega
   subst this;rw[he];exact vl0 _ _ _ _ _
  ·obtain⟨m',rfl⟩:∃m',m=m'+1:=⟨m-1,by omega⟩;have Ew:k<s.size:=by omega
   obtain⟨u,hu⟩:∃u,s.data.toList[k]?=some u:=⟨_,AWm (by omega)⟩;have JO:s.data[Int.toNat (k:Int)]?=some u:=by simpa using hu
   rw[RM hu,vl]at he;refine⟨u,by omega,JO,fun h1=>?_,fun h1=>⟨u,by omega,JO,fun h2=>?_,fun h2=>⟨by unfold AM;omega,by unfold AM;omega,?_⟩⟩⟩
   ·rw[AWl (by omega)]at he;rw[he]at h;exact h
   ·rw[AWl (by omega)]at he;rw[he]at h;exact h
   ·rw[AWj (by omega)]at he;have:=ih.2 (k+1) m' 128 191 (by omega) (by omega) he (by omega);have e1:((m'+1:Nat):Int)-1=(m':Nat):=by omega
    rw[e1];exact this
end
end TwW
namespace TwW
open Go Tw Go.RowKit Go.Proofs.Tryz
section
variable {σ:Hp}{R:Rr}
def sle (a b:ByteArray):Bool:=Op.bytesLess a.toList b.toList||a.toList==b.toList
theorem AB3 {x y:Operand}{a b:ByteArray}{T:TypeId}:YF prog (do eqGuard .leq T x y (.string a) (.string b);binOp .leq T (.string a) (.string b)) σ (.bool (sle a b)):=fun w _=>by
 simp[eqGuard,binOp,Op.stringOp,sle]
def Fu:Option ByteArray→List Lb→Int
 | _,[]=>0
 | pv,x::l=>if FT x.1=false then 31 else if x.2.size=0∨256<x.2.size∨Qz x.2=false then 32 else if pv.any (sle x.1 ·)=true then 33 else Fu (some x.1) l
def Fo (ls:List Lb):Int:=if 16<ls.length then 30 else Fu none ls
theorem Q2 {p:Option Addr}{n c:Nat}{ls:List Lb}(hr:Dz σ p n ls)(h:R (.returned (.I (Fo ls))) σ):Spec prog 43 #[.slice p n c] σ R:=by
 have hn:ls.length=n:=hr.1;refine D9.start ⟨fun h1=>?_,fun h1=>?_⟩
 ·rw[Fo,AWl (by omega)]at h;exact h
 rw[Fo,AWj (by omega)]at h
 let pv:Nat→Option ByteArray:=fun i=>if i=0 then none else(ls[i-1]?).map (·.1)
 suffices H:∀d i:Nat,n-i=d→i≤n→Fu none ls=Fu (pv i) (ls.drop i)→D9.SR R p n c p n c n i σ from H n 0 rfl (AWx _) rfl
 intro d
 induction d with
 | zero=>
  intro i hd hi he;refine D9.NR ⟨fun Am=>by omega,fun _=>?_⟩;rw[AYc (by omega)]at he;rw[he]at h;exact h
 | succ d ih=>
  intro i hd hi he;have Bj:i<n:=by omega
  obtain⟨x,hx⟩:=hr.ex Bj;obtain⟨b,o,rfl,hl⟩:=Dz.at hr hx;rw[RM hx,Fu]at he;have out:∀e:Int,Fu none ls=e→R (.returned (.I e)) σ:=fun e h1=>h1▸h;refine D9.NR ⟨fun _=>?_,fun hh=>by omega⟩;refine⟨b,o,rfl,by omega,x.1,x.2,by simpa using hl,fun _=>KV ⟨_,rfl,fun h1=>out _ ?_,fun h1=>?_⟩⟩
  ·rw[he,AWl h1]
  rw[AWj (by simp[h1])]at he;rw[qK];refine⟨fun h2=>out _ ?_,fun h2=>⟨fun h3=>out _ ?_,fun h3=>Q1 (by omega) ⟨_,rfl,fun h4=>out _ ?_,fun h4=>?_⟩⟩⟩
  ·rw[he,AWl (.inl (by simpa using h2))]
  ·rw[he,AWl (.inr (.inl (by omega)))]
  ·rw[he,AWl (.inr (.inr h4))]
  rw[AWj (by rw[AXy]at h2;simp[h2,h4];omega)]at he;have nx:pv (i+1)=some x.1:=by simp[pv,hx]
  have go:(pv i).any (sle x.1 ·)=false→D9.SR R (aD b o) n c (aD b o) n c n ((i:Int)+1) σ:=fun h5=>by
   rw[AWj (by simp[h5]),←nx]at he;exact ih (i+1) (by omega) (by omega) he
  refine⟨fun h5=>?_,fun h5=>⟨AN Bj hr.big,go ?_⟩⟩
  ·obtain⟨y,hy⟩:=hr.ex (k:=i-1) (by omega);obtain⟨b',o',hp,fp⟩:=Dz.at hr hy;cases hp;have e1:((i:Int)-1).toNat=i-1:=by omega
   have hpv:pv i=some y.1:=by simp[pv,hy,show i≠0 by omega]
   refine⟨by have:=hr.big;unfold AM;omega,b,o,rfl,by omega,y.1,by rw[e1];exact fp.1,_,AB3,fun h6=>out _ ?_,fun h6=>⟨AN Bj hr.big,go ?_⟩⟩
   ·rw[he,AWl (by rw[hpv];exact h6)]
   ·rw[hpv];exact h6
  ·have:i=0:=by omega
   simp[pv,this]
theorem Vy:∀{ls:List Lb} {pv:Option ByteArray},Fu pv ls=0→∀x∈ls,FT x.1=true∧0<x.2.size∧x.2.size≤256∧Qz x.2=true
 | [],_,_,_,hx=>by cases hx
 | y::l,pv,h,x,hx=>by
  rw[Fu]at h;split at h
  ·cases h
  split at h
  ·cases h
  split at h
  ·cases h
  rename_i h1 h2 h3;rcases AWo.1 hx with rfl|hx
  ·simp only[not_or,Bool.not_eq_false]at h1 h2;exact⟨h1,by omega,by omega,h2.2.2⟩
  ·exact Vy h x hx
def Ai (ls:List Lb):Prop:=ls.length≤16∧∀x∈ls,x.1.size≤256∧x.2.size≤256
theorem Ai.of {ls:List Lb}(h:Fo ls=0):Ai ls:=by
 unfold Fo at h;split at h
 ·cases h
 ·refine⟨by omega,fun x hx=>?_⟩;obtain⟨h1,_,h2,_⟩:=Vy h x hx;simp[FT]at h1;exact⟨by omega,h2⟩
theorem BM.one (σ:Hp)(vs:List Value)(x:Lb)(h:BM σ vs x):Ey vs:=by
 rw[h];intro u hu;simp only[AWo,AXA,AXk]at hu;rcases hu with rfl|rfl<;>rfl
theorem E8 {σ1:Hp}{q:Option Addr}{j c b:Nat}{ls:List Lb}{ty:TypeId}{Φ:Value→Hp→Prop}(ht:Dz σ1 q j ls)(hb:j≤1000000000)
  (hΦ:∀p' c' σ',Ej 2 BM (σ1.new σ') p' j c' ls→Ext σ1 σ'→Φ (.slice p' j c') σ') (hn:σ1 b=none) :
  AH prog (Builtin.append_ #[37,37] ty #[.slice (some ⟨b,0,none⟩) 0 0,.slice q j c]) (σ1.set b (.cells #[] 36 (0,0))) Φ:=by
 obtain⟨h1,cs,h2,h3⟩:=ht;refine CE Ao.empty (h2.mono (.set hn)) (Ch.br BM.one h3 (by decide)) (by omega) fun p' c' σ' BS Ip=>?_;have hq:∀a:Addr,(some (⟨b,0,none⟩:Addr))=some a→σ1 a.block=none:=fun a ha=>by cases ha;exact hn
 rw[AXl]at BS ⊢;rw[AXi]at BS;exact hΦ p' c' σ' ⟨h1,cs,Ao.PI BS (Ez hq Ip (.set hn)),h3⟩ (IN hq Ip (.set hn))
def MG (x:Lb):List Int:=uv x.1.size++bT x.1++(uv x.2.size++bT x.2)
def jy (ls:List Lb):List Int:=uv ls.length++ls.flatMap MG
theorem jz {x:Lb}(h:x.1.size≤256∧x.2.size≤256):(MG x).length≤532:=by
 have h1:=KU (x:=x.1.size) (by omega);have h2:=KU (x:=x.2.size) (by omega);simp only[MG,AWz,LJ];omega
theorem qL {ls:List Lb}(h:∀x∈ls,x.1.size≤256∧x.2.size≤256):(ls.flatMap MG).length≤ls.length*532:=by
 induction ls with
 | nil=>simp
 | cons x l ih=>
  have:=ih fun y hy=>h y (AWq _ hy);have:=jz (h x (by simp));rw[AX4,AWz,AWw];omega
theorem Wz {p:Option Addr}{n c:Nat}{ls:List Lb}(hr:Dz σ p n ls)(hs:Ai ls)(h:∀p' n' c' σ',DT .u8 (σ.new σ') p' n' c' (jy ls)→Ext σ σ'→R (.returned (.slice p' n' c')) σ'):Spec prog 36 #[.slice p n c] σ R:=by
 have hn:ls.length=n:=hr.1;have h16:=hs.1;refine ET.start fun x8 h8=>?_;have e8:x8=(n:Int):=by rw[h8];simp[IntKind.wrap,IntKind.bits,IntKind.signed];omega
 subst e8;refine Nc Ac.nil (by omega) (by omega) fun p1 n1 c1 σ1 cw Bi=>⟨p1,n1,c1,rfl,?_⟩;rw[AXi]at cw
 suffices H:∀d k:Nat,∀p3 n3 c3 σ3,n-k=d→k≤n→DT .u8 (σ.new σ3) p3 n3 c3 (uv n++(ls.take k).flatMap MG)→Ext σ σ3→ET.Aw R p3 n3 c3 p n c n k σ3 from H n 0 p1 n1 c1 σ1 rfl (AWx _) (by simpa using cw) Bi
 intro d
 induction d with
 | zero=>
  intro k p3 n3 c3 σ3 hd hk ho hx;refine ET.AY ⟨fun Am=>by omega,fun _=>h p3 n3 c3 σ3 ?_ hx⟩;rw[AWt (by omega)]at ho;rw[jy,hn];exact ho
 | succ d ih=>
  intro k p3 n3 c3 σ3 hd hk ho hx;have Ew:k<n:=by omega
  obtain⟨y,hy⟩:=hr.ex Ew;obtain⟨b,o,rfl,hl⟩:=Dz.at hr hy;have lU:=hs.2 y (AWn hy);have hl3:=QW ho;have Y6:=KU (x:=n) (by omega);have hfl:=qL (ls:=ls.take k) fun x hx=>hs.2 x (AYR hx);rw[AWz]at hl3;rw[AW0]at hfl;have h3b:n3≤9000:=by omega
  refine ET.AY ⟨fun _=>⟨b,o,rfl,by omega,y.1,y.2,by simpa using hl.mono hx,fun _=>?_⟩,fun hh=>by omega⟩;refine Nf (DT.rd (Ao.mono (Ext.CW _ _) ho)) (by omega) (by omega) fun p4 n4 c4 σ4 KW MH=>⟨p4,n4,c4,rfl,?_⟩;have hl4:=QW KW;have hu1:=KU (x:=y.1.size) (by omega);simp only[AWz,LJ]at hl4;refine Nf (DT.rd (Ao.mono (Ext.CW _ _) KW)) (by omega) (by omega) fun p5 n5 c5 σ5 Mw du=>⟨p5,n5,c5,rfl,AN Ew hr.big,?_⟩;refine ih (k+1) p5 n5 c5 σ5 (by omega) (by omega) ?_ (hx.trans (MH.trans du));have:=Ao.mono (Ext.DD (hx.trans MH)) Mw;rw[Ag hy,List.flatMap_append];simpa[MG,DT] using this
end
end TwW
namespace TwW
open Go Tw Go.RowKit Go.Proofs.Tryz
section
variable {σ σ' τ:Hp}{R:Rr}
def Q3 (x:ByteArray)(xs:List ByteArray):Bool:=xs.any fun y=>decide (x=y)
theorem qM {x:ByteArray}{xs:List ByteArray}:Q3 x xs=true↔x∈xs:=by simp[Q3]
theorem KX {p:Option Addr}{n c:Nat}{x:ByteArray}{xs:List ByteArray}(hr:Gq 1 σ p n (xs.map .string))(h:R (.returned (.bool (Q3 x xs))) σ):Spec prog 151 #[.slice p n c,.string x] σ R:=by
 have hn:xs.length=n:=by have:=hr.1;simpa using this
 have Tj:n≤4611686018427387904:=hr.2.1;have key:∀i:Int,(0≤i↔x∈xs)→Ap R (CI .i64 fun x7 y=>R (.returned (.bool (decide (0≤x7)))) y) (.returned (.I i)) σ:=fun i hi=>⟨i,rfl,by
  dsimp only;rw[show decide (0≤i)=Q3 x xs by rw[Bool.eq_iff_iff,qM,AW6];exact hi];exact h⟩
 refine EX.start (BP.start ?_)
 suffices H:∀d k:Nat,n-k=d→k≤n→x ∉ xs.take k→BP.II (Ap R (CI .i64 fun x7 y=>R (.returned (.bool (decide (0≤x7)))) y)) p n c x n k σ from H n 0 rfl (AWx _) (by simp)
 intro d
 induction d with
 | zero=>
  intro k hd hk DS;refine BP.A8 ⟨fun Am=>by omega,fun _=>key (-1) ?_⟩;rw[AWt (by omega)]at DS;exact⟨fun h=>absurd h (by decide),fun h=>absurd h DS⟩
 | succ d ih=>
  intro k hd hk DS;have Ew:k<n:=by omega
  obtain⟨y,hy⟩:∃y,xs[k]?=some y:=⟨_,AWm (by omega)⟩;obtain⟨b,o,rfl,hl⟩:=Gq.at1 hr (k:=k) (v:=.string y) (by rw[AXM,hy];rfl);refine BP.A8 ⟨fun _=>⟨b,o,rfl,by omega,y,by simpa using hl,fun he=>key k ⟨fun _=>?_,fun _=>by omega⟩,fun Ay=>⟨AN Ew Tj,ih (k+1) (by omega) (by omega) ?_⟩⟩,fun Vu=>by omega⟩
  ·rw[vK,AW6]at he;rw[he];exact AWn hy
  ·rw[vK,AXy]at Ay;rw[Um hy]
   rintro(h1|h1)
   ·exact DS h1
   ·exact Ay h1
theorem QX {f:Nat}{cap:Array Value}{g:Lb→Bool}{p:Option Addr}{n c:Nat}{ls:List Lb}(JG:Enters prog f)(hr:Dz σ p n ls)(hn:n≤1000000)
  (hf:∀(σ':Hp) (x:Lb) (R':Rr),Ext σ σ'→R' (.returned (.bool (g x))) σ'→Spec prog f (#[]++#[.agg #[.string x.1,.string x.2]]++cap) σ' R')
  (h:∀p' n' c' σ',Ej 2 BM (σ.new σ') p' n' c' (ls.filter g)→Ext σ σ'→R (.returned (.slice p' n' c')) σ'):Spec prog 149 #[.slice p n c,.func (.func f) #[] cap] σ R:=by
 have j0:ls.length=n:=hr.1;refine Cc.start ?_
 suffices H:∀d k:Nat,∀p5 n5 c5 σ5,n-k=d→k≤n→Ej 2 BM (σ.new σ5) p5 n5 c5 ((ls.take k).filter g)→Ext σ σ5→Cc.Aw R (.func (.func f) #[] cap) p5 n5 c5 p n c n k σ5 from H n 0 none 0 0 σ rfl (AWx _) Ej.nil (.refl _)
 intro d
 induction d with
 | zero=>
  intro k p5 n5 c5 σ5 hd hk ho hx;refine Cc.AY ⟨fun Am=>by omega,fun _=>h p5 n5 c5 σ5 ?_ hx⟩;rw[AWt (by omega)]at ho;exact ho
 | succ d ih=>
  intro k p5 n5 c5 σ5 hd hk ho hx;have Ew:k<n:=by omega
  obtain⟨x,Vz⟩:=hr.ex Ew;obtain⟨b,o,rfl,hl⟩:=Dz.at hr Vz;have hn5:n5≤n:=by
   have h1:=ho.1;have h2:=AXO g (ls.take k);rw[AW0]at h2;omega
  have ht:(ls.take (k+1)).filter g=(ls.take k).filter g++if g x then[x] else[]:=by
   rw[Ag Vz,AYK];by_cases hg:g x<;>simp[hg]
  refine Cc.AY ⟨fun _=>⟨b,o,rfl,by omega,x.1,x.2,by simpa using hl.mono hx,fun _=>⟨f,#[],cap,rfl,JG,hf σ5 x _ hx ⟨_,rfl,fun hg BR AOF=>?_,fun hg=>?_⟩⟩⟩,fun hh=>by omega⟩
  ·refine Ej.LZ BM.mono (vs:=[.string x.1,.string x.2]) (x:=x) hx ho rfl (BM.one σ _ _ rfl) rfl (by omega) (fun p' c' σ' Qp Tk=>⟨_,_,_,rfl,Cc.RL ⟨AN Ew hr.big,ih (k+1) _ _ _ _ (by omega) (by omega) ?_ Tk⟩⟩) AOF;rw[ht,AWl hg];exact Qp
  ·refine Cc.RL ⟨AN Ew hr.big,ih (k+1) _ _ _ _ (by omega) (by omega) ?_ hx⟩;rw[ht,AWj (by simp[hg]),AYC];exact ho
theorem AJB:Enters prog 152:=fun args w=>call152 args w
theorem Iq {p q:Option Addr}{n c m d:Nat}{ls:List Lb}{ns:List ByteArray}(hr:Dz σ p n ls)(hn:n≤1000000)(hs:Gq 1 σ q m (ns.map .string))
  (h:∀p' n' c' σ',Ej 2 BM (σ.new σ') p' n' c' (ls.filter fun x=>!Q3 x.1 ns)→Ext σ σ'→R (.returned (.slice p' n' c')) σ'):Spec prog 108 #[.slice p n c,.slice q m d] σ R:=by
 refine MD.start fun b3 hb3=>?_;have CG:Ext σ (σ.set b3 (.cells #[.slice q m d] 49 (0,0))):=.set hb3;refine QX (f:=152) (g:=fun x=>!Q3 x.1 ns) AJB (hr.mono BM.mono CG) hn (fun σ' x R' hx Mx=>?_) fun p' n' c' σ' ho hx=>⟨_,_,_,rfl,h p' n' c' σ' ?_ (CG.trans hx)⟩
 ·refine JB.start fun _=>⟨q,m,d,Af (hx _ _ (Hp.AA _ _ _)) rfl,KX (hs.mono (CG.trans hx)) ⟨_,rfl,Mx⟩⟩
 ·exact ho.mono BM.mono (Ext.DD CG)
end
end TwW
namespace TwW
open Go Tw Go.RowKit Go.Proofs.Tryz
section
variable {σ σ' τ:Hp}{R:Rr}
theorem W0 {α:Type}{b:Nat}{T:TypeId}{f:α→Value}{x:α}{ρ:Hp}(h:ρ b=some (.cells #[f x] T (0,0))):Gq 1 ρ (some ⟨b,0,none⟩) 1 ([x].map f):=⟨rfl,by omega,.inr ⟨b,0,rfl,⟨Af h rfl,trivial⟩⟩⟩
end
end TwW
end
section
namespace TwW
open Go Tw
structure Mt where
 kind:Int
 name:ByteArray
 val:ByteArray
structure Nd where
 kind:Int
 op:Int
 text:ByteArray
 mt:List Mt
 width:Int
 back:Int
 EH:Int
 names:List ByteArray
 bool:Bool
 parts:Int
structure Sr where
 ls:List Lb
 ps:List (Int×Int)
structure El where
 ls:List Lb
 v:Int
structure Rg where
 ls:List Lb
 vs:List Int
structure Vv where
 kind:Int
 v:Int
 vec:List El
 MX:List Rg
structure Fl where
 num:ByteArray→Int
 abs:Int→Int
 floor:Int→Int
 whole:Int→Int
 qN:Int→Int
 over:Int→List Int→Int→Option Int
 fold:Int→List Int→Int
 Ng:Int→Int→Int→Int×Bool
 Y7:List Mt→List Lb→Bool
 cmpL:List Lb→List Lb→Int
abbrev Hv:Int:=9218868437227405314
def V0:ByteArray:=⟨#[95,95,110,97,109,101,95,95]⟩
def EE (ls:List Lb):ByteArray:=strOfNums (jy ls)
section
variable {α:Type}
def W1:List (ByteArray×α)→ByteArray→α→List (ByteArray×α)
 | [],k,x=>[(k,x)]
 | (a,b)::l,k,x=>if a=k then(k,x)::l else(a,b)::W1 l k x
def Ck:List (ByteArray×α)→ByteArray→Option α
 | [],_=>none
 | (a,b)::l,k=>if a=k then some b else Ck l k
end
def DB (ls:List Lb):List Lb:=ls.filter fun x=>!Q3 x.1 [V0]
def Y8 (ns:List ByteArray)(ls:List Lb):List Lb:=ls.filter fun x=>Q3 x.1 ns
def Y9 (ns:List ByteArray)(ls:List Lb):List Lb:=ls.filter fun x=>!Q3 x.1 ns
section
variable (F:Fl)
def dw (x:El):List El→List El
 | []=>[x]
 | y::l=>if F.cmpL x.ls y.ls≤0 then x::y::l else y::dw x l
def gj (l:List El):List El:=l.foldr (dw F) []
def DN (l:List El):Option (List El):=if l.Pairwise (fun a b=>F.cmpL a.ls b.ls≠0) then some (gj F l) else none
def FU (ps:List (Int×Int))(DZ Gh:Int):List (Int×Int):=ps.filter fun p=>decide (DZ<p.1)&&decide (p.1≤Gh)
def RN (n:Nd)(ss:List Sr)(at_:Int):List El:=ss.filterMap fun s=>match (FU s.ps (at_-n.back-300) (at_-n.back)).getLast? with
 | none=>none
 | some p=>if p.2=Hv∨F.Y7 n.mt s.ls=false then none else some ⟨s.ls,p.2⟩
def W2 (n:Nd)(ss:List Sr)(at_:Int):List Rg:=ss.filterMap fun s=>
 let vs:=((FU s.ps (at_-n.back-n.width) (at_-n.back)).filter fun p=>decide (p.2≠Hv)).map Prod.snd
 bif !vs.isEmpty&&F.Y7 n.mt s.ls then some ⟨s.ls,vs⟩ else none
def Tl (n:Nd)(p:Vv):List El:=(p.vec.map fun x=>⟨DB x.ls,if n.op=11 then F.abs x.v else F.floor x.v⟩)++p.MX.filterMap fun s=>(F.over n.op s.vs p.v).map fun v=>⟨DB s.ls,v⟩
def D0 (n:Nd)(ls:List Lb):List Lb:=if n.EH=1 then Y8 n.names ls else if n.EH=2 then DB (Y9 n.names ls) else[]
def Hw (ls:List Lb)(v:Int):List Rg→List Rg
 | []=>[⟨ls,[v]⟩]
 | g::l=>if EE g.ls=EE ls then⟨g.ls,g.vs++[v]⟩::l else g::Hw ls v l
def dz (n:Nd)(p:Vv):List El:=(p.vec.foldl (fun gs x=>Hw (D0 n x.ls) x.v gs) []).map fun g=>⟨g.ls,F.fold n.op g.vs⟩
def FV (op:Int):Bool:=decide (5≤op)&&decide (op≤10)
def Tm (n:Nd)(vec:List El)(f:Int→Int×Bool):List El:=vec.filterMap fun x=>
 if FV n.op=false∨n.bool=true then some ⟨DB x.ls,(f x.v).1⟩ else if(f x.v).2 then some x else none
def My (n:Nd)(ls:List Lb):List Lb:=if n.EH=3 then Y8 n.names ls else DB (Y9 n.names ls)
def W3 (n:Nd)(l:List El):List (ByteArray×El):=l.foldl (fun m x=>W1 m (EE (My n x.ls)) x) []
def V1 (n:Nd)(l:List El)(k:List Lb):Option El:=Ck (W3 n l) (EE k)
def j1 (n:Nd)(l:List El):Bool:=decide ((W3 n l).length=l.length)
def MJ (n:Nd)(x y:List El):List El:=
 (x.filter fun e=>decide (n.op=12)||((V1 n y (My n e.ls)).isSome==decide (n.op=11)))++y.filter fun e=>(V1 n x (My n e.ls)).isNone&&decide (n.op=12)
def Nh (n:Nd)(x y:List El):Option (List El):=if j1 n x&&j1 n y then some (x.filterMap fun e=>match V1 n y (My n e.ls) with
 | none=>none
 | some o=>if FV n.op=false∨n.bool=true then some ⟨My n e.ls,(F.Ng n.op e.v o.v).1⟩ else if(F.Ng n.op e.v o.v).2 then some e else none) else none
def j2 (n:Nd)(x y:Vv):Option Vv:=
 if x.kind=1∧y.kind=1 then some ⟨1,(F.Ng n.op x.v y.v).1,[],[]⟩
 else((if x.kind=1 then some (Tm n y.vec (F.Ng n.op x.v)) else if y.kind=1 then some (Tm n x.vec fun v=>F.Ng n.op v y.v) else if 11≤n.op∧n.op≤13 then some (MJ n x.vec y.vec) else Nh F n x.vec y.vec).bind (DN F)).map fun l=>⟨2,0,l,[]⟩
def j3 (p:Vv):Option Vv:=if p.kind=1 then some ⟨1,F.qN p.v,[],[]⟩ else(DN F (p.vec.map fun x=>⟨DB x.ls,F.qN x.v⟩)).map fun l=>⟨2,0,l,[]⟩
def Hx (ss:List Sr)(at_:Int)(n:Nd)(l:List Vv):Option Vv:=
 if n.kind=1 then some ⟨1,F.num n.text,[],[]⟩
 else if n.kind=2 then some ⟨2,0,RN F n ss at_,[]⟩
 else if n.kind=3 then some ⟨3,F.whole n.width,[],W2 F n ss at_⟩
 else match l with
  | [p]=>if n.kind=4 then(DN F (Tl F n p)).map fun l=>⟨2,0,l,[]⟩ else if n.kind=5 then(DN F (dz F n p)).map fun l=>⟨2,0,l,[]⟩ else if n.kind=7 then j3 F p else none
  | [p,q]=>if n.kind=6 then j2 F n p q else none
  | _=>none
def JK (ss:List Sr)(at_:Int):List Nd→List Vv→Option (List Vv)
 | [],st=>some st
 | n::t,st=>(Hx F ss at_ n (st.drop (st.length-n.parts.toNat))).bind fun v=>JK ss at_ t (st.take (st.length-n.parts.toNat)++[v])
def Aj (t:List Nd)(ss:List Sr)(at_:Int):Option (List El):=(JK F ss at_ t []).bind fun st=>st.head?.map fun v=>if v.kind=1 then[⟨[],v.v⟩] else v.vec
end
section
variable {F:Fl}
end
end TwW
end
section
namespace TwW
open Go Tw
structure MK {α:Type}(c:α→α→Int):Prop where
 eq:∀x y,c x y=0↔x=y
 KY:∀x y,c x y<0↔0<c y x
 trans:∀x y z,c x y<0→c y z<0→c x z<0
def Hy {α:Type}(c:α→α→Int):List α→List α→Int
 | [],[]=>0
 | [],_::_=>-1
 | _::_,[]=>1
 | x::l,y::m=>if c x y=0 then Hy c l m else c x y
def Tn {α β:Type}(c:α→α→Int)(d:β→β→Int)(x y:α×β):Int:=if c x.1 y.1=0 then d x.2 y.2 else c x.1 y.1
theorem MK.Hy {α:Type}{c:α→α→Int}(h:MK c):MK (Hy c):=by
 refine⟨fun l=>?_,fun l=>?_,fun l=>?_⟩
 ·induction l with
  | nil=>intro m;cases m<;>simp[TwW.Hy]
  | cons x l ih=>
   intro m;cases m with
   | nil=>simp[TwW.Hy]
   | cons y m=>
    unfold TwW.Hy;by_cases hc:c x y=0
    ·rw[AWl hc,ih];simp[(h.eq x y).1 hc]
    ·rw[AWj hc];simp[hc,mt (h.eq x y).2 hc]
 ·induction l with
  | nil=>intro m;cases m<;>simp[TwW.Hy]
  | cons x l ih=>
   intro m;cases m with
   | nil=>simp[TwW.Hy]
   | cons y m=>
    unfold TwW.Hy;by_cases hc:c x y=0
    ·have Mz:=(h.eq x y).1 hc;rw[AWl hc,AWl ((h.eq y x).2 Mz.symm),ih]
    ·have hc':c y x≠0:=fun e=>hc ((h.eq x y).2 ((h.eq y x).1 e).symm);rw[AWj hc,AWj hc',h.KY]
 ·induction l with
  | nil=>
   intro m k h1 h2;cases m with
   | nil=>simp[TwW.Hy]at h1
   | cons y m=>
    cases k with
    | nil=>simp[TwW.Hy]at h2
    | cons z k=>simp[TwW.Hy]
  | cons x l ih=>
   intro m k h1 h2;cases m with
   | nil=>simp[TwW.Hy]at h1
   | cons y m=>
    cases k with
    | nil=>simp[TwW.Hy]at h2
    | cons z k=>
     unfold TwW.Hy at h1 h2 ⊢;by_cases Mz:c x y=0
     ·rw[AWl Mz]at h1;have e:=(h.eq x y).1 Mz;subst e;by_cases eA:c x z=0
      ·rw[AWl eA]at h2 ⊢;exact ih m k h1 h2
      ·rw[AWj eA]at h2 ⊢;exact h2
     ·rw[AWj Mz]at h1;by_cases eA:c y z=0
      ·rw[AWl eA]at h2;have e:=(h.eq y z).1 eA;subst e;rw[AWj Mz];exact h1
      ·rw[AWj eA]at h2;have h3:=h.trans x y z h1 h2;rw[AWj (by omega)];exact h3
theorem MK.Tn {α β:Type}{c:α→α→Int}{d:β→β→Int}(h:MK c)(g:MK d):MK (Tn c d):=by
 refine⟨fun x y=>?_,fun x y=>?_,fun x y z h1 h2=>?_⟩
 ·obtain⟨x1,x2⟩:=x;obtain⟨y1,y2⟩:=y;unfold TwW.Tn;by_cases hc:c x1 y1=0
  ·simp only[hc,AWl];rw[g.eq];simp[(h.eq x1 y1).1 hc]
  ·simp only[hc,AX9];simp[hc,mt (h.eq x1 y1).2 hc]
 ·unfold TwW.Tn;by_cases hc:c x.1 y.1=0
  ·rw[AWl hc,AWl ((h.eq _ _).2 ((h.eq _ _).1 hc).symm),g.KY]
  ·rw[AWj hc,AWj (fun e=>hc ((h.eq _ _).2 ((h.eq _ _).1 e).symm)),h.KY]
 ·unfold TwW.Tn at h1 h2 ⊢;by_cases Mz:c x.1 y.1=0
  ·rw[AWl Mz]at h1;rw[(h.eq _ _).1 Mz];by_cases eA:c y.1 z.1=0
   ·rw[AWl eA]at h2 ⊢;exact g.trans _ _ _ h1 h2
   ·rw[AWj eA]at h2 ⊢;exact h2
  ·rw[AWj Mz]at h1;by_cases eA:c y.1 z.1=0
   ·rw[AWl eA]at h2;rw[←(h.eq _ _).1 eA,AWj Mz];exact h1
   ·rw[AWj eA]at h2;have h3:=h.trans _ _ _ h1 h2;rw[AWj (by omega)];exact h3
def eB (a b:UInt8):Int:=if a<b then -1 else if b<a then 1 else 0
theorem W4 {a b:UInt8}:eB a b<0↔a.toNat<b.toNat:=by
 unfold eB;by_cases h:a<b
 ·have:=AXv.1 h;simp[h,this]
 ·have h':=mt AXv.2 h;rw[AWj h];by_cases g:b<a<;>simp[g]<;>omega
theorem gm {a b:UInt8}:0<eB a b↔b.toNat<a.toNat:=by
 unfold eB;by_cases h:a<b
 ·have:=AXv.1 h;simp[h];omega
 ·rw[AWj h];by_cases g:b<a
  ·have:=AXv.1 g;simp[g,this]
  ·have h':=mt AXv.2 g;simp[g];omega
theorem vM:MK eB:=by
 refine⟨fun x y=>?_,fun x y=>?_,fun x y z h1 h2=>?_⟩
 ·have h1:=@W4 x y;have h2:=@gm x y;rw[←AZd];omega
 ·rw[W4,gm]
 ·rw[W4]at *;omega
theorem qO:∀a b:List UInt8,Hy eB a b=Lib.compareBytes a b
 | [],[]=>rfl
 | [],_::_=>rfl
 | _::_,[]=>rfl
 | x::l,y::m=>by
  unfold Hy Lib.compareBytes;rw[←qO l m];unfold eB;by_cases h1:x<y
  ·simp[h1]
  ·by_cases h2:y<x<;>simp[h1,h2]
def JL (a b:ByteArray):Int:=Lib.compareBytes a.data.toList b.data.toList
theorem gn:MK JL:=by
 have h:=vM.Hy;refine⟨fun x y=>?_,fun x y=>?_,fun x y z h1 h2=>?_⟩
 ·unfold JL;rw[←qO,h.eq];exact⟨fun e=>by cases x;cases y;simp at e;rw[e],fun e=>by rw[e]⟩
 ·unfold JL;rw[←qO,←qO];exact h.KY _ _
 ·unfold JL at *;rw[←qO]at *;exact h.trans _ _ _ h1 h2
def AX:List Lb→List Lb→Int:=Hy (Tn JL JL)
theorem AO:MK AX:=(gn.Tn gn).Hy
section
variable {F:Fl}(hF:F.cmpL=AX)
theorem Pn (x:El):∀l:List El,(dw F x l).Perm (x::l)
 | []=>AYz _
 | y::l=>by
  unfold dw;split
  ·exact AYz _
  ·exact((Pn x l).cons y).trans (List.Perm.swap ..)
theorem Ir:∀l:List El,(gj F l).Perm l
 | []=>AYz _
 | x::l=>(Pn x _).trans ((Ir l).cons x)
include hF
theorem le_trans' {x y z:El}(h1:F.cmpL x.ls y.ls≤0)(h2:F.cmpL y.ls z.ls≤0):F.cmpL x.ls z.ls≤0:=by
 rw[hF]at *;rcases Int.lt_or_eq_of_le h1 with g1|g1
 ·rcases Int.lt_or_eq_of_le h2 with g2|g2
  ·exact AZy (AO.trans _ _ _ g1 g2)
  ·rw[←(AO.eq _ _).1 g2];exact h1
 ·rw[(AO.eq _ _).1 g1];exact h2
theorem QY (x:El):∀l:List El,l.Pairwise (fun a b=>F.cmpL a.ls b.ls≤0)→(dw F x l).Pairwise fun a b=>F.cmpL a.ls b.ls≤0
 | [],_=>by simp[dw]
 | y::l,h=>by
  rw[AXJ]at h;unfold dw;split
  ·rename_i Mz;refine AXJ.2 ⟨fun z hz=>?_,AXJ.2 h⟩;rcases AWo.1 hz with rfl|hz
   ·exact Mz
   ·exact le_trans' hF Mz (h.1 z hz)
  ·rename_i Mz;refine AXJ.2 ⟨fun z hz=>?_,QY x l h.2⟩;rcases AWo.1 ((Pn x l).mem_iff.1 hz) with rfl|hz
   ·have h1:0<F.cmpL z.ls y.ls:=by omega
    rw[hF]at *;exact AZy ((AO.KY _ _).2 h1)
   ·exact h.1 z hz
theorem Is:∀l:List El,(gj F l).Pairwise fun a b=>F.cmpL a.ls b.ls≤0
 | []=>List.Pairwise.nil
 | x::l=>QY hF x _ (Is l)
theorem j4 {l m:List El}(hp:m.Perm l)(hs:m.Pairwise fun a b=>F.cmpL a.ls b.ls<0):DN F l=some m:=by
 have Ay:m.Pairwise fun a b=>F.cmpL a.ls b.ls≠0:=hs.imp fun h=>by omega
 have AOH:l.Pairwise fun a b=>F.cmpL a.ls b.ls≠0:=(hp.pairwise_iff fun {a b} h e=>by
  rw[hF]at *;exact h ((AO.eq _ _).2 ((AO.eq _ _).1 e).symm)).1 Ay
 unfold DN;rw[AWl AOH];refine AWy some (List.Perm.eq_of_pairwise (le:=fun a b:El=>F.cmpL a.ls b.ls≤0) (fun a b ha hb h1 h2=>?_) (Is hF l) (hs.imp fun h=>AZy h) ((Ir l).trans hp.symm));have aA:F.cmpL a.ls b.ls=0:=by
  refine Int.le_antisymm h1 (Int.not_lt.1 fun h3=>?_);rw[hF]at *;have:=(AO.KY _ _).1 h3;omega
 have ham:=((Ir (F:=F) l).trans hp.symm).mem_iff.1 ha;obtain⟨i,hi,rfl⟩:=AZF.1 ham;obtain⟨j,hj,rfl⟩:=AZF.1 hb;have j5:=AXX.1 Ay;rcases AY3 i j with h|h|h
 ·exact absurd aA (j5 i j hi hj h)
 ·subst h;rfl
 ·have h4:=j5 j i hj hi h;rw[hF]at aA h4;exact absurd ((AO.eq _ _).2 ((AO.eq _ _).1 aA).symm) h4
theorem j6 {l m:List El}(hp:m.Perm l)(h:¬m.Pairwise fun a b=>F.cmpL a.ls b.ls≠0):DN F l=none:=by
 unfold DN;rw[AWj fun hl=>h ((hp.pairwise_iff fun {a b} h e=>by
  rw[hF]at *;exact h ((AO.eq _ _).2 ((AO.eq _ _).1 e).symm)).2 hl)]
end
end TwW
end
section
namespace TwW
open Go Tw
section
variable {F:Fl}{ss ss':List Sr}{t:Int}
def C0:List (Int×Int)→List (Int×Int)→List (Int×Int)
 | [],b=>b
 | a,[]=>a
 | x::a,y::b=>if x.1<y.1 then x::C0 a (y::b) else if y.1<x.1 then y::C0 (x::a) b else(x.1,if x.2<y.2 then y.2 else x.2)::C0 a b
termination_by a b=>a.length+b.length
def D1:List Sr→List Sr→List Sr
 | [],b=>b
 | a,[]=>a
 | x::a,y::b=>if AX x.ls y.ls<0 then x::D1 a (y::b) else if 0<AX x.ls y.ls then y::D1 (x::a) b else⟨x.ls,C0 x.ps y.ps⟩::D1 a b
termination_by a b=>a.length+b.length
theorem HD (b:List Sr):D1 [] b=b:=by rw[D1]
end
end TwW
end
section
namespace TwW
open Go Tw
def EF (c:UInt8)(s:ByteArray):List ByteArray:=Lib.splitB ⟨#[c]⟩ 0 (Lib.countB s ⟨#[c]⟩) s
def j7:List ByteArray→ByteArray→Bool
 | [],_=>true
 | t::r,s=>if Lib.index s.data.toList t.data.toList<0 then false else j7 r (s.extract ((Lib.index s.data.toList t.data.toList).toNat+t.size) s.size)
def isK (l:List ByteArray)(s:ByteArray):Bool:=
 let a:=l.head?.getD ⟨#[]⟩
 let z:=l.getLast?.getD ⟨#[]⟩
 if l.length=1 then decide (s=a) else
  if s.size<a.size+z.size∨s.extract 0 a.size≠a∨s.extract (s.size-z.size) s.size≠z then false else j7 l.tail.dropLast (s.extract a.size (s.size-z.size))
def aB (p s:ByteArray):Bool:=(EF 124 p).any fun x=>isK (EF 42 x) s
def QZ (m:Mt)(ls:List Lb):Bool:=
 let v:=Dk ls m.name
 if m.kind=1 then decide (v=m.val) else if m.kind=2 then decide (v≠m.val) else if m.kind=3 then aB m.val v else if m.kind=4 then !aB m.val v else false
def ML (ms:List Mt)(ls:List Lb):Bool:=ms.all fun m=>QZ m ls
def FW (u:UInt8):Bool:=decide (48≤u.toNat∧u.toNat≤57)
end TwW
end
section
namespace TwW
open Go Tw
def MM (v least:Int):Bool:=decide (least≤v)&&decide (v<2147483648)
section
variable (qP:ByteArray→Bool)(ARW:ByteArray→Bool)
def Po (n:Nd):Bool:=n.names.all qP&&(decide (n.names.length=0)||decide (n.EH≠0))
def MN (ms:List Mt):Int:=if 8<ms.length then 41 else if ms.all (fun m=>decide (1≤m.kind∧m.kind≤4)&&qP m.name&&decide (m.val.size≤256)) then 0 else 40
end
end TwW
end
section
namespace TwW
open Go Tw Go.RowKit Go.Proofs.Tryz
abbrev Pt:=Int×Int
def C1 (_:Hp)(vs:List Value)(x:Pt):Prop:=vs=[.I x.1,.U x.2]
theorem C1.mono:Gs C1:=fun _ _ _ _ _ h=>h
def CA (σ:Hp)(vs:List Value)(s:Sr):Prop:=∃p n c q m d,vs=[.slice p n c,.slice q m d]∧Dz σ p n s.ls∧Ac 2 C1 σ q m s.ps∧m≤d
theorem CA.mono:Gs CA:=fun _ _ _ _ hx ⟨p,n,c,q,m,d,hv,h1,h2,h3⟩=>⟨p,n,c,q,m,d,hv,h1.mono BM.mono hx,h2.mono C1.mono hx,h3⟩
def Ni (_:Hp)(vs:List Value)(m:Mt):Prop:=vs=[.I m.kind,.string m.name,.string m.val]
theorem Ni.mono:Gs Ni:=fun _ _ _ _ _ h=>h
def Ha (σ:Hp)(vs:List Value)(n:Nd):Prop:=∃p k c q m d,vs=[.I n.kind,.I n.op,.string n.text,.slice p k c,.I n.width,.I n.back,.I n.EH,.slice q m d,.bool n.bool,.I n.parts]∧Ac 3 Ni σ p k n.mt∧Gq 1 σ q m (n.names.map .string)
theorem Ha.mono:Gs Ha:=fun _ _ _ _ hx ⟨p,k,c,q,m,d,hv,h1,h2⟩=>⟨p,k,c,q,m,d,hv,h1.mono Ni.mono hx,h2.mono hx⟩
def By (σ:Hp)(vs:List Value)(x:El):Prop:=∃p n c,vs=[.slice p n c,.U x.v]∧Dz σ p n x.ls
theorem By.mono:Gs By:=fun _ _ _ _ hx ⟨p,n,c,hv,h⟩=>⟨p,n,c,hv,h.mono BM.mono hx⟩
def To (σ:Hp)(vs:List Value)(x:Rg):Prop:=∃p n c q m d,vs=[.slice p n c,.slice q m d]∧Dz σ p n x.ls∧Ev .u64 σ q m x.vs∧m≤d
theorem To.mono:Gs To:=fun _ _ _ _ hx ⟨p,n,c,q,m,d,hv,h1,h2,h3⟩=>⟨p,n,c,q,m,d,hv,h1.mono BM.mono hx,h2.mono hx,h3⟩
def Mj (σ:Hp)(vs:List Value)(x:Vv):Prop:=∃p n c q m d,vs=[.I x.kind,.U x.v,.slice p n c,.slice q m d]∧Ac 2 By σ p n x.vec∧Ac 2 To σ q m x.MX
theorem Mj.mono:Gs Mj:=fun _ _ _ _ hx ⟨p,n,c,q,m,d,hv,h1,h2⟩=>⟨p,n,c,q,m,d,hv,h1.mono By.mono hx,h2.mono To.mono hx⟩
theorem Ac.sub {α:Type}{s:Nat}{E:Hp→List Value→α→Prop}{σ:Hp}{p:Option Addr}{n c i m:Nat}{xs:List α}(h:Ac s E σ p n xs)(hs:0<s)(him:i+m≤n)(hc:n≤c):Ac s E σ (Fe p i c s) m ((xs.drop i).take m):=by
 obtain⟨h1,cs,⟨h2,h3,h4⟩,h5,h6⟩:=h;refine⟨by rw[AW0,AXS];omega,(cs.drop (i*s)).take (m*s),⟨?_,by omega,?_⟩,?_,fun j x hj=>?_⟩
 ·have:i*s+m*s≤n*s:=by rw[←AXs];exact AXR _ him
  rw[AW0,AXS];omega
 ·rcases AZP m with hm|hm
  ·exact .inl hm
  ·rcases h4 with h4|⟨b,o,rfl,h4⟩
   ·omega
   ·refine .inr ⟨b,o+i*s,?_,?_⟩
    ·unfold Fe;rw[AWj (by omega)];simp[Bl]
    ·exact h4.part
 ·have:i*s+m*s≤n*s:=by rw[←AXs];exact AXR _ him
  rw[AW0,AXS,AW0,AXS];have:min m (xs.length-i)=m:=by omega
  rw[this];omega
 ·rw[AW4]at hj;split at hj
  ·rename_i hjm;rw[AXQ]at hj;have:=h6 (i+j) x hj;have e:((((cs.drop (i*s)).take (m*s)).drop (j*s)).take s)=(cs.drop ((i+j)*s)).take s:=by
    have hle:j*s+s≤m*s:=by rw[←AYU];exact AXR _ hjm
    rw[List.drop_take,AZl,List.drop_drop,AXs]
    congr 1
    omega
   rw[e];exact this
  ·cases hj
section
variable {σ σ' τ:Hp}{R:Rr}
theorem j8 {a b:ByteArray}:YN prog 87 #[.string a,.string b] σ (.I (JL a b)):=fun w _=>by
 rw[run_callFunc_extern Go.Proofs.Tryz.func87 (by kernel_rfl) (by kernel_rfl) (by kernel_rfl) (e:=Extern.BytealgCompare.compare) (by kernel_rfl),Lib.run_compareString];rfl
theorem Qa [Ei]{a b:ByteArray}(h:R (.returned (.I (JL a b))) σ):Spec prog 42 #[.string a,.string b] σ R:=
 JC.start (CM.start (.y j8 ⟨_,rfl,_,rfl,h⟩))
theorem eC [Ei]{x y:Lb}(h:∀σ',Ext σ σ'→R (.returned (.I (Tn JL JL x y))) σ'):Spec prog 40 #[.agg #[.string x.1,.string x.2],.agg #[.string y.1,.string y.2]] σ R:=by
 refine I9.start fun _ _=>Qa ⟨_,rfl,Qa ⟨_,rfl,fun b hb=>?_⟩⟩;have hh:=h _ (.set hb (o:=.cells #[.I (JL x.1 y.1),.I (JL x.2 y.2)] 3 (0,0)));unfold Tn at hh;generalize JL x.1 y.1=u at *;generalize JL x.2 y.2=v at *;refine Ga.start (Ga.AY ⟨fun _=>⟨b,0,rfl,by omega,u,by simp[Hp.ld,Hp.AA],fun h0=>⟨_,rfl,?_⟩,fun h0=>⟨by unfold AM;omega,Ga.AY ⟨fun _=>⟨b,0,rfl,by omega,v,by simp[Hp.ld,Hp.AA],fun h1=>⟨_,rfl,?_⟩,fun h1=>⟨by unfold AM;omega,Ga.AY ⟨fun h2=>by omega,fun _=>⟨_,rfl,?_⟩⟩⟩⟩,fun h2=>by omega⟩⟩⟩,fun h2=>by omega⟩)
 ·rw[AWj h0]at hh;exact hh
 ·rw[AWl (AW7.1 h0)]at hh;exact hh
 ·have h1':v=0:=AW7.1 h1;rw[AWl (AW7.1 h0),h1']at hh;rw[←h1']at hh ⊢;exact hh
theorem AOI:Enters prog 40:=fun args w=>call40 args w
theorem BH {α:Type}{xs:List α}{k:Nat}{y:α}(hy:xs[k]?=some y):xs.drop k=y::xs.drop (k+1):=by
 obtain⟨h,rfl⟩:=AWk.1 hy;exact AYp h
theorem GB [Ei]{p q:Option Addr}{n c m d:Nat}{ls ms:List Lb}(hr:Dz σ p n ls)(hs:Dz σ q m ms)(h:∀σ',Ext σ σ'→R (.returned (.I (AX ls ms))) σ'):Spec prog 22 #[.slice p n c,.slice q m d] σ R:=by
 have hl:ls.length=n:=hr.1;have hm:ms.length=m:=hs.1;refine Lw.start (A1.start ?_)
 suffices H:∀g k:Nat,∀σ',n-k=g→k≤n→k≤m→Ext σ σ'→AX ls ms=AX (ls.drop k) (ms.drop k)→A1.II (Ap R (CI .i64 fun x7 y=>R (.returned (.I x7)) y)) p n c q m d (.func (.func 40) #[] #[]) p n c n k σ' from H n 0 σ rfl (AWx _) (AWx _) (.refl _) rfl
 intro g
 induction g with
 | zero=>
  intro k σ' hg hk yn hx he;have iq:k=n:=by omega
  rw[AXH (by omega)]at he;refine A1.A8 ⟨fun Am=>by omega,fun _=>⟨fun vN=>⟨_,rfl,?_⟩,fun vN=>⟨_,rfl,?_⟩⟩⟩
  ·obtain⟨y,hy⟩:=hs.ex (k:=k) (by omega);rw[BH hy]at he;have:=h σ' hx;rw[he]at this;exact this
  ·rw[AXH (by omega)]at he;have:=h σ' hx;rw[he]at this;exact this
 | succ g ih=>
  intro k σ' hg hk yn hx he;obtain⟨x,Vz⟩:=hr.ex (k:=k) (by omega);obtain⟨b,o,rfl,W5⟩:=Dz.at hr Vz;rw[BH Vz]at he;refine A1.A8 ⟨fun _=>⟨b,o,rfl,by omega,x.1,x.2,by simpa using W5.mono hx,fun _=>⟨fun mX=>⟨_,rfl,?_⟩,fun mX=>?_⟩⟩,fun hh=>by omega⟩
  ·rw[show ms.drop k=[] from AXH (by omega)]at he;have:=h σ' hx;rw[he]at this;exact this
  ·obtain⟨y,qQ⟩:=hs.ex (k:=k) (by omega);obtain⟨b',o',rfl,Xl⟩:=Dz.at hs qQ;rw[BH qQ]at he;have GX:AX ls ms=if Tn JL JL x y=0 then AX (ls.drop (k+1)) (ms.drop (k+1)) else Tn JL JL x y:=he
   refine⟨b',o',rfl,by omega,y.1,y.2,by simpa using Xl.mono hx,fun _=>⟨40,#[],#[],rfl,AOI,eC fun σ2 A4=>⟨_,rfl,fun Ay=>⟨_,rfl,?_⟩,fun heq=>⟨AN (by omega:k<n) hr.big,ih (k+1) σ2 (by omega) (by omega) (by omega) (hx.trans A4) ?_⟩⟩⟩⟩
   ·have:=h σ2 (hx.trans A4);rw[GX,AWj Ay]at this;exact this
   ·rw[GX,AWl (AW7.1 heq)]
def KZ:List Pt→Bool
 | []=>false
 | [_]=>true
 | a::b::l=>decide (a.1<b.1)&&KZ (b::l)
theorem Hz:∀ps:List Pt,KZ ps=true↔0<ps.length∧∀j a b,ps[j]?=some a→ps[j+1]?=some b→a.1<b.1
 | []=>by simp[KZ]
 | [a]=>by simp[KZ]
 | a::b::l=>by
  simp only[KZ,AWv,AW6];rw[Hz (b::l)]
  constructor
  ·rintro⟨h1,h2,h3⟩
   refine⟨by simp,fun j x y hx hy=>?_⟩;cases j with
   | zero=>simp at hx hy;subst hx;subst hy;exact h1
   | succ j=>exact h3 j x y (by simpa using hx) (by simpa using hy)
  ·rintro⟨h1,h2⟩
   exact⟨h2 0 a b rfl rfl,by simp,fun j x y hx hy=>h2 (j+1) x y (by simpa using hx) (by simpa using hy)⟩
theorem C1.at {p:Option Addr}{n i:Nat}{ps:List Pt}{x:Pt}(hr:Ac 2 C1 σ p n ps)(hx:ps[i]?=some x):∃b o,p=some ⟨b,o,none⟩∧Av σ b (o+i*2) [.I x.1,.U x.2]:=by
 obtain⟨b,o,vs,hp,rfl,hl⟩:=Ac.idx hr hx;exact⟨b,o,hp,hl⟩
theorem aC {p:Option Addr}{n c:Nat}{ps:List Pt}(hr:Ac 2 C1 σ p n ps)(h:R (.returned (.bool (KZ ps))) σ):Spec prog 44 #[.slice p n c] σ R:=by
 have hl:ps.length=n:=hr.1;refine DY.start ?_;have fin:(∀j a b,ps[j]?=some a→ps[j+1]?=some b→a.1<b.1)→R (.returned (.bool (decide (0<(n:Int))))) σ:=fun hh=>by
  have e:KZ ps=decide (0<(n:Int)):=by
   rw[Bool.eq_iff_iff,Hz,AW6];exact⟨fun h=>by omega,fun h=>⟨by omega,hh⟩⟩
  rw[e]at h;exact h
 suffices H:∀g k:Nat,n-k=g→1≤k→(∀j a b,j+1<k→ps[j]?=some a→ps[j+1]?=some b→a.1<b.1)→DY.Ho R p n c k σ from H (n-1) 1 rfl (AWu _) (fun j a b hj=>by omega)
 intro g
 induction g with
 | zero=>
  intro k hg hk DS;refine DY.BJ ⟨fun Am=>by omega,fun _=>fin fun j a b ha hb=>DS j a b ?_ ha hb⟩;have:=(AWk.1 hb).1;omega
 | succ g ih=>
  intro k hg hk DS;obtain⟨x,hx⟩:=hr.ex (k:=k) (by omega);obtain⟨y,hy⟩:=hr.ex (k:=k-1) (by omega);obtain⟨b,o,rfl,W5⟩:=C1.at hr hx;obtain⟨_,_,he,Xl⟩:=C1.at hr hy;cases he;have e1:Int.toNat ((k:Int)-1)=k-1:=by omega
  refine DY.BJ ⟨fun _=>⟨b,o,rfl,by omega,x.1,by simpa using W5.1,by unfold AM;have:=hr.big;omega,by omega,y.1,by rw[e1];simpa using Xl.1,fun hle=>?_,fun yo=>⟨AN (by omega:k<n) hr.big,ih (k+1) (by omega) (by omega) fun j a b' hj ha hb=>?_⟩⟩,fun hh=>by omega⟩
  ·have e:KZ ps=false:=by
    rw[Bool.eq_false_iff,ne_eq,Hz];exact fun hh=>by
     have:=hh.2 (k-1) y x hy (by rw[show k-1+1=k by omega];exact hx);omega
   rw[e]at h;exact h
  ·by_cases il:j+1=k
   ·rw[il,hx]at hb;cases hb;rw[show j=k-1 by omega,hy]at ha;cases ha;omega
   ·exact DS j a b' (by omega) ha hb
def DC:Option (List Lb)→List Sr→Bool
 | _,[]=>true
 | q,s::l=>decide (Fo s.ls=0)&&KZ s.ps&&(match q with | none=>true | some q=>decide (AX q s.ls<0))&&DC (some s.ls) l
theorem H0 (q:Option (List Lb))(s:Sr)(l:List Sr):DC q (s::l)=(decide (Fo s.ls=0)&&KZ s.ps&&(match q with | none=>true | some q=>decide (AX q s.ls<0))&&DC (some s.ls) l):=by
 cases q<;>rfl
theorem CA.at {p:Option Addr}{n i:Nat}{ss:List Sr}{s:Sr}(hr:Ac 2 CA σ p n ss)(hx:ss[i]?=some s):∃b o p1 n1 c1 q m d,p=some ⟨b,o,none⟩∧Av σ b (o+i*2) [.slice p1 n1 c1,.slice q m d]∧Dz σ p1 n1 s.ls∧Ac 2 C1 σ q m s.ps∧m≤d:=by
 obtain⟨b,o,vs,hp,⟨p1,n1,c1,q,m,d,rfl,h1,h2,h3⟩,hl⟩:=Ac.idx hr hx;exact⟨b,o,p1,n1,c1,q,m,d,hp,hl,h1,h2,h3⟩
theorem Ka {p:Option Addr}{n c:Nat}{ss:List Sr}(hr:Ac 2 CA σ p n ss)(h:∀σ',Ext σ σ'→R (.returned (.I (if DC none ss then 0 else 100))) σ'):Spec prog 27 #[.slice p n c] σ R:=by
 have hl:ss.length=n:=hr.1;refine DI.start ?_
 suffices H:∀g k:Nat,∀σ',n-k=g→k≤n→Ext σ σ'→DC none ss=DC (if k=0 then none else(ss[k-1]?).map (·.ls)) (ss.drop k)→DI.II R p n c p n c n k σ' from H n 0 σ rfl (AWx _) (.refl _) rfl
 intro g
 induction g with
 | zero=>
  intro k σ' hg hk hx he;rw[AXH (by omega)]at he;refine DI.A8 ⟨fun Am=>by omega,fun _=>?_⟩;have:=h σ' hx;rw[he]at this;exact this
 | succ g ih=>
  intro k σ' hg hk hx he;have Ew:k<n:=by omega
  obtain⟨s,hs⟩:=hr.ex Ew;obtain⟨b,o,p1,n1,c1,q,m,d,rfl,gp,h1,h2,h3⟩:=CA.at hr hs;rw[BH hs,H0]at he;have bad:(decide (Fo s.ls=0)&&KZ s.ps&&(match (if k=0 then none else(ss[k-1]?).map (·.ls)) with | none=>true | some q=>decide (AX q s.ls<0)))=false→∀σ2,Ext σ σ2→R (.returned (.I 100)) σ2:=fun hf σ2 A4=>by
   have:=h σ2 A4;rw[he,hf]at this;exact this
  refine DI.A8 ⟨fun _=>⟨b,o,rfl,by omega,p1,n1,c1,q,m,d,by simpa using gp.mono hx,fun _=>Q2 (h1.mono BM.mono hx) ⟨_,rfl,fun Ay=>bad (by simp[Ay]) σ' hx,fun h0=>aC (h2.mono C1.mono hx) ⟨_,rfl,fun hf=>bad (by simp[hf]) σ' hx,fun ht=>?_⟩⟩⟩,fun hh=>by omega⟩;have Qb:=AW7.1 h0;have ht':KZ s.ps=true:=ht;have next:∀σ2,Ext σ σ2→(match (if k=0 then none else(ss[k-1]?).map (·.ls)) with | none=>true | some q=>decide (AX q s.ls<0))=true→AM ((k:Int)+1)∧DI.II R (aD b o) n c (aD b o) n c n ((k:Int)+1) σ2:=fun σ2 A4 hm=>by
   refine⟨AN Ew hr.big,ih (k+1) σ2 (by omega) (by omega) A4 ?_⟩;rw[he,hm,Qb,ht'];simp[hs]
  refine⟨fun Rc=>⟨by unfold AM;have:=hr.big;omega,b,o,rfl,by omega,?_⟩,fun Rc=>next σ' hx (by rw[AWl (by omega)])⟩;obtain⟨s',Re⟩:=hr.ex (k:=k-1) (by omega);obtain⟨_,_,p1',n1',c1',_,_,_,Vw,AOJ,h1',_,_⟩:=CA.at hr Re;cases Vw;have e1:Int.toNat ((k:Int)-1)=k-1:=by omega
  refine⟨p1',n1',c1',by rw[e1];simpa using(AOJ.mono hx).1,GB (h1'.mono BM.mono hx) (h1.mono BM.mono hx) fun σ2 A4=>⟨_,rfl,fun Vu=>bad ?_ σ2 (hx.trans A4),fun Am=>next σ2 (hx.trans A4) ?_⟩⟩
  ·rw[AWj (by omega),Re];simp;omega
  ·rw[AWj (by omega),Re];simp;omega
end
theorem H3 (a:List Pt):C0 a []=a:=by cases a<;>rw[C0];intro h;cases h
theorem H4 (b:List Pt):C0 [] b=b:=by rw[C0]
theorem GC {x y:Pt}{a b:List Pt}:C0 (x::a) (y::b)=if x.1<y.1 then x::C0 a (y::b) else if y.1<x.1 then y::C0 (x::a) b else(x.1,if x.2<y.2 then y.2 else x.2)::C0 a b:=by rw[C0]
theorem H5 (a:List Sr):D1 a []=a:=by cases a<;>rw[D1];intro h;cases h
theorem GD {x y:Sr}{a b:List Sr}:D1 (x::a) (y::b)=if AX x.ls y.ls<0 then x::D1 a (y::b) else if 0<AX x.ls y.ls then y::D1 (x::a) b else⟨x.ls,C0 x.ps y.ps⟩::D1 a b:=by rw[D1]
theorem Nj:∀(a b:List Pt),(C0 a b).length≤a.length+b.length
 | [],b=>by rw[H4];simp
 | x::a,[]=>by rw[H3];simp
 | x::a,y::b=>by
  rw[GC];have h1:=Nj a (y::b);have h2:=Nj (x::a) b;have h3:=Nj a b;simp only[AWw]at *;split
  ·simp only[AWw];omega
  ·split
   ·simp only[AWw];omega
   ·simp only[AWw];omega
termination_by a b=>a.length+b.length
abbrev Pp (x y:Sr):Prop:=AX x.ls y.ls<0
def H6 (x:Nat):Bool:=!(FloatKind.f64.format.order x x==some .eq)
def toF (x:Nat):Nat:=if H6 x then 9221120237041090560 else x
theorem Tp (d:Ieee.Datum):d.order d=if d.isNaN then none else some .eq:=by
 cases d with
 | nan=>rfl
 | infinity s=>cases s<;>rfl
 | number s m i=>simp[Ieee.Datum.order,Ieee.Datum.isNaN,Std.ReflCmp.compare_self]
theorem Kb (x:Nat):H6 x=true↔9218868437227405312<x%9223372036854775808:=by
 have h1:H6 x=(Ieee.double.read x).isNaN:=by
  show(!((Ieee.double.read x).order (Ieee.double.read x)==some .eq))=_
  rw[Tp];cases(Ieee.double.read x).isNaN<;>rfl
 rw[h1];have e1:Ieee.double.signWeight=9223372036854775808:=by decide
 have e2:Ieee.double.binade=4503599627370496:=by decide
 have e3:Ieee.double.infRung=9218868437227405312:=by decide
 unfold Ieee.Format.read;simp only[e1,e2,e3];split
 ·simp[Ieee.Datum.isNaN];omega
 ·split
  ·simp[Ieee.Datum.isNaN];omega
  ·split
   ·simp[Ieee.Datum.isNaN];omega
   ·simp[Ieee.Datum.isNaN];omega
theorem aF:H6 9221120237041090560=true:=(Kb _).2 (by decide)
theorem eD (a b t:Nat):H6 (Question.cut (.nanBits .f64 a b) t)=true:=by
 rw[Kb];show 9218868437227405312<((t%2)*9223372036854775808+9218868437227405312+1+(t/2)%4503599627370495)%9223372036854775808
 have h1:=AYy (t/2) (show 0<4503599627370495 by decide);generalize (t/2)%4503599627370495=r at *;rcases Nat.mod_two_eq_zero_or_one t with h|h<;>rw[h]<;>omega
theorem toF_drawn (a b t:Nat):toF (Question.cut (.nanBits .f64 a b) t)=9221120237041090560:=by unfold toF;rw[eD];rfl
def fAr (op:Int)(a b:Nat):Option Nat:=if op=1 then Ieee.double.add a b else if op=2 then Ieee.double.sub a b else if op=3 then Ieee.double.mul a b else Ieee.double.div a b
def AJE:Option Nat→Nat
 | some r=>toF r
 | none=>9221120237041090560
def AOK (a b:Nat):Option Nat→Sem Value
 | some r=>pure (.float .f64 r)
 | none=>do pure (.float .f64 (←choose (.nanBits .f64 a b)))
def W6 (op:Int)(a b:Nat):Nat:=AJE (fAr op a b)
def fCm (op:Int)(a b:Nat):Bool:=
 let c:=Ieee.double.order a b
 if op=5 then c==some .eq else if op=6 then c != some .eq else if op=7 then c==some .lt else if op=8 then c==some .lt||c==some .eq else if op=9 then c==some .gt else if op=10 then c==some .gt||c==some .eq else false
section
variable [Ei]{σ:Hp}{R:Rr}
theorem Nk {b:Nat}:YN prog 32 #[.float .f64 b] σ (.U b):=fun w _=>by
 rw[run_callFunc_extern Go.Proofs.Tryz.func32 (by kernel_rfl) (by kernel_rfl) (by kernel_rfl) (e:=Extern.MathFloatBits.float64bits) (by kernel_rfl)];rfl
theorem qR {x:Int}:YN prog 170 #[.U x] σ (.float .f64 x.toNat):=fun w _=>by
 rw[run_callFunc_extern Go.Proofs.Tryz.func170 (by kernel_rfl) (by kernel_rfl) (by kernel_rfl) (e:=Extern.MathFloatBits.float64frombits) (by kernel_rfl)];rfl
theorem eE {x:Nat}(h:R (.returned (.bool (H6 x))) σ):Spec prog 164 #[.float .f64 x] σ R:=
 SL.start ⟨H6 x,fun w _=>rfl,h⟩
theorem F0 {x:Int}(h:R (.returned (.float .f64 x.toNat)) σ):Spec prog 134 #[.U x] σ R:=
 gL.start (.y qR ⟨_,rfl,h⟩)
theorem F1 {x:Nat}(h:R (.returned (.U (toF x:Nat))) σ):Spec prog 126 #[.float .f64 x] σ R:=by
 refine gW.start (eE ⟨_,rfl,fun ht=>?_,fun hf=>.y Nk ⟨_,rfl,?_⟩⟩)
 ·rw[show toF x=9221120237041090560 by unfold toF;rw[ht];rfl]at h;exact h
 ·rw[show toF x=x by unfold toF;rw[hf];rfl]at h;exact h
def eF (x:Int):Int:=(toF x.toNat:Nat)
theorem FX {x:Int}(h:R (.returned (.U (eF x))) σ):Spec prog 138 #[.U x] σ R:=
 QS.start (F0 ⟨_,rfl,F1 ⟨_,rfl,h⟩⟩)
theorem qS {m:Sem Value}{q:Question}{f:Nat→Value}{Φ:Value→Hp→Prop}(hm:∀w,m.run prog w=.ok (f (q.cut (w.tape w.drawn q))) { w with drawn:=w.drawn+1 })(h:∀t,Φ (f (q.cut t)) σ):AH prog m σ Φ:=fun w F hs hF=>
 ⟨_,_,σ,hm w,h _,⟨fun b o hb=>hs b o hb,fun b hb=>⟨(hF b hb).2,rfl⟩,(Dj.same rfl rfl rfl).drew,rfl,AWu _⟩⟩
theorem Tq {m:Sem Value}{v:Value}{Φ:Value→Hp→Prop}(hm:∀w,m.run prog w=.ok v w)(h:Φ v σ):AH prog m σ Φ:=fun w F hs hF=>
 ⟨_,_,σ,hm w,h,⟨hs,fun b hb=>⟨(hF b hb).2,rfl⟩,.same rfl rfl rfl,rfl,AWu _⟩⟩
theorem LK {op:BinOp}{a b:Nat}{Φ:Value→Hp→Prop}(r:Option Nat)(hr:∀w,(Go.binOp op 40 (.float .f64 a) (.float .f64 b)).run prog w=(AOK a b r).run prog w)
  (h:∀x:Nat,toF x=AJE r→Φ (.float .f64 x) σ):AH prog (Go.binOp op 40 (.float .f64 a) (.float .f64 b)) σ Φ:=by
 cases r with
 | some r=>exact Tq (v:=.float .f64 r) (fun w=>(hr w).trans rfl) (h r rfl)
 | none=>exact qS (q:=.nanBits .f64 a b) (f:=fun x=>.float .f64 x) (fun w=>(hr w).trans rfl) (fun t=>h _ (toF_drawn a b t))
theorem RO {a b:Nat}{Φ:Value→Hp→Prop}(h:∀x:Nat,toF x=W6 1 a b→Φ (.float .f64 x) σ):AH prog (Go.binOp .add 40 (.float .f64 a) (.float .f64 b)) σ Φ:=
 LK (Ieee.double.add a b) (fun w=>by refine(show _=(Op.floatArith .add .f64 a b).run prog w from rfl).trans ?_;unfold Op.floatArith;simp only[FloatKind.format];cases Ieee.double.add a b<;>rfl) h
theorem vO {a b:Nat}{Φ:Value→Hp→Prop}(h:∀x:Nat,toF x=W6 2 a b→Φ (.float .f64 x) σ):AH prog (Go.binOp .sub 40 (.float .f64 a) (.float .f64 b)) σ Φ:=
 LK (Ieee.double.sub a b) (fun w=>by refine(show _=(Op.floatArith .sub .f64 a b).run prog w from rfl).trans ?_;unfold Op.floatArith;simp only[FloatKind.format];cases Ieee.double.sub a b<;>rfl) h
theorem Nl {a b:Nat}{Φ:Value→Hp→Prop}(h:∀x:Nat,toF x=W6 3 a b→Φ (.float .f64 x) σ):AH prog (Go.binOp .mul 40 (.float .f64 a) (.float .f64 b)) σ Φ:=
 LK (Ieee.double.mul a b) (fun w=>by refine(show _=(Op.floatArith .mul .f64 a b).run prog w from rfl).trans ?_;unfold Op.floatArith;simp only[FloatKind.format];cases Ieee.double.mul a b<;>rfl) h
theorem gq {a b:Nat}{Φ:Value→Hp→Prop}(h:∀x:Nat,toF x=W6 4 a b→Φ (.float .f64 x) σ):AH prog (Go.binOp .quo 40 (.float .f64 a) (.float .f64 b)) σ Φ:=
 LK (Ieee.double.div a b) (fun w=>by refine(show _=(Op.floatArith .quo .f64 a b).run prog w from rfl).trans ?_;unfold Op.floatArith;simp only[FloatKind.format];cases Ieee.double.div a b<;>rfl) h
def RP (op a b:Int):Int:=(W6 op a.toNat b.toNat:Nat)
theorem Iu {op a b:Int}(h:R (.returned (if 1≤op∧op≤4 then .tuple #[.U (RP op a b),.bool true] else .tuple #[.U 0,.bool false])) σ):Spec prog 155 #[.I op,.U a,.U b] σ R:=by
 refine Ta.start (F0 ⟨_,rfl,F0 ⟨_,rfl,fun h1=>RO fun x hx=>⟨_,rfl,F1 ⟨_,rfl,?_⟩⟩,fun h1=>⟨fun h2=>vO fun x hx=>⟨_,rfl,F1 ⟨_,rfl,?_⟩⟩,fun h2=>⟨fun h3=>Nl fun x hx=>⟨_,rfl,F1 ⟨_,rfl,?_⟩⟩,fun h3=>⟨fun h4=>gq fun x hx=>⟨_,rfl,F1 ⟨_,rfl,?_⟩⟩,fun h4=>?_⟩⟩⟩⟩⟩)
 ·subst h1;rw[hx];exact h
 ·subst h2;rw[hx];exact h
 ·subst h3;rw[hx];exact h
 ·subst h4;rw[hx];exact h
 ·rw[AWj (by omega)]at h;exact h
end
section
variable [Ei]{σ:Hp}{R:Rr}
def aG (op a b:Int):Bool:=fCm op a.toNat b.toNat
theorem Iw {op a b:Int}(h:R (.T #[.bool (aG op a b),.bool (decide (5≤op∧op≤10))]) σ):Spec prog 156 #[.I op,.U a,.U b] σ R:=by
 have fin:∀{k:Int} {t:Bool},op=k→5≤k→k≤10→fCm k a.toNat b.toNat=t→R (.T #[.bool t,.bool true]) σ:=fun hk h5 Y6 ht=>by
  subst hk;rw[show aG op a b=fCm op a.toNat b.toNat from rfl,ht,show decide (5≤op∧op≤10)=true from AXK ⟨h5,Y6⟩]at h;exact h
 refine NK.start (F0 ⟨_,rfl,F0 ⟨_,rfl,
  fun h1=>⟨_,fun w _=>rfl,fin h1 (by decide) (by decide) rfl⟩,fun h1=>
  ⟨fun h2=>⟨_,fun w _=>rfl,fin h2 (by decide) (by decide) rfl⟩,fun h2=>
  ⟨fun h3=>⟨_,fun w _=>rfl,fin h3 (by decide) (by decide) rfl⟩,fun h3=>
  ⟨fun h4=>⟨_,fun w _=>rfl,fin h4 (by decide) (by decide) rfl⟩,fun h4=>
  ⟨fun h5=>⟨_,fun w _=>rfl,fin h5 (by decide) (by decide) rfl⟩,fun h5=>
  ⟨fun h6=>⟨_,fun w _=>rfl,fin h6 (by decide) (by decide) rfl⟩,fun h6=>?_⟩⟩⟩⟩⟩⟩⟩)
 rw[show decide (5≤op∧op≤10)=false from AXC (by omega),show aG op a b=false by unfold aG fCm;simp only[h1,h2,h3,h4,h5,h6,AX9]]at h;exact h
def W7 (x:Int):Int:=(toF (Go.bits .andNot .u64 x 9223372036854775808).toNat:Nat)
theorem qT {x:Int}(hx:0≤x)(h:R (.returned (.U (W7 x))) σ):Spec prog 102 #[.U x] σ R:=by
 refine NJ.start (F0 ⟨_,rfl,Y0.start (.y Nk ⟨_,rfl,fun x5 h5=>.y qR ⟨_,rfl,_,rfl,F1 ⟨_,rfl,?_⟩⟩⟩)⟩);rw[show W7 x=(toF x5.toNat:Nat) by unfold W7;rw[h5,Int.toNat_of_nonneg hx]]at h;exact h
def Kc (x:Nat):Nat:=match Ieee.double.read x with
 | .nan _ _=>9221120237041090560
 | d=>toF (Ieee.double.write (d.integral .down))
def Mk (x:Int):Int:=(Kc x.toNat:Nat)
theorem V2 (x:Nat):H6 x=(Ieee.double.read x).isNaN:=by
 show(!((Ieee.double.read x).order (Ieee.double.read x)==some .eq))=_
 rw[Tp];cases(Ieee.double.read x).isNaN<;>rfl
theorem eG (s:Bool)(t:Nat):H6 (Ieee.double.write (.nan s (Ieee.double.quiet t)))=true:=by
 rw[Kb];have e1:Ieee.double.signWeight=9223372036854775808:=by decide
 have e2:Ieee.double.binade=4503599627370496:=by decide
 have e3:Ieee.double.infRung=9218868437227405312:=by decide
 have hp:(Ieee.double.quiet t%4503599627370496).testBit 51=true:=by
  rw[show 4503599627370496=2^52 from rfl,Nat.testBit_mod_two_pow];show(decide (51<52)&&(t ||| 2^51).testBit 51)=true
  rw[Nat.testBit_or,Nat.testBit_two_pow_self];simp
 have hp0:0<Ieee.double.quiet t%4503599627370496:=by
  apply Nat.pos_of_ne_zero
  intro h0;rw[h0]at hp;simp at hp
 have Am:=AYy (Ieee.double.quiet t) (show 0<4503599627370496 by decide);show 9218868437227405312<Ieee.double.word s (Ieee.double.infRung+Ieee.double.quiet t%Ieee.double.binade)%9223372036854775808
 unfold Ieee.Format.word;rw[e1,e2,e3];generalize Ieee.double.quiet t%4503599627370496=p at *;cases s
 ·rw[AWj (by decide)];omega
 ·rw[AWl rfl];omega
def flo (x : Nat) : Sem Value := match Ieee.double.read x with
 | .nan s t => if Ieee.double.quiet t = t then pure (.float .f64 x) else do
   let kept ← choose (.extern "math.Floor,Ceil,Trunc,RoundToEven.signallingNaN kept" 2)
   pure (.float .f64 (if kept == 1 then x else Ieee.double.write (.nan s (Ieee.double.quiet t))))
 | d => pure (.float .f64 (Ieee.double.write (d.integral .down)))
theorem qU {x : Nat} {Φ : Value → Hp → Prop} (h : ∀ y : Nat,toF y = Kc x → Φ (.float .f64 y) σ) : EN prog 171 #[.float .f64 x] σ Φ := by
 have BC : ∀ w,(callFunc 171 #[.float .f64 x]).run prog w = ((flo x).run prog w).andThen fun v w' => .ok (.value v) w' := fun w => by
   rw [run_callFunc_extern Go.Proofs.Tryz.func171 (by kernel_rfl) (by kernel_rfl) (by kernel_rfl) (e := Extern.MathFloor.toIntegral "math.archFloor" .down) (by kernel_rfl)]
   rfl
 have same : ∀ y,flo x = pure (.float .f64 y) → toF y = Kc x → EN prog 171 #[.float .f64 x] σ Φ := fun y hy hf => .y (v := .float .f64 y) (fun w _ => by rw [BC,hy]; rfl) (h y hf)
 cases hd : Ieee.double.read x with
 | number s m i => exact same _ (by unfold flo; rw [hd]) (by unfold Kc; rw [hd])
 | infinity s => exact same _ (by unfold flo; rw [hd]) (by unfold Kc; rw [hd])
 | nan s t =>
   have hx : H6 x = true := by rw [V2,hd]; rfl
   have hn : Kc x = 9221120237041090560 := by unfold Kc; rw [hd]
   have e1 : toF x = 9221120237041090560 := by unfold toF; rw [hx]; rfl
   by_cases hq : Ieee.double.quiet t = t
   · exact same x (by unfold flo; rw [hd]; simp only [hq,AYY]) (by rw [e1,hn])
   · intro w F hs hF
     refine ⟨.float .f64 (if (Question.cut (.extern "math.Floor,Ceil,Trunc,RoundToEven.signallingNaN kept" 2) (w.tape w.drawn (.extern "math.Floor,Ceil,Trunc,RoundToEven.signallingNaN kept" 2))) == 1 then x else Ieee.double.write (.nan s (Ieee.double.quiet t))),{ w with drawn := w.drawn + 1 },σ,?_,?_,⟨fun b o hb => hs b o hb,fun b hb => ⟨(hF b hb).2,rfl⟩,(Dj.same rfl rfl rfl).drew,rfl,Nat.le_refl _⟩⟩
     · rw [BC]
       unfold flo
       rw [hd]
       simp only [hq,AX9]
       rfl
     · refine h _ ?_
       rw [hn]
       split
       · exact e1
       · unfold toF; rw [eG]; rfl
theorem eH {x:Int}(h:R (.returned (.U (Mk x))) σ):Spec prog 103 #[.U x] σ R:=
 Im.start (F0 ⟨_,rfl,TZ.start (qU fun y hy=>⟨_,rfl,_,rfl,F1 ⟨_,rfl,by rw[hy];exact h⟩⟩)⟩)
def BN (n:Int):Int:=(FloatKind.f64.nearest n:Nat)
theorem Ix {n:Int}(h:R (.returned (.U (BN n))) σ):Spec prog 101 #[.I n] σ R:=
 SJ.start (Tq (v:=.float .f64 (FloatKind.f64.nearest n)) (fun w=>by kernel_rfl) ⟨_,rfl,.y Nk ⟨_,rfl,h⟩⟩)
theorem eI {b:Bool}(h:R (.returned (.U (if b then BN 1 else BN 0))) σ):Spec prog 157 #[.bool b] σ R:=
 Tf.start ⟨fun ht=>Ix ⟨_,rfl,by rw[ht]at h;exact h⟩,fun hf=>Ix ⟨_,rfl,by rw[hf]at h;exact h⟩⟩
theorem aH {a b:Int}(h:R (.returned (.U (RP 1 a b))) σ):Spec prog 153 #[.U a,.U b] σ R:=eval_add.start (Iu ⟨_,_,rfl,h⟩)
theorem aI {a b:Int}(h:R (.returned (.U (RP 2 a b))) σ):Spec prog 142 #[.U a,.U b] σ R:=Yv.start (Iu ⟨_,_,rfl,h⟩)
theorem aJ {a b:Int}(h:R (.returned (.U (RP 4 a b))) σ):Spec prog 146 #[.U a,.U b] σ R:=Yx.start (Iu ⟨_,_,rfl,h⟩)
theorem qV {a:Int}(h:R (.returned (.bool (decide (eF a=9221120237041090560)))) σ):Spec prog 178 #[.U a] σ R:=Ys.start (FX ⟨_,rfl,h⟩)
def qW (x:Int):Int:=eF (Go.bits .xor .u64 x 9223372036854775808)
theorem Qc {x:Int}(h:R (.returned (.U (qW x))) σ):Spec prog 120 #[.U x] σ R:=QL.start fun x4 h4=>FX ⟨_,rfl,by rw[h4];exact h⟩
end
section
variable [Ei]{σ:Hp}{R:Rr}
def U4:List Int→Int
 | []=>0
 | v::l=>l.foldl (RP 1) (eF v)
theorem Ts {p:Option Addr}{n c:Nat}{vs:List Int}(hr:Ev .u64 σ p n vs)(h0:0<n)(hc:n≤c)(h:R (.returned (.U (U4 vs))) σ):Spec prog 109 #[.slice p n c] σ R:=by
 have hl:vs.length=n:=hr.1;obtain⟨v,hv⟩:=hr.ex h0;obtain⟨b,o,rfl,Ee⟩:=Ev.at hr hv;refine FP.start ⟨b,o,rfl,by omega,v,by simpa using Ee,FX ⟨_,rfl,by omega,?_⟩⟩;have hs:Ev .u64 σ (Fe (aD b o) 1 c 1) (n-1) ((vs.drop 1).take (n-1)):=Ac.sub hr (by decide) (by omega) hc;have hd:(vs.drop 1).take (n-1)=vs.tail:=by rw[AZr,AWt (by rw[AYI];omega)]
 rw[hd]at hs;have Xc:vs=v::vs.tail:=by
  cases vs with
  | nil=>cases hv
  | cons a l=>simp only[AXI,AWp]at hv;rw[hv];rfl
 rw[Xc]at h
 change R (.returned (.U (vs.tail.foldl (RP 1) (eF v)))) σ at h
 generalize Fe (aD b o) 1 c 1=q at *
 suffices H:∀g k:Nat,∀(q':Option Addr) (a:Int),(0<n-1→q'=q)→n-1-k=g→k≤n-1→vs.tail.foldl (RP 1) (eF v)=(vs.tail.drop k).foldl (RP 1) a→FP.Aw R a q (n-1) (c-1) ((n-1:Nat):Int) k σ from H (n-1) 0 q (eF v) (fun _=>rfl) (by omega) (by omega) rfl
 intro g
 induction g with
 | zero=>
  intro k q' a _ hg hk he;refine FP.AY ⟨fun Am=>by omega,fun _=>?_⟩;rw[AXH (by rw[AYI];omega)]at he;rw[he]at h;exact h
 | succ g ih=>
  intro k q' a hq hg hk he;obtain⟨x,hx⟩:=hs.ex (k:=k) (by omega);obtain⟨b',o',rfl,W5⟩:=Ev.at hs hx;rw[BH hx]at he;refine FP.AY ⟨fun _=>⟨b',o',rfl,by omega,x,by simpa using W5,aH ⟨_,rfl,AN (by omega:k<n-1) hs.big,ih (k+1) _ _ (fun _=>rfl) (by omega) (by omega) he⟩⟩,fun hh=>by omega⟩
theorem Ml {p:Option Addr}{n c:Nat}(h:R (.returned (.U (BN n))) σ):Spec prog 113 #[.slice p n c] σ R:=
 Gd.start (Ix ⟨_,rfl,h⟩)
theorem Nn {p:Option Addr}{n c:Nat}{vs:List Int}(hr:Ev .u64 σ p n vs)(h0:0<n)(hc:n≤c)(h:R (.returned (.U (RP 4 (U4 vs) (BN n)))) σ):Spec prog 112 #[.slice p n c] σ R:=
 EW.start (Ts hr h0 hc ⟨_,rfl,Ml ⟨_,rfl,aJ ⟨_,rfl,h⟩⟩⟩)
def aK (op:Int)(out v:Int):Int:=if aG op v out=true∨eF out=9221120237041090560 then v else out
def Kd (op:Int):List Int→Int
 | []=>0
 | v::l=>eF (l.foldl (aK op) v)
theorem V3 {op:Int}{p:Option Addr}{n c:Nat}{vs:List Int}(hr:Ev .u64 σ p n vs)(h0:0<n)(hc:n≤c)(h:R (.returned (.U (Kd op vs))) σ):Spec prog 154 #[.I op,.slice p n c] σ R:=by
 have hl:vs.length=n:=hr.1;obtain⟨v,hv⟩:=hr.ex h0;obtain⟨b,o,rfl,Ee⟩:=Ev.at hr hv;refine E6.start ⟨b,o,rfl,by omega,v,by simpa using Ee,by omega,?_⟩;have hs:Ev .u64 σ (Fe (aD b o) 1 c 1) (n-1) ((vs.drop 1).take (n-1)):=Ac.sub hr (by decide) (by omega) hc;have hd:(vs.drop 1).take (n-1)=vs.tail:=by rw[AZr,AWt (by rw[AYI];omega)]
 rw[hd]at hs;have Xc:vs=v::vs.tail:=by
  cases vs with
  | nil=>cases hv
  | cons a l=>simp only[AXI,AWp]at hv;rw[hv];rfl
 rw[Xc]at h
 change R (.returned (.U (eF (vs.tail.foldl (aK op) v)))) σ at h
 generalize Fe (aD b o) 1 c 1=q at *
 suffices H:∀g k:Nat,∀(a:Int),n-1-k=g→k≤n-1→vs.tail.foldl (aK op) v=(vs.tail.drop k).foldl (aK op) a→E6.Aw R op a q (n-1) (c-1) ((n-1:Nat):Int) k σ from H (n-1) 0 v (by omega) (by omega) rfl
 intro g
 induction g with
 | zero=>
  intro k a hg hk he;refine E6.AY ⟨fun Am=>by omega,fun _=>FX ⟨_,rfl,?_⟩⟩;rw[AXH (by rw[AYI];omega)]at he;rw[he]at h;exact h
 | succ g ih=>
  intro k a hg hk he;obtain⟨x,hx⟩:=hs.ex (k:=k) (by omega);obtain⟨b',o',rfl,W5⟩:=Ev.at hs hx;rw[BH hx,AYq]at he;have go:∀y,aK op a x=y→E6.pN R op y (aD b' o') (n-1) (c-1) ((n-1:Nat):Int) k σ:=fun y hy=>E6.u7 ⟨AN (by omega:k<n-1) hs.big,ih (k+1) y (by omega) (by omega) (by rw[←hy];exact he)⟩;refine E6.AY ⟨fun _=>⟨b',o',rfl,by omega,x,by simpa using W5,Iw ⟨_,_,rfl,fun ht=>go x (by unfold aK;rw[AWl (.inl ht)]),fun hf=>qV ⟨_,rfl,fun ht=>go x ?_,fun hn=>go a ?_⟩⟩⟩,fun hh=>by omega⟩
  ·unfold aK;rw[AWl (.inr (AWr ht))]
  ·unfold aK;rw[AWj (by
   rintro(h1|h1)
   ·rw[h1]at hf;cases hf
   ·exact absurd h1 (AW2 hn))]
theorem Tt {p:Option Addr}{n c:Nat}{vs:List Int}(hr:Ev .u64 σ p n vs)(h0:0<n)(hc:n≤c)(h:R (.returned (.U (Kd 7 vs))) σ):Spec prog 110 #[.slice p n c] σ R:=Gc.start (V3 hr h0 hc ⟨_,rfl,h⟩)
theorem MP {p:Option Addr}{n c:Nat}{vs:List Int}(hr:Ev .u64 σ p n vs)(h0:0<n)(hc:n≤c)(h:R (.returned (.U (Kd 9 vs))) σ):Spec prog 111 #[.slice p n c] σ R:=DV.start (V3 hr h0 hc ⟨_,rfl,h⟩)
def Ke (out:Int)(p:Int×Int):Int:=if aG 7 p.2 p.1=true then RP 1 out p.1 else out
def Kf (vs:List Int):Int:=(vs.zip vs.tail).foldl Ke (RP 2 (vs.getLast?.getD 0) (vs.head?.getD 0))
theorem Tu {p:Option Addr}{n c:Nat}{vs:List Int}(hr:Ev .u64 σ p n vs)(h0:0<n)(h:R (.returned (.U (Kf vs))) σ):Spec prog 144 #[.slice p n c] σ R:=by
 have hl:vs.length=n:=hr.1;have Tj:=hr.big;obtain⟨v,hv⟩:=hr.ex h0;obtain⟨z,hz⟩:=hr.ex (k:=n-1) (by omega);obtain⟨b,o,rfl,Ee⟩:=Ev.at hr hv;obtain⟨_,_,he,yp⟩:=Ev.at hr hz;cases he;have e1:Int.toNat ((n:Int)-1)=n-1:=by omega
 refine Du.start ⟨by unfold AM;omega,b,o,rfl,by omega,z,by rw[e1];exact yp,by omega,v,by simpa using Ee,aI ⟨_,rfl,?_⟩⟩;have AJF:Kf vs=(vs.zip vs.tail).foldl Ke (RP 2 z v):=by
  unfold Kf;rw[AX8,hl,hz,AYd,hv];rfl
 rw[AJF]at h
 suffices H:∀g k:Nat,∀a:Int,n-1-k=g→k≤n-1→(vs.zip vs.tail).foldl Ke (RP 2 z v)=((vs.zip vs.tail).drop k).foldl Ke a→Du.CZ R (aD b o) n c a ((k+1:Nat):Int) σ from H (n-1) 0 _ (by omega) (by omega) rfl
 have hlen:(vs.zip vs.tail).length=n-1:=by rw[AXx,AYI];omega
 intro g
 induction g with
 | zero=>
  intro k a hg hk he;refine Du.BE ⟨fun Am=>by omega,fun _=>?_⟩;rw[AXH (by omega)]at he;rw[he]at h;exact h
 | succ g ih=>
  intro k a hg hk he;obtain⟨x,hx⟩:=hr.ex (k:=k) (by omega);obtain⟨y,hy⟩:=hr.ex (k:=k+1) (by omega);obtain⟨_,_,h1,W5⟩:=Ev.at hr hx;obtain⟨_,_,h2,Xl⟩:=Ev.at hr hy;cases h1;cases h2;have AOL:(vs.zip vs.tail)[k]?=some (x,y):=by
   rw[AXd];exact⟨hx,by rw[List.getElem?_tail];exact hy⟩
  rw[BH AOL,AYq]at he;have e2:Int.toNat (((k+1:Nat):Int)-1)=k:=by omega
  have e3:Int.toNat ((k+1:Nat):Int)=k+1:=by omega
  have go:∀w,Ke a (x,y)=w→Du.Yw R (aD b o) n c w ((k+1:Nat):Int) σ:=fun w hw=>Du.RL ⟨AN (by omega:k+1<n) hr.big,ih (k+1) w (by omega) (by omega) (by rw[←hw];exact he)⟩;refine Du.BE ⟨fun _=>⟨b,o,rfl,by omega,y,by rw[e3];exact Xl,by unfold AM;omega,by omega,x,by rw[e2];exact W5,Iw ⟨_,_,rfl,fun ht=>⟨by unfold AM;omega,by omega,x,by rw[e2];exact W5,aH ⟨_,rfl,go _ ?_⟩⟩,fun hf=>go _ ?_⟩⟩,fun hh=>by omega⟩
  ·unfold Ke;rw[AWl ht]
  ·unfold Ke;rw[AWj (by rw[hf];decide)]
end
theorem aL {x:Nat}(h:H6 x=true):∃s t,Ieee.double.read x=.nan s t:=by
 rw[V2]at h;cases hd:Ieee.double.read x with
 | nan s t=>exact⟨s,t,rfl⟩
 | number=>rw[hd]at h;cases h
 | infinity=>rw[hd]at h;cases h
theorem yq {op:Int}{a b:Nat}(h:H6 a=true):fAr op a b=none:=by
 obtain⟨s,t,hr⟩:=aL h;unfold fAr Ieee.Format.add Ieee.Format.sub Ieee.Format.mul Ieee.Format.div;rw[hr];simp[Ieee.Datum.sum,Ieee.Datum.product,Ieee.Datum.quotient]
theorem yr {op:Int}{a b:Nat}(h:H6 b=true):fAr op a b=none:=by
 obtain⟨s,t,hr⟩:=aL h;unfold fAr Ieee.Format.add Ieee.Format.sub Ieee.Format.mul Ieee.Format.div;rw[hr];cases Ieee.double.read a<;>simp[Ieee.Datum.sum,Ieee.Datum.product,Ieee.Datum.quotient,Ieee.Datum.opposite]
theorem Tv (op:Int)(a b:Nat):W6 op (toF a) (toF b)=W6 op a b:=by
 unfold W6;by_cases ha:H6 a=true
 ·rw[yq ha,show toF a=9221120237041090560 by unfold toF;rw[ha];rfl,yq aF]
 ·rw[show toF a=a by unfold toF;rw[AWj ha]];by_cases hb:H6 b=true
  ·rw[yr hb,show toF b=9221120237041090560 by unfold toF;rw[hb];rfl,yr aF]
  ·rw[show toF b=b by unfold toF;rw[AWj hb]]
abbrev cN:Nat:=4604544271217802189
abbrev dN:Nat:=13827916308072577997
abbrev AJG:Nat:=4607182418800017408
abbrev AJH:Nat:=13830554455654793216
def eJ:List (Nat×Nat):=[(AJG,0),(cN,dN),(0,AJH),(dN,dN),(AJH,0),(dN,cN),(0,AJG),(cN,cN)]
def Tx (j n:Nat):List Int→Nat→Nat×Nat→Nat×Nat
 | [],_,a=>a
 | x::l,k,a=>
  let w:=eJ.getD ((j*k%n)*(8/n)) (0,0)
  Tx j n l (k+1) (W6 1 a.1 (W6 3 x.toNat w.1),W6 1 a.2 (W6 3 x.toNat w.2))
def vP (vs:List Int):Nat:=
 let l:=Tx (1%vs.length) vs.length vs 0 (0,0)
 W6 1 (W6 3 l.1 l.1) (W6 3 l.2 l.2)
section
variable [Ei]{σ:Hp}{R:Rr}
theorem W8 {x y:Nat}(h:x ^^^ 9223372036854775808=y):YF prog (Op.unary .neg (.float .f64 x)) σ (.float .f64 y):=fun w _=>by subst h;rfl
theorem U5 (h:∀b T σ',σ b=none→σ'=σ.set b (.cells (eJ.map fun p=>.complex .f64 p.1 p.2).toArray T (0,0))→R (.returned (.slice (aD b 0) 8 8)) σ'):Spec prog 209 #[] σ R:=by
 refine MF.start (F0 ⟨_,rfl,dN,W8 (by decide),_,_,fun w _=>rfl,dN,W8 (by decide),dN,W8 (by decide),_,_,fun w _=>rfl,dN,W8 (by decide),_,_,fun w _=>rfl,_,_,fun w _=>rfl,fun b hb=>?_⟩);exact h b _ _ hb rfl
theorem j9 {j:Nat}(hj:j≤1){p:Option Addr}{n c:Nat}{vs:List Int}(hr:Ev .u64 σ p n vs)(hn:n=1∨n=2∨n=4∨n=8)
  (h:∀re im σ',Ext σ σ'→toF re=(Tx j n vs 0 (0,0)).1→toF im=(Tx j n vs 0 (0,0)).2→R (.returned (.complex .f64 re im)) σ'):Spec prog 189 #[.slice p n c,.I j] σ R:=by
 have hl:vs.length=n:=hr.1;have z0:toF 0=0:=by
  unfold toF;rw[AWj];rw[Kb];decide
 refine Ht.start (U5 fun b T σ1 hb Io=>⟨_,_,_,rfl,?_⟩);have Bi:Ext σ σ1:=by rw[Io];exact .set hb
 have qX:∀k,k<8→∀re im,eJ[k]?=some (re,im)→σ1.ld ⟨b,0+k*1,none⟩=some (.complex .f64 re im):=fun k hk re im hw=>by
  rw[Io];unfold Hp.ld;simp only[Hp.AA];have:(eJ.map fun p=>Value.complex .f64 p.1 p.2)[k]?=some (.complex .f64 re im):=by rw[AXM,hw];rfl
  simpa using this
 clear Io
 suffices H:∀g k:Nat,∀re im,∀a:Nat×Nat,n-k=g→k≤n→toF re=a.1→toF im=a.2→Tx j n vs 0 (0,0)=Tx j n (vs.drop k) k a→Ht.vE R p n c j (aD b 0) 8 8 (.complex .f64 re im) k σ1 from H n 0 0 0 (0,0) rfl (AWx _) z0 z0 rfl
 intro g
 induction g with
 | zero=>
  intro k re im a hg hk h1 h2 he;have iq:k=n:=by omega
  subst iq;rw[AXH (by omega)]at he;refine Ht.gZ ⟨fun _=>?_,fun hh=>by omega⟩;rw[he]at h;exact h re im σ1 Bi h1 h2
 | succ g ih=>
  intro k re im a hg hk h1 h2 he;have iq:k<n:=by omega
  obtain⟨x,hx⟩:=hr.ex iq;obtain⟨b',o',rfl,Ee⟩:=Ev.at hr hx;rw[BH hx]at he;have ht:(j:Int)*k=((j*k:Nat):Int):=by push_cast;rfl
  have il:j*k≤8:=by
   rcases Nat.le_one_iff_eq_zero_or_eq_one.1 hj with h|h<;>subst h<;>omega
  refine Ht.gZ ⟨fun hh=>by omega,fun _=>⟨b',o',rfl,by omega,x,by simpa using Bi.ld Ee,by unfold AM;omega,by omega,fun Ja h27=>⟨by omega,fun Vp h30=>?_⟩⟩⟩;have e27:Ja=((j*k%n:Nat):Int):=by rw[h27,ht,AYl (by omega)];omega
  have e30:Vp=((8/n:Nat):Int):=by rw[h30];rcases hn with h|h|h|h<;>subst h<;>rfl
  have hm:(j*k%n)*(8/n)<8:=by
   have:=AYy (j*k) (show 0<n by omega);rcases hn with h|h|h|h<;>subst h<;>simp at*<;> omega
  have ep:Ja*Vp=(((j*k%n)*(8/n):Nat):Int):=by rw[e27,e30];push_cast;rfl
  dsimp only;rw[ep];generalize hq:(j*k%n)*(8/n)=q at *;obtain⟨⟨wr,wi⟩,hw⟩:∃w,eJ[q]?=some w:=⟨_,AWm (show q<eJ.length from hm)⟩;have hgd:eJ.getD q (0,0)=(wr,wi):=by rw[AZU,hw];rfl
  rw[Tx,hq,hgd]at he;refine⟨by unfold AM;omega,b,0,rfl,by omega,wr,wi,by simpa using qX q hm wr wi hw,F0 ⟨_,rfl,fun _ _ _ h=>h,re,fun w _=>rfl,wr,fun w _=>rfl,Nl fun y hy=>⟨_,rfl,RO fun z hz=>⟨_,rfl,im,fun w _=>rfl,wi,fun w _=>rfl,Nl fun y' hy'=>⟨_,rfl,RO fun z' hz'=>⟨_,rfl,z,z',fun w _=>rfl,AN iq hr.big,?_⟩⟩⟩⟩⟩⟩;refine ih (k+1) z z' _ (by omega) (by omega) ?_ ?_ he
  ·rw[hz,←Tv,h1,hy]
  ·rw[hz',←Tv,h2,hy']
theorem eM {p:Option Addr}{n c:Nat}{vs:List Int}(hr:Ev .u64 σ p n vs)(hn:n=1∨n=2∨n=4∨n=8)
  (h:∀σ',Ext σ σ'→R (.T #[.U (vP vs:Nat),.I 0]) σ'):Spec prog 174 #[.slice p n c] σ R:=by
 have hl:vs.length=n:=hr.1;have Qo:∀{t:Bool} {Q:Rr},Q (.B true) σ→Spec prog 188 #[.I n] σ Q:=fun hq=>Vs.start ⟨fun _=>hq,fun h1=>⟨fun _=>hq,fun h2=>⟨fun _=>hq,fun h4=>by rw[show decide ((n:Int)=8)=true from AXK (by omega)];exact hq⟩⟩⟩;refine SB.start (Qo (t:=true) ?_);refine⟨true,rfl,fun hf=>(by cases hf),fun _=>⟨by omega,fun x12 Y5=>?_⟩⟩;have e12:x12=((1%n:Nat):Int):=by rw[Y5,AYl (by omega)];exact(Int.natCast_emod 1 n).symm
 rw[e12];refine j9 (Nat.mod_le 1 n) hr hn fun re im σ1 hx h1 h2=>⟨_,_,rfl,re,fun w _=>rfl,re,fun w _=>rfl,Nl fun y hy=>⟨_,rfl,im,fun w _=>rfl,im,fun w _=>rfl,Nl fun z hz=>⟨_,rfl,RO fun u hu=>⟨_,rfl,F1 ⟨_,rfl,?_⟩⟩⟩⟩⟩;have e:toF u=vP vs:=by
  rw[hu,←Tv,hy,hz];unfold vP;rw[hl];dsimp only;rw[←h1,←h2,Tv,Tv]
 rw[e];exact h σ1 hx
def V4 (n:Nat):Nat:=if 8≤n then 8 else if 4≤n then 4 else if 2≤n then 2 else 1
def RQ (vs:List Int):Int:=(vP (vs.drop (vs.length-V4 vs.length)):Nat)
theorem U6 {p:Option Addr}{n c:Nat}{vs:List Int}(hr:Ev .u64 σ p n vs)(h0:0<n)(hc:n≤c)
  (h:∀σ',Ext σ σ'→R (.returned (.U (RQ vs))) σ'):Spec prog 139 #[.slice p n c] σ R:=by
 have hl:vs.length=n:=hr.1;have Tj:=hr.big;have last:∀m:Nat,V4 n=m→m≤n→(m=1∨m=2∨m=4∨m=8)→AM ((n:Int)-m)∧((0:Int)≤((n:Int)-m)∧((n:Int)-m)≤(n:Int))∧Spec prog 174 #[(.slice (Fe p (Int.toNat ((n:Int)-m)) c 1) (n-Int.toNat ((n:Int)-m)) (c-Int.toNat ((n:Int)-m)))] σ (Ap R (fun z y=>∃Ph Wy,z=(.tuple #[.U Ph,.I Wy])∧R (.returned (.U Ph)) y)):=fun m hm hmn hk=>by
  have e:Int.toNat ((n:Int)-m)=n-m:=by omega
  rw[e];refine⟨by unfold AM;omega,by omega,?_⟩;have hs:=Ac.sub (i:=n-m) (m:=m) hr (by decide) (by omega) hc;rw[AWt (by rw[AXS];omega)]at hs;rw[show n-(n-m)=m by omega];refine eM hs hk fun σ' hx=>⟨_,_,rfl,?_⟩;have:=h σ' hx;unfold RQ at this;rw[hl,hm]at this;exact this
 have two:∀m x:Int,x=IntKind.i64.wrap (Int.tdiv m 2)→(m=8∨m=4∨m=2)→x=m/2:=fun m x hx hm=>by
  rw[hx];rcases hm with h|h|h<;>subst h<;>rfl
 refine BU.start (BU.BJ ⟨fun h8=>⟨by decide,fun x1 e1=>?_⟩,fun h8=>last 8 (by unfold V4;rw[AWl (by omega)]) (by omega) (by omega)⟩);have e1:=two _ _ e1 (.inl rfl);subst e1;refine BU.BJ ⟨fun h4=>⟨by decide,fun x2 e2=>?_⟩,fun h4=>last 4 (by unfold V4;rw[AWj (by omega),AWl (by omega)]) (by omega) (by omega)⟩;have e2:=two _ _ e2 (.inr (.inl (by decide)));subst e2;refine BU.BJ ⟨fun h2=>⟨by decide,fun x3 e3=>?_⟩,fun h2=>last 2 (by unfold V4;rw[AWj (by omega),AWj (by omega),AWl (by omega)]) (by omega) (by omega)⟩;have e3:=two _ _ e3 (.inr (.inr (by decide)));subst e3;exact BU.BJ ⟨fun h1=>by omega,fun h1=>last 1 (by unfold V4;rw[AWj (by omega),AWj (by omega),AWj (by omega)]) (by omega) (by omega)⟩
end
end TwW
end
