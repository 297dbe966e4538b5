/-
  Part 3 of the proof that the law IngesterFencedUptoCardSaid of the given program answers true for every input of the given statement; the input reads behind the call as it did. (The texts: packed from 26 texts. Names are shortened by the packing program, for the bound on size.)
-/
import Derived.Test.YtjmeolpiagdinaaGreatDoorA2
import Derived.Laws.BytesArg
import Derived.Laws.Bits64b
import Derived.Laws.IdiomStrings
import Derived.Lib.Bytealg
import Derived.Lib.IndexMore
import Derived.Shelf.SlSortCmp.NoneTotal
import Derived.Laws.Bits64
set_option linter.all false
section
set_option maxRecDepth 100000
noncomputable section
namespace TwW
open Go Tw Go.Proofs.Tryz
variable [I9]{R:Rr}{Z22:Hp}

namespace Se
def M:Fw:=⟨prog,10,f10,[6,8,9,11,12,14,17,18,19,33,34,35,36,37,38,39,40],[],false,[],[],[]⟩
def ok:M.Ok:=⟨.cons call6 (.cons call8 (.cons call9 (.cons call11 (.cons call12 (.cons call14 (.cons call17 (.cons call18 (.cons call19 (.cons call33 (.cons call34 (.cons call35 (.cons call36 (.cons call37 (.cons call38 (.cons call39 (.cons call40 (AN.nil))))))))))))))))),mixed,func10,by kernel_rfl⟩
def start (h:AO 9 #[] Z22 R (CQ λxo y=>AO 6 #[.U 2] y R (λz AG=>∃AJ1 AJ2 AJ3 AJ4,z=(.agg #[.U AJ1,.slice AJ2 AJ3 AJ4])/\AO 8 #[.I 0,.pointer xo,.I 9,.agg #[.U AJ1,.slice AJ2 AJ3 AJ4]] AG R (λz AQ=>∃tL AJ5,z=(.tuple #[.pointer tL,.I AJ5])/\Br (AJ5≠0) (R (.B false) AQ) (Bo (Option.isNone tL) (R (.B false) AQ) (Al AQ λHi=>Al (Hp.set AQ Hi (.cells #[(.string (ByteArray.mk #[97])),(.string (ByteArray.mk #[120]))] 95 (0,0))) λQZ=>AO 12 #[.pointer tL,(.string (ByteArray.mk #[116])),(.slice (aD QZ 0) 1 1),.U 2] (Hp.set (Hp.set AQ Hi (.cells #[(.string (ByteArray.mk #[97])),(.string (ByteArray.mk #[120]))] 95 (0,0))) QZ (.cells #[(.slice (aD Hi 0) 1 1),.I 5,.U 1] 53 (0,0))) R (λz A5=>∃AJ6 AJ7 AJ8 AJ9,z=(.tuple #[.slice AJ6 AJ7 AJ8,.I AJ9])/\AO 12 #[.pointer tL,(.string (ByteArray.mk #[116])),(.slice (aD QZ 0) 1 1),.U 1] A5 R (λz Cn=>∃zb zc zd tM,z=(.tuple #[.slice zb zc zd,.I tM])/\AO 17 #[.pointer tL,(.string (ByteArray.mk #[116])),.I 7200,.U 9] Cn R (λz EU=>∃AKA AKB,z=(.tuple #[.bool AKA,.I AKB])/\AO 18 #[.pointer xo,.I 0] EU R (λz QI=>z=(.tuple #[])/\AO 19 #[.pointer xo] QI R (λz qj=>z=(.tuple #[])/\AO 6 #[.U 2] qj R (λz xp=>∃jI AKC AKD AKE,z=(.agg #[.U jI,.slice AKC AKD AKE])/\AO 8 #[.I 0,.pointer xo,.I 9,.agg #[.U jI,.slice AKC AKD AKE]] xp R (λz LO=>∃A su,z=(.tuple #[.pointer A,.I su])/\Br (su≠0) (R (.B false) LO) (Bo (Option.isNone A) (R (.B false) LO) (AO 14 #[.pointer A,(.string (ByteArray.mk #[116])),.N,.I 0,.I 9] LO R (λz jH=>∃jJ da jK Y5,z=(.tuple #[.slice jJ da jK,.I Y5])/\AO 33 #[.pointer A,(.string (ByteArray.mk #[116])),.U 9] jH R (λz AQ9=>∃ARA AKF ARB AKG,z=(.tuple #[.slice ARA AKF ARB,.I AKG])/\AO 6 #[.U 3] AQ9 R (λz ARC=>∃AKH AKI AKJ AKK,z=(.agg #[.U AKH,.slice AKI AKJ AKK])/\AO 11 #[.pointer A,.agg #[.U AKH,.slice AKI AKJ AKK]] ARC R (λz ARD=>z=(.tuple #[])/\AO 12 #[.pointer A,(.string (ByteArray.mk #[116])),(.slice (aD QZ 0) 1 1),.U 2] ARD R (λz G=>∃ARE ARF ARG AKL,z=(.tuple #[.slice ARE ARF ARG,.I AKL])/\Br (AJ9=0) (Al G λze=>AO 34 #[.slice AJ6 AJ7 AJ8,(.slice (aD ze 0) 1 1)] (Hp.set G ze (.cells #[.I 1] 3 (0,0))) R (CB λt93 tN=>Bo t93 (Br (tM=231) (Bo AKA (Br (AKB=0) (AO 36 #[.pointer A,(.string (ByteArray.mk #[116]))] tN R (CS λARH n108 ARI AKM=>Al AKM λWN=>AO 35 #[.slice ARH n108 ARI,(.slice (aD WN 0) 1 1)] (Hp.set AKM WN (.cells #[.U 9] 23 (0,0))) R (CB λt110 jL=>Bo t110 (Br (Y5=0) (Br ((da:Int)=1) (Br (0<(AKF:Int)) (Br (AKG=0) (Br (AKL=231) (AO 38 #[.pointer A] jL R (CS λARJ n136 ARK AKN=>Al AKN λoc=>AO 37 #[.slice ARJ n136 ARK,(.slice (aD oc 0) 1 1)] (Hp.set AKN oc (.cells #[(.string (ByteArray.mk #[116]))] 9 (0,0))) R (CB λt138 AKO=>Bo t138 (AO 39 #[.pointer A] AKO R (CB λt142 AKP=>Bn t142 (AO 40 #[.pointer A,(.string (ByteArray.mk #[116])),.U 9] AKP R (CI .i64 λARL AKQ=>Br (ARL=0) (AO 39 #[.pointer A] AKQ R (CB λt152 ARM=>R (.B t152) ARM)) (R (.B false) AKQ))) (R (.B false) AKP))) (R (.B false) AKO)))) (R (.B false) jL)) (R (.B false) jL)) (R (.B false) jL)) (R (.B false) jL)) (R (.B false) jL)) (R (.B false) jL)))) (R (.B false) tN)) (R (.B false) tN)) (R (.B false) tN)) (R (.B false) tN))) (R (.B false) G))))))))))))))))))))):Spec prog 10 #[] Z22 R:=M.start h ok
end Se
namespace Fj
variable {q0 p1b:Option Addr}{zT:Int}{n1b c1b:Nat}
def M:Fw:=⟨prog,11,f11,[41],[3],false,[(1,7,true),(3,10,false)],[],[]⟩
def ok:M.Ok:=⟨.cons call41 (AN.nil),mixed,func11,by kernel_rfl⟩
def start (h:∀b3:Nat,Pq q0 λb7 A=>LI .u64 Z22 b7 (A+4) λx9=>Br (x9<=zT) (AH prog (Instr.storeAt 23 (.pointer (aD b7 (A+4))) (.U zT)) Z22 (λ_ y=>LI .i64 y b7 (A+1) λEn=>AO 41 #[.agg #[.U zT,.slice p1b n1b c1b],.I En] y R (CI .i64 λIr G=>AH prog (Instr.storeAt 4 (.pointer (aD b7 (A+5))) (.bool (decide (Ir=2)))) G (λ_ AQ=>R (.T #[]) AQ)))) (R (.T #[]) Z22)):Spec prog 11 #[.pointer q0,.agg #[.U zT,.slice p1b n1b c1b]] Z22 R:=M.start h ok
end Fj
namespace L6
variable {s0:ByteArray}
def M:Fw:=⟨prog,28,f28,[42,52,84,85],[],false,[(5,18,true)],[],[]⟩
def ok:M.Ok:=⟨.cons call42 (.cons call52 (.cons call84 (.cons call85 (AN.nil)))),mixed,func28,by kernel_rfl⟩
def start (h:AO 84 #[.string s0,(.string (ByteArray.mk #[47]))] Z22 R (CS λp9 n9 c9 y=>Br ((n9:Int)≠3) (R (.T #[(.string (ByteArray.mk #[])),.U 0,.bool false]) y) (Pq p9 λXO im=>In 1 (n9:Int)/\LT y XO (im+1) λs16=>AO 42 #[.string s16] y R (CB λt17 AG=>Bn t17 (R (.T #[(.string (ByteArray.mk #[])),.U 0,.bool false]) AG) (In 2 (n9:Int)/\LT AG XO (im+2) λs23=>AO 85 #[.string s23,.I 10,.I 64] AG R (λz G=>∃zf A,z=(.tuple #[.U zf,A])/\In 1 (n9:Int)/\LT G XO (im+1) λACa=>∃t32,YF prog ((do eqGuard .eql 152 (.tmp 31) (.const .nilIface) A .nilIface;binOp .eql 152 A .nilIface)) G (.bool t32)/\Bo t32 (In 1 (n9:Int)/\LT G XO (im+1) λs36=>AO 52 #[.string s36,.U zf] G R (CT λs38 A5=>Ext G A5/\R (.T #[.string ACa,.U zf,(.bool (ByteArray.toList s38==ByteArray.toList s0))]) A5)) (R (.T #[.string ACa,.U zf,.bool false]) G))))))):Spec prog 28 #[.string s0] Z22 R:=M.start h ok
end L6
namespace IG
variable {p0:Option Addr}{n0 c0:Nat}
def M:Fw:=⟨prog,32,f32,[94,95],[],false,[],[],[]⟩
def ok:M.Ok:=⟨.cons call94 (.cons call95 (AN.nil)),mixed,func32,by kernel_rfl⟩
def start (h:Df (IntKind.u64.wrap (n0:Int)) λx8=>AO 95 #[.U x8] Z22 R (CI .i64 λx9 y=>AO 94 #[.slice p0 n0 c0,.I 0,(.I (n0:Int)),.I x9] y R (λz A=>z=(.tuple #[])/\R (.T #[]) A))):Spec prog 32 #[.slice p0 n0 c0] Z22 R:=M.start h ok
end IG
namespace Aj
variable {p0 q7 sJ qg p84 xu:Option Addr}{n0 c0 n37 c37 n52 qh n84 c84 tK xv:Nat}{m6:Option Nat}{JR NG JH TK x85 x86 x66 jB:Int}
def M:Fw:=⟨prog,57,f57,[120,121,122,123,124,125],[11,13,15],false,[],[],[(2024,[(0,wL),(6,wM),(7,wQ),(37,wL),(38,wI),(39,wI)]),(8168,[(0,wL),(6,wM),(7,wQ),(52,wL),(53,wI),(54,wI)]),(16360,[(7,wQ),(84,wL),(85,wI),(86,wI)]),(4182840,[(0,wL),(6,wM),(7,wQ),(52,wL),(53,wI),(54,wI),(65,wL),(66,wI),(67,wI)])]⟩
def ok:M.Ok:=⟨.cons call120 (.cons call121 (.cons call122 (.cons call123 (.cons call124 (.cons call125 (AN.nil)))))),mixed,func57,by kernel_rfl⟩
def db:=M.pt 0
def GA:=M.pt 1
def tP:=M.pt 2
def zh:=M.pt 3
def start (h:AO 120 #[.slice p0 n0 c0] Z22 R (CI .i64 λNF y=>Br (NF≠0) (R (.T #[.N,.I NF]) y) (AO 121 #[.slice p0 n0 c0] y R (λz AG=>∃A zi G AKV,z=(.tuple #[.slice A zi G,.map AKV])/\Al AG λMm=>AH prog (convert 79 79 (.slice (aD Mm 0) 4 4)) (Hp.set AG Mm (.cells #[.int .u8 84,.int .u8 87,.int .u8 66,.int .u8 1] 5 (0,0))) (CS λp29 n29 c29 AQ=>Al AQ λF8=>Al (Hp.set AQ F8 (.cells #[.slice p29 n29 c29] 199 (0,0))) λQZ=>AO 122 #[(.pointer (aD F8 0)),(.slice (aD QZ 0) 1 1)] (Hp.set (Hp.set AQ F8 (.cells #[.slice p29 n29 c29] 199 (0,0))) QZ (.cells #[(.I (zi:Int))] 3 (0,0))) R (λz A5=>z=(.tuple #[])/\db R p0 n0 c0 AKV (aD F8 0) A zi G (zi:Int) 0 A5)))))):Spec prog 57 #[.slice p0 n0 c0] Z22 R:=M.start h ok
def lV (h:Br (NG<JR) (Pq sJ λA G=>In NG (n37:Int)/\LT Z22 A (G+NG.toNat*1) λs42=>AO 123 #[.pointer q7,.string s42] Z22 R (λz y=>z=(.tuple #[])/\AK (NG+1)/\db R p0 n0 c0 m6 q7 (aD A G) n37 c37 JR (NG+1) y)) (Al Z22 λLU=>AO 122 #[.pointer q7,(.slice (aD LU 0) 1 1)] (Hp.set Z22 LU (.cells #[(.I (n0:Int))] 3 (0,0))) R (λz y=>z=(.tuple #[])/\GA R p0 n0 c0 m6 q7 p0 n0 c0 (n0:Int) 0 y))):db R p0 n0 c0 m6 q7 sJ n37 c37 JR NG Z22:=M.of h ok rfl
def FP (h:Br (TK<JH) (Pq qg λP4 o56=>In TK (n52:Int)/\∃A zj G ARO ARP ARQ,Bm Z22 P4 (o56+TK.toNat*2) [.slice A zj G,.slice ARO ARP ARQ]/\∀FN:Nat,Al Z22 λb62=>AO 122 #[.pointer q7,(.slice (aD b62 0) 1 1)] (Hp.set Z22 b62 (.cells #[(.I (zj:Int))] 3 (0,0))) R (λz y=>z=(.tuple #[])/\zh R p0 n0 c0 m6 q7 (aD P4 o56) n52 qh JH TK A zj G (zj:Int) 0 y)) (tP R q7 p0 n0 c0 (n0:Int) 0 Z22)):GA R p0 n0 c0 m6 q7 qg n52 qh JH TK Z22:=M.of h ok rfl
def lW (h:Br (x86<x85) (Pq p84 λb88 o88=>In x86 (n84:Int)/\∃ARS ART ARU A G AKa,Bm Z22 b88 (o88+x86.toNat*2) [.slice ARS ART ARU,.slice A G AKa]/\∀XO:Nat,AO 124 #[.slice A G AKa] Z22 R (λz y=>∃AKb AKc AKd zk,z=(.tuple #[.slice AKb AKc AKd,.I zk])/\AH prog (convert 79 9 (.slice AKb AKc AKd)) y (CT λs98 AG=>AO 123 #[.pointer q7,.string s98] AG R (λz AQ=>z=(.tuple #[])/\AK (x86+1)/\tP R q7 (aD b88 o88) n84 c84 x85 (x86+1) AQ)))) (Pq q7 λARV ARW=>LS Z22 ARV ARW λARX n104 ARY=>AO 125 #[.slice ARX n104 ARY] Z22 R (CS λARZ n105 c105 y=>R (.T #[.slice ARZ n105 c105,.I 0]) y))):tP R q7 p84 n84 c84 x85 x86 Z22:=M.of h ok rfl
def lX (h:Br (jB<x66) (Pq xu λxw o69=>In jB (tK:Int)/\∃A G,Bm Z22 xw (o69+jB.toNat*2) [.string A,.string G]/\∀HR:Nat,AH prog (Instr.lookup 194 (.map m6) (.string A) false) Z22 (CI .i64 λx75 y=>AH prog (Instr.lookup 194 (.map m6) (.string G) false) y (CI .i64 λdQ AG=>Al AG λb80=>AO 122 #[.pointer q7,(.slice (aD b80 0) 2 2)] (Hp.set AG b80 (.cells #[.I x75,.I dQ] 3 (0,0))) R (λz AQ=>z=(.tuple #[])/\AK (jB+1)/\zh R p0 n0 c0 m6 q7 qg n52 qh JH TK (aD xw o69) tK xv x66 (jB+1) AQ)))) (AK (TK+1)/\GA R p0 n0 c0 m6 q7 qg n52 qh JH (TK+1) Z22)):zh R p0 n0 c0 m6 q7 qg n52 qh JH TK xu tK xv x66 jB Z22:=M.of h ok rfl
end Aj
namespace Gs
variable {s0:ByteArray}{x3:Int}
def M:Fw:=⟨prog,71,f71,[],[],false,[],[],[(464,[(0,wT),(3,wI)])]⟩
def ok:M.Ok:=⟨AN.nil,mixed,func71,by kernel_rfl⟩
def BM:=M.pt 0
def start (h:Bo ((ByteArray.toList s0==ByteArray.toList (ByteArray.mk #[]))) (R (.B false) Z22) (Br ((64:Int)<(s0.size:Int)) (R (.B false) Z22) (BM R s0 0 Z22))):Spec prog 71 #[.string s0] Z22 R:=M.start h ok
def Bg (h:Br (x3<(s0.size:Int)) (∃A:UInt8,0<=x3/\(ByteArray.data s0)[x3.toNat]?=some A/\Br (((A.toNat:Int):Int)<97) (Br (((A.toNat:Int):Int)<48) (Br (((A.toNat:Int):Int)≠47) (Br (((A.toNat:Int):Int)≠46) (Br (((A.toNat:Int):Int)≠45) (R (.B false) Z22) (AK (x3+1)/\BM R s0 (x3+1) Z22)) (AK (x3+1)/\BM R s0 (x3+1) Z22)) (AK (x3+1)/\BM R s0 (x3+1) Z22)) (Br ((57:Int)<(A.toNat:Int)) (Br (((A.toNat:Int):Int)≠47) (Br (((A.toNat:Int):Int)≠46) (Br (((A.toNat:Int):Int)≠45) (R (.B false) Z22) (AK (x3+1)/\BM R s0 (x3+1) Z22)) (AK (x3+1)/\BM R s0 (x3+1) Z22)) (AK (x3+1)/\BM R s0 (x3+1) Z22)) (AK (x3+1)/\BM R s0 (x3+1) Z22))) (Br ((122:Int)<(A.toNat:Int)) (Br (((A.toNat:Int):Int)<48) (Br (((A.toNat:Int):Int)≠47) (Br (((A.toNat:Int):Int)≠46) (Br (((A.toNat:Int):Int)≠45) (R (.B false) Z22) (AK (x3+1)/\BM R s0 (x3+1) Z22)) (AK (x3+1)/\BM R s0 (x3+1) Z22)) (AK (x3+1)/\BM R s0 (x3+1) Z22)) (Br ((57:Int)<(A.toNat:Int)) (Br (((A.toNat:Int):Int)≠47) (Br (((A.toNat:Int):Int)≠46) (Br (((A.toNat:Int):Int)≠45) (R (.B false) Z22) (AK (x3+1)/\BM R s0 (x3+1) Z22)) (AK (x3+1)/\BM R s0 (x3+1) Z22)) (AK (x3+1)/\BM R s0 (x3+1) Z22)) (AK (x3+1)/\BM R s0 (x3+1) Z22))) (AK (x3+1)/\BM R s0 (x3+1) Z22))) (R (.B true) Z22)):BM R s0 x3 Z22:=M.of h ok rfl
end Gs
namespace Gt
variable {p0:Option Addr}{n0 c0 b3 b5:Nat}{bF EJ:Int}
def M:Fw:=⟨prog,89,f89,[57,148,149,151,155,156,157],[],false,[],[],[(4072,[(0,wL),(3,wA),(5,wA),(23,wI),(24,wI)])]⟩
def ok:M.Ok:=⟨.cons call57 (.cons call148 (.cons call149 (.cons call151 (.cons call155 (.cons call156 (.cons call157 (AN.nil))))))),mixed,func89,by kernel_rfl⟩
def Ep:=M.pt 0
def start (h:AO 148 #[.slice p0 n0 c0,(.string (ByteArray.mk #[84,87,66,1]))] Z22 R (CQ λsy y=>Al y λb3=>AH prog (Instr.storeAt 224 (.pointer (aD b3 0)) (.pointer sy)) (Hp.set y b3 (.cells #[.pointer none] 224 (0,0))) (λ_ A=>Al A λb4=>LQ (Hp.set A b4 (.cells #[.N] 81 (0,0))) b3 0 λIY=>Df (IntKind.u64.wrap (n0:Int)) λEl=>AO 149 #[.pointer IY,.U El,(.func (.func 150) #[] #[(.pointer (aD b4 0)),(.pointer (aD b3 0))])] (Hp.set A b4 (.cells #[.N] 81 (0,0))) R (λz G=>z=(.tuple #[])/\Al G λb5=>LQ (Hp.set G b5 (.cells #[.N] 44 (0,0))) b3 0 λxo=>AO 149 #[.pointer xo,.U 1024,(.func (.func 152) #[] #[(.pointer (aD b3 0)),(.pointer (aD b4 0)),(.pointer (aD b5 0))])] (Hp.set G b5 (.cells #[.N] 44 (0,0))) R (λz A5=>z=(.tuple #[])/\LS A5 b5 0 λoY n22 oZ=>Ep R p0 n0 c0 b3 b5 (n22:Int) 0 A5))))):Spec prog 89 #[.slice p0 n0 c0] Z22 R:=M.start h ok
def FQ (h:Br (EJ<bF) (LQ Z22 b3 0 λzS=>AO 151 #[.pointer zS] Z22 R (CT λs29 y=>AH prog (convert 9 79 (.string s29)) y (CS λsI n30 xd AG=>AO 156 #[.slice sI n30 xd] AG R (λz AQ=>∃oU oV oW AKg,z=(.tuple #[.slice oU oV oW,.I AKg])/\AO 155 #[(.bool (decide (AKg=0)))] AQ R (λz A5=>z=(.tuple #[])/\LS A5 b5 0 λsJ n37 c37=>Pq sJ λYm bG=>In EJ (n37:Int)/\AH prog (Instr.storeAt 61 (.pointer (aD Ym ((bG+EJ.toNat*2)+1))) (.slice oU oV oW)) A5 (λ_ Cn=>AK (EJ+1)/\Ep R p0 n0 c0 b3 b5 bF (EJ+1) Cn)))))) (LS Z22 b5 0 λp44 n44 c44=>AO 57 #[.slice p44 n44 c44] Z22 R (λz y=>∃zb zc zd tM,z=(.tuple #[.slice zb zc zd,.I tM])/\Br (tM=0) (AO 157 #[.slice zb zc zd,.slice p0 n0 c0] y R (CB λt53 AG=>AO 155 #[.bool t53] AG R (λz AQ=>z=(.tuple #[])/\LS AQ b5 0 λp56 G A=>R (.returned (.slice p56 G A)) AQ))) (AO 155 #[.bool false] y R (λz AG=>z=(.tuple #[])/\LS AG b5 0 λp56 G A=>R (.returned (.slice p56 G A)) AG))))):Ep R p0 n0 c0 b3 b5 bF EJ Z22:=M.of h ok rfl
end Gt
namespace D8
variable {q0:Option Addr}{x4:Int}{v12:Value}
def M:Fw:=⟨prog,96,f96,[],[],false,[],[(12,170)],[(232,[(0,wQ),(4,wI),(12,wV)])]⟩
def ok:M.Ok:=⟨AN.nil,mixed,func96,by kernel_rfl⟩
def A3:=M.pt 0
def start (h:Pq q0 λG o8=>LM Z22 G o8 λA=>AH prog (Instr.range 170 (.map A)) Z22 (λz y=>∃v12,v12=z/\A3 R (aD G o8) 0 v12 y)):Spec prog 96 #[.pointer q0] Z22 R:=M.start h ok
def AY (h:AH prog (Instr.next v12 false 0) Z22 (λv y=>(v=(.tuple #[.bool false])/\Pq q0 λb25 o25=>LM y b25 o25 λm28=>∃Sa,YF prog (Builtin.len_ #[170] 3 #[.map m28]) y (.I Sa)/\R (.T #[.I Sa,.I x4]) y)\/(∃G AFC,v=(.tuple #[.bool true,.string G,.pointer AFC])/\AH prog (Instr.entry v12) y (λz AG=>∃WO tQ,z=(.tuple #[.string WO,.pointer tQ])/\Pq tQ λE1 Mf=>LS AG E1 (Mf+1) λp21 A c21=>AK (x4+(A:Int))/\A3 R q0 ((x4+(A:Int))) v12 AG)))):A3 R q0 x4 v12 Z22:=M.of h ok rfl
end D8
namespace Kd
variable {P2 x8 x9:Int}{qi p3 p7:Option Addr}{oG sN n3 c3 n7 c7:Nat}
def M:Fw:=⟨prog,101,f101,[172,173,174],[1,5],false,[],[],[(232,[(3,wL),(7,wL),(8,wI),(9,wI)])]⟩
def ok:M.Ok:=⟨.cons call172 (.cons call173 (.cons call174 (AN.nil))),mixed,func101,by kernel_rfl⟩
def A3:=M.pt 0
def start (h:∀b1:Nat,A3 R none 0 0 qi oG sN (oG:Int) 0 Z22):Spec prog 101 #[.agg #[.U P2,.slice qi oG sN]] Z22 R:=M.start h ok
def AY (h:Br (x9<x8) (Pq p7 λFN F7=>In x9 (n7:Int)/\∃jG A AKh zl AKi,Bm Z22 FN (F7+x9.toNat*3) [.I jG,.I A,.slice AKh zl AKi]/\∀b5:Nat,Al Z22 λsn=>AH prog (HO 40 p3 n3 c3 sn) (Hp.set Z22 sn (.cells #[.I jG] 3 (0,0))) (CS λYj n17 WK y=>AO 172 #[.I jG] y R (CB λt20 G=>Bn t20 (R (.returned (.I 130)) G) (Br (A<1) (R (.returned (.I 130)) G) (Br (3<A) (R (.returned (.I 130)) G) (Br ((zl:Int)=0) (R (.returned (.I 130)) G) (Br (64<(zl:Int)) (R (.returned (.I 130)) G) (AO 173 #[.slice AKh zl AKi] G R (CB λt47 AQ=>Bn t47 (R (.returned (.I 130)) AQ) (AK (x9+1)/\A3 R Yj n17 WK (aD FN F7) n7 c7 x8 (x9+1) AQ)))))))))) (AO 174 #[.slice p3 n3 c3] Z22 R (CB λt52 y=>Bn t52 (R (.returned (.I 130)) y) (R (.returned (.I 0)) y)))):A3 R p3 n3 c3 p7 n7 c7 x8 x9 Z22:=M.of h ok rfl
end Kd
namespace LF
variable {p0a:Option Addr}{n0a c0a:Nat}{Uk so:Int}
def M:Fw:=⟨prog,104,f104,[102,175,176],[1],false,[],[],[]⟩
def ok:M.Ok:=⟨.cons call102 (.cons call175 (.cons call176 (AN.nil))),mixed,func104,by kernel_rfl⟩
def start (h:∀b1:Nat,AO 102 #[.slice p0a n0a c0a] Z22 R (CS λp5 n5 c5 y=>AO 176 #[.slice p5 n5 c5,.I Uk] y R (CS λp8 n8 c8 A=>AO 175 #[.slice p8 n8 c8,.U so] A R (CS λPz n11 P0 G=>R (.returned (.slice Pz n11 P0)) G)))):Spec prog 104 #[.agg #[.slice p0a n0a c0a,.I Uk,.U so]] Z22 R:=M.start h ok
end LF
namespace Sf
variable {q0:Option Addr}
def M:Fw:=⟨prog,108,f108,[],[],false,[(1,26,true)],[],[]⟩
def ok:M.Ok:=⟨AN.nil,mixed,func108,by kernel_rfl⟩
def start (h:Pq q0 λb4 A=>LS Z22 b4 (A+3) λp6 n6 c6=>Br (0<(n6:Int)) (LS Z22 b4 (A+3) λFe n13 FO=>LS Z22 b4 (A+3) λYj n17 WK=>AK ((n17:Int)-1)/\Pq Fe λG RH=>In (((n17:Int)-1)) (n13:Int)/\LI .i64 Z22 G (RH+Int.toNat ((n17:Int)-1)*1) λEn=>LI .i64 Z22 b4 (A+4) λUe=>R (.returned (.bool (decide (En=Ue)))) Z22) (R (.B false) Z22)):Spec prog 108 #[.pointer q0] Z22 R:=M.start h ok
end Sf
namespace Iy
variable {q0:Option Addr}{s1:ByteArray}
def M:Fw:=⟨prog,123,f123,[122],[],false,[],[],[]⟩
def ok:M.Ok:=⟨.cons call122 (AN.nil),mixed,func123,by kernel_rfl⟩
def start (h:Al Z22 λb7=>AO 122 #[.pointer q0,(.slice (aD b7 0) 1 1)] (Hp.set Z22 b7 (.cells #[(.I (s1.size:Int))] 3 (0,0))) R (λz y=>z=(.tuple #[])/\Pq q0 λG A=>LS y G A λFe n13 FO=>AH prog (Builtin.append_ #[79,9] 79 #[.slice Fe n13 FO,.string s1]) y (CS λLL n15 Hu AG=>AH prog (Instr.storeAt 79 (.pointer (aD G A)) (.slice LL n15 Hu)) AG (λ_ AQ=>R (.T #[]) AQ)))):Spec prog 123 #[.pointer q0,.string s1] Z22 R:=M.start h ok
end Iy
namespace Cz
variable {p0 q4:Option Addr}{n0 c0:Nat}{x5 x6 V9 x7b:Int}{t7c:Bool}
def M:Fw:=⟨prog,124,f124,[195,196,197,198],[7],false,[(14,13,true),(18,14,true)],[],[(458750,[(4,wQ)]),(14334,[(0,wL),(4,wQ),(5,wI),(6,wI),(7,.X 283 [.I .i64,.I .i64,.B])])]⟩
def ok:M.Ok:=⟨.cons call195 (.cons call196 (.cons call197 (.cons call198 (AN.nil)))),mixed,func124,by kernel_rfl⟩
def QX:=M.pt 0
def jM:=M.pt 1
def start (h:Br (8191<(n0:Int)) (R (.T #[.N,.I 51]) Z22) (AO 195 #[.slice p0 n0 c0] Z22 R (CB λt16 y=>Bn t16 (R (.T #[.N,.I 50]) y) (Al y λA=>Df (IntKind.u64.wrap (n0:Int)) λbF=>AO 196 #[(.pointer (aD A 0)),.U bF,.I 13] (Hp.set y A (.cells #[.N,.I 0] 280 (0,0))) R (λz G=>z=(.tuple #[])/\∀b7:Nat,Br ((n0:Int)=0) (QX R (aD A 0) G) (Pq p0 λF8 lR=>In 0 (n0:Int)/\LI .i64 G F8 lR λIE=>Df (IntKind.u64.wrap IE) λgG=>AO 196 #[(.pointer (aD A 0)),.U gG,.I 64] G R (λz AQ=>z=(.tuple #[])/\In 0 (n0:Int)/\LI .u64 AQ F8 (lR+1) λKz=>AO 196 #[(.pointer (aD A 0)),.U Kz,.I 64] AQ R (λz A5=>z=(.tuple #[])/\jM R (aD F8 lR) n0 c0 (aD A 0) 0 0 0 0 false A5)))))))):Spec prog 124 #[.slice p0 n0 c0] Z22 R:=M.start h ok
def Ix (h:Pq q4 λA o96=>LS Z22 A o96 λp98 n98 G=>R (.T #[.slice p98 n98 G,.I 0]) Z22):QX R q4 Z22:=M.of h ok rfl
def Tm (h:AK (x5+1)/\Br (((x5+1):Int)=(n0:Int)) (QX R q4 Z22) (Pq p0 λLU za=>In (x5+1) (n0:Int)/\LI .i64 Z22 LU (za+Int.toNat (x5+1)*2) λG=>AK ((x5+1)-1)/\In (((x5+1)-1)) (n0:Int)/\LI .i64 Z22 LU (za+Int.toNat ((x5+1)-1)*2) λA=>AK (G-A)/\AK ((G-A)-x6)/\AO 197 #[(.I ((G-A)-x6))] Z22 R (λz y=>∃AKm AKn AKo,z=(.tuple #[.U AKm,.I AKn,.I AKo])/\AO 196 #[.pointer q4,.U AKm,.I AKn] y R (λz AG=>z=(.tuple #[])/\AK ((G-A)-x6)/\Df (IntKind.u64.wrap ((G-A)-x6)) λx76=>AO 196 #[.pointer q4,.U x76,.I AKo] AG R (λz AQ=>z=(.tuple #[])/\In (x5+1) (n0:Int)/\LI .u64 AQ LU ((za+Int.toNat (x5+1)*2)+1) λx85=>AK ((x5+1)-1)/\In (((x5+1)-1)) (n0:Int)/\LI .u64 AQ LU ((za+Int.toNat ((x5+1)-1)*2)+1) λx91=>Df (Go.bits .xor .u64 x85 x91) λx92=>AO 198 #[.agg #[.I V9,.I x7b,.bool t7c],.pointer q4,.U x92] AQ R (λz A5=>∃AKq zk AKr,z=(.agg #[.I AKq,.I zk,.bool AKr])/\jM R (aD LU za) n0 c0 q4 (x5+1) (G-A) AKq zk AKr A5)))))):jM R p0 n0 c0 q4 x5 x6 V9 x7b t7c Z22:=M.gB h ok rfl λ_=>by kernel_rfl
end Cz
namespace DQ
variable {q0 p1 p5:Option Addr}{n1 c1 n5 c5:Nat}{v12:Value}
def M:Fw:=⟨prog,127,f127,[115],[],false,[],[(12,170)],[(232,[(1,wL),(5,wL),(12,wV)])]⟩
def ok:M.Ok:=⟨.cons call115 (AN.nil),mixed,func127,by kernel_rfl⟩
def A3:=M.pt 0
def start (h:Pq q0 λG o9=>LM Z22 G o9 λA=>AH prog (Instr.range 170 (.map A)) Z22 (λz y=>∃v12,v12=z/\A3 R p1 n1 c1 none 0 0 v12 y)):Spec prog 127 #[.pointer q0,.slice p1 n1 c1] Z22 R:=M.start h ok
def AY (h:AH prog (Instr.next v12 false 0) Z22 (λv y=>(v=(.tuple #[.bool false])/\R (.returned (.slice p5 n5 c5)) y)\/(∃A G,v=(.tuple #[.bool true,.string A,.pointer G])/\AH prog (Instr.entry v12) y (λz AG=>∃WO tQ,z=(.tuple #[.string WO,.pointer tQ])/\Pq tQ λNn RH=>LS AG Nn RH λoY n22 oZ=>AO 115 #[.slice p1 n1 c1,.slice oY n22 oZ] AG R (CB λt23 AQ=>Bo t23 (Al AQ λHP=>AH prog (HO 81 p5 n5 c5 HP) (Hp.set AQ HP (.cells #[.string WO] 9 (0,0))) (CS λlH n27 lI A5=>A3 R p1 n1 c1 lH n27 lI v12 A5)) (A3 R p1 n1 c1 p5 n5 c5 v12 AQ)))))):A3 R p1 n1 c1 p5 n5 c5 v12 Z22:=M.of h ok rfl
end DQ
namespace Nq
variable {q0:Option Addr}
def M:Fw:=⟨prog,139,f139,[],[],false,[],[],[]⟩
def ok:M.Ok:=⟨AN.nil,mixed,func139,by kernel_rfl⟩
def start (h:Pq q0 λb4 G=>LT Z22 b4 (G+1) λA=>(ByteArray.size A+ByteArray.size (ByteArray.mk #[47,110,101,119])<=9223372036854775807)/\R (.returned (.string (A++(ByteArray.mk #[47,110,101,119])))) Z22):Spec prog 139 #[.pointer q0] Z22 R:=M.start h ok
end Nq
namespace DR
variable {s0 s1:ByteArray}
def M:Fw:=⟨prog,142,f142,[],[],false,[],[],[]⟩
def ok:M.Ok:=⟨AN.nil,mixed,func142,by kernel_rfl⟩
def start (h:Br (((s1.size:Int):Int)<=(s0.size:Int)) (∃A,YF prog (Instr.sliceAt 9 (.string s0) none (some (.I (s1.size:Int))) none) Z22 (.string A)/\R (.returned (.bool (ByteArray.toList A==ByteArray.toList s1))) Z22) (R (.B false) Z22)):Spec prog 142 #[.string s0,.string s1] Z22 R:=M.start h ok
end DR
namespace CK
variable {t0:Bool}
def M:Fw:=⟨prog,155,f155,[],[],false,[],[],[]⟩
def ok:M.Ok:=⟨AN.nil,mixed,func155,by kernel_rfl⟩
def start (h:Bn t0 (R (.panicked [{ v:=(.iface 222 (.agg #[])),recovered:=false }]) Z22) (R (.T #[]) Z22)):Spec prog 155 #[.bool t0] Z22 R:=M.start h ok
end CK
namespace EA
variable {x0 x2:Int}
def M:Fw:=⟨prog,168,f168,[],[],false,[],[],[(28,[(0,wU),(2,wI)]),(60,[(0,wU),(2,wI)]),(62,[(0,wU),(2,wI)])]⟩
def ok:M.Ok:=⟨AN.nil,mixed,func168,by kernel_rfl⟩
def Rb:=M.pt 0
def H8:=M.pt 1
def Pa:=M.pt 2
def start (h:Br (4294967296<=x0) (((0:Int)<=32/\32<=((IntKind.bits .u64:Nat):Int))/\Df (x0/2^Int.toNat 32) λx6=>Rb R x6 32 Z22) (Rb R x0 0 Z22)):Spec prog 168 #[.U x0] Z22 R:=M.start h ok
def KY (h:Br (65536<=x0) (((0:Int)<=16/\16<=((IntKind.bits .u64:Nat):Int))/\Df (x0/2^Int.toNat 16) λFE=>AK (x2+16)/\H8 R FE (x2+16) Z22) (H8 R x0 x2 Z22)):Rb R x0 x2 Z22:=M.of h ok rfl
def G0 (h:Br (256<=x0) (((0:Int)<=8/\8<=((IntKind.bits .u64:Nat):Int))/\Df (x0/2^Int.toNat 8) λEl=>AK (x2+8)/\Pa R El (x2+8) Z22) (Pa R x0 x2 Z22)):H8 R x0 x2 Z22:=M.of h ok rfl
def Kc (h:Df (IntKind.u8.wrap x0) λEn=>∃A:UInt8,0<=En/\(ByteArray.data (ByteArray.mk #[0,1,2,2,3,3,3,3,4,4,4,4,4,4,4,4,5,5,5,5,5,5,5,5,5,5,5,5,5,5,5,5,6,6,6,6,6,6,6,6,6,6,6,6,6,6,6,6,6,6,6,6,6,6,6,6,6,6,6,6,6,6,6,6,7,7,7,7,7,7,7,7,7,7,7,7,7,7,7,7,7,7,7,7,7,7,7,7,7,7,7,7,7,7,7,7,7,7,7,7,7,7,7,7,7,7,7,7,7,7,7,7,7,7,7,7,7,7,7,7,7,7,7,7,7,7,7,7,8,8,8,8,8,8,8,8,8,8,8,8,8,8,8,8,8,8,8,8,8,8,8,8,8,8,8,8,8,8,8,8,8,8,8,8,8,8,8,8,8,8,8,8,8,8,8,8,8,8,8,8,8,8,8,8,8,8,8,8,8,8,8,8,8,8,8,8,8,8,8,8,8,8,8,8,8,8,8,8,8,8,8,8,8,8,8,8,8,8,8,8,8,8,8,8,8,8,8,8,8,8,8,8,8,8,8,8,8,8,8,8,8,8,8,8,8,8,8,8,8,8,8,8,8,8,8,8]))[En.toNat]?=some A/\Df (IntKind.i64.wrap (A.toNat:Int)) λbF=>AK (x2+bF)/\R (.returned (.I (x2+bF))) Z22):Pa R x0 x2 Z22:=M.of h ok rfl
end EA
namespace Qa
variable {p0:Option Addr}{n0 c0:Nat}{x1:Int}
def M:Fw:=⟨prog,176,f176,[175,232],[],false,[],[],[]⟩
def ok:M.Ok:=⟨.cons call175 (.cons call232 (AN.nil)),mixed,func176,by kernel_rfl⟩
def start (h:AO 232 #[.I x1] Z22 R (CI .u64 λx7 y=>AO 175 #[.slice p0 n0 c0,.U x7] y R (CS λp8 n8 c8 A=>R (.returned (.slice p8 n8 c8)) A))):Spec prog 176 #[.slice p0 n0 c0,.I x1] Z22 R:=M.start h ok
end Qa
namespace Jl
variable {b0 b1:Nat}
def M:Fw:=⟨prog,178,f178,[86],[],false,[],[],[]⟩
def ok:M.Ok:=⟨.cons call86 (AN.nil),mixed,func178,by kernel_rfl⟩
def start (h:LQ Z22 b0 0 λq3=>LT Z22 b1 0 λA=>AO 86 #[.pointer q3,.string A] Z22 R (CI .i64 λx5 y=>R (.returned (.I x5)) y)):Spec prog 178 #[(.pointer (aD b0 0)),(.pointer (aD b1 0))] Z22 R:=M.start h ok
end Jl
namespace Jn
variable {q0:Option Addr}
def M:Fw:=⟨prog,292,f292,[],[],false,[(1,10,true)],[],[]⟩
def ok:M.Ok:=⟨AN.nil,mixed,func292,by kernel_rfl⟩
def start (h:Pq q0 λb4 A=>LI .i64 Z22 b4 (A+1) λx6=>LI .i64 Z22 b4 (A+2) λFE=>AK (x6-FE)/\R (.returned (.I (x6-FE))) Z22):Spec prog 292 #[.pointer q0] Z22 R:=M.start h ok
end Jn
namespace DE
variable {q0:Option Addr}{v1:Value}
def M:Fw:=⟨prog,336,f336,[],[],false,[(0,9,false)],[],[]⟩
def ok:M.Ok:=⟨AN.nil,mixed,func336,by kernel_rfl⟩
def start (h:Pq q0 λA o6=>LS Z22 A o6 λp7 n7 c7=>AH prog (Instr.typeAssert v1 20 272 false) Z22 (CQ λq9 y=>Kp [A] Z22 y/\Al y λG=>AH prog (HO 269 p7 n7 c7 G) (Hp.set y G (.cells #[.pointer q9] 272 (0,0))) (CS λPz n11 P0 AG=>AH prog (Instr.storeAt 269 (.pointer (aD A o6)) (.slice Pz n11 P0)) AG (λ_ AQ=>R (.T #[]) AQ)))):Spec prog 336 #[.pointer q0,v1] Z22 R:=M.F5 h ok [(0,.o (.Q q0)),(1,.o (.V v1))] rfl rfl (by kernel_rfl)
end DE
end TwW
end
end
section
set_option maxRecDepth 100000
noncomputable section
namespace TwW
open Go Tw Go.Proofs.Tryz
variable [I9]{R:Rr}{Z22:Hp}

namespace Nr
variable {q0:Option Addr}{x1:Int}
def M:Fw:=⟨prog,18,f18,[63],[],false,[],[],[]⟩
def ok:M.Ok:=⟨.cons call63 (AN.nil),mixed,func18,by kernel_rfl⟩
def start (h:Pq q0 λb5 A=>LB Z22 b5 (A+1) λt7=>Bo t7 (AO 63 #[(.pointer (aD b5 A)),.I x1] Z22 R (λz y=>z=(.tuple #[])/\R (.T #[]) y)) (R (.T #[]) Z22)):Spec prog 18 #[.pointer q0,.I x1] Z22 R:=M.start h ok
end Nr
namespace GC
variable {q0 p5:Option Addr}{s1:ByteArray}{n5 c5:Nat}{v16:Value}
def M:Fw:=⟨prog,27,f27,[82,83],[],false,[],[(16,91)],[(488,[(1,wT),(5,wL),(16,wV)])]⟩
def ok:M.Ok:=⟨.cons call82 (.cons call83 (AN.nil)),mixed,func27,by kernel_rfl⟩
def Ep:=M.pt 0
def start (h:Pq q0 λG o8=>LB Z22 G (o8+1) λt10=>Bn t10 (R (.returned (.N)) Z22) (LM Z22 G o8 λA=>AH prog (Instr.range 91 (.map A)) Z22 (λz y=>∃v16,v16=z/\Ep R s1 none 0 0 v16 y))):Spec prog 27 #[.pointer q0,.string s1] Z22 R:=M.start h ok
def FQ (h:AH prog (Instr.next v16 false 0) Z22 (λv y=>(v=(.tuple #[.bool false])/\AO 83 #[.slice p5 n5 c5] y R (λz A=>z=(.tuple #[])/\R (.returned (.slice p5 n5 c5)) A))\/(∃zm ARc,v=(.tuple #[.bool true,.string zm,.pointer ARc])/\AH prog (Instr.entry v16) y (λz A=>∃dc ARd,z=(.tuple #[.string dc,.pointer ARd])/\AO 82 #[.string dc,.string s1] A R (CB λt23 G=>Bo t23 (Al G λHP=>AH prog (HO 81 p5 n5 c5 HP) (Hp.set G HP (.cells #[.string dc] 9 (0,0))) (CS λlH n27 lI A5=>Ep R s1 lH n27 lI v16 A5)) (Ep R s1 p5 n5 c5 v16 G)))))):Ep R s1 p5 n5 c5 v16 Z22:=M.of h ok rfl
end GC
namespace GD
variable {p0 p1:Option Addr}{n0 c0 n1 c1:Nat}{x5:Int}
def M:Fw:=⟨prog,37,f37,[],[],false,[(6,9,true)],[],[(464,[(0,wL),(1,wL),(5,wI)])]⟩
def ok:M.Ok:=⟨AN.nil,mixed,func37,by kernel_rfl⟩
def BM:=M.pt 0
def start (h:Br ((n0:Int)≠(n1:Int)) (R (.B false) Z22) (BM R p0 n0 c0 p1 n1 c1 0 Z22)):Spec prog 37 #[.slice p0 n0 c0,.slice p1 n1 c1] Z22 R:=M.start h ok
def Bg (h:Br (x5<(n0:Int)) (Pq p0 λG Mf=>In x5 (n0:Int)/\LT Z22 G (Mf+x5.toNat*1) λA=>Pq p1 λRa Yi=>In x5 (n1:Int)/\LT Z22 Ra (Yi+x5.toNat*1) λYz=>Bn (ByteArray.toList A==ByteArray.toList Yz) (R (.B false) Z22) (AK (x5+1)/\BM R (aD G Mf) n0 c0 (aD Ra Yi) n1 c1 (x5+1) Z22)) (R (.B true) Z22)):BM R p0 n0 c0 p1 n1 c1 x5 Z22:=M.of h ok rfl
end GD
namespace L8
variable {q0 p1:Option Addr}{n1 c1:Nat}
def M:Fw:=⟨prog,46,f46,[72,106],[],false,[],[],[]⟩
def ok:M.Ok:=⟨.cons call72 (.cons call106 (AN.nil)),mixed,func46,by kernel_rfl⟩
def start (h:Al Z22 λb2=>AO 106 #[.slice p1 n1 c1] (Hp.set Z22 b2 (.cells #[.pointer q0] 71 (0,0))) R (λz y=>∃y6 y7 y8 oX,z=(.tuple #[.slice y6 y7 y8,.I oX])/\Al y λb5=>AH prog (Instr.storeAt 79 (.pointer (aD b5 0)) (.slice y6 y7 y8)) (Hp.set y b5 (.cells #[.N] 79 (0,0))) (λ_ A=>Br (oX≠0) (R (.returned (.I 70)) A) (AO 72 #[(.func (.func 107) #[] #[(.pointer (aD b2 0)),(.pointer (aD b5 0))])] A R (CI .i64 λDA G=>R (.returned (.I DA)) G))))):Spec prog 46 #[.pointer q0,.slice p1 n1 c1] Z22 R:=M.start h ok
end L8
namespace GF
variable {x0 x3:Int}
def M:Fw:=⟨prog,56,f56,[],[],false,[],[],[(30,[(3,wI)])]⟩
def ok:M.Ok:=⟨AN.nil,mixed,func56,by kernel_rfl⟩
def EK:=M.pt 0
def start (h:7200≠(0:Int)/\Df (IntKind.i64.wrap (Int.tdiv x0 7200)) λx5=>7200≠(0:Int)/\Df (Int.tmod x0 7200) λx7=>Br (x7<0) (AK (x5-1)/\EK R (x5-1) Z22) (EK R x5 Z22)):Spec prog 56 #[.I x0] Z22 R:=M.start h ok
def DB (h:AK (x3*7200)/\R (.returned (.I (x3*7200))) Z22):EK R x3 Z22:=M.of h ok rfl
end GF
namespace An
variable {q0 p1 JQ p39:Option Addr}{n1 c1 n10 IU n39 dK:Nat}{Gp CR Kz Ly:Int}{s5:ByteArray}
def M:Fw:=⟨prog,74,f74,[31,77,139,140],[],false,[(5,11,false)],[],[(40,[(0,wQ),(1,wL),(10,wL),(11,wI),(12,wI)]),(56,[(0,wQ),(39,wL),(40,wI),(41,wI)]),(231,[(0,wQ),(39,wL),(40,wI),(41,wI)]),(1331,[(0,wQ),(1,wL),(5,wT),(10,wL),(11,wI),(12,wI)])]⟩
def ok:M.Ok:=⟨.cons call31 (.cons call77 (.cons call139 (.cons call140 (AN.nil)))),mixed,func74,by kernel_rfl⟩
def dU:=M.pt 0
def JI:=M.pt 1
def E2:=M.pt 2
def zn:=M.pt 3
def start (h:dU R q0 p1 n1 c1 p1 n1 c1 (n1:Int) 0 Z22):Spec prog 74 #[.pointer q0,.slice p1 n1 c1] Z22 R:=M.start h ok
def Kb (h:Br (CR<Gp) (Pq JQ λG Kv=>In CR (n10:Int)/\LT Z22 G (Kv+CR.toNat*1) λA=>AO 139 #[.pointer q0] Z22 R (CT λdG y=>Bo (ByteArray.toList A==ByteArray.toList dG) (Pq q0 λF9 bL=>LQ y F9 bL λq23=>AO 31 #[.pointer q23,.string A] y R (CI .i64 λUe AG=>AO 77 #[.I Ue] AG R (λz AQ=>z=(.tuple #[])/\zn R (aD F9 bL) p1 n1 c1 A (aD G Kv) n10 IU Gp CR AQ))) (zn R q0 p1 n1 c1 A (aD G Kv) n10 IU Gp CR y))) (JI R q0 p1 n1 c1 (n1:Int) 0 Z22)):dU R q0 p1 n1 c1 JQ n10 IU Gp CR Z22:=M.of h ok rfl
def G2 (h:Br (Ly<Kz) (Pq p39 λWQ WR=>In Ly (n39:Int)/\LT Z22 WQ (WR+Ly.toNat*1) λs44=>AO 140 #[.pointer q0,(.string (ByteArray.mk #[99])),.string s44] Z22 R (CI .i64 λXP y=>AO 140 #[.pointer q0,(.string (ByteArray.mk #[115])),.string s44] y R (CI .i64 λV8 A=>Br (0<XP) (Pq q0 λHK WL=>LI .i64 A HK (WL+2) λx59=>Br (XP<x59) (LQ A HK WL λq77=>AO 31 #[.pointer q77,.string s44] A R (CI .i64 λdQ AQ=>AO 77 #[.I dQ] AQ R (λz A5=>z=(.tuple #[])/\E2 R (aD HK WL) (aD WQ WR) n39 dK Kz Ly A5))) (Br (0<V8) (LI .i64 A HK (WL+2) λx70=>Br (V8<=x70) (LQ A HK WL λq77=>AO 31 #[.pointer q77,.string s44] A R (CI .i64 λdQ AQ=>AO 77 #[.I dQ] AQ R (λz A5=>z=(.tuple #[])/\E2 R (aD HK WL) (aD WQ WR) n39 dK Kz Ly A5))) (Br (0<V8) (LS A HK (WL+3) λqm xy qn=>Al A λgL=>AH prog (HO 40 qm xy qn gL) (Hp.set A gL (.cells #[.I V8] 3 (0,0))) (CS λyA yB G AQ=>AH prog (Instr.storeAt 40 (.pointer (aD HK (WL+3))) (.slice yA yB G)) AQ (λ_ A5=>E2 R (aD HK WL) (aD WQ WR) n39 dK Kz Ly A5))) (E2 R (aD HK WL) (aD WQ WR) n39 dK Kz Ly A))) (Br (0<V8) (LS A HK (WL+3) λqm xy qn=>Al A λgL=>AH prog (HO 40 qm xy qn gL) (Hp.set A gL (.cells #[.I V8] 3 (0,0))) (CS λyA yB G AQ=>AH prog (Instr.storeAt 40 (.pointer (aD HK (WL+3))) (.slice yA yB G)) AQ (λ_ A5=>E2 R (aD HK WL) (aD WQ WR) n39 dK Kz Ly A5))) (E2 R (aD HK WL) (aD WQ WR) n39 dK Kz Ly A)))) (Br (0<V8) (Pq q0 λsv o68=>LI .i64 A sv (o68+2) λx70=>Br (V8<=x70) (LQ A sv o68 λq77=>AO 31 #[.pointer q77,.string s44] A R (CI .i64 λdQ AQ=>AO 77 #[.I dQ] AQ R (λz A5=>z=(.tuple #[])/\E2 R (aD sv o68) (aD WQ WR) n39 dK Kz Ly A5))) (Br (0<V8) (LS A sv (o68+3) λqm xy qn=>Al A λgL=>AH prog (HO 40 qm xy qn gL) (Hp.set A gL (.cells #[.I V8] 3 (0,0))) (CS λyA yB G AQ=>AH prog (Instr.storeAt 40 (.pointer (aD sv (o68+3))) (.slice yA yB G)) AQ (λ_ A5=>E2 R (aD sv o68) (aD WQ WR) n39 dK Kz Ly A5))) (E2 R (aD sv o68) (aD WQ WR) n39 dK Kz Ly A))) (Br (0<V8) (Pq q0 λqo o86=>LS A qo (o86+3) λqm xy qn=>Al A λgL=>AH prog (HO 40 qm xy qn gL) (Hp.set A gL (.cells #[.I V8] 3 (0,0))) (CS λyA yB G AQ=>AH prog (Instr.storeAt 40 (.pointer (aD qo (o86+3))) (.slice yA yB G)) AQ (λ_ A5=>E2 R (aD qo o86) (aD WQ WR) n39 dK Kz Ly A5))) (E2 R q0 (aD WQ WR) n39 dK Kz Ly A)))))) (R (.T #[]) Z22)):JI R q0 p39 n39 dK Kz Ly Z22:=M.of h ok rfl
def Qb (h:AK (Ly+1)/\JI R q0 p39 n39 dK Kz (Ly+1) Z22):E2 R q0 p39 n39 dK Kz Ly Z22:=M.of h ok rfl
def zo (h:Pq q0 λA G=>LI .i64 Z22 A (G+2) λLN=>AO 140 #[(.pointer (aD A G)),(.string (ByteArray.mk #[99])),.string s5] Z22 R (CI .i64 λgG y=>Kp [A] Z22 y/\AH prog (Instr.storeAt 3 (.pointer (aD A (G+2))) (.I (if LN<gG then gG else LN))) y (λ_ AG=>AK (CR+1)/\dU R (aD A G) p1 n1 c1 JQ n10 IU Gp (CR+1) AG))):zn R q0 p1 n1 c1 s5 JQ n10 IU Gp CR Z22:=M.of h ok rfl
end An
namespace BV
variable {q0 p3 Yw:Option Addr}{n3 c3 n46 c46:Nat}{XP Lj:Int}
def M:Fw:=⟨prog,75,f75,[76,141],[],false,[],[],[(60,[(0,wQ),(3,wL)]),(488,[(0,wQ),(3,wL),(46,wL),(47,wI),(48,wI)]),(62,[(3,wL)]),(7542,[(3,wL)])]⟩
def ok:M.Ok:=⟨.cons call76 (.cons call141 (AN.nil)),mixed,func75,by kernel_rfl⟩
def zp:=M.pt 0
def LK:=M.pt 1
def QX:=M.pt 2
def db:=M.pt 3
def start (h:Pq q0 λA G=>LI .i64 Z22 A (G+2) λJU=>Br (0<JU) (LI .i64 Z22 A (G+2) λEn=>LS Z22 A (G+3) λQS n26 PY=>AO 76 #[(.pointer (aD A G)),(.string (ByteArray.mk #[99])),.I En] Z22 R (CT λs22 y=>Kp [A] Z22 y/\AO 141 #[(.pointer (aD A G)),.string s22,.slice QS n26 PY] y R (λz AG=>∃jN de jO AKt,z=(.tuple #[.slice jN de jO,.bool AKt])/\Bn AKt (AH prog (Instr.storeAt 40 (.pointer (aD A (G+3))) (.N)) AG (λ_ AQ=>Br ((de:Int)=0) (AH prog (Instr.storeAt 3 (.pointer (aD A (G+2))) (.I 0)) AQ (λ_ A5=>db R jN de jO A5)) (db R jN de jO AQ))) (zp R (aD A G) jN de jO AG)))) (zp R (aD A G) none 0 0 Z22)):Spec prog 75 #[.pointer q0] Z22 R:=M.start h ok
def zq (h:Pq q0 λA G=>LS Z22 A (G+3) λYw n46 c46=>LK R (aD A G) p3 n3 c3 Yw n46 c46 (n46:Int) 0 Z22):zp R q0 p3 n3 c3 Z22:=M.of h ok rfl
def Mh (h:Br (Lj<XP) (Pq Yw λzQ zR=>In Lj (n46:Int)/\LI .i64 Z22 zQ (zR+Lj.toNat*1) λXR=>Pq q0 λA G=>LS Z22 A (G+3) λp61 n61 c61=>AK (Lj+1)/\((0:Int)<=(Lj+1)/\(Lj+1)<=(n61:Int))/\AO 76 #[(.pointer (aD A G)),(.string (ByteArray.mk #[115])),.I XR] Z22 R (CT λs57 y=>Kp [A] Z22 y/\AO 141 #[(.pointer (aD A G)),.string s57,(.slice (ET p61 (Int.toNat (Lj+1)) c61 1) (n61-Int.toNat (Lj+1)) (c61-Int.toNat (Lj+1)))] y R (λz AG=>∃AKu AFF AKv AKw,z=(.tuple #[.slice AKu AFF AKv,.bool AKw])/\AH prog (Builtin.append_ #[72,72] 72 #[.slice p3 n3 c3,.slice AKu AFF AKv]) AG (CS λp70 n70 c70 AQ=>Bo AKw (AK (Lj+1)/\LK R (aD A G) p70 n70 c70 (aD zQ zR) n46 c46 XP (Lj+1) AQ) (LS AQ A (G+3) λp76 n76 c76=>AK (Lj+1)/\((0:Int)<=(Lj+1)/\(Lj+1)<=(c76:Int))/\AH prog (Instr.storeAt 40 (.pointer (aD A (G+3))) (.slice p76 (Int.toNat (Lj+1)) c76)) AQ (λ_ A5=>Br ((AFF:Int)=0) (LS A5 A (G+3) λp89 n89 c89=>(0<=Lj/\Lj<=(c89:Int))/\AH prog (Instr.storeAt 40 (.pointer (aD A (G+3))) (.slice p89 (Lj.toNat) c89)) A5 (λ_ Cn=>QX R p70 n70 c70 Cn)) (QX R p70 n70 c70 A5))))))) (QX R p3 n3 c3 Z22)):LK R q0 p3 n3 c3 Yw n46 c46 XP Lj Z22:=M.of h ok rfl
def Ix (h:R (.returned (.slice p3 n3 c3)) Z22):QX R p3 n3 c3 Z22:=M.of h ok rfl
end BV
namespace strings_Split
variable {s0 s1:ByteArray}
end strings_Split
namespace slices_Compact_string
variable {p0 p4:Option Addr}{n0 c0 n4 c4:Nat}{x3 x5:Int}
def M:Fw:=⟨prog,97,f97,[],[],false,[(6,10,true),(11,10,true)],[],[(464,[(0,wL),(3,wI)]),(477520,[(0,wL),(3,wI),(4,wL),(5,wI)]),(477523,[(0,wL),(3,wI),(4,wL),(5,wI)])]⟩
def ok:M.Ok:=⟨AN.nil,mixed,func97,by kernel_rfl⟩
def BM:=M.pt 0
def iq:=M.pt 1
def dL:=M.pt 2
def start (h:Br ((n0:Int)<2) (R (.returned (.slice p0 n0 c0)) Z22) (BM R p0 n0 c0 1 Z22)):Spec prog 97 #[.slice p0 n0 c0] Z22 R:=M.start h ok
def Bg (h:Br (x3<(n0:Int)) (Pq p0 λA G=>In x3 (n0:Int)/\LT Z22 A (G+x3.toNat*1) λs19=>AK (x3-1)/\In (x3-1) (n0:Int)/\LT Z22 A (G+Int.toNat (x3-1)*1) λYz=>Bo (ByteArray.toList s19==ByteArray.toList Yz) ((0<=x3/\x3<=(n0:Int))/\iq R (aD A G) n0 c0 x3 ((ET (aD A G) (x3.toNat) c0 1)) (n0-x3.toNat) (c0-x3.toNat) 1 Z22) (AK (x3+1)/\BM R (aD A G) n0 c0 (x3+1) Z22)) (R (.returned (.slice p0 n0 c0)) Z22)):BM R p0 n0 c0 x3 Z22:=M.of h ok rfl
def Ti (h:Br (x5<(n4:Int)) (Pq p4 λA G=>In x5 (n4:Int)/\LT Z22 A (G+x5.toNat*1) λs38=>AK (x5-1)/\In (x5-1) (n4:Int)/\LT Z22 A (G+Int.toNat (x5-1)*1) λs43=>Bn (ByteArray.toList s38==ByteArray.toList s43) (In x5 (n4:Int)/\LT Z22 A (G+x5.toNat*1) λs50=>Pq p0 λzQ zR=>In x3 (n0:Int)/\AH prog (Instr.storeAt 9 (.pointer (aD zQ (zR+x3.toNat*1))) (.string s50)) Z22 (λ_ y=>AK (x3+1)/\dL R (aD zQ zR) n0 c0 (x3+1) (aD A G) n4 c4 x5 y)) (dL R p0 n0 c0 x3 (aD A G) n4 c4 x5 Z22)) ((0<=x3/\x3<=(n0:Int))/\AH prog (Builtin.clear_ #[81] 0 #[(.slice (ET p0 (x3.toNat) c0 1) (n0-x3.toNat) (c0-x3.toNat))]) Z22 (λ_ y=>(0<=x3/\x3<=(c0:Int))/\R (.returned (.slice p0 (x3.toNat) c0)) y))):iq R p0 n0 c0 x3 p4 n4 c4 x5 Z22:=M.of h ok rfl
def QK (h:AK (x5+1)/\iq R p0 n0 c0 x3 p4 n4 c4 (x5+1) Z22):dL R p0 n0 c0 x3 p4 n4 c4 x5 Z22:=M.of h ok rfl
end slices_Compact_string
namespace Jo
variable {q0 p2:Option Addr}{s1:ByteArray}{n2 c2:Nat}
def M:Fw:=⟨prog,110,f110,[90],[],false,[],[],[]⟩
def ok:M.Ok:=⟨.cons call90 (AN.nil),mixed,func110,by kernel_rfl⟩
def start (h:Al Z22 λb3=>Al (Hp.set Z22 b3 (.cells #[.pointer q0] 36 (0,0))) λb4=>Al (Hp.set (Hp.set Z22 b3 (.cells #[.pointer q0] 36 (0,0))) b4 (.cells #[.string s1] 9 (0,0))) λb5=>LQ (Hp.set (Hp.set (Hp.set Z22 b3 (.cells #[.pointer q0] 36 (0,0))) b4 (.cells #[.string s1] 9 (0,0))) b5 (.cells #[.slice p2 n2 c2] 79 (0,0))) b3 0 λA=>AO 90 #[.pointer A,(.func (.func 181) #[] #[(.pointer (aD b4 0)),(.pointer (aD b3 0)),(.pointer (aD b5 0))]),(.func (.func 180) #[] #[(.pointer (aD b3 0)),(.pointer (aD b4 0)),(.pointer (aD b5 0))]),(.func (.func 180) #[] #[(.pointer (aD b3 0)),(.pointer (aD b4 0)),(.pointer (aD b5 0))])] (Hp.set (Hp.set (Hp.set Z22 b3 (.cells #[.pointer q0] 36 (0,0))) b4 (.cells #[.string s1] 9 (0,0))) b5 (.cells #[.slice p2 n2 c2] 79 (0,0))) R (CI .i64 λJU y=>R (.returned (.I JU)) y)):Spec prog 110 #[.pointer q0,.string s1,.slice p2 n2 c2] Z22 R:=M.start h ok
end Jo
namespace A7
variable {q0 p1 p6:Option Addr}{n1 c1 n6 c6:Nat}{x7 x8:Int}
def M:Fw:=⟨prog,122,f122,[194],[],false,[],[],[(24,[(0,wQ),(6,wL),(7,wI),(8,wI)])]⟩
def ok:M.Ok:=⟨.cons call194 (AN.nil),mixed,func122,by kernel_rfl⟩
def pt5:=M.pt 0
def start (h:pt5 R q0 p1 n1 c1 (n1:Int) 0 Z22):Spec prog 122 #[.pointer q0,.slice p1 n1 c1] Z22 R:=M.start h ok
def Y6 (h:Br (x8<x7) (Pq p6 λA G=>In x8 (n6:Int)/\LI .i64 Z22 A (G+x8.toNat*1) λGp=>Df (IntKind.u64.wrap Gp) λDY=>AO 194 #[.pointer q0,.U DY] Z22 R (λz y=>z=(.tuple #[])/\AK (x8+1)/\pt5 R q0 (aD A G) n6 c6 x7 (x8+1) y)) (R (.T #[]) Z22)):pt5 R q0 p6 n6 c6 x7 x8 Z22:=M.of h ok rfl
end A7
namespace Qc
variable {p0:Option Addr}{n0 c0:Nat}
def M:Fw:=⟨prog,125,f125,[177],[],false,[],[],[]⟩
def ok:M.Ok:=⟨.cons call177 (AN.nil),mixed,func125,by kernel_rfl⟩
def start (h:AO 177 #[.slice p0 n0 c0] Z22 R (CI .u32 λx5 y=>((0:Int)<=24/\24<=((IntKind.bits .u32:Nat):Int))/\Df (x5/2^Int.toNat 24) λx8=>Df (IntKind.u8.wrap x8) λx9=>((0:Int)<=16/\16<=((IntKind.bits .u32:Nat):Int))/\Df (x5/2^Int.toNat 16) λGp=>Df (IntKind.u8.wrap Gp) λCR=>((0:Int)<=8/\8<=((IntKind.bits .u32:Nat):Int))/\Df (x5/2^Int.toNat 8) λDY=>Df (IntKind.u8.wrap DY) λDA=>Df (IntKind.u8.wrap x5) λC3=>Al y λPS=>AH prog (Builtin.append_ #[79,79] 79 #[.slice p0 n0 c0,(.slice (aD PS 0) 4 4)]) (Hp.set y PS (.cells #[.int .u8 x9,.int .u8 CR,.int .u8 DA,.int .u8 C3] 5 (0,0))) (CS λp19 G A AG=>R (.returned (.slice p19 G A)) AG))):Spec prog 125 #[.slice p0 n0 c0] Z22 R:=M.start h ok
end Qc
namespace BH
variable {q0 p14:Option Addr}{s1:ByteArray}{n14 zA:Nat}{DA El:Int}
def M:Fw:=⟨prog,128,f128,[],[5],false,[(3,7,false),(4,8,true),(5,5,true)],[],[(40,[(0,wQ),(1,wT),(14,wL),(15,wI),(16,wI)]),(167,[(0,wQ),(1,wT),(14,wL),(15,wI),(16,wI)])]⟩
def ok:M.Ok:=⟨AN.nil,mixed,func128,by kernel_rfl⟩
def dU:=M.pt 0
def IZ:=M.pt 1
def start (h:Pq q0 λb7 G=>LM Z22 b7 G λm9=>AH prog (Instr.lookup 170 (.map m9) (.string s1) false) Z22 (CQ λA y=>Pq A λIs JT=>LS y Is JT λp14 n14 zA=>dU R (aD b7 G) s1 p14 n14 zA (n14:Int) 0 y)):Spec prog 128 #[.pointer q0,.string s1] Z22 R:=M.start h ok
def Kb (h:Br (El<DA) (Pq p14 λPS bH=>In El (n14:Int)/\∃dc zr,Bm Z22 PS (bH+El.toNat*2) [.string dc,.string zr]/\∀b5:Nat,Pq q0 λG bL=>LM Z22 G (bL+1) λm23=>AH prog (Instr.lookup 171 (.map m23) (.agg #[.string dc,.string zr]) false) Z22 (CM λm25 y=>AH prog (Builtin.delete_ #[194,9] 0 #[.map m25,.string s1]) y (λ_ AG=>LM AG G (bL+1) λtR=>AH prog (Instr.lookup 171 (.map tR) (.agg #[.string dc,.string zr]) false) AG (CM λtU A=>Ext AG A/\∃IE,YF prog (Builtin.len_ #[194] 3 #[.map tU]) A (.I IE)/\Br (IE=0) (LM A G (bL+1) λzH=>AH prog (Builtin.delete_ #[171,95] 0 #[.map zH,.agg #[.string dc,.string zr]]) A (λ_ Cn=>IZ R (aD G bL) s1 (aD PS bH) n14 zA DA El Cn)) (IZ R (aD G bL) s1 (aD PS bH) n14 zA DA El A))))) (Pq q0 λgH o42=>LM Z22 gH o42 λm44=>AH prog (Builtin.delete_ #[170,9] 0 #[.map m44,.string s1]) Z22 (λ_ y=>R (.T #[]) y))):dU R q0 s1 p14 n14 zA DA El Z22:=M.of h ok rfl
def KZ (h:AK (El+1)/\dU R q0 s1 p14 n14 zA DA (El+1) Z22):IZ R q0 s1 p14 n14 zA DA El Z22:=M.of h ok rfl
end BH
namespace BC
variable {s0:ByteArray}{x3 x4 x5 x6:Int}
def M:Fw:=⟨prog,132,f132,[],[],false,[],[],[(220,[(0,wT),(3,wI)]),(894,[(0,wT),(3,wI),(4,wI),(5,w8),(6,w8)]),(7164,[(0,wT),(3,wI),(4,wI),(5,w8),(6,w8)])]⟩
def ok:M.Ok:=⟨AN.nil,mixed,func132,by kernel_rfl⟩
def EK:=M.pt 0
def Ia:=M.pt 1
def TL:=M.pt 2
def start (h:EK R s0 0 Z22):Spec prog 132 #[.string s0] Z22 R:=M.start h ok
def DB (h:Br (x3=(s0.size:Int)) (R (.B true) Z22) (∃A:UInt8,0<=x3/\(ByteArray.data s0)[x3.toNat]?=some A/\Br (((A.toNat:Int):Int)<128) (AK (x3+1)/\EK R s0 (x3+1) Z22) (Br ((194:Int)<=(A.toNat:Int)) (Br (((A.toNat:Int):Int)<=223) (Ia R s0 x3 1 128 191 Z22) (Br ((224:Int)<=(A.toNat:Int)) (Br (((A.toNat:Int):Int)<=239) (Br (((A.toNat:Int):Int)=224) (Ia R s0 x3 2 160 191 Z22) (Br (((A.toNat:Int):Int)=237) (Ia R s0 x3 2 128 159 Z22) (Ia R s0 x3 2 128 191 Z22))) (Br ((240:Int)<=(A.toNat:Int)) (Br (((A.toNat:Int):Int)<=244) (Br (((A.toNat:Int):Int)=240) (Ia R s0 x3 3 144 191 Z22) (Br (((A.toNat:Int):Int)=244) (Ia R s0 x3 3 128 143 Z22) (Ia R s0 x3 3 128 191 Z22))) (R (.B false) Z22)) (R (.B false) Z22))) (Br ((240:Int)<=(A.toNat:Int)) (Br (((A.toNat:Int):Int)<=244) (Br (((A.toNat:Int):Int)=240) (Ia R s0 x3 3 144 191 Z22) (Br (((A.toNat:Int):Int)=244) (Ia R s0 x3 3 128 143 Z22) (Ia R s0 x3 3 128 191 Z22))) (R (.B false) Z22)) (R (.B false) Z22)))) (Br ((224:Int)<=(A.toNat:Int)) (Br (((A.toNat:Int):Int)<=239) (Br (((A.toNat:Int):Int)=224) (Ia R s0 x3 2 160 191 Z22) (Br (((A.toNat:Int):Int)=237) (Ia R s0 x3 2 128 159 Z22) (Ia R s0 x3 2 128 191 Z22))) (Br ((240:Int)<=(A.toNat:Int)) (Br (((A.toNat:Int):Int)<=244) (Br (((A.toNat:Int):Int)=240) (Ia R s0 x3 3 144 191 Z22) (Br (((A.toNat:Int):Int)=244) (Ia R s0 x3 3 128 143 Z22) (Ia R s0 x3 3 128 191 Z22))) (R (.B false) Z22)) (R (.B false) Z22))) (Br ((240:Int)<=(A.toNat:Int)) (Br (((A.toNat:Int):Int)<=244) (Br (((A.toNat:Int):Int)=240) (Ia R s0 x3 3 144 191 Z22) (Br (((A.toNat:Int):Int)=244) (Ia R s0 x3 3 128 143 Z22) (Ia R s0 x3 3 128 191 Z22))) (R (.B false) Z22)) (R (.B false) Z22)))))):EK R s0 x3 Z22:=M.of h ok rfl
def zt (h:AK (x3+1)/\TL R s0 (x3+1) x4 x5 x6 Z22):Ia R s0 x3 x4 x5 x6 Z22:=M.of h ok rfl
def QP (h:Br (x4=0) (EK R s0 x3 Z22) (Br (x3=(s0.size:Int)) (R (.B false) Z22) (∃A:UInt8,0<=x3/\(ByteArray.data s0)[x3.toNat]?=some A/\Br (((A.toNat:Int):Int)<x5) (R (.B false) Z22) (∃G:UInt8,0<=x3/\(ByteArray.data s0)[x3.toNat]?=some G/\Br (x6<(G.toNat:Int)) (R (.B false) Z22) (AK (x4-1)/\AK (x3+1)/\TL R s0 (x3+1) (x4-1) 128 191 Z22))))):TL R s0 x3 x4 x5 x6 Z22:=M.of h ok rfl
end BC
namespace BW
variable {p0 p1 Pz:Option Addr}{n0 c0 n1 c1 n11 P0:Nat}{v2:Value}{CR JU:Int}
def M:Fw:=⟨prog,133,f133,[],[8,9],false,[],[],[(104,[(0,wL),(1,wL),(2,wV),(11,wL),(12,wI),(13,wI)])]⟩
def ok:M.Ok:=⟨AN.nil,mixed,func133,by kernel_rfl⟩
def HA:=M.pt 0
def start (h:HA R p0 n0 c0 p1 n1 c1 v2 p0 n0 c0 (n0:Int) 0 Z22):Spec prog 133 #[.slice p0 n0 c0,.slice p1 n1 c1,v2] Z22 R:=M.F5 h ok [(0,.o (.L p0 n0 c0)),(1,.o (.L p1 n1 c1)),(2,.o (.V v2))] rfl rfl (by kernel_rfl)
def Bi (h:Br (JU<CR) (Pq Pz λsn o16=>In JU (n11:Int)/\∃zm AKz,Bm Z22 sn (o16+JU.toNat*2) [.string zm,.string AKz]/\∀b8:Nat,Br ((n1:Int)<=JU) (R (.returned (.I 1)) Z22) (Pq p1 λPT XS=>In JU (n1:Int)/\∃sW sX,Bm Z22 PT (XS+JU.toNat*2) [.string sW,.string sX]/\∀b9:Nat,∃(f29:Nat) (A G:Array Value),v2=.func (.func f29) A G/\Enters prog f29/\Spec prog f29 (A++#[.agg #[.string zm,.string AKz],.agg #[.string sW,.string sX]]++G) Z22 (BI R (CI .i64 λSa y=>Br (Sa≠0) (R (.returned (.I Sa)) y) (AK (JU+1)/\HA R p0 n0 c0 (aD PT XS) n1 c1 v2 (aD sn o16) n11 P0 CR (JU+1) y))))) (Br ((n0:Int)<(n1:Int)) (R (.returned (.I (-1))) Z22) (R (.returned (.I 0)) Z22))):HA R p0 n0 c0 p1 n1 c1 v2 Pz n11 P0 CR JU Z22:=M.of h ok rfl
end BW
namespace Hl
variable {b0 b1:Nat}
def M:Fw:=⟨prog,150,f150,[151],[],false,[(0,4,false)],[],[]⟩
def ok:M.Ok:=⟨.cons call151 (AN.nil),mixed,func150,by kernel_rfl⟩
def start (h:LS Z22 b0 0 λp2 n2 c2=>LQ Z22 b1 0 λq3=>AO 151 #[.pointer q3] Z22 R (CT λs4 y=>Kp [b0] Z22 y/\Al y λb5=>AH prog (HO 81 p2 n2 c2 b5) (Hp.set y b5 (.cells #[.string s4] 9 (0,0))) (CS λp6 n6 c6 A=>AH prog (Instr.storeAt 81 (.pointer (aD b0 0)) (.slice p6 n6 c6)) A (λ_ G=>R (.T #[]) G)))):Spec prog 150 #[(.pointer (aD b0 0)),(.pointer (aD b1 0))] Z22 R:=M.start h ok
end Hl
namespace He
variable {q0:Option Addr}
def M:Fw:=⟨prog,154,f154,[81,155],[],false,[],[],[]⟩
def ok:M.Ok:=⟨.cons call81 (.cons call155 (AN.nil)),mixed,func154,by kernel_rfl⟩
def start (h:Pq q0 λA G=>LS Z22 A G λJQ n10 IU=>LI .i64 Z22 A (G+1) λDY=>AO 81 #[.slice JQ n10 IU,.I DY] Z22 R (λz y=>∃sY Uc dC,z=(.tuple #[.U sY,.I Uc,.I dC])/\AO 155 #[(.bool (decide (dC=0)))] y R (λz AG=>z=(.tuple #[])/\AH prog (Instr.storeAt 3 (.pointer (aD A (G+1))) (.I Uc)) AG (λ_ AQ=>R (.returned (.U sY)) AQ)))):Spec prog 154 #[.pointer q0] Z22 R:=M.start h ok
end He
namespace Dp
variable {p0 q4 p6:Option Addr}{n0 c0 n6 c6:Nat}{x5 x7 x8a x8b x9a oX:Int}{t8c:Bool}
def M:Fw:=⟨prog,156,f156,[124,157,223,224,225],[8,9],false,[],[],[(3670012,[(0,wL),(4,wQ),(6,wL)]),(14332,[(0,wL),(4,wQ),(5,wI),(6,wL),(7,wI),(8,.X 283 [.I .i64,.I .i64,.B]),(9,.X 66 [.I .i64,.I .u64])])]⟩
def ok:M.Ok:=⟨.cons call124 (.cons call157 (.cons call223 (.cons call224 (.cons call225 (AN.nil))))),mixed,func156,by kernel_rfl⟩
def QO:=M.pt 0
def Pa:=M.pt 1
def start (h:AK (8*(n0:Int))/\Al Z22 λA=>AO 223 #[(.pointer (aD A 0)),.I 13] (Hp.set Z22 A (.cells #[.slice p0 n0 c0,(.I (8*(n0:Int))),.I 0,.bool false] 311 (0,0))) R (CI .u64 λEn y=>Df (IntKind.i64.wrap En) λIr=>∀b8:Nat,∀b9:Nat,Br (Ir=0) (QO R p0 n0 c0 (aD A 0) none 0 0 y) (AO 223 #[(.pointer (aD A 0)),.I 64] y R (CI .u64 λHv G=>Df (IntKind.i64.wrap Hv) λSa=>AO 223 #[(.pointer (aD A 0)),.I 64] G R (CI .u64 λLN AQ=>Pa R p0 n0 c0 (aD A 0) Ir none 0 0 0 0 0 false Sa LN AQ))))):Spec prog 156 #[.slice p0 n0 c0] Z22 R:=M.start h ok
def QQ (h:Pq q4 λA G=>LB Z22 A (G+3) λt68=>Bo t68 (R (.T #[.N,.I 52]) Z22) (AO 124 #[.slice p6 n6 c6] Z22 R (λz y=>∃jJ da jK Y5,z=(.tuple #[.slice jJ da jK,.I Y5])/\Br (Y5≠0) (R (.T #[.N,.I 52]) y) (AO 157 #[.slice jJ da jK,.slice p0 n0 c0] y R (CB λt79 AG=>Bn t79 (R (.T #[.N,.I 52]) AG) (R (.T #[.slice p6 n6 c6,.I 0]) AG)))))):QO R p0 n0 c0 q4 p6 n6 c6 Z22:=M.of h ok rfl
def Kc (h:Pq q4 λG Yy=>LB Z22 G (Yy+3) λt36=>Bo t36 (QO R p0 n0 c0 (aD G Yy) p6 n6 c6 Z22) (Al Z22 λUn=>AH prog (HO 61 p6 n6 c6 Un) (Hp.set Z22 Un (.cells #[.I x9a,.U oX] 66 (0,0))) (CS λp40 A c40 y=>Br ((A:Int)=x5) (QO R p0 n0 c0 (aD G Yy) p40 A c40 y) (AO 224 #[(.pointer (aD G Yy))] y R (CI .i64 λXP AG=>AK (x7+XP)/\AK (x9a+(x7+XP))/\AO 225 #[(.pointer (aD G Yy)),.agg #[.I x8a,.I x8b,.bool t8c]] AG R (λz AQ=>∃AK0 ACg ACh ACi,z=(.tuple #[.U AK0,.agg #[.I ACg,.I ACh,.bool ACi]])/\Df (Go.bits .xor .u64 oX AK0) λsS=>Pa R p0 n0 c0 (aD G Yy) x5 p40 A c40 (x7+XP) ACg ACh ACi ((x9a+(x7+XP))) sS AQ)))))):Pa R p0 n0 c0 q4 x5 p6 n6 c6 x7 x8a x8b t8c x9a oX Z22:=M.of2 h ok rfl λ_ _=>by kernel_rfl
end Dp
namespace Ns
variable {P2 Uk:Int}{p0c:Option Addr}{n0c c0c b1:Nat}
def M:Fw:=⟨prog,171,f171,[],[2],false,[],[],[]⟩
def ok:M.Ok:=⟨AN.nil,mixed,func171,by kernel_rfl⟩
def start (h:∀b2:Nat,LI .i64 Z22 b1 0 λx6=>R (.returned (.bool (decide (P2=x6)))) Z22):Spec prog 171 #[.agg #[.I P2,.I Uk,.slice p0c n0c c0c],(.pointer (aD b1 0))] Z22 R:=M.start h ok
end Ns
namespace FV
variable {p0:Option Addr}{n0 c0:Nat}{x3:Int}
def M:Fw:=⟨prog,173,f173,[],[],false,[(4,10,true)],[],[(208,[(0,wL),(3,wI)])]⟩
def ok:M.Ok:=⟨AN.nil,mixed,func173,by kernel_rfl⟩
def HT:=M.pt 0
def start (h:HT R p0 n0 c0 1 Z22):Spec prog 173 #[.slice p0 n0 c0] Z22 R:=M.start h ok
def CJ (h:Br (x3<(n0:Int)) (Pq p0 λA G=>In x3 (n0:Int)/\LI .u32 Z22 A (G+x3.toNat*1) λJU=>AK (x3-1)/\In (x3-1) (n0:Int)/\LI .u32 Z22 A (G+Int.toNat (x3-1)*1) λTI=>Br (JU<=TI) (R (.B false) Z22) (AK (x3+1)/\HT R (aD A G) n0 c0 (x3+1) Z22)) (R (.B true) Z22)):HT R p0 n0 c0 x3 Z22:=M.of h ok rfl
end FV
namespace L9
variable {s0:ByteArray}{x1:Int}
def M:Fw:=⟨prog,184,f184,[235],[],false,[],[],[]⟩
def ok:M.Ok:=⟨.cons call235 (AN.nil),mixed,func184,by kernel_rfl⟩
def start (h:AK (x1-(s0.size:Int))/\AO 235 #[(.string (ByteArray.mk #[48])),(.I (if((x1-(s0.size:Int)):Int)<0 then 0 else(x1-(s0.size:Int))))] Z22 R (CT λdW y=>(ByteArray.size dW+ByteArray.size s0<=9223372036854775807)/\R (.returned (.string (dW++s0))) y)):Spec prog 184 #[.string s0,.I x1] Z22 R:=M.start h ok
end L9
namespace Jp
variable {p0 p5:Option Addr}{n0 c0 n5 c5:Nat}{x6 x7:Int}
def M:Fw:=⟨prog,195,f195,[],[4],false,[(4,23,true)],[],[(104,[(0,wL),(5,wL),(6,wI),(7,wI)])]⟩
def ok:M.Ok:=⟨AN.nil,mixed,func195,by kernel_rfl⟩
def HA:=M.pt 0
def start (h:HA R p0 n0 c0 p0 n0 c0 (n0:Int) 0 Z22):Spec prog 195 #[.slice p0 n0 c0] Z22 R:=M.start h ok
def Bi (h:Br (x7<x6) (Pq p5 λIV Ml=>In x7 (n5:Int)/\∃A G,Bm Z22 IV (Ml+x7.toNat*2) [.I A,.U G]/\∀b4:Nat,Br (A<(-1099511627776)) (R (.B false) Z22) (Br (1099511627776<A) (R (.B false) Z22) (Br (0<x7) (AK (x7-1)/\Pq p0 λiz xq=>In (x7-1) (n0:Int)/\LI .i64 Z22 iz (xq+Int.toNat (x7-1)*2) λLN=>Br (A<=LN) (R (.B false) Z22) (AK (x7+1)/\HA R (aD iz xq) n0 c0 (aD IV Ml) n5 c5 x6 (x7+1) Z22)) (AK (x7+1)/\HA R p0 n0 c0 (aD IV Ml) n5 c5 x6 (x7+1) Z22)))) (R (.B true) Z22)):HA R p0 n0 c0 p5 n5 c5 x6 x7 Z22:=M.of h ok rfl
end Jp
namespace Er
variable {q0:Option Addr}{x1 x2:Int}
def M:Fw:=⟨prog,196,f196,[],[],false,[(4,25,true)],[],[(94,[(0,wQ),(1,wU),(2,wI)])]⟩
def ok:M.Ok:=⟨AN.nil,mixed,func196,by kernel_rfl⟩
def Ep:=M.pt 0
def start (h:Br (x2=0) (R (.T #[]) Z22) (AK (x2-1)/\Pq q0 λG A=>LI .i64 Z22 G (A+1) λJU=>8≠(0:Int)/\Df (Int.tmod JU 8) λDY=>Br (DY=0) (LS Z22 G A λIA n20 c20=>Al Z22 λF9=>AH prog (HO 79 IA n20 c20 F9) (Hp.set Z22 F9 (.cells #[.int .u8 0] 5 (0,0))) (CS λoY n22 oZ y=>AH prog (Instr.storeAt 79 (.pointer (aD G A)) (.slice oY n22 oZ)) y (λ_ AG=>Ep R (aD G A) x1 (x2-1) AG))) (Ep R (aD G A) x1 (x2-1) Z22))):Spec prog 196 #[.pointer q0,.U x1,.I x2] Z22 R:=M.start h ok
def FQ (h:Pq q0 λA G=>LS Z22 A G λP3 n28 c28=>LI .i64 Z22 A (G+1) λTl=>8≠(0:Int)/\Df (IntKind.i64.wrap (Int.tdiv Tl 8)) λIE=>Pq P3 λXU Yy=>In IE (n28:Int)/\LI .u8 Z22 XU (Yy+IE.toNat*1) λxl=>(0<=x2/\x2<=((IntKind.bits .u64:Nat):Int))/\Df (x1/2^x2.toNat) λJR=>Df (Go.bits .and .u64 JR 1) λNG=>Df (IntKind.u8.wrap NG) λKz=>LI .i64 Z22 A (G+1) λsM=>8≠(0:Int)/\Df (Int.tmod sM 8) λXX=>AK (7-XX)/\((0:Int)<=(7-XX)/\(7-XX)<=((IntKind.bits .u8:Nat):Int))/\Df (IntKind.u8.wrap (Kz*2^Int.toNat (7-XX))) λXP=>Df (Go.bits .or .u8 xl XP) λLj=>In IE (n28:Int)/\AH prog (Instr.storeAt 5 (.pointer (aD XU (Yy+IE.toNat*1))) (.int .u8 Lj)) Z22 (λ_ y=>LI .i64 y A (G+1) λJH=>AK (JH+1)/\AH prog (Instr.storeAt 3 (.pointer (aD A (G+1))) (.I (JH+1))) y (λ_ AG=>Br (x2=0) (R (.T #[]) AG) (AK (x2-1)/\LI .i64 AG A (G+1) λJU=>8≠(0:Int)/\Df (Int.tmod JU 8) λDY=>Br (DY=0) (LS AG A G λIA n20 c20=>Al AG λF9=>AH prog (HO 79 IA n20 c20 F9) (Hp.set AG F9 (.cells #[.int .u8 0] 5 (0,0))) (CS λoY n22 oZ AQ=>AH prog (Instr.storeAt 79 (.pointer (aD A G)) (.slice oY n22 oZ)) AQ (λ_ A5=>Ep R (aD A G) x1 (x2-1) A5))) (Ep R (aD A G) x1 (x2-1) AG))))):Ep R q0 x1 x2 Z22:=M.of h ok rfl
end Er
namespace Si
variable {x0:Int}
def M:Fw:=⟨prog,197,f197,[],[],false,[],[],[]⟩
def ok:M.Ok:=⟨AN.nil,mixed,func197,by kernel_rfl⟩
def start (h:Br (x0=0) (R (.T #[.U 0,.I 1,.I 0]) Z22) (Br (((-64):Int)<=x0) (Br (x0<=63) (R (.T #[.U 2,.I 2,.I 7]) Z22) (Br (((-256):Int)<=x0) (Br (x0<=255) (R (.T #[.U 6,.I 3,.I 9]) Z22) (Br (((-2048):Int)<=x0) (Br (x0<=2047) (R (.T #[.U 14,.I 4,.I 12]) Z22) (R (.T #[.U 15,.I 4,.I 64]) Z22)) (R (.T #[.U 15,.I 4,.I 64]) Z22))) (Br (((-2048):Int)<=x0) (Br (x0<=2047) (R (.T #[.U 14,.I 4,.I 12]) Z22) (R (.T #[.U 15,.I 4,.I 64]) Z22)) (R (.T #[.U 15,.I 4,.I 64]) Z22)))) (Br (((-256):Int)<=x0) (Br (x0<=255) (R (.T #[.U 6,.I 3,.I 9]) Z22) (Br (((-2048):Int)<=x0) (Br (x0<=2047) (R (.T #[.U 14,.I 4,.I 12]) Z22) (R (.T #[.U 15,.I 4,.I 64]) Z22)) (R (.T #[.U 15,.I 4,.I 64]) Z22))) (Br (((-2048):Int)<=x0) (Br (x0<=2047) (R (.T #[.U 14,.I 4,.I 12]) Z22) (R (.T #[.U 15,.I 4,.I 64]) Z22)) (R (.T #[.U 15,.I 4,.I 64]) Z22))))):Spec prog 197 #[.I x0] Z22 R:=M.start h ok
end Si
namespace DS
variable {q0:Option Addr}{x1 x6:Int}
def M:Fw:=⟨prog,261,f261,[292],[],false,[(7,24,true)],[],[(220,[(0,wQ),(1,wI),(6,wU)])]⟩
def ok:M.Ok:=⟨.cons call292 (AN.nil),mixed,func261,by kernel_rfl⟩
def BM:=M.pt 0
def start (h:AO 292 #[.pointer q0] Z22 R (CI .i64 λx8 y=>Br (x8<x1) (R (.T #[.U 0,.bool false]) y) (BM R q0 x1 0 y))):Spec prog 261 #[.pointer q0,.I x1] Z22 R:=M.start h ok
def Bg (h:Br (x1=0) (R (.T #[.U x6,.bool true]) Z22) (AK (x1-1)/\((0:Int)<=1/\1<=((IntKind.bits .u64:Nat):Int))/\Df (IntKind.u64.wrap (x6*2^Int.toNat 1)) λC3=>Pq q0 λA G=>LS Z22 A G λp21 n21 c21=>LI .i64 Z22 A (G+2) λUe=>8≠(0:Int)/\Df (IntKind.i64.wrap (Int.tdiv Ue 8)) λJj=>Pq p21 λPU o27=>In Jj (n21:Int)/\LI .u8 Z22 PU (o27+Jj.toNat*1) λHv=>LI .i64 Z22 A (G+2) λTl=>8≠(0:Int)/\Df (Int.tmod Tl 8) λIE=>AK (7-IE)/\((0:Int)<=(7-IE)/\(7-IE)<=((IntKind.bits .u8:Nat):Int))/\Df (Hv/2^Int.toNat (7-IE)) λxl=>Df (Go.bits .and .u8 xl 1) λgF=>Df (IntKind.u64.wrap gF) λYn=>Df (Go.bits .or .u64 C3 Yn) λJR=>LI .i64 Z22 A (G+2) λx42=>AK (x42+1)/\AH prog (Instr.storeAt 3 (.pointer (aD A (G+2))) (.I (x42+1))) Z22 (λ_ y=>BM R (aD A G) (x1-1) JR y))):BM R q0 x1 x6 Z22:=M.of h ok rfl
end DS
end TwW
end
end
section
set_option maxRecDepth 100000
noncomputable section
namespace TwW
open Go Tw Go.Proofs.Tryz
variable [I9]{R:Rr}{Z22:Hp}

namespace A6
variable {x0 x2 zU V9 sM XX WA Uo NF:Int}{q1 p3b gM IY p43 Jg:Option Addr}{n3b c3b gO gP n43 c43 Iq JS:Nat}{Re:Value}{s17 dG:ByteArray}{t20:Bool}
def M:Fw:=⟨prog,8,f8,[11,25,26,27,28,29,30,31,32],[7],false,[(22,14,false)],[(110,76)],[(1000,[(1,wQ),(7,.X 26 [.I .u64,.L]),(13,wQ),(43,wL),(44,wI),(45,wI)]),(2024,[(1,wQ),(7,.X 26 [.I .u64,.L]),(13,wQ),(55,wL),(56,wI),(57,wI)]),(4072,[(7,.X 26 [.I .u64,.L]),(13,wQ),(110,wV)]),(259278,[(1,wQ),(7,.X 26 [.I .u64,.L]),(13,wQ),(17,wT),(18,wT),(19,wU),(20,wB),(55,wL),(56,wI),(57,wI)]),(8103,[(1,wQ),(7,.X 26 [.I .u64,.L]),(13,wQ),(55,wL),(56,wI),(57,wI)])]⟩
def ok:M.Ok:=⟨.cons call11 (.cons call25 (.cons call26 (.cons call27 (.cons call28 (.cons call29 (.cons call30 (.cons call31 (.cons call32 (AN.nil))))))))),mixed,func8,by kernel_rfl⟩
def H8:=M.pt 0
def GA:=M.pt 1
def od:=M.pt 2
def AFG:=M.pt 3
def zv:=M.pt 4
def start (h:∀b7:Nat,AO 25 #[.pointer q1,(.string (ByteArray.mk #[119]))] Z22 R (λz y=>∃AK1 AK2 A AK3 G,z=(.tuple #[.pointer AK1,.slice AK2 A AK3,.I G])/\Br (G≠0) (R (.T #[.pointer none,.I G]) y) (AH prog (Instr.makeMap 75 none) y (λz AG=>∃m39,z=(.map (some m39))/\AH prog (Instr.makeMap 76 none) AG (λz AQ=>∃m40,z=(.map (some m40))/\Al AQ λgH=>H8 R q1 zU p3b n3b c3b (aD gH 0) AK2 A AK3 (A:Int) 0 (Hp.set AQ gH (.cells #[.pointer AK1,.I x0,.pointer q1,.I x2,.U 0,.bool false,(.map (some m39)),(.map (some m40))] 78 (0,0)))))))):Spec prog 8 #[.I x0,.pointer q1,.I x2,.agg #[.U zU,.slice p3b n3b c3b]] Z22 R:=M.start h ok
def G0 (h:Br (XX<sM) (Pq p43 λdD gD=>In XX (n43:Int)/\LS Z22 dD (gD+XX.toNat*1) λp48 G A=>AO 26 #[.pointer IY,.slice p48 G A] Z22 R (CB λt51 y=>Bn t51 (R (.T #[.pointer none,.I 71]) y) (AK (XX+1)/\H8 R q1 V9 gM gO gP IY (aD dD gD) n43 c43 sM (XX+1) y))) (AO 27 #[.pointer q1,(.string (ByteArray.mk #[98,47]))] Z22 R (CS λJg Iq JS y=>GA R q1 V9 gM gO gP IY Jg Iq JS (Iq:Int) 0 y))):H8 R q1 V9 gM gO gP IY p43 n43 c43 sM XX Z22:=M.gB h ok rfl λ_=>by kernel_rfl
def FP (h:Br (Uo<WA) (Pq Jg λMj RG=>In Uo (Iq:Int)/\LT Z22 Mj (RG+Uo.toNat*1) λA=>AO 28 #[.string A] Z22 R (λz y=>∃G oM AK4,z=(.tuple #[.string G,.U oM,.bool AK4])/\Bo AK4 (AO 29 #[.pointer q1,.string A] y R (λz AG=>∃jJ da jK Y5,z=(.tuple #[.slice jJ da jK,.I Y5])/\Br (Y5≠0) (R (.T #[.pointer none,.I Y5]) AG) (AO 30 #[.slice jJ da jK] AG R (λz AQ=>∃ARi ARj ARk AK5,z=(.tuple #[.slice ARi ARj ARk,.I AK5])/\AFG R q1 V9 gM gO gP IY A G oM ((decide (AK5=0))) (aD Mj RG) Iq JS WA Uo AQ)))) (AFG R q1 V9 gM gO gP IY A G oM false (aD Mj RG) Iq JS WA Uo y))) (Pq IY λtV tW=>LM Z22 tV (tW+7) λAFK=>AH prog (Instr.range 76 (.map AFK)) Z22 (λz y=>∃Re,Re=z/\od R V9 gM gO gP (aD tV tW) Re y))):GA R q1 V9 gM gO gP IY Jg Iq JS WA Uo Z22:=M.gB h ok rfl λ_=>by kernel_rfl
def lY (h:AH prog (Instr.next Re false 0) Z22 (λv y=>(v=(.tuple #[.bool false])/\AO 11 #[.pointer IY,.agg #[.U V9,.slice gM gO gP]] y R (λz AG=>z=(.tuple #[])/\R (.T #[.pointer IY,.I 0]) AG))\/(∃AK6 AK7 AK8 AK9,v=(.tuple #[.bool true,.string AK6,.slice AK7 AK8 AK9])/\AH prog (Instr.entry Re) y (λz AG=>∃ALA A G ACl,z=(.tuple #[.string ALA,.slice A G ACl])/\AO 32 #[.slice A G ACl] AG R (λz AQ=>z=(.tuple #[])/\od R V9 gM gO gP IY Re AQ))))):od R V9 gM gO gP IY Re Z22:=M.gB h ok rfl λ_=>by kernel_rfl
def zw (h:Bo t20 (Pq IY λG A=>LM Z22 G (A+7) λm88=>LM Z22 G (A+7) λm93=>(AH prog (Instr.lookup 76 (.map m93) (.string dG) false) Z22 (CS λp95 n95 c95 y=>Kp [G] Z22 y/\Al y λjP=>AH prog (HO 88 p95 n95 c95 jP) (Hp.set y jP (.cells #[.U NF] 23 (0,0))) (CS λp98 n98 c98 AG=>Kp [G] (Hp.set y jP (.cells #[.U NF] 23 (0,0))) AG/\AH prog (Instr.mapUpdate 76 (.map m88) (.string dG) (.slice p98 n98 c98)) AG (λ_ AQ=>zv R q1 V9 gM gO gP (aD G A) Jg Iq JS WA Uo AQ))))/\(Al Z22 λjP=>AH prog (Instr.lookup 76 (.map m93) (.string dG) false) (Hp.set Z22 jP (.cells #[.U NF] 23 (0,0))) (CS λp95 n95 c95 y=>Kp [G] (Hp.set Z22 jP (.cells #[.U NF] 23 (0,0))) y/\AH prog (HO 88 p95 n95 c95 jP) y (CS λp98 n98 c98 AG=>Kp [G] y AG/\AH prog (Instr.mapUpdate 76 (.map m88) (.string dG) (.slice p98 n98 c98)) AG (λ_ AQ=>zv R q1 V9 gM gO gP (aD G A) Jg Iq JS WA Uo AQ))))) (AO 31 #[.pointer q1,.string s17] Z22 R (CI .i64 λYx y=>Br (Yx≠0) (R (.T #[.pointer none,.I Yx]) y) (zv R q1 V9 gM gO gP IY Jg Iq JS WA Uo y)))):AFG R q1 V9 gM gO gP IY s17 dG NF t20 Jg Iq JS WA Uo Z22:=M.gB h ok rfl λ_=>by kernel_rfl
def zx (h:AK (Uo+1)/\GA R q1 V9 gM gO gP IY Jg Iq JS WA (Uo+1) Z22):zv R q1 V9 gM gO gP IY Jg Iq JS WA Uo Z22:=M.gB h ok rfl λ_=>by kernel_rfl
end A6
namespace BS
variable {q0 IY JQ:Option Addr}{s1:ByteArray}{x2 x3 CR:Int}{n10 IU:Nat}
def M:Fw:=⟨prog,17,f17,[16,32,51,52,55,56,57,58,59,60,61,62],[],false,[(17,14,false)],[],[(1835006,[]),(114686,[(0,wQ),(12,wI),(13,wQ)]),(7166,[(0,wQ),(1,wT),(3,wU),(12,wI),(13,wQ)]),(57340,[(0,wQ),(1,wT),(3,wU),(10,wL),(12,wI),(13,wQ)]),(458741,[(0,wQ),(1,wT),(12,wI),(13,wQ)])]⟩
def ok:M.Ok:=⟨.cons call16 (.cons call32 (.cons call51 (.cons call52 (.cons call55 (.cons call56 (.cons call57 (.cons call58 (.cons call59 (.cons call60 (.cons call61 (.cons call62 (AN.nil)))))))))))),mixed,func17,by kernel_rfl⟩
def ALB:=M.pt 0
def AFL:=M.pt 1
def jM:=M.pt 2
def ALC:=M.pt 3
def QO:=M.pt 4
def start (h:Pq q0 λPS bH=>LQ Z22 PS (bH+2) λq20=>AO 16 #[.pointer q20] Z22 R (CB λt21 y=>Bn t21 (R (.T #[.bool false,.I 230]) y) (LM y PS (bH+6) λm26=>AH prog (Instr.lookup 75 (.map m26) (.string s1) false) y (CQ λzS AG=>Bo (Option.isNone zS) (R (.T #[.bool false,.I 0]) AG) (AO 55 #[.pointer zS] AG R (λz AQ=>∃A ARo G,z=(.tuple #[.I A,.I ARo,.bool G])/\Bn G (R (.T #[.bool false,.I 0]) AQ) (AO 56 #[.I x2] AQ R (CI .i64 λx42 A5=>Br (x42<=A) (R (.T #[.bool false,.I 0]) A5) (AO 56 #[.I A] A5 R (CI .i64 λx46 Cn=>jM R (aD PS bH) s1 x3 x46 zS Cn)))))))))):Spec prog 17 #[.pointer q0,.string s1,.I x2,.U x3] Z22 R:=M.start h ok
def Tm (h:AK (CR+7200)/\AK ((CR+7200)-1)/\AO 51 #[.pointer IY,.N,.I CR,(.I ((CR+7200)-1))] Z22 R (CS λqg n52 qh y=>AO 57 #[.slice qg n52 qh] y R (λz AG=>∃A G ALG ARp,z=(.tuple #[.slice A G ALG,.I ARp])/\ALC R q0 s1 x3 A G ALG CR IY AG))):jM R q0 s1 x3 CR IY Z22:=M.of h ok rfl
def zy (h:Pq q0 λA RG=>LQ Z22 A (RG+2) λq61=>AO 52 #[.string s1,.U x3] Z22 R (CT λs64 y=>Kp [A] Z22 y/\AO 58 #[.pointer q61,.string s64,.slice JQ n10 IU] y R (CB λt66 AG=>Bn t66 (ALB R AG) (LM AG A (RG+7) λm71=>AH prog (Instr.lookup 76 (.map m71) (.string s1) false) AG (CS λp73 n73 c73 AQ=>AO 59 #[.slice p73 n73 c73,.U x3] AQ R (CB λt75 G=>Bn t75 (LM G A (RG+7) λm80=>LM G A (RG+7) λm85=>(AH prog (Instr.lookup 76 (.map m85) (.string s1) false) G (CS λp87 n87 c87 Cn=>Kp [A] G Cn/\Al Cn λdf=>AH prog (HO 88 p87 n87 c87 df) (Hp.set Cn df (.cells #[.U x3] 23 (0,0))) (CS λzz z6 z7 EU=>Kp [A] (Hp.set Cn df (.cells #[.U x3] 23 (0,0))) EU/\AH prog (Instr.mapUpdate 76 (.map m80) (.string s1) (.slice zz z6 z7)) EU (λ_ QI=>QO R (aD A RG) s1 CR IY QI))))/\(Al G λdf=>AH prog (Instr.lookup 76 (.map m85) (.string s1) false) (Hp.set G df (.cells #[.U x3] 23 (0,0))) (CS λp87 n87 c87 Cn=>Kp [A] (Hp.set G df (.cells #[.U x3] 23 (0,0))) Cn/\AH prog (HO 88 p87 n87 c87 df) Cn (CS λzz z6 z7 EU=>Kp [A] Cn EU/\AH prog (Instr.mapUpdate 76 (.map m80) (.string s1) (.slice zz z6 z7)) EU (λ_ QI=>QO R (aD A RG) s1 CR IY QI))))) (AFL R (aD A RG) CR IY G))))))):ALC R q0 s1 x3 JQ n10 IU CR IY Z22:=M.of h ok rfl
def z8 (h:AK (CR+7200)/\AO 60 #[.pointer IY,(.I (CR+7200))] Z22 R (CS λAaG n101 AaH y=>Pq q0 λoP sx=>LQ y oP sx λARt=>AO 62 #[(.pointer (aD oP sx))] y R (CS λARu G A AG=>Kp [oP] y AG/\AO 61 #[.pointer ARt,.slice ARu G A] AG R (CI .i64 λARv AQ=>Br (ARv≠0) (ALB R AQ) (R (.T #[.bool true,.I 0]) AQ))))):AFL R q0 CR IY Z22:=M.of h ok rfl
def QQ (h:Pq q0 λze A=>LM Z22 ze (A+7) λm94=>AH prog (Instr.lookup 76 (.map m94) (.string s1) false) Z22 (CS λp96 n96 G y=>AO 32 #[.slice p96 n96 G] y R (λz AG=>z=(.tuple #[])/\AFL R (aD ze A) CR IY AG))):QO R q0 s1 CR IY Z22:=M.of h ok rfl
end BS
namespace dh
variable {q0:Option Addr}{s1:ByteArray}
def M:Fw:=⟨prog,25,f25,[16,71,72],[],false,[(10,5,true)],[],[]⟩
def ok:M.Ok:=⟨.cons call16 (.cons call71 (.cons call72 (AN.nil))),mixed,func25,by kernel_rfl⟩
def start (h:Al Z22 λb2=>Al (Hp.set Z22 b2 (.cells #[.pointer q0] 36 (0,0))) λb3=>LT (Hp.set (Hp.set Z22 b2 (.cells #[.pointer q0] 36 (0,0))) b3 (.cells #[.string s1] 9 (0,0))) b3 0 λdW=>Br ((32:Int)<(dW.size:Int)) (R (.T #[.pointer none,.N,.I 71]) (Hp.set (Hp.set Z22 b2 (.cells #[.pointer q0] 36 (0,0))) b3 (.cells #[.string s1] 9 (0,0)))) (LT (Hp.set (Hp.set Z22 b2 (.cells #[.pointer q0] 36 (0,0))) b3 (.cells #[.string s1] 9 (0,0))) b3 0 λy5=>AO 71 #[.string y5] (Hp.set (Hp.set Z22 b2 (.cells #[.pointer q0] 36 (0,0))) b3 (.cells #[.string s1] 9 (0,0))) R (CB λt15 y=>Bn t15 (R (.T #[.pointer none,.N,.I 71]) y) (LQ y b2 0 λq18=>AO 16 #[.pointer q18] y R (CB λt19 A=>Bn t19 (R (.T #[.pointer none,.N,.I 60]) A) (LQ A b2 0 λG=>LT A b3 0 λs22=>Al A λPT=>Al (Hp.set A PT (.cells #[.pointer G,.string s22,.I 0,.N,.I 0,.I 0] 136 (0,0))) λb7=>AH prog (Instr.storeAt 71 (.pointer (aD b7 0)) (.pointer (aD PT 0))) (Hp.set (Hp.set A PT (.cells #[.pointer G,.string s22,.I 0,.N,.I 0,.I 0] 136 (0,0))) b7 (.cells #[.pointer none] 71 (0,0))) (λ_ AQ=>Al AQ λb8=>AO 72 #[(.func (.func 73) #[] #[(.pointer (aD b7 0)),(.pointer (aD b2 0)),(.pointer (aD b3 0)),(.pointer (aD b8 0))])] (Hp.set AQ b8 (.cells #[.N] 72 (0,0))) R (CI .i64 λJj A5=>Br (Jj≠0) (R (.T #[.pointer none,.N,.I Jj]) A5) (LQ A5 b7 0 λq30=>LS A5 b8 0 λp31 n31 c31=>R (.T #[.pointer q30,.slice p31 n31 c31,.I 0]) A5))))))))):Spec prog 25 #[.pointer q0,.string s1] Z22 R:=M.start h ok
end dh
namespace Ae
variable {q0 p1 p9 IA sy Fe Mg:Option Addr}{n1 c1 n9 c9 n20 c20 n13 FO n36 NZ:Nat}{x2 x3 En Ir Yn JR:Int}
def M:Fw:=⟨prog,51,f51,[112,113],[15],false,[],[],[(232,[(0,wQ),(2,wI),(3,wI),(9,wL),(20,wL),(21,wI),(22,wI)]),(478440,[(0,wQ),(2,wI),(3,wI),(9,wL),(12,wQ),(13,wL),(20,wL),(21,wI),(22,wI),(36,wL),(37,wI),(38,wI)]),(935,[(0,wQ),(2,wI),(3,wI),(9,wL),(20,wL),(21,wI),(22,wI)]),(1913767,[(0,wQ),(2,wI),(3,wI),(9,wL),(12,wQ),(13,wL),(20,wL),(21,wI),(22,wI),(36,wL),(37,wI),(38,wI)])]⟩
def ok:M.Ok:=⟨.cons call112 (.cons call113 (AN.nil)),mixed,func51,by kernel_rfl⟩
def A3:=M.pt 0
def TH:=M.pt 1
def E2:=M.pt 2
def GA:=M.pt 3
def start (h:Pq q0 λA G=>AO 112 #[(.pointer (aD A G)),.slice p1 n1 c1] Z22 R (CS λIA n20 c20 y=>A3 R (aD A G) x2 x3 none 0 0 IA n20 c20 (n20:Int) 0 y)):Spec prog 51 #[.pointer q0,.slice p1 n1 c1,.I x2,.I x3] Z22 R:=M.start h ok
def AY (h:Br (Ir<En) (Pq IA λPT XS=>In Ir (n20:Int)/\LT Z22 PT (XS+Ir.toNat*1) λs25=>Pq q0 λPU A=>LM Z22 PU A λm30=>AH prog (Instr.lookup 170 (.map m30) (.string s25) false) Z22 (CQ λq32 y=>Pq q32 λXU Yy=>LS y XU (Yy+1) λMg n36 NZ=>TH R (aD PU A) x2 x3 p9 n9 c9 (aD XU Yy) none 0 0 (aD PT XS) n20 c20 En Ir Mg n36 NZ (n36:Int) 0 y)) (AO 113 #[.slice p9 n9 c9] Z22 R (CS λp73 n73 G y=>R (.returned (.slice p73 n73 G)) y))):A3 R q0 x2 x3 p9 n9 c9 IA n20 c20 En Ir Z22:=M.of h ok rfl
def Tg (h:Br (JR<Yn) (Pq Mg λYm bG=>In JR (n36:Int)/\∃A ALH,Bm Z22 Ym (bG+JR.toNat*2) [.I A,.U ALH]/\∀XO:Nat,Br (x2<=A) (Br (A<=x3) (Al Z22 λb54=>AH prog (HO 61 Fe n13 FO b54) (Hp.set Z22 b54 (.cells #[.I A,.U ALH] 66 (0,0))) (CS λJg Iq JS y=>GA R q0 x2 x3 p9 n9 c9 sy Jg Iq JS IA n20 c20 En Ir (aD Ym bG) n36 NZ Yn JR y)) (GA R q0 x2 x3 p9 n9 c9 sy Fe n13 FO IA n20 c20 En Ir (aD Ym bG) n36 NZ Yn JR Z22)) (GA R q0 x2 x3 p9 n9 c9 sy Fe n13 FO IA n20 c20 En Ir (aD Ym bG) n36 NZ Yn JR Z22)) (Br (0<(n13:Int)) (Al Z22 λG=>Pq sy λb63 o63=>LS (Hp.set Z22 G (.cells #[] 95 (0,0))) b63 o63 λxu tK xv=>AH prog (Builtin.append_ #[51,51] 51 #[(.slice (aD G 0) 0 0),.slice xu tK xv]) (Hp.set Z22 G (.cells #[] 95 (0,0))) (CS λp66 xt c66 y=>Al y λxw=>AH prog (HO 44 p9 n9 c9 xw) (Hp.set y xw (.cells #[.slice p66 xt c66,.slice Fe n13 FO] 63 (0,0))) (CS λp70 n70 c70 AG=>E2 R q0 x2 x3 p70 n70 c70 IA n20 c20 En Ir AG))) (E2 R q0 x2 x3 p9 n9 c9 IA n20 c20 En Ir Z22))):TH R q0 x2 x3 p9 n9 c9 sy Fe n13 FO IA n20 c20 En Ir Mg n36 NZ Yn JR Z22:=M.of h ok rfl
def Qb (h:AK (Ir+1)/\A3 R q0 x2 x3 p9 n9 c9 IA n20 c20 En (Ir+1) Z22):E2 R q0 x2 x3 p9 n9 c9 IA n20 c20 En Ir Z22:=M.of h ok rfl
def FP (h:AK (JR+1)/\TH R q0 x2 x3 p9 n9 c9 sy Fe n13 FO IA n20 c20 En Ir Mg n36 NZ Yn (JR+1) Z22):GA R q0 x2 x3 p9 n9 c9 sy Fe n13 FO IA n20 c20 En Ir Mg n36 NZ Yn JR Z22:=M.of h ok rfl
end Ae
namespace Qd
variable {q0 p2:Option Addr}{s1:ByteArray}{n2 c2:Nat}
def M:Fw:=⟨prog,58,f58,[31,109,110],[],false,[],[],[]⟩
def ok:M.Ok:=⟨.cons call31 (.cons call109 (.cons call110 (AN.nil))),mixed,func58,by kernel_rfl⟩
def start (h:AO 31 #[.pointer q0,.string s1] Z22 R (CI .i64 λFE y=>Br (FE≠0) (Br (FE≠62) (R (.B false) y) (AO 110 #[.pointer q0,.string s1,.slice p2 n2 c2] y R (CI .i64 λQH A=>Br (QH=0) (AO 109 #[.pointer q0,.string s1] A R (CI .i64 λUe G=>R (.returned (.bool (decide (Ue=0)))) G)) (R (.B false) A)))) (AO 110 #[.pointer q0,.string s1,.slice p2 n2 c2] y R (CI .i64 λQH A=>Br (QH=0) (AO 109 #[.pointer q0,.string s1] A R (CI .i64 λUe G=>R (.returned (.bool (decide (Ue=0)))) G)) (R (.B false) A))))):Spec prog 58 #[.pointer q0,.string s1,.slice p2 n2 c2] Z22 R:=M.start h ok
end Qd
namespace Ao
variable {q0 p5 Fe q8:Option Addr}{x1 DY DA x9:Int}{n5 c5 n13 FO:Nat}{s7:ByteArray}
def M:Fw:=⟨prog,60,f60,[113,127,128],[],false,[],[],[(232,[(0,wQ),(1,wI),(5,wL),(13,wL),(14,wI),(15,wI)]),(478432,[(0,wQ),(1,wI),(5,wL),(7,wT),(8,wQ),(9,wI),(13,wL),(14,wI),(15,wI)]),(935,[(0,wQ),(1,wI),(5,wL),(13,wL),(14,wI),(15,wI)]),(119614,[(0,wQ),(1,wI),(5,wL),(7,wT),(8,wQ),(9,wI),(13,wL),(14,wI),(15,wI)]),(239230,[(0,wQ),(1,wI),(5,wL),(7,wT),(8,wQ),(9,wI),(13,wL),(14,wI),(15,wI)])]⟩
def ok:M.Ok:=⟨.cons call113 (.cons call127 (.cons call128 (AN.nil))),mixed,func60,by kernel_rfl⟩
def A3:=M.pt 0
def JI:=M.pt 1
def E2:=M.pt 2
def Ul:=M.pt 3
def GA:=M.pt 4
def start (h:Pq q0 λG A=>AO 127 #[(.pointer (aD G A)),.N] Z22 R (CS λFe n13 FO y=>A3 R (aD G A) x1 none 0 0 Fe n13 FO (n13:Int) 0 y)):Spec prog 60 #[.pointer q0,.I x1] Z22 R:=M.start h ok
def AY (h:Br (DA<DY) (Pq Fe λHj Th=>In DA (n13:Int)/\LT Z22 Hj (Th+DA.toNat*1) λdG=>Pq q0 λNn RH=>LM Z22 Nn RH λG=>AH prog (Instr.lookup 170 (.map G) (.string dG) false) Z22 (CQ λq25 y=>JI R (aD Nn RH) x1 p5 n5 c5 dG q25 0 (aD Hj Th) n13 FO DY DA y)) (AO 113 #[.slice p5 n5 c5] Z22 R (CS λp89 n89 A y=>R (.returned (.slice p89 n89 A)) y))):A3 R q0 x1 p5 n5 c5 Fe n13 FO DY DA Z22:=M.of h ok rfl
def G2 (h:Pq q8 λA G=>LS Z22 A (G+1) λsI n30 xd=>Br (x9<(n30:Int)) (LS Z22 A (G+1) λsJ n37 c37=>Pq sJ λUn o39=>In x9 (n37:Int)/\LI .i64 Z22 Un (o39+x9.toNat*2) λLy=>Br (Ly<x1) (AK (x9+1)/\JI R q0 x1 p5 n5 c5 s7 (aD A G) (x9+1) Fe n13 FO DY DA Z22) (Br (x9=0) (E2 R q0 x1 p5 n5 c5 Fe n13 FO DY DA Z22) (Ul R q0 x1 p5 n5 c5 s7 (aD A G) x9 Fe n13 FO DY DA Z22))) (Br (x9=0) (E2 R q0 x1 p5 n5 c5 Fe n13 FO DY DA Z22) (Ul R q0 x1 p5 n5 c5 s7 (aD A G) x9 Fe n13 FO DY DA Z22))):JI R q0 x1 p5 n5 c5 s7 q8 x9 Fe n13 FO DY DA Z22:=M.of h ok rfl
def Qb (h:AK (DA+1)/\A3 R q0 x1 p5 n5 c5 Fe n13 FO DY (DA+1) Z22):E2 R q0 x1 p5 n5 c5 Fe n13 FO DY DA Z22:=M.of h ok rfl
def Tk (h:Pq q8 λA o52=>LS Z22 A o52 λp54 xr zK=>LS Z22 A (o52+1) λyz n60 xY=>(0<=x9/\x9<=(xY:Int))/\(Al Z22 λG=>(AH prog (Builtin.append_ #[51,51] 51 #[(.slice (aD G 0) 0 0),.slice p54 xr zK]) (Hp.set Z22 G (.cells #[] 95 (0,0))) (CS λJg Iq JS y=>Kp [A] (Hp.set Z22 G (.cells #[] 95 (0,0))) y/\Al y λP4=>AH prog (Builtin.append_ #[61,61] 61 #[(.slice (aD P4 0) 0 0),(.slice yz (x9.toNat) xY)]) (Hp.set y P4 (.cells #[] 66 (0,0))) (CS λY0 Y3 Y4 AG=>Al AG λyC=>AH prog (HO 44 p5 n5 c5 yC) (Hp.set AG yC (.cells #[.slice Jg Iq JS,.slice Y0 Y3 Y4] 63 (0,0))) (CS λp66 xt c66 AQ=>GA R q0 x1 p66 xt c66 s7 (aD A o52) x9 Fe n13 FO DY DA AQ))))/\(Al (Hp.set Z22 G (.cells #[] 95 (0,0))) λP4=>AH prog (Builtin.append_ #[51,51] 51 #[(.slice (aD G 0) 0 0),.slice p54 xr zK]) (Hp.set (Hp.set Z22 G (.cells #[] 95 (0,0))) P4 (.cells #[] 66 (0,0))) (CS λJg Iq JS y=>Kp [A] (Hp.set (Hp.set Z22 G (.cells #[] 95 (0,0))) P4 (.cells #[] 66 (0,0))) y/\AH prog (Builtin.append_ #[61,61] 61 #[(.slice (aD P4 0) 0 0),(.slice yz (x9.toNat) xY)]) y (CS λY0 Y3 Y4 AG=>Al AG λyC=>AH prog (HO 44 p5 n5 c5 yC) (Hp.set AG yC (.cells #[.slice Jg Iq JS,.slice Y0 Y3 Y4] 63 (0,0))) (CS λp66 xt c66 AQ=>GA R q0 x1 p66 xt c66 s7 (aD A o52) x9 Fe n13 FO DY DA AQ)))))/\(Al Z22 λP4=>Al (Hp.set Z22 P4 (.cells #[] 66 (0,0))) λG=>AH prog (Builtin.append_ #[51,51] 51 #[(.slice (aD G 0) 0 0),.slice p54 xr zK]) (Hp.set (Hp.set Z22 P4 (.cells #[] 66 (0,0))) G (.cells #[] 95 (0,0))) (CS λJg Iq JS y=>Kp [A] (Hp.set (Hp.set Z22 P4 (.cells #[] 66 (0,0))) G (.cells #[] 95 (0,0))) y/\AH prog (Builtin.append_ #[61,61] 61 #[(.slice (aD P4 0) 0 0),(.slice yz (x9.toNat) xY)]) y (CS λY0 Y3 Y4 AG=>Al AG λyC=>AH prog (HO 44 p5 n5 c5 yC) (Hp.set AG yC (.cells #[.slice Jg Iq JS,.slice Y0 Y3 Y4] 63 (0,0))) (CS λp66 xt c66 AQ=>GA R q0 x1 p66 xt c66 s7 (aD A o52) x9 Fe n13 FO DY DA AQ))))):Ul R q0 x1 p5 n5 c5 s7 q8 x9 Fe n13 FO DY DA Z22:=M.of h ok rfl
def FP (h:Pq q8 λxw A=>LS Z22 xw (A+1) λp71 n71 c71=>(0<=x9/\x9<=(n71:Int))/\AH prog (Instr.storeAt 61 (.pointer (aD xw (A+1))) (.slice (ET p71 (x9.toNat) c71 2) (n71-x9.toNat) (c71-x9.toNat))) Z22 (λ_ y=>LS y xw (A+1) λp79 n79 c79=>Br ((n79:Int)=0) (Pq q0 λG o83=>AO 128 #[(.pointer (aD G o83)),.string s7] y R (λz AG=>z=(.tuple #[])/\E2 R (aD G o83) x1 p5 n5 c5 Fe n13 FO DY DA AG)) (E2 R q0 x1 p5 n5 c5 Fe n13 FO DY DA y))):GA R q0 x1 p5 n5 c5 s7 q8 x9 Fe n13 FO DY DA Z22:=M.of h ok rfl
end Ao
namespace EF
variable {q0 q5:Option Addr}{x1 x6:Int}{v11:Value}
def M:Fw:=⟨prog,63,f63,[],[],false,[(5,14,true),(6,14,true)],[(11,91)],[(40,[(0,wQ),(1,wI),(11,wV)]),(2670,[(0,wQ),(1,wI),(5,wQ),(6,wI),(11,wV)])]⟩
def ok:M.Ok:=⟨AN.nil,mixed,func63,by kernel_rfl⟩
def dU:=M.pt 0
def TJ:=M.pt 1
def start (h:Pq q0 λG o8=>LM Z22 G o8 λA=>AH prog (Instr.range 91 (.map A)) Z22 (λz y=>∃v11,v11=z/\dU R (aD G o8) x1 v11 y)):Spec prog 63 #[.pointer q0,.I x1] Z22 R:=M.start h ok
def Kb (h:AH prog (Instr.next v11 false 0) Z22 (λv y=>(v=(.tuple #[.bool false])/\Pq q0 λb55 o55=>AH prog (Instr.storeAt 4 (.pointer (aD b55 (o55+1))) (.bool false)) y (λ_ G=>AH prog (Instr.storeAt 4 (.pointer (aD b55 (o55+2))) (.bool false)) G (λ_ AQ=>R (.T #[]) AQ)))\/(∃ARy ARz,v=(.tuple #[.bool true,.string ARy,.pointer ARz])/\AH prog (Instr.entry v11) y (λz G=>∃dO sf,z=(.tuple #[.string dO,.pointer sf])/\Br (0<=x1) (Pq sf λNn RH=>LS G Nn RH λoY A oZ=>LI .i64 G Nn (RH+1) λLz=>AK ((A:Int)-Lz)/\AK (((A:Int)-Lz)+1)/\(((A:Int)-Lz)+1)≠(0:Int)/\Df (Int.tmod x1 (((A:Int)-Lz)+1)) λbI=>TJ R q0 x1 (aD Nn RH) bI v11 G) (TJ R q0 x1 sf 0 v11 G))))):dU R q0 x1 v11 Z22:=M.of h ok rfl
def Mi (h:Pq q5 λA G=>LS Z22 A G λy3 n35 xk=>LI .i64 Z22 A (G+1) λNG=>AK (NG+x6)/\((0:Int)<=(NG+x6)/\(NG+x6)<=(xk:Int))/\AH prog (Instr.storeAt 79 (.pointer (aD A G)) (.slice y3 (Int.toNat (NG+x6)) xk)) Z22 (λ_ y=>LS y A G λil n49 c49=>AH prog (Instr.storeAt 3 (.pointer (aD A (G+1))) (.I (n49:Int))) y (λ_ AG=>dU R q0 x1 v11 AG))):TJ R q0 x1 q5 x6 v11 Z22:=M.of h ok rfl
end EF
namespace FH
variable {p0:Option Addr}{n0 c0:Nat}{x3:Int}
def M:Fw:=⟨prog,65,f65,[],[],false,[(4,12,true)],[],[(208,[(0,wL),(3,wI)])]⟩
def ok:M.Ok:=⟨AN.nil,mixed,func65,by kernel_rfl⟩
def HT:=M.pt 0
def start (h:HT R p0 n0 c0 1 Z22):Spec prog 65 #[.slice p0 n0 c0] Z22 R:=M.start h ok
def CJ (h:Br (x3<(n0:Int)) (Pq p0 λA G=>In x3 (n0:Int)/\LI .i64 Z22 A (G+x3.toNat*2) λDY=>AK (x3-1)/\In (x3-1) (n0:Int)/\LI .i64 Z22 A (G+Int.toNat (x3-1)*2) λQH=>Br (DY<=QH) (R (.B false) Z22) (AK (x3+1)/\HT R (aD A G) n0 c0 (x3+1) Z22)) (R (.returned (.bool (decide (0<(n0:Int))))) Z22)):HT R p0 n0 c0 x3 Z22:=M.of h ok rfl
end FH
namespace Qe
variable {q0:Option Addr}{s1:ByteArray}{x2:Int}
def M:Fw:=⟨prog,76,f76,[114],[],false,[],[],[]⟩
def ok:M.Ok:=⟨.cons call114 (AN.nil),mixed,func76,by kernel_rfl⟩
def start (h:Pq q0 λG o8=>LT Z22 G (o8+1) λdW=>(ByteArray.size dW+ByteArray.size (ByteArray.mk #[47])<=9223372036854775807)/\(ByteArray.size (dW++(ByteArray.mk #[47]))+ByteArray.size s1<=9223372036854775807)/\Df (IntKind.u64.wrap x2) λDA=>AO 114 #[.U DA,.I 8] Z22 R (CT λA y=>Kp [G] Z22 y/\(ByteArray.size ((dW++(ByteArray.mk #[47]))++s1)+ByteArray.size A<=9223372036854775807)/\R (.returned (.string (((dW++(ByteArray.mk #[47]))++s1)++A))) y)):Spec prog 76 #[.pointer q0,.string s1,.I x2] Z22 R:=M.start h ok
end Qe
namespace strings_HasPrefix
variable {s0 s1:ByteArray}
def M:Fw:=⟨prog,82,f82,[142],[],false,[],[],[]⟩
def ok:M.Ok:=⟨.cons call142 (AN.nil),mixed,func82,by kernel_rfl⟩
def start (h:AO 142 #[.string s0,.string s1] Z22 R (CB λt7 y=>R (.B t7) y)):Spec prog 82 #[.string s0,.string s1] Z22 R:=M.start h ok
end strings_HasPrefix
namespace GG
variable {b0 b1:Nat}
def M:Fw:=⟨prog,88,f88,[89],[],false,[],[],[]⟩
def ok:M.Ok:=⟨.cons call89 (AN.nil),mixed,func88,by kernel_rfl⟩
def start (h:LS Z22 b0 0 λp2 n2 c2=>AO 89 #[.slice p2 n2 c2] Z22 R (CS λp3 n3 c3 y=>AH prog (Instr.storeAt 44 (.pointer (aD b1 0)) (.slice p3 n3 c3)) y (λ_ A=>R (.T #[]) A))):Spec prog 88 #[(.pointer (aD b0 0)),(.pointer (aD b1 0))] Z22 R:=M.start h ok
end GG
namespace Cg
variable {b0 b1:Nat}
def M:Fw:=⟨prog,91,f91,[86],[],false,[],[],[]⟩
def ok:M.Ok:=⟨.cons call86 (AN.nil),mixed,func91,by kernel_rfl⟩
def start (h:LQ Z22 b0 0 λq3=>LT Z22 b1 0 λA=>AO 86 #[.pointer q3,.string A] Z22 R (CI .i64 λx5 y=>R (.returned (.I x5)) y)):Spec prog 91 #[(.pointer (aD b0 0)),(.pointer (aD b1 0))] Z22 R:=M.start h ok
end Cg
namespace Nt
variable {x0:Int}
def M:Fw:=⟨prog,95,f95,[168],[],false,[],[],[]⟩
def ok:M.Ok:=⟨.cons call168 (AN.nil),mixed,func95,by kernel_rfl⟩
def start (h:AO 168 #[.U x0] Z22 R (CI .i64 λx7 y=>R (.returned (.I x7)) y)):Spec prog 95 #[.U x0] Z22 R:=M.start h ok
end Nt
namespace GH
variable {p0 p3 JQ:Option Addr}{n0 c0 n3 c3 n10 IU:Nat}{Gp CR:Int}
def M:Fw:=⟨prog,102,f102,[105,175],[5],false,[],[],[(232,[(3,wL),(10,wL),(11,wI),(12,wI)])]⟩
def ok:M.Ok:=⟨.cons call105 (.cons call175 (AN.nil)),mixed,func102,by kernel_rfl⟩
def A3:=M.pt 0
def start (h:Df (IntKind.u64.wrap (n0:Int)) λx8=>AO 175 #[.N,.U x8] Z22 R (CS λp9 n9 c9 y=>A3 R p9 n9 c9 p0 n0 c0 (n0:Int) 0 y)):Spec prog 102 #[.slice p0 n0 c0] Z22 R:=M.start h ok
def AY (h:Br (CR<Gp) (Pq JQ λIp Kv=>In CR (n10:Int)/\∃WO A,Bm Z22 Ip (Kv+CR.toNat*2) [.string WO,.string A]/\∀b5:Nat,AO 105 #[.slice p3 n3 c3,.string WO] Z22 R (CS λp19 n19 G y=>AO 105 #[.slice p19 n19 G,.string A] y R (CS λoY n22 oZ AG=>AK (CR+1)/\A3 R oY n22 oZ (aD Ip Kv) n10 IU Gp (CR+1) AG))) (R (.returned (.slice p3 n3 c3)) Z22)):A3 R p3 n3 c3 JQ n10 IU Gp CR Z22:=M.of h ok rfl
end GH
namespace Iz
variable {q0 p1 p5:Option Addr}{n1 c1 n5 c5:Nat}{v41:Value}
def M:Fw:=⟨prog,112,f112,[115,127],[],false,[(4,13,true)],[(41,194)],[(488,[(0,wQ),(1,wL),(5,wL),(41,wV)])]⟩
def ok:M.Ok:=⟨.cons call115 (.cons call127 (AN.nil)),mixed,func112,by kernel_rfl⟩
def Ep:=M.pt 0
def start (h:Br ((n1:Int)=0) (AO 127 #[.pointer q0,.slice p1 n1 c1] Z22 R (CS λQS n26 PY y=>R (.returned (.slice QS n26 PY)) y)) (Pq p1 λA G=>In 0 (n1:Int)/\LI .i64 Z22 A G λDY=>Br (DY≠1) (AO 127 #[.pointer q0,(.slice (aD A G) n1 c1)] Z22 R (CS λQS n26 PY y=>R (.returned (.slice QS n26 PY)) y)) (In 0 (n1:Int)/\LT Z22 A (G+2) λs21=>Bo ((ByteArray.toList s21==ByteArray.toList (ByteArray.mk #[]))) (AO 127 #[.pointer q0,(.slice (aD A G) n1 c1)] Z22 R (CS λQS n26 PY y=>R (.returned (.slice QS n26 PY)) y)) (Pq q0 λMm jC=>LM Z22 Mm (jC+1) λm30=>In 0 (n1:Int)/\LT Z22 A (G+1) λs34=>In 0 (n1:Int)/\LT Z22 A (G+2) λs38=>AH prog (Instr.lookup 171 (.map m30) (.agg #[.string s34,.string s38]) false) Z22 (CM λm40 y=>AH prog (Instr.range 194 (.map m40)) y (λz AG=>∃v41,v41=z/\Ep R (aD Mm jC) (aD A G) n1 c1 none 0 0 v41 AG)))))):Spec prog 112 #[.pointer q0,.slice p1 n1 c1] Z22 R:=M.start h ok
end Iz
namespace Pb
variable {x0 x1:Int}
def M:Fw:=⟨prog,114,f114,[184,185],[],false,[],[],[]⟩
def ok:M.Ok:=⟨.cons call184 (.cons call185 (AN.nil)),mixed,func114,by kernel_rfl⟩
def start (h:AO 185 #[.U x0,.I 10] Z22 R (CT λG y=>AO 184 #[.string G,.I x1] y R (CT λs8 A=>R (.returned (.string s8)) A))):Spec prog 114 #[.U x0,.I x1] Z22 R:=M.start h ok
end Pb
namespace Pc
variable {p0 p1 p5 p9:Option Addr}{n0 c0 n1 c1 n5 c5 n9 c9:Nat}{FE Gp:Int}
def M:Fw:=⟨prog,115,f115,[186,187,188,189],[7],false,[],[],[(232,[(1,wL),(5,wL),(9,wL),(10,wI),(11,wI)])]⟩
def ok:M.Ok:=⟨.cons call186 (.cons call187 (.cons call188 (.cons call189 (AN.nil)))),mixed,func115,by kernel_rfl⟩
def A3:=M.pt 0
def start (h:AO 186 #[] Z22 R (CS λp8 n8 c8 y=>A3 R p1 n1 c1 p8 n8 c8 p0 n0 c0 (n0:Int) 0 y)):Spec prog 115 #[.slice p0 n0 c0,.slice p1 n1 c1] Z22 R:=M.start h ok
def AY (h:Br (Gp<FE) (Pq p9 λHR xm=>In Gp (n9:Int)/\∃Ud jA A,Bm Z22 HR (xm+Gp.toNat*3) [.I Ud,.string jA,.string A]/\∀b7:Nat,AO 187 #[.I Ud] Z22 R (CB λt17 y=>Bn t17 (R (.B false) y) (Pq p5 λRa Yi=>In Ud (n5:Int)/\∃v24,Hp.ld y ⟨Ra,(Yi+Ud.toNat*1),none⟩=some v24/\AO 188 #[.string A] y R (λz AG=>∃jN de jO,z=(.agg #[.slice jN de jO])/\Kp [Ra] y AG/\AO 189 #[.slice p1 n1 c1,.string jA] AG R (CT λs34 AQ=>Kp [Ra] AG AQ/\∃(f35:Nat) (G ACo:Array Value),v24=.func (.func f35) G ACo/\Enters prog f35/\Spec prog f35 (G++#[.agg #[.slice jN de jO,.string A],.string s34]++ACo) AQ (BI R (CB λt35 A5=>Bn t35 (R (.B false) A5) (AK (Gp+1)/\A3 R p1 n1 c1 (aD Ra Yi) n5 c5 (aD HR xm) n9 c9 FE (Gp+1) A5)))))))) (R (.B true) Z22)):A3 R p1 n1 c1 p5 n5 c5 p9 n9 c9 FE Gp Z22:=M.of h ok rfl
end Pc
namespace CY
variable {p0 LL p4a p4b p53:Option Addr}{n0 c0 n15 Hu n4a c4a n4b c4b n53 c53:Nat}{El C3 TK Mn:Int}
def M:Fw:=⟨prog,120,f120,[64,66],[4,6],false,[(13,24,true)],[],[(232,[(0,wL),(15,wL),(16,wI),(17,wI)]),(239224,[(0,wL),(4,.X 63 [.L,.L]),(15,wL),(16,wI),(17,wI),(53,wL),(54,wI),(55,wI)])]⟩
def ok:M.Ok:=⟨.cons call64 (.cons call66 (AN.nil)),mixed,func120,by kernel_rfl⟩
def Ui:=M.pt 0
def di:=M.pt 1
def start (h:Br ((n0:Int)=0) (R (.returned (.I 90)) Z22) (Br (1024<(n0:Int)) (R (.returned (.I 90)) Z22) (Ui R p0 n0 c0 p0 n0 c0 (n0:Int) 0 Z22))):Spec prog 120 #[.slice p0 n0 c0] Z22 R:=M.start h ok
def QM (h:Br (C3<El) (Pq LL λNn RH=>In C3 (n15:Int)/\∃G tY tZ tf A tm,Bm Z22 Nn (RH+C3.toNat*2) [.slice G tY tZ,.slice tf A tm]/\∀b4:Nat,AO 64 #[.slice G tY tZ] Z22 R (CI .i64 λEJ y=>Br (EJ≠0) (R (.returned (.I 90)) y) (Br (0<C3) (AK (C3-1)/\Pq p0 λHi gE=>In (C3-1) (n0:Int)/\LS y Hi (gE+Int.toNat (C3-1)*2) λy3 n35 xk=>AO 66 #[.slice y3 n35 xk,.slice G tY tZ] y R (CI .i64 λJR AG=>Br (0<=JR) (R (.returned (.I 90)) AG) (Br ((A:Int)=0) (R (.returned (.I 90)) AG) (Br (8191<(A:Int)) (R (.returned (.I 90)) AG) (di R (aD Hi gE) n0 c0 G tY tZ tf A tm (aD Nn RH) n15 Hu El C3 tf A tm (A:Int) 0 AG))))) (Br ((A:Int)=0) (R (.returned (.I 90)) y) (Br (8191<(A:Int)) (R (.returned (.I 90)) y) (di R p0 n0 c0 G tY tZ tf A tm (aD Nn RH) n15 Hu El C3 tf A tm (A:Int) 0 y)))))) (R (.returned (.I 0)) Z22)):Ui R p0 n0 c0 LL n15 Hu El C3 Z22:=M.of h ok rfl
def lZ (h:Br (Mn<TK) (Pq p53 λbM A=>In Mn (n53:Int)/\∃jI AR6,Bm Z22 bM (A+Mn.toNat*2) [.I jI,.U AR6]/\∀b6:Nat,Br (jI<(-1099511627776)) (R (.returned (.I 90)) Z22) (Br (1099511627776<jI) (R (.returned (.I 90)) Z22) (Br (0<Mn) (AK (Mn-1)/\Pq p4b λsZ G=>In (Mn-1) (n4b:Int)/\LI .i64 Z22 sZ (G+Int.toNat (Mn-1)*2) λx80=>Br (jI<=x80) (R (.returned (.I 90)) Z22) (AK (Mn+1)/\di R p0 n0 c0 p4a n4a c4a (aD sZ G) n4b c4b LL n15 Hu El C3 (aD bM A) n53 c53 TK (Mn+1) Z22)) (AK (Mn+1)/\di R p0 n0 c0 p4a n4a c4a p4b n4b c4b LL n15 Hu El C3 (aD bM A) n53 c53 TK (Mn+1) Z22)))) (AK (C3+1)/\Ui R p0 n0 c0 LL n15 Hu El (C3+1) Z22)):di R p0 n0 c0 p4a n4a c4a p4b n4b c4b LL n15 Hu El C3 p53 n53 c53 TK Mn Z22:=M.gB h ok rfl λ_=>by kernel_rfl
end CY
namespace IH
variable {p0 p6:Option Addr}{n0 c0 n6 c6:Nat}{x3 x7 x8:Int}
def M:Fw:=⟨prog,135,f135,[],[],false,[],[],[(232,[(3,wI),(6,wL),(7,wI),(8,wI)])]⟩
def ok:M.Ok:=⟨AN.nil,mixed,func135,by kernel_rfl⟩
def A3:=M.pt 0
def start (h:A3 R 0 p0 n0 c0 (n0:Int) 0 Z22):Spec prog 135 #[.slice p0 n0 c0] Z22 R:=M.start h ok
def AY (h:Br (x8<x7) (Pq p6 λA G=>In x8 (n6:Int)/\LI .i64 Z22 A (G+x8.toNat*1) λGp=>Br (Gp≠x3) (R (.returned (.I Gp)) Z22) (AK (x8+1)/\A3 R x3 (aD A G) n6 c6 x7 (x8+1) Z22)) (R (.returned (.I x3)) Z22)):A3 R x3 p6 n6 c6 x7 x8 Z22:=M.of h ok rfl
end IH
namespace I0
variable {q0:Option Addr}
def M:Fw:=⟨prog,151,f151,[78,155],[],false,[],[],[]⟩
def ok:M.Ok:=⟨.cons call78 (.cons call155 (AN.nil)),mixed,func151,by kernel_rfl⟩
def start (h:Pq q0 λA G=>LS Z22 A G λJQ n10 IU=>LI .i64 Z22 A (G+1) λDY=>AO 78 #[.slice JQ n10 IU,.I DY] Z22 R (λz y=>∃WO Uc dC,z=(.tuple #[.string WO,.I Uc,.I dC])/\AO 155 #[(.bool (decide (dC=0)))] y R (λz AG=>z=(.tuple #[])/\AH prog (Instr.storeAt 3 (.pointer (aD A (G+1))) (.I Uc)) AG (λ_ AQ=>R (.returned (.string WO)) AQ)))):Spec prog 151 #[.pointer q0] Z22 R:=M.start h ok
end I0
namespace lf
variable {x0:Int}
def M:Fw:=⟨prog,172,f172,[],[],false,[],[],[]⟩
def ok:M.Ok:=⟨AN.nil,mixed,func172,by kernel_rfl⟩
def start (h:Br (0<=x0) (R (.returned (.bool (decide (x0<16)))) Z22) (R (.B false) Z22)):Spec prog 172 #[.I x0] Z22 R:=M.start h ok
end lf
namespace II
variable {v0:Value}{x1:Int}
def M:Fw:=⟨prog,193,f193,[241,242],[],false,[],[],[]⟩
def ok:M.Ok:=⟨.cons call241 (.cons call242 (AN.nil)),mixed,func193,by kernel_rfl⟩
def start (h:MC prog v0 ri #[] Z22 (BI R (CI .i64 λx7 y=>AO 242 #[v0,.I x1,.I x7] y R (CB λt8 A=>Bn t8 (AO 241 #[v0,.I x1] A R (λz G=>z=(.tuple #[])/\R (.T #[]) G)) (R (.T #[]) A))))):Spec prog 193 #[v0,.I x1] Z22 R:=M.F5 h ok [(0,.o (.V v0)),(1,.o (.I .i64 x1))] rfl rfl (by kernel_rfl)
end II
namespace C0
variable {q0:Option Addr}{x3:Int}
def M:Fw:=⟨prog,224,f224,[223],[],false,[],[],[(224,[(0,wQ),(3,wI)])]⟩
def ok:M.Ok:=⟨.cons call223 (AN.nil),mixed,func224,by kernel_rfl⟩
def HT:=M.pt 0
def start (h:HT R q0 0 Z22):Spec prog 224 #[.pointer q0] Z22 R:=M.start h ok
def CJ (h:Br (x3<4) (AO 223 #[.pointer q0,.I 1] Z22 R (CI .u64 λx9 y=>Br (x9=1) (Pq q0 λIp Kv=>LB y Ip (Kv+3) λt16=>Bn t16 (AK (x3+1)/\HT R (aD Ip Kv) (x3+1) y) (Al y λA=>In x3 5/\LI .i64 (Hp.set y A (.cells #[.I 0,.I 7,.I 9,.I 12,.I 64] 3 (0,0))) A (0+x3.toNat*1) λEJ=>Br (EJ=0) (R (.returned (.I 0)) (Hp.set y A (.cells #[.I 0,.I 7,.I 9,.I 12,.I 64] 3 (0,0)))) (AO 223 #[(.pointer (aD Ip Kv)),.I EJ] (Hp.set y A (.cells #[.I 0,.I 7,.I 9,.I 12,.I 64] 3 (0,0))) R (CI .u64 λSa AG=>AK (64-EJ)/\((0:Int)<=(64-EJ)/\(64-EJ)<=((IntKind.bits .u64:Nat):Int))/\Df (IntKind.u64.wrap (Sa*2^Int.toNat (64-EJ))) λTl=>Df (IntKind.i64.wrap Tl) λG=>AK (64-EJ)/\((0:Int)<=(64-EJ)/\(64-EJ)<=((IntKind.bits .i64:Nat):Int))/\Df (G/2^Int.toNat (64-EJ)) λgF=>R (.returned (.I gF)) AG)))) (Al y λA=>In x3 5/\LI .i64 (Hp.set y A (.cells #[.I 0,.I 7,.I 9,.I 12,.I 64] 3 (0,0))) A (0+x3.toNat*1) λEJ=>Br (EJ=0) (R (.returned (.I 0)) (Hp.set y A (.cells #[.I 0,.I 7,.I 9,.I 12,.I 64] 3 (0,0)))) (AO 223 #[.pointer q0,.I EJ] (Hp.set y A (.cells #[.I 0,.I 7,.I 9,.I 12,.I 64] 3 (0,0))) R (CI .u64 λSa AG=>AK (64-EJ)/\((0:Int)<=(64-EJ)/\(64-EJ)<=((IntKind.bits .u64:Nat):Int))/\Df (IntKind.u64.wrap (Sa*2^Int.toNat (64-EJ))) λTl=>Df (IntKind.i64.wrap Tl) λG=>AK (64-EJ)/\((0:Int)<=(64-EJ)/\(64-EJ)<=((IntKind.bits .i64:Nat):Int))/\Df (G/2^Int.toNat (64-EJ)) λgF=>R (.returned (.I gF)) AG))))) (Al Z22 λA=>In x3 5/\LI .i64 (Hp.set Z22 A (.cells #[.I 0,.I 7,.I 9,.I 12,.I 64] 3 (0,0))) A (0+x3.toNat*1) λEJ=>Br (EJ=0) (R (.returned (.I 0)) (Hp.set Z22 A (.cells #[.I 0,.I 7,.I 9,.I 12,.I 64] 3 (0,0)))) (AO 223 #[.pointer q0,.I EJ] (Hp.set Z22 A (.cells #[.I 0,.I 7,.I 9,.I 12,.I 64] 3 (0,0))) R (CI .u64 λSa y=>AK (64-EJ)/\((0:Int)<=(64-EJ)/\(64-EJ)<=((IntKind.bits .u64:Nat):Int))/\Df (IntKind.u64.wrap (Sa*2^Int.toNat (64-EJ))) λTl=>Df (IntKind.i64.wrap Tl) λG=>AK (64-EJ)/\((0:Int)<=(64-EJ)/\(64-EJ)<=((IntKind.bits .i64:Nat):Int))/\Df (G/2^Int.toNat (64-EJ)) λgF=>R (.returned (.I gF)) y)))):HT R q0 x3 Z22:=M.of h ok rfl
end C0
namespace Ut
variable {x0:Int}
def M:Fw:=⟨prog,232,f232,[],[],false,[],[],[]⟩
def ok:M.Ok:=⟨AN.nil,mixed,func232,by kernel_rfl⟩
def start (h:Df (IntKind.u64.wrap x0) λx4=>((0:Int)<=1/\1<=((IntKind.bits .u64:Nat):Int))/\Df (IntKind.u64.wrap (x4*2^Int.toNat 1)) λx5=>((0:Int)<=63/\63<=((IntKind.bits .i64:Nat):Int))/\Df (x0/2^Int.toNat 63) λx7=>Df (IntKind.u64.wrap x7) λx8=>Df (Go.bits .xor .u64 x5 x8) λx9=>R (.returned (.U x9)) Z22):Spec prog 232 #[.I x0] Z22 R:=M.start h ok
end Ut
namespace EP
variable {x0 x1:Int}
def M:Fw:=⟨prog,236,f236,[276,277,278,279],[],false,[],[],[]⟩
def ok:M.Ok:=⟨.cons call276 (.cons call277 (.cons call278 (.cons call279 (AN.nil)))),mixed,func236,by kernel_rfl⟩
def start (h:Br (x1=10) (Br (x0<100) (Df (IntKind.i64.wrap x0) λDY=>AO 276 #[.I DY] Z22 R (CT λs15 y=>R (.returned (.string s15)) y)) (Al Z22 λb5=>AO 277 #[.U x0] (Hp.set Z22 b5 (.cells #[.int .u8 0,.int .u8 0,.int .u8 0,.int .u8 0,.int .u8 0,.int .u8 0,.int .u8 0,.int .u8 0,.int .u8 0,.int .u8 0,.int .u8 0,.int .u8 0,.int .u8 0,.int .u8 0,.int .u8 0,.int .u8 0,.int .u8 0,.int .u8 0,.int .u8 0,.int .u8 0,.int .u8 0,.int .u8 0,.int .u8 0,.int .u8 0] 360 (0,0))) R (CI .i64 λC3 y=>∃p19 n19 G,YF prog (Instr.sliceAt 360 (.pointer (aD b5 0)) none (some (.I C3)) none) y (.slice p19 n19 G)/\AO 278 #[.slice p19 n19 G,.U x0] y R (λz AG=>z=(.tuple #[])/\∃Ug n23 SP,YF prog (Instr.sliceAt 360 (.pointer (aD b5 0)) none (some (.I C3)) none) AG (.slice Ug n23 SP)/\AH prog (convert 79 9 (.slice Ug n23 SP)) AG (CT λYz AQ=>R (.returned (.string Yz)) AQ))))) (AO 279 #[.N,.U x0,.I x1,.bool false,.bool false] Z22 R (λz y=>∃AR7 AR8 AR9 A,z=(.tuple #[.slice AR7 AR8 AR9,.string A])/\R (.returned (.string A)) y))):Spec prog 236 #[.U x0,.I x1] Z22 R:=M.start h ok
end EP
namespace IJ
variable {b0 b1 b2:Nat}
def M:Fw:=⟨prog,244,f244,[71,86],[],false,[],[],[]⟩
def ok:M.Ok:=⟨.cons call71 (.cons call86 (AN.nil)),mixed,func244,by kernel_rfl⟩
def start (h:LT Z22 b0 0 λG=>AO 71 #[.string G] Z22 R (CB λt5 y=>Bn t5 (R (.returned (.I 61)) y) (LQ y b1 0 λq7=>LT y b2 0 λs8=>AO 86 #[.pointer q7,.string s8] y R (CI .i64 λx9 A=>R (.returned (.I x9)) A)))):Spec prog 244 #[(.pointer (aD b0 0)),(.pointer (aD b1 0)),(.pointer (aD b2 0))] Z22 R:=M.start h ok
end IJ
namespace IK
variable {b0 b1 b2:Nat}
def M:Fw:=⟨prog,245,f245,[],[],false,[(1,5,true),(2,6,true)],[],[]⟩
def ok:M.Ok:=⟨AN.nil,mixed,func245,by kernel_rfl⟩
def start (h:LQ Z22 b0 0 λq4=>Pq q4 λb5 o5=>LM Z22 b5 o5 λm7=>LT Z22 b1 0 λs8=>AH prog (Instr.lookup 91 (.map m7) (.string s8) false) Z22 (CQ λq9 y=>LQ y b0 0 λq10=>Pq q10 λFN F7=>LM y FN F7 λG=>LT y b1 0 λy5=>AH prog (Builtin.delete_ #[91,9] 0 #[.map G,.string y5]) y (λ_ A=>LQ A b0 0 λq15=>Pq q15 λsn o16=>LM A sn o16 λm18=>LT A b2 0 λs19=>AH prog (Instr.mapUpdate 91 (.map m18) (.string s19) (.pointer q9)) A (λ_ AQ=>R (.T #[]) AQ)))):Spec prog 245 #[(.pointer (aD b0 0)),(.pointer (aD b1 0)),(.pointer (aD b2 0))] Z22 R:=M.start h ok
end IK
namespace Uu
variable {v0 v1:Value}
def M:Fw:=⟨prog,282,f282,[],[],false,[],[],[]⟩
def ok:M.Ok:=⟨AN.nil,mixed,func282,by kernel_rfl⟩
def start (h:∃(f10:Nat) (G ACq:Array Value),v0=.func (.func f10) G ACq/\Enters prog f10/\Spec prog f10 (G++#[]++ACq) Z22 (BI R (λz y=>∃ALL A,z=(.tuple #[.I ALL,.I A])/\Br (A≠0) (R (.T #[.N,.I A]) y) (∃(f18:Nat) (dM dN:Array Value),v1=.func (.func f18) dM dN/\Enters prog f18/\Spec prog f18 (dM++#[.I ALL]++dN) y (BI R (λz AG=>∃sU oL sV EV,z=(.tuple #[.slice sU oL sV,.I EV])/\R (.T #[.slice sU oL sV,.I EV]) AG)))))):Spec prog 282 #[v0,v1] Z22 R:=M.F5 h ok [(0,.o (.V v0)),(1,.o (.V v1))] rfl rfl (by kernel_rfl)
end Uu
namespace Bl
variable {q0 Mg:Option Addr}{x1 x6 Yn JR:Int}{n36 NZ:Nat}
def M:Fw:=⟨prog,284,f284,[177],[],false,[(1,13,true),(4,16,true),(9,18,true)],[],[(488,[(0,wQ),(1,wI),(6,w32),(36,wL),(37,wI),(38,wI)])]⟩
def ok:M.Ok:=⟨.cons call177 (AN.nil),mixed,func284,by kernel_rfl⟩
def Ep:=M.pt 0
def start (h:Pq q0 λG A=>LS Z22 G A λFe n13 FO=>LI .i64 Z22 G (A+1) λTI=>AK ((n13:Int)-TI)/\AK (4+x1)/\Br ((((n13:Int)-TI):Int)<(4+x1)) (R (.T #[.N,.I 20]) Z22) (LS Z22 G A λQS n26 PY=>LI .i64 Z22 G (A+1) λbI=>LI .i64 Z22 G (A+1) λgG=>AK (gG+4)/\(0<=bI/\bI<=(gG+4)/\(gG+4)<=(PY:Int))/\Ep R (aD G A) x1 0 ((ET QS (bI.toNat) PY 1)) ((Int.toNat (gG+4)-bI.toNat)) (PY-bI.toNat) ((((Int.toNat (gG+4)-bI.toNat):Nat):Int)) 0 Z22)):Spec prog 284 #[.pointer q0,.I x1] Z22 R:=M.start h ok
def FQ (h:Br (JR<Yn) (Pq Mg λYm bG=>In JR (n36:Int)/\LI .u8 Z22 Ym (bG+JR.toNat*1) λLy=>((0:Int)<=8/\8<=((IntKind.bits .u32:Nat):Int))/\Df (IntKind.u32.wrap (x6*2^Int.toNat 8)) λx43=>Df (IntKind.u32.wrap Ly) λXX=>Df (Go.bits .or .u32 x43 XX) λx46=>AK (JR+1)/\Ep R q0 x1 x46 (aD Ym bG) n36 NZ Yn (JR+1) Z22) (Pq q0 λG o49=>LS Z22 G o49 λp51 n51 c51=>LI .i64 Z22 G (o49+1) λMn=>AK (Mn+4)/\LI .i64 Z22 G (o49+1) λA=>AK (A+4)/\AK ((A+4)+x1)/\((0:Int)<=(Mn+4)/\(Mn+4)<=((A+4)+x1)/\((A+4)+x1)<=(c51:Int))/\LI .i64 Z22 G (o49+1) λx68=>AK (4+x1)/\AK (x68+(4+x1))/\AH prog (Instr.storeAt 3 (.pointer (aD G (o49+1))) (.I (x68+(4+x1)))) Z22 (λ_ y=>AO 177 #[(.slice (ET p51 (Int.toNat (Mn+4)) c51 1) (Int.toNat ((A+4)+x1)-Int.toNat (Mn+4)) (c51-Int.toNat (Mn+4)))] y R (CI .u32 λx75 AG=>Br (x75≠x6) (R (.T #[.N,.I 22]) AG) (Al AG λsZ=>AH prog (Builtin.append_ #[79,79] 79 #[(.slice (aD sZ 0) 0 0),(.slice (ET p51 (Int.toNat (Mn+4)) c51 1) (Int.toNat ((A+4)+x1)-Int.toNat (Mn+4)) (c51-Int.toNat (Mn+4)))]) (Hp.set AG sZ (.cells #[] 5 (0,0))) (CS λp80 n80 c80 AQ=>R (.T #[.slice p80 n80 c80,.I 0]) AQ)))))):Ep R q0 x1 x6 Mg n36 NZ Yn JR Z22:=M.of h ok rfl
end Bl
end TwW
end
end
section
namespace Tw
open Go
variable [I9]
def CE (O2:Hp):List (Nat×Obj)->Hp
 | []=>O2
 | (b,o)::L=>(CE O2 L).set b o
abbrev names (L:List (Nat×Obj)):List Nat:=L.map Prod.fst
section
variable {O2:Hp}{L:List (Nat×Obj)}{b i:Nat}{o o':Obj}
theorem Jq (h:b ∉ names L):CE O2 L b=O2 b:=by
 induction L with
 | nil=>rfl
 | cons p L A=>
  simp only[names,AfN,Ae5,not_or]at h;simp only[CE,Hp.AB h.1];exact A h.2
theorem Eb:∀{L:List (Nat×Obj)} {i:Nat},(names L).Nodup->L[i]?=some (b,o)->CE O2 L b=some o
 | p::L,0,_,h=>by simp at h;subst h;exact Hp.AA _ _ _
 | p::L,i+1,A,h=>by
  simp only[Afd]at h;have hm:b∈names L:=AfC.2 ⟨_,Ae2 h,rfl⟩;have A:=Afe.1 (show(p.1::names L).Nodup from A);have G:b≠p.1:=λe=>A.1 (e▸hm);simp only[CE,Hp.AB G];exact Eb A.2 h
theorem Hp.GI {Z22:Hp}{a b:Nat}{o u:Obj}(h:a≠b):(Z22.set a o).set b u=(Z22.set b u).set a o:=by
 funext k
 simp only[Hp.set];by_cases A:k=a
 .subst A;simp[h]
 .simp[A]
theorem MA:∀{L:List (Nat×Obj)} {i:Nat},(names L).Nodup->L[i]?=some (b,o)->(CE O2 L).set b o'=CE O2 (L.set i (b,o'))
 | p::L,0,_,h=>by simp at h;subst h;exact Hp.set_set
 | p::L,i+1,A,h=>by
  simp only[Afd]at h;have hm:b∈names L:=AfC.2 ⟨_,Ae2 h,rfl⟩;have A:=Afe.1 (show(p.1::names L).Nodup from A);have G:b≠p.1:=λe=>A.1 (e▸hm);simp only[CE,Ah3];rw[Hp.GI (AfT G),MA A.2 h]
theorem Pd:∀{L:List (Nat×Obj)},b ∉ names L->(CE O2 L).set b o=CE (O2.set b o) L
 | [],_=>rfl
 | p::L,h=>by
  simp only[names,AfN,Ae5,not_or]at h;simp only[CE];rw[Hp.GI (AfT h.1),Pd h.2]
theorem XY:∀{L:List (Nat×Obj)},b∈names L->CE O2 L b≠none
 | p::L,h=>by
  by_cases hb:b=p.1
  .subst hb;simp only[CE,Hp.AA];simp
  .simp only[names,AfN,Ae5]at h;simp only[CE,Hp.AB hb];exact XY (h.resolve_left hb)
theorem Mo (h:CE O2 L b=none):b ∉ names L/\O2 b=none:=by
 have hs:∀{L:List (Nat×Obj)},b ∉ names L->CE O2 L b=O2 b:=Jq;have A:b ∉ names L:=λG=>XY G h;exact⟨A,(hs A).symm.trans h⟩
def WS (L:List (Nat×Obj))(O2:Hp):Prop:=∀b∈names L,O2 b=none
theorem WS.ext {O2:Hp}:∀{L:List (Nat×Obj)},(names L).Nodup->WS L O2->Ext O2 (CE O2 L)
 | [],_,_=>.refl O2
 | p::L,A,h=>by
  have A:=Afe.1 (show(p.1::names L).Nodup from A);have G:=WS.ext A.2 (λb hb=>h b (Aey _ hb));refine G.trans (.set ?_);rw[Jq A.1];exact h _ (AfB ..)
theorem WS.set {O2:Hp}{b:Nat}{o:Obj}(h:WS L O2)(hb:b ∉ names L):WS L (O2.set b o):=λc A=>by
 have G:c≠b:=λe=>hb (e▸A);rw[Hp.AB G];exact h c A
end
theorem Spec.Ke {P:Program}{f:FuncId}{args:Array Value}{O2:Hp}:∀{L:List (Nat×Obj)} {R:Rr},(names L).Nodup->WS L O2->
  Spec P f args O2 (λe O'2=>WS L O'2->R e (CE O'2 L))->Spec P f args (CE O2 L) R
 | [],R,_,_,h=>h.mono λe O'2 G=>G (λb hb=>by cases hb)
 | p::L,R,A,ho,h=>by
  have A:=Afe.1 (show(p.1::names L).Nodup from A);refine Spec.UG (by rw[Jq A.1];exact ho _ (AfB ..)) ?_;refine Spec.Ke A.2 (λb hb=>ho b (Aey _ hb)) (h.mono λe O'2 G tu Nu=>G λb hb=>?_);rcases Ae5.1 (show b∈p.1::names L from hb) with rfl|hb
  .rw[Jq A.1]at Nu;exact Nu
  .exact tu b hb
theorem AH.Ke {P:Program}{α:Type}{m:Sem α}{O2:Hp}:∀{L:List (Nat×Obj)} {Φ:α->Hp->Prop},(names L).Nodup->WS L O2->
  AH P m O2 (λv O'2=>WS L O'2->Φ v (CE O'2 L))->AH P m (CE O2 L) Φ
 | [],R,_,_,h=>h.mono λe O'2 G=>G (λb hb=>by cases hb)
 | p::L,R,A,ho,h=>by
  have A:=Afe.1 (show(p.1::names L).Nodup from A);refine AH.UG (by rw[Jq A.1];exact ho _ (AfB ..)) ?_;refine AH.Ke A.2 (λb hb=>ho b (Aey _ hb)) (h.mono λe O'2 G tu Nu=>G λb hb=>?_);rcases Ae5.1 (show b∈p.1::names L from hb) with rfl|hb
  .rw[Jq A.1]at Nu;exact Nu
  .exact tu b hb
theorem AH.jQ {P:Program}{O2:Hp}{L:List (Nat×Obj)}{i b n o:Nat}{T t:TypeId}{c c':Array Value}{v:Value}{Φ:Unit->Hp->Prop}(hz:∀w,(Go.sizeOf T).run P w=.ok n w)(A:(names L).Nodup)(hi:L[i]?=some (b,.cells c t (0,0)))
  (hv:v.cells.size=n) (hl:Nat.ble (o+n) c.size=true) (G:(v.cells.toList.all λu=>u.oneCell')=true) (hc:F0 c o v.cells.toList=c') (h:Φ () (CE O2 (L.set i (b,.cells c' t (0,0))))) :
  AH P (Instr.storeAt T (.pointer (some ⟨b,o,none⟩)) v) (CE O2 L) Φ:=by
 subst hc;refine AH.store hz (Eb A hi) hv (Afh hl) (λu hu=>Afu.1 G u hu) ?_;rw[MA A hi];exact h
theorem ldL {O2:Hp}{L:List (Nat×Obj)}{i b o:Nat}{t:TypeId}{c:Array Value}{v:Value}(A:(names L).Nodup)(hi:L[i]?=some (b,.cells c t (0,0)))(h:c[o]?=some v):Hp.ld (CE O2 L) ⟨b,o,none⟩=some v:=by
 simp[Hp.ld,Eb A hi,h]
end Tw
end
section
namespace Tw
open Go Go.MapKept
variable [I9]
def Hp.off (Z22:Hp)(S:List Nat):Hp:=λb=>if b∈S then none else Z22 b
theorem Hp.jR {Z22:Hp}{S:List Nat}{b:Nat}(h:b∈S):Z22.off S b=none:=by simp[Hp.off,h]
theorem Hp.GJ {Z22:Hp}{S:List Nat}{b:Nat}(h:b ∉ S):Z22.off S b=Z22 b:=by simp[Hp.off,h]
theorem Hp.AI {Z22:Hp}{S:List Nat}{b:Nat}{o:Obj}:Z22.off S b=some o↔b ∉ S/\Z22 b=some o:=by
 by_cases h:b∈S<;>simp[Hp.off,h]
theorem Ext.FW (Z22:Hp)(S:List Nat):Ext (Z22.off S) Z22:=λ_ _ h=>(Hp.AI.1 h).2
theorem Ext.off {Z22 Z'2:Hp}(h:Ext Z22 Z'2)(S:List Nat):Ext (Z22.off S) (Z'2.off S):=λb o hb=>by
 rw[Hp.AI]at hb ⊢;exact⟨hb.1,h b o hb.2⟩
theorem Hp.MB {Z22:Hp}{S S':List Nat}:(Z22.off S).off S'=(Z22.off S').off S:=by
 funext b
 by_cases h:b∈S<;>by_cases A:b∈S'<;>simp[Hp.off,h,A]
theorem Hp.Kf {Z22:Hp}{S:List Nat}{b:Nat}{o:Obj}(h:b∈S):(Z22.set b o).off S=Z22.off S:=by
 funext k
 by_cases A:k∈S
 .simp[Hp.off,A]
 .simp only[Hp.off,A,AgO];rw[Hp.AB];intro e;subst e;exact A h
theorem Hp.GK {Z22:Hp}{S:List Nat}{b:Nat}{o:Obj}(h:b ∉ S):(Z22.set b o).off S=(Z22.off S).set b o:=by
 funext k
 by_cases A:k=b
 .subst A;rw[Hp.GJ h,Hp.AA,Hp.AA]
 .rw[Hp.AB A];by_cases G:k∈S<;>simp[Hp.off,G,Hp.AB A]
def FB (p:Option Addr):List Nat:=match p with
 | some a=>[a.block]
 | none=>[]
theorem Hp.ER {Z22:Hp}{p:Option Addr}:Z22.del p=Z22.off (FB p):=by
 funext k
 cases p with
 | none=>simp[Hp.del,Hp.off,FB]
 | some a=>simp[Hp.del,Hp.off,FB]
theorem Ext.tw {Z22 Z'2:Hp}{S:List Nat}(h:Ext Z22 Z'2)(G:∀b∈S,Z22 b=none):Ext Z22 (Z'2.off S):=λb o hb=>by
 rw[Hp.AI];exact⟨λhs=>(by have A:=G b hs;rw[hb]at A;cases A),h b o hb⟩
theorem Hp.Qf {Z22:Hp}{S:List Nat}{b:Nat}(h:Z22 b=none):Z22.off S b=none:=by
 unfold Hp.off;split<;>simp[h]
theorem Ext.Kf {Z22:Hp}{S:List Nat}{b:Nat}{o:Obj}(h:b∈S):Ext (Z22.off S) ((Z22.set b o).off S):=by rw[Hp.Kf h];exact Ext.refl _
structure Loc (A:Hp->Prop)(Z22:Hp)(S:List Nat):Prop where
 here:A Z22
 known:∀b∈S,Z22 b≠none
 loc:∀Z'2,(∀b∈S,Z'2 b=Z22 b)->A Z'2
section
variable {P:Program}{Z22:Hp}{α:Type}
theorem AH.obj {m:Sem α}{b:Nat}{o o':Obj}{v:α}{Φ:α->Hp->Prop}(hb:Z22 b=some o)(hm:∀w,Sat Z22 w->∃w1:World,(w1=w\/w1=w.drew)/\m.run P w=.ok v (ChangeMaps.setBlock w1 b o'))(h:Φ v (Z22.set b o')):AH P m Z22 Φ:=λw F hs hF=>by
 obtain⟨w1,hw,Cd⟩:=hm w hs;have Aq:b<w.heap.size:=(AfA.1 (hs b o hb)).1;have DH:w1.heap=w.heap:=by rcases hw with rfl|rfl<;>rfl
 refine⟨v,_,_,Cd,h,λk u A=>?_,λk A=>?_,?_,?_,?_⟩
 .simp only[ChangeMaps.setBlock,DH];by_cases G:k=b
  .subst G;rw[Hp.AA]at A;cases A;simp[Aq]
  .rw[Hp.AB G]at A;simp[AfT G,hs k u A]
 .have G:k≠b:=λe=>by have:=(hF k A).2;rw[e,hb]at this;cases this
  refine⟨by rw[Hp.AB G];exact(hF k A).2,?_⟩;simp[ChangeMaps.setBlock,DH,AfT G]
 .rcases hw with rfl|rfl
  .exact .same rfl rfl rfl
  .exact⟨rfl,rfl,λ_=>⟨1,rfl⟩⟩
 .rcases hw with rfl|rfl<;>rfl
 .simp[ChangeMaps.setBlock,DH]
theorem AH.new {m:Sem α}{o:Obj}{v:Nat->α}{Φ:α->Hp->Prop}(hm:∀w,Sat Z22 w->m.run P w=.ok (v w.heap.size) (w.alloc o))(h:∀b,Z22 b=none->Φ (v b) (Z22.set b o)):AH P m Z22 Φ:=λw F A G=>
 ⟨_,_,_,hm w A,h _ (DI A),Fin.alloc A G _ rfl (.same rfl rfl rfl) rfl⟩
class bN (P:Program)(T:TypeId)(K V:outParam TypeId):Prop where
 P9:P.underlying T=some (.map K V)
 key:P.underlying K=some .string
def Ak (Z22:Hp)(b:Nat)(l:List MapEntry)(clock:Nat):Prop:=Z22 b=some (.map l.toArray clock)/\Stamped l.toArray clock/\∀x∈l,IsKey .string x.key
theorem Ak.mono {Z22 Z'2:Hp}{b:Nat}{l:List MapEntry}{clock:Nat}(h:Ak Z22 b l clock)(A:Ext Z22 Z'2):Ak Z'2 b l clock:=⟨A _ _ h.1,h.2⟩
theorem Ak.loc {Z22 Z'2:Hp}{b:Nat}{l:List MapEntry}{clock:Nat}(h:Ak Z22 b l clock)(A:Z'2 b=Z22 b):Ak Z'2 b l clock:=⟨A.trans h.1,h.2⟩
theorem Ak.nodup {Z22:Hp}{b:Nat}{l:List MapEntry}{clock:Nat}(h:Ak Z22 b l clock):(l.map (·.key)).Nodup:=h.2.1.2.2
theorem Ak.tz {Z22:Hp}{b:Nat}{l:List MapEntry}{clock:Nat}(h:Ak Z22 b l clock):(l.map (·.born)).Nodup:=h.2.1.2.1
theorem CL {s:ByteArray}{l:List MapEntry}(hk:∀x∈l,IsKey .string x.key):
  (Instr.findNow .string (.string s) l 0=some none/\∀x∈l,x.key≠.string s)\/∃A e l2,l=A++e::l2/\e.key=.string s/\Instr.findNow .string (.string s) l 0=some (some (A.length,e.val)):=by
 rcases findNow_spec (d:=.string) (k:=.string s) trivial l 0 hk with h|⟨j,e,G,h2,h3⟩
 .exact .inl h
 .obtain⟨hj,rfl⟩:=Ae0.1 h2;refine .inr ⟨l.take j,l[j],l.drop (j+1),?_,h3,?_⟩
  .rw[AhL,Afi]
  .rw[G];simp[AgS (Ain hj)]
section
variable {T K V ty:TypeId}{b clock:Nat}{l:List MapEntry}{s:ByteArray}
theorem Db {Φ:Value->Hp->Prop}(h:∀b,Z22 b=none->Φ (.map (some b)) (Z22.set b (.map #[] 0))):AH P (Instr.makeMap T none) Z22 Φ:=
 AH.new (v:=λb=>.map (some b)) (λw _=>by simp[Instr.makeMap,Result.andThen]) h
theorem Ak.fresh {b:Nat}{Z22:Hp}:Ak (Z22.set b (.map #[] 0)) b [] 0:=⟨Hp.AA _ _ _,stamped_empty 0,by simp⟩
theorem Jr [t:bN P T K V](G:Ak Z22 b l clock){z:Value}(hz:∀w,(zeroValue V).run P w=.ok z w){Q:Value->Prop}
  (h0:(∀x∈l,x.key≠.string s)->Q z) (h1:∀l1 e l2,l=l1++e::l2->e.key=.string s->Q e.val):∃v,Q v/\YF P (Instr.lookup T (.map (some b)) (.string s) false) Z22 v:=by
 rcases CL (s:=s) G.2.2 with ⟨A,hn⟩|⟨l1,e,l2,hl,he,A⟩
 .refine⟨z,h0 hn,λw hs=>?_⟩;have:=hs _ _ G.1;simp[Instr.lookup,run_underlying t.P9,run_getObj_map this,run_checkKey t.key (k:=.string s) trivial,run_findKey t.key A,hz,Result.andThen]
 .refine⟨e.val,h1 l1 e l2 hl he,λw hs=>?_⟩;have:=hs _ _ G.1;simp[Instr.lookup,run_underlying t.P9,run_getObj_map this,run_checkKey t.key (k:=.string s) trivial,run_findKey t.key A,Result.andThen]
theorem Kg [t:bN P T K V](hm:Ak Z22 b l clock){z:Value}(hz:∀w,(zeroValue V).run P w=.ok z w){Φ:Value->Hp->Prop}
  (A:(∀x∈l,x.key≠.string s)->Φ z Z22) (G:∀l1 e l2,l=l1++e::l2->e.key=.string s->Φ e.val Z22):AH P (Instr.lookup T (.map (some b)) (.string s) false) Z22 Φ:=by
 obtain⟨v,hq,hy⟩:=Jr (T:=T) (K:=K) (s:=s) (Q:=λv=>Φ v Z22) hm hz A G;exact AH.pu hy hq
theorem Y7 [t:bN P T K V](A:Ak Z22 b l clock):YF P (Builtin.len_ #[T] ty #[.map (some b)]) Z22 (.int .i64 l.length):=λw G=>by
 have:=G _ _ A.1;simp[Builtin.len_,run_underlying t.P9,run_getObj_map this,goInt,Result.andThen]
abbrev CP (s:ByteArray)(v:Value)(n:Nat):MapEntry:={ key:=.string s,val:=v,born:=n }
theorem FI [t:bN P T K V](hm:Ak Z22 b l clock){v:Value}{Φ:Unit->Hp->Prop}
  (h0:(∀x∈l,x.key≠.string s)->∀Z'2,Z'2=Z22.set b (.map (l++[CP s v clock]).toArray (clock+1))->Ak Z'2 b (l++[CP s v clock]) (clock+1)->Φ () Z'2)
  (h1:∀A e l2,l=A++e::l2->e.key=.string s->∀Z'2,Z'2=Z22.set b (.map (A++CP s v e.born::l2).toArray clock)->Ak Z'2 b (A++CP s v e.born::l2) clock->Φ () Z'2) :
  AH P (Instr.mapUpdate T (.map (some b)) (.string s) v) Z22 Φ:=by
 obtain⟨hb,Ei,hk⟩:=hm;rcases CL (s:=s) hk with ⟨hf,hn⟩|⟨A,e,l2,hl,he,hf⟩
 .have MD:(l++[CP s v clock]).toArray=l.toArray.push (CP s v clock):=by simp
  refine AH.obj (v:=()) (o':=.map (l++[CP s v clock]).toArray (clock+1)) hb (λw hs=>⟨w,.inl rfl,?_⟩) (h0 hn _ rfl ⟨Hp.AA _ _ _,?_,?_⟩)
  .have:=hs _ _ hb;rw[MD];simp only[Instr.mapUpdate,Sem.run_bind,run_underlying t.P9,run_getObj_map this,run_checkKey t.key (k:=.string s) trivial,run_findKey t.key hf,Result.andThen_ok];simp[setObj,Sem.run,this,ChangeMaps.setBlock]
  .rw[MD];exact stamped_push Ei (by simpa using hn)
  .intro x G;rcases Ae9.1 G with G|G
   .exact hk x G
   .rw[Aev]at G;subst G;trivial
 .subst hl;have IL:(A++CP s v e.born::l2).toArray=(A++e::l2).toArray.modify A.length (λe=>{ e with key:=.string s,val:=v }):=by
   rw[<-AfM];apply Afo
   intro j;simp only[Afc,Af5,AgQ];by_cases hj:A.length=j
   .subst hj;simp
   .rw[Aeu hj];rcases Afp j A.length with h|h
    .rw[Ae8 h,Ae8 h]
    .have:∃k,j=A.length+(k+1):=⟨j-A.length-1,by omega⟩;obtain⟨k,rfl⟩:=this;simp[AfJ]
  have Ib:(A++e::l2).toArray[A.length]?=some e:=by simp
  refine AH.obj (v:=()) (o':=.map (A++CP s v e.born::l2).toArray clock) hb (λw hs=>⟨w,.inl rfl,?_⟩) (h1 A e l2 rfl he _ rfl ⟨Hp.AA _ _ _,?_,?_⟩)
  .have:=hs _ _ hb;rw[IL];simp only[Instr.mapUpdate,Sem.run_bind,run_underlying t.P9,run_getObj_map this,run_checkKey t.key (k:=.string s) trivial,run_findKey t.key hf,Result.andThen_ok,Ib,Afv,AhQ,he,
    run_keyThatStays (d:=.string) (k:=.string s) trivial]
   simp[setObj,Sem.run,this,ChangeMaps.setBlock]
  .rw[IL];exact stamped_modify Ei _ _ (λ_ _=>rfl) (λe' _ oe=>by rw[Ib]at oe;cases oe;exact he.symm)
  .intro x G;rcases Ae9.1 G with G|G
   .exact hk x (Afk _ G)
   .rcases Ae5.1 G with rfl|G
    .trivial
    .exact hk x (Afs _ (Aey _ G))
theorem IM [t:bN P T K V](hm:Ak Z22 b l clock){Φ:Value->Hp->Prop}
  (h0:(∀x∈l,x.key≠.string s)->∀Z'2,Z'2=Z22.set b (.map l.toArray clock)->Ak Z'2 b l clock->Φ (.tuple #[]) Z'2)
  (h1:∀G e l2,l=G++e::l2->e.key=.string s->∀Z'2,Z'2=Z22.set b (.map (G++l2).toArray clock)->Ak Z'2 b (G++l2) clock->Φ (.tuple #[]) Z'2) {A:Array TypeId} (hA:A[0]?=some T) :
  AH P (Builtin.delete_ A ty #[.map (some b),.string s]) Z22 Φ:=by
 obtain⟨hb,Ei,hk⟩:=hm;rcases CL (s:=s) hk with ⟨hf,hn⟩|⟨G,e,l2,hl,he,hf⟩
 .refine AH.obj (v:=.tuple #[]) (o':=.map l.toArray clock) hb (λw hs=>⟨w,.inl rfl,?_⟩) (h0 hn _ rfl ⟨Hp.AA _ _ _,Ei,hk⟩);have:=hs _ _ hb;simp[Builtin.delete_,hA,run_underlying t.P9,run_getObj_map this,run_checkKey t.key (k:=.string s) trivial,run_findKey t.key hf,Result.andThen,setObj,Sem.run,this,ChangeMaps.setBlock]
 .subst hl;have IL:(G++l2).toArray=(G++e::l2).toArray.eraseIdxIfInBounds G.length:=by
   rw[<-AfM];simp[Array.eraseIdxIfInBounds,Agm]
  refine AH.obj (v:=.tuple #[]) (o':=.map (G++l2).toArray clock) hb (λw hs=>⟨w,.inl rfl,?_⟩) (h1 G e l2 rfl he _ rfl ⟨Hp.AA _ _ _,?_,?_⟩)
  .have:=hs _ _ hb;rw[IL];simp only[Builtin.delete_,hA,AgQ,Af0,Afd,Sem.run_bind,run_underlying t.P9,run_getObj_map this,run_checkKey t.key (k:=.string s) trivial,run_findKey t.key hf,Result.andThen_ok];simp[setObj,Sem.run,this,ChangeMaps.setBlock,Result.andThen]
  .rw[IL];exact stamped_erase Ei _
  .intro x hx;rcases Ae9.1 hx with hx|hx
   .exact hk x (Afk _ hx)
   .exact hk x (Afs _ (Aey _ hx))
def Cs (Z22:Hp)(i b:Nat)(l L:List MapEntry)(clock:Nat):Prop:=
 ∃seen c0,Z22 i=some (.mapIter (some b) clock seen c0)/\clock<=c0/\L=(leftOf l.toArray seen).toList
theorem Cs.loc {Z22 Z'2:Hp}{i b:Nat}{l L:List MapEntry}{clock:Nat}(h:Cs Z22 i b l L clock)(hx:Z'2 i=Z22 i):Cs Z'2 i b l L clock:=by
 obtain⟨seen,c0,A,G⟩:=h;exact⟨seen,c0,hx.trans A,G⟩
theorem Cs.mono {Z22 Z'2:Hp}{i b:Nat}{l L:List MapEntry}{clock:Nat}(h:Cs Z22 i b l L clock)(hx:Ext Z22 Z'2):Cs Z'2 i b l L clock:=by
 obtain⟨seen,c0,A,G⟩:=h;exact⟨seen,c0,hx _ _ A,G⟩
theorem Js [t:bN P T K V](A:Ak Z22 b l clock){Φ:Value->Hp->Prop}(h:∀i o,Z22 i=none->Cs (Z22.set i o) i b l l clock->Φ (.pointer (some ⟨i,0,none⟩)) (Z22.set i o)):AH P (Instr.range T (.map (some b))) Z22 Φ:=
 AH.new (v:=λi=>.pointer (some ⟨i,0,none⟩)) (o:=.mapIter (some b) clock #[] clock) (λw G=>by
  have:=G _ _ A.1;simp[Instr.range,run_underlying t.P9,run_getObj_map this,Result.andThen]) λi hi=>h i _ hi ⟨#[],clock,Hp.AA _ _ _,Ae1 _,by simp[leftOf,AgM.2]⟩
theorem Rf {l:List MapEntry}{seen:Array Nat}{x:Nat}:(leftOf l.toArray (seen.push x)).toList=(leftOf l.toArray seen).toList.filter (λe=>e.born != x):=by
 simp only[leftOf,List.filter_toArray,List.filter_filter]
 congr 1
 funext e
 rw[Array.contains_push];cases seen.contains e.born<;>cases h:(e.born==x)<;>simp_all [bne]
theorem ME (hm:Ak Z22 b l clock){i:Nat}{L:List MapEntry}(hi:Cs Z22 i b l L clock){Φ:Value->Hp->Prop}
  (h0:L=[]->Φ (.tuple #[.bool false]) Z22)
  (h1:∀e∈L,e∈l->∀o,(∀O2,O2 i=some o->Cs O2 i b l (L.filter λx=>x.born != e.born) clock)->
   (∀O2,O2 i=some o->O2 b=Z22 b->∀{Ψ:Value->Hp->Prop},Ψ (.tuple #[e.key,e.val]) O2->AH P (Instr.entry (.pointer (some ⟨i,0,none⟩))) O2 Ψ)->Φ (.tuple #[.bool true,e.key,e.val]) (Z22.set i o)) :
  AH P (Instr.next (.pointer (some ⟨i,0,none⟩)) false ty) Z22 Φ:=by
 obtain⟨seen,c0,hi,hc,rfl⟩:=hi;obtain⟨hb,Ei,A⟩:=hm;have hold:∀x∈l.toArray.toList,x.born<clock:=Ei.1;intro w F hs hF;rcases run_next_at (P:=P) w ty i b clock c0 seen l.toArray clock (hs _ _ hi) (hs _ _ hb) hold hc with ⟨h,Cd⟩|⟨e,he,w1,Uv,Cd⟩
 .exact⟨_,w,Z22,Cd,h0 (Ae6 (by simpa using h)),hs,λk A=>⟨(hF k A).2,rfl⟩,.same rfl rfl rfl,rfl,Ae1 _⟩
 .have hel:=(mem_left he).1;have h2:=h1 e he (by simpa using hel) (.mapIter (some b) clock (seen.push e.born) clock) (λO2 hτ=>⟨_,_,hτ,Ae1 _,Rf.symm⟩) (λO2 hτ uA Ψ hΨ=>AH.pu (λw' PL=>run_entry_at w' i b clock seen l.toArray clock e (PL _ _ hτ) (PL _ _ (uA.trans hb)) hel Ei.2.1) hΨ);have Aq:i<w.heap.size:=(AfA.1 (hs _ _ hi)).1;have DH:w1.heap=w.heap:=by rcases Uv with rfl|rfl<;>rfl
  refine⟨_,_,_,Cd,h2,λk u A=>?_,λk A=>?_,?_,?_,?_⟩
  .simp only[ChangeMaps.setBlock,DH];by_cases G:k=i
   .subst G;rw[Hp.AA]at A;cases A;simp[Aq]
   .rw[Hp.AB G]at A;simp[AfT G,hs k u A]
  .have G:k≠i:=λe=>by have:=(hF k A).2;rw[e,hi]at this;cases this
   refine⟨by rw[Hp.AB G];exact(hF k A).2,?_⟩;simp[ChangeMaps.setBlock,DH,AfT G]
  .rcases Uv with rfl|rfl
   .exact .same rfl rfl rfl
   .exact⟨rfl,rfl,λ_=>⟨1,rfl⟩⟩
  .rcases Uv with rfl|rfl<;>rfl
  .simp[ChangeMaps.setBlock,DH]
theorem Y8 {L:List MapEntry}{e:MapEntry}(A:e∈L):(L.filter λx=>x.born != e.born).length<L.length:=by
 induction L with
 | nil=>cases A
 | cons a L G=>
  rcases Ae5.1 A with rfl|A
  .simp;exact Nat.lt_succ_of_le (AgR _ _)
  .have:=G A;by_cases h:(a.born != e.born)=true
   .rw[AgX (by simpa using h)];simpa using this
   .rw[AgI (by simpa using h)];simp;omega
end
end
end Tw
end
section
theorem Tw.Hp.HD {Z22:Tw.Hp}{b k:Nat}{o:Go.Obj}(h:(Z22.set b o) k=none):k≠b/\Z22 k=none:=by
 have A:k≠b:=λe=>by rw[e,Tw.Hp.AA]at h;cases h
 exact⟨A,by rw[Tw.Hp.AB A]at h;exact h⟩
namespace TwI
open Go Go.MapKept Tw
variable [I9]
section
variable {P:Program}{Z22:Hp}
class MpI (P:Program)(T:TypeId)(K V:outParam TypeId):Prop where
 P9:P.underlying T=some (.map K V)
 key:P.underlying K=some (.int .i64)
def Ak (Z22:Hp)(b:Nat)(l:List MapEntry)(clock:Nat):Prop:=Z22 b=some (.map l.toArray clock)/\Stamped l.toArray clock/\∀x∈l,IsKey (.int .i64) x.key
theorem CL {s:Int}{l:List MapEntry}(hk:∀x∈l,IsKey (.int .i64) x.key):
  (Instr.findNow (.int .i64) (.int .i64 s) l 0=some none/\∀x∈l,x.key≠.int .i64 s)\/∃A e l2,l=A++e::l2/\e.key=.int .i64 s/\Instr.findNow (.int .i64) (.int .i64 s) l 0=some (some (A.length,e.val)):=by
 rcases findNow_spec (d:=.int .i64) (k:=.int .i64 s) rfl l 0 hk with h|⟨j,e,G,h2,h3⟩
 .exact .inl h
 .obtain⟨hj,rfl⟩:=Ae0.1 h2;refine .inr ⟨l.take j,l[j],l.drop (j+1),?_,h3,?_⟩
  .rw[AhL,Afi]
  .rw[G];simp[AgS (Ain hj)]
section
variable {T K V ty:TypeId}{b clock:Nat}{l:List MapEntry}{s:Int}
theorem Ak.fresh {b:Nat}{Z22:Hp}:Ak (Z22.set b (.map #[] 0)) b [] 0:=⟨Hp.AA _ _ _,stamped_empty 0,by simp⟩
theorem Jr [t:MpI P T K V](G:Ak Z22 b l clock){z:Value}(hz:∀w,(zeroValue V).run P w=.ok z w){Q:Value->Prop}
  (h0:(∀x∈l,x.key≠.int .i64 s)->Q z) (h1:∀l1 e l2,l=l1++e::l2->e.key=.int .i64 s->Q e.val):∃v,Q v/\YF P (Instr.lookup T (.map (some b)) (.int .i64 s) false) Z22 v:=by
 rcases CL (s:=s) G.2.2 with ⟨A,hn⟩|⟨l1,e,l2,hl,he,A⟩
 .refine⟨z,h0 hn,λw hs=>?_⟩;have:=hs _ _ G.1;simp[Instr.lookup,run_underlying t.P9,run_getObj_map this,run_checkKey t.key (k:=.int .i64 s) rfl,run_findKey t.key A,hz,Result.andThen]
 .refine⟨e.val,h1 l1 e l2 hl he,λw hs=>?_⟩;have:=hs _ _ G.1;simp[Instr.lookup,run_underlying t.P9,run_getObj_map this,run_checkKey t.key (k:=.int .i64 s) rfl,run_findKey t.key A,Result.andThen]
theorem Kg [t:MpI P T K V](hm:Ak Z22 b l clock){z:Value}(hz:∀w,(zeroValue V).run P w=.ok z w){Φ:Value->Hp->Prop}
  (A:(∀x∈l,x.key≠.int .i64 s)->Φ z Z22) (G:∀l1 e l2,l=l1++e::l2->e.key=.int .i64 s->Φ e.val Z22):AH P (Instr.lookup T (.map (some b)) (.int .i64 s) false) Z22 Φ:=by
 obtain⟨v,hq,hy⟩:=Jr (T:=T) (K:=K) (s:=s) (Q:=λv=>Φ v Z22) hm hz A G;exact AH.pu hy hq
theorem Y7 [t:MpI P T K V](A:Ak Z22 b l clock):YF P (Builtin.len_ #[T] ty #[.map (some b)]) Z22 (.int .i64 l.length):=λw G=>by
 have:=G _ _ A.1;simp[Builtin.len_,run_underlying t.P9,run_getObj_map this,goInt,Result.andThen]
abbrev CP (s:Int)(v:Value)(n:Nat):MapEntry:={ key:=.int .i64 s,val:=v,born:=n }
theorem FI [t:MpI P T K V](hm:Ak Z22 b l clock){v:Value}{Φ:Unit->Hp->Prop}
  (h0:(∀x∈l,x.key≠.int .i64 s)->∀Z'2,Z'2=Z22.set b (.map (l++[CP s v clock]).toArray (clock+1))->Ak Z'2 b (l++[CP s v clock]) (clock+1)->Φ () Z'2)
  (h1:∀A e l2,l=A++e::l2->e.key=.int .i64 s->∀Z'2,Z'2=Z22.set b (.map (A++CP s v e.born::l2).toArray clock)->Ak Z'2 b (A++CP s v e.born::l2) clock->Φ () Z'2) :
  AH P (Instr.mapUpdate T (.map (some b)) (.int .i64 s) v) Z22 Φ:=by
 obtain⟨hb,Ei,hk⟩:=hm;rcases CL (s:=s) hk with ⟨hf,hn⟩|⟨A,e,l2,hl,he,hf⟩
 .have MD:(l++[CP s v clock]).toArray=l.toArray.push (CP s v clock):=by simp
  refine AH.obj (v:=()) (o':=.map (l++[CP s v clock]).toArray (clock+1)) hb (λw hs=>⟨w,.inl rfl,?_⟩) (h0 hn _ rfl ⟨Hp.AA _ _ _,?_,?_⟩)
  .have:=hs _ _ hb;rw[MD];simp only[Instr.mapUpdate,Sem.run_bind,run_underlying t.P9,run_getObj_map this,run_checkKey t.key (k:=.int .i64 s) rfl,run_findKey t.key hf,Result.andThen_ok];simp[setObj,Sem.run,this,ChangeMaps.setBlock]
  .rw[MD];exact stamped_push Ei (by simpa using hn)
  .intro x G;rcases Ae9.1 G with G|G
   .exact hk x G
   .rw[Aev]at G;subst G;rfl
 .subst hl;have IL:(A++CP s v e.born::l2).toArray=(A++e::l2).toArray.modify A.length (λe=>{ e with key:=.int .i64 s,val:=v }):=by
   rw[<-AfM];apply Afo
   intro j;simp only[Afc,Af5,AgQ];by_cases hj:A.length=j
   .subst hj;simp
   .rw[Aeu hj];rcases Afp j A.length with h|h
    .rw[Ae8 h,Ae8 h]
    .have:∃k,j=A.length+(k+1):=⟨j-A.length-1,by omega⟩;obtain⟨k,rfl⟩:=this;simp[AfJ]
  have Ib:(A++e::l2).toArray[A.length]?=some e:=by simp
  refine AH.obj (v:=()) (o':=.map (A++CP s v e.born::l2).toArray clock) hb (λw hs=>⟨w,.inl rfl,?_⟩) (h1 A e l2 rfl he _ rfl ⟨Hp.AA _ _ _,?_,?_⟩)
  .have:=hs _ _ hb;rw[IL];simp only[Instr.mapUpdate,Sem.run_bind,run_underlying t.P9,run_getObj_map this,run_checkKey t.key (k:=.int .i64 s) rfl,run_findKey t.key hf,Result.andThen_ok,Ib,Afv,AhQ,he,
    run_keyThatStays (d:=.int .i64) (k:=.int .i64 s) rfl]
   simp[setObj,Sem.run,this,ChangeMaps.setBlock]
  .rw[IL];exact stamped_modify Ei _ _ (λ_ _=>rfl) (λe' _ oe=>by rw[Ib]at oe;cases oe;exact he.symm)
  .intro x G;rcases Ae9.1 G with G|G
   .exact hk x (Afk _ G)
   .rcases Ae5.1 G with rfl|G
    .rfl
    .exact hk x (Afs _ (Aey _ G))
theorem IM [t:MpI P T K V](hm:Ak Z22 b l clock){Φ:Value->Hp->Prop}
  (h0:(∀x∈l,x.key≠.int .i64 s)->∀Z'2,Z'2=Z22.set b (.map l.toArray clock)->Ak Z'2 b l clock->Φ (.tuple #[]) Z'2)
  (h1:∀G e l2,l=G++e::l2->e.key=.int .i64 s->∀Z'2,Z'2=Z22.set b (.map (G++l2).toArray clock)->Ak Z'2 b (G++l2) clock->Φ (.tuple #[]) Z'2) {A:Array TypeId} (hA:A[0]?=some T) :
  AH P (Builtin.delete_ A ty #[.map (some b),.int .i64 s]) Z22 Φ:=by
 obtain⟨hb,Ei,hk⟩:=hm;rcases CL (s:=s) hk with ⟨hf,hn⟩|⟨G,e,l2,hl,he,hf⟩
 .refine AH.obj (v:=.tuple #[]) (o':=.map l.toArray clock) hb (λw hs=>⟨w,.inl rfl,?_⟩) (h0 hn _ rfl ⟨Hp.AA _ _ _,Ei,hk⟩);have:=hs _ _ hb;simp[Builtin.delete_,hA,run_underlying t.P9,run_getObj_map this,run_checkKey t.key (k:=.int .i64 s) rfl,run_findKey t.key hf,Result.andThen,setObj,Sem.run,this,ChangeMaps.setBlock]
 .subst hl;have IL:(G++l2).toArray=(G++e::l2).toArray.eraseIdxIfInBounds G.length:=by
   rw[<-AfM];simp[Array.eraseIdxIfInBounds,Agm]
  refine AH.obj (v:=.tuple #[]) (o':=.map (G++l2).toArray clock) hb (λw hs=>⟨w,.inl rfl,?_⟩) (h1 G e l2 rfl he _ rfl ⟨Hp.AA _ _ _,?_,?_⟩)
  .have:=hs _ _ hb;rw[IL];simp only[Builtin.delete_,hA,AgQ,Af0,Afd,Sem.run_bind,run_underlying t.P9,run_getObj_map this,run_checkKey t.key (k:=.int .i64 s) rfl,run_findKey t.key hf,Result.andThen_ok];simp[setObj,Sem.run,this,ChangeMaps.setBlock,Result.andThen]
  .rw[IL];exact stamped_erase Ei _
  .intro x hx;rcases Ae9.1 hx with hx|hx
   .exact hk x (Afk _ hx)
   .exact hk x (Afs _ (Aey _ hx))
theorem Js [t:MpI P T K V](A:Ak Z22 b l clock){Φ:Value->Hp->Prop}(h:∀i o,Z22 i=none->Cs (Z22.set i o) i b l l clock->Φ (.pointer (some ⟨i,0,none⟩)) (Z22.set i o)):AH P (Instr.range T (.map (some b))) Z22 Φ:=
 AH.new (v:=λi=>.pointer (some ⟨i,0,none⟩)) (o:=.mapIter (some b) clock #[] clock) (λw G=>by
  have:=G _ _ A.1;simp[Instr.range,run_underlying t.P9,run_getObj_map this,Result.andThen]) λi hi=>h i _ hi ⟨#[],clock,Hp.AA _ _ _,Ae1 _,by simp[leftOf,AgM.2]⟩
theorem ME (hm:Ak Z22 b l clock){i:Nat}{L:List MapEntry}(hi:Cs Z22 i b l L clock){Φ:Value->Hp->Prop}
  (h0:L=[]->Φ (.tuple #[.bool false]) Z22)
  (h1:∀e∈L,e∈l->∀o,(∀O2,O2 i=some o->Cs O2 i b l (L.filter λx=>x.born != e.born) clock)->
   (∀O2,O2 i=some o->O2 b=Z22 b->∀{Ψ:Value->Hp->Prop},Ψ (.tuple #[e.key,e.val]) O2->AH P (Instr.entry (.pointer (some ⟨i,0,none⟩))) O2 Ψ)->Φ (.tuple #[.bool true,e.key,e.val]) (Z22.set i o)) :
  AH P (Instr.next (.pointer (some ⟨i,0,none⟩)) false ty) Z22 Φ:=by
 obtain⟨seen,c0,hi,hc,rfl⟩:=hi;obtain⟨hb,Ei,A⟩:=hm;have hold:∀x∈l.toArray.toList,x.born<clock:=Ei.1;intro w F hs hF;rcases run_next_at (P:=P) w ty i b clock c0 seen l.toArray clock (hs _ _ hi) (hs _ _ hb) hold hc with ⟨h,Cd⟩|⟨e,he,w1,Uv,Cd⟩
 .exact⟨_,w,Z22,Cd,h0 (Ae6 (by simpa using h)),hs,λk A=>⟨(hF k A).2,rfl⟩,.same rfl rfl rfl,rfl,Ae1 _⟩
 .have hel:=(mem_left he).1;have h2:=h1 e he (by simpa using hel) (.mapIter (some b) clock (seen.push e.born) clock) (λO2 hτ=>⟨_,_,hτ,Ae1 _,Rf.symm⟩) (λO2 hτ uA Ψ hΨ=>AH.pu (λw' PL=>run_entry_at w' i b clock seen l.toArray clock e (PL _ _ hτ) (PL _ _ (uA.trans hb)) hel Ei.2.1) hΨ);have Aq:i<w.heap.size:=(AfA.1 (hs _ _ hi)).1;have DH:w1.heap=w.heap:=by rcases Uv with rfl|rfl<;>rfl
  refine⟨_,_,_,Cd,h2,λk u A=>?_,λk A=>?_,?_,?_,?_⟩
  .simp only[ChangeMaps.setBlock,DH];by_cases G:k=i
   .subst G;rw[Hp.AA]at A;cases A;simp[Aq]
   .rw[Hp.AB G]at A;simp[AfT G,hs k u A]
  .have G:k≠i:=λe=>by have:=(hF k A).2;rw[e,hi]at this;cases this
   refine⟨by rw[Hp.AB G];exact(hF k A).2,?_⟩;simp[ChangeMaps.setBlock,DH,AfT G]
  .rcases Uv with rfl|rfl
   .exact .same rfl rfl rfl
   .exact⟨rfl,rfl,λ_=>⟨1,rfl⟩⟩
  .rcases Uv with rfl|rfl<;>rfl
  .simp[ChangeMaps.setBlock,DH]
end
end
end TwI
end
section
namespace Tw
open Go
variable [I9]
def Uw (s:ByteArray):List Value:=s.data.toList.map λb=>.int .u8 b.toNat
theorem uB {s:ByteArray}:(Uw s).length=s.size:=by simp[Uw]
theorem uC {s:ByteArray}:Ej (Uw s):=λu A=>by obtain⟨x,_,rfl⟩:=AfC.1 A;rfl
section append
variable {P:Program}{T E ty:TypeId}{bs:Nat}{Z22:Hp}{p:Option Addr}{n c m:Nat}{cs ys:List Value}{Φ:Value->Hp->Prop}
theorem Ux {str:ByteArray}(w:World)(size:Nat):(Builtin.firstCells size str.size (.string str)).run P w=.ok (Uw str).toArray w:=by
 have hx:(Array.map (λb:UInt8=>Value.int IntKind.u8 (b.toNat:Int)) str.data).extract 0 str.size=(Uw str).toArray:=by
  have G:str.size=(Array.map (λb:UInt8=>Value.int IntKind.u8 (b.toNat:Int)) str.data).size:=by rw[Array.size_map];rfl
  rw[G,Ah6];apply AiJ
  simp[Uw]
 have A:Array.map (λb:UInt8=>Value.int IntKind.u8 (b.toNat:Int)) str.data=(Uw str).toArray:=by apply AiJ;simp[Uw]
 simp[Builtin.firstCells,A]
theorem lh [h:MZ P T E 1 bs]{U:TypeId}{str:ByteArray}(hU:P.underlying U=some .string)(Bu:Own 1 Z22 p n c cs)(hm:str.size=m)(JN:Uw str=ys)(hb:(n+m)*bs<=140737488355328)
  (hΦ:∀p' c' Z'2,Own 1 Z'2 p' (n+m) c' (cs++ys)->Ext (Z22.del p) (Z'2.del p')->((p'=p/\c'=c/\n+m<=c)\/(c<n+m/\Ext Z22 Z'2/\∀a,p'=some a->Z22 a.block=none))->Φ (.slice p' (n+m) c') Z'2) :
  AH P (Builtin.append_ #[T,U] ty #[.slice p n c,.string str]) Z22 Φ:=by
 obtain⟨ht,⟨i,z,hi,hz,WT,rfl,hzs⟩,Gb,Ws⟩:=h;have h1:Ej ys:=JN▸uC;have gQ:ys.length=m*1:=by rw[<-JN,<-hm,Afa];exact uB
 have h62:n+m<=140737488355328:=AfU (Agz _ Ws) hb;intro w F hs hF;have hf:=Ux (P:=P) (str:=str) w 1;rw[JN,hm]at hf;have RM:=λw':World=>Ux (P:=P) (str:=str) w' 1;rw[JN,hm]at RM;have Cq:=λw' (hw:Sat Z22 w')=>Hr (P:=P) (d:=c) w' hw Bu.rd;have A:(cs++ys).length=(n+m)*1:=by rw[Aet,Bu.1,gQ,Afn]
 by_cases E9:n+m<=c
 ·
  rcases Bu.2.2 with ⟨hp,hn,hc⟩|⟨b,o,arr,T',rfl,G,Wp,Dz,KI⟩
  .subst hp hn hc;have hm:m=0:=by omega
   subst hm;have JN:ys=[]:=Ae6 (by simpa using gQ);have KI:cs=[]:=Ae6 (by simpa using Bu.1);subst JN KI;refine⟨.slice none 0 0,w,Z22,?_,hΦ none 0 Z22 Own.nil (Ext.refl _) (.inl ⟨rfl,rfl,E9⟩),hs,λb hb=>⟨(hF b hb).2,rfl⟩,.same rfl rfl rfl,rfl,Ae1 _⟩;simp[Builtin.append_,run_underlying ht,run_underlying hU,WT,hm,Go.sizeOf,typeInfo,hi,Builtin.lenOf,hf]
  .have hw:=hs _ _ G;have ADn:o+n*1+0+ys.length<=arr.size:=by
    rw[gQ];have:(n+m)*1<=c*1:=AfK _ E9;rw[Afn]at this;omega
   have Ei:=EX (P:=P) b (o+n*1) T' ys 0 arr w hw ADn h1;simp only[AgY,Afa]at Ei;refine⟨.slice (some ⟨b,o,none⟩) (n+m) c,w.setRow b (F0 arr (o+n) ys),Z22.set b (.cells (F0 arr (o+n) ys) T' (0,0)),?_,hΦ _ _ _ ⟨A,by omega,.inr ⟨b,o,_,T',rfl,Hp.AA _ _ _,E9,by rw[G7];exact Dz,?_⟩⟩ (by rw[Hp.Dd];exact Ext.refl _) (.inl ⟨rfl,rfl,E9⟩),?_⟩
   .simp[Builtin.append_,run_underlying ht,run_underlying hU,WT,hm,Go.sizeOf,typeInfo,hi,Builtin.lenOf,E9,hf,Cm,Ei]
   .refine Afo λj=>?_;rw[AfP];simp only[AfX,Afc];rw[TZ _ _ _ _ (by omega),Ags];have e1:cs.length=n*1:=Bu.1;have e2:ys.length=m*1:=gQ;have e3:(n+m)*1=n*1+m*1:=Afn ..;by_cases yZ:j<cs.length
    .rw[Aex (by omega),Aeu (by omega),Aex yZ,<-KI,AfP,Aex (by omega)];simp
    .rw[Aeu yZ];by_cases hj2:j<(n+m)*1
     .rw[Aex hj2,Aex (by omega),show o+j-(o+n)=j-cs.length by omega]
     .rw[Aeu hj2,Afq (by omega)]
   .refine⟨λk u hk=>?_,λk hk=>?_,.same rfl rfl rfl,rfl,by simp⟩
    .by_cases D1:k=b
     .subst D1;rw[Hp.AA]at hk;cases hk;exact setRow_heap w k arr _ T' (0,0) hw
     .rw[Hp.AB D1]at hk;rw[setRow_other _ _ _ _ D1];exact hs k u hk
    .have D1:k≠b:=λh=>by have:=(hF k hk).2;rw[h,G]at this;cases this
     exact⟨by rw[Hp.AB D1];exact(hF k hk).2,setRow_other _ _ _ _ D1⟩
 ·
  have ABe:Builtin.nextslicecap (n+m) c*i.bytes<=281474976710656:=growslice_fits (by omega) hb;have hgc:=grownCap_ge w (n+m) c E;have PL:Sat Z22 w.drew:=hs;have Cd:(Builtin.append_ #[T,U] ty #[.slice p n c,.string str]).run P w =
    .ok (.slice (some ⟨w.heap.size,0,none⟩) (n+m) (grownCap w (n+m) c E))
     (w.drew.alloc (.cells (cs.toArray++ys.toArray++Builtin.zeroCells z.cells (grownCap w (n+m) c E-(n+m))) E)):=by
   have rN:¬(9223372036854775807<((n:Int)+(m:Int))):=by omega
   have rO:¬(281474976710656<Builtin.nextslicecap (n+m) c*i.bytes):=by omega
   simp[Builtin.append_,run_underlying ht,run_underlying hU,WT,hm,Go.sizeOf,typeInfo,zeroValue,hi,hz,Builtin.lenOf,E9,rN,rO,Question.forced,RM,Cq _ PL,newRow,grownCap]
   congr 2
   apply AiJ
   simp[Aew]
  refine⟨_,_,Z22.set w.heap.size _,Cd,hΦ _ _ _ ⟨A,by omega,.inr ⟨w.heap.size,0,_,E,rfl,Hp.AA _ _ _,hgc,?_,?_⟩⟩ ?_ (.inr ⟨by omega,Ext.set (DI hs),λa ha=>by cases ha;exact DI hs⟩),Fin.alloc hs hF _ rfl ⟨rfl,rfl,λ_=>⟨1,rfl⟩⟩ rfl⟩
  .simp only[Aha,Agh,size_zeroCells,hzs,Bu.1,gQ,<-Afn];have:n+m+(grownCap w (n+m) c E-(n+m))=grownCap w (n+m) c E:=by omega
   rw[this];omega
  .simp only[Agl,Ago];rw[<-A];exact AhD
  .rw[Hp.QA (DI hs)];exact Ext.B5 Z22 p
end append
end Tw
end
section
namespace Tw
open Go
variable [I9]
def Hp.or (N M:Hp):Hp:=λk=>match N k with | some o=>some o | none=>M k
def Hp.minus (Z22 N:Hp):Hp:=λk=>match N k with | some _=>none | none=>Z22 k
def WU (N M:Hp):Prop:=∀k,M k≠none->N k=none
theorem Hp.Uy {N M:Hp}{k:Nat}{o:Obj}(h:N k=some o):N.or M k=some o:=by simp[Hp.or,h]
theorem Hp.NH {N M:Hp}{k:Nat}(h:N k=none):N.or M k=M k:=by simp[Hp.or,h]
theorem Ext.Uy (N M:Hp):Ext N (N.or M):=λ_ _ h=>Hp.Uy h
theorem Ext.NH {N M:Hp}(hd:WU N M):Ext M (N.or M):=λk o h=>by rw[Hp.NH (hd k (by rw[h];simp))];exact h
theorem Ext.ALO {N M Z22:Hp}(A:Ext N Z22)(G:Ext M Z22):Ext (N.or M) Z22:=λk o h=>by
 unfold Hp.or at h;split at h
 .rename_i u hu;cases h;exact A _ _ hu
 .exact G _ _ h
theorem Hp.Gu {Z22 N:Hp}{k:Nat}{o:Obj}:Z22.minus N k=some o↔N k=none/\Z22 k=some o:=by
 unfold Hp.minus;cases N k<;>simp
theorem Ext.Qg (Z22 N:Hp):Ext (Z22.minus N) Z22:=λ_ _ h=>(Hp.Gu.1 h).2
theorem WU.minus (Z22 N:Hp):WU N (Z22.minus N):=λk h=>by
 cases A:Z22.minus N k with
 | none=>exact absurd A h
 | some o=>exact(Hp.Gu.1 A).1
theorem Spec.Gv {P:Program}{f:FuncId}{args:Array Value}{N M Z22:Hp}{R:Rr}(hN:Ext N Z22)(hM:Ext M Z22)(hd:WU N M)
  (h:Spec P f args N (λe N'=>WU N' M->R e (N'.or M))):Spec P f args Z22 R:=λw F hs hF=>by
 have hMs:∀k,M k≠none->∃o,M k=some o/\w.heap[k]?=some o:=λk A=>by
  cases hh:M k with
  | none=>exact absurd hh A
  | some o=>exact⟨o,rfl,hs _ _ (hM _ _ hh)⟩
 refine(h w (λk=>F k\/M k≠none) (λk o A=>hs _ _ (hN _ _ A)) λk A=>?_).mono ?_
 .rcases A with A|A
  .exact⟨(hF k A).1,AT hN (hF k A).2⟩
  .obtain⟨o,_,ho⟩:=hMs k A;exact⟨(AfA.1 ho).1,hd k A⟩
 .rintro e w' ⟨N',hr,G⟩
  have dj:WU N' M:=λk A=>(G.Cc k (.inr A)).1;refine⟨N'.or M,hr dj,λk o A=>?_,λk A=>⟨?_,(G.Cc k (.inl A)).2⟩,G.os,G.out,G.grow⟩
  .unfold Hp.or at A;split at A
   .rename_i u hu;cases A;exact G.sat _ _ hu
   .have AR:M k≠none:=by rw[A];simp
    obtain⟨o',h1,h2⟩:=hMs k AR;rw[A]at h1;cases h1;rw[(G.Cc k (.inr AR)).2];exact h2
  .rw[Hp.NH (G.Cc k (.inl A)).1];exact AT hM (hF k A).2
end Tw
end
section
namespace TwW
open Go Tw Go.Proofs.Tryz
theorem AD {Z22:Hp}{b o:Nat}{c:Array Value}{t:TypeId}{fr:Nat×Nat}{v:Value}(h:Z22 b=some (.cells c t fr))(hv:c[o]?=some v):Z22.ld ⟨b,o,none⟩=some v:=by simp[Hp.ld,h,hv]
end TwW
namespace TwW
open Go Tw Go.Proofs.Tryz
section
variable {Z22:Hp}{d:Nat}{S:List Nat}{R:Rr}
theorem Own.cap {s:Nat}{Z22:Hp}{p:Option Addr}{n c:Nat}{cs:List Value}(h:Own s Z22 p n c cs):n<=c:=by
 rcases h.2.2 with ⟨_,G,h2⟩|⟨b,o,arr,T,_,_,A,_⟩
 .omega
 .exact A
end
end TwW
namespace TwW
open Go Tw Go.Proofs.Tryz
def uv (x:Nat):List Int:=if h:128<=x then((x%128+128:Nat):Int)::uv (x/128) else[(x:Int)]
termination_by x
decreasing_by omega
theorem GL {x:Nat}(h:128<=x):uv x=((x%128+128:Nat):Int)::uv (x/128):=by rw[uv,dif_pos h]
theorem Ci {x:Nat}(h:¬128<=x):uv x=[(x:Int)]:=by rw[uv,dif_neg h]
theorem jS:∀(k x:Nat),x<128^(k+1)->(uv x).length<=k+1
 | 0,x,h=>by rw[Ci (by simpa using h)];simp
 | k+1,x,h=>by
  by_cases A:128<=x
  .rw[GL A];have:=jS k (x/128) (by rw[Agc (by decide)];rw[AgP]at h;exact h);simp;omega
  .rw[Ci A];simp
theorem Ai {x:Nat}(h:x<18446744073709551616):(uv x).length<=10:=jS 9 x (by omega)
set_option maxRecDepth 100000 in
theorem ACr:∀y:Fin 256,Go.bits .or .u8 (y.1:Int) 128=((y.1%128+128:Nat):Int):=by decide
theorem GM {R:Rr}{Z22:Hp}{p:Option Addr}{n c x:Nat}{xs:List Int}(hr:Be .u8 Z22 p n xs)(hn:n<=70368744177664)(hx:x<18446744073709551616)
  (h:∀p' A c' Z'2,A2 .u8 (Z22.new Z'2) p' A c' (xs++uv x)->Ext Z22 Z'2->R (.returned (.slice p' A c')) Z'2):Spec prog 175 #[.slice p n c,.U x] Z22 R:=by
 refine FF.start λb hb=>?_;refine CF Own.empty ((Kt.of_map hr).mono (.set hb)) Ej.Gz (by omega) λp' c' Z'2 Bu Hm=>?_;have hq:∀a:Addr,(some (⟨b,0,none⟩:Addr))=some a->Z22 a.block=none:=λa ha=>by cases ha;exact hb
 have ho:=Own.HL Bu (EC hq Hm (.set hb));have he:=Ek hq Hm (.set hb);refine⟨p',0+n,c',rfl,?_⟩;rw[AfW]at ho ⊢;have hlen:=hr.1
 suffices H:∀(k x A:Nat) p' c' Z'2 ys,x<128^(k+1)->A+k<=n+9->A2 .u8 (Z22.new Z'2) p' A c' ys->Ext Z22 Z'2->(∀p' A c' Z'2,A2 .u8 (Z22.new Z'2) p' A c' (ys++uv x)->Ext Z22 Z'2->R (.returned (.slice p' A c')) Z'2)->FF.HT R x p' A c' Z'2 from
  H 9 x n p' c' Z'2 xs (by omega) (by omega) ho he h
 intro k
 induction k with
 | zero=>
  intro x A p' c' Z'2 ys hx rG ho he h;refine FF.CJ ⟨λAq=>by omega,λ_ En uD b2 KL=>?_⟩;have Rg:En=(x:Int):=by rw[uD];simp[IntKind.wrap,IntKind.bits,IntKind.signed];omega
  subst Rg;refine A2.G8 he ho (by omega) (λp2 c2 Z222 By G _=>⟨p2,A+1,c2,rfl,h _ _ _ _ ?_ G⟩) KL;rw[Ci (by omega)];exact By
 | succ k ih=>
  intro x A p' c' Z'2 ys hx rG ho he h;refine FF.CJ ⟨λAq DA AAC El ASA b2 KL=>?_,λIb En uD b2 KL=>?_⟩
  .have h15:DA=((x%256:Nat):Int):=by rw[AAC];simp[IntKind.wrap,IntKind.bits,IntKind.signed]
   have og:El=((x%128+128:Nat):Int):=by
    rw[ASA,h15,ACr ⟨x%256,AhA _ (by decide)⟩];have:x%256%128=x%128:=by omega
    rw[this]
   subst og;refine A2.G8 he ho (by omega) (λp2 c2 Z222 By G _=>⟨p2,A+1,c2,rfl,by simp[IntKind.bits],λCR AFR=>?_⟩) KL;have h12:CR=((x/128:Nat):Int):=by rw[AFR];simp
   subst h12;refine ih (x/128) (A+1) p2 c2 Z222 _ (by rw[Agc (by decide)];rw[AgP]at hx;exact hx) (by omega) By G λp3 n3 c3 Z3 DG he3=>h p3 n3 c3 Z3 ?_ he3;rw[GL (by omega)];simpa using DG
  .have Rg:En=(x:Int):=by rw[uD];simp[IntKind.wrap,IntKind.bits,IntKind.signed];omega
   subst Rg;refine A2.G8 he ho (by omega) (λp2 c2 Z222 By G _=>⟨p2,A+1,c2,rfl,h _ _ _ _ ?_ G⟩) KL;rw[Ci (by omega)];exact By
theorem uE:∀(v w:Nat) (r s:List Int),uv v++r=uv w++s->v=w/\r=s:=by
 intro v
 induction v using Nat.strongRecOn with
 | _ v G=>
 intro w r s h;by_cases hv:128<=v<;>by_cases A:128<=w
 .rw[GL hv,GL A]at h;simp only[Af3,Agt]at h;have:=G (v/128) (by omega) (w/128) r s h.2;exact⟨by omega,this.2⟩
 .rw[GL hv,Ci A]at h;simp only[Af3,Agt]at h;omega
 .rw[Ci hv,GL A]at h;simp only[Af3,Agt]at h;omega
 .rw[Ci hv,Ci A]at h;simp only[Af3,AgG,Agt]at h;exact⟨by omega,h.2⟩
end TwW
namespace TwW
open Go Tw Go.RowKit Go.Proofs.Tryz
theorem BB.take {α:Type}{s:Nat}{E:Hp->List Value->α->Prop}{Z22:Hp}{p:Option Addr}{n k:Nat}{xs:List α}(h:BB s E Z22 p n xs)(hk:k<=n):BB s E Z22 p k (xs.take k):=by
 obtain⟨h1,cs,A,G⟩:=h;exact⟨by rw[AfE];omega,cs.take (k*s),Kt.take A hk,Ch.take G k⟩
theorem Kt.at1 {Z22:Hp}{p:Option Addr}{n k:Nat}{L:List Value}{v:Value}(h:Kt 1 Z22 p n L)(G:L[k]?=some v):∃b o,p=some ⟨b,o,none⟩/\Z22.ld ⟨b,o+k*1,none⟩=some v:=by
 obtain⟨h1,_,A⟩:=h;have Aq:=(Ae0.1 G).1;rcases A with A|⟨b,o,hp,hl⟩
 .simp at h1;omega
 .refine⟨b,o,hp,?_⟩;rw[Afa];exact hl.get G
end TwW
namespace TwW
open Go Tw Go.RowKit Go.Proofs.Tryz
def Rh (s:ByteArray):List Int:=s.data.toList.map λb=>(b.toNat:Int)
theorem Bb {s:ByteArray}:(Rh s).length=s.size:=by simp[Rh]
theorem dm {s:ByteArray}:Uw s=(Rh s).map (.int .u8):=by simp[Uw,Rh]
theorem Uz (l:List UInt8):strOfNums (l.map λb=>(b.toNat:Int))=⟨l.toArray⟩:=by
 apply Agx
 apply AfM.1
 rw[strOfNums_data,Afg]
 conv=>rhs;rw[<-Ah0 l]
 exact Af8 λa _=>by simp
theorem XZ {s:ByteArray}:strOfNums (Rh s)=s:=by
 rw[Rh,Uz]
theorem lj {s t:ByteArray}(h:Rh s=Rh t):s=t:=by rw[<-XZ (s:=s),h,XZ]
section
variable {Z22:Hp}{R:Rr}
theorem Kh {p:Option Addr}{n c:Nat}{xs:List Int}{s:ByteArray}(hr:Be .u8 Z22 p n xs)(hn:n<=35184372088832)(hs:s.size<=35184372088832)
  (h:∀p' A c' Z'2,A2 .u8 (Z22.new Z'2) p' A c' (xs++uv s.size++Rh s)->Ext Z22 Z'2->R (.returned (.slice p' A c')) Z'2):Spec prog 105 #[.slice p n c,.string s] Z22 R:=by
 refine No.start λx8 h8=>?_;have e8:x8=(s.size:Int):=by rw[h8];simp[IntKind.wrap,IntKind.bits,IntKind.signed];omega
 subst e8;refine GM hr (by omega) (by omega) λp' A c' G ho Ct=>⟨p',A,c',rfl,?_⟩;have hq:∀a,p'=some a->Z22 a.block=none:=λa ha=>by
  have h2:=Own.block ho a ha;cases hh:(Z22.new G) a.block with
  | none=>exact absurd hh h2
  | some o=>exact(AW.1 hh).1
 have hl:(xs++uv s.size).length=A:=by have:=ho.1;simpa using this
 have h10:=Ai (x:=s.size) (by omega);have Y9:xs.length=n:=hr.1;rw[Aet]at hl;refine lh underlying9 (Own.mono (Ext.Cp _ _) ho) rfl dm (by omega) λp2 c2 Z222 By BD _=>⟨p2,_,c2,rfl,?_⟩;have KL:=EC hq BD Ct;refine h p2 _ c2 Z222 ?_ (Ek hq BD Ct);have:=Own.HL By KL;simpa[A2] using this
theorem Sj {p:Option Addr}{n c:Nat}{xs:List Int}(h:A2 .u8 Z22 p n c xs):xs.length=n:=by have:=h.1;simpa using this
theorem Qh {s:ByteArray}:(ByteArray.toList s==ByteArray.toList (ByteArray.mk #[]))=decide (s.size=0):=by
 rw[ByteArray.toList_eq,ByteArray.toList_eq];by_cases h:s.size=0
 .have:s=⟨#[]⟩:=Agx (Agu h);subst this;rfl
 .rw[Aga h];simp only[Ag1];intro e;apply h
  have:=Ae4 List.length e;simpa using this
end
end TwW
namespace TwW
open Go Tw Go.RowKit Go.Proofs.Tryz
abbrev Lb:=ByteArray×ByteArray
def Eh (_:Hp)(vs:List Value)(x:Lb):Prop:=vs=[.string x.1,.string x.2]
theorem Eh.mono:Lq Eh:=λ_ _ _ _ _ h=>h
abbrev I1:=BB 2 Eh
section
variable {Z22:Hp}{R:Rr}
theorem I1.at {p:Option Addr}{n i:Nat}{ls:List Lb}{x:Lb}(G:I1 Z22 p n ls)(hx:ls[i]?=some x):∃b o,p=some ⟨b,o,none⟩/\Bm Z22 b (o+i*2) [.string x.1,.string x.2]:=by
 obtain⟨b,o,vs,hp,rfl,A⟩:=BB.idx G hx;exact⟨b,o,hp,A⟩
theorem eqS {s t:ByteArray}:(s.toList==t.toList)=decide (s=t):=by
 rw[ByteArray.toList_eq,ByteArray.toList_eq];by_cases h:s=t
 .subst h;simp
 .rw[Aga h,Ag1];exact λe=>h (Agx (AfM.1 e))
theorem aA {α:Type}{xs:List α}{k:Nat}{y:α}(A:xs[k]?=some y):xs.drop k=y::xs.drop (k+1):=by
 obtain⟨h,rfl⟩:=Ae0.1 A;exact Agr h
theorem AAD {s:ByteArray}{ok:UInt8->Bool}{pt:Int->Prop}{G:Bool->Prop}
  (gx:G true->pt s.size) (HZ:∀(k:Nat) (u:UInt8),k<s.size->s.data[Int.toNat (k:Int)]?=some u->AK ((k:Int)+1)->(ok u=true->pt ((k:Int)+1))->(ok u=false->G false)->pt k)
  (h:G (s.data.toList.all ok)) (hb:s.size<=4611686018427387904):pt 0:=by
 have Dz:s.data.toList.length=s.size:=rfl
 suffices H:∀d k:Nat,s.size-k=d->k<=s.size->(s.data.toList.take k).all ok=true->pt k from H s.size 0 rfl (AfI _) rfl
 intro d
 induction d with
 | zero=>
  intro k hd hk A;rw[Ae7 (by omega)]at A;rw[A]at h;have:k=s.size:=by omega
  rw[this];exact gx h
 | succ d ih=>
  intro k hd hk A;have JO:k<s.size:=by omega
  obtain⟨u,hu⟩:∃u,s.data.toList[k]?=some u:=⟨_,Ae3 (by omega)⟩;refine HZ k u JO (by simpa using hu) (by unfold AK;omega) (λhc=>ih (k+1) (by omega) (by omega) (by rw[AL hu,Agb,A];simpa using hc)) λhc=>?_;have:s.data.toList.all ok=false:=by
   rw[AiF];exact⟨u,Ae2 hu,by simp[hc]⟩
  rwa[this]at h
def dgt (u:UInt8):Bool:=decide (48<=u.toNat/\u.toNat<=57)
def nch (u:UInt8):Bool:=decide (u.toNat=95\/(48<=u.toNat/\u.toNat<=57)\/(65<=u.toNat/\u.toNat<=90)\/(97<=u.toNat/\u.toNat<=122))
def aB (s:ByteArray):Bool:=decide (0<s.size)&&decide (s.size<=64)&&!(s.data.toList.head?.any dgt)&&s.data.toList.all nch
theorem U0 {s:ByteArray}(h:R (.returned (.bool (aB s))) Z22):Spec prog 131 #[.string s] Z22 R:=by
 have Dz:s.data.toList.length=s.size:=rfl;refine Gr.start ⟨λA=>?_,λA=>⟨λh1=>?_,λh1=>?_⟩⟩
 .rw[Qh,AfQ]at A;simpa[aB,A] using h
 .have:¬s.size<=64:=by omega
  simpa[aB,this] using h
 .rw[Qh,AgA]at A;obtain⟨u,hu⟩:∃u,s.data.toList[0]?=some u:=⟨_,Ae3 (by omega)⟩;have bO:s.data[Int.toNat (0:Int)]?=some u:=by simpa using hu
  have hh:s.data.toList.head?=some u:=by rw[<-hu];cases s.data.toList<;>rfl
  have rest:dgt u=false->Gr.BM R s 0 Z22:=λhd=>by
   have e:aB s=s.data.toList.all nch:=by simp[aB,show 0<s.size by omega,show s.size<=64 by omega,hh,hd]
   rw[e]at h;refine AAD (s:=s) (pt:=λk=>Gr.BM R s k Z22) (ok:=nch) (G:=λt=>R (.B t) Z22) (λg=>Gr.Bg ⟨λAq=>by omega,λ_=>g⟩) (λk u hk hu hi good bad=>?_) h (by omega);simp only[nch,AfQ,AgA]at good bad;refine Gr.Bg ⟨λAq=>⟨u,by omega,hu,?_⟩,λIb=>by omega⟩;clear h;generalize u.toNat=n at good bad
   repeat' (first|refine⟨λ_=>?_,λ_=>?_⟩|exact⟨hi,good (by omega)⟩|exact bad (by omega))
  simp only[dgt,AgA]at rest;refine⟨u,by omega,bO,λh2=>⟨u,by omega,bO,λh3=>?_,λh3=>rest (by omega)⟩,λh2=>rest (by omega)⟩;have:dgt u=true:=by simp[dgt];omega
  simpa[aB,hh,this] using h
def vl:Nat->Nat->Nat->List UInt8->Bool
 | 0,_,_,[]=>true
 | _+1,_,_,[]=>false
 | 0,_,_,c::r=>
  if c.toNat<128 then vl 0 128 191 r
  else if 194<=c.toNat/\c.toNat<=223 then vl 1 128 191 r
  else if 224<=c.toNat/\c.toNat<=239 then(if c.toNat=224 then vl 2 160 191 r else if c.toNat=237 then vl 2 128 159 r else vl 2 128 191 r)
  else if 240<=c.toNat/\c.toNat<=244 then(if c.toNat=240 then vl 3 144 191 r else if c.toNat=244 then vl 3 128 143 r else vl 3 128 191 r)
  else false
 | m+1,lo,hi,c::r=>if c.toNat<lo\/hi<c.toNat then false else vl m 128 191 r
def WV (s:ByteArray):Bool:=vl 0 128 191 s.data.toList
theorem vl0 (l:List UInt8)(a b c d:Nat):vl 0 a b l=vl 0 c d l:=by cases l<;>rfl
attribute [local irreducible] BC.EK BC.Ia BC.TL in
theorem TM {s:ByteArray}(hb:s.size<=4611686018427387904)(h:R (.returned (.bool (WV s))) Z22):Spec prog 132 #[.string s] Z22 R:=by
 have Dz:s.data.toList.length=s.size:=rfl;refine BC.start ?_
 suffices H:∀d:Nat,(∀k:Nat,s.size-k=d->k<=s.size->WV s=vl 0 128 191 (s.data.toList.drop k)->BC.EK R s k Z22)/\
   (∀(k m lo hi:Nat),s.size-k=d->k<=s.size->WV s=vl m lo hi (s.data.toList.drop k)->m<=3->BC.TL R s k m lo hi Z22) from(H s.size).1 0 (by omega) (by omega) rfl
 intro d
 induction d with
 | zero=>
  have A:∀k:Nat,s.size-k=0->k<=s.size->WV s=vl 0 128 191 (s.data.toList.drop k)->BC.EK R s k Z22:=λk hd hk G=>by
   refine BC.DB ⟨λ_=>?_,λAR=>by omega⟩;rw[Ahe (by omega)]at G;rw[G]at h;exact h
  refine⟨A,λk m lo hi hd hk G hm=>BC.QP ⟨λh0=>A k hd hk ?_,λh0=>⟨λ_=>?_,λAR=>by omega⟩⟩⟩
  .have:m=0:=by omega
   subst this;rw[G];exact vl0 _ _ _ _ _
  .obtain⟨m',rfl⟩:∃m',m=m'+1:=⟨m-1,by omega⟩;rw[Ahe (by omega)]at G;rw[G]at h;exact h
 | succ d ih=>
  have A:∀k:Nat,s.size-k=d+1->k<=s.size->WV s=vl 0 128 191 (s.data.toList.drop k)->BC.EK R s k Z22:=λk hd hk G=>by
   have JO:k<s.size:=by omega
   obtain⟨u,hu⟩:∃u,s.data.toList[k]?=some u:=⟨_,Ae3 (by omega)⟩;have bO:s.data[Int.toNat (k:Int)]?=some u:=by simpa using hu
   have hi:AK ((k:Int)+1):=by unfold AK;omega
   rw[aA hu,vl]at G;have st:∀(m lo hi:Nat),m<=3->WV s=vl m lo hi (s.data.toList.drop (k+1))->BC.Ia R s k m lo hi Z22:=λm lo hh hm G=>BC.zt ⟨hi,ih.2 (k+1) m lo hh (by omega) (by omega) G hm⟩;have nx:WV s=vl 0 128 191 (s.data.toList.drop (k+1))->BC.EK R s ((k:Int)+1) Z22:=λG=>ih.1 (k+1) (by omega) (by omega) G;have no:WV s=false->R (.B false) Z22:=λe=>by rw[e]at h;exact h
   refine BC.DB ⟨λAR=>by omega,λ_=>⟨u,by omega,bO,?_⟩⟩;generalize s.data.toList.drop (k+1)=r at G st nx;clear ih h hu bO;generalize u.toNat=n at G;have st1:=st 1 128 191 (by omega);have st2:=st 2 160 191 (by omega);have st3:=st 2 128 159 (by omega);have st4:=st 2 128 191 (by omega);have st5:=st 3 144 191 (by omega);have st6:=st 3 128 143 (by omega);have st7:=st 3 128 191 (by omega)
   repeat' (first|refine⟨λ_=>?_,λ_=>?_⟩|refine⟨hi,nx ?_⟩|refine st1 ?_|refine st2 ?_|refine st3 ?_|refine st4 ?_|refine st5 ?_|refine st6 ?_|refine st7 ?_|refine no ?_)
   all_goals first|(exfalso;clear G;omega)|(rw[G];repeat' (first|rfl|rw[Aex (by omega)] | rw[Aeu (by omega)]))
  refine⟨A,λk m lo hi hd hk G hm=>BC.QP ⟨λh0=>A k hd hk ?_,λh0=>⟨λAR=>by omega,λ_=>?_⟩⟩⟩
  .have:m=0:=by omega
   subst this;rw[G];exact vl0 _ _ _ _ _
  .obtain⟨m',rfl⟩:∃m',m=m'+1:=⟨m-1,by omega⟩;have JO:k<s.size:=by omega
   obtain⟨u,hu⟩:∃u,s.data.toList[k]?=some u:=⟨_,Ae3 (by omega)⟩;have bO:s.data[Int.toNat (k:Int)]?=some u:=by simpa using hu
   rw[aA hu,vl]at G;refine⟨u,by omega,bO,λh1=>?_,λh1=>⟨u,by omega,bO,λh2=>?_,λh2=>⟨by unfold AK;omega,by unfold AK;omega,?_⟩⟩⟩
   .rw[Aex (by omega)]at G;rw[G]at h;exact h
   .rw[Aex (by omega)]at G;rw[G]at h;exact h
   .rw[Aeu (by omega)]at G;have:=ih.2 (k+1) m' 128 191 (by omega) (by omega) G (by omega);have e1:((m'+1:Nat):Int)-1=(m':Nat):=by omega
    rw[e1];exact this
end
end TwW
namespace TwW
open Go Tw Go.RowKit Go.Proofs.Tryz
section
variable {Z22:Hp}{R:Rr}
def sle (a b:ByteArray):Bool:=Op.bytesLess a.toList b.toList||a.toList==b.toList
theorem AFS {x y:Operand}{a b:ByteArray}{T:TypeId}:YF prog (do eqGuard .leq T x y (.string a) (.string b);binOp .leq T (.string a) (.string b)) Z22 (.bool (sle a b)):=λw _=>by
 simp[eqGuard,binOp,Op.stringOp,sle]
def Sk:Option ByteArray->List Lb->Int
 | _,[]=>0
 | pv,x::l=>if aB x.1=false then 31 else if x.2.size=0\/256<x.2.size\/WV x.2=false then 32 else if pv.any (sle x.1 ·)=true then 33 else Sk (some x.1) l
def Pe (ls:List Lb):Int:=if 16<ls.length then 30 else Sk none ls
theorem FR {p:Option Addr}{n c:Nat}{ls:List Lb}(G:I1 Z22 p n ls)(h:R (.returned (.I (Pe ls))) Z22):Spec prog 64 #[.slice p n c] Z22 R:=by
 have hn:ls.length=n:=G.1;refine Fh.start ⟨λh1=>?_,λh1=>?_⟩
 .rw[Pe,Aex (by omega)]at h;exact h
 rw[Pe,Aeu (by omega)]at h
 let pv:Nat->Option ByteArray:=λi=>if i=0 then none else(ls[i-1]?).map (·.1)
 suffices H:∀d i:Nat,n-i=d->i<=n->Sk none ls=Sk (pv i) (ls.drop i)->Fh.Ui R p n c p n c n i Z22 from H n 0 rfl (AfI _) rfl
 intro d
 induction d with
 | zero=>
  intro i hd hi A;refine Fh.QM ⟨λAq=>by omega,λ_=>?_⟩;rw[Ahe (by omega)]at A;rw[A]at h;exact h
 | succ d ih=>
  intro i hd hi A;have IN:i<n:=by omega
  obtain⟨x,hx⟩:=G.ex IN;obtain⟨b,o,rfl,hl⟩:=I1.at G hx;rw[aA hx,Sk]at A;have out:∀e:Int,Sk none ls=e->R (.returned (.I e)) Z22:=λe h1=>h1▸h;refine Fh.QM ⟨λ_=>?_,λhh=>by omega⟩;refine⟨b,o,rfl,by omega,x.1,x.2,by simpa using hl,λ_=>U0 ⟨_,rfl,λh1=>out _ ?_,λh1=>?_⟩⟩
  .rw[A,Aex h1]
  rw[Aeu (by simp[h1])]at A;rw[Qh];refine⟨λh2=>out _ ?_,λh2=>⟨λh3=>out _ ?_,λh3=>TM (by omega) ⟨_,rfl,λh4=>out _ ?_,λh4=>?_⟩⟩⟩
  .rw[A,Aex (.inl (by simpa using h2))]
  .rw[A,Aex (.inr (.inl (by omega)))]
  .rw[A,Aex (.inr (.inr h4))]
  rw[Aeu (by rw[AgA]at h2;simp[h2,h4];omega)]at A;have nx:pv (i+1)=some x.1:=by simp[pv,hx]
  have go:(pv i).any (sle x.1 ·)=false->Fh.Ui R (aD b o) n c (aD b o) n c n ((i:Int)+1) Z22:=λh5=>by
   rw[Aeu (by simp[h5]),<-nx]at A;exact ih (i+1) (by omega) (by omega) A
  refine⟨λh5=>?_,λh5=>⟨E8 IN G.big,go ?_⟩⟩
  .obtain⟨y,hy⟩:=G.ex (k:=i-1) (by omega);obtain⟨b',o',hp,lC⟩:=I1.at G hy;cases hp;have e1:((i:Int)-1).toNat=i-1:=by omega
   have hpv:pv i=some y.1:=by simp[pv,hy,show i≠0 by omega]
   refine⟨by have:=G.big;unfold AK;omega,b,o,rfl,by omega,y.1,by rw[e1];exact lC.1,_,AFS,λh6=>out _ ?_,λh6=>⟨E8 IN G.big,go ?_⟩⟩
   .rw[A,Aex (by rw[hpv];exact h6)]
   .rw[hpv];exact h6
  .have:i=0:=by omega
   simp[pv,this]
theorem Xa:∀{ls:List Lb} {pv:Option ByteArray},Sk pv ls=0->∀x∈ls,aB x.1=true/\0<x.2.size/\x.2.size<=256/\WV x.2=true
 | [],_,_,_,A=>by cases A
 | y::l,pv,h,x,A=>by
  rw[Sk]at h;split at h
  .cases h
  split at h
  .cases h
  split at h
  .cases h
  rename_i G h2 h3;rcases Ae5.1 A with rfl|A
  .simp only[not_or,Bool.not_eq_false]at G h2;exact⟨G,by omega,by omega,h2.2.2⟩
  .exact Xa h x A
def BE (ls:List Lb):Prop:=ls.length<=16/\∀x∈ls,x.1.size<=256/\x.2.size<=256
theorem BE.of {ls:List Lb}(h:Pe ls=0):BE ls:=by
 unfold Pe at h;split at h
 .cases h
 .refine⟨by omega,λx hx=>?_⟩;obtain⟨A,_,G,_⟩:=Xa h x hx;simp[aB]at A;exact⟨by omega,G⟩
theorem Eh.one (Z22:Hp)(vs:List Value)(x:Lb)(h:Eh Z22 vs x):Ej vs:=by
 rw[h];intro u A;simp only[Ae5,Afj,Agd]at A;rcases A with rfl|rfl<;>rfl
theorem Gw {A:Hp}{q:Option Addr}{j c b:Nat}{ls:List Lb}{ty:TypeId}{Φ:Value->Hp->Prop}(ht:I1 A q j ls)(hb:j<=1000000000)
  (hΦ:∀p' c' Z'2,B6 2 Eh (A.new Z'2) p' j c' ls->Ext A Z'2->Φ (.slice p' j c') Z'2) (G:A b=none) :
  AH prog (Builtin.append_ #[51,51] ty #[.slice (some ⟨b,0,none⟩) 0 0,.slice q j c]) (A.set b (.cells #[] 95 (0,0))) Φ:=by
 obtain⟨h1,cs,h2,h3⟩:=ht;refine CF Own.empty (h2.mono (.set G)) (Ch.bn Eh.one h3 (by decide)) (by omega) λp' c' Z'2 Bu Hm=>?_;have hq:∀a:Addr,(some (⟨b,0,none⟩:Addr))=some a->A a.block=none:=λa ha=>by cases ha;exact G
 rw[AfW]at Bu ⊢;rw[AgG]at Bu;exact hΦ p' c' Z'2 ⟨h1,cs,Own.HL Bu (EC hq Hm (.set G)),h3⟩ (Ek hq Hm (.set G))
def Ec (x:Lb):List Int:=uv x.1.size++Rh x.1++(uv x.2.size++Rh x.2)
def Gc (ls:List Lb):List Int:=uv ls.length++ls.flatMap Ec
theorem oh {x:Lb}(h:x.1.size<=256/\x.2.size<=256):(Ec x).length<=532:=by
 have A:=Ai (x:=x.1.size) (by omega);have G:=Ai (x:=x.2.size) (by omega);simp only[Ec,Aet,Bb];omega
theorem dn {ls:List Lb}(h:∀x∈ls,x.1.size<=256/\x.2.size<=256):(ls.flatMap Ec).length<=ls.length*532:=by
 induction ls with
 | nil=>simp
 | cons x l G=>
  have:=G λy A=>h y (Aey _ A);have:=oh (h x (by simp));rw[Afy,Aet,Aez];omega
theorem Xb {ls:List Lb}{k:Nat}{y:Lb}(A:ls[k]?=some y):((ls.take k).flatMap Ec).length+(Ec y).length<=(ls.flatMap Ec).length:=by
 have e:ls=ls.take (k+1)++ls.drop (k+1):=(Afi _ _).symm;have e2:(ls.flatMap Ec).length=((ls.take (k+1)++ls.drop (k+1)).flatMap Ec).length:=by rw[<-e]
 rw[e2,Af9,AL A,Af9,Aet,Aet,Afy,List.flatMap_nil,AfG];omega
theorem Qi {p:Option Addr}{n c:Nat}{ls:List Lb}(hr:I1 Z22 p n ls)(hs:(Gc ls).length<=35184372088832)(h:∀p' n' c' Z'2,A2 .u8 (Z22.new Z'2) p' n' c' (Gc ls)->Ext Z22 Z'2->R (.returned (.slice p' n' c')) Z'2):Spec prog 102 #[.slice p n c] Z22 R:=by
 have hn:ls.length=n:=hr.1;have EW:=hr.big;have AaW:(uv n).length+(ls.flatMap Ec).length<=35184372088832:=by unfold Gc at hs;rw[Aet,hn]at hs;exact hs
 refine GH.start λx8 h8=>?_;have e8:x8=(n:Int):=by rw[h8];simp[IntKind.wrap,IntKind.bits,IntKind.signed];omega
 subst e8;refine GM BB.nil (by omega) (by omega) λp1 n1 c1 Z12 QG Ct=>⟨p1,n1,c1,rfl,?_⟩;rw[AgG]at QG
 suffices H:∀d k:Nat,∀p3 n3 c3 A,n-k=d->k<=n->A2 .u8 (Z22.new A) p3 n3 c3 (uv n++(ls.take k).flatMap Ec)->Ext Z22 A->GH.A3 R p3 n3 c3 p n c n k A from H n 0 p1 n1 c1 Z12 rfl (AfI _) (by simpa using QG) Ct
 intro d
 induction d with
 | zero=>
  intro k p3 n3 c3 A hd hk G hx;refine GH.AY ⟨λAq=>by omega,λ_=>h p3 n3 c3 A ?_ hx⟩;rw[Ae7 (by omega)]at G;rw[Gc,hn];exact G
 | succ d ih=>
  intro k p3 n3 c3 A hd hk G hx;have JO:k<n:=by omega
  obtain⟨y,hy⟩:=hr.ex JO;obtain⟨b,o,rfl,hl⟩:=I1.at hr hy;have hl3:=Sj G;have lk:=Xb hy;have hel:(Ec y).length=(uv y.1.size).length+y.1.size+((uv y.2.size).length+y.2.size):=by simp only[Ec,Aet,Bb]
  rw[Aet]at hl3;refine GH.AY ⟨λ_=>⟨b,o,rfl,by omega,y.1,y.2,by simpa using hl.mono hx,λ_=>?_⟩,λhh=>by omega⟩;refine Kh (A2.rd (Own.mono (Ext.Cp _ _) G)) (by omega) (by omega) λp4 n4 c4 Z4 Tn hx4=>⟨p4,n4,c4,rfl,?_⟩;have hl4:=Sj Tn;simp only[Aet,Bb]at hl4;refine Kh (A2.rd (Own.mono (Ext.Cp _ _) Tn)) (by omega) (by omega) λp5 n5 c5 Z5 oq hx5=>⟨p5,n5,c5,rfl,E8 JO hr.big,?_⟩;refine ih (k+1) p5 n5 c5 Z5 (by omega) (by omega) ?_ (hx.trans (hx4.trans hx5));have:=Own.mono (Ext.Hq (hx.trans hx4)) oq;rw[AL hy,Af9];simpa[Ec,A2] using this
theorem Ki {p:Option Addr}{n c:Nat}{ls:List Lb}(hr:I1 Z22 p n ls)(A:BE ls)(h:∀p' G c' Z'2,A2 .u8 (Z22.new Z'2) p' G c' (Gc ls)->Ext Z22 Z'2->R (.returned (.slice p' G c')) Z'2):Spec prog 102 #[.slice p n c] Z22 R:=
 Qi hr (by
  have h1:=dn A.2;have h2:=A.1;have h3:=Ai (x:=ls.length) (by omega);unfold Gc;rw[Aet];omega) h
end
end TwW
namespace TwW
open Go Tw Go.RowKit Go.Proofs.Tryz
end TwW
namespace TwW
open Go Tw Go.RowKit Go.Proofs.Tryz
section
variable {Z22 Z'2 O2:Hp}{R:Rr}
end
end TwW
end
section
namespace TwW
open Go Tw
structure Sr where
 ls:List Lb
 ps:List (Int×Int)
section
variable {α:Type}
def Jt:List (ByteArray×α)->ByteArray->α->List (ByteArray×α)
 | [],k,x=>[(k,x)]
 | (a,b)::l,k,x=>if a=k then(k,x)::l else(a,b)::Jt l k x
def BQ:List (ByteArray×α)->ByteArray->Option α
 | [],_=>none
 | (a,b)::l,k=>if a=k then some b else BQ l k
end
end TwW
end
section
namespace TwW
open Go Tw
structure Nv {α:Type}(c:α->α->Int):Prop where
 eq:∀x y,c x y=0↔x=y
 TN:∀x y,c x y<0↔0<c y x
 trans:∀x y z,c x y<0->c y z<0->c x z<0
def Ju {α:Type}(c:α->α->Int):List α->List α->Int
 | [],[]=>0
 | [],_::_=>-1
 | _::_,[]=>1
 | x::l,y::m=>if c x y=0 then Ju c l m else c x y
def U1 {α β:Type}(c:α->α->Int)(d:β->β->Int)(x y:α×β):Int:=if c x.1 y.1=0 then d x.2 y.2 else c x.1 y.1
theorem Nv.Ju {α:Type}{c:α->α->Int}(h:Nv c):Nv (Ju c):=by
 refine⟨λl=>?_,λl=>?_,λl=>?_⟩
 .induction l with
  | nil=>intro m;cases m<;>simp[TwW.Ju]
  | cons x l ih=>
   intro m;cases m with
   | nil=>simp[TwW.Ju]
   | cons y m=>
    unfold TwW.Ju;by_cases G:c x y=0
    .rw[Aex G,ih];simp[(h.eq x y).1 G]
    .rw[Aeu G];simp[G,mt (h.eq x y).2 G]
 .induction l with
  | nil=>intro m;cases m<;>simp[TwW.Ju]
  | cons x l ih=>
   intro m;cases m with
   | nil=>simp[TwW.Ju]
   | cons y m=>
    unfold TwW.Ju;by_cases G:c x y=0
    .have Ic:=(h.eq x y).1 G;rw[Aex G,Aex ((h.eq y x).2 Ic.symm),ih]
    .have hc':c y x≠0:=λe=>G ((h.eq x y).2 ((h.eq y x).1 e).symm);rw[Aeu G,Aeu hc',h.TN]
 .induction l with
  | nil=>
   intro m k h1 A;cases m with
   | nil=>simp[TwW.Ju]at h1
   | cons y m=>
    cases k with
    | nil=>simp[TwW.Ju]at A
    | cons z k=>simp[TwW.Ju]
  | cons x l ih=>
   intro m k h1 A;cases m with
   | nil=>simp[TwW.Ju]at h1
   | cons y m=>
    cases k with
    | nil=>simp[TwW.Ju]at A
    | cons z k=>
     unfold TwW.Ju at h1 A ⊢;by_cases Ic:c x y=0
     .rw[Aex Ic]at h1;have e:=(h.eq x y).1 Ic;subst e;by_cases NI:c x z=0
      .rw[Aex NI]at A ⊢;exact ih m k h1 A
      .rw[Aeu NI]at A ⊢;exact A
     .rw[Aeu Ic]at h1;by_cases NI:c y z=0
      .rw[Aex NI]at A;have e:=(h.eq y z).1 NI;subst e;rw[Aeu Ic];exact h1
      .rw[Aeu NI]at A;have h3:=h.trans x y z h1 A;rw[Aeu (by omega)];exact h3
theorem Nv.U1 {α β:Type}{c:α->α->Int}{d:β->β->Int}(h:Nv c)(g:Nv d):Nv (U1 c d):=by
 refine⟨λx y=>?_,λx y=>?_,λx y z h1 G=>?_⟩
 .obtain⟨x1,x2⟩:=x;obtain⟨y1,y2⟩:=y;unfold TwW.U1;by_cases A:c x1 y1=0
  .simp only[A,Aex];rw[g.eq];simp[(h.eq x1 y1).1 A]
  .simp only[A,AgO];simp[A,mt (h.eq x1 y1).2 A]
 .unfold TwW.U1;by_cases A:c x.1 y.1=0
  .rw[Aex A,Aex ((h.eq _ _).2 ((h.eq _ _).1 A).symm),g.TN]
  .rw[Aeu A,Aeu (λe=>A ((h.eq _ _).2 ((h.eq _ _).1 e).symm)),h.TN]
 .unfold TwW.U1 at h1 G ⊢;by_cases Ic:c x.1 y.1=0
  .rw[Aex Ic]at h1;rw[(h.eq _ _).1 Ic];by_cases NI:c y.1 z.1=0
   .rw[Aex NI]at G ⊢;exact g.trans _ _ _ h1 G
   .rw[Aeu NI]at G ⊢;exact G
  .rw[Aeu Ic]at h1;by_cases NI:c y.1 z.1=0
   .rw[Aex NI]at G;rw[<-(h.eq _ _).1 NI,Aeu Ic];exact h1
   .rw[Aeu NI]at G;have h3:=h.trans _ _ _ h1 G;rw[Aeu (by omega)];exact h3
def jT (a b:UInt8):Int:=if a<b then -1 else if b<a then 1 else 0
theorem aC {a b:UInt8}:jT a b<0↔a.toNat<b.toNat:=by
 unfold jT;by_cases h:a<b
 .have:=Agp.1 h;simp[h,this]
 .have A:=mt Agp.2 h;rw[Aeu h];by_cases g:b<a<;>simp[g]<;>omega
theorem ll {a b:UInt8}:0<jT a b↔b.toNat<a.toNat:=by
 unfold jT;by_cases h:a<b
 .have:=Agp.1 h;simp[h];omega
 .rw[Aeu h];by_cases g:b<a
  .have:=Agp.1 g;simp[g,this]
  .have A:=mt Agp.2 g;simp[g];omega
theorem AAF:Nv jT:=by
 refine⟨λx y=>?_,λx y=>?_,λx y z A G=>?_⟩
 .have A:=@aC x y;have G:=@ll x y;rw[<-UInt8.toNat_inj];omega
 .rw[aC,ll]
 .rw[aC]at *;omega
theorem uF:∀a b:List UInt8,Ju jT a b=Lib.compareBytes a b
 | [],[]=>rfl
 | [],_::_=>rfl
 | _::_,[]=>rfl
 | x::l,y::m=>by
  unfold Ju Lib.compareBytes;rw[<-uF l m];unfold jT;by_cases A:x<y
  .simp[A]
  .by_cases G:y<x<;>simp[A,G]
def LV (a b:ByteArray):Int:=Lib.compareBytes a.data.toList b.data.toList
theorem lq:Nv LV:=by
 have h:=AAF.Ju;refine⟨λx y=>?_,λx y=>?_,λx y z A G=>?_⟩
 .unfold LV;rw[<-uF,h.eq];exact⟨λe=>by cases x;cases y;simp at e;rw[e],λe=>by rw[e]⟩
 .unfold LV;rw[<-uF,<-uF];exact h.TN _ _
 .unfold LV at *;rw[<-uF]at *;exact h.trans _ _ _ A G
def BN:List Lb->List Lb->Int:=Ju (U1 LV LV)
theorem Ax:Nv BN:=(lq.U1 lq).Ju
end TwW
end
section
namespace TwW
open Go Tw Go.RowKit Go.Proofs.Tryz
abbrev Pt:=Int×Int
def Bp (_:Hp)(vs:List Value)(x:Pt):Prop:=vs=[.I x.1,.U x.2]
theorem Bp.mono:Lq Bp:=λ_ _ _ _ _ h=>h
def CW (Z22:Hp)(vs:List Value)(s:Sr):Prop:=∃p n c q m d,vs=[.slice p n c,.slice q m d]/\I1 Z22 p n s.ls/\BB 2 Bp Z22 q m s.ps/\m<=d
theorem CW.mono:Lq CW:=λ_ _ _ _ A ⟨p,n,c,q,m,d,hv,G,h2,h3⟩=>⟨p,n,c,q,m,d,hv,G.mono Eh.mono A,h2.mono Bp.mono A,h3⟩
theorem BB.sub {α:Type}{s:Nat}{E:Hp->List Value->α->Prop}{Z22:Hp}{p:Option Addr}{n c i m:Nat}{xs:List α}(h:BB s E Z22 p n xs)(hs:0<s)(A:i+m<=n)(hc:n<=c):BB s E Z22 (ET p i c s) m ((xs.drop i).take m):=by
 obtain⟨h1,cs,⟨h2,h3,h4⟩,h5,h6⟩:=h;refine⟨by rw[AfE,AfV];omega,(cs.drop (i*s)).take (m*s),⟨?_,by omega,?_⟩,?_,λj x G=>?_⟩
 .have:i*s+m*s<=n*s:=by rw[<-Afn];exact AfK _ A
  rw[AfE,AfV];omega
 .rcases Af4 m with hm|hm
  .exact .inl hm
  .rcases h4 with h4|⟨b,o,rfl,h4⟩
   .omega
   .refine .inr ⟨b,o+i*s,?_,?_⟩
    .unfold ET;rw[Aeu (by omega)];simp[Cm]
    .exact h4.part
 .have:i*s+m*s<=n*s:=by rw[<-Afn];exact AfK _ A
  rw[AfE,AfV,AfE,AfV];have:min m (xs.length-i)=m:=by omega
  rw[this];omega
 .rw[AfP]at G;split at G
  .rename_i hjm;rw[AfX]at G;have:=h6 (i+j) x G;have e:((((cs.drop (i*s)).take (m*s)).drop (j*s)).take s)=(cs.drop ((i+j)*s)).take s:=by
    have hle:j*s+s<=m*s:=by rw[<-AhE];exact AfK _ hjm
    rw[Ahx,Agf,Afx,Afn]
    congr 1
    omega
   rw[e];exact this
  .cases G
section
variable {Z22 Z'2 O2:Hp}{R:Rr}
theorem ou {a b:ByteArray}:YN prog 246 #[.string a,.string b] Z22 (.I (LV a b)):=λw _=>by
 rw[run_callFunc_extern Go.Proofs.Tryz.func246 (by kernel_rfl) (by kernel_rfl) (by kernel_rfl) (e:=Extern.BytealgCompare.compare) (by kernel_rfl),Lib.run_compareString];rfl
theorem Sl [I9]{a b:ByteArray}(h:R (.returned (.I (LV a b))) Z22):Spec prog 136 #[.string a,.string b] Z22 R:=
 LA.start (DO.start (.y ou ⟨_,rfl,_,rfl,h⟩))
theorem jU [I9]{x y:Lb}(h:∀Z'2,Ext Z22 Z'2->R (.returned (.I (U1 LV LV x y))) Z'2):Spec prog 134 #[.agg #[.string x.1,.string x.2],.agg #[.string y.1,.string y.2]] Z22 R:=by
 refine LD.start λ_ _=>Sl ⟨_,rfl,Sl ⟨_,rfl,λb hb=>?_⟩⟩;have A:=h _ (.set hb (o:=.cells #[.I (LV x.1 y.1),.I (LV x.2 y.2)] 3 (0,0)));unfold U1 at A;generalize LV x.1 y.1=u at *;generalize LV x.2 y.2=v at *;refine IH.start (IH.AY ⟨λ_=>⟨b,0,rfl,by omega,u,by simp[Hp.ld,Hp.AA],λG=>⟨_,rfl,?_⟩,λG=>⟨by unfold AK;omega,IH.AY ⟨λ_=>⟨b,0,rfl,by omega,v,by simp[Hp.ld,Hp.AA],λh1=>⟨_,rfl,?_⟩,λh1=>⟨by unfold AK;omega,IH.AY ⟨λh2=>by omega,λ_=>⟨_,rfl,?_⟩⟩⟩⟩,λh2=>by omega⟩⟩⟩,λh2=>by omega⟩)
 .rw[Aeu G]at A;exact A
 .rw[Aex (Agj.1 G)]at A;exact A
 .have Pf:v=0:=Agj.1 h1;rw[Aex (Agj.1 G),Pf]at A;rw[<-Pf]at A ⊢;exact A
theorem ASD:Enters prog 134:=λargs w=>call134 args w
theorem GN {α:Type}{xs:List α}{k:Nat}{y:α}(A:xs[k]?=some y):xs.drop k=y::xs.drop (k+1):=by
 obtain⟨h,rfl⟩:=Ae0.1 A;exact Agr h
theorem Jv [I9]{p q:Option Addr}{n c m d:Nat}{ls ms:List Lb}(hr:I1 Z22 p n ls)(hs:I1 Z22 q m ms)(h:∀Z'2,Ext Z22 Z'2->R (.returned (.I (BN ls ms))) Z'2):Spec prog 66 #[.slice p n c,.slice q m d] Z22 R:=by
 have hl:ls.length=n:=hr.1;have hm:ms.length=m:=hs.1;refine Nl.start (BW.start ?_)
 suffices H:∀g k:Nat,∀Z'2,n-k=g->k<=n->k<=m->Ext Z22 Z'2->BN ls ms=BN (ls.drop k) (ms.drop k)->BW.HA (BI R (CI .i64 λx7 y=>R (.returned (.I x7)) y)) p n c q m d (.func (.func 134) #[] #[]) p n c n k Z'2 from H n 0 Z22 rfl (AfI _) (AfI _) (.refl _) rfl
 intro g
 induction g with
 | zero=>
  intro k Z'2 hg hk hkm G A;have nR:k=n:=by omega
  rw[Aft (by omega)]at A;refine BW.Bi ⟨λAq=>by omega,λ_=>⟨λWB=>⟨_,rfl,?_⟩,λWB=>⟨_,rfl,?_⟩⟩⟩
  .obtain⟨y,hy⟩:=hs.ex (k:=k) (by omega);rw[GN hy]at A;have:=h Z'2 G;rw[A]at this;exact this
  .rw[Aft (by omega)]at A;have:=h Z'2 G;rw[A]at this;exact this
 | succ g ih=>
  intro k Z'2 hg hk hkm G A;obtain⟨x,Ri⟩:=hr.ex (k:=k) (by omega);obtain⟨b,o,rfl,ov⟩:=I1.at hr Ri;rw[GN Ri]at A;refine BW.Bi ⟨λ_=>⟨b,o,rfl,by omega,x.1,x.2,by simpa using ov.mono G,λ_=>⟨λhmk=>⟨_,rfl,?_⟩,λhmk=>?_⟩⟩,λhh=>by omega⟩
  .rw[show ms.drop k=[] from Aft (by omega)]at A;have:=h Z'2 G;rw[A]at this;exact this
  .obtain⟨y,hyk⟩:=hs.ex (k:=k) (by omega);obtain⟨b',o',rfl,hly⟩:=I1.at hs hyk;rw[GN hyk]at A;have HZ:BN ls ms=if U1 LV LV x y=0 then BN (ls.drop (k+1)) (ms.drop (k+1)) else U1 LV LV x y:=A
   refine⟨b',o',rfl,by omega,y.1,y.2,by simpa using hly.mono G,λ_=>⟨134,#[],#[],rfl,ASD,jU λZ222 BD=>⟨_,rfl,λAR=>⟨_,rfl,?_⟩,λheq=>⟨E8 (by omega:k<n) hr.big,ih (k+1) Z222 (by omega) (by omega) (by omega) (G.trans BD) ?_⟩⟩⟩⟩
   .have:=h Z222 (G.trans BD);rw[HZ,Aeu AR]at this;exact this
   .rw[HZ,Aex (Agj.1 heq)]
def TO:List Pt->Bool
 | []=>false
 | [_]=>true
 | a::b::l=>decide (a.1<b.1)&&TO (b::l)
theorem U2:∀ps:List Pt,TO ps=true↔0<ps.length/\∀j a b,ps[j]?=some a->ps[j+1]?=some b->a.1<b.1
 | []=>by simp[TO]
 | [a]=>by simp[TO]
 | a::b::l=>by
  simp only[TO,AfH,AfQ];rw[U2 (b::l)]
  constructor
  .rintro⟨h1,h2,h3⟩
   refine⟨by simp,λj x y A G=>?_⟩;cases j with
   | zero=>simp at A G;subst A;subst G;exact h1
   | succ j=>exact h3 j x y (by simpa using A) (by simpa using G)
  .rintro⟨h1,h2⟩
   exact⟨h2 0 a b rfl rfl,by simp,λj x y A G=>h2 (j+1) x y (by simpa using A) (by simpa using G)⟩
theorem Bp.at {p:Option Addr}{n i:Nat}{ps:List Pt}{x:Pt}(G:BB 2 Bp Z22 p n ps)(hx:ps[i]?=some x):∃b o,p=some ⟨b,o,none⟩/\Bm Z22 b (o+i*2) [.I x.1,.U x.2]:=by
 obtain⟨b,o,vs,hp,rfl,A⟩:=BB.idx G hx;exact⟨b,o,hp,A⟩
theorem dp {p:Option Addr}{n c:Nat}{ps:List Pt}(A:BB 2 Bp Z22 p n ps)(h:R (.returned (.bool (TO ps))) Z22):Spec prog 65 #[.slice p n c] Z22 R:=by
 have hl:ps.length=n:=A.1;refine FH.start ?_;have fin:(∀j a b,ps[j]?=some a->ps[j+1]?=some b->a.1<b.1)->R (.returned (.bool (decide (0<(n:Int))))) Z22:=λhh=>by
  have e:TO ps=decide (0<(n:Int)):=by
   rw[Bool.eq_iff_iff,U2,AfQ];exact⟨λh=>by omega,λh=>⟨by omega,hh⟩⟩
  rw[e]at h;exact h
 suffices H:∀g k:Nat,n-k=g->1<=k->(∀j a b,j+1<k->ps[j]?=some a->ps[j+1]?=some b->a.1<b.1)->FH.HT R p n c k Z22 from H (n-1) 1 rfl (Ae1 _) (λj a b hj=>by omega)
 intro g
 induction g with
 | zero=>
  intro k hg hk A9;refine FH.CJ ⟨λAq=>by omega,λ_=>fin λj a b G hb=>A9 j a b ?_ G hb⟩;have:=(Ae0.1 hb).1;omega
 | succ g ih=>
  intro k hg hk A9;obtain⟨x,hx⟩:=A.ex (k:=k) (by omega);obtain⟨y,hy⟩:=A.ex (k:=k-1) (by omega);obtain⟨b,o,rfl,ov⟩:=Bp.at A hx;obtain⟨_,_,he,hly⟩:=Bp.at A hy;cases he;have e1:Int.toNat ((k:Int)-1)=k-1:=by omega
  refine FH.CJ ⟨λ_=>⟨b,o,rfl,by omega,x.1,by simpa using ov.1,by unfold AK;have:=A.big;omega,by omega,y.1,by rw[e1];simpa using hly.1,λhle=>?_,λhgt=>⟨E8 (by omega:k<n) A.big,ih (k+1) (by omega) (by omega) λj a b' hj G hb=>?_⟩⟩,λhh=>by omega⟩
  .have e:TO ps=false:=by
    rw[Bool.eq_false_iff,ne_eq,U2];exact λhh=>by
     have:=hh.2 (k-1) y x hy (by rw[show k-1+1=k by omega];exact hx);omega
   rw[e]at h;exact h
  .by_cases xV:j+1=k
   .rw[xV,hx]at hb;cases hb;rw[show j=k-1 by omega,hy]at G;cases G;omega
   .exact A9 j a b' (by omega) G hb
def MF:Option (List Lb)->List Sr->Bool
 | _,[]=>true
 | q,s::l=>decide (Pe s.ls=0)&&TO s.ps&&(match q with | none=>true | some q=>decide (BN q s.ls<0))&&MF (some s.ls) l
theorem Xc (q:Option (List Lb))(s:Sr)(l:List Sr):MF q (s::l)=(decide (Pe s.ls=0)&&TO s.ps&&(match q with | none=>true | some q=>decide (BN q s.ls<0))&&MF (some s.ls) l):=by
 cases q<;>rfl
theorem CW.at {p:Option Addr}{n i:Nat}{ss:List Sr}{s:Sr}(hr:BB 2 CW Z22 p n ss)(hx:ss[i]?=some s):∃b o p1 n1 c1 q m d,p=some ⟨b,o,none⟩/\Bm Z22 b (o+i*2) [.slice p1 n1 c1,.slice q m d]/\I1 Z22 p1 n1 s.ls/\BB 2 Bp Z22 q m s.ps/\m<=d:=by
 obtain⟨b,o,vs,hp,⟨p1,n1,c1,q,m,d,rfl,A,G,h3⟩,hl⟩:=BB.idx hr hx;exact⟨b,o,p1,n1,c1,q,m,d,hp,hl,A,G,h3⟩
theorem dq {p:Option Addr}{n c:Nat}{ss:List Sr}(G:BB 2 CW Z22 p n ss)(h:∀Z'2,Ext Z22 Z'2->R (.returned (.I (if MF none ss then 0 else 100))) Z'2):Spec prog 20 #[.slice p n c] Z22 R:=by
 have hl:ss.length=n:=G.1;refine Eo.start ?_
 suffices H:∀g k:Nat,∀Z'2,n-k=g->k<=n->Ext Z22 Z'2->MF none ss=MF (if k=0 then none else(ss[k-1]?).map (·.ls)) (ss.drop k)->Eo.HA R p n c p n c n k Z'2 from H n 0 Z22 rfl (AfI _) (.refl _) rfl
 intro g
 induction g with
 | zero=>
  intro k Z'2 hg hk A he;rw[Aft (by omega)]at he;refine Eo.Bi ⟨λAq=>by omega,λ_=>?_⟩;have:=h Z'2 A;rw[he]at this;exact this
 | succ g ih=>
  intro k Z'2 hg hk A he;have JO:k<n:=by omega
  obtain⟨s,hs⟩:=G.ex JO;obtain⟨b,o,p1,n1,c1,q,m,d,rfl,I2,h1,h2,h3⟩:=CW.at G hs;rw[GN hs,Xc]at he;have bad:(decide (Pe s.ls=0)&&TO s.ps&&(match (if k=0 then none else(ss[k-1]?).map (·.ls)) with | none=>true | some q=>decide (BN q s.ls<0)))=false->∀Z222,Ext Z22 Z222->R (.returned (.I 100)) Z222:=λhf Z222 BD=>by
   have:=h Z222 BD;rw[he,hf]at this;exact this
  refine Eo.Bi ⟨λ_=>⟨b,o,rfl,by omega,p1,n1,c1,q,m,d,by simpa using I2.mono A,λ_=>FR (h1.mono Eh.mono A) ⟨_,rfl,λAR=>bad (by simp[AR]) Z'2 A,λh0=>dp (h2.mono Bp.mono A) ⟨_,rfl,λhf=>bad (by simp[hf]) Z'2 A,λht=>?_⟩⟩⟩,λhh=>by omega⟩;have bP:=Agj.1 h0;have ht':TO s.ps=true:=ht;have next:∀Z222,Ext Z22 Z222->(match (if k=0 then none else(ss[k-1]?).map (·.ls)) with | none=>true | some q=>decide (BN q s.ls<0))=true->AK ((k:Int)+1)/\Eo.HA R (aD b o) n c (aD b o) n c n ((k:Int)+1) Z222:=λZ222 BD hm=>by
   refine⟨E8 JO G.big,ih (k+1) Z222 (by omega) (by omega) BD ?_⟩;rw[he,hm,bP,ht'];simp[hs]
  refine⟨λGb=>⟨by unfold AK;have:=G.big;omega,b,o,rfl,by omega,?_⟩,λGb=>next Z'2 A (by rw[Aex (by omega)])⟩;obtain⟨s',PL⟩:=G.ex (k:=k-1) (by omega);obtain⟨_,_,p1',n1',oz,_,_,_,oe,ASE,Pf,_,_⟩:=CW.at G PL;cases oe;have e1:Int.toNat ((k:Int)-1)=k-1:=by omega
  refine⟨p1',n1',oz,by rw[e1];simpa using(ASE.mono A).1,Jv (Pf.mono Eh.mono A) (h1.mono Eh.mono A) λZ222 BD=>⟨_,rfl,λIb=>bad ?_ Z222 (A.trans BD),λAq=>next Z222 (A.trans BD) ?_⟩⟩
  .rw[Aeu (by omega),PL];simp;omega
  .rw[Aeu (by omega),PL];simp;omega
end
theorem B0.en:Enters prog 99:=λargs w=>call99 args w
theorem G1.en:Enters prog 183:=λargs w=>call183 args w
theorem Dh.en:Enters prog 332:=λargs w=>call332 args w
theorem Dj.en:Enters prog 335:=λargs w=>call335 args w
theorem DC.en:Enters prog 334:=λargs w=>call334 args w
theorem BA.en:Enters prog 190:=λargs w=>call190 args w
theorem DD.en:Enters prog 333:=λargs w=>call333 args w
theorem Hk.en:Enters prog 152:=λargs w=>call152 args w
theorem DE.en:Enters prog 336:=λargs w=>call336 args w
theorem Hl.en:Enters prog 150:=λargs w=>call150 args w
theorem GG.en:Enters prog 88:=λargs w=>call88 args w
theorem Cg.en:Enters prog 91:=λargs w=>call91 args w
instance:bN prog 75 9 105:=⟨underlying75,underlying9⟩
instance:bN prog 76 9 88:=⟨underlying76,underlying9⟩
instance:bN prog 91 9 157:=⟨underlying91,underlying9⟩
instance:bN prog 170 9 179:=⟨underlying170,underlying9⟩
instance:bN prog 176 9 66:=⟨underlying176,underlying9⟩
instance:bN prog 194 9 3:=⟨underlying194,underlying9⟩
end TwW
end
section
namespace TwW
open Go Go.MapKept Tw Go.RowKit Go.Proofs.Tryz
section
variable {P:Program}{Z22 Z'2:Hp}{R:Rr}
section
variable {α:Type}
theorem Pg {l:List (ByteArray×α)}{k:ByteArray}(h:∀a∈l,a.1≠k):BQ l k=none:=by
 induction l with
 | nil=>rfl
 | cons a l A=>rw[BQ,Aeu (h a (by simp))];exact A λb hb=>h b (Aey _ hb)
theorem Xd {l m:List (ByteArray×α)}{k:ByteArray}{y:α}(h:∀a∈l,a.1≠k):BQ (l++(k,y)::m) k=some y:=by
 induction l with
 | nil=>simp[BQ]
 | cons a l A=>rw[Af3,BQ,Aeu (h a (by simp))];exact A λb hb=>h b (Aey _ hb)
theorem Rj {l:List (ByteArray×α)}{k:ByteArray}{y:α}(h:∀a∈l,a.1≠k):Jt l k y=l++[(k,y)]:=by
 induction l with
 | nil=>rfl
 | cons a l A=>rw[Jt,Aeu (h a (by simp)),A λb hb=>h b (Aey _ hb)];rfl
theorem dr {l m:List (ByteArray×α)}{k:ByteArray}{y z:α}(h:∀a∈l,a.1≠k):Jt (l++(k,z)::m) k y=l++(k,y)::m:=by
 induction l with
 | nil=>simp[Jt]
 | cons a l A=>rw[Af3,Jt,Aeu (h a (by simp)),A λb hb=>h b (Aey _ hb)];rfl
def MS (E:Value->α->Prop)(Z22:Hp)(m:Nat)(L:List (ByteArray×α)):Prop:=
 ∃(l:List MapEntry) (clock:Nat),Ak Z22 m l clock/\l.length=L.length/\∀(i:Nat) (e:MapEntry) (x:ByteArray×α),l[i]?=some e->L[i]?=some x->e.key=.string x.1/\E e.val x.2
theorem MS.mono {E:Value->α->Prop}{m:Nat}{L:List (ByteArray×α)}(h:MS E Z22 m L)(A:Ext Z22 Z'2):MS E Z'2 m L:=let ⟨l,c,h1,h2⟩:=h;⟨l,c,h1.mono A,h2⟩
theorem MS.loc {E:Value->α->Prop}{m:Nat}{L:List (ByteArray×α)}(h:MS E Z22 m L)(A:Z'2 m=Z22 m):MS E Z'2 m L:=let ⟨l,c,h1,h2⟩:=h;⟨l,c,h1.loc A,h2⟩
theorem MS.imp {E A:Value->α->Prop}{m:Nat}{L:List (ByteArray×α)}(h:MS E Z22 m L)(hE:∀v x,E v x->A v x):MS A Z22 m L:=let ⟨l,c,h1,h2,h3⟩:=h;⟨l,c,h1,h2,λi e x G hx=>⟨(h3 i e x G hx).1,hE _ _ (h3 i e x G hx).2⟩⟩
theorem MS.known {E:Value->α->Prop}{m:Nat}{L:List (ByteArray×α)}(h:MS E Z22 m L):Z22 m≠none:=let ⟨l,c,h1,h2⟩:=h;by rw[h1.1];simp
theorem MS.fresh {E:Value->α->Prop}{m:Nat}:MS E (Z22.set m (.map #[] 0)) m []:=⟨[],0,Ak.fresh,rfl,λi e x A=>by simp at A⟩
theorem MS.len {E:Value->α->Prop}{T K V ty:TypeId}[bN P T K V]{m:Nat}{L:List (ByteArray×α)}(h:MS E Z22 m L):YF P (Builtin.len_ #[T] ty #[.map (some m)]) Z22 (.I L.length):=by
 obtain⟨l,c,A,G,h3⟩:=h;rw[<-G];exact Y7 A
theorem Qj {E:Value->α->Prop}{l A l2:List MapEntry}{e:MapEntry}{L:List (ByteArray×α)}{s:ByteArray}(hn:(l.map (·.key)).Nodup)(h2:l.length=L.length)(h3:∀(i:Nat) (e:MapEntry) (x:ByteArray×α),l[i]?=some e->L[i]?=some x->e.key=.string x.1/\E e.val x.2)(hl:l=A++e::l2)(he:e.key=.string s):
  ∃L1 x L2,L=L1++(s,x)::L2/\L1.length=A.length/\(∀a∈L1,a.1≠s)/\E e.val x:=by
 subst hl;have Aq:A.length<L.length:=by rw[<-h2];simp
 have AFU:L=L.take A.length++L[A.length]::L.drop (A.length+1):=by rw[AhL,Afi]
 have hx:=h3 A.length e L[A.length] (by simp) (Ae3 _);rw[he]at hx;have hk:L[A.length].1=s:=by simpa using hx.1.symm
 refine⟨L.take A.length,L[A.length].2,L.drop (A.length+1),?_,by rw[AfE];omega,λa ha has=>?_,hx.2⟩
 .rw[<-hk];exact AFU
 .obtain⟨i,hi⟩:=Ag7.1 ha;rw[AfP]at hi;split at hi
  .rename_i G;have hle:(A++e::l2)[i]?=some (A[i]'G):=by rw[Ae8 G,Ae3 G]
   have h4:=(h3 i _ a hle hi).1;rw[AfF,AfN,AgC]at hn;exact hn.2.2 _ (AfC.2 ⟨A[i]'G,AiO G,rfl⟩) _ (by simp;exact .inl rfl) (by rw[h4,he,has])
  .cases hi
theorem MS.uG {E:Value->α->Prop}{l:List MapEntry}{L:List (ByteArray×α)}{s:ByteArray}(h2:l.length=L.length)(G:∀(i:Nat) (e:MapEntry) (x:ByteArray×α),l[i]?=some e->L[i]?=some x->e.key=.string x.1/\E e.val x.2)(A:∀e∈l,e.key≠.string s):∀a∈L,a.1≠s:=λa ha has=>by
 obtain⟨i,hi⟩:=Ag7.1 ha;have Aq:=(Ae0.1 hi).1;have:=(G i (l[i]'(by omega)) a (Ae3 _) hi).1;exact A _ (AiO _) (by rw[this,has])
theorem MS.look {E:Value->α->Prop}{T K V:TypeId}[bN P T K V]{m:Nat}{L:List (ByteArray×α)}{s:ByteArray}{z:Value}{Φ:Value->Hp->Prop}(h:MS E Z22 m L)(hz:∀w,(zeroValue V).run P w=.ok z w)
  (h0:BQ L s=none->Φ z Z22) (h1:∀v x,BQ L s=some x->E v x->Φ v Z22):AH P (Instr.lookup T (.map (some m)) (.string s) false) Z22 Φ:=by
 obtain⟨l,c,hm,G,h3⟩:=h;refine Kg hm hz (λA=>h0 (Pg (MS.uG G h3 A))) λl1 e l2 hl he=>?_;obtain⟨L1,x,L2,rfl,_,A,hE⟩:=Qj hm.nodup G h3 hl he;exact h1 e.val x (Xd A) hE
theorem MS.ALW {E:Value->α->Prop}{T K V:TypeId}[t:bN P T K V]{m:Nat}{L:List (ByteArray×α)}{s:ByteArray}{z:Value}{Φ:Value->Hp->Prop}(h:MS E Z22 m L)(hz:∀w,(zeroValue V).run P w=.ok z w)
  (h0:BQ L s=none->Φ (.tuple #[z,.bool false]) Z22) (h1:∀v x,BQ L s=some x->E v x->Φ (.tuple #[v,.bool true]) Z22):AH P (Instr.lookup T (.map (some m)) (.string s) true) Z22 Φ:=by
 obtain⟨l,c,A,h2,h3⟩:=h;rcases CL (s:=s) A.2.2 with ⟨hf,G⟩|⟨l1,e,l2,hl,he,hf⟩
 .refine AH.pu (λw hs=>?_) (h0 (Pg (MS.uG h2 h3 G)));have:=hs _ _ A.1;simp[Instr.lookup,run_underlying t.P9,run_getObj_map this,run_checkKey t.key (k:=.string s) trivial,run_findKey t.key hf,hz,Result.andThen]
 .obtain⟨L1,x,L2,rfl,_,G,hE⟩:=Qj A.nodup h2 h3 hl he;refine AH.pu (λw hs=>?_) (h1 e.val x (Xd G) hE);have:=hs _ _ A.1;simp[Instr.lookup,run_underlying t.P9,run_getObj_map this,run_checkKey t.key (k:=.string s) trivial,run_findKey t.key hf,Result.andThen]
theorem MS.put {E:Value->α->Prop}{T K V:TypeId}[bN P T K V]{m:Nat}{L:List (ByteArray×α)}{s:ByteArray}{v:Value}{x:α}{Φ:Unit->Hp->Prop}(h:MS E Z22 m L)(hv:E v x)
  (hΦ:∀o,MS E (Z22.set m o) m (Jt L s x)->Φ () (Z22.set m o)):AH P (Instr.mapUpdate T (.map (some m)) (.string s) v) Z22 Φ:=by
 obtain⟨l,c,hm,h2,h3⟩:=h;refine FI hm (λA9 Z'2 G bQ=>?_) λl1 e l2 hl he Z'2 G bQ=>?_
 .subst G;refine hΦ _ ⟨_,_,bQ,?_,λi e y hi A=>?_⟩
  .rw[Rj (MS.uG h2 h3 A9)];simp[h2]
  .rw[Rj (MS.uG h2 h3 A9)]at A;rw[Ags]at hi A;split at hi
   .rename_i Aq;rw[Aex (by omega)]at A;exact h3 i e y hi A
   .rename_i Aq;rw[Aeu (by omega)]at A;rw[<-h2]at A;cases hj:i-l.length with
    | zero=>
     rw[hj]at hi A;simp only[Af0,AfL]at hi A;subst hi;subst A;exact⟨rfl,hv⟩
    | succ j=>rw[hj]at hi;simp at hi
 .obtain⟨L1,y,L2,rfl,hlen,A9,hE⟩:=Qj hm.nodup h2 h3 hl he;subst G;subst hl;refine hΦ _ ⟨_,_,bQ,?_,λi e' z hi hz=>?_⟩
  .rw[dr A9];simp at h2 ⊢;omega
  .rw[dr A9]at hz;by_cases yD:i=l1.length
   .subst yD;rw[<-hlen]at hz;simp at hi hz;subst hi;subst hz;exact⟨rfl,hv⟩
   .have e1:(l1++Tw.CP s v e.born::l2)[i]?=(l1++e::l2)[i]?:=by
     rcases Afp i l1.length with h|h
     .rw[Ae8 h,Ae8 h]
     .obtain⟨k,rfl⟩:∃k,i=l1.length+(k+1):=⟨i-l1.length-1,by omega⟩;simp[AfJ]
    have e2:(L1++(s,x)::L2)[i]?=(L1++(s,y)::L2)[i]?:=by
     rcases Afp i L1.length with h|h
     .rw[Ae8 h,Ae8 h]
     .obtain⟨k,rfl⟩:∃k,i=L1.length+(k+1):=⟨i-L1.length-1,by omega⟩;simp[AfJ]
    exact h3 i e' z (by rw[<-e1];exact hi) (by rw[<-e2];exact hz)
end
end
end TwW
end
section
namespace TwW
open Go Tw Go.RowKit Go.Proofs.Tryz
section
variable {P:Program}{f:FuncId}{args:Array Value}{Z22 Z'2:Hp}{R:Rr}
theorem cell_of {w:World}{b o:Nat}{v:Value}(A:Sat Z22 w)(h:Z22.ld ⟨b,o,none⟩=some v):w.cell? ⟨b,o,none⟩=some v:=by
 have:=Wq (ys:=[v]) A ⟨h,trivial⟩ 0 v rfl;simpa[Cm] using this
end
def Aa {α:Type}(s:Nat)(E:Hp->List Value->α->Prop)(Z0 Z22:Hp)(p:Option Addr)(n c:Nat)(xs:List α):Prop:=B6 s E Z22 p n c xs/\Ext Z0 (Z22.del p)
section
variable {α:Type}{s bs:Nat}{E:Hp->List Value->α->Prop}{Z0 Z22 Z'2:Hp}{p:Option Addr}{n c:Nat}{xs:List α}
theorem Aa.nil (A:Ext Z0 Z22):Aa s E Z0 Z22 none 0 0 []:=⟨B6.nil,A⟩
theorem Aa.mono (G:Lq E)(h:Aa s E Z0 Z22 p n c xs)(A:Ext Z22 Z'2):Aa s E Z0 Z'2 p n c xs:=⟨h.1.mono G A,h.2.trans (A.del p)⟩
theorem Aa.up (h:Aa s E Z0 Z22 p n c xs):Ext Z0 Z22:=h.2.trans (Ext.B5 _ _)
theorem Aa.rd (A:Lq E)(h:Aa s E Z0 Z22 p n c xs):BB s E Z22 p n xs:=h.1.rd A
theorem Aa.new (h:Aa s E Z0 Z22 p n c xs)(G:Ext Z22 Z'2):Ext (Z22.new Z'2) (Z'2.del p):=Ext.kf (λa A=>h.1.block a A)
theorem Aa.G8 {P:Program}{T Et ty:TypeId}{vs:List Value}{x:α}{Φ:Value->Hp->Prop}(hE:Lq E)[MZ P T Et s bs](h:Aa s E Z0 Z22 p n c xs)(hl:vs.length=s)(h1:Ej vs)(hx:E (Z22.del p) vs x)(hb:(n+1)*bs<=140737488355328)
  (G:∀p' c' Z'2,Aa s E Z0 Z'2 p' (n+1) c' (xs++[x])->Ext (Z22.del p) (Z'2.del p')->Φ (.slice p' (n+1) c') Z'2) {b:Nat} (hn:Z22 b=none) :
  AH P (Builtin.append_ #[T,T] ty #[.slice p n c,.slice (some ⟨b,0,none⟩) 1 1]) (Z22.set b (.cells vs.toArray Et (0,0))) Φ:=by
 obtain⟨⟨A,cs,ho,hc⟩,LX⟩:=h;refine CF (ho.mono (.set hn)) ⟨by rw[hl,Aia],by omega,.inr ⟨b,0,rfl,Bm.of λj v hj=>?_⟩⟩ h1 hb λp' c' Z'2 Cq E4=>?_
 .simp[Hp.ld,Hp.AA,hj]
 .have e:Ext (Z22.del p) (Z'2.del p'):=((Ext.set hn).del p).trans E4;exact G p' c' Z'2 ⟨⟨by simp[A],_,Cq,(hc.snoc hl hx).mono hE e⟩,LX.trans e⟩ e
end
section
variable {Z22 Z'2 Z0:Hp}{R:Rr}
theorem Ed {p:Option Addr}{n c:Nat}{xs:List Int}{Φ:Value->Hp->Prop}(A:Be .u8 Z22 p n xs)(h:Φ (.string (strOfNums xs)) Z22):AH prog (convert 79 9 (.slice p n c)) Z22 Φ:=by
 refine AH.pu (λw hs=>?_) h;have h1:=underlying79;have h2:=underlying9;by_cases hn:n=0
 .subst hn;have G:xs=[]:=Ae6 A.1;subst G;rw[run_convert_bytes_string w 79 9 _ p 0 c h1 underlying5 h2];cases p<;>simp[Conv.bytesToString,loadCells]<;>rfl
 .obtain⟨x0,LX⟩:=A.ex (k:=0) (by omega);obtain⟨b,o,rfl,_⟩:=A.at LX;refine run_convert_bytes_arg w 79 _ h1 underlying5 b o n c xs A.1 (λi hi=>?_) 9 h2;obtain⟨x,G⟩:=A.ex hi;obtain⟨b',o',he,hl⟩:=A.at G;cases he;have:=cell_of hs hl;simpa[Cm,G] using this
end
theorem Spec.AFV {P:Program}{f:FuncId}{args:Array Value}{R:Ending->Prop}{Z0:Hp}(h:@Spec ⟨True⟩ P f args Z0 (λe Z'2=>R e/\Ext Z0 Z'2)){w:World}(hs:Sat Z0 w):
  Calls P f args w (λe A=>R e/\∃q os,A={ w with heap:=w.heap++os,drawn:=w.drawn+q }):=by
 refine(h w (λb=>b<w.heap.size/\Z0 b=none) hs (λb hb=>hb)).mono ?_
 rintro e A ⟨Z22,⟨hr,hx⟩,hf⟩
 refine⟨hr,?_⟩;obtain⟨h1,h2,h30⟩:=@Fin.os ⟨True⟩ _ _ _ _ hf;have hfp:=@Fin.Cc ⟨True⟩ _ _ _ _ hf;have I3:=@Fin.sat ⟨True⟩ _ _ _ _ hf;have hfg:=@Fin.grow ⟨True⟩ _ _ _ _ hf;have hfo:=@Fin.out ⟨True⟩ _ _ _ _ hf;obtain⟨q,h3⟩:=h30 trivial;refine⟨q,A.heap.extract w.heap.size A.heap.size,?_⟩;have hh:A.heap=w.heap++A.heap.extract w.heap.size A.heap.size:=by
  apply Array.ext_getElem?
  intro i;rw[Agn];split
  .rename_i hi;cases G:Z0 i with
   | none=>exact(hfp i ⟨hi,G⟩).2
   | some o=>exact(I3 i o (hx i o G)).trans (hs i o G).symm
  .rename_i hi;rw[Array.getElem?_extract];have:=hfg;split
   .congr 1;omega
   .rename_i h2;exact Ahb (by omega)
 cases w with
 | mk heap tape drawn os output=>
  cases A with
  | mk AWy AWz ASF os' AOc=>
   have h4:=hfo;simp only at h1 h2 h3 h4 hh ⊢;subst h1 h2 h3 h4;rw[<-hh]
theorem U3 {α:Type}{enc:α->List Value}{k:Nat}(hk:∀x,(enc x).length=k)(G:0<k):∀(xs:List α) (j:Nat),(xs.flatMap enc)[j]?=(xs[j/k]?).bind λx=>(enc x)[j%k]?
 | [],j=>by simp
 | x::xs,j=>by
  rw[Afy,Ags,hk];by_cases A:j<k
  .rw[Aex A,AiP A,AfY A];simp
  .rw[Aeu A,U3 hk G xs,show j/k=(j-k)/k+1 by rw[<-Nat.add_div_right _ G];congr 1;omega,show(j-k)%k=j%k by rw[Nat.mod_eq_sub_mod (by omega:j>=k)]];simp
theorem Rk {α:Type}{enc:α->List Value}{k:Nat}(A:∀x,(enc x).length=k):∀(xs:List α),(xs.flatMap enc).length=xs.length*k
 | []=>by simp
 | x::xs=>by rw[Afy,Aet,Rk A xs,A,Aez,Afn];omega
theorem Xe {α:Type}[Inhabited α]{enc:α->List Value}(hk:∀x,(enc x).length=2)(d:List α)(j:Nat)(hj:j<d.length*2):(d.flatMap enc)[j]?=some (Sort.flatK enc 2 d.toArray)[j]! := by
 rw[U3 (k:=2) hk (by decide),Sort.get_flatK _ _ _ _ (by simpa using hj)];have A:j/2<d.length:=by omega
 rw[Ae3 A];have G:j%2<(enc d[j/2]).length:=by rw[hk];exact AhA _ (by decide)
 simp only[Ahj];rw[Ae3 G];have e1:d.toArray[j/2]! = d[j/2]:=by simp[A]
 rw[e1,AiN (enc d[j/2]) (j%2) G]
theorem aF (F arr:Array Value)(o j:Nat):(Sort.putCells id o F arr)[j]?=if o<=j/\j<o+F.size then(arr[j]?).map λ_=>F[j-o]! else arr[j]?:=by
 simp only[Sort.putCells,Aie,id];by_cases h:o<=j/\j<o+F.size
 .rw[Aex h];simp[h]
 .rw[Aeu h];cases arr[j]? with
  | none=>rfl
  | some v=>simp only[Afv];rw[Aeu h]
section
variable {Z22:Hp}{R:Rr}
theorem AAH {ρ:Go.Shelf.Ren}(L:Go.Proofs.SlLaysF0.n6 prog ρ)(aE:∀w,(isAgg (ρ.t 24)).run prog w=.ok true w)(zE:∀w,(Go.sizeOf (ρ.t 24)).run prog w=.ok 2 w){α:Type}[Inhabited α]{enc:α->List Value}(A:∀x,(enc x).length=2)(h1:∀x,∀v∈enc x,v.oneCell'=true){cf:α->α->Int}(hO:Sort.SWO (Proofs.ltOf cf)){g:Nat}
  (eg:∀args w,(callFunc g args).run prog w=.ok (.enter g args) w) {b o m d:Nat} {ds:List α} (ho:Own 2 Z22 (some ⟨b,o,none⟩) m d (ds.flatMap enc)) (hm:ds.length=m) (gR:m≠0) (Dz:m<4611686018427387904)
  (ASG:∀w,Sat (Z22.del (some ⟨b,o,none⟩)) w->∀x y,Calls prog g #[.agg (enc x).toArray,.agg (enc y).toArray] w λe w'=>e=.returned (.I (cf x y))/\∃n os,w'=Sort.grow (w.drewN n) os)
  (h:∀(Z'2:Hp) (ds':List α),ds'.Perm ds->ds'.Pairwise (λx y=>Proofs.ltOf cf y x=false)->Own 2 Z'2 (some ⟨b,o,none⟩) m d (ds'.flatMap enc)->Ext (Z22.del (some ⟨b,o,none⟩)) (Z'2.del (some ⟨b,o,none⟩))->R (.T #[]) Z'2) :
  Spec prog (ρ.f 6) #[.slice (some ⟨b,o,none⟩) m d,.func (.func g) #[] #[]] Z22 R:=by
 intro w F hs hF;obtain⟨arr,T,hb,hw,Xf,nS,KI⟩:∃arr T,Z22 b=some (.cells arr T (0,0))/\w.heap[b]?=some (.cells arr T (0,0))/\m<=d/\o+d*2<=arr.size/\(arr.toList.drop o).take (m*2)=ds.flatMap enc:=by
  rcases ho.2.2 with ⟨h1,h2,_⟩|⟨b',o',arr,T,hp,hb,Xf,Dz,KI⟩
  .exact absurd h2 gR
  .cases hp;exact⟨arr,T,hb,hs _ _ hb,Xf,Dz,KI⟩
 have uH:∀j,j<m*2->arr[o+j]?=some (Sort.flatK enc 2 ds.toArray)[j]! := λj G=>by
  rw[<-Xe A ds j (by omega),<-KI,AfP,Aex G,AfX,Afc]
 have hH:Sort.HoldsK enc 2 w b o ds.toArray:=λj G=>by
  have YL:j<m*2:=by simpa[hm] using G
  refine⟨?_,by simp[World.frozen?,hw]⟩;simp only[World.cell?,hw,id];simpa using uH j YL
 have hblk:b<w.heap.size:=(AfA.1 hw).1;have DH:∀(n:Nat) (dk:Array α) (os:Array Obj) k,(Proofs.sortWorldK enc 2 w b o n dk os).heap[k]?=if k<w.heap.size then(if b=k then(w.heap[k]?).map (Sort.onCells (Sort.putCells id o (Sort.flatK enc 2 dk))) else w.heap[k]?) else os[k-w.heap.size]?:=λn dk os k=>by
  simp only[Proofs.sortWorldK,Sort.grow,Sort.putRowK,Sort.putRow,Sort.mapBlock,Sort.ahead,Agn,AiG,Af5]
 have hcm:Proofs.CmpLays prog g #[] enc 2 cf b o ds.toArray.size w:=λn os dk _ x y=>ASG _ (λk u A=>by
  obtain⟨D1,hku⟩:=AF.1 A;have ASI:b≠k:=λe=>D1 _ rfl e.symm;have:=hs k u hku;rw[DH,Aex (AfA.1 this).1,Aeu ASI];exact this) x y
 have WW:=Proofs.AnyQ.slices_SortFunc L 2 aE zE enc A h1 cf hO g #[] b o d ds.toArray w eg hcm hH hblk (by simpa[hm] using Dz);rw[show ds.toArray.size=m by simpa using hm]at WW;refine WW.mono ?_
 rintro e w' ⟨rfl,d',n,os,lr,ALX,rfl⟩
 obtain⟨hp1,_,yE⟩:=lr;have dj:d'.size=m:=by rw[hp1];simpa using hm
 have hP:d'.toList.Perm ds:=by
  rw[show m=d'.size from dj.symm]at yE;rw[Ah6]at yE;rw[show d'.size=ds.toArray.size from hp1,Ah6]at yE;exact yE
 have lC:d'.toList.length=m:=by simpa using dj
 have uI:(Sort.flatK enc 2 d').size=m*2:=by simp[dj]
 have hpw:d'.toList.Pairwise (λx y=>Proofs.ltOf cf y x=false):=List.pairwise_iff_getElem.2 λi j hi G ke=>by
  have YL:j<d'.size:=by simpa using G
  have IN:i<d'.size:=by simpa using hi
  have:=ALX i j (AfI _) ke (by omega);rw[AiN d' j YL,AiN d' i IN]at this;simpa using this
 have nz:((Sort.putCells id o (Sort.flatK enc 2 d') arr).toList.drop o).take (m*2)=d'.toList.flatMap enc:=by
  refine Afo λj=>?_;rw[AfP];by_cases G:j<m*2
  .have:=Xe A d'.toList j (by omega);rw[Aex G,AfX,Afc,aF,Aex (by omega),this,uH j G];simp
  .rw[Aeu G,Afq (by rw[Rk (k:=2) A,lC];omega)]
 refine⟨Z22.set b (.cells (Sort.putCells id o (Sort.flatK enc 2 d') arr) T (0,0)),h _ d'.toList hP hpw ⟨by rw[Rk (k:=2) A,lC],by have:=ho.2.1;omega,.inr ⟨b,o,_,T,rfl,Hp.AA _ _ _,Xf,by simpa[Sort.putCells] using nS,nz⟩⟩ (by rw[Hp.Dd];exact Ext.refl _),?_⟩
 .refine⟨λk u A=>?_,λk A=>?_,⟨rfl,rfl,λ_=>⟨n,rfl⟩⟩,rfl,by simp[Proofs.sortWorldK,Sort.grow,Sort.putRowK,Sort.putRow,Sort.mapBlock,Sort.ahead]⟩
  .rw[DH];by_cases D1:k=b
   .subst D1;rw[Hp.AA]at A;cases A;rw[Aex hblk,Aex rfl,hw];rfl
   .rw[Hp.AB D1]at A;have:=hs k u A;rw[Aex (AfA.1 this).1,Aeu (AfT D1)];exact this
  .have D1:k≠b:=λe=>by have:=(hF k A).2;rw[e,hb]at this;cases this
   refine⟨by rw[Hp.AB D1];exact(hF k A).2,?_⟩;rw[DH,Aex (hF k A).1,Aeu (AfT D1)]
end
section
variable {Z22 Z'2 Z0:Hp}{R:Rr}
theorem Bm.of_cells {b:Nat}{c:List Value}{T:TypeId}(h:Z22 b=some (.cells c.toArray T (0,0))):Bm Z22 b 0 c:=Bm.of λj v A=>by
 rw[AfW];exact AD h (by simpa using A)
end
theorem Own.aG {P:Program}{s:Nat}{Z22:Hp}{b o n c j:Nat}{cs:List Value}{v:Value}{T:TypeId}{Φ:Unit->Hp->Prop}(ho:Own s Z22 (some ⟨b,o,none⟩) n c cs)(hj:j<n*s)(hz:∀w,(Go.sizeOf T).run P w=.ok 1 w)(hv:v.cells=#[v])(h1:v.oneCell'=true)
  (G:∀obj,Own s (Z22.set b obj) (some ⟨b,o,none⟩) n c (cs.set j v)->Φ () (Z22.set b obj)):AH P (Instr.storeAt T (.pointer (some ⟨b,o+j,none⟩)) v) Z22 Φ:=by
 obtain⟨hl,A,h⟩:=ho;rcases h with ⟨hp,_⟩|⟨b',o',arr,T',hp,hb,Wp,Dz,KI⟩
 .cases hp
 .cases hp;have hns:n*s<=c*s:=AfK s Wp;refine AH.store hz hb (by rw[hv];rfl) (by omega) (by rw[hv];simpa using h1) (G _ ⟨by rw[Af2];exact hl,A,.inr ⟨b,o,_,T',rfl,Hp.AA _ _ _,Wp,by simp[G7];exact Dz,?_⟩⟩);rw[hv,<-KI];refine Afo λi=>?_;simp only[F0,Array.toList_setIfInBounds];rw[AfP,AgN,AfP];by_cases hi:i<n*s
  .rw[Aex hi,Aex hi,AfX,AfX,AgN];by_cases ke:j=i
   .subst ke;have Aq:o+j<arr.size:=by omega
    simp[Aq];exact Nat.lt_min.2 ⟨hj,by omega⟩
   .rw[Aeu (by omega),Aeu ke]
  .rw[Aeu hi,Aeu hi];split
   .omega
   .rfl
theorem Bp.one (Z22:Hp)(vs:List Value)(x:Pt)(h:Bp Z22 vs x):Ej vs:=by
 rw[show vs=[.I x.1,.U x.2] from h];intro u A;simp only[Ae5,Afj,Agd]at A;rcases A with rfl|rfl<;>rfl
section
variable {Z22 Z'2 Z0:Hp}{R:Rr}
theorem Xg {T Et ty:TypeId}{s bs:Nat}[MZ prog T Et s bs]{q:Option Addr}{j c b:Nat}{cs:List Value}{Φ:Value->Hp->Prop}(KI:Kt s Z22 q j cs)(h1:Ej cs)(hb:j*bs<=140737488355328)
  (hΦ:∀p' c' Z'2,Own s (Z22.new Z'2) p' j c' cs->Ext Z22 Z'2->Φ (.slice p' j c') Z'2) (A:Z22 b=none) :
  AH prog (Builtin.append_ #[T,T] ty #[.slice (some ⟨b,0,none⟩) 0 0,.slice q j c]) (Z22.set b (.cells #[] Et (0,0))) Φ:=by
 refine CF Own.empty (KI.mono (.set A)) h1 (by rw[AfW];exact hb) λp' c' Z'2 G Hm=>?_;have hq:∀a:Addr,(some (⟨b,0,none⟩:Addr))=some a->Z22 a.block=none:=λa ha=>by cases ha;exact A
 rw[AfW]at G ⊢;rw[AgG]at G;exact hΦ p' c' Z'2 (Own.HL G (EC hq Hm (.set A))) (Ek hq Hm (.set A))
theorem CW.one (Z22:Hp)(vs:List Value)(x:Sr)(h:CW Z22 vs x):Ej vs:=by
 obtain⟨p,n,c,q,m,d,rfl,_⟩:=h;intro u A;simp only[Ae5,Afj,Agd]at A;rcases A with rfl|rfl<;>rfl
structure SOk (ss:List Sr):Prop where
 s:ss.length<=1000000000000
 ls:∀s∈ss,s.ls.length<=1000000000
 ps:∀s∈ss,s.ps.length<=1000000000
end
theorem o0 {cs:List Value}{v:Value}{s i j r:Nat}(hr:r<s):((cs.set (i*s+r) v).drop (j*s)).take s=if i=j then((cs.drop (j*s)).take s).set r v else(cs.drop (j*s)).take s:=by
 refine Afo λk=>?_;by_cases ke:i=j
 .subst ke;rw[Aex rfl,AfP,AgN,AfP,AfX,AfX,AgN];by_cases A:k<s
  .rw[Aex A,Aex A];by_cases G:r=k
   .subst G;rw[Aex rfl,Aex rfl,AfE,AfV];by_cases Aq:i*s+r<cs.length
    .rw[Aex Aq,Aex (by omega)]
    .rw[Aeu Aq,Aeu (by omega)]
   .rw[Aeu (by omega),Aeu G]
  .rw[Aeu A,Aeu A,Aeu (by omega)]
 .rw[Aeu ke,AfP,AfP,AfX,AfX,AgN];by_cases A:k<s
  .rw[Aex A,Aex A,Aeu];intro e;rcases Nat.lt_trichotomy i j with h|h|h
   .have:=AfK s (show i+1<=j from h);rw[AhE]at this;omega
   .exact ke h
   .have:=AfK s (show j+1<=i from h);rw[AhE]at this;omega
  .rw[Aeu A,Aeu A]
theorem Own.here {s:Nat}{Z22 Z'2:Hp}{p:Option Addr}{n c:Nat}{cs:List Value}(h:Own s Z22 p n c cs)(hs:∀a,p=some a->Z'2 a.block=Z22 a.block):Own s Z'2 p n c cs:=by
 obtain⟨A,G,h3|⟨b,o,arr,T,rfl,hb,r⟩⟩:=h
 .exact⟨A,G,.inl h3⟩
 .exact⟨A,G,.inr ⟨b,o,arr,T,rfl,(hs _ rfl).trans hb,r⟩⟩
theorem ASK {A B:Hp}{L:List (Nat×Obj)}{i b:Nat}{o:Obj}(hn:(names L).Nodup)(hi:L[i]?=some (b,o)):Kp [b] (CE A L) (CE B L):=λx hx u G=>by
 rw[Aev]at hx;subst hx;rw[Eb hn hi]at G ⊢;exact G
theorem aH (w:World):(Go.sizeOf 61).run prog w=.ok 1 w:=by kernel_rfl
structure JK (O2 Z22:Hp)(b:Nat)(vs:List Value)(T:TypeId)(L:List Int):Prop where
 at_:∃p c,Z22 b=some (.cells (Value.slice p L.length c::vs).toArray T (0,0))/\A2 .u8 Z22 p L.length c L/\∀a,p=some a->a.block≠b/\O2 a.block=none
 ext:Ext O2 Z22
 new:O2 b=none
abbrev NJ (O2 Z22:Hp)(b:Nat)(l:List Bool):Prop:=JK O2 Z22 b [.I (l.length:Int)] 280 (JP l)
theorem jV:∀w,(Go.sizeOf 79).run prog w=.ok 1 w:=λw=>by kernel_rfl
theorem AFW:∀w,(Go.sizeOf 5).run prog w=.ok 1 w:=λw=>by kernel_rfl
theorem lu:∀w,(Go.sizeOf 3).run prog w=.ok 1 w:=λw=>by kernel_rfl
theorem Mp {p:Option Addr}{n c:Nat}:∀u∈(Value.slice p n c).cells.toList,u.oneCell'=true:=λu A=>by
 have A:u∈[Value.slice p n c]:=A;rw[Aev.1 A];rfl
theorem ALY (v u:Value)(vs:List Value):F0 (v::vs).toArray 0 [u]=(u::vs).toArray:=by simp[F0]
section
variable {O2 Z22:Hp}{b:Nat}{vs:List Value}{T:TypeId}{L:List Int}{R:Rr}
theorem JK.keep {Z'2:Hp}{p p':Option Addr}{k:Nat}{v:Obj}(hx:Ext (Z22.del p) (Z'2.del p'))(hk:Z22 k=some v)(A:∀a,p=some a->k≠a.block):Z'2 k=some v/\∀a,p'=some a->k≠a.block:=by
 obtain⟨G,a2⟩:=AF.1 (hx k v (AF.2 ⟨A,hk⟩));exact⟨a2,G⟩
theorem JK.put {A:Hp}{p p':Option Addr}{c c':Nat}{L':List Int}{G:Hp->Prop}(h:JK O2 Z22 b vs T L)(hb:Z22 b=some (.cells (Value.slice p L.length c::vs).toArray T (0,0)))(hp:∀a,p=some a->a.block≠b/\O2 a.block=none)
  (ho:A2 .u8 A p' L'.length c' L') (hx:Ext (Z22.del p) (A.del p')) (hG:∀Z'2,JK O2 Z'2 b vs T L'->G Z'2):AH prog (Instr.storeAt 79 (.pointer (aD b 0)) (.slice p' L'.length c')) A (λ_=>G):=by
 obtain⟨k1,k2⟩:=JK.keep hx hb λa ha e=>(hp a ha).1 e.symm;have kτ:∀k v,O2 k=some v->A k=some v/\∀a,p'=some a->k≠a.block:=λk v hk=>JK.keep hx (h.ext _ _ hk) λa ha e=>by rw[e,(hp a ha).2]at hk;cases hk
 refine AH.store (P:=prog) jV k1 rfl (by simp) Mp (hG _ ⟨⟨p',c',?_,Own.here ho λa ha=>Hp.AB λe=>k2 a ha e.symm,λa ha=>⟨λe=>k2 a ha e.symm,?_⟩⟩,λk v hk=>?_,h.new⟩)
 .rw[Hp.AA];exact Ae4 (λx=>some (Obj.cells x T (0,0))) (ALY _ _ _)
 .cases hh:O2 a.block with
  | none=>rfl
  | some v=>exact absurd rfl ((kτ _ _ hh).2 a ha)
 .rw[Hp.AB (λe=>by rw[e,h.new]at hk;cases hk)];exact(kτ k v hk).1
theorem JK.push {ys:List Int}{G:Hp->Prop}{ty:TypeId}(h:JK O2 Z22 b vs T L)(hl:L.length+ys.length<=140737488355328)(hG:∀Z'2,JK O2 Z'2 b vs T (L++ys)->G Z'2):
  ∃p c,Hp.ld Z22 ⟨b,0,none⟩=some (.slice p L.length c)/\∀(Z222:Hp) (q:Option Addr) (d:Nat),Ext Z22 Z222->Kt 1 Z222 q ys.length (ys.map (.int .u8))->AH prog (Builtin.append_ #[79,79] ty #[.slice p L.length c,.slice q ys.length d]) Z222 (CS λp' n' c' y=>AH prog (Instr.storeAt 79 (.pointer (aD b 0)) (.slice p' n' c')) y (λ_=>G)):=by
 obtain⟨p,c,hb,ho,hp⟩:=h.at_;refine⟨p,c,AD hb rfl,λZ222 q d BD hq=>CF (Own.mono BD ho) hq Ej.Gz (by omega) λp' c' y A E4=>⟨p',L.length+ys.length,c',rfl,?_⟩⟩;have e1:L.length+ys.length=(L++ys).length:=by rw[Aet]
 rw[e1]at A ⊢;rw[<-AfF]at A;exact JK.put h hb hp A (Ext.trans (Ext.del BD p) E4) hG
theorem JK.ld1 {x:Value}(h:JK O2 Z22 b [x] T L):Hp.ld Z22 ⟨b,1,none⟩=some x:=by
 obtain⟨p,c,hb,_⟩:=h.at_;exact AD hb rfl
theorem JK.ALZ {x:Value}{k:IntKind}{u:Int}{Ty:TypeId}{G:Hp->Prop}(h:JK O2 Z22 b [x] T L)(hz:∀w,(Go.sizeOf Ty).run prog w=.ok 1 w)(hG:∀Z'2,JK O2 Z'2 b [.int k u] T L->G Z'2):AH prog (Instr.storeAt Ty (.pointer (aD b 1)) (.int k u)) Z22 (λ_=>G):=by
 obtain⟨p,c,hb,ho,hp⟩:=h.at_;refine AH.store (P:=prog) hz hb rfl (by simp) (λv hv=>by rw[Aev.1 (show v∈[Value.int k u] from hv)];rfl) (hG _ ⟨⟨p,c,?_,Own.here ho λa ha=>Hp.AB (hp a ha).1,hp⟩,λk v A=>?_,h.new⟩)
 .rw[Hp.AA];rfl
 .rw[Hp.AB (λe=>by rw[e,h.new]at A;cases A)];exact h.ext _ _ A
theorem JK.store {i:Nat}{v:Int}{G:Hp->Prop}(h:JK O2 Z22 b vs T L)(hi:i<L.length)(hG:∀Z'2,JK O2 Z'2 b vs T (L.set i v)->G Z'2):
  ∃p c A o',Hp.ld Z22 ⟨b,0,none⟩=some (.slice p L.length c)/\p=some ⟨A,o',none⟩/\(∀x,L[i]?=some x->Hp.ld Z22 ⟨A,o'+i*1,none⟩=some (.int .u8 x))/\AH prog (Instr.storeAt 5 (.pointer (aD A (o'+i*1))) (.int .u8 v)) Z22 (λ_=>G):=by
 obtain⟨p,c,hb,ho,hp⟩:=h.at_;obtain⟨A,o',e,jW⟩:=A2.ADp (P:=prog) (T:=5) (v:=v) (Ψ:=G) ho hi AFW λZ'2 Cq hx=>hG Z'2 (by
  have kb:=JK.keep hx hb λa ha e=>(hp a ha).1 e.symm;refine⟨⟨p,c,by rw[Af2];exact kb.1,by rw[Af2];exact Cq,hp⟩,λk v hk=>?_,h.new⟩;exact(JK.keep hx (h.ext _ _ hk) λa ha e=>by rw[e,(hp a ha).2]at hk;cases hk).1)
 refine⟨p,c,A,o',AD hb rfl,e,λx hx=>?_,jW⟩;obtain⟨b2,o2,e2,hl⟩:=Be.at ho.rd hx;rw[e]at e2;cases e2;exact hl
end
theorem ACv {N:Nat}(h:N<4611686018427387904):IntKind.i64.wrap (Int.tdiv (N:Int) 8)=((N/8:Nat):Int):=by
 have e:Int.tdiv (N:Int) 8=((N/8:Nat):Int):=(Int.ofNat_tdiv N 8).symm;rw[e];simp[IntKind.wrap,IntKind.bits,IntKind.signed];omega
theorem uJ (N:Nat):Int.tmod (N:Int) 8=((N%8:Nat):Int):=(Int.ofNat_tmod N 8).symm
theorem AFX {v w:Nat}(h:v<18446744073709551616):IntKind.u8.wrap (Go.bits .and .u64 ((v:Int)/2^Int.toNat (w:Int)) 1)=sA (decide (v/2^w%2=1)):=by
 rw[AfR];have G:(v:Int)/2^w=((v/2^w:Nat):Int):=by rw[Int.natCast_ediv,AiX];rfl
 have h1:v/2^w<18446744073709551616:=AgW (Aho _ _) h;rw[G,show(1:Int)=((1:Nat):Int) from rfl,bits_and_u64_nat _ _ h1 (by decide),Nat.and_one_is_mod];have A:v/2^w%2=0\/v/2^w%2=1:=by omega
 rcases A with A|A<;>rw[A]<;>decide
section
variable {O2 Z22:Hp}{b:Nat}{R:Rr}
theorem lv {v w:Nat}{l:List Bool}{G:Nat->Nat->Hp->Prop}(hv:v<18446744073709551616)(hw:w<=63)(hl:l.length<=1000000000000)(h:JK O2 Z22 b [.I (l.length:Int)] 280 (JP (l++[false])))(hG:∀Z'2,NJ O2 Z'2 b (l++[decide (v/2^w%2=1)])->G b 0 Z'2):
  Pq (aD b 0) λA P1=>LS Z22 A P1 λP3 n28 c28=>LI .i64 Z22 A (P1+1) λTl=>8≠(0:Int)/\Df (IntKind.i64.wrap (Int.tdiv Tl 8)) λIE=>Pq P3 λXU Yy=>In IE (n28:Int)/\LI .u8 Z22 XU (Yy+IE.toNat*1) λxl=>(0<=(w:Int)/\(w:Int)<=((IntKind.bits .u64:Nat):Int))/\Df ((v:Int)/2^Int.toNat (w:Int)) λJR=>Df (Go.bits .and .u64 JR 1) λNG=>Df (IntKind.u8.wrap NG) λKz=>LI .i64 Z22 A (P1+1) λsM=>8≠(0:Int)/\Df (Int.tmod sM 8) λXX=>AK (7-XX)/\((0:Int)<=(7-XX)/\(7-XX)<=((IntKind.bits .u8:Nat):Int))/\Df (IntKind.u8.wrap (Kz*2^Int.toNat (7-XX))) λXP=>Df (Go.bits .or .u8 xl XP) λLj=>In IE (n28:Int)/\AH prog (Instr.storeAt 5 (.pointer (aD XU (Yy+IE.toNat*1))) (.int .u8 Lj)) Z22 (λ_ y=>LI .i64 y A (P1+1) λJH=>AK (JH+1)/\AH prog (Instr.storeAt 3 (.pointer (aD A (P1+1))) (.I (JH+1))) y (λ_ AG=>G A P1 AG)):=by
 have hlen:(JP (l++[false])).length=l.length/8+1:=by rw[FM,Aet,AfD];omega
 generalize hx:decide (v/2^w%2=1)=x at hG;obtain⟨p,c,b',o',h1,h2,h3,h4⟩:=h.store (i:=l.length/8) (v:=RE (l++[x]) (l.length/8)) (G:=λy=>LI .i64 y b (0+1) λJH=>AK (JH+1)/\AH prog (Instr.storeAt 3 (.pointer (aD b (0+1))) (.I (JH+1))) y (λ_ AG=>G b 0 AG)) (by omega) λZ12 WX=>by
  rw[yw]at WX;refine⟨(l.length:Int),WX.ld1,by unfold AK;omega,WX.ALZ lu λZ222 Yk=>hG Z222 ?_⟩;have e:((l++[x]).length:Int)=(l.length:Int)+1:=by rw[Aet,AfD];omega
  show JK O2 Z222 b [.I ((l++[x]).length:Int)] 280 (JP (l++[x]))
  rw[e];exact Yk
 refine⟨b,0,rfl,p,_,c,h1,(l.length:Int),h.ld1,by decide,λIE e33=>?_⟩;rw[ACv (by omega)]at e33;subst e33;refine⟨b',o',h2,⟨by omega,by omega⟩,RE (l++[false]) (l.length/8),by rw[AfR];exact h3 _ (Yg (by rw[<-FM,hlen];omega)),⟨by omega,show(w:Int)<=((64:Nat):Int) by omega⟩,λJR e38 NG e39 Kz e40=>⟨(l.length:Int),h.ld1,by decide,λXX e45=>?_⟩⟩;rw[uJ]at e45;subst e45;refine⟨by unfold AK;omega,⟨by omega,show _<=((8:Nat):Int) by omega⟩,λXP e47 Lj e48=>⟨⟨by omega,by omega⟩,?_⟩⟩;have e1:Kz=sA x:=by rw[e40,e39,e38,AFX hv,hx]
 have e2:Int.toNat (7-((l.length%8:Nat):Int))=7-l.length%8:=by omega
 rw[e48,e47,e1,e2,AEZ,AfR];exact h4
theorem dt {l:List Bool}{G:Hp->Prop}(h:NJ O2 Z22 b l)(hl:l.length<=1000000000000)(K:∀Z'2,JK O2 Z'2 b [.I (l.length:Int)] 280 (JP (l++[false]))->G Z'2):
  LI .i64 Z22 b (0+1) λJU=>8≠(0:Int)/\Df (Int.tmod JU 8) λDY=>Br (DY=0) (LS Z22 b 0 λIA n20 c20=>Al Z22 λA=>AH prog (Builtin.append_ #[79,79] 79 #[.slice IA n20 c20,(.slice (aD A 0) 1 1)]) (Hp.set Z22 A (.cells #[.int .u8 0] 5 (0,0))) (CS λoY n22 oZ y=>AH prog (Instr.storeAt 79 (.pointer (aD b 0)) (.slice oY n22 oZ)) y (λ_ AG=>G AG))) (G Z22):=by
 refine⟨(l.length:Int),h.ld1,by decide,λDY du=>?_⟩;rw[uJ]at du;subst du;have hb:=FM l;refine⟨λh0=>?_,λh0=>K Z22 (by rw[<-sD (by omega)];exact h)⟩;obtain⟨p,c,h1,h2⟩:=h.push (ys:=[0]) (ty:=79) (G:=G) (by rw[hb,AfD];omega) λZ'2 h'=>K Z'2 (by rw[sC (by omega)] at h';exact h');exact⟨p,_,c,h1,λA AFZ=>h2 _ (aD A 0) 1 (Ext.set AFZ) ⟨rfl,by decide,.inr ⟨A,0,rfl,Bm.of_cells (c:=[.int .u8 0]) (Hp.AA _ _ _)⟩⟩⟩
theorem uK {v:Nat}(hv:v<18446744073709551616):∀(w:Nat) (l:List Bool) (Z22:Hp),w<=63->l.length+w<=1000000000000->JK O2 Z22 b [.I (l.length:Int)] 280 (JP (l++[false]))->(∀Z'2,NJ O2 Z'2 b (l++Du v (w+1))->R (.T #[]) Z'2)->Er.Ep R (aD b 0) (v:Int) (w:Int) Z22:=by
 intro w
 induction w with
 | zero=>
  intro l Z22 hw hl h A;exact Er.FQ (lv hv hw (by omega) h λZ'2 G=>⟨λ_=>A Z'2 G,λhh=>absurd rfl hh⟩)
 | succ w ih=>
  intro l Z22 hw hl h A;have c1:((w+1:Nat):Int)-1=(w:Int):=by omega
  have e0:l++Du v (w+1+1)=(l++[decide (v/2^(w+1)%2=1)])++Du v (w+1):=by rw[Du,Aew];rfl
  rw[e0]at A;refine Er.FQ (lv hv hw (by omega) h λZ'2 G=>⟨λhh=>by omega,λ_=>?_⟩);rw[c1];have lC:(l++[decide (v/2^(w+1)%2=1)]).length=l.length+1:=by rw[Aet,AfD]
  generalize l++[decide (v/2^(w+1)%2=1)]=l' at G A lC;exact⟨by unfold AK;omega,dt G (by omega) λZ222 h2=>ih l' Z222 (by omega) (by omega) h2 A⟩
theorem DT {v w:Nat}{l:List Bool}(h:NJ O2 Z22 b l)(hv:v<18446744073709551616)(hw:w<=64)(hl:l.length<=900000000000)(A:∀Z'2,NJ O2 Z'2 b (l++Du v w)->R (.T #[]) Z'2):Spec prog 196 #[.pointer (aD b 0),.U (v:Int),.I (w:Int)] Z22 R:=by
 cases w with
 | zero=>exact Er.start ⟨λ_=>A Z22 (by rw[Du,AfG];exact h),λG=>absurd rfl G⟩
 | succ w=>
  have c1:((w+1:Nat):Int)-1=(w:Int):=by omega
  refine Er.start ⟨λG=>by omega,λ_=>?_⟩;rw[c1];exact⟨by unfold AK;omega,b,0,rfl,dt h (by omega) λZ222 h2=>uK hv w l Z222 (by omega) (by omega) h2 A⟩
end
end TwW
end
section
namespace TwW
open Go Tw
theorem Mq (v w:Nat):dA (Du v w)=v%2^w:=by unfold dA;rw[Yh,AgZ,AfW]
def ldF (x:Nat):Nat->Nat->Nat
 | 0,a=>a
 | f+1,a=>if x*2^a%18446744073709551616/9223372036854775808=0 then ldF x f (a+1) else a
def trF (x:Nat):Nat->Nat->Nat
 | 0,b=>b
 | f+1,b=>if x/2^b%2=0 then trF x f (b+1) else b
abbrev Ph (x:Nat):Nat:=ldF x 31 0
abbrev LY (x:Nat):Nat:=trF x 64 0
theorem uL {x:Nat}:∀(f a:Nat),a+f=31->x*2^a<18446744073709551616->ldF x f a<=31/\x*2^ldF x f a<18446744073709551616
 | 0,a,h,A=>⟨by rw[ldF];omega,by rw[ldF];exact A⟩
 | f+1,a,h,A=>by
  rw[ldF];by_cases G:x*2^a%18446744073709551616/9223372036854775808=0
  .rw[Aex G];refine uL f (a+1) (by omega) ?_;rw[AfY A]at G;rw[AgP,<-AhS];omega
  .rw[Aeu G];exact⟨by omega,A⟩
theorem uM {x:Nat}(hx:x≠0)(U4:x<18446744073709551616):∀(f b:Nat),b+f=64->x%2^b=0->x%2^trF x f b=0/\trF x f b<=63/\x/2^trF x f b%2≠0
 | 0,b,h,A=>by
  obtain rfl:b=64:=by omega
  exact absurd (by rw[AfY U4]at A;exact A) hx
 | f+1,b,h,A=>by
  rw[trF];by_cases G:x/2^b%2=0
  .rw[Aex G];refine uM hx U4 f (b+1) (by omega) ?_;rw[AgP,Aic,A,G,Nat.mul_zero]
  .rw[Aeu G];exact⟨A,by omega,G⟩
structure Nou (x:Nat):Prop where
 a:Ph x<=31
 lt:x*2^Ph x<18446744073709551616
 b:LY x<=63
 dv:x%2^LY x=0
 ab:Ph x+LY x<=63
theorem nou {x:Nat}(hx:x≠0)(U4:x<18446744073709551616):Nou x:=by
 obtain⟨h1,A⟩:=uL (x:=x) 31 0 rfl (by omega);obtain⟨h3,h4,G⟩:=uM hx U4 64 0 rfl (Ahz x);refine⟨h1,A,h4,h3,?_⟩;have h6:1<=x/2^LY x:=by
  cases hh:x/2^LY x with
  | zero=>rw[hh]at G;exact absurd rfl G
  | succ n=>omega
 have h7:2^LY x<=x:=by
  have:=Nat.div_mul_le_self x (2^LY x);exact AfU (by have:=AfK (2^LY x) h6;omega) this
 have h8:2^(Ph x+LY x)<2^64:=by
  rw[Ahf,AgK];exact AgW (AfK _ h7) A
 have:=(Nat.pow_lt_pow_iff_right (by decide:1<2)).1 h8;omega
theorem AFa {x a b:Nat}(A:x*2^a<18446744073709551616)(hd:x%2^b=0)(uN:a+b<=64):dA (Du (x/2^b) (64-a-b))*2^b=x:=by
 have G:x/2^b<2^(64-a-b):=by
  rw[Agc (AiY b),<-Ahf,show 64-a-b+b=64-a by omega];have h2:x*2^a<2^(64-a)*2^a:=by rw[<-Ahf,show 64-a+a=64 by omega];exact A
  exact Nat.lt_of_mul_lt_mul_right h2
 rw[yx G];have:=Nat.div_add_mod x (2^b);rw[hd,AgY,AgK]at this;exact this
def Qk (z:Int):Nat×Nat×Nat:=if z=0 then(0,1,0) else if -64<=z/\z<=63 then(2,2,7) else if -256<=z/\z<=255 then(6,3,9) else if -2048<=z/\z<=2047 then(14,4,12) else(15,4,64)
def Gd (z:Int):Nat:=(z%18446744073709551616).toNat
theorem lz (z:Int):Gd z<18446744073709551616:=by unfold Gd;omega
def TP (z:Int):List Bool:=Du (Qk z).1 (Qk z).2.1++Du (Gd z) (Qk z).2.2
structure qp where
 a:Nat
 b:Nat
 has:Bool
def Gx (w:qp)(x:Nat):List Bool×qp:=
 if x=0 then([false],w)
 else if w.has=true/\w.a<=Ph x/\w.b<=LY x then([true]++[false]++Du (x/2^w.b) (64-w.a-w.b),w)
 else([true]++[true]++Du (Ph x) 5++Du (64-Ph x-LY x-1) 6++Du (x/2^LY x) (64-Ph x-LY x),⟨Ph x,LY x,true⟩)
def gS:Int×Int->Int->qp->List (Int×Int)->List Bool
 | _,_,_,[]=>[]
 | p,d,w,q::ps=>TP (q.1-p.1-d)++(Gx w (q.2.toNat ^^^ p.2.toNat)).1++gS q (q.1-p.1) (Gx w (q.2.toNat ^^^ p.2.toNat)).2 ps
def E5 (ps:List (Int×Int)):List Bool:=Du ps.length 13++match ps with
 | []=>[]
 | p::ps=>Du (Gd p.1) 64++Du p.2.toNat 64++gS p 0 ⟨0,0,false⟩ ps
end TwW
end
section
namespace TwW
open Go Tw Go.RowKit Go.Proofs.Tryz
theorem U5 (n:Nat):IntKind.u64.wrap (n:Int)=((n%18446744073709551616:Nat):Int):=by simp[IntKind.wrap,IntKind.bits,IntKind.signed]
theorem ALa (z:Int):IntKind.u64.wrap z=(Gd z:Int):=by
 have e:IntKind.u64.wrap z=z%18446744073709551616:=by simp[IntKind.wrap,IntKind.bits,IntKind.signed]
 rw[e];unfold Gd;omega
theorem shr {x b:Nat}:(x:Int)/2^Int.toNat (b:Int)=((x/2^b:Nat):Int):=by rw[AfR,Int.natCast_ediv,AiX];rfl
theorem shl {x a:Nat}:IntKind.u64.wrap ((x:Int)*2^Int.toNat (a:Int))=((x*2^a%18446744073709551616:Nat):Int):=by
 rw[AfR,<-U5]
 congr 1
section
variable {O2 Z22:Hp}{b:Nat}{R:Rr}
theorem aI {x:Nat}(hx:x≠0)(U4:x<18446744073709551616)(hR:R (.T #[.I (Ph x:Int),.I (LY x:Int)]) Z22):Spec prog 243 #[.U (x:Int)] Z22 R:=by
 have tail:∀(f c a:Nat),c+f=64->x%2^c=0->R (.T #[.I (a:Int),.I (trF x f c:Int)]) Z22->C4.H8 R (x:Int) (a:Int) (c:Int) Z22:=by
  intro f
  induction f with
  | zero=>
   intro c a hc h0 _;obtain rfl:c=64:=by omega
   exact absurd (by rw[AfY U4]at h0;exact h0) hx
  | succ f ih=>
   intro c a hc h0 h;refine C4.G0 ⟨⟨by omega,show(c:Int)<=((64:Nat):Int) by omega⟩,λNF e19 QH e20=>?_⟩;have h1:x/2^c<18446744073709551616:=AgW (Aho _ _) U4;rw[e19,shr,show(1:Int)=((1:Nat):Int) from rfl,bits_and_u64_nat _ _ h1 (by decide),Nat.and_one_is_mod]at e20;rw[trF]at h;refine⟨λG=>⟨by unfold AK;omega,?_⟩,λG=>?_⟩
   .have G:x/2^c%2=0:=by omega
    rw[Aex G]at h;exact ih (c+1) a (by omega) (by rw[AgP,Aic,h0,G,Nat.mul_zero]) h
   .rw[Aeu (by omega)]at h;exact h
 have head:∀(f a:Nat),a+f=31->R (.T #[.I (ldF x f a:Int),.I (LY x:Int)]) Z22->C4.HT R (x:Int) (a:Int) 0 Z22:=by
  intro f
  induction f with
  | zero=>
   intro a ha h;exact C4.CJ ⟨λhh=>by omega,λ_=>tail 64 0 a rfl (Ahz x) h⟩
  | succ f ih=>
   intro a ha h;refine C4.CJ ⟨λ_=>⟨⟨by omega,show(a:Int)<=((64:Nat):Int) by omega⟩,λGp e11=>⟨by decide,λCR A=>?_⟩⟩,λhh=>by omega⟩;rw[e11,shl,show Int.toNat 63=63 from rfl]at A;have A:CR=((x*2^a%18446744073709551616/9223372036854775808:Nat):Int):=by rw[A];omega
   rw[ldF]at h;refine⟨λG=>⟨by unfold AK;omega,?_⟩,λG=>?_⟩
   .rw[Aex (by omega)]at h;exact ih (a+1) (by omega) h
   .rw[Aeu (by omega)]at h;exact tail 64 0 a rfl (Ahz x) h
 exact C4.start (head 31 0 rfl hR)
theorem jX {z:Int}(A:R (.T #[.U ((Qk z).1:Int),.I ((Qk z).2.1:Int),.I ((Qk z).2.2:Int)]) Z22):Spec prog 197 #[.I z] Z22 R:=by
 refine Si.start ?_;unfold Qk at A
 repeat' first|intro h|constructor
 all_goals (repeat' split at A)<;>first|exact A|(exfalso;omega)
theorem uO (z:Int):(Qk z).1<18446744073709551616/\(Qk z).2.1<=64/\(Qk z).2.2<=64:=by
 unfold Qk
 repeat' split
 all_goals decide
abbrev pA (w:qp):Value:=.agg #[.I (w.a:Int),.I (w.b:Int),.bool w.has]
structure Xh (w:qp):Prop where
 ab:w.a+w.b<=63
theorem uP {w:qp}{x:Nat}(A:Xh w)(G:x<18446744073709551616):Xh (Gx w x).2:=by
 unfold Gx;split
 .exact A
 .rename_i h;split
  .exact A
  .exact⟨(nou h G).ab⟩
theorem jY {w:qp}{x:Nat}{l:List Bool}(h:NJ O2 Z22 b l)(hw:Xh w)(U4:x<18446744073709551616)(hl:l.length<=800000000000)(hR:∀Z'2,NJ O2 Z'2 b (l++(Gx w x).1)->R (.returned (pA (Gx w x).2)) Z'2):Spec prog 198 #[pA w,.pointer (aD b 0),.U (x:Int)] Z22 R:=by
 refine ID.start λb3 b6=>⟨λh0=>?_,λh0=>?_⟩
 .have h0:x=0:=by omega
  subst h0;exact DT (v:=0) (w:=1) h (by decide) (by decide) (by omega) λG h1=>⟨rfl,hR G h1⟩
 have h0:x≠0:=by omega
 have hn:=nou h0 U4;refine DT (v:=1) (w:=1) h (by decide) (by decide) (by omega) λG h1=>⟨rfl,aI h0 U4 ⟨_,_,rfl,?_⟩⟩;have h1:NJ O2 G b (l++[true]):=h1;have fz:(l++[true]).length=l.length+1:=by simp
 have new:¬(w.has=true/\w.a<=Ph x/\w.b<=LY x)->Spec prog 196 #[.pointer (aD b 0),.U 1,.I 1] G (BI R (λz AQ=>z=(.tuple #[])/\Df (IntKind.u64.wrap (Ph x:Int)) λTK=>Spec prog 196 #[.pointer (aD b 0),.U TK,.I 5] AQ (BI R (λz A5=>z=(.tuple #[])/\AK (64-(Ph x:Int))/\AK ((64-(Ph x:Int))-(LY x:Int))/\AK (((64-(Ph x:Int))-(LY x:Int))-1)/\Df (IntKind.u64.wrap (((64-(Ph x:Int))-(LY x:Int))-1)) λx62=>Spec prog 196 #[.pointer (aD b 0),.U x62,.I 6] A5 (BI R (λz Cn=>z=(.tuple #[])/\(0<=(LY x:Int)/\(LY x:Int)<=((IntKind.bits .u64:Nat):Int))/\Df ((x:Int)/2^Int.toNat (LY x:Int)) λjB=>AK (64-(Ph x:Int))/\AK ((64-(Ph x:Int))-(LY x:Int))/\Spec prog 196 #[.pointer (aD b 0),.U jB,(.I ((64-(Ph x:Int))-(LY x:Int)))] Cn (BI R (λz EU=>z=(.tuple #[])/\R (.returned (.agg #[.I (Ph x:Int),.I (LY x:Int),.bool true])) EU)))))))):=λA9=>by
  have e0:Gx w x=([true]++[true]++Du (Ph x) 5++Du (64-Ph x-LY x-1) 6++Du (x/2^LY x) (64-Ph x-LY x),⟨Ph x,LY x,true⟩):=by unfold Gx;rw[Aeu h0,Aeu A9]
  rw[e0]at hR;obtain⟨n1,n2,n3,n4,n5⟩:=hn;generalize Ph x=A at *;generalize LY x=lb at *;refine DT (v:=1) (w:=1) h1 (by decide) (by decide) (by omega) λZ222 h2=>⟨rfl,λTK e54=>?_⟩;rw[U5,AfY (by omega)]at e54;subst e54;have h2:NJ O2 Z222 b (l++[true]++[true]):=h2;have Rl:(l++[true]++[true]).length=l.length+2:=by simp
  refine DT (v:=A) (w:=5) h2 (by omega) (by decide) (by omega) λZ3 h3=>⟨rfl,by unfold AK;omega,by unfold AK;omega,by unfold AK;omega,λx62 e62=>?_⟩;have c1:(64-(A:Int))-(lb:Int)=((64-A-lb:Nat):Int):=by omega
  have c2:((64-A-lb:Nat):Int)-1=((64-A-lb-1:Nat):Int):=by omega
  rw[c1,c2,U5,AfY (by omega)]at e62;subst e62;rw[c1];have hl3:(l++[true]++[true]++Du A 5).length=l.length+7:=by rw[Aet,Rl,Bz]
  refine DT (v:=64-A-lb-1) (w:=6) h3 (by omega) (by decide) (by omega) λZ4 h4=>⟨rfl,⟨by omega,show(lb:Int)<=((64:Nat):Int) by omega⟩,λjB e67=>⟨by unfold AK;omega,by unfold AK;omega,?_⟩⟩;rw[shr]at e67;subst e67;have hl4:(l++[true]++[true]++Du A 5++Du (64-A-lb-1) 6).length=l.length+13:=by rw[Aet,hl3,Bz]
  refine DT (v:=x/2^lb) (w:=64-A-lb) h4 (AgW (Aho _ _) U4) (by omega) (by omega) λZ5 h5=>⟨rfl,hR Z5 ?_⟩;simpa only[Aew] using h5
 refine⟨λht=>⟨λha=>⟨λhb=>?_,λhb=>new λhh=>by omega⟩,λha=>new λhh=>by omega⟩,λhf=>new λhh=>by rw[hf]at hh;cases hh.1⟩;have e0:Gx w x=([true]++[false]++Du (x/2^w.b) (64-w.a-w.b),w):=by unfold Gx;rw[Aeu h0,Aex ⟨ht,by omega,by omega⟩]
 rw[e0]at hR;have uN:=hw.ab;refine DT (v:=0) (w:=1) h1 (by decide) (by decide) (by omega) λZ222 h2=>⟨rfl,⟨by omega,show(w.b:Int)<=((64:Nat):Int) by omega⟩,λLy e41=>⟨by unfold AK;omega,by unfold AK;omega,?_⟩⟩;rw[shr]at e41;subst e41;have c1:(64-(w.a:Int))-(w.b:Int)=((64-w.a-w.b:Nat):Int):=by omega
 rw[c1];have h2:NJ O2 Z222 b (l++[true]++[false]):=h2;have Rl:(l++[true]++[false]).length=l.length+2:=by simp
 refine DT (v:=x/2^w.b) (w:=64-w.a-w.b) h2 (AgW (Aho _ _) U4) (by omega) (by omega) λZ3 h3=>⟨rfl,?_⟩;have:=hR Z3 (by simpa only[Aew] using h3);rw[show pA w=.agg #[.I (w.a:Int),.I (w.b:Int),.bool true] by rw[<-ht]]at this;exact this
end
structure jZ (ps:List Pt):Prop where
 t:∀x∈ps,-1099511627776<=x.1/\x.1<=1099511627776
 v:∀x∈ps,0<=x.2/\x.2<18446744073709551616
 up:∀(i:Nat) (x y:Pt),ps[i]?=some x->ps[i+1]?=some y->x.1<y.1
 n:ps.length<=8191
theorem uQ {a b:Int}(ha:0<=a/\a<18446744073709551616)(hb:0<=b/\b<18446744073709551616):Go.bits .xor .u64 a b=((a.toNat ^^^ b.toNat:Nat):Int)/\a.toNat ^^^ b.toNat<18446744073709551616:=by
 have A:a.toNat<2^64:=by omega
 have G:b.toNat<2^64:=by omega
 refine⟨?_,Nat.xor_lt_two_pow A G⟩;obtain⟨x,rfl⟩:∃x:Nat,a=(x:Int):=⟨a.toNat,by omega⟩;obtain⟨y,rfl⟩:∃y:Nat,b=(y:Int):=⟨b.toNat,by omega⟩;exact bits_xor_u64_nat x y (by omega) (by omega)
section
variable {O2 Z22:Hp}{q:Nat}{R:Rr}{p:Option Addr}{n c:Nat}{ps:List Pt}
theorem uR (A:BB 2 Bp Z22 p n ps)(hm:jZ ps)(hR:R (.B true) Z22):Spec prog 195 #[.slice p n c] Z22 R:=by
 suffices H:∀(d i:Nat),n-i=d->i<=n->Jp.HA R p n c p n c (n:Int) (i:Int) Z22 from Jp.start (H n 0 rfl (AfI _))
 intro d
 induction d with
 | zero=>intro i hd hi;exact Jp.Bi ⟨λG=>by omega,λ_=>hR⟩
 | succ d ih=>
  intro i hd hi;have IN:i<n:=by omega
  obtain⟨x,hx⟩:=A.ex IN;obtain⟨b,o,rfl,Dt⟩:=Bp.at A hx;obtain⟨t1,t2⟩:=hm.t x (Ae2 hx);have next:=ih (i+1) (by omega) (by omega)
  rw[show((i+1:Nat):Int)=(i:Int)+1 by omega]at next
  have hI:AK ((i:Int)+1):=E8 IN A.big;refine Jp.Bi ⟨λ_=>⟨b,o,rfl,by unfold In;omega,x.1,x.2,by simpa using Dt,λ_=>⟨λG=>by omega,λ_=>⟨λG=>by omega,λ_=>⟨λh0=>?_,λ_=>⟨hI,next⟩⟩⟩⟩⟩,λG=>by omega⟩;obtain⟨j,rfl⟩:∃j,i=j+1:=⟨i-1,by omega⟩;obtain⟨y,hy⟩:=A.ex (show j<n by omega);obtain⟨b2,o2,e2,ja⟩:=Bp.at A hy;cases e2;have CA:=hm.up j y x hy hx;have c1:((j+1:Nat):Int)-1=(j:Int):=by omega
  rw[c1];have EW:=A.big;exact⟨by unfold AK;omega,b,o,rfl,by unfold In;omega,y.1,by simpa using ja.1,λG=>by omega,λ_=>⟨hI,next⟩⟩
theorem dx (hr:BB 2 Bp O2 p n ps)(hm:jZ ps)(hR:∀Z'2,NJ O2 Z'2 q (E5 ps)->Cz.QX R (aD q 0) Z'2):
  ∀(g i:Nat) (Z22:Hp) (l:List Bool) (d:Int) (w:qp) (x:Pt),n-(i+1)=g->i<n->ps[i]?=some x->NJ O2 Z22 q l->l++gS x d w (ps.drop (i+1))=E5 ps->l.length<=400*(i+1)->(-4398046511104<=d/\d<=4398046511104)->Xh w->
   Cz.jM R p n c (aD q 0) (i:Int) d (w.a:Int) (w.b:Int) w.has Z22:=by
 have hn:ps.length=n:=hr.1;have h8:=hm.n;intro g
 induction g with
 | zero=>
  intro i Z22 l d w x hg hi hx h A hlen hd hw;rw[Aft (by omega),gS,AfG]at A;subst A;exact Cz.Tm ⟨by unfold AK;omega,λ_=>hR Z22 h,λhh=>by omega⟩
 | succ g ih=>
  intro i Z22 l d w x hg hi hx h A hlen hd hw;obtain⟨y,hy⟩:=hr.ex (show i+1<n by omega);rw[GN hy]at A;rw[gS]at A;obtain⟨b,o,rfl,G⟩:=Bp.at hr hx;obtain⟨b2,o2,e2,ALc⟩:=Bp.at hr hy;cases e2;obtain⟨t1,t2⟩:=hm.t x (Ae2 hx);obtain⟨t3,t4⟩:=hm.t y (Ae2 hy);have vx:=hm.v x (Ae2 hx);have vy:=hm.v y (Ae2 hy);have c0:(i:Int)+1=((i+1:Nat):Int):=by omega
  have c1:(i:Int)+1-1=(i:Int):=by omega
  obtain⟨z1,z2,z3⟩:=uO (y.1-x.1-d);refine Cz.Tm ⟨by unfold AK;omega,λhh=>by omega,λ_=>?_⟩;rw[c1,c0];refine⟨b,o,rfl,by unfold In;omega,y.1,by simpa using(ALc.mono h.ext).1,by unfold AK;omega,by unfold In;omega,x.1,by simpa using(G.mono h.ext).1,by unfold AK;omega,by unfold AK;omega,jX ⟨_,_,_,rfl,?_⟩⟩;refine DT h z1 z2 (by omega) λZ12 h1=>⟨rfl,by unfold AK;omega,λx76 e76=>?_⟩;rw[ALa]at e76;subst e76;have l1:(l++Du (Qk (y.1-x.1-d)).1 (Qk (y.1-x.1-d)).2.1).length<=l.length+64:=by rw[Aet,Bz];omega
  refine DT h1 (lz _) z3 (by omega) λZ222 h2=>⟨rfl,by unfold In;omega,y.2,by simpa using(ALc.mono h2.ext).2.1,by unfold AK;omega,by unfold In;omega,x.2,by simpa using(G.mono h2.ext).2.1,λx92 e92=>?_⟩;obtain⟨e1,e2⟩:=uQ vy vx;rw[e1]at e92;subst e92;have h2:NJ O2 Z222 q (l++TP (y.1-x.1-d)):=by
   unfold TP;rw[<-Aew];exact h2
  have l2:(l++TP (y.1-x.1-d)).length<=l.length+128:=by unfold TP;rw[Aet,Aet,Bz,Bz];omega
  refine jY h2 hw e2 (by omega) λZ3 h3=>⟨_,_,_,rfl,?_⟩;have l3:(Gx w (y.2.toNat ^^^ x.2.toNat)).1.length<=100:=by
   unfold Gx;split
   .simp
   .split<;>(simp only[Aet,AfD,Bz];omega)
  have:=ih (i+1) Z3 _ (y.1-x.1) _ y (by omega) (by omega) hy h3 (by simpa only[Aew] using A) (by rw[Aet];omega) (by omega) (uP hw e2);exact this
theorem Sm (hr:BB 2 Bp Z22 p n ps)(hm:jZ ps)(hR:∀p' c' Z'2,Be .u8 Z'2 p' (JP (E5 ps)).length (JP (E5 ps))->(JP (E5 ps)).length<=c'->Ext Z22 Z'2->R (.T #[.slice p' (JP (E5 ps)).length c',.I 0]) Z'2):Spec prog 124 #[.slice p n c] Z22 R:=by
 have hn:ps.length=n:=hr.1;have h8:=hm.n;refine Cz.start ⟨λhh=>by omega,λ_=>uR hr hm ⟨true,rfl,λhh=>(by cases hh),λ_ G uS bF e23=>?_⟩⟩;rw[U5,AfY (by omega)]at e23;subst e23;have h0:NJ Z22 (Z22.set G (.cells #[.N,.I 0] 280 (0,0))) G []:=⟨⟨none,0,Hp.AA _ _ _,Own.nil,λa ha=>by cases ha⟩,Ext.set uS,uS⟩;have fin:∀Z'2,NJ Z22 Z'2 G (E5 ps)->Cz.QX R (aD G 0) Z'2:=λZ'2 h=>by
  obtain⟨p',c',hb,ho,hp⟩:=h.at_;exact Cz.Ix ⟨G,0,rfl,p',_,c',AD hb rfl,hR p' c' Z'2 ho.rd (Own.cap ho) h.ext⟩
 refine DT (v:=n) (w:=13) h0 (by omega) (by decide) (by simp) λZ12 h1=>⟨rfl,λ_=>⟨λhz=>?_,λhz=>?_⟩⟩
 .have U6:ps=[]:=Ae6 (by omega);refine fin Z12 ?_;rw[U6]at hn ⊢;rw[<-hn]at h1;exact h1
 .obtain⟨x,hx⟩:=hr.ex (show 0<n by omega);obtain⟨b,o,rfl,Dt⟩:=Bp.at hr hx;have vx:=hm.v x (Ae2 hx);rw[AgZ,AgY]at Dt;have h1:NJ Z22 Z12 G (Du n 13):=h1;refine⟨b,o,rfl,by unfold In;omega,x.1,(Dt.mono h1.ext).1,λgG l9=>?_⟩;rw[ALa]at l9;subst l9;refine DT (w:=64) h1 (lz _) (by decide) (by rw[Bz];decide) λZ222 h2=>⟨rfl,by unfold In;omega,x.2,(Dt.mono h2.ext).2.1,?_⟩;have e2:x.2=((x.2.toNat:Nat):Int):=by omega
  rw[e2];refine DT (v:=x.2.toNat) (w:=64) h2 (by omega) (by decide) (by rw[Aet,Bz,Bz];decide) λZ3 h3=>⟨rfl,?_⟩;refine dx hr hm fin (n-1) 0 Z3 _ 0 ⟨0,0,false⟩ x (by omega) (by omega) hx h3 ?_ (by simp only[Aet,Bz];decide) (by decide) ⟨by decide⟩;obtain⟨A,rfl⟩:∃A,ps=x::A:=by
   cases ps with
   | nil=>cases hx
   | cons y A=>cases hx;exact⟨A,rfl⟩
  show Du n 13++Du (Gd x.1) 64++Du x.2.toNat 64++gS x 0 ⟨0,0,false⟩ A=Du (x::A).length 13++(Du (Gd x.1) 64++Du x.2.toNat 64++gS x 0 ⟨0,0,false⟩ A)
  rw[hn];simp only[Aew]
end
abbrev EB (O2 Z22:Hp)(b:Nat)(L:List Int):Prop:=JK O2 Z22 b [] 199 L
theorem u8w (n:Nat):IntKind.u8.wrap (n:Int)=((n%256:Nat):Int):=by simp[IntKind.wrap,IntKind.bits,IntKind.signed]
theorem uT {v:Nat}:Go.bits .or .u8 (IntKind.u8.wrap (v:Int)) 128=((v%128+128:Nat):Int):=by
 rw[u8w,ACr ⟨v%256,AhA _ (by decide)⟩];have:v%256%128=v%128:=by omega
 rw[this]
section
variable {O2 Z22:Hp}{b:Nat}{L:List Int}{R:Rr}
theorem EB.byte {x:Int}{G:Hp->Prop}(h:EB O2 Z22 b L)(hl:L.length<=1000000000000)(hG:∀Z'2,EB O2 Z'2 b (L++[x])->G Z'2):
  LS Z22 b 0 λXQ n24 c24=>Al Z22 λPU=>AH prog (Builtin.append_ #[79,79] 79 #[.slice XQ n24 c24,(.slice (aD PU 0) 1 1)]) (Hp.set Z22 PU (.cells #[.int .u8 x] 5 (0,0))) (CS λP3 n28 c28 y=>AH prog (Instr.storeAt 79 (.pointer (aD b 0)) (.slice P3 n28 c28)) y (λ_ AG=>G AG)):=by
 obtain⟨p,c,h1,h2⟩:=h.push (ys:=[x]) (ty:=79) (G:=G) (by rw[AfD];omega) hG;exact⟨p,_,c,h1,λF9 A=>h2 _ (aD F9 0) 1 (Ext.set A) ⟨rfl,by simp,.inr ⟨F9,0,rfl,Bm.of_cells (c:=[.int .u8 x]) (Hp.AA _ _ _)⟩⟩⟩
theorem AFb {v:Nat}(h:EB O2 Z22 b L)(hv:¬128<=v)(hl:L.length<=1000000000000)(hR:∀Z'2,EB O2 Z'2 b (L++uv v)->R (.T #[]) Z'2):LS Z22 b 0 λXQ n24 A=>Df (IntKind.u8.wrap (v:Int)) λJj=>Al Z22 λPU=>AH prog (Builtin.append_ #[79,79] 79 #[.slice XQ n24 A,(.slice (aD PU 0) 1 1)]) (Hp.set Z22 PU (.cells #[.int .u8 Jj] 5 (0,0))) (CS λP3 n28 c28 y=>AH prog (Instr.storeAt 79 (.pointer (aD b 0)) (.slice P3 n28 c28)) y (λ_ AG=>R (.T #[]) AG)):=by
 obtain⟨p,n,c,h1,h2⟩:=h.byte (x:=(v:Int)) (G:=R (.T #[])) hl λZ'2 h'=>hR Z'2 (by rw[Ci hv];exact h');refine⟨p,n,c,h1,λJj uU=>?_⟩;rw[u8w,AfY (by omega)]at uU;subst uU;exact h2
theorem uV {v:Nat}(hv:128<=v)(U4:v<18446744073709551616)(hl:L.length<=999999999000)(G:∀Z'2,EB O2 Z'2 b (L++[((v%128+128:Nat):Int)])->128<=v/128->BP.EK R (aD b 0) ((v/128:Nat):Int) Z'2)(hR:∀Z'2,EB O2 Z'2 b (L++uv v)->R (.T #[]) Z'2):
  ∀A,EB O2 A b (L++[((v%128+128:Nat):Int)])->((0:Int)<=7/\7<=((IntKind.bits .u64:Nat):Int))/\Df ((v:Int)/2^Int.toNat 7) λx7=>Br (127<x7) (BP.EK R (aD b 0) x7 A) (LS A b 0 λXQ n24 c24=>Df (IntKind.u8.wrap x7) λJj=>Al A λPU=>AH prog (Builtin.append_ #[79,79] 79 #[.slice XQ n24 c24,(.slice (aD PU 0) 1 1)]) (Hp.set A PU (.cells #[.int .u8 Jj] 5 (0,0))) (CS λP3 n28 c28 AQ=>AH prog (Instr.storeAt 79 (.pointer (aD b 0)) (.slice P3 n28 c28)) AQ (λ_ A5=>R (.T #[]) A5))):=λZ12 WX=>by
 refine⟨by decide,λx7 e7=>?_⟩;have e7:x7=((v/128:Nat):Int):=by rw[e7,show Int.toNat 7=7 from rfl];omega
 subst e7;have fz:(L++[((v%128+128:Nat):Int)]).length=L.length+1:=by simp
 refine⟨λhb=>G Z12 WX (by omega),λhb=>AFb WX (by omega) (by omega) λZ'2 h'=>hR Z'2 ?_⟩;rw[GL hv];rw[Aew] at h';exact h'
theorem AFc:∀(k v:Nat) (L:List Int) (Z22:Hp),v<128^(k+1)->v<18446744073709551616->128<=v->EB O2 Z22 b L->L.length+k<=999999999000->(∀Z'2,EB O2 Z'2 b (L++uv v)->R (.T #[]) Z'2)->BP.EK R (aD b 0) (v:Int) Z22:=by
 intro k
 induction k with
 | zero=>intro v L Z22 hk _ hv;omega
 | succ k ih=>
  intro v L Z22 hk U4 hv h hl hR;have fz:(L++[((v%128+128:Nat):Int)]).length=L.length+1:=by simp
  obtain⟨p,n,c,h1,h2⟩:=h.byte (x:=((v%128+128:Nat):Int)) (by omega) (uV (R:=R) hv U4 (by omega) (λG WX A=>ih (v/128) _ G (by rw[Agc (by decide)];rw[AgP] at hk;exact hk) (by omega) A WX (by omega) λZ'2 h'=>hR Z'2 (by rw[GL hv];rw[Aew] at h';exact h')) hR);refine BP.DB ⟨b,0,rfl,p,n,c,h1,λDY du DA yF=>?_⟩;rw[du,uT]at yF;subst yF;exact h2
theorem dy {v:Nat}(A:∀(x:Int) (G:Hp->Prop),(∀Z'2,EB O2 Z'2 b (L++[x])->G Z'2)->LS Z22 b 0 λXQ n24 c24=>Al Z22 λPU=>AH prog (Builtin.append_ #[79,79] 79 #[.slice XQ n24 c24,(.slice (aD PU 0) 1 1)]) (Hp.set Z22 PU (.cells #[.int .u8 x] 5 (0,0))) (CS λP3 n28 c28 y=>AH prog (Instr.storeAt 79 (.pointer (aD b 0)) (.slice P3 n28 c28)) y (λ_ AG=>G AG)))
  (hv:v<18446744073709551616) (hl:L.length<=900000000000) (hR:∀Z'2,EB O2 Z'2 b (L++uv v)->R (.T #[]) Z'2):Spec prog 194 #[.pointer (aD b 0),.U (v:Int)] Z22 R:=by
 refine BP.start ⟨λhb=>?_,λhb=>⟨b,0,rfl,?_⟩⟩
 .have mA:128<=v:=by omega
  have fz:(L++[((v%128+128:Nat):Int)]).length=L.length+1:=by simp
  obtain⟨p,n,c,h1,h2⟩:=A ((v%128+128:Nat):Int) _ (uV (R:=R) mA hv (by omega) (λZ12 WX AFd=>AFc 9 (v/128) _ Z12 (by omega) (by omega) AFd WX (by omega) λZ'2 h'=>hR Z'2 (by rw[GL mA];rw[Aew] at h';exact h')) hR);refine BP.DB ⟨b,0,rfl,p,n,c,h1,λDY du DA yF=>?_⟩;rw[du,uT]at yF;subst yF;exact h2
 .obtain⟨p,n,c,h1,h2⟩:=A (v:Int) (R (.T #[])) λZ'2 h'=>hR Z'2 (by rw[Ci (by omega)];exact h');refine⟨p,n,c,h1,λJj uU=>?_⟩;rw[u8w,AfY (by omega)]at uU;subst uU;exact h2
theorem aJ {v:Nat}(h:EB O2 Z22 b L)(hv:v<18446744073709551616)(hl:L.length<=900000000000)(hR:∀Z'2,EB O2 Z'2 b (L++uv v)->R (.T #[]) Z'2):Spec prog 194 #[.pointer (aD b 0),.U (v:Int)] Z22 R:=
 dy (λx G A=>h.byte (by omega) A) hv hl hR
def qq (xs:List Int):List Int:=xs.flatMap λx=>uv x.toNat
theorem mB {xs:List Int}(h:∀x∈xs,0<=x/\x<18446744073709551616):(qq xs).length<=xs.length*10:=by
 induction xs with
 | nil=>simp[qq]
 | cons x xs G=>
  have h1:=Ai (x:=x.toNat) (by have:=h x (by simp);omega);have h2:=G λy A=>h y (Aey _ A);show(uv x.toNat++qq xs).length<=_
  rw[Aet,Aez];omega
theorem Nw {p:Option Addr}{n c:Nat}{xs:List Int}(h:EB O2 Z22 b L)(hr:Be .i64 O2 p n xs)(hx:∀x∈xs,0<=x/\x<9223372036854775808)(hn:n<=1000000)(hl:L.length<=800000000000)(A:∀Z'2,EB O2 Z'2 b (L++qq xs)->R (.T #[]) Z'2):Spec prog 122 #[.pointer (aD b 0),.slice p n c] Z22 R:=by
 have hlen:xs.length=n:=hr.1
 suffices H:∀(d i:Nat) (Z22:Hp) (L:List Int),n-i=d->i<=n->L.length<=800000000000+10*i->EB O2 Z22 b L->(∀Z'2,EB O2 Z'2 b (L++qq (xs.drop i))->R (.T #[]) Z'2)->A7.pt5 R (aD b 0) p n c (n:Int) (i:Int) Z22 from A7.start (H n 0 Z22 L rfl (AfI _) (by omega) h A)
 intro d
 induction d with
 | zero=>
  intro i Z22 L hd hi hL h A;rw[Aft (by omega)]at A;exact A7.Y6 ⟨λhh=>by omega,λ_=>A Z22 (by show EB O2 Z22 b (L++[]);rw[AfG];exact h)⟩
 | succ d ih=>
  intro i Z22 L hd hi hL h A;have IN:i<n:=by omega
  obtain⟨x,G⟩:=hr.ex IN;obtain⟨b1,o1,rfl,Dt⟩:=Be.at hr G;have Rg:=hx x (Ae2 G);obtain⟨v,rfl⟩:∃v:Nat,x=(v:Int):=⟨x.toNat,by omega⟩;have hu:=Ai (x:=v) (by omega);refine A7.Y6 ⟨λ_=>⟨b1,o1,rfl,by unfold In;omega,(v:Int),by rw[AfR];exact h.ext.ld Dt,λDY du=>?_⟩,λhh=>by omega⟩;rw[U5,AfY (by omega)]at du;subst du;refine aJ h (by omega) (by omega) λZ12 h1=>⟨rfl,by unfold AK;omega,?_⟩;have:=ih (i+1) Z12 (L++uv v) (by omega) (by omega) (by rw[Aet];omega) h1 λZ'2 h'=>A Z'2 (by
   rw[GN G];show EB O2 Z'2 b (L++(uv v++qq (xs.drop (i+1))))
   rw[<-Aew];exact h')
  rw[show((i+1:Nat):Int)=(i:Int)+1 by omega]at this;exact this
end
end TwW
end
