/-
  Part 4 of the proof that the law EvalRangesUptoCardSaid of the given program answers true for every input of the given statement; the input reads behind the call as it did. (The texts: packed from 29 texts. Names are shortened by the packing program, for the bound on size.)
-/
import Derived.Test.YtamakbhlhpaiiaaGreatDoorA3
import Derived.Laws.BytesArg
import Derived.Laws.Bits64b
import Derived.Laws.IdiomStrings
import Derived.Lib.Bytealg
import Derived.Lib.Split
import Derived.Lib.Index
import Derived.Shelf.Strings.Search3
import Derived.Shelf.Strings.Split
set_option linter.all false
section
set_option maxRecDepth 100000
noncomputable section
namespace TwW
open Go Tw Go.Proofs.Tryz
variable [HL]{R:Rr}{Z:Hp}

namespace I9
variable {p0 p1 wY:Option Addr}{n0 c0 n1 c1 n12 tg:Nat}{x2 x3 x4 DB:Int}
def M:Fw:=⟨prog,15,f15,[17,18,19,20,37],[],false,[],[],[(976,[(0,wL),(1,wL),(2,wI),(3,wI),(4,wI),(12,wL),(13,wI)])]⟩
def ok:M.Ok:=⟨.cons call17 (.cons call18 (.cons call19 (.cons call20 (.cons call37 (AH.nil))))),mixed,func15,by kernel_rfl⟩
def MD:=M.pt 0
def start (h:AG 17 #[.slice p0 n0 c0] Z R (CB λt18 y=>Bn t18 (R (.T #[.N,.I 220]) y) (AG 18 #[.slice p1 n1 c1] y R (CI .i64 λLi C=>Br (Li≠0) (R (.T #[.N,.I 224]) C) (AG 19 #[.I x2] C R (CB λt26 G=>Bn t26 (R (.T #[.N,.I 221]) G) (AG 19 #[.I x3] G R (CB λt30 A=>Bn t30 (R (.T #[.N,.I 221]) A) (Br (x3<x2) (R (.T #[.N,.I 221]) A) (Br (x4<1) (R (.T #[.N,.I 221]) A) (AF (x3-x2)/\x4≠(0:Int)/\Df (IntKind.i64.wrap (Int.tdiv (x3-x2) x4)) λtN=>Br (512<=tN) (R (.T #[.N,.I 222]) A) (MD R p0 n0 c0 p1 n1 c1 x2 x3 x4 none 0 0 0 A)))))))))))):Spec prog 15 #[.slice p0 n0 c0,.slice p1 n1 c1,.I x2,.I x3,.I x4] Z R:=M.start h ok
def M4 (h:AF (x3-x2)/\x4≠(0:Int)/\Df (IntKind.i64.wrap (Int.tdiv (x3-x2) x4)) λx54=>Br (DB<=x54) (AF (DB*x4)/\AF (x2+(DB*x4))/\AG 20 #[.slice p0 n0 c0,.slice p1 n1 c1,(.I (x2+(DB*x4)))] Z R (λz y=>∃A C G wj,z=(.tuple #[.slice A C G,.I wj])/\Br (wj≠0) (R (.T #[.N,.I wj]) y) (Al y λoQ=>AG 37 #[(.slice (aD oQ 0) 2 2)] (Hp.set y oQ (.cells #[.slice wY n12 tg,.slice A C G] 23 (0,0))) R (λz AB=>∃ATc ATd ATe VM,z=(.tuple #[.slice ATc ATd ATe,.I VM])/\AF (DB+1)/\MD R p0 n0 c0 p1 n1 c1 x2 x3 x4 ATc ATd ATe (DB+1) AB)))) (R (.T #[.slice wY n12 tg,.I 0]) Z)):MD R p0 n0 c0 p1 n1 c1 x2 x3 x4 wY n12 tg DB Z:=M.of h ok rfl
end I9
namespace Te
variable {x0 x1 x2:Int}
def M:Fw:=⟨prog,38,f38,[],[],false,[],[],[]⟩
def ok:M.Ok:=⟨AH.nil,mixed,func38,by kernel_rfl⟩
def start (h:Al Z λb3=>Al (Hp.set Z b3 (.cells #[.I x0] 2 (0,0))) λA=>Al (Hp.set (Hp.set Z b3 (.cells #[.I x0] 2 (0,0))) A (.cells #[.I x1] 2 (0,0))) λb5=>R (.returned (.func (.func 55) #[] #[(.pointer (aD b3 0)),(.pointer (aD b5 0)),(.pointer (aD A 0))])) (Hp.set (Hp.set (Hp.set Z b3 (.cells #[.I x0] 2 (0,0))) A (.cells #[.I x1] 2 (0,0))) b5 (.cells #[.I x2] 2 (0,0)))):Spec prog 38 #[.I x0,.I x1,.I x2] Z R:=M.start h ok
end Te
namespace Cc
variable {p0 p1 BG C6 p8 Tf Tg Nk:Option Addr}{n0 c0 n1 c1 BH BI C9 DA n8 c8 Th Ti Tj Tk n11 Q3 D1:Nat}{x2 BC BD C3 x9 GV PE Tl Tm Tn Ny No:Int}{Se:ByteArray}{To t13:Bool}
def M:Fw:=⟨prog,45,f45,[66,67,68,69,70,71,72,73],[6,10],false,[(18,5,true),(20,4,true)],[],[(464,[(0,wL),(1,wL),(2,wI),(6,.X 90 [.I .i64,.I .u64,.L,.I .i64,.L]),(8,wL),(9,wI)]),(59710,[(0,wL),(1,wL),(2,wI),(6,.X 90 [.I .i64,.I .u64,.L,.I .i64,.L]),(8,wL),(9,wI),(10,.X 44 [.I .i64,.I .i64,.T,.L,.I .i64,.I .i64,.I .i64,.L,.B,.I .i64]),(12,wA),(13,wB)]),(238836,[(0,wL),(1,wL),(2,wI),(6,.X 90 [.I .i64,.I .u64,.L,.I .i64,.L]),(8,wL),(9,wI),(10,.X 44 [.I .i64,.I .i64,.T,.L,.I .i64,.I .i64,.I .i64,.L,.B,.I .i64]),(11,wL),(12,wA),(13,wB),(36,wI)])]⟩
def ok:M.Ok:=⟨.cons call66 (.cons call67 (.cons call68 (.cons call69 (.cons call70 (.cons call71 (.cons call72 (.cons call73 (AH.nil)))))))),mixed,func45,by kernel_rfl⟩
def AR:=M.pt 0
def Wz:=M.pt 1
def IF:=M.pt 2
def start (h:∀b6:Nat,AR R p0 n0 c0 p1 n1 c1 x2 0 0 none 0 0 0 none 0 0 none 0 0 0 Z):Spec prog 45 #[.slice p0 n0 c0,.slice p1 n1 c1,.I x2] Z R:=M.start h ok
def AM (h:Br (x9<(n0:Int)) (Pq p0 λXT iI=>In x9 (n0:Int)/\∃C YM ATf ATg ATh ATi ATj ATk ATl ATm ATn ATo ATp A,Af Z XT (iI+x9.toNat*10) [.I C,.I YM,.string ATf,.slice ATg ATh ATi,.I ATj,.I ATk,.I ATl,.slice ATm ATn ATo,.bool ATp,.I A]/\∀E2:Nat,AF ((n8:Int)-A)/\((0:Int)<=((n8:Int)-A)/\((n8:Int)-A)<=(n8:Int))/\Al Z λD1=>IF R (aD XT iI) n0 c0 p1 n1 c1 x2 BC BD BG BH BI C3 C6 C9 DA p8 n8 c8 x9 C YM ATf ATg ATh ATi ATj ATk ATl ATm ATn ATo ATp A ((Mp p8 (Int.toNat ((n8:Int)-A)) c8 5)) ((n8-Int.toNat ((n8:Int)-A))) ((c8-Int.toNat ((n8:Int)-A))) D1 true C (Hp.set Z D1 (.cells #[.I 0,.U 0,.N,.I 0,.N] 90 (0,0)))) (Pq p8 λAby Abz=>In 0 (n8:Int)/\∃G AJP AJQ AJR AJS AJT AJU AJV AJW,Af Z Aby Abz [.I G,.U AJP,.slice AJQ AJR AJS,.I AJT,.slice AJU AJV AJW]/\R (.T #[.agg #[.I G,.U AJP,.slice AJQ AJR AJS,.I AJT,.slice AJU AJV AJW],.bool true]) Z)):AR R p0 n0 c0 p1 n1 c1 x2 BC BD BG BH BI C3 C6 C9 DA p8 n8 c8 x9 Z:=M.oJ h ok rfl λ_=>by kernel_rfl
def Fu (h:Br (No=1) (AG 66 #[.string Se] Z R (λz y=>∃G Ab0,z=(.tuple #[.U G,.bool Ab0])/\AJ prog (Instr.storeAt 90 (.pointer (aD D1 0)) (.agg #[.I 1,.U G,.N,.I 0,.N])) y (λ_ A=>Wz R p0 n0 c0 p1 n1 c1 x2 BC BD BG BH BI C3 C6 C9 DA p8 n8 c8 x9 GV PE Se Tf Th Ti Tl Tm Tn Tg Tj Tk To Ny D1 t13 A))) (Br (No=2) (AG 67 #[.agg #[.I GV,.I PE,.string Se,.slice Tf Th Ti,.I Tl,.I Tm,.I Tn,.slice Tg Tj Tk,.bool To,.I Ny],.slice p1 n1 c1,.I x2] Z R (λz y=>∃ABU ABV ABW ABX ABY ABZ ABa ABb ABc,z=(.agg #[.I ABU,.U ABV,.slice ABW ABX ABY,.I ABZ,.slice ABa ABb ABc])/\AJ prog (Instr.storeAt 90 (.pointer (aD D1 0)) (.agg #[.I ABU,.U ABV,.slice ABW ABX ABY,.I ABZ,.slice ABa ABb ABc])) y (λ_ A=>Wz R p0 n0 c0 p1 n1 c1 x2 BC BD BG BH BI C3 C6 C9 DA p8 n8 c8 x9 GV PE Se Tf Th Ti Tl Tm Tn Tg Tj Tk To Ny D1 t13 A))) (Br (No=3) (AG 68 #[.agg #[.I GV,.I PE,.string Se,.slice Tf Th Ti,.I Tl,.I Tm,.I Tn,.slice Tg Tj Tk,.bool To,.I Ny],.slice p1 n1 c1,.I x2] Z R (λz y=>∃C wg ATq ATr ATs ATt ATu ATv ATw,z=(.agg #[.I C,.U wg,.slice ATq ATr ATs,.I ATt,.slice ATu ATv ATw])/\AJ prog (Instr.storeAt 90 (.pointer (aD D1 0)) (.agg #[.I C,.U wg,.slice ATq ATr ATs,.I ATt,.slice ATu ATv ATw])) y (λ_ A=>Wz R p0 n0 c0 p1 n1 c1 x2 BC BD BG BH BI C3 C6 C9 DA p8 n8 c8 x9 GV PE Se Tf Th Ti Tl Tm Tn Tg Tj Tk To Ny D1 t13 A))) (Br (No=4) (Pq Nk λwS yS=>In 0 (n11:Int)/\∃ATx lP ATy ATz AT0 AT1 AT2 AT3 AT4,Af Z wS yS [.I ATx,.U lP,.slice ATy ATz AT0,.I AT1,.slice AT2 AT3 AT4]/\AG 69 #[.I PE,.agg #[.I ATx,.U lP,.slice ATy ATz AT0,.I AT1,.slice AT2 AT3 AT4]] Z R (λz y=>∃iB wj AT5 AT6 AT7 AT8 AT9 AUA AUB,z=(.agg #[.I iB,.U wj,.slice AT5 AT6 AT7,.I AT8,.slice AT9 AUA AUB])/\AJ prog (Instr.storeAt 90 (.pointer (aD D1 0)) (.agg #[.I iB,.U wj,.slice AT5 AT6 AT7,.I AT8,.slice AT9 AUA AUB])) y (λ_ A=>Wz R p0 n0 c0 p1 n1 c1 x2 BC BD BG BH BI C3 C6 C9 DA p8 n8 c8 x9 GV PE Se Tf Th Ti Tl Tm Tn Tg Tj Tk To Ny D1 t13 A))) (Br (No=5) (Pq Nk λNj tK=>In 0 (n11:Int)/\∃AUC Lx AUD AUE AUF AUG AUH AUI AUJ,Af Z Nj tK [.I AUC,.U Lx,.slice AUD AUE AUF,.I AUG,.slice AUH AUI AUJ]/\AG 70 #[.agg #[.I GV,.I PE,.string Se,.slice Tf Th Ti,.I Tl,.I Tm,.I Tn,.slice Tg Tj Tk,.bool To,.I Ny],.agg #[.I AUC,.U Lx,.slice AUD AUE AUF,.I AUG,.slice AUH AUI AUJ]] Z R (λz y=>∃AUK AUL AUM AUN AUO AUP AUQ AUR AUS,z=(.agg #[.I AUK,.U AUL,.slice AUM AUN AUO,.I AUP,.slice AUQ AUR AUS])/\AJ prog (Instr.storeAt 90 (.pointer (aD D1 0)) (.agg #[.I AUK,.U AUL,.slice AUM AUN AUO,.I AUP,.slice AUQ AUR AUS])) y (λ_ A=>Wz R p0 n0 c0 p1 n1 c1 x2 BC BD BG BH BI C3 C6 C9 DA p8 n8 c8 x9 GV PE Se Tf Th Ti Tl Tm Tn Tg Tj Tk To Ny D1 t13 A))) (Br (No=7) (Pq Nk λb77 o77=>In 0 (n11:Int)/\∃dO AUU AUV AUW AUY AUZ AUa AUb AUc,Af Z b77 o77 [.I dO,.U AUU,.slice AUV AUW AUY,.I AUZ,.slice AUa AUb AUc]/\AG 71 #[.agg #[.I dO,.U AUU,.slice AUV AUW AUY,.I AUZ,.slice AUa AUb AUc]] Z R (λz y=>∃AUd AUe AUf AUg AUh AUi AUj AUk AUl,z=(.agg #[.I AUd,.U AUe,.slice AUf AUg AUh,.I AUi,.slice AUj AUk AUl])/\AJ prog (Instr.storeAt 90 (.pointer (aD D1 0)) (.agg #[.I AUd,.U AUe,.slice AUf AUg AUh,.I AUi,.slice AUj AUk AUl])) y (λ_ A=>Wz R p0 n0 c0 p1 n1 c1 x2 BC BD BG BH BI C3 C6 C9 DA p8 n8 c8 x9 GV PE Se Tf Th Ti Tl Tm Tn Tg Tj Tk To Ny D1 t13 A))) (Br (No=6) (Pq Nk λb85 o85=>In 0 (n11:Int)/\∃AUm AUn AUo AUp AUq AUr AUs AUt AUu,Af Z b85 o85 [.I AUm,.U AUn,.slice AUo AUp AUq,.I AUr,.slice AUs AUt AUu]/\In 1 (n11:Int)/\∃AUv AUw AUx AUy AUz AU0 AU1 AU2 AU3,Af Z b85 (o85+5) [.I AUv,.U AUw,.slice AUx AUy AUz,.I AU0,.slice AU1 AU2 AU3]/\AG 72 #[.agg #[.I GV,.I PE,.string Se,.slice Tf Th Ti,.I Tl,.I Tm,.I Tn,.slice Tg Tj Tk,.bool To,.I Ny],.agg #[.I AUm,.U AUn,.slice AUo AUp AUq,.I AUr,.slice AUs AUt AUu],.agg #[.I AUv,.U AUw,.slice AUx AUy AUz,.I AU0,.slice AU1 AU2 AU3]] Z R (λz y=>∃AJX AJY AJZ AJa AJb AJc AJd AJe AJf AU4,z=(.tuple #[.agg #[.I AJX,.U AJY,.slice AJZ AJa AJb,.I AJc,.slice AJd AJe AJf],.bool AU4])/\AJ prog (Instr.storeAt 90 (.pointer (aD D1 0)) (.agg #[.I AJX,.U AJY,.slice AJZ AJa AJb,.I AJc,.slice AJd AJe AJf])) y (λ_ A=>Wz R p0 n0 c0 p1 n1 c1 x2 BC BD BG BH BI C3 C6 C9 DA p8 n8 c8 x9 GV PE Se Tf Th Ti Tl Tm Tn Tg Tj Tk To Ny D1 AU4 A))) (Wz R p0 n0 c0 p1 n1 c1 x2 BC BD BG BH BI C3 C6 C9 DA p8 n8 c8 x9 GV PE Se Tf Th Ti Tl Tm Tn Tg Tj Tk To Ny D1 t13 Z)))))))):IF R p0 n0 c0 p1 n1 c1 x2 BC BD BG BH BI C3 C6 C9 DA p8 n8 c8 x9 GV PE Se Tf Th Ti Tl Tm Tn Tg Tj Tk To Ny Nk n11 Q3 D1 t13 No Z:=M.pn h ok rfl λ_ _=>by kernel_rfl
def AF8 (h:LS Z D1 2 λp95 n95 c95=>AG 73 #[.slice p95 n95 c95] Z R (λz y=>∃AU5 AU6 AU7 AU8,z=(.tuple #[.slice AU5 AU6 AU7,.bool AU8])/\Bn t13 (R (.T #[.agg #[.I 0,.U 0,.N,.I 0,.N],.bool false]) y) (Bn AU8 (R (.T #[.agg #[.I 0,.U 0,.N,.I 0,.N],.bool false]) y) (AJ prog (Instr.storeAt 87 (.pointer (aD D1 2)) (.slice AU5 AU6 AU7)) y (λ_ AB=>AF ((n8:Int)-Ny)/\((0:Int)<=((n8:Int)-Ny)/\((n8:Int)-Ny)<=(c8:Int))/\∃A C G AJj AJk AJl AJm AJn AJo,Af AB D1 0 [.I A,.U C,.slice G AJj AJk,.I AJl,.slice AJm AJn AJo]/\Al AB λAM7=>AJ prog (Builtin.append_ #[127,127] 127 #[(.slice p8 (Int.toNat ((n8:Int)-Ny)) c8),(.slice (aD AM7 0) 1 1)]) (Hp.set AB AM7 (.cells #[.I A,.U C,.slice G AJj AJk,.I AJl,.slice AJm AJn AJo] 90 (0,0))) (CS λAb1 n117 Ab2 AK=>AF (x9+1)/\AR R p0 n0 c0 p1 n1 c1 x2 BC BD BG BH BI C3 C6 C9 DA Ab1 n117 Ab2 (x9+1) AK)))))):Wz R p0 n0 c0 p1 n1 c1 x2 BC BD BG BH BI C3 C6 C9 DA p8 n8 c8 x9 GV PE Se Tf Th Ti Tl Tm Tn Tg Tj Tk To Ny D1 t13 Z:=M.pn h ok rfl λ_ _=>by kernel_rfl
end Cc
namespace GC
variable {p0 p5:Option Addr}{n0 c0 n5 c5:Nat}{x6 x7:Int}
def M:Fw:=⟨prog,46,f46,[42,74,75],[4],false,[],[],[(104,[(0,wL),(5,wL),(6,wI),(7,wI)])]⟩
def ok:M.Ok:=⟨.cons call42 (.cons call74 (.cons call75 (AH.nil))),mixed,func46,by kernel_rfl⟩
def Sc:=M.pt 0
def start (h:Sc R p0 n0 c0 p0 n0 c0 (n0:Int) 0 Z):Spec prog 46 #[.slice p0 n0 c0] Z R:=M.start h ok
def FY (h:Br (x7<x6) (Pq p5 λE2 A=>In x7 (n5:Int)/\∃lQ lR lS C G AVB,Af Z E2 (A+x7.toNat*2) [.slice lQ lR lS,.slice C G AVB]/\∀b4:Nat,AG 74 #[.slice lQ lR lS] Z R (CI .i64 λN2 y=>Br (N2≠0) (R (.returned (.I 100)) y) (AG 75 #[.slice C G AVB] y R (CB λt19 AB=>Bn t19 (R (.returned (.I 100)) AB) (Br (0<x7) (AF (x7-1)/\Pq p0 λLy S4=>In (x7-1) (n0:Int)/\LS AB Ly (S4+Int.toNat (x7-1)*2) λp31 n31 c31=>AG 42 #[.slice p31 n31 c31,.slice lQ lR lS] AB R (CI .i64 λUX AK=>Br (0<=UX) (R (.returned (.I 100)) AK) (AF (x7+1)/\Sc R (aD Ly S4) n0 c0 (aD E2 A) n5 c5 x6 (x7+1) AK))) (AF (x7+1)/\Sc R p0 n0 c0 (aD E2 A) n5 c5 x6 (x7+1) AB)))))) (R (.returned (.I 0)) Z)):Sc R p0 n0 c0 p5 n5 c5 x6 x7 Z:=M.of h ok rfl
end GC
namespace KD
variable {p0:Option Addr}{n0 c0:Nat}{x3:Int}
def M:Fw:=⟨prog,51,f51,[63],[],false,[],[],[(464,[(0,wL),(3,wI)])]⟩
def ok:M.Ok:=⟨.cons call63 (AH.nil),mixed,func51,by kernel_rfl⟩
def Au:=M.pt 0
def start (h:Br (8<(n0:Int)) (R (.returned (.I 41)) Z) (Au R p0 n0 c0 0 Z)):Spec prog 51 #[.slice p0 n0 c0] Z R:=M.start h ok
def Aq (h:Br (x3<(n0:Int)) (Pq p0 λA C=>In x3 (n0:Int)/\LI .i64 Z A (C+x3.toNat*3) λx17=>Br (x17<1) (R (.returned (.I 40)) Z) (In x3 (n0:Int)/\LI .i64 Z A (C+x3.toNat*3) λJT=>Br (4<JT) (R (.returned (.I 40)) Z) (In x3 (n0:Int)/\LT Z A ((C+x3.toNat*3)+1) λG=>AG 63 #[.string G] Z R (CB λt33 y=>Bn t33 (R (.returned (.I 40)) y) (In x3 (n0:Int)/\LT y A ((C+x3.toNat*3)+2) λs41=>Br ((256:Int)<(s41.size:Int)) (R (.returned (.I 40)) y) (AF (x3+1)/\Au R (aD A C) n0 c0 (x3+1) y)))))) (R (.returned (.I 0)) Z)):Au R p0 n0 c0 x3 Z:=M.of h ok rfl
end KD
namespace Nt
variable {s0 s1:ByteArray}
def M:Fw:=⟨prog,62,f62,[101],[],false,[],[],[]⟩
def ok:M.Ok:=⟨.cons call101 (AH.nil),mixed,func62,by kernel_rfl⟩
def start (h:AG 101 #[.string s0,.string s1] Z R (CI .i64 λx7 y=>R (.returned (.I x7)) y)):Spec prog 62 #[.string s0,.string s1] Z R:=M.start h ok
end Nt
namespace bC
def M:Fw:=⟨prog,76,f76,[],[],false,[],[],[]⟩
def ok:M.Ok:=⟨AH.nil,mixed,func76,by kernel_rfl⟩
def start (h:Al Z λb1=>R (.returned (.slice (aD b1 0) 8 8)) (Hp.set Z b1 (.cells #[.nilFunc,(.func (.func 120) #[] #[]),(.func (.func 121) #[] #[]),(.func (.func 122) #[] #[]),(.func (.func 123) #[] #[]),(.func (.func 124) #[] #[]),(.func (.func 125) #[] #[]),(.func (.func 126) #[] #[])] 141 (0,0)))):Spec prog 76 #[] Z R:=M.start h ok
end bC
namespace Hg
variable {q0 Fm GG p2:Option Addr}{By BQ FN FO D9 ET:Int}{FP:ByteArray}{Fo Fp Fq GH n2 c2:Nat}{EU:Bool}
def M:Fw:=⟨prog,83,f83,[],[4],false,[],[],[]⟩
def ok:M.Ok:=⟨AH.nil,mixed,func83,by kernel_rfl⟩
def start (h:∀G:Nat,Pq p2 λA C=>In 0 (n2:Int)/\LI .i64 Z A C λx11=>Br (x11=3) (R (.T #[.I 0,.I 191]) Z) (In 0 (n2:Int)/\LI .i64 Z A C λx16=>R (.T #[.I x16,.I 0]) Z)):Spec prog 83 #[.pointer q0,.agg #[.I By,.I BQ,.string FP,.slice Fm Fo Fp,.I FN,.I FO,.I D9,.slice GG Fq GH,.bool EU,.I ET],.slice p2 n2 c2] Z R:=M.start h ok
end Hg
namespace AO
variable {s0:ByteArray}{x1 x6 x7 x8 x9:Int}
def M:Fw:=⟨prog,102,f102,[],[],false,[],[],[(252,[(0,wT),(1,wI),(6,wI),(7,.o (.I .i32)),(8,.o (.I .i32))]),(8144,[(0,wT),(1,wI),(6,wI),(7,.o (.I .i32)),(8,.o (.I .i32)),(9,wI)])]⟩
def ok:M.Ok:=⟨AH.nil,mixed,func102,by kernel_rfl⟩
def Gt:=M.pt 0
def bD:=M.pt 1
def start (h:∃A:UInt8,0<=x1/\(ByteArray.data s0)[x1.toNat]?=some A/\Br (((A.toNat:Int):Int)<128) (R (.returned (.I 1)) Z) (Br ((192:Int)<=(A.toNat:Int)) (Br (((A.toNat:Int):Int)<224) (Df (Go.bits .and .u8 (A.toNat:Int) 31) λJT=>Df (IntKind.i32.wrap JT) λKi=>Gt R s0 x1 2 128 Ki Z) (Br ((224:Int)<=(A.toNat:Int)) (Br (((A.toNat:Int):Int)<240) (Df (Go.bits .and .u8 (A.toNat:Int) 15) λUX=>Df (IntKind.i32.wrap UX) λQ1=>Gt R s0 x1 3 2048 Q1 Z) (Br ((240:Int)<=(A.toNat:Int)) (Br (((A.toNat:Int):Int)<248) (Df (Go.bits .and .u8 (A.toNat:Int) 7) λC=>Df (IntKind.i32.wrap C) λG=>Gt R s0 x1 4 65536 G Z) (R (.returned (.I 0)) Z)) (R (.returned (.I 0)) Z))) (Br ((240:Int)<=(A.toNat:Int)) (Br (((A.toNat:Int):Int)<248) (Df (Go.bits .and .u8 (A.toNat:Int) 7) λC=>Df (IntKind.i32.wrap C) λG=>Gt R s0 x1 4 65536 G Z) (R (.returned (.I 0)) Z)) (R (.returned (.I 0)) Z)))) (Br ((224:Int)<=(A.toNat:Int)) (Br (((A.toNat:Int):Int)<240) (Df (Go.bits .and .u8 (A.toNat:Int) 15) λUX=>Df (IntKind.i32.wrap UX) λQ1=>Gt R s0 x1 3 2048 Q1 Z) (Br ((240:Int)<=(A.toNat:Int)) (Br (((A.toNat:Int):Int)<248) (Df (Go.bits .and .u8 (A.toNat:Int) 7) λC=>Df (IntKind.i32.wrap C) λG=>Gt R s0 x1 4 65536 G Z) (R (.returned (.I 0)) Z)) (R (.returned (.I 0)) Z))) (Br ((240:Int)<=(A.toNat:Int)) (Br (((A.toNat:Int):Int)<248) (Df (Go.bits .and .u8 (A.toNat:Int) 7) λC=>Df (IntKind.i32.wrap C) λG=>Gt R s0 x1 4 65536 G Z) (R (.returned (.I 0)) Z)) (R (.returned (.I 0)) Z))))):Spec prog 102 #[.string s0,.I x1] Z R:=M.start h ok
def FA (h:AF (x1+x6)/\Br (((s0.size:Int):Int)<(x1+x6)) (R (.returned (.I 0)) Z) (bD R s0 x1 x6 x7 x8 1 Z)):Gt R s0 x1 x6 x7 x8 Z:=M.of h ok rfl
def XX (h:Br (x9<x6) (AF (x1+x9)/\∃A:UInt8,(0:Int)<=(x1+x9)/\(ByteArray.data s0)[Int.toNat (x1+x9)]?=some A/\Df (Go.bits .and .u8 (A.toNat:Int) 192) λdT=>Br (dT≠128) (R (.returned (.I 0)) Z) (((0:Int)<=6/\6<=((IntKind.bits .i32:Nat):Int))/\Df (IntKind.i32.wrap (x8*2^Int.toNat 6)) λx65=>AF (x1+x9)/\∃C:UInt8,(0:Int)<=(x1+x9)/\(ByteArray.data s0)[Int.toNat (x1+x9)]?=some C/\Df (Go.bits .and .u8 (C.toNat:Int) 63) λG=>Df (IntKind.i32.wrap G) λyN=>Df (Go.bits .or .i32 x65 yN) λx73=>AF (x9+1)/\bD R s0 x1 x6 x7 x73 (x9+1) Z)) (Br (x8<x7) (R (.returned (.I 0)) Z) (Br (1114111<x8) (R (.returned (.I 0)) Z) (Br (55296<=x8) (Br (x8<=57343) (R (.returned (.I 0)) Z) (R (.returned (.I x6)) Z)) (R (.returned (.I x6)) Z))))):bD R s0 x1 x6 x7 x8 x9 Z:=M.of h ok rfl
end AO
namespace tu
variable {v0:Value}
def M:Fw:=⟨prog,103,f103,[],[],false,[],[],[]⟩
def ok:M.Ok:=⟨AH.nil,mixed,func103,by kernel_rfl⟩
def start (h:∃t5,YF prog ((do eqGuard .neq 73 (.tmp 3) (.tmp 4) v0 v0;binOp .neq 73 v0 v0)) Z (.bool t5)/\Bo t5 (R (.returned (.U 9221120237041090560)) Z) (EN prog 53 #[v0] Z (CI .u64 λx7 y=>R (.returned (.U x7)) y))):Spec prog 103 #[v0] Z R:=M.HU h ok [(0,.o (.V v0))] rfl rfl (by kernel_rfl)
end tu
namespace WK
variable {x0:Int}
def M:Fw:=⟨prog,106,f106,[103,147,148],[],false,[],[],[]⟩
def ok:M.Ok:=⟨.cons call103 (.cons call147 (.cons call148 (AH.nil))),mixed,func106,by kernel_rfl⟩
def start (h:AG 147 #[.U x0] Z R (λz y=>∃x4,(Value.float .f64 x4)=z/\AG 148 #[(Value.float .f64 x4)] y R (λz A=>∃x5,(Value.float .f64 x5)=z/\AG 103 #[(Value.float .f64 x5)] A R (CI .u64 λx6 C=>R (.returned (.U x6)) C)))):Spec prog 106 #[.U x0] Z R:=M.start h ok
end WK
namespace Tp
variable {x0:Int}
def M:Fw:=⟨prog,111,f111,[103,147],[],false,[],[],[]⟩
def ok:M.Ok:=⟨.cons call103 (.cons call147 (AH.nil)),mixed,func111,by kernel_rfl⟩
def start (h:AG 147 #[.U x0] Z R (λz y=>∃x4,(Value.float .f64 x4)=z/\∃x5,YF prog (Op.unary .neg (Value.float .f64 x4)) y (Value.float .f64 x5)/\AG 103 #[(Value.float .f64 x5)] y R (CI .u64 λx6 A=>R (.returned (.U x6)) A))):Spec prog 111 #[.U x0] Z R:=M.start h ok
end Tp
namespace Ab
variable {q0 Fm GG p2 Jq Lc BG JL CW Hs TF dX l5 Nk iJ:Option Addr}{By BQ FN FO D9 ET BZ BX Ld JV Lf Mm BC BD CO CP Li E3 tN iG:Int}{FP Mn:ByteArray}{Fo Fp Fq GH n2 c2 Jr Js Lg Lh BH BI JM JN CN CR Ht Hu n21 RS bE iZ ia qg n11 Q3 n46 fS:Nat}{EU Mo:Bool}
def M:Fw:=⟨prog,122,f122,[157,158,159],[4,6,8,10,13],false,[],[],[(232,[(0,wQ),(4,.X 44 [.I .i64,.I .i64,.T,.L,.I .i64,.I .i64,.I .i64,.L,.B,.I .i64]),(6,.X 97 [.I .i64,.I .u64,.L,.L]),(8,.X 97 [.I .i64,.I .u64,.L,.L]),(21,wL),(22,wI),(23,wI)]),(239208,[(0,wQ),(4,.X 44 [.I .i64,.I .i64,.T,.L,.I .i64,.I .i64,.I .i64,.L,.B,.I .i64]),(6,.X 97 [.I .i64,.I .u64,.L,.L]),(8,.X 97 [.I .i64,.I .u64,.L,.L]),(10,.X 51 [.L,.L]),(11,wL),(21,wL),(22,wI),(23,wI),(46,wL),(47,wI),(48,wI)]),(935,[(0,wQ),(4,.X 44 [.I .i64,.I .i64,.T,.L,.I .i64,.I .i64,.I .i64,.L,.B,.I .i64]),(6,.X 97 [.I .i64,.I .u64,.L,.L]),(8,.X 97 [.I .i64,.I .u64,.L,.L]),(21,wL),(22,wI),(23,wI)]),(956839,[(0,wQ),(4,.X 44 [.I .i64,.I .i64,.T,.L,.I .i64,.I .i64,.I .i64,.L,.B,.I .i64]),(6,.X 97 [.I .i64,.I .u64,.L,.L]),(8,.X 97 [.I .i64,.I .u64,.L,.L]),(10,.X 51 [.L,.L]),(11,wL),(21,wL),(22,wI),(23,wI),(46,wL),(47,wI),(48,wI)])]⟩
def ok:M.Ok:=⟨.cons call157 (.cons call158 (.cons call159 (AH.nil))),mixed,func122,by kernel_rfl⟩
def B9:=M.pt 0
def dY:=M.pt 1
def LX:=M.pt 2
def Wx:=M.pt 3
def start (h:∀G:Nat,∀b6:Nat,AG 159 #[.I FN] Z R (CI .u64 λx16 y=>∀b8:Nat,Pq q0 λA C=>LS y A C λTF n21 RS=>B9 R (aD A C) By BQ FP Fm Fo Fp FN FO D9 GG Fq GH EU ET 0 0 none 0 0 none 0 0 3 x16 none 0 0 none 0 0 TF n21 RS (n21:Int) 0 y)):Spec prog 122 #[.pointer q0,.agg #[.I By,.I BQ,.string FP,.slice Fm Fo Fp,.I FN,.I FO,.I D9,.slice GG Fq GH,.bool EU,.I ET],.slice p2 n2 c2] Z R:=M.start h ok
def As (h:Br (E3<Li) (Pq TF λIG Q8=>In E3 (n21:Int)/\∃AVC AVD AVE A C G,Af Z IG (Q8+E3.toNat*2) [.slice AVC AVD AVE,.slice A C G]/\∀E2:Nat,Pq q0 λjx o30=>LI .i64 Z jx (o30+1) λqW=>AF (qW-JV)/\AF ((qW-JV)-Ld)/\LI .i64 Z jx (o30+1) λMA=>AF (MA-JV)/\AG 157 #[.slice A C G,(.I ((qW-JV)-Ld)),(.I (MA-JV))] Z R (CS λiJ n46 fS y=>dY R (aD jx o30) BZ BX Mn Jq Jr Js Ld JV Lf Lc Lg Lh Mo Mm BC BD BG BH BI JL JM JN CO CP CW CN CR Hs Ht Hu AVC AVD AVE A C G none 0 0 (aD IG Q8) n21 RS Li E3 iJ n46 fS (n46:Int) 0 y)) (R (.T #[.agg #[.I CO,.U CP,.slice CW CN CR,.slice Hs Ht Hu],.I 0]) Z)):B9 R q0 BZ BX Mn Jq Jr Js Ld JV Lf Lc Lg Lh Mo Mm BC BD BG BH BI JL JM JN CO CP CW CN CR Hs Ht Hu TF n21 RS Li E3 Z:=M.dL h ok rfl λ_ _ _=>by kernel_rfl
def XY (h:Br (iG<tN) (Pq iJ λYO A=>In iG (n46:Int)/\∃AF2 we,Af Z YO (A+iG.toNat*2) [.I AF2,.U we]/\∀D0:Nat,Br (we≠9218868437227405314) (Al Z λC=>AJ prog (DV 163 Nk n11 Q3 C) (Hp.set Z C (.cells #[.U we] 57 (0,0))) (CS λp59 n59 c59 y=>Wx R q0 BZ BX Mn Jq Jr Js Ld JV Lf Lc Lg Lh Mo Mm BC BD BG BH BI JL JM JN CO CP CW CN CR Hs Ht Hu dX bE iZ l5 ia qg p59 n59 c59 TF n21 RS Li E3 (aD YO A) n46 fS tN iG y)) (Wx R q0 BZ BX Mn Jq Jr Js Ld JV Lf Lc Lg Lh Mo Mm BC BD BG BH BI JL JM JN CO CP CW CN CR Hs Ht Hu dX bE iZ l5 ia qg Nk n11 Q3 TF n21 RS Li E3 (aD YO A) n46 fS tN iG Z)) (Br (0<(n11:Int)) (AG 158 #[.slice Jq Jr Js,.slice dX bE iZ] Z R (CB λt69 y=>Bo t69 (Al y λG=>AJ prog (DV 95 Hs Ht Hu G) (Hp.set y G (.cells #[.slice dX bE iZ,.slice Nk n11 Q3] 200 (0,0))) (CS λyP wO yQ AB=>LX R q0 BZ BX Mn Jq Jr Js Ld JV Lf Lc Lg Lh Mo Mm BC BD BG BH BI JL JM JN CO CP CW CN CR yP wO yQ TF n21 RS Li E3 AB)) (LX R q0 BZ BX Mn Jq Jr Js Ld JV Lf Lc Lg Lh Mo Mm BC BD BG BH BI JL JM JN CO CP CW CN CR Hs Ht Hu TF n21 RS Li E3 y))) (LX R q0 BZ BX Mn Jq Jr Js Ld JV Lf Lc Lg Lh Mo Mm BC BD BG BH BI JL JM JN CO CP CW CN CR Hs Ht Hu TF n21 RS Li E3 Z))):dY R q0 BZ BX Mn Jq Jr Js Ld JV Lf Lc Lg Lh Mo Mm BC BD BG BH BI JL JM JN CO CP CW CN CR Hs Ht Hu dX bE iZ l5 ia qg Nk n11 Q3 TF n21 RS Li E3 iJ n46 fS tN iG Z:=M.of4 h ok rfl λ_ _ _ _=>by kernel_rfl
def Jf (h:AF (E3+1)/\B9 R q0 BZ BX Mn Jq Jr Js Ld JV Lf Lc Lg Lh Mo Mm BC BD BG BH BI JL JM JN CO CP CW CN CR Hs Ht Hu TF n21 RS Li (E3+1) Z):LX R q0 BZ BX Mn Jq Jr Js Ld JV Lf Lc Lg Lh Mo Mm BC BD BG BH BI JL JM JN CO CP CW CN CR Hs Ht Hu TF n21 RS Li E3 Z:=M.dL h ok rfl λ_ _ _=>by kernel_rfl
def iK (h:AF (iG+1)/\dY R q0 BZ BX Mn Jq Jr Js Ld JV Lf Lc Lg Lh Mo Mm BC BD BG BH BI JL JM JN CO CP CW CN CR Hs Ht Hu dX bE iZ l5 ia qg Nk n11 Q3 TF n21 RS Li E3 iJ n46 fS tN (iG+1) Z):Wx R q0 BZ BX Mn Jq Jr Js Ld JV Lf Lc Lg Lh Mo Mm BC BD BG BH BI JL JM JN CO CP CW CN CR Hs Ht Hu dX bE iZ l5 ia qg Nk n11 Q3 TF n21 RS Li E3 iJ n46 fS tN iG Z:=M.of4 h ok rfl λ_ _ _ _=>by kernel_rfl
end Ab
namespace bF
variable {Ae A1 Bf Bh BM BS:Int}{BW:ByteArray}{CJ B4:Option Addr}{CD CK Bl B8:Nat}{Bj:Bool}
def M:Fw:=⟨prog,128,f128,[],[1,2],false,[(12,7,false),(15,7,false),(18,11,false),(21,15,false)],[],[]⟩
def ok:M.Ok:=⟨AH.nil,mixed,func128,by kernel_rfl⟩
def start (h:∀b1:Nat,∀b2:Nat,Al Z λb3=>AJ prog (Instr.storeAt 44 (.pointer (aD b3 0)) (.agg #[.I Ae,.I 0,(.string (ByteArray.mk #[])),.N,.I 0,.I 0,.I 0,.N,.bool false,.I 0])) (Hp.set Z b3 (.cells #[.I 0,.I 0,(.string (ByteArray.mk #[])),.N,.I 0,.I 0,.I 0,.N,.bool false,.I 0] 44 (0,0))) (λ_ y=>Br (Ae=1) (AJ prog (Instr.storeAt 9 (.pointer (aD b3 2)) (.string BW)) y (λ_ A=>∃ABd ABe ABf ABg ABh ABi ABj ABk ABl ABm ABn ABo ABp ABq,Af A b3 0 [.I ABd,.I ABe,.string ABf,.slice ABg ABh ABi,.I ABj,.I ABk,.I ABl,.slice ABm ABn ABo,.bool ABp,.I ABq]/\R (.returned (.agg #[.I ABd,.I ABe,.string ABf,.slice ABg ABh ABi,.I ABj,.I ABk,.I ABl,.slice ABm ABn ABo,.bool ABp,.I ABq])) A)) (Br (Ae=2) (AJ prog (Instr.storeAt 2 (.pointer (aD b3 5)) (.I Bh)) y (λ_ A=>∃dS vt vr AVF AVG AVH AVI AVJ AVK AVL AVM AVN AVO AVP,Af A b3 0 [.I dS,.I vt,.string vr,.slice AVF AVG AVH,.I AVI,.I AVJ,.I AVK,.slice AVL AVM AVN,.bool AVO,.I AVP]/\R (.returned (.agg #[.I dS,.I vt,.string vr,.slice AVF AVG AVH,.I AVI,.I AVJ,.I AVK,.slice AVL AVM AVN,.bool AVO,.I AVP])) A)) (Br (Ae=3) (AJ prog (Instr.storeAt 2 (.pointer (aD b3 4)) (.I Bf)) y (λ_ A=>AJ prog (Instr.storeAt 2 (.pointer (aD b3 5)) (.I Bh)) A (λ_ C=>∃lL AVQ AVR AVS AVT AVU AVV AVW AVX AVY AVZ AVa AVb AVc,Af C b3 0 [.I lL,.I AVQ,.string AVR,.slice AVS AVT AVU,.I AVV,.I AVW,.I AVX,.slice AVY AVZ AVa,.bool AVb,.I AVc]/\R (.returned (.agg #[.I lL,.I AVQ,.string AVR,.slice AVS AVT AVU,.I AVV,.I AVW,.I AVX,.slice AVY AVZ AVa,.bool AVb,.I AVc])) C))) (Br (Ae=4) (AJ prog (Instr.storeAt 3 (.pointer (aD b3 1)) (.I A1)) y (λ_ A=>AJ prog (Instr.storeAt 3 (.pointer (aD b3 9)) (.I BS)) A (λ_ C=>∃ABT AVd AVe AVf AVg AVh AVi AVj AVk AVl AVm AVn AVo AVp,Af C b3 0 [.I ABT,.I AVd,.string AVe,.slice AVf AVg AVh,.I AVi,.I AVj,.I AVk,.slice AVl AVm AVn,.bool AVo,.I AVp]/\R (.returned (.agg #[.I ABT,.I AVd,.string AVe,.slice AVf AVg AVh,.I AVi,.I AVj,.I AVk,.slice AVl AVm AVn,.bool AVo,.I AVp])) C))) (Br (Ae=5) (AJ prog (Instr.storeAt 3 (.pointer (aD b3 1)) (.I A1)) y (λ_ A=>AJ prog (Instr.storeAt 3 (.pointer (aD b3 9)) (.I BS)) A (λ_ C=>AJ prog (Instr.storeAt 3 (.pointer (aD b3 6)) (.I BM)) C (λ_ AX=>∃AAa AAb AVq AAc AAd AAe AVr AVs AVt AVu AVv AVw AVx AVy,Af AX b3 0 [.I AAa,.I AAb,.string AVq,.slice AAc AAd AAe,.I AVr,.I AVs,.I AVt,.slice AVu AVv AVw,.bool AVx,.I AVy]/\R (.returned (.agg #[.I AAa,.I AAb,.string AVq,.slice AAc AAd AAe,.I AVr,.I AVs,.I AVt,.slice AVu AVv AVw,.bool AVx,.I AVy])) AX)))) (Br (Ae=6) (AJ prog (Instr.storeAt 3 (.pointer (aD b3 1)) (.I A1)) y (λ_ A=>AJ prog (Instr.storeAt 3 (.pointer (aD b3 9)) (.I BS)) A (λ_ C=>AJ prog (Instr.storeAt 4 (.pointer (aD b3 8)) (.bool Bj)) C (λ_ AX=>AJ prog (Instr.storeAt 3 (.pointer (aD b3 6)) (.I BM)) AX (λ_ DK=>∃AVz AV0 AV1 AV2 AV3 AV4 AV5 AV6 AV7 AV8 AV9 AWA AWB AWC,Af DK b3 0 [.I AVz,.I AV0,.string AV1,.slice AV2 AV3 AV4,.I AV5,.I AV6,.I AV7,.slice AV8 AV9 AWA,.bool AWB,.I AWC]/\R (.returned (.agg #[.I AVz,.I AV0,.string AV1,.slice AV2 AV3 AV4,.I AV5,.I AV6,.I AV7,.slice AV8 AV9 AWA,.bool AWB,.I AWC])) DK))))) (AJ prog (Instr.storeAt 3 (.pointer (aD b3 9)) (.I BS)) y (λ_ A=>∃AWD G AWE AWF AWG AWH AWI AWJ AWK AWL AWM AWN AWO AWP,Af A b3 0 [.I AWD,.I G,.string AWE,.slice AWF AWG AWH,.I AWI,.I AWJ,.I AWK,.slice AWL AWM AWN,.bool AWO,.I AWP]/\R (.returned (.agg #[.I AWD,.I G,.string AWE,.slice AWF AWG AWH,.I AWI,.I AWJ,.I AWK,.slice AWL AWM AWN,.bool AWO,.I AWP])) A))))))))):Spec prog 128 #[.agg #[.I Ae,.I A1,.string BW,.slice CJ CD CK,.I Bf,.I Bh,.I BM,.slice B4 Bl B8,.bool Bj,.I BS]] Z R:=M.start h ok
end bF
namespace bG
variable {x0:Int}
def M:Fw:=⟨prog,133,f133,[],[],false,[],[],[]⟩
def ok:M.Ok:=⟨AH.nil,mixed,func133,by kernel_rfl⟩
def start (h:Br (1<=x0) (R (.returned (.bool (decide (x0<=4)))) Z) (R (.B false) Z)):Spec prog 133 #[.I x0] Z R:=M.start h ok
end bG
namespace GD
variable {Ae A1 Bf Bh BM BS:Int}{BW:ByteArray}{CJ B4 p1:Option Addr}{CD CK Bl B8 n1 c1 b2:Nat}{Bj:Bool}
def M:Fw:=⟨prog,135,f135,[],[3],false,[],[],[]⟩
def ok:M.Ok:=⟨AH.nil,mixed,func135,by kernel_rfl⟩
def start (h:∀b3:Nat,LI .i64 Z b2 0 λx7=>R (.T #[.I x7,.I 0]) Z):Spec prog 135 #[.agg #[.I Ae,.I A1,.string BW,.slice CJ CD CK,.I Bf,.I Bh,.I BM,.slice B4 Bl B8,.bool Bj,.I BS],.slice p1 n1 c1,(.pointer (aD b2 0))] Z R:=M.start h ok
end GD
namespace QK
variable {p0:Option Addr}{n0 c0:Nat}{s1:ByteArray}{x5:Int}
def M:Fw:=⟨prog,145,f145,[],[],false,[],[],[(208,[(0,wL),(1,wT),(5,wI)])]⟩
def ok:M.Ok:=⟨AH.nil,mixed,func145,by kernel_rfl⟩
def E5:=M.pt 0
def start (h:E5 R p0 n0 c0 s1 0 Z):Spec prog 145 #[.slice p0 n0 c0,.string s1] Z R:=M.start h ok
def Ag (h:Br (x5<(n0:Int)) (Pq p0 λDL A=>In x5 (n0:Int)/\LT Z DL (A+x5.toNat*2) λC=>Bo (ByteArray.toList C==ByteArray.toList s1) (In x5 (n0:Int)/\LT Z DL ((A+x5.toNat*2)+1) λG=>R (.returned (.string G)) Z) (AF (x5+1)/\E5 R (aD DL A) n0 c0 s1 (x5+1) Z)) (R (.returned (.string (ByteArray.mk #[]))) Z)):E5 R p0 n0 c0 s1 x5 Z:=M.of h ok rfl
end QK
namespace WL
variable {p0:Option Addr}{n0 c0:Nat}
def M:Fw:=⟨prog,150,f150,[103,147,187],[],false,[],[],[]⟩
def ok:M.Ok:=⟨.cons call103 (.cons call147 (.cons call187 (AH.nil))),mixed,func150,by kernel_rfl⟩
def start (h:AG 187 #[.slice p0 n0 c0] Z R (λz y=>∃dX bE iZ l5 ia qg vq,z=(.tuple #[.slice dX bE iZ,.slice l5 ia qg,.I vq])/\Br (vq≠0) (R (.T #[.U 0,.I vq]) y) (AF ((n0:Int)-1)/\Pq dX λJc VA=>In ((if(1:Int)<((n0:Int)-1) then 1 else((n0:Int)-1))) (bE:Int)/\LI .u64 y Jc (VA+Int.toNat (if(1:Int)<((n0:Int)-1) then 1 else((n0:Int)-1))*1) λJT=>In ((if(1:Int)<((n0:Int)-1) then 1 else((n0:Int)-1))) (bE:Int)/\LI .u64 y Jc (VA+Int.toNat (if(1:Int)<((n0:Int)-1) then 1 else((n0:Int)-1))*1) λyR=>Pq l5 λA o34=>In ((if(1:Int)<((n0:Int)-1) then 1 else((n0:Int)-1))) (ia:Int)/\LI .u64 y A (o34+Int.toNat (if(1:Int)<((n0:Int)-1) then 1 else((n0:Int)-1))*1) λQ1=>In ((if(1:Int)<((n0:Int)-1) then 1 else((n0:Int)-1))) (ia:Int)/\LI .u64 y A (o34+Int.toNat (if(1:Int)<((n0:Int)-1) then 1 else((n0:Int)-1))*1) λjs=>AG 147 #[.U JT] y R (λz AB=>∃Ki,(Value.float .f64 Ki)=z/\Kp [A,A,Jc] y AB/\AG 147 #[.U yR] AB R (λz AK=>∃Lz,(Value.float .f64 Lz)=z/\Kp [A,A] AB AK/\(AJ prog (binOp .mul 73 (Value.float .f64 Ki) (Value.float .f64 Lz)) AK (λz AX=>∃C,(Value.float .f64 C)=z/\Kp [A,A] AK AX/\AG 147 #[.U Q1] AX R (λz DK=>∃No,(Value.float .f64 No)=z/\Kp [A] AX DK/\AG 147 #[.U js] DK R (λz GK=>∃G,(Value.float .f64 G)=z/\AJ prog (binOp .mul 73 (Value.float .f64 No) (Value.float .f64 G)) GK (λz RR=>∃MA,(Value.float .f64 MA)=z/\AJ prog (binOp .add 73 (Value.float .f64 C) (Value.float .f64 MA)) RR (λz YG=>∃Rq,(Value.float .f64 Rq)=z/\AG 103 #[(Value.float .f64 Rq)] YG R (CI .u64 λWr fG=>R (.T #[.U Wr,.I 0]) fG)))))))/\(AG 147 #[.U Q1] AK R (λz AX=>∃No,(Value.float .f64 No)=z/\Kp [A] AK AX/\(AJ prog (binOp .mul 73 (Value.float .f64 Ki) (Value.float .f64 Lz)) AX (λz DK=>∃C,(Value.float .f64 C)=z/\Kp [A] AX DK/\AG 147 #[.U js] DK R (λz GK=>∃G,(Value.float .f64 G)=z/\AJ prog (binOp .mul 73 (Value.float .f64 No) (Value.float .f64 G)) GK (λz RR=>∃MA,(Value.float .f64 MA)=z/\AJ prog (binOp .add 73 (Value.float .f64 C) (Value.float .f64 MA)) RR (λz YG=>∃Rq,(Value.float .f64 Rq)=z/\AG 103 #[(Value.float .f64 Rq)] YG R (CI .u64 λWr fG=>R (.T #[.U Wr,.I 0]) fG))))))/\(AG 147 #[.U js] AX R (λz DK=>∃G,(Value.float .f64 G)=z/\(AJ prog (binOp .mul 73 (Value.float .f64 Ki) (Value.float .f64 Lz)) DK (λz GK=>∃C,(Value.float .f64 C)=z/\AJ prog (binOp .mul 73 (Value.float .f64 No) (Value.float .f64 G)) GK (λz RR=>∃MA,(Value.float .f64 MA)=z/\AJ prog (binOp .add 73 (Value.float .f64 C) (Value.float .f64 MA)) RR (λz YG=>∃Rq,(Value.float .f64 Rq)=z/\AG 103 #[(Value.float .f64 Rq)] YG R (CI .u64 λWr fG=>R (.T #[.U Wr,.I 0]) fG)))))/\(AJ prog (binOp .mul 73 (Value.float .f64 No) (Value.float .f64 G)) DK (λz GK=>∃MA,(Value.float .f64 MA)=z/\AJ prog (binOp .mul 73 (Value.float .f64 Ki) (Value.float .f64 Lz)) GK (λz RR=>∃C,(Value.float .f64 C)=z/\AJ prog (binOp .add 73 (Value.float .f64 C) (Value.float .f64 MA)) RR (λz YG=>∃Rq,(Value.float .f64 Rq)=z/\AG 103 #[(Value.float .f64 Rq)] YG R (CI .u64 λWr fG=>R (.T #[.U Wr,.I 0]) fG)))))))))))))):Spec prog 150 #[.slice p0 n0 c0] Z R:=M.start h ok
end WL
namespace WM
variable {x0:Int}
def M:Fw:=⟨prog,151,f151,[103],[],false,[],[],[]⟩
def ok:M.Ok:=⟨.cons call103 (AH.nil),mixed,func151,by kernel_rfl⟩
def start (h:AJ prog (convert 2 73 (.I x0)) Z (λz y=>∃x4,(Value.float .f64 x4)=z/\AG 103 #[(Value.float .f64 x4)] y R (CI .u64 λx5 A=>R (.returned (.U x5)) A))):Spec prog 151 #[.I x0] Z R:=M.start h ok
end WM
namespace KE
variable {p0:Option Addr}{n0 c0:Nat}
def M:Fw:=⟨prog,171,f171,[159],[],false,[],[],[]⟩
def ok:M.Ok:=⟨.cons call159 (AH.nil),mixed,func171,by kernel_rfl⟩
def start (h:AG 159 #[(.I (n0:Int))] Z R (CI .u64 λx5 y=>R (.returned (.U x5)) y)):Spec prog 171 #[.slice p0 n0 c0] Z R:=M.start h ok
end KE
namespace WN
variable {s0:ByteArray}
def M:Fw:=⟨prog,188,f188,[228],[],false,[],[],[]⟩
def ok:M.Ok:=⟨.cons call228 (AH.nil),mixed,func188,by kernel_rfl⟩
def start (h:AG 228 #[.string s0] Z R (CI .i64 λx6 y=>Br (x6=0) (R (.B false) y) (Br (1<x6) (∃Q9:UInt8,(0:Int)<=0/\(ByteArray.data s0)[Int.toNat 0]?=some Q9/\Br (((Q9.toNat:Int):Int)=48) (R (.B false) y) (Br (x6=(s0.size:Int)) (R (.returned (.bool (decide (x6<=15)))) y) (AF (x6+1)/\∃C,YF prog (Instr.sliceAt 9 (.string s0) (some (.I (x6+1))) none none) y (.string C)/\AG 228 #[.string C] y R (CI .i64 λA G=>∃R1:UInt8,0<=x6/\(ByteArray.data s0)[x6.toNat]?=some R1/\Br (((R1.toNat:Int):Int)=46) (Br (0<A) (AF (x6+1)/\AF ((x6+1)+A)/\Br ((((x6+1)+A):Int)=(s0.size:Int)) (AF (x6+A)/\R (.returned (.bool (decide (((x6+A):Int)<=15)))) G) (R (.B false) G)) (R (.B false) G)) (R (.B false) G))))) (Br (x6=(s0.size:Int)) (R (.returned (.bool (decide (x6<=15)))) y) (AF (x6+1)/\∃C,YF prog (Instr.sliceAt 9 (.string s0) (some (.I (x6+1))) none none) y (.string C)/\AG 228 #[.string C] y R (CI .i64 λA G=>∃R1:UInt8,0<=x6/\(ByteArray.data s0)[x6.toNat]?=some R1/\Br (((R1.toNat:Int):Int)=46) (Br (0<A) (AF (x6+1)/\AF ((x6+1)+A)/\Br ((((x6+1)+A):Int)=(s0.size:Int)) (AF (x6+A)/\R (.returned (.bool (decide (((x6+A):Int)<=15)))) G) (R (.B false) G)) (R (.B false) G)) (R (.B false) G))))))):Spec prog 188 #[.string s0] Z R:=M.start h ok
end WN
namespace DE
variable {p0:Option Addr}{n0 c0:Nat}{x3:Int}
def M:Fw:=⟨prog,202,f202,[237],[],false,[],[],[(224,[(0,wL),(3,wI)])]⟩
def ok:M.Ok:=⟨.cons call237 (AH.nil),mixed,func202,by kernel_rfl⟩
def E5:=M.pt 0
def start (h:E5 R p0 n0 c0 8 Z):Spec prog 202 #[.slice p0 n0 c0] Z R:=M.start h ok
def Ag (h:Br ((n0:Int)<x3) (2≠(0:Int)/\Df (IntKind.i64.wrap (Int.tdiv x3 2)) λx11=>E5 R p0 n0 c0 x11 Z) (AF ((n0:Int)-x3)/\((0:Int)<=((n0:Int)-x3)/\((n0:Int)-x3)<=(n0:Int))/\AG 237 #[(.slice (Mp p0 (Int.toNat ((n0:Int)-x3)) c0 1) (n0-Int.toNat ((n0:Int)-x3)) (c0-Int.toNat ((n0:Int)-x3)))] Z R (λz y=>∃A C,z=(.tuple #[.U A,.I C])/\R (.returned (.U A)) y))):E5 R p0 n0 c0 x3 Z:=M.of h ok rfl
end DE
namespace Tq
variable {f0:Fn}{a0 c0:Array Value}
def M:Fw:=⟨prog,203,f203,[],[],false,[],[],[]⟩
def ok:M.Ok:=⟨AH.nil,mixed,func203,by kernel_rfl⟩
def start (h:Al Z λb1=>R (.returned (.func (.func 238) #[] #[(.pointer (aD b1 0))])) (Hp.set Z b1 (.cells #[(Value.func f0 a0 c0)] 242 (0,0)))):Spec prog 203 #[(Value.func f0 a0 c0)] Z R:=M.HU h ok [(0,.o (.V (Value.func f0 a0 c0)))] rfl rfl (by kernel_rfl)
end Tq
namespace strings_Split
variable {s0 s1:ByteArray}
end strings_Split
namespace DQ
variable {V1 p8:Option Addr}{Nu UW n8 c8:Nat}{s1:ByteArray}{x9 x10:Int}
def M:Fw:=⟨prog,249,f249,[268],[2,6],false,[],[],[(104,[(1,wT),(8,wL),(9,wI),(10,wI)])]⟩
def ok:M.Ok:=⟨.cons call268 (AH.nil),mixed,func249,by kernel_rfl⟩
def Sc:=M.pt 0
def start (h:∀b2:Nat,Sc R s1 V1 Nu UW (Nu:Int) 0 Z):Spec prog 249 #[.agg #[.slice V1 Nu UW],.string s1] Z R:=M.start h ok
def FY (h:Br (x10<x9) (Pq p8 λD1 VJ=>In x10 (n8:Int)/\∃A C G,Af Z D1 (VJ+x10.toNat*1) [.slice A C G]/\∀b6:Nat,AG 268 #[.agg #[.slice A C G],.string s1] Z R (CB λt16 y=>Bo t16 (R (.B true) y) (AF (x10+1)/\Sc R s1 (aD D1 VJ) n8 c8 x9 (x10+1) y))) (R (.B false) Z)):Sc R s1 p8 n8 c8 x9 x10 Z:=M.of h ok rfl
end DQ
namespace AE
variable {s0:ByteArray}{x2 x3 x7 x10 x11 x12 x15 x16 x17 GI Ig:Int}{t4 t5 t6 t8 t9 t13 t14:Bool}
def M:Fw:=⟨prog,277,f277,[300,301],[],false,[],[],[(110,[(0,wT),(2,wU),(3,wI),(4,wB),(5,wB),(6,wB),(7,wI),(8,wB),(9,wB)]),(1790,[(0,wT),(2,wU),(3,wI),(4,wB),(5,wB),(6,wB),(7,wI),(8,wB),(9,wB),(10,wU),(11,wI),(12,w8)]),(1834976,[(0,wT),(2,wU),(3,wI),(4,wB),(5,wB),(6,wB),(7,wI),(8,wB),(9,wB),(10,wU),(11,wI),(12,w8),(13,wB),(14,wB),(15,wI),(16,wI),(17,wI)]),(458748,[(0,wT),(2,wU),(3,wI),(4,wB),(5,wB),(6,wB),(7,wI),(8,wB),(9,wB),(10,wU),(12,w8),(13,wB),(14,wB),(15,wI),(16,wI),(17,wI)]),(1835004,[(0,wT),(2,wU),(3,wI),(4,wB),(5,wB),(6,wB),(7,wI),(8,wB),(9,wB),(10,wU),(12,w8),(16,wI),(17,wI)]),(3670012,[(0,wT),(2,wU),(3,wI),(4,wB),(5,wB),(6,wB),(7,wI),(8,wB),(9,wB),(10,wU),(12,w8),(16,wI),(17,wI)]),(7340028,[(0,wT),(2,wU),(3,wI),(4,wB),(5,wB),(6,wB),(7,wI),(8,wB),(9,wB),(16,wI),(17,wI)]),(14680060,[(0,wT),(2,wU),(3,wI),(4,wB),(5,wB),(6,wB),(7,wI),(8,wB),(9,wB)]),(469761724,[(0,wT),(2,wU),(3,wI),(4,wB),(5,wB),(6,wB),(7,wI),(8,wB),(9,wB),(16,wI),(17,wI),(19,wI)]),(15032375264,[(0,wT),(2,wU),(3,wI),(4,wB),(5,wB),(6,wB),(7,wI),(8,wB),(9,wB),(16,wI),(17,wI),(19,wI),(20,wI)]),(15032375267,[(0,wT),(2,wU),(3,wI),(4,wB),(5,wB),(6,wB),(7,wI),(8,wB),(9,wB),(16,wI),(17,wI),(19,wI),(20,wI)]),(1834979,[(0,wT),(2,wU),(3,wI),(4,wB),(5,wB),(6,wB),(7,wI),(8,wB),(9,wB),(10,wU),(11,wI),(12,w8),(13,wB),(14,wB),(15,wI),(16,wI),(17,wI)])]⟩
def ok:M.Ok:=⟨.cons call300 (.cons call301 (AH.nil)),mixed,func277,by kernel_rfl⟩
def dY:=M.pt 0
def LX:=M.pt 1
def ABs:=M.pt 2
def Ts:=M.pt 3
def tw:=M.pt 4
def ABt:=M.pt 5
def ABu:=M.pt 6
def ABv:=M.pt 7
def ABw:=M.pt 8
def JA:=M.pt 11
def start (h:Br (((s0.size:Int):Int)<=0) (R (.T #[.U 0,.I 0,.bool false,.bool false,.bool false,.I 0,.bool false]) Z) (∃A:UInt8,(0:Int)<=0/\(ByteArray.data s0)[Int.toNat 0]?=some A/\Br (((A.toNat:Int):Int)=43) (AF (0+1)/\dY R s0 0 0 false false false (0+1) false false Z) (Br (((A.toNat:Int):Int)=45) (AF (0+1)/\dY R s0 0 0 true false false (0+1) false false Z) (dY R s0 0 0 false false false 0 false false Z)))):Spec prog 277 #[.string s0] Z R:=M.start h ok
def XY (h:AF (x7+2)/\Br (((x7+2):Int)<(s0.size:Int)) (∃A:UInt8,0<=x7/\(ByteArray.data s0)[x7.toNat]?=some A/\Br (((A.toNat:Int):Int)=48) (AF (x7+1)/\∃C:UInt8,(0:Int)<=(x7+1)/\(ByteArray.data s0)[Int.toNat (x7+1)]?=some C/\AG 300 #[(.int .u8 (C.toNat:Int))] Z R (CI .u8 λG y=>Br (G=120) (AF (x7+2)/\LX R s0 x2 x3 t4 t5 true (x7+2) t8 t9 16 16 112 y) (LX R s0 x2 x3 t4 t5 t6 x7 t8 t9 10 19 101 y))) (LX R s0 x2 x3 t4 t5 t6 x7 t8 t9 10 19 101 Z)) (LX R s0 x2 x3 t4 t5 t6 x7 t8 t9 10 19 101 Z)):dY R s0 x2 x3 t4 t5 t6 x7 t8 t9 Z:=M.of h ok rfl
def Jf (h:ABs R s0 x2 x3 t4 t5 t6 x7 t8 t9 x10 x11 x12 false false 0 0 0 Z):LX R s0 x2 x3 t4 t5 t6 x7 t8 t9 x10 x11 x12 Z:=M.of h ok rfl
def tz (h:Br (x7<(s0.size:Int)) (∃A:UInt8,0<=x7/\(ByteArray.data s0)[x7.toNat]?=some A/\Br (((A.toNat:Int):Int)=95) (JA R s0 x2 x3 t4 t5 t6 x7 t8 true x10 x11 x12 t13 t14 x15 x16 x17 Z) (Br (((A.toNat:Int):Int)=46) (Bo t13 (Ts R s0 x2 x3 t4 t5 t6 x7 t8 t9 x10 x12 true t14 x15 x16 x17 Z) (JA R s0 x2 x3 t4 t5 t6 x7 t8 t9 x10 x11 x12 true t14 x15 x16 x15 Z)) (Br ((48:Int)<=(A.toNat:Int)) (Br (((A.toNat:Int):Int)<=57) (Br (((A.toNat:Int):Int)=48) (Br (x15=0) (AF (x17-1)/\JA R s0 x2 x3 t4 t5 t6 x7 t8 t9 x10 x11 x12 t13 true x15 x16 (x17-1) Z) (AF (x15+1)/\Br (x16<x11) (Df (IntKind.u64.wrap (x2*x10)) λx99=>Df (IntKind.u8.wrap ((A.toNat:Int)-48)) λk9=>Df (IntKind.u64.wrap k9) λlA=>Df (IntKind.u64.wrap (x99+lA)) λqh=>AF (x16+1)/\JA R s0 qh x3 t4 t5 t6 x7 t8 t9 x10 x11 x12 t13 true (x15+1) (x16+1) x17 Z) (Br (((A.toNat:Int):Int)≠48) (JA R s0 x2 x3 t4 true t6 x7 t8 t9 x10 x11 x12 t13 true (x15+1) x16 x17 Z) (JA R s0 x2 x3 t4 t5 t6 x7 t8 t9 x10 x11 x12 t13 true (x15+1) x16 x17 Z)))) (AF (x15+1)/\Br (x16<x11) (Df (IntKind.u64.wrap (x2*x10)) λx99=>Df (IntKind.u8.wrap ((A.toNat:Int)-48)) λk9=>Df (IntKind.u64.wrap k9) λlA=>Df (IntKind.u64.wrap (x99+lA)) λqh=>AF (x16+1)/\JA R s0 qh x3 t4 t5 t6 x7 t8 t9 x10 x11 x12 t13 true (x15+1) (x16+1) x17 Z) (Br (((A.toNat:Int):Int)≠48) (JA R s0 x2 x3 t4 true t6 x7 t8 t9 x10 x11 x12 t13 true (x15+1) x16 x17 Z) (JA R s0 x2 x3 t4 t5 t6 x7 t8 t9 x10 x11 x12 t13 true (x15+1) x16 x17 Z)))) (Br (x10=16) (AG 300 #[(.int .u8 (A.toNat:Int))] Z R (CI .u8 λG y=>Br (97<=G) (AG 300 #[(.int .u8 (A.toNat:Int))] y R (CI .u8 λANC C=>Br (ANC<=102) (AF (x15+1)/\Br (x16<x11) (Df (IntKind.u64.wrap (x2*16)) λYS=>AG 300 #[(.int .u8 (A.toNat:Int))] C R (CI .u8 λAND AK=>Df (IntKind.u8.wrap (AND-97)) λANE=>Df (IntKind.u8.wrap (ANE+10)) λANF=>Df (IntKind.u64.wrap ANF) λYV=>Df (IntKind.u64.wrap (YS+YV)) λYW=>AF (x16+1)/\JA R s0 YW x3 t4 t5 t6 x7 t8 t9 x10 x11 x12 t13 true (x15+1) (x16+1) x17 AK)) (JA R s0 x2 x3 t4 true t6 x7 t8 t9 x10 x11 x12 t13 true (x15+1) x16 x17 C)) (Ts R s0 x2 x3 t4 t5 t6 x7 t8 t9 x10 x12 t13 t14 x15 x16 x17 C))) (Ts R s0 x2 x3 t4 t5 t6 x7 t8 t9 x10 x12 t13 t14 x15 x16 x17 y))) (Ts R s0 x2 x3 t4 t5 t6 x7 t8 t9 x10 x12 t13 t14 x15 x16 x17 Z))) (Br (x10=16) (AG 300 #[(.int .u8 (A.toNat:Int))] Z R (CI .u8 λG y=>Br (97<=G) (AG 300 #[(.int .u8 (A.toNat:Int))] y R (CI .u8 λANC C=>Br (ANC<=102) (AF (x15+1)/\Br (x16<x11) (Df (IntKind.u64.wrap (x2*16)) λYS=>AG 300 #[(.int .u8 (A.toNat:Int))] C R (CI .u8 λAND AK=>Df (IntKind.u8.wrap (AND-97)) λANE=>Df (IntKind.u8.wrap (ANE+10)) λANF=>Df (IntKind.u64.wrap ANF) λYV=>Df (IntKind.u64.wrap (YS+YV)) λYW=>AF (x16+1)/\JA R s0 YW x3 t4 t5 t6 x7 t8 t9 x10 x11 x12 t13 true (x15+1) (x16+1) x17 AK)) (JA R s0 x2 x3 t4 true t6 x7 t8 t9 x10 x11 x12 t13 true (x15+1) x16 x17 C)) (Ts R s0 x2 x3 t4 t5 t6 x7 t8 t9 x10 x12 t13 t14 x15 x16 x17 C))) (Ts R s0 x2 x3 t4 t5 t6 x7 t8 t9 x10 x12 t13 t14 x15 x16 x17 y))) (Ts R s0 x2 x3 t4 t5 t6 x7 t8 t9 x10 x12 t13 t14 x15 x16 x17 Z))))) (Ts R s0 x2 x3 t4 t5 t6 x7 t8 t9 x10 x12 t13 t14 x15 x16 x17 Z)):ABs R s0 x2 x3 t4 t5 t6 x7 t8 t9 x10 x11 x12 t13 t14 x15 x16 x17 Z:=M.of h ok rfl
def ABx (h:Bn t14 (R (.T #[.U x2,.I x3,.bool t4,.bool t5,.bool t6,.I x7,.bool t8]) Z) (Bn t13 (tw R s0 x2 x3 t4 t5 t6 x7 t8 t9 x10 x12 x16 x15 Z) (tw R s0 x2 x3 t4 t5 t6 x7 t8 t9 x10 x12 x16 x17 Z))):Ts R s0 x2 x3 t4 t5 t6 x7 t8 t9 x10 x12 t13 t14 x15 x16 x17 Z:=M.of h ok rfl
def ABy (h:Br (x10=16) (AF (x17*4)/\AF (x16*4)/\ABt R s0 x2 x3 t4 t5 t6 x7 t8 t9 x10 x12 (x16*4) (x17*4) Z) (ABt R s0 x2 x3 t4 t5 t6 x7 t8 t9 x10 x12 x16 x17 Z)):tw R s0 x2 x3 t4 t5 t6 x7 t8 t9 x10 x12 x16 x17 Z:=M.of h ok rfl
def ABz (h:Br (x7<(s0.size:Int)) (∃C:UInt8,0<=x7/\(ByteArray.data s0)[x7.toNat]?=some C/\AG 300 #[(.int .u8 (C.toNat:Int))] Z R (CI .u8 λG y=>Br (G=x12) (AF (x7+1)/\Br (((s0.size:Int):Int)<=(x7+1)) (R (.T #[.U x2,.I x3,.bool t4,.bool t5,.bool t6,(.I (x7+1)),.bool t8]) y) (∃A:UInt8,(0:Int)<=(x7+1)/\(ByteArray.data s0)[Int.toNat (x7+1)]?=some A/\Br (((A.toNat:Int):Int)=43) (AF ((x7+1)+1)/\ABw R s0 x2 x3 t4 t5 t6 (((x7+1)+1)) t8 t9 x16 x17 1 y) (Br (((A.toNat:Int):Int)=45) (AF ((x7+1)+1)/\ABw R s0 x2 x3 t4 t5 t6 (((x7+1)+1)) t8 t9 x16 x17 (-1) y) (ABw R s0 x2 x3 t4 t5 t6 (x7+1) t8 t9 x16 x17 1 y)))) (Br (x10=16) (R (.T #[.U x2,.I x3,.bool t4,.bool t5,.bool t6,.I x7,.bool t8]) y) (ABu R s0 x2 x3 t4 t5 t6 x7 t8 t9 x16 x17 y)))) (Br (x10=16) (R (.T #[.U x2,.I x3,.bool t4,.bool t5,.bool t6,.I x7,.bool t8]) Z) (ABu R s0 x2 x3 t4 t5 t6 x7 t8 t9 x16 x17 Z))):ABt R s0 x2 x3 t4 t5 t6 x7 t8 t9 x10 x12 x16 x17 Z:=M.of h ok rfl
def AB0 (h:Br (x2≠0) (AF (x17-x16)/\ABv R s0 x2 (x17-x16) t4 t5 t6 x7 t8 t9 Z) (ABv R s0 x2 x3 t4 t5 t6 x7 t8 t9 Z)):ABu R s0 x2 x3 t4 t5 t6 x7 t8 t9 x16 x17 Z:=M.of h ok rfl
def l6 (h:Bo t9 (∃A,YF prog (Instr.sliceAt 9 (.string s0) none (some (.I x7)) none) Z (.string A)/\AG 301 #[.string A] Z R (CB λt250 y=>Bn t250 (R (.T #[.U x2,.I x3,.bool t4,.bool t5,.bool t6,.I x7,.bool t8]) y) (R (.T #[.U x2,.I x3,.bool t4,.bool t5,.bool t6,.I x7,.bool true]) y))) (R (.T #[.U x2,.I x3,.bool t4,.bool t5,.bool t6,.I x7,.bool true]) Z)):ABv R s0 x2 x3 t4 t5 t6 x7 t8 t9 Z:=M.of h ok rfl
def AB1 (h:AF (x7+1)/\ABs R s0 x2 x3 t4 t5 t6 (x7+1) t8 t9 x10 x11 x12 t13 t14 x15 x16 x17 Z):JA R s0 x2 x3 t4 t5 t6 x7 t8 t9 x10 x11 x12 t13 t14 x15 x16 x17 Z:=M.of h ok rfl
end AE
end TwW
end
end
section
namespace Tw
open Go
variable [HL]
def Az (O:Hp):List (Nat×Obj)->Hp
 | []=>O
 | (b,o)::L=>(Az O L).set b o
abbrev names (L:List (Nat×Obj)):List Nat:=L.map Prod.fst
section
variable {O:Hp}{L:List (Nat×Obj)}{b i:Nat}{o o':Obj}
theorem ML (h:b ∉ names L):Az O L b=O b:=by
 induction L with
 | nil=>rfl
 | cons p L A=>
  simp only[names,AnT,Aml,Ap1]at h;simp only[Az,Hp.AN h.1];exact A h.2
theorem Dm:∀{L:List (Nat×Obj)} {i:Nat},(names L).Nodup->L[i]?=some (b,o)->Az O L b=some o
 | p::L,0,_,h=>by simp at h;subst h;exact Hp.AA _ _ _
 | p::L,i+1,A,h=>by
  simp only[AnV]at h;have hm:b∈names L:=AnA.2 ⟨_,Ame h,rfl⟩;have A:=AnY.1 (show(p.1::names L).Nodup from A);have C:b≠p.1:=λe=>A.1 (e▸hm);simp only[Az,Hp.AN C];exact Dm A.2 h
theorem Hp.MM {Z:Hp}{a b:Nat}{o u:Obj}(h:a≠b):(Z.set a o).set b u=(Z.set b u).set a o:=by
 funext k
 simp only[Hp.set];by_cases A:k=a
 .subst A;simp[h]
 .simp[A]
theorem QL:∀{L:List (Nat×Obj)} {i:Nat},(names L).Nodup->L[i]?=some (b,o)->(Az O L).set b o'=Az O (L.set i (b,o'))
 | p::L,0,_,h=>by simp at h;subst h;exact Hp.set_set
 | p::L,i+1,A,h=>by
  simp only[AnV]at h;have hm:b∈names L:=AnA.2 ⟨_,Ame h,rfl⟩;have A:=AnY.1 (show(p.1::names L).Nodup from A);have C:b≠p.1:=λe=>A.1 (e▸hm);simp only[Az,ApO];rw[Hp.MM (Ann C),QL A.2 h]
theorem KF:∀{L:List (Nat×Obj)},b ∉ names L->(Az O L).set b o=Az (O.set b o) L
 | [],_=>rfl
 | p::L,h=>by
  simp only[names,AnT,Aml,Ap1]at h;simp only[Az];rw[Hp.MM (Ann h.1),KF h.2]
theorem fY:∀{L:List (Nat×Obj)},b∈names L->Az O L b≠none
 | p::L,h=>by
  by_cases hb:b=p.1
  .subst hb;simp only[Az,Hp.AA];simp
  .simp only[names,AnT,Aml]at h;simp only[Az,Hp.AN hb];exact fY (h.resolve_left hb)
theorem EE (h:Az O L b=none):b ∉ names L/\O b=none:=by
 have C:∀{L:List (Nat×Obj)},b ∉ names L->Az O L b=O b:=ML;have A:b ∉ names L:=λhm=>fY hm h;exact⟨A,(C A).symm.trans h⟩
def Sf (L:List (Nat×Obj))(O:Hp):Prop:=∀b∈names L,O b=none
theorem Sf.ext {O:Hp}:∀{L:List (Nat×Obj)},(names L).Nodup->Sf L O->Ext O (Az O L)
 | [],_,_=>.refl O
 | p::L,A,h=>by
  have A:=AnY.1 (show(p.1::names L).Nodup from A);have C:=Sf.ext A.2 (λb hb=>h b (Amk _ hb));refine C.trans (.set ?_);rw[ML A.1];exact h _ (Amu ..)
theorem Sf.set {O:Hp}{b:Nat}{o:Obj}(h:Sf L O)(hb:b ∉ names L):Sf L (O.set b o):=λc A=>by
 have C:c≠b:=λe=>hb (e▸A);rw[Hp.AN C];exact h c A
end
theorem Spec.IM {P:Program}{f:FuncId}{args:Array Value}{O:Hp}:∀{L:List (Nat×Obj)} {R:Rr},(names L).Nodup->Sf L O->
  Spec P f args O (λe C=>Sf L C->R e (Az C L))->Spec P f args (Az O L) R
 | [],R,_,_,h=>h.mono λe C G=>G (λb hb=>by cases hb)
 | p::L,R,A,ho,h=>by
  have A:=AnY.1 (show(p.1::names L).Nodup from A);refine Spec.HQ (by rw[ML A.1];exact ho _ (Amu ..)) ?_;refine Spec.IM A.2 (λb hb=>ho b (Amk _ hb)) (h.mono λe C G RZ Hz=>G λb hb=>?_);rcases Aml.1 (show b∈p.1::names L from hb) with rfl|hb
  .rw[ML A.1]at Hz;exact Hz
  .exact RZ b hb
theorem AJ.IM {P:Program}{α:Type}{m:Sem α}{O:Hp}:∀{L:List (Nat×Obj)} {Φ:α->Hp->Prop},(names L).Nodup->Sf L O->
  AJ P m O (λv C=>Sf L C->Φ v (Az C L))->AJ P m (Az O L) Φ
 | [],R,_,_,h=>h.mono λe C G=>G (λb hb=>by cases hb)
 | p::L,R,A,ho,h=>by
  have A:=AnY.1 (show(p.1::names L).Nodup from A);refine AJ.HQ (by rw[ML A.1];exact ho _ (Amu ..)) ?_;refine AJ.IM A.2 (λb hb=>ho b (Amk _ hb)) (h.mono λe C G RZ Hz=>G λb hb=>?_);rcases Aml.1 (show b∈p.1::names L from hb) with rfl|hb
  .rw[ML A.1]at Hz;exact Hz
  .exact RZ b hb
theorem AJ.NL {P:Program}{O:Hp}{L:List (Nat×Obj)}{i b n o:Nat}{T t:TypeId}{c c':Array Value}{v:Value}{Φ:Unit->Hp->Prop}(hz:∀w,(Go.sizeOf T).run P w=.ok n w)(A:(names L).Nodup)(hi:L[i]?=some (b,.cells c t (0,0)))
  (hv:v.cells.size=n) (hl:Nat.ble (o+n) c.size=true) (C:(v.cells.toList.all λu=>u.oneCell')=true) (G:SP c o v.cells.toList=c') (h:Φ () (Az O (L.set i (b,.cells c' t (0,0))))) :
  AJ P (Instr.storeAt T (.pointer (some ⟨b,o,none⟩)) v) (Az O L) Φ:=by
 subst G;refine AJ.store hz (Dm A hi) hv (Anj hl) (λu hu=>AnJ.1 C u hu) ?_;rw[QL A hi];exact h
theorem dZ {O:Hp}{L:List (Nat×Obj)}{i b o:Nat}{t:TypeId}{c:Array Value}{v:Value}(A:(names L).Nodup)(hi:L[i]?=some (b,.cells c t (0,0)))(h:c[o]?=some v):Hp.ld (Az O L) ⟨b,o,none⟩=some v:=by
 simp[Hp.ld,Dm A hi,h]
end Tw
end
section
namespace Tw
open Go Go.MapKept
variable [HL]
def Xr (p:Option Addr):List Nat:=match p with
 | some a=>[a.block]
 | none=>[]
structure Loc (A:Hp->Prop)(Z:Hp)(S:List Nat):Prop where
 here:A Z
 known:∀b∈S,Z b≠none
 loc:∀Z',(∀b∈S,Z' b=Z b)->A Z'
section
variable {P:Program}{Z:Hp}{α:Type}
theorem AJ.obj {m:Sem α}{b:Nat}{o o':Obj}{v:α}{Φ:α->Hp->Prop}(hb:Z b=some o)(hm:∀w,Sat Z w->∃G:World,(G=w\/G=w.drew)/\m.run P w=.ok v (ChangeMaps.setBlock G b o'))(h:Φ v (Z.set b o')):AJ P m Z Φ:=λw F hs hF=>by
 obtain⟨G,hw,BP⟩:=hm w hs;have Av:b<w.heap.size:=(Am9.1 (hs b o hb)).1;have S9:G.heap=w.heap:=by rcases hw with rfl|rfl<;>rfl
 refine⟨v,_,_,BP,h,λk u A=>?_,λk A=>?_,?_,?_,?_⟩
 .simp only[ChangeMaps.setBlock,S9];by_cases C:k=b
  .subst C;rw[Hp.AA]at A;cases A;simp[Av]
  .rw[Hp.AN C]at A;simp[Ann C,hs k u A]
 .have C:k≠b:=λe=>by have:=(hF k A).2;rw[e,hb]at this;cases this
  refine⟨by rw[Hp.AN C];exact(hF k A).2,?_⟩;simp[ChangeMaps.setBlock,S9,Ann C]
 .rcases hw with rfl|rfl
  .exact .same rfl rfl rfl
  .exact⟨rfl,rfl,λ_=>⟨1,rfl⟩⟩
 .rcases hw with rfl|rfl<;>rfl
 .simp[ChangeMaps.setBlock,S9]
theorem AJ.new {m:Sem α}{o:Obj}{v:Nat->α}{Φ:α->Hp->Prop}(hm:∀w,Sat Z w->m.run P w=.ok (v w.heap.size) (w.alloc o))(h:∀b,Z b=none->Φ (v b) (Z.set b o)):AJ P m Z Φ:=λw F A hF=>
 ⟨_,_,_,hm w A,h _ (Iw A),Fin.alloc A hF _ rfl (.same rfl rfl rfl) rfl⟩
class MpT (P:Program)(T:TypeId)(K V:outParam TypeId):Prop where
 sd:P.underlying T=some (.map K V)
 key:P.underlying K=some .string
def DF (Z:Hp)(b:Nat)(l:List MapEntry)(clock:Nat):Prop:=Z b=some (.map l.toArray clock)/\Stamped l.toArray clock/\∀x∈l,IsKey .string x.key
theorem DF.mono {Z Z':Hp}{b:Nat}{l:List MapEntry}{clock:Nat}(h:DF Z b l clock)(A:Ext Z Z'):DF Z' b l clock:=⟨A _ _ h.1,h.2⟩
theorem DF.loc {Z Z':Hp}{b:Nat}{l:List MapEntry}{clock:Nat}(h:DF Z b l clock)(A:Z' b=Z b):DF Z' b l clock:=⟨A.trans h.1,h.2⟩
theorem DF.nodup {Z:Hp}{b:Nat}{l:List MapEntry}{clock:Nat}(h:DF Z b l clock):(l.map (·.key)).Nodup:=h.2.1.2.2
theorem IN {s:ByteArray}{l:List MapEntry}(hk:∀x∈l,IsKey .string x.key):
  (Instr.findNow .string (.string s) l 0=some none/\∀x∈l,x.key≠.string s)\/∃A e l2,l=A++e::l2/\e.key=.string s/\Instr.findNow .string (.string s) l 0=some (some (A.length,e.val)):=by
 rcases findNow_spec (d:=.string) (k:=.string s) trivial l 0 hk with h|⟨j,e,C,G,h3⟩
 .exact .inl h
 .obtain⟨hj,rfl⟩:=Amd.1 G;refine .inr ⟨l.take j,l[j],l.drop (j+1),?_,h3,?_⟩
  .rw[Apa,Anc]
  .rw[C];simp[AoK (Nat.le_of_lt hj)]
section
variable {T K V ty:TypeId}{b clock:Nat}{l:List MapEntry}{s:ByteArray}
theorem HD {Φ:Value->Hp->Prop}(h:∀b,Z b=none->Φ (.map (some b)) (Z.set b (.map #[] 0))):AJ P (Instr.makeMap T none) Z Φ:=
 AJ.new (v:=λb=>.map (some b)) (λw _=>by simp[Instr.makeMap,Result.andThen]) h
theorem DF.fresh {b:Nat}{Z:Hp}:DF (Z.set b (.map #[] 0)) b [] 0:=⟨Hp.AA _ _ _,stamped_empty 0,by simp⟩
theorem VO [t:MpT P T K V](hm:DF Z b l clock){z:Value}(hz:∀w,(zeroValue V).run P w=.ok z w){Q:Value->Prop}
  (h0:(∀x∈l,x.key≠.string s)->Q z) (h1:∀G e l2,l=G++e::l2->e.key=.string s->Q e.val):∃v,Q v/\YF P (Instr.lookup T (.map (some b)) (.string s) false) Z v:=by
 rcases IN (s:=s) hm.2.2 with ⟨A,hn⟩|⟨G,e,l2,hl,he,A⟩
 .refine⟨z,h0 hn,λw C=>?_⟩;have:=C _ _ hm.1;simp[Instr.lookup,run_underlying t.sd,run_getObj_map this,run_checkKey t.key (k:=.string s) trivial,run_findKey t.key A,hz,Result.andThen]
 .refine⟨e.val,h1 G e l2 hl he,λw C=>?_⟩;have:=C _ _ hm.1;simp[Instr.lookup,run_underlying t.sd,run_getObj_map this,run_checkKey t.key (k:=.string s) trivial,run_findKey t.key A,Result.andThen]
theorem Sg [t:MpT P T K V](hm:DF Z b l clock){z:Value}(hz:∀w,(zeroValue V).run P w=.ok z w){Φ:Value->Hp->Prop}
  (A:(∀x∈l,x.key≠.string s)->Φ z Z) (C:∀l1 e l2,l=l1++e::l2->e.key=.string s->Φ e.val Z):AJ P (Instr.lookup T (.map (some b)) (.string s) false) Z Φ:=by
 obtain⟨v,G,hy⟩:=VO (T:=T) (K:=K) (s:=s) (Q:=λv=>Φ v Z) hm hz A C;exact AJ.pu hy G
theorem AB3 [t:MpT P T K V](hm:DF Z b l clock):YF P (Builtin.len_ #[T] ty #[.map (some b)]) Z (.int .i64 l.length):=λw A=>by
 have:=A _ _ hm.1;simp[Builtin.len_,run_underlying t.sd,run_getObj_map this,goInt,Result.andThen]
abbrev TD (s:ByteArray)(v:Value)(n:Nat):MapEntry:={ key:=.string s,val:=v,born:=n }
theorem LZ [t:MpT P T K V](hm:DF Z b l clock){v:Value}{Φ:Unit->Hp->Prop}
  (h0:(∀x∈l,x.key≠.string s)->∀Z',Z'=Z.set b (.map (l++[TD s v clock]).toArray (clock+1))->DF Z' b (l++[TD s v clock]) (clock+1)->Φ () Z')
  (h1:∀A e G,l=A++e::G->e.key=.string s->∀Z',Z'=Z.set b (.map (A++TD s v e.born::G).toArray clock)->DF Z' b (A++TD s v e.born::G) clock->Φ () Z') :
  AJ P (Instr.mapUpdate T (.map (some b)) (.string s) v) Z Φ:=by
 obtain⟨hb,HG,hk⟩:=hm;rcases IN (s:=s) hk with ⟨hf,hn⟩|⟨A,e,G,hl,he,hf⟩
 .have l8:(l++[TD s v clock]).toArray=l.toArray.push (TD s v clock):=by simp
  refine AJ.obj (v:=()) (o':=.map (l++[TD s v clock]).toArray (clock+1)) hb (λw hs=>⟨w,.inl rfl,?_⟩) (h0 hn _ rfl ⟨Hp.AA _ _ _,?_,?_⟩)
  .have:=hs _ _ hb;rw[l8];simp only[Instr.mapUpdate,Sem.run_bind,run_underlying t.sd,run_getObj_map this,run_checkKey t.key (k:=.string s) trivial,run_findKey t.key hf,Result.andThen_ok];simp[setObj,Sem.run,this,ChangeMaps.setBlock]
  .rw[l8];exact stamped_push HG (by simpa using hn)
  .intro x C;rcases Am6.1 C with C|C
   .exact hk x C
   .rw[Amo]at C;subst C;trivial
 .subst hl;have AB4:(A++TD s v e.born::G).toArray=(A++e::G).toArray.modify A.length (λe=>{ e with key:=.string s,val:=v }):=by
   rw[<-AnB];apply Ani
   intro j;simp only[Ano,Apl,Apm];by_cases hj:A.length=j
   .subst hj;simp
   .rw[Amb hj];rcases Ao5 j A.length with h|h
    .rw[AnZ h,AnZ h]
    .have:∃k,j=A.length+(k+1):=⟨j-A.length-1,by omega⟩;obtain⟨k,rfl⟩:=this;simp[Ang]
  have bH:(A++e::G).toArray[A.length]?=some e:=by simp
  refine AJ.obj (v:=()) (o':=.map (A++TD s v e.born::G).toArray clock) hb (λw hs=>⟨w,.inl rfl,?_⟩) (h1 A e G rfl he _ rfl ⟨Hp.AA _ _ _,?_,?_⟩)
  .have:=hs _ _ hb;rw[AB4];simp only[Instr.mapUpdate,Sem.run_bind,run_underlying t.sd,run_getObj_map this,run_checkKey t.key (k:=.string s) trivial,run_findKey t.key hf,Result.andThen_ok,bH,AnK,AqF,he,
    run_keyThatStays (d:=.string) (k:=.string s) trivial]
   simp[setObj,Sem.run,this,ChangeMaps.setBlock]
  .rw[AB4];exact stamped_modify HG _ _ (λ_ _=>rfl) (λe' _ WO=>by rw[bH]at WO;cases WO;exact he.symm)
  .intro x C;rcases Am6.1 C with C|C
   .exact hk x (AoV _ C)
   .rcases Aml.1 C with rfl|C
    .trivial
    .exact hk x (Apk _ (Amk _ C))
end
end
end Tw
end
section
theorem Tw.Hp.DG {Z:Tw.Hp}{b k:Nat}{o:Go.Obj}(h:(Z.set b o) k=none):k≠b/\Z k=none:=by
 have A:k≠b:=λe=>by rw[e,Tw.Hp.AA]at h;cases h
 exact⟨A,by rw[Tw.Hp.AN A]at h;exact h⟩
namespace TwI
open Go Go.MapKept Tw
variable [HL]
section
variable {P:Program}{Z:Hp}
class MpI (P:Program)(T:TypeId)(K V:outParam TypeId):Prop where
 sd:P.underlying T=some (.map K V)
 key:P.underlying K=some (.int .i64)
def DF (Z:Hp)(b:Nat)(l:List MapEntry)(clock:Nat):Prop:=Z b=some (.map l.toArray clock)/\Stamped l.toArray clock/\∀x∈l,IsKey (.int .i64) x.key
theorem DF.loc {Z Z':Hp}{b:Nat}{l:List MapEntry}{clock:Nat}(h:DF Z b l clock)(A:Z' b=Z b):DF Z' b l clock:=⟨A.trans h.1,h.2⟩
theorem IN {s:Int}{l:List MapEntry}(hk:∀x∈l,IsKey (.int .i64) x.key):
  (Instr.findNow (.int .i64) (.int .i64 s) l 0=some none/\∀x∈l,x.key≠.int .i64 s)\/∃A e l2,l=A++e::l2/\e.key=.int .i64 s/\Instr.findNow (.int .i64) (.int .i64 s) l 0=some (some (A.length,e.val)):=by
 rcases findNow_spec (d:=.int .i64) (k:=.int .i64 s) rfl l 0 hk with h|⟨j,e,C,G,h3⟩
 .exact .inl h
 .obtain⟨hj,rfl⟩:=Amd.1 G;refine .inr ⟨l.take j,l[j],l.drop (j+1),?_,h3,?_⟩
  .rw[Apa,Anc]
  .rw[C];simp[AoK (Nat.le_of_lt hj)]
section
variable {T K V ty:TypeId}{b clock:Nat}{l:List MapEntry}{s:Int}
theorem DF.fresh {b:Nat}{Z:Hp}:DF (Z.set b (.map #[] 0)) b [] 0:=⟨Hp.AA _ _ _,stamped_empty 0,by simp⟩
theorem VO [t:MpI P T K V](hm:DF Z b l clock){z:Value}(hz:∀w,(zeroValue V).run P w=.ok z w){Q:Value->Prop}
  (h0:(∀x∈l,x.key≠.int .i64 s)->Q z) (h1:∀G e l2,l=G++e::l2->e.key=.int .i64 s->Q e.val):∃v,Q v/\YF P (Instr.lookup T (.map (some b)) (.int .i64 s) false) Z v:=by
 rcases IN (s:=s) hm.2.2 with ⟨A,hn⟩|⟨G,e,l2,hl,he,A⟩
 .refine⟨z,h0 hn,λw C=>?_⟩;have:=C _ _ hm.1;simp[Instr.lookup,run_underlying t.sd,run_getObj_map this,run_checkKey t.key (k:=.int .i64 s) rfl,run_findKey t.key A,hz,Result.andThen]
 .refine⟨e.val,h1 G e l2 hl he,λw C=>?_⟩;have:=C _ _ hm.1;simp[Instr.lookup,run_underlying t.sd,run_getObj_map this,run_checkKey t.key (k:=.int .i64 s) rfl,run_findKey t.key A,Result.andThen]
theorem Sg [t:MpI P T K V](hm:DF Z b l clock){z:Value}(hz:∀w,(zeroValue V).run P w=.ok z w){Φ:Value->Hp->Prop}
  (A:(∀x∈l,x.key≠.int .i64 s)->Φ z Z) (C:∀l1 e l2,l=l1++e::l2->e.key=.int .i64 s->Φ e.val Z):AJ P (Instr.lookup T (.map (some b)) (.int .i64 s) false) Z Φ:=by
 obtain⟨v,G,hy⟩:=VO (T:=T) (K:=K) (s:=s) (Q:=λv=>Φ v Z) hm hz A C;exact AJ.pu hy G
theorem AB3 [t:MpI P T K V](hm:DF Z b l clock):YF P (Builtin.len_ #[T] ty #[.map (some b)]) Z (.int .i64 l.length):=λw A=>by
 have:=A _ _ hm.1;simp[Builtin.len_,run_underlying t.sd,run_getObj_map this,goInt,Result.andThen]
abbrev TD (s:Int)(v:Value)(n:Nat):MapEntry:={ key:=.int .i64 s,val:=v,born:=n }
theorem LZ [t:MpI P T K V](hm:DF Z b l clock){v:Value}{Φ:Unit->Hp->Prop}
  (h0:(∀x∈l,x.key≠.int .i64 s)->∀Z',Z'=Z.set b (.map (l++[TD s v clock]).toArray (clock+1))->DF Z' b (l++[TD s v clock]) (clock+1)->Φ () Z')
  (h1:∀A e G,l=A++e::G->e.key=.int .i64 s->∀Z',Z'=Z.set b (.map (A++TD s v e.born::G).toArray clock)->DF Z' b (A++TD s v e.born::G) clock->Φ () Z') :
  AJ P (Instr.mapUpdate T (.map (some b)) (.int .i64 s) v) Z Φ:=by
 obtain⟨hb,HG,hk⟩:=hm;rcases IN (s:=s) hk with ⟨hf,hn⟩|⟨A,e,G,hl,he,hf⟩
 .have l8:(l++[TD s v clock]).toArray=l.toArray.push (TD s v clock):=by simp
  refine AJ.obj (v:=()) (o':=.map (l++[TD s v clock]).toArray (clock+1)) hb (λw hs=>⟨w,.inl rfl,?_⟩) (h0 hn _ rfl ⟨Hp.AA _ _ _,?_,?_⟩)
  .have:=hs _ _ hb;rw[l8];simp only[Instr.mapUpdate,Sem.run_bind,run_underlying t.sd,run_getObj_map this,run_checkKey t.key (k:=.int .i64 s) rfl,run_findKey t.key hf,Result.andThen_ok];simp[setObj,Sem.run,this,ChangeMaps.setBlock]
  .rw[l8];exact stamped_push HG (by simpa using hn)
  .intro x C;rcases Am6.1 C with C|C
   .exact hk x C
   .rw[Amo]at C;subst C;rfl
 .subst hl;have AB4:(A++TD s v e.born::G).toArray=(A++e::G).toArray.modify A.length (λe=>{ e with key:=.int .i64 s,val:=v }):=by
   rw[<-AnB];apply Ani
   intro j;simp only[Ano,Apl,Apm];by_cases hj:A.length=j
   .subst hj;simp
   .rw[Amb hj];rcases Ao5 j A.length with h|h
    .rw[AnZ h,AnZ h]
    .have:∃k,j=A.length+(k+1):=⟨j-A.length-1,by omega⟩;obtain⟨k,rfl⟩:=this;simp[Ang]
  have bH:(A++e::G).toArray[A.length]?=some e:=by simp
  refine AJ.obj (v:=()) (o':=.map (A++TD s v e.born::G).toArray clock) hb (λw hs=>⟨w,.inl rfl,?_⟩) (h1 A e G rfl he _ rfl ⟨Hp.AA _ _ _,?_,?_⟩)
  .have:=hs _ _ hb;rw[AB4];simp only[Instr.mapUpdate,Sem.run_bind,run_underlying t.sd,run_getObj_map this,run_checkKey t.key (k:=.int .i64 s) rfl,run_findKey t.key hf,Result.andThen_ok,bH,AnK,AqF,he,
    run_keyThatStays (d:=.int .i64) (k:=.int .i64 s) rfl]
   simp[setObj,Sem.run,this,ChangeMaps.setBlock]
  .rw[AB4];exact stamped_modify HG _ _ (λ_ _=>rfl) (λe' _ WO=>by rw[bH]at WO;cases WO;exact he.symm)
  .intro x C;rcases Am6.1 C with C|C
   .exact hk x (AoV _ C)
   .rcases Aml.1 C with rfl|C
    .rfl
    .exact hk x (Apk _ (Amk _ C))
end
end
end TwI
end
section
namespace Tw
open Go
variable [HL]
def bI (s:ByteArray):List Value:=s.data.toList.map λb=>.int .u8 b.toNat
theorem AB6 {s:ByteArray}:(bI s).length=s.size:=by simp[bI]
theorem AB7 {s:ByteArray}:HH (bI s):=λu A=>by obtain⟨x,_,rfl⟩:=AnA.1 A;rfl
section append
variable {P:Program}{T E ty:TypeId}{bs:Nat}{Z:Hp}{p:Option Addr}{n c m:Nat}{cs ys:List Value}{Φ:Value->Hp->Prop}
theorem bJ {str:ByteArray}(w:World)(size:Nat):(Builtin.firstCells size str.size (.string str)).run P w=.ok (bI str).toArray w:=by
 have G:(Array.map (λb:UInt8=>Value.int IntKind.u8 (b.toNat:Int)) str.data).extract 0 str.size=(bI str).toArray:=by
  have C:str.size=(Array.map (λb:UInt8=>Value.int IntKind.u8 (b.toNat:Int)) str.data).size:=by rw[Array.size_map];rfl
  rw[C,Ap2];apply AqS
  simp[bI]
 have A:Array.map (λb:UInt8=>Value.int IntKind.u8 (b.toNat:Int)) str.data=(bI str).toArray:=by apply AqS;simp[bI]
 simp[Builtin.firstCells,A]
theorem AF9 [h:KT P T E 1 bs]{U:TypeId}{str:ByteArray}(hU:P.underlying U=some .string)(Cp:Aw 1 Z p n c cs)(hm:str.size=m)(A:bI str=ys)(hb:(n+m)*bs<=140737488355328)
  (hΦ:∀p' c' Z',Aw 1 Z' p' (n+m) c' (cs++ys)->Ext (Z.del p) (Z'.del p')->((p'=p/\c'=c/\n+m<=c)\/(c<n+m/\Ext Z Z'/\∀a,p'=some a->Z a.block=none))->Φ (.slice p' (n+m) c') Z') :
  AJ P (Builtin.append_ #[T,U] ty #[.slice p n c,.string str]) Z Φ:=by
 obtain⟨ht,⟨i,z,hi,hz,Hv,rfl,hzs⟩,Up,yt⟩:=h;have h1:HH ys:=A▸AB7;have hyl:ys.length=m*1:=by rw[<-A,<-hm,An5];exact AB6
 have h62:n+m<=140737488355328:=AnL (ApV _ yt) hb;intro w F hs hF;have hf:=bJ (P:=P) (str:=str) w 1;rw[A,hm]at hf;have yI:=λw':World=>bJ (P:=P) (str:=str) w' 1;rw[A,hm]at yI;have Mk:=λw' (hw:Sat Z w')=>Qu (P:=P) (d:=c) w' hw Cp.rd;have G:(cs++ys).length=(n+m)*1:=by rw[Amv,Cp.1,hyl,Ant]
 by_cases Kd:n+m<=c
 ·
  rcases Cp.2.2 with ⟨hp,hn,hc⟩|⟨b,o,C,T',rfl,hblk,sb,J2,LC⟩
  .subst hp hn hc;have hm:m=0:=by omega
   subst hm;have A:ys=[]:=AnS (by simpa using hyl);have LC:cs=[]:=AnS (by simpa using Cp.1);subst A LC;refine⟨.slice none 0 0,w,Z,?_,hΦ none 0 Z Aw.nil (Ext.refl _) (.inl ⟨rfl,rfl,Kd⟩),hs,λb hb=>⟨(hF b hb).2,rfl⟩,.same rfl rfl rfl,rfl,Amr _⟩;simp[Builtin.append_,run_underlying ht,run_underlying hU,Hv,hm,Go.sizeOf,typeInfo,hi,Builtin.lenOf,hf]
  .have hw:=hs _ _ hblk;have AKm:o+n*1+0+ys.length<=C.size:=by
    rw[hyl];have:(n+m)*1<=c*1:=AnM _ Kd;rw[Ant]at this;omega
   have HG:=HN (P:=P) b (o+n*1) T' ys 0 C w hw AKm h1;simp only[Ank,An5]at HG;refine⟨.slice (some ⟨b,o,none⟩) (n+m) c,w.setRow b (SP C (o+n) ys),Z.set b (.cells (SP C (o+n) ys) T' (0,0)),?_,hΦ _ _ _ ⟨G,by omega,.inr ⟨b,o,_,T',rfl,Hp.AA _ _ _,Kd,by rw[Is];exact J2,?_⟩⟩ (by rw[Hp.Ja];exact Ext.refl _) (.inl ⟨rfl,rfl,Kd⟩),?_⟩
   .simp[Builtin.append_,run_underlying ht,run_underlying hU,Hv,hm,Go.sizeOf,typeInfo,hi,Builtin.lenOf,Kd,hf,DU,HG]
   .refine Ani λj=>?_;rw[Am5];simp only[Am3,Ano];rw[XF _ _ _ _ (by omega),Anr];have e1:cs.length=n*1:=Cp.1;have e2:ys.length=m*1:=hyl;have e3:(n+m)*1=n*1+m*1:=Ant ..;by_cases eH:j<cs.length
    .rw[Amc (by omega),Amb (by omega),Amc eH,<-LC,Am5,Amc (by omega)];simp
    .rw[Amb eH];by_cases hj2:j<(n+m)*1
     .rw[Amc hj2,Amc (by omega),show o+j-(o+n)=j-cs.length by omega]
     .rw[Amb hj2,AoQ (by omega)]
   .refine⟨λk u hk=>?_,λk hk=>?_,.same rfl rfl rfl,rfl,by simp⟩
    .by_cases Jb:k=b
     .subst Jb;rw[Hp.AA]at hk;cases hk;exact setRow_heap w k C _ T' (0,0) hw
     .rw[Hp.AN Jb]at hk;rw[setRow_other _ _ _ _ Jb];exact hs k u hk
    .have Jb:k≠b:=λh=>by have:=(hF k hk).2;rw[h,hblk]at this;cases this
     exact⟨by rw[Hp.AN Jb];exact(hF k hk).2,setRow_other _ _ _ _ Jb⟩
 ·
  have APv:Builtin.nextslicecap (n+m) c*i.bytes<=281474976710656:=growslice_fits (by omega) hb;have hgc:=grownCap_ge w (n+m) c E;have Uq:Sat Z w.drew:=hs;have BP:(Builtin.append_ #[T,U] ty #[.slice p n c,.string str]).run P w =
    .ok (.slice (some ⟨w.heap.size,0,none⟩) (n+m) (grownCap w (n+m) c E))
     (w.drew.alloc (.cells (cs.toArray++ys.toArray++Builtin.zeroCells z.cells (grownCap w (n+m) c E-(n+m))) E)):=by
   have AKo:¬(9223372036854775807<((n:Int)+(m:Int))):=by omega
   have AKp:¬(281474976710656<Builtin.nextslicecap (n+m) c*i.bytes):=by omega
   simp[Builtin.append_,run_underlying ht,run_underlying hU,Hv,hm,Go.sizeOf,typeInfo,zeroValue,hi,hz,Builtin.lenOf,Kd,AKo,AKp,Question.forced,yI,Mk _ Uq,newRow,grownCap]
   congr 2
   apply AqS
   simp[AnO]
  refine⟨_,_,Z.set w.heap.size _,BP,hΦ _ _ _ ⟨G,by omega,.inr ⟨w.heap.size,0,_,E,rfl,Hp.AA _ _ _,hgc,?_,?_⟩⟩ ?_ (.inr ⟨by omega,Ext.set (Iw hs),λa ha=>by cases ha;exact Iw hs⟩),Fin.alloc hs hF _ rfl ⟨rfl,rfl,λ_=>⟨1,rfl⟩⟩ rfl⟩
  .simp only[Array.size_append,List.size_toArray,size_zeroCells,hzs,Cp.1,hyl,<-Ant];have:n+m+(grownCap w (n+m) c E-(n+m))=grownCap w (n+m) c E:=by omega
   rw[this];omega
  .simp only[Array.toList_append,Ao7];rw[<-G];exact Ap0
  .rw[Hp.Mu (Iw hs)];exact Ext.Mr Z p
end append
end Tw
end
section
namespace Tw
open Go
variable [HL]
def Hp.or (N M:Hp):Hp:=λk=>match N k with | some o=>some o | none=>M k
def Hp.minus (Z N:Hp):Hp:=λk=>match N k with | some _=>none | none=>Z k
def Dis (N M:Hp):Prop:=∀k,M k≠none->N k=none
theorem Hp.mA {N M:Hp}{k:Nat}{o:Obj}(h:N k=some o):N.or M k=some o:=by simp[Hp.or,h]
theorem Hp.bK {N M:Hp}{k:Nat}(h:N k=none):N.or M k=M k:=by simp[Hp.or,h]
theorem Ext.mA (N M:Hp):Ext N (N.or M):=λ_ _ h=>Hp.mA h
theorem Ext.bK {N M:Hp}(A:Dis N M):Ext M (N.or M):=λk o h=>by rw[Hp.bK (A k (by rw[h];simp))];exact h
theorem Ext.uA {N M Z:Hp}(A:Ext N Z)(C:Ext M Z):Ext (N.or M) Z:=λk o h=>by
 unfold Hp.or at h;split at h
 .rename_i u G;cases h;exact A _ _ G
 .exact C _ _ h
theorem Hp.NM {Z N:Hp}{k:Nat}{o:Obj}:Z.minus N k=some o↔N k=none/\Z k=some o:=by
 unfold Hp.minus;cases N k<;>simp
theorem Ext.AB8 (Z N:Hp):Ext (Z.minus N) Z:=λ_ _ h=>(Hp.NM.1 h).2
theorem Dis.minus (Z N:Hp):Dis N (Z.minus N):=λk h=>by
 cases A:Z.minus N k with
 | none=>exact absurd A h
 | some o=>exact(Hp.NM.1 A).1
theorem Spec.ANH {P:Program}{f:FuncId}{args:Array Value}{N M Z:Hp}{R:Rr}(hN:Ext N Z)(hM:Ext M Z)(hd:Dis N M)
  (h:Spec P f args N (λe G=>Dis G M->R e (G.or M))):Spec P f args Z R:=λw F hs hF=>by
 have hMs:∀k,M k≠none->∃o,M k=some o/\w.heap[k]?=some o:=λk A=>by
  cases hh:M k with
  | none=>exact absurd hh A
  | some o=>exact⟨o,rfl,hs _ _ (hM _ _ hh)⟩
 refine(h w (λk=>F k\/M k≠none) (λk o A=>hs _ _ (hN _ _ A)) λk A=>?_).mono ?_
 .rcases A with A|A
  .exact⟨(hF k A).1,A0 hN (hF k A).2⟩
  .obtain⟨o,_,ho⟩:=hMs k A;exact⟨(Am9.1 ho).1,hd k A⟩
 .rintro e w' ⟨G,hr,C⟩
  have hd':Dis G M:=λk A=>(C.EZ k (.inr A)).1;refine⟨G.or M,hr hd',λk o A=>?_,λk A=>⟨?_,(C.EZ k (.inl A)).2⟩,C.os,C.out,C.grow⟩
  .unfold Hp.or at A;split at A
   .rename_i u hu;cases A;exact C.sat _ _ hu
   .have Ai:M k≠none:=by rw[A];simp
    obtain⟨o',h1,h2⟩:=hMs k Ai;rw[A]at h1;cases h1;rw[(C.EZ k (.inr Ai)).2];exact h2
  .rw[Hp.bK (C.EZ k (.inl A)).1];exact A0 hM (hF k A).2
end Tw
end
section
namespace TwW
open Go Tw Go.Proofs.Tryz
theorem Ak {Z:Hp}{b o:Nat}{c:Array Value}{t:TypeId}{fr:Nat×Nat}{v:Value}(h:Z b=some (.cells c t fr))(A:c[o]?=some v):Z.ld ⟨b,o,none⟩=some v:=by simp[Hp.ld,h,A]
section
variable {Z:Hp}{d:Nat}{S:List Nat}{R:Rr}
end
end TwW
namespace TwW
open Go Tw Go.Proofs.Tryz
section
variable {Z:Hp}{d:Nat}{S:List Nat}{R:Rr}
theorem Aw.cap {s:Nat}{Z:Hp}{p:Option Addr}{n c:Nat}{cs:List Value}(h:Aw s Z p n c cs):n<=c:=by
 rcases h.2.2 with ⟨_,G,h2⟩|⟨b,o,A,T,_,_,C,_⟩
 .omega
 .exact C
end
end TwW
namespace TwW
open Go Tw Go.Proofs.Tryz
def uv (x:Nat):List Int:=if h:128<=x then((x%128+128:Nat):Int)::uv (x/128) else[(x:Int)]
termination_by x
decreasing_by omega
theorem Si {x:Nat}(h:128<=x):uv x=((x%128+128:Nat):Int)::uv (x/128):=by rw[uv,dif_pos h]
theorem Hh {x:Nat}(h:¬128<=x):uv x=[(x:Int)]:=by rw[uv,dif_neg h]
theorem AB9:∀(k x:Nat),x<128^(k+1)->(uv x).length<=k+1
 | 0,x,h=>by rw[Hh (by simpa using h)];simp
 | k+1,x,h=>by
  by_cases A:128<=x
  .rw[Si A];have:=AB9 k (x/128) (by rw[Apj (by decide)];rw[Aps]at h;exact h);simp;omega
  .rw[Hh A];simp
theorem QM {x:Nat}(h:x<18446744073709551616):(uv x).length<=10:=AB9 9 x (by omega)
set_option maxRecDepth 100000 in
theorem AWW:∀y:Fin 256,Go.bits .or .u8 (y.1:Int) 128=((y.1%128+128:Nat):Int):=by decide
theorem Tt {R:Rr}{Z:Hp}{p:Option Addr}{n c x:Nat}{xs:List Int}(hr:Eh .u8 Z p n xs)(hn:n<=70368744177664)(hx:x<18446744073709551616)
  (h:∀C A c' Z',Eb .u8 (Z.new Z') C A c' (xs++uv x)->Ext Z Z'->R (.returned (.slice C A c')) Z'):Spec prog 89 #[.slice p n c,.U x] Z R:=by
 refine Gd.start λb hb=>?_;refine Ea Aw.empty ((HP.of_map hr).mono (.set hb)) HH.XG (by omega) λC c' Z' Cp JO=>?_;have hq:∀a:Addr,(some (⟨b,0,none⟩:Addr))=some a->Z a.block=none:=λa ha=>by cases ha;exact hb
 have ho:=Aw.Ur Cp (IA hq JO (.set hb));have he:=Mv hq JO (.set hb);refine⟨C,0+n,c',rfl,?_⟩;rw[Anq]at ho ⊢;have hlen:=hr.1
 suffices H:∀(k x A:Nat) C c' Z' ys,x<128^(k+1)->A+k<=n+9->Eb .u8 (Z.new Z') C A c' ys->Ext Z Z'->(∀C A c' Z',Eb .u8 (Z.new Z') C A c' (ys++uv x)->Ext Z Z'->R (.returned (.slice C A c')) Z')->Gd.E5 R x C A c' Z' from
  H 9 x n C c' Z' xs (by omega) (by omega) ho he h
 intro k
 induction k with
 | zero=>
  intro x A C c' Z' ys hx hn' ho he h;refine Gd.Ag ⟨λAv=>by omega,λ_ WE G b2 fD=>?_⟩;have qi:WE=(x:Int):=by rw[G];simp[IntKind.wrap,IntKind.bits,IntKind.signed];omega
  subst qi;refine Eb.HI he ho (by omega) (λp2 c2 Z2 A7 Ug _=>⟨p2,A+1,c2,rfl,h _ _ _ _ ?_ Ug⟩) fD;rw[Hh (by omega)];exact A7
 | succ k ih=>
  intro x A C c' Z' ys hx hn' ho he h;refine Gd.Ag ⟨λAv x15 Ab8 x16 Ab9 b2 fD=>?_,λbH WE G b2 fD=>?_⟩
  .have h15:x15=((x%256:Nat):Int):=by rw[Ab8];simp[IntKind.wrap,IntKind.bits,IntKind.signed]
   have h16:x16=((x%128+128:Nat):Int):=by
    rw[Ab9,h15,AWW ⟨x%256,Aok _ (by decide)⟩];have:x%256%128=x%128:=by omega
    rw[this]
   subst h16;refine Eb.HI he ho (by omega) (λp2 c2 Z2 A7 Ug _=>⟨p2,A+1,c2,rfl,by simp[IntKind.bits],λx12 AcA=>?_⟩) fD;have KR:x12=((x/128:Nat):Int):=by rw[AcA];simp
   subst KR;refine ih (x/128) (A+1) p2 c2 Z2 _ (by rw[Apj (by decide)];rw[Aps]at hx;exact hx) (by omega) A7 Ug λp3 n3 c3 Z3 Cm he3=>h p3 n3 c3 Z3 ?_ he3;rw[Si (by omega)];simpa using Cm
  .have qi:WE=(x:Int):=by rw[G];simp[IntKind.wrap,IntKind.bits,IntKind.signed];omega
   subst qi;refine Eb.HI he ho (by omega) (λp2 c2 Z2 A7 Ug _=>⟨p2,A+1,c2,rfl,h _ _ _ _ ?_ Ug⟩) fD;rw[Hh (by omega)];exact A7
theorem qj:∀(v w:Nat) (r s:List Int),uv v++r=uv w++s->v=w/\r=s:=by
 intro v
 induction v using Nat.strongRecOn with
 | _ v G=>
 intro w r s h;by_cases A:128<=v<;>by_cases C:128<=w
 .rw[Si A,Si C]at h;simp only[AnQ,AoL]at h;have:=G (v/128) (by omega) (w/128) r s h.2;exact⟨by omega,this.2⟩
 .rw[Si A,Hh C]at h;simp only[AnQ,AoL]at h;omega
 .rw[Hh A,Si C]at h;simp only[AnQ,AoL]at h;omega
 .rw[Hh A,Hh C]at h;simp only[AnQ,Anm,AoL]at h;exact⟨by omega,h.2⟩
end TwW
namespace TwW
open Go Tw Go.RowKit Go.Proofs.Tryz
theorem HP.at1 {Z:Hp}{p:Option Addr}{n k:Nat}{L:List Value}{v:Value}(h:HP 1 Z p n L)(C:L[k]?=some v):∃b o,p=some ⟨b,o,none⟩/\Z.ld ⟨b,o+k*1,none⟩=some v:=by
 obtain⟨G,_,A⟩:=h;have Av:=(Amd.1 C).1;rcases A with A|⟨b,o,hp,hl⟩
 .simp at G;omega
 .refine⟨b,o,hp,?_⟩;rw[An5];exact hl.get C
section
variable {Z O:Hp}{d:Nat}{R:Rr}
end
section
variable {dir:ByteArray}{cnt:Nat}
end
end TwW
namespace TwW
open Go Tw Go.RowKit Go.Proofs.Tryz
def oW (s:ByteArray):List Int:=s.data.toList.map λb=>(b.toNat:Int)
theorem RB {s:ByteArray}:(oW s).length=s.size:=by simp[oW]
theorem ACA {s:ByteArray}:bI s=(oW s).map (.int .u8):=by simp[bI,oW]
theorem bL (l:List UInt8):strOfNums (l.map λb=>(b.toNat:Int))=⟨l.toArray⟩:=by
 apply Ape
 apply AnB.1
 rw[strOfNums_data,Apt]
 conv=>rhs;rw[<-List.map_id l]
 exact List.map_congr_left λa _=>by simp
theorem fZ {s:ByteArray}:strOfNums (oW s)=s:=by
 rw[oW,bL]
theorem uB {s t:ByteArray}(h:oW s=oW t):s=t:=by rw[<-fZ (s:=s),h,fZ]
section
variable {Z:Hp}{R:Rr}
theorem Tu {p:Option Addr}{n c:Nat}{xs:List Int}{s:ByteArray}(hr:Eh .u8 Z p n xs)(hn:n<=1048576)(hs:s.size<=1048576)
  (h:∀C A c' Z',Eb .u8 (Z.new Z') C A c' (xs++uv s.size++oW s)->Ext Z Z'->R (.returned (.slice C A c')) Z'):Spec prog 90 #[.slice p n c,.string s] Z R:=by
 refine R6.start λx8 h8=>?_;have e8:x8=(s.size:Int):=by rw[h8];simp[IntKind.wrap,IntKind.bits,IntKind.signed];omega
 subst e8;refine Tt hr (by omega) (by omega) λC A c' Z1 G Bc=>⟨C,A,c',rfl,?_⟩;have hq:∀a,C=some a->Z a.block=none:=λa ha=>by
  have h2:=Aw.block G a ha;cases hh:(Z.new Z1) a.block with
  | none=>exact absurd hh h2
  | some o=>exact(AW.1 hh).1
 have hl:(xs++uv s.size).length=A:=by have:=G.1;simpa using this
 have W0:=QM (x:=s.size) (by omega);have yU:xs.length=n:=hr.1;rw[Amv]at hl;refine AF9 underlying9 (Aw.mono (Ext.Cf _ _) G) rfl ACA (by omega) λp2 c2 Z2 A7 Ao _=>⟨p2,_,c2,rfl,?_⟩;have fD:=IA hq Ao Bc;refine h p2 _ c2 Z2 ?_ (Mv hq Ao Bc);have:=Aw.Ur A7 fD;simpa[Eb] using this
theorem WQ {p:Option Addr}{n c:Nat}{xs:List Int}(h:Eb .u8 Z p n c xs):xs.length=n:=by have:=h.1;simpa using this
theorem fc {s:ByteArray}:(ByteArray.toList s==ByteArray.toList (ByteArray.mk #[]))=decide (s.size=0):=by
 rw[ByteArray.toList_eq,ByteArray.toList_eq];by_cases h:s.size=0
 .have:s=⟨#[]⟩:=Ape (Aow h);subst this;rfl
 .rw[Ams h];simp only[AoN];intro e;apply h
  have:=Amz List.length e;simpa using this
end
end TwW
namespace TwW
open Go Tw Go.RowKit Go.Proofs.Tryz
abbrev Lb:=ByteArray×ByteArray
def A9 (_:Hp)(vs:List Value)(x:Lb):Prop:=vs=[.string x.1,.string x.2]
theorem A9.mono:Iu A9:=λ_ _ _ _ _ h=>h
abbrev Db:=AT 2 A9
section
variable {Z:Hp}{R:Rr}
theorem Db.at {p:Option Addr}{n i:Nat}{ls:List Lb}{x:Lb}(C:Db Z p n ls)(G:ls[i]?=some x):∃b o,p=some ⟨b,o,none⟩/\Af Z b (o+i*2) [.string x.1,.string x.2]:=by
 obtain⟨b,o,vs,hp,rfl,A⟩:=AT.idx C G;exact⟨b,o,hp,A⟩
theorem ql {s t:ByteArray}:(s.toList==t.toList)=decide (s=t):=by
 rw[ByteArray.toList_eq,ByteArray.toList_eq];by_cases h:s=t
 .subst h;simp
 .rw[Ams h,AoN];exact λe=>h (Ape (AnB.1 e))
theorem BF {α:Type}{xs:List α}{k:Nat}{y:α}(A:xs[k]?=some y):xs.drop k=y::xs.drop (k+1):=by
 obtain⟨h,rfl⟩:=Amd.1 A;exact ApL h
def D3:List Lb->ByteArray->ByteArray
 | [],_=>⟨#[]⟩
 | x::l,k=>if x.1=k then x.2 else D3 l k
theorem da {p:Option Addr}{n c:Nat}{ls:List Lb}{k:ByteArray}(G:Db Z p n ls)(h:R (.returned (.string (D3 ls k))) Z):Spec prog 196 #[.slice p n c,.string k] Z R:=by
 refine MH.start ?_
 suffices H:∀d i:Nat,n-i=d->i<=n->D3 ls k=D3 (ls.drop i) k->MH.Sc R k p n c n i Z from H n 0 rfl (Amh _) rfl
 intro d
 induction d with
 | zero=>
  intro i hd hi A;refine MH.FY ⟨λAv=>by omega,λ_=>?_⟩;rw[AoO (by rw[G.1];omega)]at A;rw[A]at h;exact h
 | succ d ih=>
  intro i hd hi A;refine MH.FY ⟨λ_=>?_,λhh=>by omega⟩;have BT:i<n:=by omega
  obtain⟨x,hx⟩:=G.ex BT;obtain⟨b,o,rfl,hl⟩:=Db.at G hx;rw[BF hx,D3]at A;refine⟨b,o,rfl,by omega,x.1,x.2,by simpa using hl,λ_=>⟨λC=>?_,λC=>⟨AI BT G.big,ih (i+1) (by omega) (by omega) ?_⟩⟩⟩
  .rw[ql,Amq]at C;rw[Amc C]at A;rw[A]at h;exact h
  .rw[ql,Am2]at C;rwa[Amb C]at A
theorem uC {s:ByteArray}{ok:UInt8->Bool}{pt:Int->Prop}{G:Bool->Prop}
  (yz:G true->pt s.size) (E7:∀(k:Nat) (u:UInt8),k<s.size->s.data[Int.toNat (k:Int)]?=some u->AF ((k:Int)+1)->(ok u=true->pt ((k:Int)+1))->(ok u=false->G false)->pt k)
  (h:G (s.data.toList.all ok)) (hb:s.size<=4611686018427387904):pt 0:=by
 have J2:s.data.toList.length=s.size:=rfl
 suffices H:∀d k:Nat,s.size-k=d->k<=s.size->(s.data.toList.take k).all ok=true->pt k from H s.size 0 rfl (Amh _) rfl
 intro d
 induction d with
 | zero=>
  intro k hd hk A;rw[Amj (by omega)]at A;rw[A]at h;have:k=s.size:=by omega
  rw[this];exact yz h
 | succ d ih=>
  intro k hd hk A;have DI:k<s.size:=by omega
  obtain⟨u,hu⟩:∃u,s.data.toList[k]?=some u:=⟨_,Amf (by omega)⟩;refine E7 k u DI (by simpa using hu) (by unfold AF;omega) (λC=>ih (k+1) (by omega) (by omega) (by rw[AQ hu,List.all_append,A];simpa using C)) λC=>?_;have:s.data.toList.all ok=false:=by
   rw[List.all_eq_false];exact⟨u,Ame hu,by simp[C]⟩
  rwa[this]at h
def dgt (u:UInt8):Bool:=decide (48<=u.toNat/\u.toNat<=57)
def nch (u:UInt8):Bool:=decide (u.toNat=95\/(48<=u.toNat/\u.toNat<=57)\/(65<=u.toNat/\u.toNat<=90)\/(97<=u.toNat/\u.toNat<=122))
def DR (s:ByteArray):Bool:=decide (0<s.size)&&decide (s.size<=64)&&!(s.data.toList.head?.any dgt)&&s.data.toList.all nch
theorem QN {s:ByteArray}(h:R (.returned (.bool (DR s))) Z):Spec prog 118 #[.string s] Z R:=by
 have J2:s.data.toList.length=s.size:=rfl;refine IJ.start ⟨λh0=>?_,λh0=>⟨λh1=>?_,λh1=>?_⟩⟩
 .rw[fc,Amq]at h0;simpa[DR,h0] using h
 .have:¬s.size<=64:=by omega
  simpa[DR,this] using h
 .rw[fc,Am2]at h0;obtain⟨u,hu⟩:∃u,s.data.toList[0]?=some u:=⟨_,Amf (by omega)⟩;have D4:s.data[Int.toNat (0:Int)]?=some u:=by simpa using hu
  have hh:s.data.toList.head?=some u:=by rw[<-hu];cases s.data.toList<;>rfl
  have C:dgt u=false->IJ.Au R s 0 Z:=λhd=>by
   have e:DR s=s.data.toList.all nch:=by simp[DR,show 0<s.size by omega,show s.size<=64 by omega,hh,hd]
   rw[e]at h;refine uC (s:=s) (pt:=λk=>IJ.Au R s k Z) (ok:=nch) (G:=λt=>R (.B t) Z) (λg=>IJ.Aq ⟨λAv=>by omega,λ_=>g⟩) (λk u hk hu hi A bad=>?_) h (by omega);simp only[nch,Amq,Am2]at A bad;refine IJ.Aq ⟨λAv=>⟨u,by omega,hu,?_⟩,λbH=>by omega⟩;clear h;generalize u.toNat=n at A bad
   repeat' (first|refine⟨λ_=>?_,λ_=>?_⟩|exact⟨hi,A (by omega)⟩|exact bad (by omega))
  simp only[dgt,Am2]at C;refine⟨u,by omega,D4,λh2=>⟨u,by omega,D4,λh3=>?_,λh3=>C (by omega)⟩,λh2=>C (by omega)⟩;have:dgt u=true:=by simp[dgt];omega
  simpa[DR,hh,this] using h
def vl:Nat->Nat->Nat->List UInt8->Bool
 | 0,_,_,[]=>true
 | _+1,_,_,[]=>false
 | 0,_,_,c::r=>
  if c.toNat<128 then vl 0 128 191 r
  else if 194<=c.toNat/\c.toNat<=223 then vl 1 128 191 r
  else if 224<=c.toNat/\c.toNat<=239 then(if c.toNat=224 then vl 2 160 191 r else if c.toNat=237 then vl 2 128 159 r else vl 2 128 191 r)
  else if 240<=c.toNat/\c.toNat<=244 then(if c.toNat=240 then vl 3 144 191 r else if c.toNat=244 then vl 3 128 143 r else vl 3 128 191 r)
  else false
 | m+1,lo,hi,c::r=>if c.toNat<lo\/hi<c.toNat then false else vl m 128 191 r
def MN (s:ByteArray):Bool:=vl 0 128 191 s.data.toList
theorem vl0 (l:List UInt8)(a b c d:Nat):vl 0 a b l=vl 0 c d l:=by cases l<;>rfl
attribute [local irreducible] BE.AR BE.KX BE.AAM in
theorem W1 {s:ByteArray}(hb:s.size<=4611686018427387904)(h:R (.returned (.bool (MN s))) Z):Spec prog 119 #[.string s] Z R:=by
 have J2:s.data.toList.length=s.size:=rfl;refine BE.start ?_
 suffices H:∀d:Nat,(∀k:Nat,s.size-k=d->k<=s.size->MN s=vl 0 128 191 (s.data.toList.drop k)->BE.AR R s k Z)/\
   (∀(k m lo hi:Nat),s.size-k=d->k<=s.size->MN s=vl m lo hi (s.data.toList.drop k)->m<=3->BE.AAM R s k m lo hi Z) from(H s.size).1 0 (by omega) (by omega) rfl
 intro d
 induction d with
 | zero=>
  have A:∀k:Nat,s.size-k=0->k<=s.size->MN s=vl 0 128 191 (s.data.toList.drop k)->BE.AR R s k Z:=λk hd hk C=>by
   refine BE.AM ⟨λ_=>?_,λAi=>by omega⟩;rw[AoO (by omega)]at C;rw[C]at h;exact h
  refine⟨A,λk m lo hi hd hk C hm=>BE.ta ⟨λh0=>A k hd hk ?_,λh0=>⟨λ_=>?_,λAi=>by omega⟩⟩⟩
  .have:m=0:=by omega
   subst this;rw[C];exact vl0 _ _ _ _ _
  .obtain⟨G,rfl⟩:∃G,m=G+1:=⟨m-1,by omega⟩;rw[AoO (by omega)]at C;rw[C]at h;exact h
 | succ d ih=>
  have A:∀k:Nat,s.size-k=d+1->k<=s.size->MN s=vl 0 128 191 (s.data.toList.drop k)->BE.AR R s k Z:=λk hd hk C=>by
   have DI:k<s.size:=by omega
   obtain⟨u,hu⟩:∃u,s.data.toList[k]?=some u:=⟨_,Amf (by omega)⟩;have D4:s.data[Int.toNat (k:Int)]?=some u:=by simpa using hu
   have hi:AF ((k:Int)+1):=by unfold AF;omega
   rw[BF hu,vl]at C;have st:∀(m lo hi:Nat),m<=3->MN s=vl m lo hi (s.data.toList.drop (k+1))->BE.KX R s k m lo hi Z:=λm lo hh hm C=>BE.AFp ⟨hi,ih.2 (k+1) m lo hh (by omega) (by omega) C hm⟩;have nx:MN s=vl 0 128 191 (s.data.toList.drop (k+1))->BE.AR R s ((k:Int)+1) Z:=λC=>ih.1 (k+1) (by omega) (by omega) C;have no:MN s=false->R (.B false) Z:=λe=>by rw[e]at h;exact h
   refine BE.AM ⟨λAi=>by omega,λ_=>⟨u,by omega,D4,?_⟩⟩;generalize s.data.toList.drop (k+1)=r at C st nx;clear ih h hu D4;generalize u.toNat=n at C;have st1:=st 1 128 191 (by omega);have st2:=st 2 160 191 (by omega);have st3:=st 2 128 159 (by omega);have st4:=st 2 128 191 (by omega);have st5:=st 3 144 191 (by omega);have st6:=st 3 128 143 (by omega);have st7:=st 3 128 191 (by omega)
   repeat' (first|refine⟨λ_=>?_,λ_=>?_⟩|refine⟨hi,nx ?_⟩|refine st1 ?_|refine st2 ?_|refine st3 ?_|refine st4 ?_|refine st5 ?_|refine st6 ?_|refine st7 ?_|refine no ?_)
   all_goals first|(exfalso;clear C;omega)|(rw[C];repeat' (first|rfl|rw[Amc (by omega)] | rw[Amb (by omega)]))
  refine⟨A,λk m lo hi hd hk C hm=>BE.ta ⟨λh0=>A k hd hk ?_,λh0=>⟨λAi=>by omega,λ_=>?_⟩⟩⟩
  .have:m=0:=by omega
   subst this;rw[C];exact vl0 _ _ _ _ _
  .obtain⟨G,rfl⟩:∃G,m=G+1:=⟨m-1,by omega⟩;have DI:k<s.size:=by omega
   obtain⟨u,hu⟩:∃u,s.data.toList[k]?=some u:=⟨_,Amf (by omega)⟩;have D4:s.data[Int.toNat (k:Int)]?=some u:=by simpa using hu
   rw[BF hu,vl]at C;refine⟨u,by omega,D4,λh1=>?_,λh1=>⟨u,by omega,D4,λh2=>?_,λh2=>⟨by unfold AF;omega,by unfold AF;omega,?_⟩⟩⟩
   .rw[Amc (by omega)]at C;rw[C]at h;exact h
   .rw[Amc (by omega)]at C;rw[C]at h;exact h
   .rw[Amb (by omega)]at C;have:=ih.2 (k+1) G 128 191 (by omega) (by omega) C (by omega);have e1:((G+1:Nat):Int)-1=(G:Nat):=by omega
    rw[e1];exact this
end
end TwW
namespace TwW
open Go Tw Go.RowKit Go.Proofs.Tryz
section
variable {Z:Hp}{R:Rr}
def sle (a b:ByteArray):Bool:=Op.bytesLess a.toList b.toList||a.toList==b.toList
theorem qm {x y:Operand}{a b:ByteArray}{T:TypeId}:YF prog (do eqGuard .leq T x y (.string a) (.string b);binOp .leq T (.string a) (.string b)) Z (.bool (sle a b)):=λw _=>by
 simp[eqGuard,binOp,Op.stringOp,sle]
def Fc:Option ByteArray->List Lb->Int
 | _,[]=>0
 | A,x::l=>if DR x.1=false then 31 else if x.2.size=0\/256<x.2.size\/MN x.2=false then 32 else if A.any (sle x.1 ·)=true then 33 else Fc (some x.1) l
def FD (ls:List Lb):Int:=if 16<ls.length then 30 else Fc none ls
theorem W2 {p:Option Addr}{n c:Nat}{ls:List Lb}(C:Db Z p n ls)(h:R (.returned (.I (FD ls))) Z):Spec prog 74 #[.slice p n c] Z R:=by
 have hn:ls.length=n:=C.1;refine Gz.start ⟨λG=>?_,λG=>?_⟩
 .rw[FD,Amc (by omega)]at h;exact h
 rw[FD,Amb (by omega)]at h
 let pv:Nat->Option ByteArray:=λi=>if i=0 then none else(ls[i-1]?).map (·.1)
 suffices H:∀d i:Nat,n-i=d->i<=n->Fc none ls=Fc (pv i) (ls.drop i)->Gz.PF R p n c p n c n i Z from H n 0 rfl (Amh _) rfl
 intro d
 induction d with
 | zero=>
  intro i hd hi A;refine Gz.Kg ⟨λAv=>by omega,λ_=>?_⟩;rw[AoO (by omega)]at A;rw[A]at h;exact h
 | succ d ih=>
  intro i hd hi A;have BT:i<n:=by omega
  obtain⟨x,hx⟩:=C.ex BT;obtain⟨b,o,rfl,hl⟩:=Db.at C hx;rw[BF hx,Fc]at A;have out:∀e:Int,Fc none ls=e->R (.returned (.I e)) Z:=λe G=>G▸h;refine Gz.Kg ⟨λ_=>?_,λhh=>by omega⟩;refine⟨b,o,rfl,by omega,x.1,x.2,by simpa using hl,λ_=>QN ⟨_,rfl,λG=>out _ ?_,λG=>?_⟩⟩
  .rw[A,Amc G]
  rw[Amb (by simp[G])]at A;rw[fc];refine⟨λh2=>out _ ?_,λh2=>⟨λh3=>out _ ?_,λh3=>W1 (by omega) ⟨_,rfl,λh4=>out _ ?_,λh4=>?_⟩⟩⟩
  .rw[A,Amc (.inl (by simpa using h2))]
  .rw[A,Amc (.inr (.inl (by omega)))]
  .rw[A,Amc (.inr (.inr h4))]
  rw[Amb (by rw[Am2]at h2;simp[h2,h4];omega)]at A;have nx:pv (i+1)=some x.1:=by simp[pv,hx]
  have go:(pv i).any (sle x.1 ·)=false->Gz.PF R (aD b o) n c (aD b o) n c n ((i:Int)+1) Z:=λh5=>by
   rw[Amb (by simp[h5]),<-nx]at A;exact ih (i+1) (by omega) (by omega) A
  refine⟨λh5=>?_,λh5=>⟨AI BT C.big,go ?_⟩⟩
  .obtain⟨y,hy⟩:=C.ex (k:=i-1) (by omega);obtain⟨b',o',hp,Vz⟩:=Db.at C hy;cases hp;have e1:((i:Int)-1).toNat=i-1:=by omega
   have hpv:pv i=some y.1:=by simp[pv,hy,show i≠0 by omega]
   refine⟨by have:=C.big;unfold AF;omega,b,o,rfl,by omega,y.1,by rw[e1];exact Vz.1,_,qm,λh6=>out _ ?_,λh6=>⟨AI BT C.big,go ?_⟩⟩
   .rw[A,Amc (by rw[hpv];exact h6)]
   .rw[hpv];exact h6
  .have:i=0:=by omega
   simp[pv,this]
theorem ff:∀{ls:List Lb} {pv:Option ByteArray},Fc pv ls=0->∀x∈ls,DR x.1=true/\0<x.2.size/\x.2.size<=256/\MN x.2=true
 | [],_,_,_,A=>by cases A
 | y::l,pv,h,x,A=>by
  rw[Fc]at h;split at h
  .cases h
  split at h
  .cases h
  split at h
  .cases h
  rename_i C G h3;rcases Aml.1 A with rfl|A
  .simp only[Ap1,Bool.not_eq_false]at C G;exact⟨C,by omega,by omega,G.2.2⟩
  .exact ff h x A
def Ac (ls:List Lb):Prop:=ls.length<=16/\∀x∈ls,x.1.size<=256/\x.2.size<=256
theorem Ac.of {ls:List Lb}(h:FD ls=0):Ac ls:=by
 unfold FD at h;split at h
 .cases h
 .refine⟨by omega,λx G=>?_⟩;obtain⟨A,_,C,_⟩:=ff h x G;simp[DR]at A;exact⟨by omega,C⟩
theorem A9.one (Z:Hp)(vs:List Value)(x:Lb)(h:A9 Z vs x):HH vs:=by
 rw[h];intro u A;simp only[Aml,AnF,Anp]at A;rcases A with rfl|rfl<;>rfl
theorem EF {Z1:Hp}{q:Option Addr}{j c b:Nat}{ls:List Lb}{ty:TypeId}{Φ:Value->Hp->Prop}(ht:Db Z1 q j ls)(hb:j<=1000000000)
  (hΦ:∀C c' Z',Hr 2 A9 (Z1.new Z') C j c' ls->Ext Z1 Z'->Φ (.slice C j c') Z') (A:Z1 b=none) :
  AJ prog (Builtin.append_ #[47,47] ty #[.slice (some ⟨b,0,none⟩) 0 0,.slice q j c]) (Z1.set b (.cells #[] 71 (0,0))) Φ:=by
 obtain⟨h1,cs,h2,h3⟩:=ht;refine Ea Aw.empty (h2.mono (.set A)) (Ch.Us A9.one h3 (by decide)) (by omega) λC c' Z' G JO=>?_;have hq:∀a:Addr,(some (⟨b,0,none⟩:Addr))=some a->Z1 a.block=none:=λa ha=>by cases ha;exact A
 rw[Anq]at G ⊢;rw[Anm]at G;exact hΦ C c' Z' ⟨h1,cs,Aw.Ur G (IA hq JO (.set A)),h3⟩ (Mv hq JO (.set A))
def SA (x:Lb):List Int:=uv x.1.size++oW x.1++(uv x.2.size++oW x.2)
def wm (ls:List Lb):List Int:=uv ls.length++ls.flatMap SA
theorem wo {x:Lb}(h:x.1.size<=256/\x.2.size<=256):(SA x).length<=532:=by
 have A:=QM (x:=x.1.size) (by omega);have C:=QM (x:=x.2.size) (by omega);simp only[SA,Amv,RB];omega
theorem ACB {ls:List Lb}(h:∀x∈ls,x.1.size<=256/\x.2.size<=256):(ls.flatMap SA).length<=ls.length*532:=by
 induction ls with
 | nil=>simp
 | cons x l C=>
  have:=C λy A=>h y (Amk _ A);have:=wo (h x (by simp));rw[AoI,Amv,AnN];omega
theorem ib {p:Option Addr}{n c:Nat}{ls:List Lb}(hr:Db Z p n ls)(hs:Ac ls)(h:∀p' n' c' Z',Eb .u8 (Z.new Z') p' n' c' (wm ls)->Ext Z Z'->R (.returned (.slice p' n' c')) Z'):Spec prog 56 #[.slice p n c] Z R:=by
 have hn:ls.length=n:=hr.1;have h16:=hs.1;refine Ha.start λx8 h8=>?_;have e8:x8=(n:Int):=by rw[h8];simp[IntKind.wrap,IntKind.bits,IntKind.signed];omega
 subst e8;refine Tt AT.nil (by omega) (by omega) λp1 n1 c1 Z1 Qy Bc=>⟨p1,n1,c1,rfl,?_⟩;rw[Anm]at Qy
 suffices H:∀d k:Nat,∀p3 n3 c3 C,n-k=d->k<=n->Eb .u8 (Z.new C) p3 n3 c3 (uv n++(ls.take k).flatMap SA)->Ext Z C->Ha.B9 R p3 n3 c3 p n c n k C from H n 0 p1 n1 c1 Z1 rfl (Amh _) (by simpa using Qy) Bc
 intro d
 induction d with
 | zero=>
  intro k p3 n3 c3 C hd hk G A;refine Ha.As ⟨λAv=>by omega,λ_=>h p3 n3 c3 C ?_ A⟩;rw[Amj (by omega)]at G;rw[wm,hn];exact G
 | succ d ih=>
  intro k p3 n3 c3 C hd hk G A;have DI:k<n:=by omega
  obtain⟨y,hy⟩:=hr.ex DI;obtain⟨b,o,rfl,hl⟩:=Db.at hr hy;have dC:=hs.2 y (Ame hy);have hl3:=WQ G;have W0:=QM (x:=n) (by omega);have hfl:=ACB (ls:=ls.take k) λx A=>hs.2 x (An7 A);rw[Amv]at hl3;rw[Amp]at hfl;have h3b:n3<=9000:=by omega
  refine Ha.As ⟨λ_=>⟨b,o,rfl,by omega,y.1,y.2,by simpa using hl.mono A,λ_=>?_⟩,λhh=>by omega⟩;refine Tu (Eb.rd (Aw.mono (Ext.Cf _ _) G)) (by omega) (by omega) λp4 n4 c4 Z4 FE MP=>⟨p4,n4,c4,rfl,?_⟩;have hl4:=WQ FE;have hu1:=QM (x:=y.1.size) (by omega);simp only[Amv,RB]at hl4;refine Tu (Eb.rd (Aw.mono (Ext.Cf _ _) FE)) (by omega) (by omega) λp5 n5 c5 Z5 Lj qn=>⟨p5,n5,c5,rfl,AI DI hr.big,?_⟩;refine ih (k+1) p5 n5 c5 Z5 (by omega) (by omega) ?_ (A.trans (MP.trans qn));have:=Aw.mono (Ext.Dc (A.trans MP)) Lj;rw[AQ hy,List.flatMap_append];simpa[SA,Eb] using this
end
end TwW
namespace TwW
open Go Tw Go.RowKit Go.Proofs.Tryz
section
variable {Z Z' O:Hp}{R:Rr}
def Hw (x:ByteArray)(xs:List ByteArray):Bool:=xs.any λy=>decide (x=y)
theorem bM {x:ByteArray}{xs:List ByteArray}:Hw x xs=true↔x∈xs:=by simp[Hw]
theorem QO {p:Option Addr}{n c:Nat}{x:ByteArray}{xs:List ByteArray}(G:HP 1 Z p n (xs.map .string))(h:R (.returned (.bool (Hw x xs))) Z):Spec prog 214 #[.slice p n c,.string x] Z R:=by
 have hn:xs.length=n:=by have:=G.1;simpa using this
 have IP:n<=4611686018427387904:=G.2.1;have key:∀i:Int,(0<=i↔x∈xs)->BV R (CI .i64 λx7 y=>R (.returned (.bool (decide (0<=x7)))) y) (.returned (.I i)) Z:=λi hi=>⟨i,rfl,by
  dsimp only;rw[show decide (0<=i)=Hw x xs by rw[ApM,bM,Amq];exact hi];exact h⟩
 refine Hf.start (Cy.start ?_)
 suffices H:∀d k:Nat,n-k=d->k<=n->x ∉ xs.take k->Cy.Sc (BV R (CI .i64 λx7 y=>R (.returned (.bool (decide (0<=x7)))) y)) p n c x n k Z from H n 0 rfl (Amh _) (by simp)
 intro d
 induction d with
 | zero=>
  intro k hd hk A;refine Cy.FY ⟨λAv=>by omega,λ_=>key (-1) ?_⟩;rw[Amj (by omega)]at A;exact⟨λh=>absurd h (by decide),λh=>absurd h A⟩
 | succ d ih=>
  intro k hd hk A;have DI:k<n:=by omega
  obtain⟨y,hy⟩:∃y,xs[k]?=some y:=⟨_,Amf (by omega)⟩;obtain⟨b,o,rfl,hl⟩:=HP.at1 G (k:=k) (v:=.string y) (by rw[Am8,hy];rfl);refine Cy.FY ⟨λ_=>⟨b,o,rfl,by omega,y,by simpa using hl,λhe=>key k ⟨λ_=>?_,λ_=>by omega⟩,λAi=>⟨AI DI IP,ih (k+1) (by omega) (by omega) ?_⟩⟩,λbH=>by omega⟩
  .rw[ql,Amq]at he;rw[he];exact Ame hy
  .rw[ql,Am2]at Ai;rw[dH hy]
   rintro(C|C)
   .exact A C
   .exact Ai C
theorem WR {f:Nat}{cap:Array Value}{g:Lb->Bool}{p:Option Addr}{n c:Nat}{ls:List Lb}(Wg:Enters prog f)(hr:Db Z p n ls)(hn:n<=1000000)
  (hf:∀(Z':Hp) (x:Lb) (R':Rr),Ext Z Z'->R' (.returned (.bool (g x))) Z'->Spec prog f (#[]++#[.agg #[.string x.1,.string x.2]]++cap) Z' R')
  (h:∀p' n' c' Z',Hr 2 A9 (Z.new Z') p' n' c' (ls.filter g)->Ext Z Z'->R (.returned (.slice p' n' c')) Z'):Spec prog 212 #[.slice p n c,.func (.func f) #[] cap] Z R:=by
 have hl0:ls.length=n:=hr.1;refine Ed.start ?_
 suffices H:∀d k:Nat,∀p5 n5 c5 A,n-k=d->k<=n->Hr 2 A9 (Z.new A) p5 n5 c5 ((ls.take k).filter g)->Ext Z A->Ed.B9 R (.func (.func f) #[] cap) p5 n5 c5 p n c n k A from H n 0 none 0 0 Z rfl (Amh _) Hr.nil (.refl _)
 intro d
 induction d with
 | zero=>
  intro k p5 n5 c5 A hd hk C G;refine Ed.As ⟨λAv=>by omega,λ_=>h p5 n5 c5 A ?_ G⟩;rw[Amj (by omega)]at C;exact C
 | succ d ih=>
  intro k p5 n5 c5 A hd hk C G;have DI:k<n:=by omega
  obtain⟨x,WS⟩:=hr.ex DI;obtain⟨b,o,rfl,hl⟩:=Db.at hr WS;have hn5:n5<=n:=by
   have h1:=C.1;have h2:=AnI g (ls.take k);rw[Amp]at h2;omega
  have ht:(ls.take (k+1)).filter g=(ls.take k).filter g++if g x then[x] else[]:=by
   rw[AQ WS,AoG];by_cases hg:g x<;>simp[hg]
  refine Ed.As ⟨λ_=>⟨b,o,rfl,by omega,x.1,x.2,by simpa using hl.mono G,λ_=>⟨f,#[],cap,rfl,Wg,hf A x _ G ⟨_,rfl,λhg D8 AcB=>?_,λhg=>?_⟩⟩⟩,λhh=>by omega⟩
  .refine Hr.HI A9.mono (vs:=[.string x.1,.string x.2]) (x:=x) G C rfl (A9.one Z _ _ rfl) rfl (by omega) (λp' c' Z' Mk Ju=>⟨_,_,_,rfl,Ed.NI ⟨AI DI hr.big,ih (k+1) _ _ _ _ (by omega) (by omega) ?_ Ju⟩⟩) AcB;rw[ht,Amc hg];exact Mk
  .refine Ed.NI ⟨AI DI hr.big,ih (k+1) _ _ _ _ (by omega) (by omega) ?_ G⟩;rw[ht,Amb (by simp[hg]),AoD];exact C
theorem AWX:Enters prog 215:=λargs w=>call215 args w
theorem NN {p q:Option Addr}{n c m d:Nat}{ls:List Lb}{ns:List ByteArray}(hr:Db Z p n ls)(hn:n<=1000000)(hs:HP 1 Z q m (ns.map .string))
  (h:∀p' G c' Z',Hr 2 A9 (Z.new Z') p' G c' (ls.filter λx=>!Hw x.1 ns)->Ext Z Z'->R (.returned (.slice p' G c')) Z'):Spec prog 166 #[.slice p n c,.slice q m d] Z R:=by
 refine R8.start λb3 hb3=>?_;have A:Ext Z (Z.set b3 (.cells #[.slice q m d] 42 (0,0))):=.set hb3;refine WR (f:=215) (g:=λx=>!Hw x.1 ns) AWX (hr.mono A9.mono A) hn (λZ' x R' C RC=>?_) λp' G c' Z' ho C=>⟨_,_,_,rfl,h p' G c' Z' ?_ (A.trans C)⟩
 .refine Np.start λ_=>⟨q,m,d,Ak (C _ _ (Hp.AA _ _ _)) rfl,QO (hs.mono (A.trans C)) ⟨_,rfl,RC⟩⟩
 .exact ho.mono A9.mono (Ext.Dc A)
end
end TwW
namespace TwW
open Go Tw Go.RowKit Go.Proofs.Tryz
section
variable {Z Z' O:Hp}{R:Rr}
theorem bN {α:Type}{b:Nat}{T:TypeId}{f:α->Value}{x:α}{ρ:Hp}(h:ρ b=some (.cells #[f x] T (0,0))):HP 1 ρ (some ⟨b,0,none⟩) 1 ([x].map f):=⟨rfl,by omega,.inr ⟨b,0,rfl,⟨Ak h rfl,trivial⟩⟩⟩
end
end TwW
end
section
namespace TwW
open Go Tw
structure Mt where
 kind:Int
 name:ByteArray
 val:ByteArray
structure Nd where
 kind:Int
 op:Int
 text:ByteArray
 mt:List Mt
 width:Int
 back:Int
 Be:Int
 names:List ByteArray
 bool:Bool
 parts:Int
structure Sr where
 ls:List Lb
 ps:List (Int×Int)
structure El where
 ls:List Lb
 v:Int
structure Rg where
 ls:List Lb
 vs:List Int
structure Vv where
 kind:Int
 v:Int
 vec:List El
 TE:List Rg
structure Fl where
 num:ByteArray->Int
 abs:Int->Int
 floor:Int->Int
 whole:Int->Int
 ACC:Int->Int
 over:Int->List Int->Int->Option Int
 fold:Int->List Int->Int
 NO:Int->Int->Int->Int×Bool
 ic:List Mt->List Lb->Bool
 cmpL:List Lb->List Lb->Int
abbrev HE:Int:=9218868437227405314
def Tv:ByteArray:=⟨#[95,95,110,97,109,101,95,95]⟩
def Dy (ls:List Lb):ByteArray:=strOfNums (wm ls)
section
variable {α:Type}
def KY:List (ByteArray×α)->ByteArray->α->List (ByteArray×α)
 | [],k,x=>[(k,x)]
 | (a,b)::l,k,x=>if a=k then(k,x)::l else(a,b)::KY l k x
def Cz:List (ByteArray×α)->ByteArray->Option α
 | [],_=>none
 | (a,b)::l,k=>if a=k then some b else Cz l k
end
def Bg (ls:List Lb):List Lb:=ls.filter λx=>!Hw x.1 [Tv]
def Tx (ns:List ByteArray)(ls:List Lb):List Lb:=ls.filter λx=>Hw x.1 ns
def SB (ns:List ByteArray)(ls:List Lb):List Lb:=ls.filter λx=>!Hw x.1 ns
section
variable (F:Fl)
def qo (x:El):List El->List El
 | []=>[x]
 | y::l=>if F.cmpL x.ls y.ls<=0 then x::y::l else y::qo x l
def uD (l:List El):List El:=l.foldr (qo F) []
def Cs (l:List El):Option (List El):=if l.Pairwise (λa b=>F.cmpL a.ls b.ls≠0) then some (uD F l) else none
def Fe (ps:List (Int×Int))(A C:Int):List (Int×Int):=ps.filter λp=>decide (A<p.1)&&decide (p.1<=C)
def Hi (n:Nd)(ss:List Sr)(at_:Int):List El:=ss.filterMap λs=>match (Fe s.ps (at_-n.back-300) (at_-n.back)).getLast? with
 | none=>none
 | some p=>if p.2=HE\/F.ic n.mt s.ls=false then none else some ⟨s.ls,p.2⟩
def QP (n:Nd)(ss:List Sr)(at_:Int):List Rg:=ss.filterMap λs=>
 let vs:=((Fe s.ps (at_-n.back-n.width) (at_-n.back)).filter λp=>decide (p.2≠HE)).map Prod.snd
 bif !vs.isEmpty&&F.ic n.mt s.ls then some ⟨s.ls,vs⟩ else none
def JW (n:Nd)(p:Vv):List El:=(p.vec.map λx=>⟨Bg x.ls,if n.op=11 then F.abs x.v else F.floor x.v⟩)++p.TE.filterMap λs=>(F.over n.op s.vs p.v).map λv=>⟨Bg s.ls,v⟩
def Bz (n:Nd)(ls:List Lb):List Lb:=if n.Be=1 then Tx n.names ls else if n.Be=2 then Bg (SB n.names ls) else[]
def EO (ls:List Lb)(v:Int):List Rg->List Rg
 | []=>[⟨ls,[v]⟩]
 | g::l=>if Dy g.ls=Dy ls then⟨g.ls,g.vs++[v]⟩::l else g::EO ls v l
def NQ (n:Nd)(p:Vv):List El:=(p.vec.foldl (λgs x=>EO (Bz n x.ls) x.v gs) []).map λg=>⟨g.ls,F.fold n.op g.vs⟩
def BR (op:Int):Bool:=decide (5<=op)&&decide (op<=10)
def Jh (n:Nd)(vec:List El)(f:Int->Int×Bool):List El:=vec.filterMap λx=>
 if BR n.op=false\/n.bool=true then some ⟨Bg x.ls,(f x.v).1⟩ else if(f x.v).2 then some x else none
def EG (n:Nd)(ls:List Lb):List Lb:=if n.Be=3 then Tx n.names ls else Bg (SB n.names ls)
def db (n:Nd)(l:List El):List (ByteArray×El):=l.foldl (λm x=>KY m (Dy (EG n x.ls)) x) []
def H0 (n:Nd)(l:List El)(k:List Lb):Option El:=Cz (db n l) (Dy k)
def MQ (n:Nd)(l:List El):Bool:=decide ((db n l).length=l.length)
def JB (n:Nd)(x y:List El):List El:=
 (x.filter λe=>decide (n.op=12)||((H0 n y (EG n e.ls)).isSome==decide (n.op=11)))++y.filter λe=>(H0 n x (EG n e.ls)).isNone&&decide (n.op=12)
def H3 (n:Nd)(x y:List El):Option (List El):=if MQ n x&&MQ n y then some (x.filterMap λe=>match H0 n y (EG n e.ls) with
 | none=>none
 | some o=>if BR n.op=false\/n.bool=true then some ⟨EG n e.ls,(F.NO n.op e.v o.v).1⟩ else if(F.NO n.op e.v o.v).2 then some e else none) else none
def dc (n:Nd)(x y:Vv):Option Vv:=
 if x.kind=1/\y.kind=1 then some ⟨1,(F.NO n.op x.v y.v).1,[],[]⟩
 else((if x.kind=1 then some (Jh n y.vec (F.NO n.op x.v)) else if y.kind=1 then some (Jh n x.vec λv=>F.NO n.op v y.v) else if 11<=n.op/\n.op<=13 then some (JB n x.vec y.vec) else H3 F n x.vec y.vec).bind (Cs F)).map λl=>⟨2,0,l,[]⟩
def mB (p:Vv):Option Vv:=if p.kind=1 then some ⟨1,F.ACC p.v,[],[]⟩ else(Cs F (p.vec.map λx=>⟨Bg x.ls,F.ACC x.v⟩)).map λl=>⟨2,0,l,[]⟩
def FC (ss:List Sr)(at_:Int)(n:Nd)(l:List Vv):Option Vv:=
 if n.kind=1 then some ⟨1,F.num n.text,[],[]⟩
 else if n.kind=2 then some ⟨2,0,Hi F n ss at_,[]⟩
 else if n.kind=3 then some ⟨3,F.whole n.width,[],QP F n ss at_⟩
 else match l with
  | [p]=>if n.kind=4 then(Cs F (JW F n p)).map λl=>⟨2,0,l,[]⟩ else if n.kind=5 then(Cs F (NQ F n p)).map λl=>⟨2,0,l,[]⟩ else if n.kind=7 then mB F p else none
  | [p,q]=>if n.kind=6 then dc F n p q else none
  | _=>none
def JC (ss:List Sr)(at_:Int):List Nd->List Vv->Option (List Vv)
 | [],st=>some st
 | n::t,st=>(FC F ss at_ n (st.drop (st.length-n.parts.toNat))).bind λv=>JC ss at_ t (st.take (st.length-n.parts.toNat)++[v])
def A3 (t:List Nd)(ss:List Sr)(at_:Int):Option (List El):=(JC F ss at_ t []).bind λst=>st.head?.map λv=>if v.kind=1 then[⟨[],v.v⟩] else v.vec
end
section
variable {F:Fl}
end
end TwW
end
section
namespace TwW
open Go Tw
structure SC {α:Type}(c:α->α->Int):Prop where
 eq:∀x y,c x y=0↔x=y
 Ra:∀x y,c x y<0↔0<c y x
 trans:∀x y z,c x y<0->c y z<0->c x z<0
def MR {α:Type}(c:α->α->Int):List α->List α->Int
 | [],[]=>0
 | [],_::_=>-1
 | _::_,[]=>1
 | x::l,y::m=>if c x y=0 then MR c l m else c x y
def NR {α β:Type}(c:α->α->Int)(d:β->β->Int)(x y:α×β):Int:=if c x.1 y.1=0 then d x.2 y.2 else c x.1 y.1
theorem SC.MR {α:Type}{c:α->α->Int}(h:SC c):SC (MR c):=by
 refine⟨λl=>?_,λl=>?_,λl=>?_⟩
 .induction l with
  | nil=>intro m;cases m<;>simp[TwW.MR]
  | cons x l ih=>
   intro m;cases m with
   | nil=>simp[TwW.MR]
   | cons y m=>
    unfold TwW.MR;by_cases C:c x y=0
    .rw[Amc C,ih];simp[(h.eq x y).1 C]
    .rw[Amb C];simp[C,mt (h.eq x y).2 C]
 .induction l with
  | nil=>intro m;cases m<;>simp[TwW.MR]
  | cons x l ih=>
   intro m;cases m with
   | nil=>simp[TwW.MR]
   | cons y m=>
    unfold TwW.MR;by_cases C:c x y=0
    .have RD:=(h.eq x y).1 C;rw[Amc C,Amc ((h.eq y x).2 RD.symm),ih]
    .have hc':c y x≠0:=λe=>C ((h.eq x y).2 ((h.eq y x).1 e).symm);rw[Amb C,Amb hc',h.Ra]
 .induction l with
  | nil=>
   intro m k G A;cases m with
   | nil=>simp[TwW.MR]at G
   | cons y m=>
    cases k with
    | nil=>simp[TwW.MR]at A
    | cons z k=>simp[TwW.MR]
  | cons x l ih=>
   intro m k G A;cases m with
   | nil=>simp[TwW.MR]at G
   | cons y m=>
    cases k with
    | nil=>simp[TwW.MR]at A
    | cons z k=>
     unfold TwW.MR at G A ⊢;by_cases RD:c x y=0
     .rw[Amc RD]at G;have e:=(h.eq x y).1 RD;subst e;by_cases qp:c x z=0
      .rw[Amc qp]at A ⊢;exact ih m k G A
      .rw[Amb qp]at A ⊢;exact A
     .rw[Amb RD]at G;by_cases qp:c y z=0
      .rw[Amc qp]at A;have e:=(h.eq y z).1 qp;subst e;rw[Amb RD];exact G
      .rw[Amb qp]at A;have h3:=h.trans x y z G A;rw[Amb (by omega)];exact h3
theorem SC.NR {α β:Type}{c:α->α->Int}{d:β->β->Int}(h:SC c)(g:SC d):SC (NR c d):=by
 refine⟨λx y=>?_,λx y=>?_,λx y z G C=>?_⟩
 .obtain⟨x1,x2⟩:=x;obtain⟨y1,y2⟩:=y;unfold TwW.NR;by_cases A:c x1 y1=0
  .simp only[A,Amc];rw[g.eq];simp[(h.eq x1 y1).1 A]
  .simp only[A,AoH];simp[A,mt (h.eq x1 y1).2 A]
 .unfold TwW.NR;by_cases A:c x.1 y.1=0
  .rw[Amc A,Amc ((h.eq _ _).2 ((h.eq _ _).1 A).symm),g.Ra]
  .rw[Amb A,Amb (λe=>A ((h.eq _ _).2 ((h.eq _ _).1 e).symm)),h.Ra]
 .unfold TwW.NR at G C ⊢;by_cases RD:c x.1 y.1=0
  .rw[Amc RD]at G;rw[(h.eq _ _).1 RD];by_cases qp:c y.1 z.1=0
   .rw[Amc qp]at C ⊢;exact g.trans _ _ _ G C
   .rw[Amb qp]at C ⊢;exact C
  .rw[Amb RD]at G;by_cases qp:c y.1 z.1=0
   .rw[Amc qp]at C;rw[<-(h.eq _ _).1 qp,Amb RD];exact G
   .rw[Amb qp]at C;have h3:=h.trans _ _ _ G C;rw[Amb (by omega)];exact h3
def qt (a b:UInt8):Int:=if a<b then -1 else if b<a then 1 else 0
theorem ig {a b:UInt8}:qt a b<0↔a.toNat<b.toNat:=by
 unfold qt;by_cases h:a<b
 .have:=An3.1 h;simp[h,this]
 .have A:=mt An3.2 h;rw[Amb h];by_cases g:b<a<;>simp[g]<;>omega
theorem uE {a b:UInt8}:0<qt a b↔b.toNat<a.toNat:=by
 unfold qt;by_cases h:a<b
 .have:=An3.1 h;simp[h];omega
 .rw[Amb h];by_cases g:b<a
  .have:=An3.1 g;simp[g,this]
  .have A:=mt An3.2 g;simp[g];omega
theorem AGE:SC qt:=by
 refine⟨λx y=>?_,λx y=>?_,λx y z A C=>?_⟩
 .have A:=@ig x y;have C:=@uE x y;rw[<-AoM];omega
 .rw[ig,uE]
 .rw[ig]at *;omega
theorem ACD:∀a b:List UInt8,MR qt a b=Lib.compareBytes a b
 | [],[]=>rfl
 | [],_::_=>rfl
 | _::_,[]=>rfl
 | x::l,y::m=>by
  unfold MR Lib.compareBytes;rw[<-ACD l m];unfold qt;by_cases A:x<y
  .simp[A]
  .by_cases C:y<x<;>simp[A,C]
def GF (a b:ByteArray):Int:=Lib.compareBytes a.data.toList b.data.toList
theorem uF:SC GF:=by
 have h:=AGE.MR;refine⟨λx y=>?_,λx y=>?_,λx y z A C=>?_⟩
 .unfold GF;rw[<-ACD,h.eq];exact⟨λe=>by cases x;cases y;simp at e;rw[e],λe=>by rw[e]⟩
 .unfold GF;rw[<-ACD,<-ACD];exact h.Ra _ _
 .unfold GF at *;rw[<-ACD]at *;exact h.trans _ _ _ A C
def Ap:List Lb->List Lb->Int:=MR (NR GF GF)
theorem AS:SC Ap:=(uF.NR uF).MR
section
variable {F:Fl}(hF:F.cmpL=Ap)
theorem VP (x:El):∀l:List El,(qo F x l).Perm (x::l)
 | []=>ApU _
 | y::l=>by
  unfold qo;split
  .exact ApU _
  .exact((VP x l).cons y).trans (List.Perm.swap ..)
theorem NS:∀l:List El,(uD F l).Perm l
 | []=>ApU _
 | x::l=>(VP x _).trans ((NS l).cons x)
include hF
theorem le_trans' {x y z:El}(G:F.cmpL x.ls y.ls<=0)(h2:F.cmpL y.ls z.ls<=0):F.cmpL x.ls z.ls<=0:=by
 rw[hF]at *;rcases Int.lt_or_eq_of_le G with A|A
 .rcases Int.lt_or_eq_of_le h2 with C|C
  .exact Aqd (AS.trans _ _ _ A C)
  .rw[<-(AS.eq _ _).1 C];exact G
 .rw[(AS.eq _ _).1 A];exact h2
theorem WT (x:El):∀l:List El,l.Pairwise (λa b=>F.cmpL a.ls b.ls<=0)->(qo F x l).Pairwise λa b=>F.cmpL a.ls b.ls<=0
 | [],_=>by simp[qo]
 | y::l,h=>by
  rw[AnH]at h;unfold qo;split
  .rename_i C;refine AnH.2 ⟨λz A=>?_,AnH.2 h⟩;rcases Aml.1 A with rfl|A
   .exact C
   .exact le_trans' hF C (h.1 z A)
  .rename_i C;refine AnH.2 ⟨λz A=>?_,WT x l h.2⟩;rcases Aml.1 ((VP x l).mem_iff.1 A) with rfl|A
   .have G:0<F.cmpL z.ls y.ls:=by omega
    rw[hF]at *;exact Aqd ((AS.Ra _ _).2 G)
   .exact h.1 z A
theorem NT:∀l:List El,(uD F l).Pairwise λa b=>F.cmpL a.ls b.ls<=0
 | []=>List.Pairwise.nil
 | x::l=>WT hF x _ (NT l)
theorem RE {l m:List El}(hp:m.Perm l)(hs:m.Pairwise λa b=>F.cmpL a.ls b.ls<0):Cs F l=some m:=by
 have Ai:m.Pairwise λa b=>F.cmpL a.ls b.ls≠0:=hs.imp λh=>by omega
 have A:l.Pairwise λa b=>F.cmpL a.ls b.ls≠0:=(hp.pairwise_iff fun {a b} h e=>by
  rw[hF]at *;exact h ((AS.eq _ _).2 ((AS.eq _ _).1 e).symm)).1 Ai
 unfold Cs;rw[Amc A];refine Amz some (List.Perm.eq_of_pairwise (le:=λa b:El=>F.cmpL a.ls b.ls<=0) (λa b ha hb h1 h2=>?_) (NT hF l) (hs.imp λh=>Aqd h) ((NS l).trans hp.symm));have G:F.cmpL a.ls b.ls=0:=by
  refine Int.le_antisymm h1 (Int.not_lt.1 λh3=>?_);rw[hF]at *;have:=(AS.Ra _ _).1 h3;omega
 have C:=((NS (F:=F) l).trans hp.symm).mem_iff.1 ha;obtain⟨i,hi,rfl⟩:=Apq.1 C;obtain⟨j,hj,rfl⟩:=Apq.1 hb;have mC:=AnG.1 Ai;rcases Ao3 i j with h|h|h
 .exact absurd G (mC i j hi hj h)
 .subst h;rfl
 .have h4:=mC j i hj hi h;rw[hF]at G h4;exact absurd ((AS.eq _ _).2 ((AS.eq _ _).1 G).symm) h4
theorem wq {l m:List El}(hp:m.Perm l)(h:¬m.Pairwise λa b=>F.cmpL a.ls b.ls≠0):Cs F l=none:=by
 unfold Cs;rw[Amb λA=>h ((hp.pairwise_iff fun {a b} h e=>by
  rw[hF]at *;exact h ((AS.eq _ _).2 ((AS.eq _ _).1 e).symm)).2 A)]
end
end TwW
end
section
namespace TwW
open Go Tw
def Ge (c:UInt8)(s:ByteArray):List ByteArray:=Lib.splitB ⟨#[c]⟩ 0 (Lib.countB s ⟨#[c]⟩) s
def de:List ByteArray->ByteArray->Bool
 | [],_=>true
 | t::r,s=>if Lib.index s.data.toList t.data.toList<0 then false else de r (s.extract ((Lib.index s.data.toList t.data.toList).toNat+t.size) s.size)
def yV (l:List ByteArray)(s:ByteArray):Bool:=
 let a:=l.head?.getD ⟨#[]⟩
 let z:=l.getLast?.getD ⟨#[]⟩
 if l.length=1 then decide (s=a) else
  if s.size<a.size+z.size\/s.extract 0 a.size≠a\/s.extract (s.size-z.size) s.size≠z then false else de l.tail.dropLast (s.extract a.size (s.size-z.size))
def MT (p s:ByteArray):Bool:=(Ge 124 p).any λx=>yV (Ge 42 x) s
def QQ (m:Mt)(ls:List Lb):Bool:=
 let v:=D3 ls m.name
 if m.kind=1 then decide (v=m.val) else if m.kind=2 then decide (v≠m.val) else if m.kind=3 then MT m.val v else if m.kind=4 then !MT m.val v else false
def Gf (A:List Mt)(ls:List Lb):Bool:=A.all λm=>QQ m ls
def EP (u:UInt8):Bool:=decide (48<=u.toNat/\u.toNat<=57)
end TwW
end
section
namespace TwW
open Go Tw
def QR (v A:Int):Bool:=decide (A<=v)&&decide (v<2147483648)
section
variable (ACE:ByteArray->Bool)(AgK:ByteArray->Bool)
def QS (n:Nd):Bool:=n.names.all ACE&&(decide (n.names.length=0)||decide (n.Be≠0))
def JD (A:List Mt):Int:=if 8<A.length then 41 else if A.all (λm=>decide (1<=m.kind/\m.kind<=4)&&ACE m.name&&decide (m.val.size<=256)) then 0 else 40
end
end TwW
end
section
namespace TwW
open Go Tw Go.RowKit Go.Proofs.Tryz
abbrev Pt:=Int×Int
def Ff (_:Hp)(vs:List Value)(x:Pt):Prop:=vs=[.I x.1,.U x.2]
theorem Ff.mono:Iu Ff:=λ_ _ _ _ _ h=>h
def Cd (Z:Hp)(vs:List Value)(s:Sr):Prop:=∃p n c q m d,vs=[.slice p n c,.slice q m d]/\Db Z p n s.ls/\AT 2 Ff Z q m s.ps/\m<=d
theorem Cd.mono:Iu Cd:=λ_ _ _ _ A ⟨p,n,c,q,m,d,hv,C,G,h3⟩=>⟨p,n,c,q,m,d,hv,C.mono A9.mono A,G.mono Ff.mono A,h3⟩
def KH (_:Hp)(vs:List Value)(m:Mt):Prop:=vs=[.I m.kind,.string m.name,.string m.val]
theorem KH.mono:Iu KH:=λ_ _ _ _ _ h=>h
def IQ (Z:Hp)(vs:List Value)(n:Nd):Prop:=∃p k c q m d,vs=[.I n.kind,.I n.op,.string n.text,.slice p k c,.I n.width,.I n.back,.I n.Be,.slice q m d,.bool n.bool,.I n.parts]/\AT 3 KH Z p k n.mt/\HP 1 Z q m (n.names.map .string)
theorem IQ.mono:Iu IQ:=λ_ _ _ _ A ⟨p,k,c,q,m,d,hv,C,G⟩=>⟨p,k,c,q,m,d,hv,C.mono KH.mono A,G.mono A⟩
def Ad (Z:Hp)(vs:List Value)(x:El):Prop:=∃p n c,vs=[.slice p n c,.U x.v]/\Db Z p n x.ls
theorem Ad.mono:Iu Ad:=λ_ _ _ _ C ⟨p,n,c,A,h⟩=>⟨p,n,c,A,h.mono A9.mono C⟩
def Kq (Z:Hp)(vs:List Value)(x:Rg):Prop:=∃p n c q m d,vs=[.slice p n c,.slice q m d]/\Db Z p n x.ls/\Eh .u64 Z q m x.vs/\m<=d
theorem Kq.mono:Iu Kq:=λ_ _ _ _ A ⟨p,n,c,q,m,d,hv,C,G,h3⟩=>⟨p,n,c,q,m,d,hv,C.mono A9.mono A,G.mono A,h3⟩
def Sj (Z:Hp)(vs:List Value)(x:Vv):Prop:=∃p n c q m d,vs=[.I x.kind,.U x.v,.slice p n c,.slice q m d]/\AT 2 Ad Z p n x.vec/\AT 2 Kq Z q m x.TE
theorem Sj.mono:Iu Sj:=λ_ _ _ _ A ⟨p,n,c,q,m,d,hv,C,G⟩=>⟨p,n,c,q,m,d,hv,C.mono Ad.mono A,G.mono Kq.mono A⟩
theorem AT.sub {α:Type}{s:Nat}{E:Hp->List Value->α->Prop}{Z:Hp}{p:Option Addr}{n c i m:Nat}{xs:List α}(h:AT s E Z p n xs)(hs:0<s)(A:i+m<=n)(hc:n<=c):AT s E Z (Mp p i c s) m ((xs.drop i).take m):=by
 obtain⟨h1,cs,⟨h2,h3,G⟩,h5,h6⟩:=h;refine⟨by rw[Amp,Amx];omega,(cs.drop (i*s)).take (m*s),⟨?_,by omega,?_⟩,?_,λj x C=>?_⟩
 .have:i*s+m*s<=n*s:=by rw[<-Ant];exact AnM _ A
  rw[Amp,Amx];omega
 .rcases ApP m with hm|hm
  .exact .inl hm
  .rcases G with G|⟨b,o,rfl,G⟩
   .omega
   .refine .inr ⟨b,o+i*s,?_,?_⟩
    .unfold Mp;rw[Amb (by omega)];simp[DU]
    .exact G.part
 .have:i*s+m*s<=n*s:=by rw[<-Ant];exact AnM _ A
  rw[Amp,Amx,Amp,Amx];have:min m (xs.length-i)=m:=by omega
  rw[this];omega
 .rw[Am5]at C;split at C
  .rename_i hjm;rw[Am3]at C;have:=h6 (i+j) x C;have e:((((cs.drop (i*s)).take (m*s)).drop (j*s)).take s)=(cs.drop ((i+j)*s)).take s:=by
    have hle:j*s+s<=m*s:=by rw[<-Aog];exact AnM _ hjm
    rw[Aoo,AqR,Anu,Ant]
    congr 1
    omega
   rw[e];exact this
  .cases C
section
variable {Z Z' O:Hp}{R:Rr}
theorem wu {a b:ByteArray}:YN prog 144 #[.string a,.string b] Z (.I (GF a b)):=λw _=>by
 rw[run_callFunc_extern Go.Proofs.Tryz.func144 (by kernel_rfl) (by kernel_rfl) (by kernel_rfl) (e:=Extern.BytealgCompare.compare) (by kernel_rfl),Lib.run_compareString];rfl
theorem WU [HL]{a b:ByteArray}(h:R (.returned (.I (GF a b))) Z):Spec prog 62 #[.string a,.string b] Z R:=
 Nt.start (EA.start (.y wu ⟨_,rfl,_,rfl,h⟩))
theorem qu [HL]{x y:Lb}(h:∀Z',Ext Z Z'->R (.returned (.I (NR GF GF x y))) Z'):Spec prog 60 #[.agg #[.string x.1,.string x.2],.agg #[.string y.1,.string y.2]] Z R:=by
 refine Ns.start λ_ _=>WU ⟨_,rfl,WU ⟨_,rfl,λb hb=>?_⟩⟩;have A:=h _ (.set hb (o:=.cells #[.I (GF x.1 y.1),.I (GF x.2 y.2)] 3 (0,0)));unfold NR at A;generalize GF x.1 y.1=u at *;generalize GF x.2 y.2=v at *;refine KB.start (KB.As ⟨λ_=>⟨b,0,rfl,by omega,u,by simp[Hp.ld,Hp.AA],λC=>⟨_,rfl,?_⟩,λC=>⟨by unfold AF;omega,KB.As ⟨λ_=>⟨b,0,rfl,by omega,v,by simp[Hp.ld,Hp.AA],λG=>⟨_,rfl,?_⟩,λG=>⟨by unfold AF;omega,KB.As ⟨λh2=>by omega,λ_=>⟨_,rfl,?_⟩⟩⟩⟩,λh2=>by omega⟩⟩⟩,λh2=>by omega⟩)
 .rw[Amb C]at A;exact A
 .rw[Amc (Amy.1 C)]at A;exact A
 .have wv:v=0:=Amy.1 G;rw[Amc (Amy.1 C),wv]at A;rw[<-wv]at A ⊢;exact A
theorem AcE:Enters prog 60:=λargs w=>call60 args w
theorem BA {α:Type}{xs:List α}{k:Nat}{y:α}(A:xs[k]?=some y):xs.drop k=y::xs.drop (k+1):=by
 obtain⟨h,rfl⟩:=Amd.1 A;exact ApL h
theorem RF [HL]{p q:Option Addr}{n c m d:Nat}{ls G:List Lb}(hr:Db Z p n ls)(hs:Db Z q m G)(h:∀Z',Ext Z Z'->R (.returned (.I (Ap ls G))) Z'):Spec prog 42 #[.slice p n c,.slice q m d] Z R:=by
 have hl:ls.length=n:=hr.1;have hm:G.length=m:=hs.1;refine R5.start (BY.start ?_)
 suffices H:∀g k:Nat,∀Z',n-k=g->k<=n->k<=m->Ext Z Z'->Ap ls G=Ap (ls.drop k) (G.drop k)->BY.Sc (BV R (CI .i64 λx7 y=>R (.returned (.I x7)) y)) p n c q m d (.func (.func 60) #[] #[]) p n c n k Z' from H n 0 Z rfl (Amh _) (Amh _) (.refl _) rfl
 intro g
 induction g with
 | zero=>
  intro k Z' hg hk bO C A;have Rm:k=n:=by omega
  rw[Amm (by omega)]at A;refine BY.FY ⟨λAv=>by omega,λ_=>⟨λqz=>⟨_,rfl,?_⟩,λqz=>⟨_,rfl,?_⟩⟩⟩
  .obtain⟨y,hy⟩:=hs.ex (k:=k) (by omega);rw[BA hy]at A;have:=h Z' C;rw[A]at this;exact this
  .rw[Amm (by omega)]at A;have:=h Z' C;rw[A]at this;exact this
 | succ g ih=>
  intro k Z' hg hk bO C A;obtain⟨x,WS⟩:=hr.ex (k:=k) (by omega);obtain⟨b,o,rfl,KZ⟩:=Db.at hr WS;rw[BA WS]at A;refine BY.FY ⟨λ_=>⟨b,o,rfl,by omega,x.1,x.2,by simpa using KZ.mono C,λ_=>⟨λhmk=>⟨_,rfl,?_⟩,λhmk=>?_⟩⟩,λhh=>by omega⟩
  .rw[show G.drop k=[] from Amm (by omega)]at A;have:=h Z' C;rw[A]at this;exact this
  .obtain⟨y,hyk⟩:=hs.ex (k:=k) (by omega);obtain⟨b',o',rfl,Nz⟩:=Db.at hs hyk;rw[BA hyk]at A;have E7:Ap ls G=if NR GF GF x y=0 then Ap (ls.drop (k+1)) (G.drop (k+1)) else NR GF GF x y:=A
   refine⟨b',o',rfl,by omega,y.1,y.2,by simpa using Nz.mono C,λ_=>⟨60,#[],#[],rfl,AcE,qu λZ2 Ao=>⟨_,rfl,λAi=>⟨_,rfl,?_⟩,λheq=>⟨AI (by omega:k<n) hr.big,ih (k+1) Z2 (by omega) (by omega) (by omega) (C.trans Ao) ?_⟩⟩⟩⟩
   .have:=h Z2 (C.trans Ao);rw[E7,Amb Ai]at this;exact this
   .rw[E7,Amc (Amy.1 heq)]
def Ji:List Pt->Bool
 | []=>false
 | [_]=>true
 | a::b::l=>decide (a.1<b.1)&&Ji (b::l)
theorem Hj:∀ps:List Pt,Ji ps=true↔0<ps.length/\∀j a b,ps[j]?=some a->ps[j+1]?=some b->a.1<b.1
 | []=>by simp[Ji]
 | [a]=>by simp[Ji]
 | a::b::l=>by
  simp only[Ji,Amn,Amq];rw[Hj (b::l)]
  constructor
  .rintro⟨h1,G,h3⟩
   refine⟨by simp,λj x y A C=>?_⟩;cases j with
   | zero=>simp at A C;subst A;subst C;exact h1
   | succ j=>exact h3 j x y (by simpa using A) (by simpa using C)
  .rintro⟨h1,G⟩
   exact⟨G 0 a b rfl rfl,by simp,λj x y A C=>G (j+1) x y (by simpa using A) (by simpa using C)⟩
theorem Ff.at {p:Option Addr}{n i:Nat}{ps:List Pt}{x:Pt}(C:AT 2 Ff Z p n ps)(G:ps[i]?=some x):∃b o,p=some ⟨b,o,none⟩/\Af Z b (o+i*2) [.I x.1,.U x.2]:=by
 obtain⟨b,o,vs,hp,rfl,A⟩:=AT.idx C G;exact⟨b,o,hp,A⟩
theorem mD {p:Option Addr}{n c:Nat}{ps:List Pt}(A:AT 2 Ff Z p n ps)(h:R (.returned (.bool (Ji ps))) Z):Spec prog 75 #[.slice p n c] Z R:=by
 have hl:ps.length=n:=A.1;refine GZ.start ?_;have fin:(∀j a b,ps[j]?=some a->ps[j+1]?=some b->a.1<b.1)->R (.returned (.bool (decide (0<(n:Int))))) Z:=λG=>by
  have e:Ji ps=decide (0<(n:Int)):=by
   rw[ApM,Hj,Amq];exact⟨λh=>by omega,λh=>⟨by omega,G⟩⟩
  rw[e]at h;exact h
 suffices H:∀g k:Nat,n-k=g->1<=k->(∀j a b,j+1<k->ps[j]?=some a->ps[j+1]?=some b->a.1<b.1)->GZ.E5 R p n c k Z from H (n-1) 1 rfl (Amr _) (λj a b hj=>by omega)
 intro g
 induction g with
 | zero=>
  intro k hg hk CU;refine GZ.Ag ⟨λAv=>by omega,λ_=>fin λj a b C hb=>CU j a b ?_ C hb⟩;have:=(Amd.1 hb).1;omega
 | succ g ih=>
  intro k hg hk CU;obtain⟨x,hx⟩:=A.ex (k:=k) (by omega);obtain⟨y,hy⟩:=A.ex (k:=k-1) (by omega);obtain⟨b,o,rfl,KZ⟩:=Ff.at A hx;obtain⟨_,_,he,Nz⟩:=Ff.at A hy;cases he;have e1:Int.toNat ((k:Int)-1)=k-1:=by omega
  refine GZ.Ag ⟨λ_=>⟨b,o,rfl,by omega,x.1,by simpa using KZ.1,by unfold AF;have:=A.big;omega,by omega,y.1,by rw[e1];simpa using Nz.1,λhle=>?_,λhgt=>⟨AI (by omega:k<n) A.big,ih (k+1) (by omega) (by omega) λj a b' hj C hb=>?_⟩⟩,λG=>by omega⟩
  .have e:Ji ps=false:=by
    rw[An2,ne_eq,Hj];exact λG=>by
     have:=G.2 (k-1) y x hy (by rw[show k-1+1=k by omega];exact hx);omega
   rw[e]at h;exact h
  .by_cases jl:j+1=k
   .rw[jl,hx]at hb;cases hb;rw[show j=k-1 by omega,hy]at C;cases C;omega
   .exact CU j a b' (by omega) C hb
def DJ:Option (List Lb)->List Sr->Bool
 | _,[]=>true
 | q,s::l=>decide (FD s.ls=0)&&Ji s.ps&&(match q with | none=>true | some q=>decide (Ap q s.ls<0))&&DJ (some s.ls) l
theorem IS (q:Option (List Lb))(s:Sr)(l:List Sr):DJ q (s::l)=(decide (FD s.ls=0)&&Ji s.ps&&(match q with | none=>true | some q=>decide (Ap q s.ls<0))&&DJ (some s.ls) l):=by
 cases q<;>rfl
theorem Cd.at {p:Option Addr}{n i:Nat}{ss:List Sr}{s:Sr}(hr:AT 2 Cd Z p n ss)(hx:ss[i]?=some s):∃b o p1 n1 c1 q m d,p=some ⟨b,o,none⟩/\Af Z b (o+i*2) [.slice p1 n1 c1,.slice q m d]/\Db Z p1 n1 s.ls/\AT 2 Ff Z q m s.ps/\m<=d:=by
 obtain⟨b,o,vs,hp,⟨p1,n1,c1,q,m,d,rfl,A,C,G⟩,hl⟩:=AT.idx hr hx;exact⟨b,o,p1,n1,c1,q,m,d,hp,hl,A,C,G⟩
theorem mE {p:Option Addr}{n c:Nat}{ss:List Sr}(hr:AT 2 Cd Z p n ss)(h:∀Z',Ext Z Z'->R (.returned (.I (if DJ none ss then 0 else 100))) Z'):Spec prog 46 #[.slice p n c] Z R:=by
 have hl:ss.length=n:=hr.1;refine GC.start ?_
 suffices H:∀g k:Nat,∀Z',n-k=g->k<=n->Ext Z Z'->DJ none ss=DJ (if k=0 then none else(ss[k-1]?).map (·.ls)) (ss.drop k)->GC.Sc R p n c p n c n k Z' from H n 0 Z rfl (Amh _) (.refl _) rfl
 intro g
 induction g with
 | zero=>
  intro k Z' hg hk A he;rw[Amm (by omega)]at he;refine GC.FY ⟨λAv=>by omega,λ_=>?_⟩;have:=h Z' A;rw[he]at this;exact this
 | succ g ih=>
  intro k Z' hg hk A he;have DI:k<n:=by omega
  obtain⟨s,hs⟩:=hr.ex DI;obtain⟨b,o,p1,n1,c1,q,m,d,rfl,Eg,h1,h2,h3⟩:=Cd.at hr hs;rw[BA hs,IS]at he;have G:(decide (FD s.ls=0)&&Ji s.ps&&(match (if k=0 then none else(ss[k-1]?).map (·.ls)) with | none=>true | some q=>decide (Ap q s.ls<0)))=false->∀C,Ext Z C->R (.returned (.I 100)) C:=λhf C Ao=>by
   have:=h C Ao;rw[he,hf]at this;exact this
  refine GC.FY ⟨λ_=>⟨b,o,rfl,by omega,p1,n1,c1,q,m,d,by simpa using Eg.mono A,λ_=>W2 (h1.mono A9.mono A) ⟨_,rfl,λAi=>G (by simp[Ai]) Z' A,λh0=>mD (h2.mono Ff.mono A) ⟨_,rfl,λhf=>G (by simp[hf]) Z' A,λht=>?_⟩⟩⟩,λhh=>by omega⟩;have QT:=Amy.1 h0;have ht':Ji s.ps=true:=ht;have next:∀C,Ext Z C->(match (if k=0 then none else(ss[k-1]?).map (·.ls)) with | none=>true | some q=>decide (Ap q s.ls<0))=true->AF ((k:Int)+1)/\GC.Sc R (aD b o) n c (aD b o) n c n ((k:Int)+1) C:=λC Ao hm=>by
   refine⟨AI DI hr.big,ih (k+1) C (by omega) (by omega) Ao ?_⟩;rw[he,hm,QT,ht'];simp[hs]
  refine⟨λUp=>⟨by unfold AF;have:=hr.big;omega,b,o,rfl,by omega,?_⟩,λUp=>next Z' A (by rw[Amc (by omega)])⟩;obtain⟨s',Uq⟩:=hr.ex (k:=k-1) (by omega);obtain⟨_,_,p1',n1',c1',_,_,_,WO,q6,wv,_,_⟩:=Cd.at hr Uq;cases WO;have e1:Int.toNat ((k:Int)-1)=k-1:=by omega
  refine⟨p1',n1',c1',by rw[e1];simpa using(q6.mono A).1,RF (wv.mono A9.mono A) (h1.mono A9.mono A) λC Ao=>⟨_,rfl,λbH=>G ?_ C (A.trans Ao),λAv=>next C (A.trans Ao) ?_⟩⟩
  .rw[Amb (by omega),Uq];simp;omega
  .rw[Amb (by omega),Uq];simp;omega
end
def GN (x:Nat):Bool:=!(FloatKind.f64.format.order x x==some .eq)
def toF (x:Nat):Nat:=if GN x then 9221120237041090560 else x
theorem bP (d:Ieee.Datum):d.order d=if d.isNaN then none else some .eq:=by
 cases d with
 | nan=>rfl
 | infinity s=>cases s<;>rfl
 | number s m i=>simp[Ieee.Datum.order,Ieee.Datum.isNaN,Std.ReflCmp.compare_self]
theorem JE (x:Nat):GN x=true↔9218868437227405312<x%9223372036854775808:=by
 have h1:GN x=(Ieee.double.read x).isNaN:=by
  show(!((Ieee.double.read x).order (Ieee.double.read x)==some .eq))=_
  rw[bP];cases(Ieee.double.read x).isNaN<;>rfl
 rw[h1];have A:Ieee.double.signWeight=9223372036854775808:=by decide
 have C:Ieee.double.binade=4503599627370496:=by decide
 have G:Ieee.double.infRung=9218868437227405312:=by decide
 unfold Ieee.Format.read;simp only[A,C,G];split
 .simp[Ieee.Datum.isNaN];omega
 .split
  .simp[Ieee.Datum.isNaN];omega
  .split
   .simp[Ieee.Datum.isNaN];omega
   .simp[Ieee.Datum.isNaN];omega
theorem QU:GN 9221120237041090560=true:=(JE _).2 (by decide)
theorem q7 (a b t:Nat):GN (Question.cut (.nanBits .f64 a b) t)=true:=by
 rw[JE];show 9218868437227405312<((t%2)*9223372036854775808+9218868437227405312+1+(t/2)%4503599627370495)%9223372036854775808
 have A:=Aok (t/2) (show 0<4503599627370495 by decide);generalize (t/2)%4503599627370495=r at *;rcases Nat.mod_two_eq_zero_or_one t with h|h<;>rw[h]<;>omega
theorem toF_drawn (a b t:Nat):toF (Question.cut (.nanBits .f64 a b) t)=9221120237041090560:=by unfold toF;rw[q7];rfl
theorem toF_lt {x:Nat}(h:x<18446744073709551616):toF x<18446744073709551616:=by unfold toF;split<;>omega
def fAr (op:Int)(a b:Nat):Option Nat:=if op=1 then Ieee.double.add a b else if op=2 then Ieee.double.sub a b else if op=3 then Ieee.double.mul a b else Ieee.double.div a b
def ANP:Option Nat->Nat
 | some r=>toF r
 | none=>9221120237041090560
def AcF (a b:Nat):Option Nat->Sem Value
 | some r=>pure (.float .f64 r)
 | none=>do pure (.float .f64 (<-choose (.nanBits .f64 a b)))
def S7 (op:Int)(a b:Nat):Nat:=ANP (fAr op a b)
def fCm (op:Int)(a b:Nat):Bool:=
 let c:=Ieee.double.order a b
 if op=5 then c==some .eq else if op=6 then c != some .eq else if op=7 then c==some .lt else if op=8 then c==some .lt||c==some .eq else if op=9 then c==some .gt else if op=10 then c==some .gt||c==some .eq else false
section
variable [HL]{Z:Hp}{R:Rr}
theorem QV {b:Nat}:YN prog 53 #[.float .f64 b] Z (.U b):=λw _=>by
 rw[run_callFunc_extern Go.Proofs.Tryz.func53 (by kernel_rfl) (by kernel_rfl) (by kernel_rfl) (e:=Extern.MathFloatBits.float64bits) (by kernel_rfl)];rfl
theorem q8 {x:Int}:YN prog 183 #[.U x] Z (.float .f64 x.toNat):=λw _=>by
 rw[run_callFunc_extern Go.Proofs.Tryz.func183 (by kernel_rfl) (by kernel_rfl) (by kernel_rfl) (e:=Extern.MathFloatBits.float64frombits) (by kernel_rfl)];rfl
theorem q9 {x:Nat}(h:R (.returned (.bool (GN x))) Z):Spec prog 224 #[.float .f64 x] Z R:=
 Ya.start ⟨GN x,λw _=>rfl,h⟩
theorem Jj {x:Int}(h:R (.returned (.float .f64 x.toNat)) Z):Spec prog 198 #[.U x] Z R:=
 tq.start (.y q8 ⟨_,rfl,h⟩)
theorem Jk {x:Nat}(h:R (.returned (.U (toF x:Nat))) Z):Spec prog 190 #[.float .f64 x] Z R:=by
 refine tW.start (q9 ⟨_,rfl,λC=>?_,λA=>.y QV ⟨_,rfl,?_⟩⟩)
 .rw[show toF x=9221120237041090560 by unfold toF;rw[C];rfl]at h;exact h
 .rw[show toF x=x by unfold toF;rw[A];rfl]at h;exact h
def Rb (x:Int):Int:=(toF x.toNat:Nat)
theorem JF {x:Int}(h:R (.returned (.U (Rb x))) Z):Spec prog 201 #[.U x] Z R:=
 WC.start (Jj ⟨_,rfl,Jk ⟨_,rfl,h⟩⟩)
theorem ACG {m:Sem Value}{q:Question}{f:Nat->Value}{Φ:Value->Hp->Prop}(hm:∀w,m.run prog w=.ok (f (q.cut (w.tape w.drawn q))) { w with drawn:=w.drawn+1 })(h:∀t,Φ (f (q.cut t)) Z):AJ prog m Z Φ:=λw F A hF=>
 ⟨_,_,Z,hm w,h _,⟨λb o hb=>A b o hb,λb hb=>⟨(hF b hb).2,rfl⟩,(Gs.same rfl rfl rfl).drew,rfl,Amr _⟩⟩
theorem MU {m:Sem Value}{v:Value}{Φ:Value->Hp->Prop}(hm:∀w,m.run prog w=.ok v w)(h:Φ v Z):AJ prog m Z Φ:=λw F A hF=>
 ⟨_,_,Z,hm w,h,⟨A,λb hb=>⟨(hF b hb).2,rfl⟩,.same rfl rfl rfl,rfl,Amr _⟩⟩
theorem RG {op:BinOp}{a b:Nat}{Φ:Value->Hp->Prop}(r:Option Nat)(A:∀w,(Go.binOp op 73 (.float .f64 a) (.float .f64 b)).run prog w=(AcF a b r).run prog w)
  (h:∀x:Nat,toF x=ANP r->Φ (.float .f64 x) Z):AJ prog (Go.binOp op 73 (.float .f64 a) (.float .f64 b)) Z Φ:=by
 cases r with
 | some r=>exact MU (v:=.float .f64 r) (λw=>(A w).trans rfl) (h r rfl)
 | none=>exact ACG (q:=.nanBits .f64 a b) (f:=λx=>.float .f64 x) (λw=>(A w).trans rfl) (λt=>h _ (toF_drawn a b t))
theorem Hk {a b:Nat}{Φ:Value->Hp->Prop}(h:∀x:Nat,toF x=S7 1 a b->Φ (.float .f64 x) Z):AJ prog (Go.binOp .add 73 (.float .f64 a) (.float .f64 b)) Z Φ:=
 RG (Ieee.double.add a b) (λw=>by refine(show _=(Op.floatArith .add .f64 a b).run prog w from rfl).trans ?_;unfold Op.floatArith;simp only[FloatKind.format];cases Ieee.double.add a b<;>rfl) h
theorem uH {a b:Nat}{Φ:Value->Hp->Prop}(h:∀x:Nat,toF x=S7 2 a b->Φ (.float .f64 x) Z):AJ prog (Go.binOp .sub 73 (.float .f64 a) (.float .f64 b)) Z Φ:=
 RG (Ieee.double.sub a b) (λw=>by refine(show _=(Op.floatArith .sub .f64 a b).run prog w from rfl).trans ?_;unfold Op.floatArith;simp only[FloatKind.format];cases Ieee.double.sub a b<;>rfl) h
theorem D6 {a b:Nat}{Φ:Value->Hp->Prop}(h:∀x:Nat,toF x=S7 3 a b->Φ (.float .f64 x) Z):AJ prog (Go.binOp .mul 73 (.float .f64 a) (.float .f64 b)) Z Φ:=
 RG (Ieee.double.mul a b) (λw=>by refine(show _=(Op.floatArith .mul .f64 a b).run prog w from rfl).trans ?_;unfold Op.floatArith;simp only[FloatKind.format];cases Ieee.double.mul a b<;>rfl) h
theorem XZ {a b:Nat}{Φ:Value->Hp->Prop}(h:∀x:Nat,toF x=S7 4 a b->Φ (.float .f64 x) Z):AJ prog (Go.binOp .quo 73 (.float .f64 a) (.float .f64 b)) Z Φ:=
 RG (Ieee.double.div a b) (λw=>by refine(show _=(Op.floatArith .quo .f64 a b).run prog w from rfl).trans ?_;unfold Op.floatArith;simp only[FloatKind.format];cases Ieee.double.div a b<;>rfl) h
def N0 (op a b:Int):Int:=(S7 op a.toNat b.toNat:Nat)
theorem NU {op a b:Int}(h:R (.returned (if 1<=op/\op<=4 then .tuple #[.U (N0 op a b),.bool true] else .tuple #[.U 0,.bool false])) Z):Spec prog 218 #[.I op,.U a,.U b] Z R:=by
 refine Yg.start (Jj ⟨_,rfl,Jj ⟨_,rfl,λC=>Hk λx A=>⟨_,rfl,Jk ⟨_,rfl,?_⟩⟩,λC=>⟨λG=>uH λx A=>⟨_,rfl,Jk ⟨_,rfl,?_⟩⟩,λG=>⟨λh3=>D6 λx A=>⟨_,rfl,Jk ⟨_,rfl,?_⟩⟩,λh3=>⟨λh4=>XZ λx A=>⟨_,rfl,Jk ⟨_,rfl,?_⟩⟩,λh4=>?_⟩⟩⟩⟩⟩)
 .subst C;rw[A];exact h
 .subst G;rw[A];exact h
 .subst h3;rw[A];exact h
 .subst h4;rw[A];exact h
 .rw[Amb (by omega)]at h;exact h
end
section
variable [HL]{Z:Hp}{R:Rr}
def IT (op a b:Int):Bool:=fCm op a.toNat b.toNat
theorem NV {op a b:Int}(h:R (.T #[.bool (IT op a b),.bool (decide (5<=op/\op<=10))]) Z):Spec prog 219 #[.I op,.U a,.U b] Z R:=by
 have fin:∀{k:Int} {t:Bool},op=k->5<=k->k<=10->fCm k a.toNat b.toNat=t->R (.T #[.bool t,.bool true]) Z:=λhk A W0 ht=>by
  subst hk;rw[show IT op a b=fCm op a.toNat b.toNat from rfl,ht,show decide (5<=op/\op<=10)=true from Amt ⟨A,W0⟩]at h;exact h
 refine TH.start (Jj ⟨_,rfl,Jj ⟨_,rfl,
  λC=>⟨_,λw _=>rfl,fin C (by decide) (by decide) rfl⟩,λC=>
  ⟨λG=>⟨_,λw _=>rfl,fin G (by decide) (by decide) rfl⟩,λG=>
  ⟨λh3=>⟨_,λw _=>rfl,fin h3 (by decide) (by decide) rfl⟩,λh3=>
  ⟨λh4=>⟨_,λw _=>rfl,fin h4 (by decide) (by decide) rfl⟩,λh4=>
  ⟨λA=>⟨_,λw _=>rfl,fin A (by decide) (by decide) rfl⟩,λA=>
  ⟨λh6=>⟨_,λw _=>rfl,fin h6 (by decide) (by decide) rfl⟩,λh6=>?_⟩⟩⟩⟩⟩⟩⟩)
 rw[show decide (5<=op/\op<=10)=false from Ams (by omega),show IT op a b=false by unfold IT fCm;simp only[C,G,h3,h4,A,h6,AoH]]at h;exact h
def Rc (x:Int):Int:=(toF (Go.bits .andNot .u64 x 9223372036854775808).toNat:Nat)
theorem ACH {x:Int}(C:0<=x)(h:R (.returned (.U (Rc x))) Z):Spec prog 160 #[.U x] Z R:=by
 refine Td.start (Jj ⟨_,rfl,lY.start (.y QV ⟨_,rfl,λx5 A=>.y q8 ⟨_,rfl,_,rfl,Jk ⟨_,rfl,?_⟩⟩⟩)⟩);rw[show Rc x=(toF x5.toNat:Nat) by unfold Rc;rw[A,Int.toNat_of_nonneg C]]at h;exact h
def La (x:Nat):Nat:=match Ieee.double.read x with
 | .nan _ _=>9221120237041090560
 | d=>toF (Ieee.double.write (d.integral .down))
def Hl (x:Int):Int:=(La x.toNat:Nat)
theorem VQ (x:Nat):GN x=(Ieee.double.read x).isNaN:=by
 show(!((Ieee.double.read x).order (Ieee.double.read x)==some .eq))=_
 rw[bP];cases(Ieee.double.read x).isNaN<;>rfl
theorem rC (s:Bool)(t:Nat):GN (Ieee.double.write (.nan s (Ieee.double.quiet t)))=true:=by
 rw[JE];have A:Ieee.double.signWeight=9223372036854775808:=by decide
 have C:Ieee.double.binade=4503599627370496:=by decide
 have G:Ieee.double.infRung=9218868437227405312:=by decide
 have hp:(Ieee.double.quiet t%4503599627370496).testBit 51=true:=by
  rw[show 4503599627370496=2^52 from rfl,Nat.testBit_mod_two_pow];show(decide (51<52)&&(t ||| 2^51).testBit 51)=true
  rw[Nat.testBit_or,Nat.testBit_two_pow_self];simp
 have hp0:0<Ieee.double.quiet t%4503599627370496:=by
  apply Nat.pos_of_ne_zero
  intro h0;rw[h0]at hp;simp at hp
 have Av:=Aok (Ieee.double.quiet t) (show 0<4503599627370496 by decide);show 9218868437227405312<Ieee.double.word s (Ieee.double.infRung+Ieee.double.quiet t%Ieee.double.binade)%9223372036854775808
 unfold Ieee.Format.word;rw[A,C,G];generalize Ieee.double.quiet t%4503599627370496=p at *;cases s
 .rw[Amb (by decide)];omega
 .rw[Amc rfl];omega
def flo (x : Nat) : Sem Value := match Ieee.double.read x with
 | .nan s t => if Ieee.double.quiet t = t then pure (.float .f64 x) else do
   let kept ← choose (.extern "math.Floor,Ceil,Trunc,RoundToEven.signallingNaN kept" 2)
   pure (.float .f64 (if kept == 1 then x else Ieee.double.write (.nan s (Ieee.double.quiet t))))
 | d => pure (.float .f64 (Ieee.double.write (d.integral .down)))
theorem mF {x : Nat} {Φ : Value -> Hp -> Prop} (h : ∀ y : Nat,toF y = La x -> Φ (.float .f64 y) Z) : EN prog 184 #[.float .f64 x] Z Φ := by
 have BP : ∀ w,(callFunc 184 #[.float .f64 x]).run prog w = ((flo x).run prog w).andThen λv w' => .ok (.value v) w' := λw => by
   rw [run_callFunc_extern Go.Proofs.Tryz.func184 (by kernel_rfl) (by kernel_rfl) (by kernel_rfl) (e := Extern.MathFloor.toIntegral "math.archFloor" .down) (by kernel_rfl)]
   rfl
 have same : ∀ y,flo x = pure (.float .f64 y) -> toF y = La x -> EN prog 184 #[.float .f64 x] Z Φ := λy hy hf => .y (v := .float .f64 y) (λw _ => by rw [BP,hy]; rfl) (h y hf)
 cases hd : Ieee.double.read x with
 | number s m i => exact same _ (by unfold flo; rw [hd]) (by unfold La; rw [hd])
 | infinity s => exact same _ (by unfold flo; rw [hd]) (by unfold La; rw [hd])
 | nan s t =>
   have hx : GN x = true := by rw [VQ,hd]; rfl
   have hn : La x = 9221120237041090560 := by unfold La; rw [hd]
   have e1 : toF x = 9221120237041090560 := by unfold toF; rw [hx]; rfl
   by_cases hq : Ieee.double.quiet t = t
   · exact same x (by unfold flo; rw [hd]; simp only [hq,Aou]) (by rw [e1,hn])
   · intro w F hs hF
     refine ⟨.float .f64 (if (Question.cut (.extern "math.Floor,Ceil,Trunc,RoundToEven.signallingNaN kept" 2) (w.tape w.drawn (.extern "math.Floor,Ceil,Trunc,RoundToEven.signallingNaN kept" 2))) == 1 then x else Ieee.double.write (.nan s (Ieee.double.quiet t))),{ w with drawn := w.drawn + 1 },Z,?_,?_,⟨fun b o hb => hs b o hb,fun b hb => ⟨(hF b hb).2,rfl⟩,(Gs.same rfl rfl rfl).drew,rfl,Nat.le_refl _⟩⟩
     · rw [BP]
       unfold flo
       rw [hd]
       simp only [hq,AoH]
       rfl
     · refine h _ ?_
       rw [hn]
       split
       · exact e1
       · unfold toF; rw [rC]; rfl
theorem rD {x:Int}(h:R (.returned (.U (Hl x))) Z):Spec prog 161 #[.U x] Z R:=
 NJ.start (Jj ⟨_,rfl,Sd.start (mF λy A=>⟨_,rfl,_,rfl,Jk ⟨_,rfl,by rw[A];exact h⟩⟩)⟩)
def AY (n:Int):Int:=(FloatKind.f64.nearest n:Nat)
theorem NW {n:Int}(h:R (.returned (.U (AY n))) Z):Spec prog 159 #[.I n] Z R:=
 YK.start (MU (v:=.float .f64 (FloatKind.f64.nearest n)) (λw=>by kernel_rfl) ⟨_,rfl,.y QV ⟨_,rfl,h⟩⟩)
theorem rE {b:Bool}(h:R (.returned (.U (if b then AY 1 else AY 0))) Z):Spec prog 220 #[.bool b] Z R:=
 Yi.start ⟨λC=>NW ⟨_,rfl,by rw[C]at h;exact h⟩,λA=>NW ⟨_,rfl,by rw[A]at h;exact h⟩⟩
theorem mG {a b:Int}(h:R (.returned (.U (N0 1 a b))) Z):Spec prog 216 #[.U a,.U b] Z R:=eval_add.start (NU ⟨_,_,rfl,h⟩)
theorem mH {a b:Int}(h:R (.returned (.U (N0 2 a b))) Z):Spec prog 205 #[.U a,.U b] Z R:=lJ.start (NU ⟨_,_,rfl,h⟩)
theorem mI {a b:Int}(h:R (.returned (.U (N0 4 a b))) Z):Spec prog 209 #[.U a,.U b] Z R:=lZ.start (NU ⟨_,_,rfl,h⟩)
theorem ACI {a:Int}(h:R (.returned (.bool (decide (Rb a=9221120237041090560)))) Z):Spec prog 241 #[.U a] Z R:=la.start (JF ⟨_,rfl,h⟩)
def QW (x:Int):Int:=Rb (Go.bits .xor .u64 x 9223372036854775808)
theorem WV {x:Int}(h:R (.returned (.U (QW x))) Z):Spec prog 178 #[.U x] Z R:=V4.start λx4 A=>JF ⟨_,rfl,by rw[A];exact h⟩
end
section
variable [HL]{Z:Hp}{R:Rr}
def VR:List Int->Int
 | []=>0
 | v::l=>l.foldl (N0 1) (Rb v)
theorem bQ {p:Option Addr}{n c:Nat}{vs:List Int}(C:Eh .u64 Z p n vs)(h0:0<n)(hc:n<=c)(h:R (.returned (.U (VR vs))) Z):Spec prog 167 #[.slice p n c] Z R:=by
 have hl:vs.length=n:=C.1;obtain⟨v,hv⟩:=C.ex h0;obtain⟨b,o,rfl,CH⟩:=Eh.at C hv;refine I3.start ⟨b,o,rfl,by omega,v,by simpa using CH,JF ⟨_,rfl,by omega,?_⟩⟩;have G:Eh .u64 Z (Mp (aD b o) 1 c 1) (n-1) ((vs.drop 1).take (n-1)):=AT.sub C (by decide) (by omega) hc;have hd:(vs.drop 1).take (n-1)=vs.tail:=by rw[AqT,Amj (by rw[AoP];omega)]
 rw[hd]at G;have dJ:vs=v::vs.tail:=by
  cases vs with
  | nil=>cases hv
  | cons a l=>simp only[AnD,Ami]at hv;rw[hv];rfl
 rw[dJ]at h
 change R (.returned (.U (vs.tail.foldl (N0 1) (Rb v)))) Z at h
 generalize Mp (aD b o) 1 c 1=q at *
 suffices H:∀g k:Nat,∀(q':Option Addr) (a:Int),(0<n-1->q'=q)->n-1-k=g->k<=n-1->vs.tail.foldl (N0 1) (Rb v)=(vs.tail.drop k).foldl (N0 1) a->I3.B9 R a q (n-1) (c-1) ((n-1:Nat):Int) k Z from H (n-1) 0 q (Rb v) (λ_=>rfl) (by omega) (by omega) rfl
 intro g
 induction g with
 | zero=>
  intro k q' a _ hg hk A;refine I3.As ⟨λAv=>by omega,λ_=>?_⟩;rw[Amm (by rw[AoP];omega)]at A;rw[A]at h;exact h
 | succ g ih=>
  intro k q' a hq hg hk A;obtain⟨x,hx⟩:=G.ex (k:=k) (by omega);obtain⟨b',o',rfl,KZ⟩:=Eh.at G hx;rw[BA hx]at A;refine I3.As ⟨λ_=>⟨b',o',rfl,by omega,x,by simpa using KZ,mG ⟨_,rfl,AI (by omega:k<n-1) G.big,ih (k+1) _ _ (λ_=>rfl) (by omega) (by omega) A⟩⟩,λhh=>by omega⟩
theorem Sk {p:Option Addr}{n c:Nat}(h:R (.returned (.U (AY n))) Z):Spec prog 171 #[.slice p n c] Z R:=
 KE.start (NW ⟨_,rfl,h⟩)
theorem Ty {p:Option Addr}{n c:Nat}{vs:List Int}(G:Eh .u64 Z p n vs)(A:0<n)(C:n<=c)(h:R (.returned (.U (N0 4 (VR vs) (AY n)))) Z):Spec prog 170 #[.slice p n c] Z R:=
 Hd.start (bQ G A C ⟨_,rfl,Sk ⟨_,rfl,mI ⟨_,rfl,h⟩⟩⟩)
def W3 (op:Int)(out v:Int):Int:=if IT op v out=true\/Rb out=9221120237041090560 then v else out
def Kr (op:Int):List Int->Int
 | []=>0
 | v::l=>Rb (l.foldl (W3 op) v)
theorem fg {op:Int}{p:Option Addr}{n c:Nat}{vs:List Int}(C:Eh .u64 Z p n vs)(h0:0<n)(hc:n<=c)(h:R (.returned (.U (Kr op vs))) Z):Spec prog 217 #[.I op,.slice p n c] Z R:=by
 have hl:vs.length=n:=C.1;obtain⟨v,hv⟩:=C.ex h0;obtain⟨b,o,rfl,CH⟩:=Eh.at C hv;refine IE.start ⟨b,o,rfl,by omega,v,by simpa using CH,by omega,?_⟩;have G:Eh .u64 Z (Mp (aD b o) 1 c 1) (n-1) ((vs.drop 1).take (n-1)):=AT.sub C (by decide) (by omega) hc;have hd:(vs.drop 1).take (n-1)=vs.tail:=by rw[AqT,Amj (by rw[AoP];omega)]
 rw[hd]at G;have dJ:vs=v::vs.tail:=by
  cases vs with
  | nil=>cases hv
  | cons a l=>simp only[AnD,Ami]at hv;rw[hv];rfl
 rw[dJ]at h
 change R (.returned (.U (Rb (vs.tail.foldl (W3 op) v)))) Z at h
 generalize Mp (aD b o) 1 c 1=q at *
 suffices H:∀g k:Nat,∀(a:Int),n-1-k=g->k<=n-1->vs.tail.foldl (W3 op) v=(vs.tail.drop k).foldl (W3 op) a->IE.B9 R op a q (n-1) (c-1) ((n-1:Nat):Int) k Z from H (n-1) 0 v (by omega) (by omega) rfl
 intro g
 induction g with
 | zero=>
  intro k a hg hk A;refine IE.As ⟨λAv=>by omega,λ_=>JF ⟨_,rfl,?_⟩⟩;rw[Amm (by rw[AoP];omega)]at A;rw[A]at h;exact h
 | succ g ih=>
  intro k a hg hk A;obtain⟨x,hx⟩:=G.ex (k:=k) (by omega);obtain⟨b',o',rfl,KZ⟩:=Eh.at G hx;rw[BA hx,AoC]at A;have go:∀y,W3 op a x=y->IE.dU R op y (aD b' o') (n-1) (c-1) ((n-1:Nat):Int) k Z:=λy hy=>IE.XN ⟨AI (by omega:k<n-1) G.big,ih (k+1) y (by omega) (by omega) (by rw[<-hy];exact A)⟩;refine IE.As ⟨λ_=>⟨b',o',rfl,by omega,x,by simpa using KZ,NV ⟨_,_,rfl,λht=>go x (by unfold W3;rw[Amc (.inl ht)]),λhf=>ACI ⟨_,rfl,λht=>go x ?_,λhn=>go a ?_⟩⟩⟩,λhh=>by omega⟩
  .unfold W3;rw[Amc (.inr (Amg ht))]
  .unfold W3;rw[Amb (by
   rintro(h1|h1)
   .rw[h1]at hf;cases hf
   .exact absurd h1 (Am4 hn))]
theorem bR {p:Option Addr}{n c:Nat}{vs:List Int}(G:Eh .u64 Z p n vs)(A:0<n)(C:n<=c)(h:R (.returned (.U (Kr 7 vs))) Z):Spec prog 168 #[.slice p n c] Z R:=KA.start (fg G A C ⟨_,rfl,h⟩)
theorem SD {p:Option Addr}{n c:Nat}{vs:List Int}(G:Eh .u64 Z p n vs)(A:0<n)(C:n<=c)(h:R (.returned (.U (Kr 9 vs))) Z):Spec prog 169 #[.slice p n c] Z R:=Ga.start (fg G A C ⟨_,rfl,h⟩)
def H4 (out:Int)(p:Int×Int):Int:=if IT 7 p.2 p.1=true then N0 1 out p.1 else out
def H5 (vs:List Int):Int:=(vs.zip vs.tail).foldl H4 (N0 2 (vs.getLast?.getD 0) (vs.head?.getD 0))
theorem bS {p:Option Addr}{n c:Nat}{vs:List Int}(A:Eh .u64 Z p n vs)(h0:0<n)(h:R (.returned (.U (H5 vs))) Z):Spec prog 207 #[.slice p n c] Z R:=by
 have hl:vs.length=n:=A.1;have IP:=A.big;obtain⟨v,hv⟩:=A.ex h0;obtain⟨z,hz⟩:=A.ex (k:=n-1) (by omega);obtain⟨b,o,rfl,CH⟩:=Eh.at A hv;obtain⟨_,_,C,hlz⟩:=Eh.at A hz;cases C;have e1:Int.toNat ((n:Int)-1)=n-1:=by omega
 refine Gv.start ⟨by unfold AF;omega,b,o,rfl,by omega,z,by rw[e1];exact hlz,by omega,v,by simpa using CH,mH ⟨_,rfl,?_⟩⟩;have G:H5 vs=(vs.zip vs.tail).foldl H4 (N0 2 z v):=by
  unfold H5;rw[AoE,hl,hz,Aoy,hv];rfl
 rw[G]at h
 suffices H:∀g k:Nat,∀a:Int,n-1-k=g->k<=n-1->(vs.zip vs.tail).foldl H4 (N0 2 z v)=((vs.zip vs.tail).drop k).foldl H4 a->Gv.AR R (aD b o) n c a ((k+1:Nat):Int) Z from H (n-1) 0 _ (by omega) (by omega) rfl
 have hlen:(vs.zip vs.tail).length=n-1:=by rw[Anx,AoP];omega
 intro g
 induction g with
 | zero=>
  intro k a hg hk C;refine Gv.AM ⟨λAv=>by omega,λ_=>?_⟩;rw[Amm (by omega)]at C;rw[C]at h;exact h
 | succ g ih=>
  intro k a hg hk C;obtain⟨x,hx⟩:=A.ex (k:=k) (by omega);obtain⟨y,hy⟩:=A.ex (k:=k+1) (by omega);obtain⟨_,_,h1,KZ⟩:=Eh.at A hx;obtain⟨_,_,h2,Nz⟩:=Eh.at A hy;cases h1;cases h2;have ANQ:(vs.zip vs.tail)[k]?=some (x,y):=by
   rw[Ana];exact⟨hx,by rw[List.getElem?_tail];exact hy⟩
  rw[BA ANQ,AoC]at C;have e2:Int.toNat (((k+1:Nat):Int)-1)=k:=by omega
  have e3:Int.toNat ((k+1:Nat):Int)=k+1:=by omega
  have go:∀w,H4 a (x,y)=w->Gv.VI R (aD b o) n c w ((k+1:Nat):Int) Z:=λw hw=>Gv.NI ⟨AI (by omega:k+1<n) A.big,ih (k+1) w (by omega) (by omega) (by rw[<-hw];exact C)⟩;refine Gv.AM ⟨λ_=>⟨b,o,rfl,by omega,y,by rw[e3];exact Nz,by unfold AF;omega,by omega,x,by rw[e2];exact KZ,NV ⟨_,_,rfl,λht=>⟨by unfold AF;omega,by omega,x,by rw[e2];exact KZ,mG ⟨_,rfl,go _ ?_⟩⟩,λhf=>go _ ?_⟩⟩,λhh=>by omega⟩
  .unfold H4;rw[Amc ht]
  .unfold H4;rw[Amb (by rw[hf];decide)]
end
theorem bT {x:Nat}(h:GN x=true):∃s t,Ieee.double.read x=.nan s t:=by
 rw[VQ]at h;cases A:Ieee.double.read x with
 | nan s t=>exact⟨s,t,rfl⟩
 | number=>rw[A]at h;cases h
 | infinity=>rw[A]at h;cases h
theorem AJu {op:Int}{a b:Nat}(h:GN a=true):fAr op a b=none:=by
 obtain⟨s,t,A⟩:=bT h;unfold fAr Ieee.Format.add Ieee.Format.sub Ieee.Format.mul Ieee.Format.div;rw[A];simp[Ieee.Datum.sum,Ieee.Datum.product,Ieee.Datum.quotient]
theorem AJv {op:Int}{a b:Nat}(h:GN b=true):fAr op a b=none:=by
 obtain⟨s,t,A⟩:=bT h;unfold fAr Ieee.Format.add Ieee.Format.sub Ieee.Format.mul Ieee.Format.div;rw[A];cases Ieee.double.read a<;>simp[Ieee.Datum.sum,Ieee.Datum.product,Ieee.Datum.quotient,Ieee.Datum.opposite]
theorem QX (op:Int)(a b:Nat):S7 op (toF a) (toF b)=S7 op a b:=by
 unfold S7;by_cases A:GN a=true
 .rw[AJu A,show toF a=9221120237041090560 by unfold toF;rw[A];rfl,AJu QU]
 .rw[show toF a=a by unfold toF;rw[Amb A]];by_cases hb:GN b=true
  .rw[AJv hb,show toF b=9221120237041090560 by unfold toF;rw[hb];rfl,AJv QU]
  .rw[show toF b=b by unfold toF;rw[Amb hb]]
abbrev cN:Nat:=4604544271217802189
abbrev dN:Nat:=13827916308072577997
abbrev AWZ:Nat:=4607182418800017408
abbrev AWa:Nat:=13830554455654793216
def W4:List (Nat×Nat):=[(AWZ,0),(cN,dN),(0,AWa),(dN,dN),(AWa,0),(dN,cN),(0,AWZ),(cN,cN)]
def H6 (j n:Nat):List Int->Nat->Nat×Nat->Nat×Nat
 | [],_,a=>a
 | x::l,k,a=>
  let w:=W4.getD ((j*k%n)*(8/n)) (0,0)
  H6 j n l (k+1) (S7 1 a.1 (S7 3 x.toNat w.1),S7 1 a.2 (S7 3 x.toNat w.2))
def ij (vs:List Int):Nat:=
 let l:=H6 (1%vs.length) vs.length vs 0 (0,0)
 S7 1 (S7 3 l.1 l.1) (S7 3 l.2 l.2)
section
variable [HL]{Z:Hp}{R:Rr}
theorem NY {x y:Nat}(h:x ^^^ 9223372036854775808=y):YF prog (Op.unary .neg (.float .f64 x)) Z (.float .f64 y):=λw _=>by subst h;rfl
theorem df (h:∀b T Z',Z b=none->Z'=Z.set b (.cells (W4.map λp=>.complex .f64 p.1 p.2).toArray T (0,0))->R (.returned (.slice (aD b 0) 8 8)) Z'):Spec prog 272 #[] Z R:=by
 refine Rz.start (Jj ⟨_,rfl,dN,NY (by decide),_,_,λw _=>rfl,dN,NY (by decide),dN,NY (by decide),_,_,λw _=>rfl,dN,NY (by decide),_,_,λw _=>rfl,_,_,λw _=>rfl,λb hb=>?_⟩);exact h b _ _ hb rfl
theorem wx {j:Nat}(hj:j<=1){p:Option Addr}{n c:Nat}{vs:List Int}(hr:Eh .u64 Z p n vs)(hn:n=1\/n=2\/n=4\/n=8)
  (h:∀C A Z',Ext Z Z'->toF C=(H6 j n vs 0 (0,0)).1->toF A=(H6 j n vs 0 (0,0)).2->R (.returned (.complex .f64 C A)) Z'):Spec prog 252 #[.slice p n c,.I j] Z R:=by
 have hl:vs.length=n:=hr.1;have z0:toF 0=0:=by
  unfold toF;rw[Amb];rw[JE];decide
 refine MG.start (df λb T Z1 hb Hv=>⟨_,_,_,rfl,?_⟩);have Bc:Ext Z Z1:=by rw[Hv];exact .set hb
 have hlb:∀k,k<8->∀C A,W4[k]?=some (C,A)->Z1.ld ⟨b,0+k*1,none⟩=some (.complex .f64 C A):=λk hk C A hw=>by
  rw[Hv];unfold Hp.ld;simp only[Hp.AA];have:(W4.map λp=>Value.complex .f64 p.1 p.2)[k]?=some (.complex .f64 C A):=by rw[Am8,hw];rfl
  simpa using this
 clear Hv
 suffices H:∀g k:Nat,∀C A,∀a:Nat×Nat,n-k=g->k<=n->toF C=a.1->toF A=a.2->H6 j n vs 0 (0,0)=H6 j n (vs.drop k) k a->MG.J6 R p n c j (aD b 0) 8 8 (.complex .f64 C A) k Z1 from H n 0 0 0 (0,0) rfl (Amh _) z0 z0 rfl
 intro g
 induction g with
 | zero=>
  intro k C A a hg hk h1 h2 G;have Rm:k=n:=by omega
  subst Rm;rw[Amm (by omega)]at G;refine MG.HX ⟨λ_=>?_,λhh=>by omega⟩;rw[G]at h;exact h C A Z1 Bc h1 h2
 | succ g ih=>
  intro k C A a hg hk h1 h2 G;have Rm:k<n:=by omega
  obtain⟨x,hx⟩:=hr.ex Rm;obtain⟨b',o',rfl,CH⟩:=Eh.at hr hx;rw[BA hx]at G;have ht:(j:Int)*k=((j*k:Nat):Int):=by push_cast;rfl
  have jl:j*k<=8:=by
   rcases Nat.le_one_iff_eq_zero_or_eq_one.1 hj with h|h<;>subst h<;>omega
  refine MG.HX ⟨λhh=>by omega,λ_=>⟨b',o',rfl,by omega,x,by simpa using Bc.ld CH,by unfold AF;omega,by omega,λLY h27=>⟨by omega,λLz h30=>?_⟩⟩⟩;have e27:LY=((j*k%n:Nat):Int):=by rw[h27,ht,ApF (by omega)];omega
  have e30:Lz=((8/n:Nat):Int):=by rw[h30];rcases hn with h|h|h|h<;>subst h<;>rfl
  have hm:(j*k%n)*(8/n)<8:=by
   have:=Aok (j*k) (show 0<n by omega);rcases hn with h|h|h|h<;>subst h<;>simp at*<;> omega
  have ep:LY*Lz=(((j*k%n)*(8/n):Nat):Int):=by rw[e27,e30];push_cast;rfl
  dsimp only;rw[ep];generalize hq:(j*k%n)*(8/n)=q at *;obtain⟨⟨wr,wi⟩,hw⟩:∃w,W4[q]?=some w:=⟨_,Amf (show q<W4.length from hm)⟩;have hgd:W4.getD q (0,0)=(wr,wi):=by rw[Ap6,hw];rfl
  rw[H6,hq,hgd]at G;refine⟨by unfold AF;omega,b,0,rfl,by omega,wr,wi,by simpa using hlb q hm wr wi hw,Jj ⟨_,rfl,λ_ _ _ h=>h,C,λw _=>rfl,wr,λw _=>rfl,D6 λy hy=>⟨_,rfl,Hk λz hz=>⟨_,rfl,A,λw _=>rfl,wi,λw _=>rfl,D6 λy' hy'=>⟨_,rfl,Hk λz' rF=>⟨_,rfl,z,z',λw _=>rfl,AI Rm hr.big,?_⟩⟩⟩⟩⟩⟩;refine ih (k+1) z z' _ (by omega) (by omega) ?_ ?_ G
  .rw[hz,<-QX,h1,hy]
  .rw[rF,<-QX,h2,hy']
theorem rG {p:Option Addr}{n c:Nat}{vs:List Int}(hr:Eh .u64 Z p n vs)(hn:n=1\/n=2\/n=4\/n=8)
  (h:∀Z',Ext Z Z'->R (.T #[.U (ij vs:Nat),.I 0]) Z'):Spec prog 237 #[.slice p n c] Z R:=by
 have hl:vs.length=n:=hr.1;have J2:∀{t:Bool} {Q:Rr},Q (.B true) Z->Spec prog 251 #[.I n] Z Q:=λA=>fP.start ⟨λ_=>A,λG=>⟨λ_=>A,λh2=>⟨λ_=>A,λh4=>by rw[show decide ((n:Int)=8)=true from Amt (by omega)];exact A⟩⟩⟩;refine Yj.start (J2 (t:=true) ?_);refine⟨true,rfl,λhf=>(by cases hf),λ_=>⟨by omega,λx12 KR=>?_⟩⟩;have C:x12=((1%n:Nat):Int):=by rw[KR,ApF (by omega)];exact(Int.natCast_emod 1 n).symm
 rw[C];refine wx (Nat.mod_le 1 n) hr hn λre im Z1 hx G h2=>⟨_,_,rfl,re,λw _=>rfl,re,λw _=>rfl,D6 λy hy=>⟨_,rfl,im,λw _=>rfl,im,λw _=>rfl,D6 λz hz=>⟨_,rfl,Hk λu hu=>⟨_,rfl,Jk ⟨_,rfl,?_⟩⟩⟩⟩⟩;have e:toF u=ij vs:=by
  rw[hu,<-QX,hy,hz];unfold ij;rw[hl];dsimp only;rw[<-G,<-h2,QX,QX]
 rw[e];exact h Z1 hx
def EY (n:Nat):Nat:=if 8<=n then 8 else if 4<=n then 4 else if 2<=n then 2 else 1
def Ks (vs:List Int):Int:=(ij (vs.drop (vs.length-EY vs.length)):Nat)
theorem dg {p:Option Addr}{n c:Nat}{vs:List Int}(hr:Eh .u64 Z p n vs)(h0:0<n)(hc:n<=c)
  (h:∀Z',Ext Z Z'->R (.returned (.U (Ks vs))) Z'):Spec prog 202 #[.slice p n c] Z R:=by
 have hl:vs.length=n:=hr.1;have IP:=hr.big;have A:∀m:Nat,EY n=m->m<=n->(m=1\/m=2\/m=4\/m=8)->AF ((n:Int)-m)/\((0:Int)<=((n:Int)-m)/\((n:Int)-m)<=(n:Int))/\Spec prog 237 #[(.slice (Mp p (Int.toNat ((n:Int)-m)) c 1) (n-Int.toNat ((n:Int)-m)) (c-Int.toNat ((n:Int)-m)))] Z (BV R (λz y=>∃VL iH,z=(.tuple #[.U VL,.I iH])/\R (.returned (.U VL)) y)):=λm hm hmn hk=>by
  have e:Int.toNat ((n:Int)-m)=n-m:=by omega
  rw[e];refine⟨by unfold AF;omega,by omega,?_⟩;have hs:=AT.sub (i:=n-m) (m:=m) hr (by decide) (by omega) hc;rw[Amj (by rw[Amx];omega)]at hs;rw[show n-(n-m)=m by omega];refine rG hs hk λZ' hx=>⟨_,_,rfl,?_⟩;have:=h Z' hx;unfold Ks at this;rw[hl,hm]at this;exact this
 have two:∀m x:Int,x=IntKind.i64.wrap (Int.tdiv m 2)->(m=8\/m=4\/m=2)->x=m/2:=λm x hx hm=>by
  rw[hx];rcases hm with h|h|h<;>subst h<;>rfl
 refine DE.start (DE.Ag ⟨λh8=>⟨by decide,λx1 C=>?_⟩,λh8=>A 8 (by unfold EY;rw[Amc (by omega)]) (by omega) (by omega)⟩);have C:=two _ _ C (.inl rfl);subst C;refine DE.Ag ⟨λh4=>⟨by decide,λx2 G=>?_⟩,λh4=>A 4 (by unfold EY;rw[Amb (by omega),Amc (by omega)]) (by omega) (by omega)⟩;have G:=two _ _ G (.inr (.inl (by decide)));subst G;refine DE.Ag ⟨λh2=>⟨by decide,λx3 e3=>?_⟩,λh2=>A 2 (by unfold EY;rw[Amb (by omega),Amb (by omega),Amc (by omega)]) (by omega) (by omega)⟩;have e3:=two _ _ e3 (.inr (.inr (by decide)));subst e3;exact DE.Ag ⟨λh1=>by omega,λh1=>A 1 (by unfold EY;rw[Amb (by omega),Amb (by omega),Amb (by omega)]) (by omega) (by omega)⟩
end
def Jl (ps:List Pt)(x:Int):Nat:=ps.countP λq=>decide (q.1<=x)
theorem uI {ps:List Pt}{x:Int}{i:Nat}(hi:i<=ps.length)(h1:∀k q,k<i->ps[k]?=some q->q.1<=x)(h2:∀k q,i<=k->ps[k]?=some q->x<q.1):Jl ps x=i:=by
 unfold Jl;rw[<-Anc i ps,List.countP_append];have e1:(ps.take i).countP (λq=>decide (q.1<=x))=(ps.take i).length:=List.countP_eq_length.2 λq G=>by
  obtain⟨k,A⟩:=AnC.1 G;rw[Am5]at A;split at A
  .rename_i C;exact Amt (h1 k q C A)
  .cases A
 have e2:(ps.drop i).countP (λq=>decide (q.1<=x))=0:=List.countP_eq_zero.2 λq G=>by
  obtain⟨k,A⟩:=AnC.1 G;rw[Am3]at A;have:=h2 _ q (Aoc i k) A;simp;omega
 rw[e1,e2,Amp];omega
def mJ (ps:List Pt):Prop:=ps.Pairwise λa b=>a.1<b.1
theorem wy {ps:List Pt}(h:Ji ps=true):mJ ps:=by
 have C:=((Hj ps).1 h).2;unfold mJ;rw[AnG];intro i j hi hj JZ
 induction j with
 | zero=>omega
 | succ j G=>
  have A:=C j ps[j] ps[j+1] (Amf _) (Amf _);by_cases h:i=j
  .subst h;exact A
  .exact Int.lt_trans (G (by omega) (by omega)) A
theorem uJ {ps:List Pt}(h:mJ ps){i j:Nat}{a b:Pt}(A:i<j)(ha:ps[i]?=some a)(hb:ps[j]?=some b):a.1<b.1:=by
 obtain⟨C,rfl⟩:=Amd.1 ha;obtain⟨G,rfl⟩:=Amd.1 hb;exact AnG.1 h i j C G A
theorem AWb {x:Int}(A:0<=x)(C:x<18446744073709551616):IntKind.u64.wrap x=x:=by simp[IntKind.wrap,IntKind.bits,IntKind.signed];omega
theorem AWc {x:Int}(A:0<=x)(C:x<9223372036854775808):IntKind.i64.wrap x=x:=by simp[IntKind.wrap,IntKind.bits,IntKind.signed];omega
section
variable [HL]{Z:Hp}{R:Rr}
theorem uK {f:Nat}(hf:Enters prog f)(AGI:∀a b x Z' R',R' (.returned (.I (if a<=x then -1 else 1))) Z'->Spec prog f #[.agg #[.I a,.U b],.I x] Z' R'){p:Option Addr}{n c:Nat}{ps:List Pt}{x:Int}(hr:AT 2 Ff Z p n ps)(hs:mJ ps)
  (h:∀t,R (.T #[.I (Jl ps x),.bool t]) Z):Spec prog 191 #[.slice p n c,.I x,.func (.func f) #[] #[]] Z R:=by
 have hl:ps.length=n:=hr.1;have IP:=hr.big;refine BU.start ?_
 suffices H:∀g i j:Nat,j-i=g->i<=j->j<=n->(∀k q,k<i->ps[k]?=some q->q.1<=x)->(∀k q,j<=k->ps[k]?=some q->x<q.1)->BU.AR R p n c x (.func (.func f) #[] #[]) n i j Z from
  H n 0 n rfl (Amh _) (Amr _) (λk q hk=>by omega) (λk q hk C=>by have:=(Amd.1 C).1;omega)
 intro g
 induction g using Nat.strongRecOn with
 | _ g ih=>
  intro i j hg JZ hj h1 h2;refine BU.AM ⟨λAv=>⟨by unfold AF;omega,λWE e21=>⟨by decide,λLi e22 E3 e23=>?_⟩⟩,λbH=>⟨λBa=>?_,λBa=>?_⟩⟩
  .rw[AWb (by omega) (by omega)]at e21;have ANS:Li=((i+j)/2:Nat):=by rw[e22,e21];show((i:Int)+j)/2^1=_;omega
   rw[ANS,AWc (by omega) (by omega)]at e23;generalize hm:(i+j)/2=m at *;have him:i<=m/\m<j:=by omega
   obtain⟨q,C⟩:=hr.ex (k:=m) (by omega);obtain⟨b,o,rfl,CH⟩:=Ff.at hr C;rw[e23];refine⟨b,o,rfl,by omega,q.1,q.2,by simpa using CH,f,#[],#[],rfl,hf,AGI _ _ _ _ _ ⟨_,rfl,λVT=>⟨by unfold AF;omega,?_⟩,λUp=>?_⟩⟩
   .have G:q.1<=x:=by
     by_cases hh:q.1<=x
     .exact hh
     .rw[Amb hh]at VT;omega
    refine ih (j-(m+1)) (by omega) (m+1) j rfl (by omega) hj (λk r hk A=>?_) h2;by_cases bO:k=m
    .rw[bO,C]at A;cases A;exact G
    .have:=uJ hs (by omega:k<m) A C;omega
   .have G:x<q.1:=by
     by_cases hh:q.1<=x
     .rw[Amc hh]at Up;omega
     .omega
    refine ih (m-i) (by omega) i m rfl (by omega) (by omega) h1 (λk r hk A=>?_);by_cases bO:k=m
    .rw[bO,C]at A;cases A;exact G
    .have:=uJ hs (by omega:m<k) C A;omega
  .have e:i=j:=by omega
   subst e;have hc:=uI (by omega) h1 h2;obtain⟨q,C⟩:=hr.ex (k:=i) (by omega);obtain⟨b,o,rfl,CH⟩:=Ff.at hr C;refine⟨b,o,rfl,by omega,q.1,q.2,by simpa using CH,f,#[],#[],rfl,hf,AGI _ _ _ _ _ ⟨_,rfl,?_⟩⟩;have:=h (decide ((if q.1<=x then(-1:Int) else 1)=0));rw[hc]at this;exact this
  .have e:i=j:=by omega
   subst e;have hc:=uI (by omega) h1 h2;have:=h false;rw[hc]at this;exact this
omit [HL] in
theorem MV {x:Int}:∀{ps:List Pt},mJ ps->Jl ps x<=ps.length/\(∀k q,k<Jl ps x->ps[k]?=some q->q.1<=x)/\(∀k q,Jl ps x<=k->ps[k]?=some q->x<q.1)
 | [],_=>⟨Amr _,λk q C=>by simp[Jl]at C,λk q _ A=>by simp at A⟩
 | a::l,h=>by
  have hl:=AnH.1 h;obtain⟨h1,h2,h3⟩:=MV (x:=x) (ps:=l) hl.2;by_cases G:a.1<=x
  .have e:Jl (a::l) x=Jl l x+1:=by unfold Jl;rw[List.countP_cons_of_pos (by simpa using G)]
   rw[e];refine⟨by simp;exact h1,λk q C A=>?_,λk q C A=>?_⟩
   .cases k with
    | zero=>simp at A;subst A;exact G
    | succ k=>exact h2 k q (by omega) (by simpa using A)
   .cases k with
    | zero=>omega
    | succ k=>exact h3 k q (by omega) (by simpa using A)
  .have e:Jl (a::l) x=0:=by
    unfold Jl;rw[List.countP_eq_zero];intro q A;rcases Aml.1 A with rfl|A
    .simpa using G
    .have:=hl.1 q A;simp;omega
   rw[e];refine⟨Amh _,λk q C=>by omega,λk q _ A=>?_⟩;cases k with
   | zero=>simp at A;subst A;omega
   | succ k=>
    have:=hl.1 q (Ame (by simpa using A));omega
omit [HL] in
theorem AGJ {ps:List Pt}(hs:mJ ps)(G C:Int){i m:Nat}(hi:i=min (Jl ps G) (Jl ps C))(hm:m=Jl ps C-i):(ps.drop i).take m=Fe ps G C:=by
 obtain⟨a1,a2,a3⟩:=MV (x:=G) hs;obtain⟨m1,m2,m3⟩:=MV (x:=C) hs;have e:ps=ps.take i++((ps.drop i).take m++(ps.drop i).drop m):=by rw[Anc,Anc]
 have hf:Fe ps G C=Fe (ps.take i) G C++(Fe ((ps.drop i).take m) G C++Fe ((ps.drop i).drop m) G C):=by
  conv=>lhs;rw[e]
  unfold Fe;rw[AoG,AoG]
 rw[hf];have f1:Fe (ps.take i) G C=[]:=Apb.2 λq hq=>by
  obtain⟨k,A⟩:=AnC.1 hq;rw[Am5]at A;split at A
  .have:=a2 k q (by omega) A;simp;omega
  .cases A
 have f2:Fe ((ps.drop i).take m) G C=(ps.drop i).take m:=List.filter_eq_self.2 λq hq=>by
  obtain⟨k,A⟩:=AnC.1 hq;rw[Am5]at A;split at A
  .rename_i bO;rw[Am3]at A;have g1:=m2 _ q (by omega) A;have g2:=a3 _ q (by omega) A;simp;omega
  .cases A
 have f3:Fe ((ps.drop i).drop m) G C=[]:=Apb.2 λq hq=>by
  obtain⟨k,A⟩:=AnC.1 hq;rw[Am3,Am3]at A;have:=m3 _ q (by omega) A;simp;omega
 rw[f1,f2,f3];simp
theorem WW {p:Option Addr}{n c:Nat}{ps:List Pt}{GJ C:Int}(hr:AT 2 Ff Z p n ps)(hc:n<=c)(hs:mJ ps)
  (h:∀q m d,AT 2 Ff Z q m (Fe ps GJ C)->m<=d->R (.returned (.slice q m d)) Z):Spec prog 157 #[.slice p n c,.I GJ,.I C] Z R:=by
 have hl:ps.length=n:=hr.1;have c1:∀a b x Z' R',R' (.returned (.I (if a<=x then -1 else 1))) Z'->Spec prog 192 #[.agg #[.I a,.U b],.I x] Z' R':=λa b x Z' R' G=>R7.start λ_=>⟨λA=>by rw[Amc A]at G;exact G,λA=>by rw[Amb A]at G;exact G⟩;have c2:∀a b x Z' R',R' (.returned (.I (if a<=x then -1 else 1))) Z'->Spec prog 193 #[.agg #[.I a,.U b],.I x] Z' R':=λa b x Z' R' G=>R9.start λ_=>⟨λA=>by rw[Amc A]at G;exact G,λA=>by rw[Amb A]at G;exact G⟩;have ha:=(MV (x:=GJ) hs).1;have hm:=(MV (x:=C) hs).1;refine V0.start (uK (λargs w=>call192 args w) c1 hr hs λt=>⟨_,_,rfl,uK (λargs w=>call193 args w) c2 hr hs λt'=>⟨_,_,rfl,?_⟩⟩);have e:(if((Jl ps C:Nat):Int)<(Jl ps GJ:Nat) then((Jl ps C:Nat):Int) else(Jl ps GJ:Nat))=((min (Jl ps GJ) (Jl ps C):Nat):Int):=by split<;>omega
 rw[e];generalize hi:min (Jl ps GJ) (Jl ps C)=i;have W5:=AT.sub (i:=i) (m:=Jl ps C-i) hr (by decide) (by omega) hc;rw[AGJ hs GJ C hi.symm rfl]at W5;refine⟨by omega,?_⟩;have:=h _ _ (c-i) W5 (by omega);simpa using this
end
theorem IU {α:Type}{P:α->Bool}:∀{l:List α} {k:Nat},k<=l.length->(∀j u,j<k->l[j]?=some u->P u=true)->(∀u,l[k]?=some u->P u=false)->(l.takeWhile P).length=k
 | [],k,A,_,_=>by simp at A;subst A;rfl
 | a::l,0,_,_,C=>by simp[List.takeWhile,C a rfl]
 | a::l,k+1,A,h1,C=>by
  have ha:P a=true:=h1 0 a (by omega) rfl;simp only[List.takeWhile,ha,AnN];rw[IU (k:=k) (by simp at A;omega) (λj u hj G=>h1 (j+1) u (by omega) (by simpa using G)) (λu G=>C u (by simpa using G))]
def AV (s:ByteArray):Nat:=(s.data.toList.takeWhile EP).length
theorem NZ (s:ByteArray):AV s<=s.size:=by
 unfold AV;exact AnL (Aoz (List.takeWhile_sublist _)) (Aqe (Anf (xs:=s.data)))
section
variable [HL]{Z:Hp}{R:Rr}
omit [HL] in
theorem ACL {s:ByteArray}{h:Nat}(C:h<=s.size):YF prog (Instr.sliceAt 9 (.string s) none (some (.I (h:Int))) none) Z (.string (s.extract 0 h)):=λw _=>by
 rw[run_sliceAt_string (h:=underlying9)];have A:(h:Int)<=s.size:=by omega
 simp[Instr.slice,run_underlying underlying9,Instr.sliceBounds,run_sliceBound,A,Result.andThen]
omit [HL] in
theorem Xa {s:ByteArray}{l:Nat}(C:l<=s.size):YF prog (Instr.sliceAt 9 (.string s) (some (.I (l:Int))) none none) Z (.string (s.extract l s.size)):=λw _=>by
 rw[run_sliceAt_string (h:=underlying9)];have A:(l:Int)<=s.size:=by omega
 simp[Instr.slice,run_underlying underlying9,Instr.sliceBounds,run_sliceBound,A,Result.andThen]
omit [HL] in
theorem byte_at {s:ByteArray}{k:Nat}(A:k<s.size):∃u,s.data[k]?=some u/\s.data.toList[k]?=some u:=⟨s.data[k]'A,by rw[Aol],by rw[Ano,Aol]⟩
theorem QY {s:ByteArray}(hb:s.size<=4611686018427387904)(h:R (.returned (.I (AV s))) Z):Spec prog 179 #[.string s] Z R:=by
 have hlen:s.data.toList.length=s.size:=Anf (xs:=s.data);refine J9.start ?_
 suffices H:∀g k:Nat,s.size-k=g->k<=s.size->(∀j u,j<k->s.data.toList[j]?=some u->EP u=true)->J9.E5 R s k Z from H s.size 0 rfl (Amh _) (λj u hj=>by omega)
 intro g
 induction g with
 | zero=>
  intro k hg hk G;have e:AV s=k:=IU (by omega) G (λu hu=>by have:=(Amd.1 hu).1;omega);rw[e]at h;exact J9.Ag ⟨λAv=>by omega,λ_=>h⟩
 | succ g ih=>
  intro k hg hk G;obtain⟨u,hu,D4⟩:=byte_at (show k<s.size by omega);have A:EP u=false->R (.returned (.I k)) Z:=λhd=>by
   have e:AV s=k:=IU (by omega) G (λv C=>by rw[D4]at C;cases C;exact hd);rw[e]at h;exact h
  refine J9.Ag ⟨λ_=>⟨u,by omega,by simpa using hu,fO.start ⟨λoX=>⟨_,rfl,λht=>?_,λhf=>A ?_⟩,λoX=>⟨false,rfl,⟨λht=>(by cases ht),λ_=>A ?_⟩⟩⟩⟩,λhh=>by omega⟩
  .refine⟨AI (by omega:k<s.size) hb,ih (k+1) (by omega) (by omega) λj v hj C=>?_⟩;by_cases jl:j=k
   .rw[jl,D4]at C;cases C;have:=Amg ht;exact Amt (by omega)
   .exact G j v (by omega) C
  .have:=Am4 hf;exact Ams (by omega)
  .exact Ams (by omega)
end
abbrev Ka (n:Nd)(p:Option Addr)(k c:Nat)(q:Option Addr)(m d:Nat):Value:=.agg #[.I n.kind,.I n.op,.string n.text,.slice p k c,.I n.width,.I n.back,.I n.Be,.slice q m d,.bool n.bool,.I n.parts]
def Ck (n:Nd):Nd:=
 if n.kind=1 then⟨n.kind,0,n.text,[],0,0,0,[],false,0⟩
 else if n.kind=2 then⟨n.kind,0,ByteArray.mk #[],[],0,n.back,0,[],false,0⟩
 else if n.kind=3 then⟨n.kind,0,ByteArray.mk #[],[],n.width,n.back,0,[],false,0⟩
 else if n.kind=4 then⟨n.kind,n.op,ByteArray.mk #[],[],0,0,0,[],false,n.parts⟩
 else if n.kind=5 then⟨n.kind,n.op,ByteArray.mk #[],[],0,0,n.Be,[],false,n.parts⟩
 else if n.kind=6 then⟨n.kind,n.op,ByteArray.mk #[],[],0,0,n.Be,[],n.bool,n.parts⟩
 else⟨n.kind,0,ByteArray.mk #[],[],0,0,0,[],false,n.parts⟩
theorem ACN:∀w,(Go.sizeOf 2).run prog w=.ok 1 w:=λw=>by kernel_rfl
theorem Tz:∀w,(Go.sizeOf 3).run prog w=.ok 1 w:=λw=>by kernel_rfl
theorem AJy:∀w,(Go.sizeOf 4).run prog w=.ok 1 w:=λw=>by kernel_rfl
theorem AWd:∀w,(Go.sizeOf 9).run prog w=.ok 1 w:=λw=>by kernel_rfl
theorem ACO:∀w,(Go.sizeOf 44).run prog w=.ok 10 w:=λw=>by kernel_rfl
theorem T1 {c:Array Value}{l:List Value}(h:l.length=c.size):SP c 0 l=l.toArray:=by
 apply Array.ext_getElem?
 intro j;rw[XF l c 0 j (by omega)];split
 .simp
 .rename_i A;rw[ApY (by omega),Apm,AoQ (by omega)]
section
variable [HL]{Z:Hp}{R:Rr}
omit [HL] in
theorem ACP {O:Hp}{b T:Nat}:∀{l:List Value} {c:Array Value} {o:Nat},O b=some (.cells c T (0,0))->(∀j v,l[j]?=some v->c[o+j]?=some v)->Af O b o l
 | [],_,_,_,_=>trivial
 | v::l,c,o,hb,h=>⟨by unfold Hp.ld;rw[hb];simpa using h 0 v rfl,ACP hb λj u A=>by have:=h (j+1) u (by simpa using A);rwa[show o+(j+1)=o+1+j by omega]at this⟩
omit [HL] in
theorem uL {O:Hp}{b:Nat}{o:Obj}(hb:Z b=none)(h:Ext Z O):Ext Z (O.set b o):=λk u A=>by
 rw[Hp.AN (λe=>by rw[e,hb]at A;cases A)];exact h k u A
set_option maxHeartbeats 4000000 in
theorem wz {n:Nd}{p q:Option Addr}{k c m d:Nat}(h:∀Z',Ext Z Z'->R (.returned (Ka (Ck n) none 0 0 none 0 0)) Z'):Spec prog 128 #[Ka n p k c q m d] Z R:=by
 refine bF.start λ_ _ b hb=>?_;have fin:∀(O:Hp) (c:Array Value) (T:Nat),O b=some (.cells c T (0,0))->Ext Z O->c=#[.I (Ck n).kind,.I (Ck n).op,.string (Ck n).text,.N,.I (Ck n).width,.I (Ck n).back,.I (Ck n).Be,.N,.bool (Ck n).bool,.I (Ck n).parts]->
   ∃ABd ABe ABf ABg ABh ABi ABj ABk ABl ABm ABn ABo ABp ABq,Af O b 0 [.I ABd,.I ABe,.string ABf,.slice ABg ABh ABi,.I ABj,.I ABk,.I ABl,.slice ABm ABn ABo,.bool ABp,.I ABq]/\R (.returned (.agg #[.I ABd,.I ABe,.string ABf,.slice ABg ABh ABi,.I ABj,.I ABk,.I ABl,.slice ABm ABn ABo,.bool ABp,.I ABq])) O:=λO c T hτ hx hc=>
  ⟨_,_,_,_,_,_,_,_,_,_,_,_,_,_,ACP hτ λj v hv=>by rw[hc,Anq];simpa using hv,h O hx⟩
 have st:∀{O:Hp} {c:Array Value} {T U o:Nat} {v:Value} {Φ:Unit->Hp->Prop},(∀w,(Go.sizeOf U).run prog w=.ok 1 w)->O b=some (.cells c T (0,0))->Ext Z O->o+1<=c.size->v.cells=#[v]->v.oneCell'=true->
   (∀(O':Hp) (c':Array Value),c'=SP c o [v]->c'.size=c.size->O' b=some (.cells c' T (0,0))->Ext Z O'->Φ () O')->AJ prog (Instr.storeAt U (.pointer (aD b o)) v) O Φ:=fun {O c T U o v Φ} hz hτ hx ho h1 h2 hk=>by
  refine AJ.store hz hτ (by rw[h1];rfl) (by simpa using ho) (λu hu=>by rw[h1]at hu;simp at hu;rw[hu];exact h2) ?_;rw[h1];exact hk _ _ rfl (Is _ _ _) (Hp.AA _ _ _) (uL hb hx)
 have st0:∀{Φ:Unit->Hp->Prop},(∀(O:Hp) (c:Array Value),c=#[.I n.kind,.I 0,(.string (ByteArray.mk #[])),.N,.I 0,.I 0,.I 0,.N,.bool false,.I 0]->c.size=10->O b=some (.cells c 44 (0,0))->Ext Z O->Φ () O)->
   AJ prog (Instr.storeAt 44 (.pointer (aD b 0)) (.agg #[.I n.kind,.I 0,(.string (ByteArray.mk #[])),.N,.I 0,.I 0,.I 0,.N,.bool false,.I 0])) (Hp.set Z b (.cells #[.I 0,.I 0,(.string (ByteArray.mk #[])),.N,.I 0,.I 0,.I 0,.N,.bool false,.I 0] 44 (0,0))) Φ:=fun {Φ} hk=>by
  refine AJ.store ACO (Hp.AA _ _ _) rfl (by simp) (by simp[Value.cells,Value.oneCell']) ?_;exact hk _ _ (T1 rfl) (by rw[Is];rfl) (Hp.AA _ _ _) (uL hb (Ext.set hb))
 refine st0 λO c0 e0 z0 g0 x0=>?_;refine⟨λh1=>?_,λh1=>⟨λh2=>?_,λh2=>⟨λh3=>?_,λh3=>⟨λh4=>?_,λh4=>⟨λh5=>?_,λh5=>⟨λh6=>?_,λh6=>?_⟩⟩⟩⟩⟩⟩
 .refine st AWd g0 x0 (by omega) rfl rfl λG c1 A z1 C x1=>fin G c1 _ C x1 ?_;subst e0 A;unfold Ck;simp only[h1,Aou];rfl
 .refine st ACN g0 x0 (by omega) rfl rfl λG c1 A z1 C x1=>fin G c1 _ C x1 ?_;subst e0 A;unfold Ck;simp only[h2,Aou];rfl
 .refine st ACN g0 x0 (by omega) rfl rfl λG c1 A z1 C x1=>?_;refine st ACN C x1 (by omega) rfl rfl λO2 c2 e2 z2 g2 x2=>fin O2 c2 _ g2 x2 ?_;subst e0 A e2;unfold Ck;simp only[h3,Aou];rfl
 .refine st Tz g0 x0 (by omega) rfl rfl λG c1 A z1 C x1=>?_;refine st Tz C x1 (by omega) rfl rfl λO2 c2 e2 z2 g2 x2=>fin O2 c2 _ g2 x2 ?_;subst e0 A e2;unfold Ck;simp only[h4,Aou];rfl
 .refine st Tz g0 x0 (by omega) rfl rfl λG c1 A z1 C x1=>?_;refine st Tz C x1 (by omega) rfl rfl λO2 c2 e2 z2 g2 x2=>?_;refine st Tz g2 x2 (by omega) rfl rfl λO3 c3 e3 z3 g3 x3=>fin O3 c3 _ g3 x3 ?_;subst e0 A e2 e3;unfold Ck;simp only[h5,Aou];rfl
 .refine st Tz g0 x0 (by omega) rfl rfl λG c1 A z1 C x1=>?_;refine st Tz C x1 (by omega) rfl rfl λO2 c2 e2 z2 g2 x2=>?_;refine st AJy g2 x2 (by omega) rfl rfl λO3 c3 e3 z3 g3 x3=>?_;refine st Tz g3 x3 (by omega) rfl rfl λO4 c4 e4 z4 g4 x4=>fin O4 c4 _ g4 x4 ?_;subst e0 A e2 e3 e4;unfold Ck;simp only[h6,Aou];rfl
 .refine st Tz g0 x0 (by omega) rfl rfl λG c1 A z1 C x1=>fin G c1 _ C x1 ?_;subst e0 A;unfold Ck;simp only[h1,h2,h3,h4,h5,h6,AoH];rfl
end
section
variable {Z:Hp}{R:Rr}
theorem E1 {k:Int}(h:R (.returned (.bool (BR k))) Z):Spec prog 132 #[.I k] Z R:=by
 refine PR.start ⟨λA=>?_,λA=>?_⟩
 .rw[show BR k=decide (k<=10) by unfold BR;rw[Amt A];rfl]at h;exact h
 .rw[show BR k=false by unfold BR;rw[Ams A];rfl]at h;exact h
theorem WX {k:Int}(h:R (.returned (.bool (decide (11<=k/\k<=13)))) Z):Spec prog 136 #[.I k] Z R:=by
 refine Ym.start ⟨λA=>?_,λA=>?_⟩
 .rw[show decide (11<=k/\k<=13)=decide (k<=13) from Ane.2 ⟨λh=>h.2,λh=>⟨A,h⟩⟩]at h;exact h
 .rw[show decide (11<=k/\k<=13)=false from Ams (λC=>A C.1)]at h;exact h
theorem VU {v l:Int}(h:R (.returned (.bool (QR v l))) Z):Spec prog 131 #[.I v,.I l] Z R:=by
 refine Yf.start ⟨λA=>?_,λA=>?_⟩
 .rw[show QR v l=decide (v<2147483648) by unfold QR;rw[Amt A];rfl]at h;exact h
 .rw[show QR v l=false by unfold QR;rw[Ams A];rfl]at h;exact h
theorem fh {k:Int}(h:R (.returned (.bool (decide (1<=k/\k<=4)))) Z):Spec prog 133 #[.I k] Z R:=by
 refine bG.start ⟨λA=>?_,λA=>?_⟩
 .rw[show decide (1<=k/\k<=4)=decide (k<=4) from Ane.2 ⟨λh=>h.2,λh=>⟨A,h⟩⟩]at h;exact h
 .rw[show decide (1<=k/\k<=4)=false from Ams (λC=>A C.1)]at h;exact h
theorem fi {s:ByteArray}(h:R (.returned (.bool (DR s))) Z):Spec prog 134 #[.string s] Z R:=by
 refine ay.start (QN ?_);exact⟨_,rfl,h⟩
theorem KH.at {p:Option Addr}{n i:Nat}{A:List Mt}{x:Mt}(G:AT 3 KH Z p n A)(hx:A[i]?=some x):∃b o,p=some ⟨b,o,none⟩/\Af Z b (o+i*3) [.I x.kind,.string x.name,.string x.val]:=by
 obtain⟨b,o,vs,hp,rfl,C⟩:=AT.idx G hx;exact⟨b,o,hp,C⟩
def Uh (m:Mt):Bool:=decide (1<=m.kind/\m.kind<=4)&&DR m.name&&decide (m.val.size<=256)
theorem mK {p:Option Addr}{n c:Nat}{A:List Mt}(hr:AT 3 KH Z p n A)(h:R (.returned (.I (JD DR A))) Z):Spec prog 78 #[.slice p n c] Z R:=by
 have hl:A.length=n:=hr.1;refine I7.start ⟨λh8=>?_,λh8=>?_⟩
 .rw[show JD DR A=41 by unfold JD;rw[Amc (by omega)]]at h;exact h
 have hm:JD DR A=if A.all Uh then 0 else 40:=by unfold JD;rw[Amb (by omega)];rfl
 rw[hm]at h
 suffices H:∀g k:Nat,n-k=g->k<=n->A.all Uh=(A.drop k).all Uh->I7.PF R p n c n k Z from H n 0 rfl (Amh _) rfl
 intro g
 induction g with
 | zero=>
  intro k hg hk G;rw[Amm (by omega)]at G;rw[G]at h;exact I7.Kg ⟨λAv=>by omega,λ_=>h⟩
 | succ g ih=>
  intro k hg hk G;have DI:k<n:=by omega
  obtain⟨x,hx⟩:=hr.ex DI;obtain⟨b,o,rfl,CH⟩:=KH.at hr hx;rw[BA hx,Apd]at G;have C:Uh x=false->R (.returned (.I 40)) Z:=λhf=>by
   rw[hf]at G;rw[G]at h;exact h
  refine I7.Kg ⟨λ_=>⟨b,o,rfl,by omega,x.kind,x.name,x.val,by simpa using CH,λ_=>fh ⟨_,rfl,λhf=>C ?_,λht=>fi ⟨_,rfl,λhf=>C ?_,λhn=>⟨λhv=>C ?_,λhv=>⟨AI DI hr.big,ih (k+1) (by omega) (by omega) ?_⟩⟩⟩⟩⟩,λhh=>by omega⟩
  .unfold Uh;rw[hf];rfl
  .unfold Uh;rw[hf];simp
  .unfold Uh;rw[show decide (x.val.size<=256)=false from Ams (by omega)];simp
  .rw[G,show Uh x=true by unfold Uh;rw[ht,hn,show decide (x.val.size<=256)=true from Amt (by omega)];rfl,Anw]
end
section
variable {Z:Hp}{R:Rr}
theorem rH {n:Nd}{p q:Option Addr}{k c m d:Nat}(C:HP 1 Z q m (n.names.map .string))(h:R (.returned (.bool (QS DR n))) Z):Spec prog 129 #[Ka n p k c q m d] Z R:=by
 have hl:n.names.length=m:=by have:=C.1;simpa using this
 refine I2.start λ_=>?_
 suffices H:∀g i:Nat,m-i=g->i<=m->n.names.all DR=(n.names.drop i).all DR->I2.Sc R n.kind n.op n.text p k c n.width n.back n.Be q m d n.bool n.parts q m d m i Z from H m 0 rfl (Amh _) rfl
 have IP:m<=4611686018427387904:=C.2.1;intro g
 induction g with
 | zero=>
  intro i hg hi A;rw[Amm (by omega)]at A;have e:QS DR n=(decide (m=0)||decide (n.Be≠0)):=by unfold QS;rw[A,hl];rfl
  rw[e]at h;refine I2.FY ⟨λAv=>by omega,λ_=>⟨λh0=>?_,λh0=>?_⟩⟩
  .rw[Amt (show m=0 by omega)]at h;exact h
  .rw[Ams (show ¬m=0 by omega)]at h;exact h
 | succ g ih=>
  intro i hg hi A;have BT:i<m:=by omega
  obtain⟨x,G⟩:∃x,n.names[i]?=some x:=⟨_,Amf (by omega)⟩;obtain⟨b,o,rfl,CH⟩:=HP.at1 C (k:=i) (v:=.string x) (by rw[Am8,G];rfl);rw[BA G,Apd]at A;refine I2.FY ⟨λ_=>⟨b,o,rfl,by omega,x,by simpa using CH,fi ⟨_,rfl,λhf=>?_,λht=>⟨AI BT IP,ih (i+1) (by omega) (by omega) ?_⟩⟩⟩,λhh=>by omega⟩
  .have e:QS DR n=false:=by unfold QS;rw[A,hf];rfl
   rw[e]at h;exact h
  .rw[A,ht,Anw]
theorem ACQ {a b:ByteArray}:(ByteArray.toList a==ByteArray.toList b)=decide (a.data.toList=b.data.toList):=by
 rw[ByteArray.toList_eq,ByteArray.toList_eq];by_cases h:a.data.toList=b.data.toList
 .simp[h]
 .rw[Ams h];exact AoN.2 h
theorem AWe {a b:ByteArray}:(ByteArray.toList a==ByteArray.toList b)=decide (a=b):=by
 rw[ACQ];exact Ane.2 ⟨λh=>Ape (AnB.1 h),λh=>by rw[h]⟩
def IV (a b:Nd):Bool:=decide (a.kind=b.kind/\a.op=b.op/\a.text=b.text/\a.width=b.width/\a.back=b.back/\a.Be=b.Be/\a.bool=b.bool/\a.parts=b.parts)
theorem rI {a b:Nd}{p p' q q':Option Addr}{k c k' c' m d m' d':Nat}(h:R (.returned (.bool (IV a b))) Z):Spec prog 127 #[Ka a p k c q m d,Ka b p' k' c' q' m' d'] Z R:=by
 have no:¬(a.kind=b.kind/\a.op=b.op/\a.text=b.text/\a.width=b.width/\a.back=b.back/\a.Be=b.Be/\a.bool=b.bool/\a.parts=b.parts)->R (.B false) Z:=λhn=>by
  rw[show IV a b=false from Ams hn]at h;exact h
 have C:a.kind=b.kind/\a.op=b.op/\a.text=b.text/\a.width=b.width/\a.back=b.back/\a.Be=b.Be/\a.bool=b.bool->R (.returned (.bool (decide (a.parts=b.parts)))) Z:=λG=>by
  rw[show IV a b=decide (a.parts=b.parts) from Ane.2 ⟨λg=>g.2.2.2.2.2.2.2,λg=>⟨G.1,G.2.1,G.2.2.1,G.2.2.2.1,G.2.2.2.2.1,G.2.2.2.2.2.1,G.2.2.2.2.2.2,g⟩⟩]at h;exact h
 refine V6.start λ_ _=>⟨λh1=>⟨λh2=>⟨λA=>?_,λA=>no ?_⟩,λh2=>no λg=>h2 g.2.1⟩,λh1=>no λg=>h1 g.1⟩
 .rw[AWe]at A;have A:=Amg A;refine⟨λh4=>⟨λh5=>⟨λh6=>⟨λt1=>⟨λt2=>C ⟨h1,h2,A,h4,h5,h6,t1.trans t2.symm⟩,λt2=>no λg=>?_⟩,λt1=>⟨λt2=>no λg=>?_,λt2=>C ⟨h1,h2,A,h4,h5,h6,t1.trans t2.symm⟩⟩⟩,λh6=>no λg=>h6 g.2.2.2.2.2.1⟩,λh5=>no λg=>h5 g.2.2.2.2.1⟩,λh4=>no λg=>h4 g.2.2.2.1⟩
  .have:=g.2.2.2.2.2.2.1;rw[t1,t2]at this;cases this
  .have:=g.2.2.2.2.2.2.1;rw[t1,t2]at this;cases this
 .rw[AWe]at A;exact λg=>Am4 A g.2.2.1
end
def FG (s:ByteArray):Bool:=
 if AV s=0 then false else if 1<AV s/\s.data[0]?=some 48 then false else if AV s=s.size then decide (AV s<=15)
 else decide (s.data[AV s]?=some 46/\0<AV (s.extract (AV s+1) s.size)/\AV s+1+AV (s.extract (AV s+1) s.size)=s.size/\AV s+AV (s.extract (AV s+1) s.size)<=15)
theorem JP {u:UInt8}{k:Nat}(A:k<256):((u.toNat:Nat):Int)=k↔u=UInt8.ofNat k:=by
 constructor
 .intro h;apply AoM.1
  rw[Ap3];omega
 .rintro rfl
  rw[Ap3];omega
section
variable {Z:Hp}{R:Rr}
theorem bU {s:ByteArray}(hb:s.size<=4611686018427387904)(h:R (.returned (.bool (FG s))) Z):Spec prog 130 #[.string s] Z R:=by
 have hle:=NZ s;refine Ye.start (QY hb ⟨_,rfl,λh0=>?_,λh0=>⟨_,ACL hle,?_⟩⟩)
 .rw[show FG s=false by unfold FG;rw[Amc (by omega)]]at h;exact h
 have J2:(s.extract 0 (AV s)).size=AV s:=by rw[AnX];omega
 have A:¬(1<AV s/\s.data[0]?=some 48)->Br ((AV s:Int)=(s.size:Int)) (R (.returned (.bool (decide ((AV s:Int)<=15)))) Z) (AF ((AV s:Int)+1)/\∃s24,YF prog (Instr.sliceAt 9 (.string s) (some (.I ((AV s:Int)+1))) none none) Z (.string s24)/\Spec prog 179 #[.string s24] Z (BV R (CI .i64 λG AK=>∃u28:UInt8,0<=(AV s:Int)/\(ByteArray.data s)[Int.toNat (AV s:Int)]?=some u28/\Br (((u28.toNat:Int):Int)=46) (Br (0<G) (AF ((AV s:Int)+1)/\AF (((AV s:Int)+1)+G)/\Br (((((AV s:Int)+1)+G):Int)=(s.size:Int)) (AF ((AV s:Int)+G)/\R (.returned (.bool (decide ((((AV s:Int)+G):Int)<=15)))) AK) (R (.B false) AK)) (R (.B false) AK)) (R (.B false) AK)))):=λhn=>by
  refine⟨λhe=>?_,λhe=>⟨by unfold AF;omega,s.extract (AV s+1) s.size,Xa (l:=AV s+1) (by omega),?_⟩⟩
  .rw[show FG s=decide ((AV s:Int)<=15) by unfold FG;rw[Amb (by omega),Amb hn,Amc (by omega)];exact Ane.2 (by omega)]at h;exact h
  have AcJ:(s.extract (AV s+1) s.size).size=s.size-(AV s+1):=by rw[AnX];omega
  have hm:=NZ (s.extract (AV s+1) s.size);refine QY (by omega) ?_;obtain⟨u,C,_⟩:=byte_at (show AV s<s.size by omega);have hO:FG s=decide (s.data[AV s]?=some 46/\0<AV (s.extract (AV s+1) s.size)/\AV s+1+AV (s.extract (AV s+1) s.size)=s.size/\AV s+AV (s.extract (AV s+1) s.size)<=15):=by unfold FG;rw[Amb (by omega),Amb hn,Amb (by omega)]
  rw[hO,C]at h;generalize AV (s.extract (AV s+1) s.size)=m at *;have k8:=JP (u:=u) (k:=46) (by decide);have no:¬(u=46/\0<m/\AV s+1+m=s.size/\AV s+m<=15)->R (.B false) Z:=λhh=>by
   rw[Ams (by rw[Ami];exact hh)]at h;exact h
  refine⟨_,rfl,u,by omega,by simpa using C,λik=>⟨λh0m=>⟨by unfold AF;omega,by unfold AF;omega,λhs=>⟨by unfold AF;omega,?_⟩,λhs=>no λg=>hs (by omega)⟩,λh0m=>no λg=>h0m (by omega)⟩,λik=>no λg=>ik (k8.2 g.1)⟩;rw[show decide (some u=some 46/\0<m/\AV s+1+m=s.size/\AV s+m<=15)=decide (((AV s:Int)+m)<=15) from Ane.2 ⟨λg=>by omega,λg=>⟨by rw[k8.1 ik];rfl,by omega,by omega,by omega⟩⟩]at h;exact h
 refine TZ.start ⟨λh1=>?_,λh1=>⟨false,rfl,λht=>(by cases ht),λ_=>A (by omega)⟩⟩;obtain⟨u,C,_⟩:=byte_at (show 0<s.size by omega);have KQ:=JP (u:=u) (k:=48) (by decide);have D4:(s.extract 0 (AV s)).data[0]?=some u:=by
  rw[An8,Ao0];rw[Amc (by have:s.data.size=s.size:=rfl;omega)];simpa using C
 refine⟨u,by omega,by simpa using D4,_,rfl,λht=>?_,λhf=>A ?_⟩
 .have:=KQ.1 (Amg ht);rw[show FG s=false by unfold FG;rw[Amb (by omega),Amc ⟨by omega,by rw[C,this];rfl⟩]]at h;exact h
 .rintro⟨_,g⟩
  rw[C,Ami]at g;exact Am4 hf (KQ.2 g)
end
def Fg (n:Nd):Bool:=
 if n.kind=1 then FG n.text else if n.kind=2 then QR n.back 0 else if n.kind=3 then QR n.width 1&&QR n.back 0
 else if n.kind=4 then decide (n.parts=1/\1<=n.op/\n.op<=12)
 else if n.kind=5 then decide (n.parts=1/\1<=n.op/\n.op<=5/\(n.Be=0\/n.Be=1\/n.Be=2))
 else if n.kind=6 then decide (n.parts=2/\1<=n.op/\n.op<=13/\(n.Be=0\/n.Be=3\/n.Be=4))&&(!n.bool||BR n.op)
 else decide (n.kind=7/\n.parts=1)
def DY (n:Nd):Bool:=IV n (Ck n)&&QS DR n&&!(decide (0<n.mt.length)&&decide (n.kind≠2)&&decide (n.kind≠3))&&Fg n
section
variable {Z:Hp}{R:Rr}
theorem w5 {n:Nd}{p q:Option Addr}{k c m d:Nat}(hk:n.mt.length=k)(hr:HP 1 Z q m (n.names.map .string))(hb:n.text.size<=4611686018427387904)(h:∀Z',Ext Z Z'->R (.returned (.bool (DY n))) Z'):Spec prog 77 #[Ka n p k c q m d] Z R:=by
 refine Yb.start λ_=>wz λZ1 hx=>⟨_,_,_,_,_,_,_,_,_,_,_,_,_,_,rfl,rI ⟨_,rfl,λhf=>?_,λC=>rH (hr.mono hx) ⟨_,rfl,λhf=>?_,λhn=>?_⟩⟩⟩
 .have:=h Z1 hx;rw[show DY n=false by unfold DY;rw[hf];rfl]at this;exact this
 .have:=h Z1 hx;rw[show DY n=false by unfold DY;rw[C,hf];rfl]at this;exact this
 have A:=h Z1 hx;have e:DY n=(!(decide (0<n.mt.length)&&decide (n.kind≠2)&&decide (n.kind≠3))&&Fg n):=by unfold DY;rw[C,hn];rfl
 rw[e]at A;clear e h;have fin:¬(0<n.mt.length/\n.kind≠2/\n.kind≠3)->∀t,Fg n=t->R (.B t) Z1:=λCU t C=>by
  have e2:(!(decide (0<n.mt.length)&&decide (n.kind≠2)&&decide (n.kind≠3)))=true:=by
   rw[Bool.not_eq_true',An2];intro hc;simp only[Amn,Amq]at hc;exact CU ⟨hc.1.1,hc.1.2,hc.2⟩
  rw[e2,Anw,C]at A;exact A
 refine⟨λhm=>⟨λh2=>⟨λh3=>?_,λh3=>?_⟩,λh2=>?_⟩,λhm=>?_⟩
 .rw[show(!(decide (0<n.mt.length)&&decide (n.kind≠2)&&decide (n.kind≠3)))=false by rw[Amt (show 0<n.mt.length by omega),Amt h2,Amt h3];rfl,Anv]at A;exact A
 all_goals
  have fin:=fin (by omega);clear A C hn;refine⟨λk1=>bU hb ⟨_,rfl,?_⟩,λk1=>⟨λk2=>VU ⟨_,rfl,?_⟩,λk2=>⟨λk3=>VU ⟨_,rfl,λC=>VU ⟨_,rfl,?_⟩,λhf=>?_⟩,λk3=>⟨λk4=>⟨λhp=>⟨λG=>?_,λG=>?_⟩,λhp=>?_⟩,λk4=>⟨λk5=>⟨λhp=>⟨λG=>⟨λA7=>⟨λg0=>?_,λg0=>⟨λg1=>?_,λg1=>?_⟩⟩,λA7=>?_⟩,λG=>?_⟩,λhp=>?_⟩,λk5=>⟨λk6=>⟨λhp=>⟨λG=>⟨λA7=>⟨λg0=>⟨λbf=>?_,λbt=>E1 ⟨_,rfl,?_⟩⟩,λg0=>⟨λg3=>⟨λbf=>?_,λbt=>E1 ⟨_,rfl,?_⟩⟩,λg3=>⟨λg4=>⟨λbf=>?_,λbt=>E1 ⟨_,rfl,?_⟩⟩,λg4=>?_⟩⟩⟩,λA7=>?_⟩,λG=>?_⟩,λhp=>?_⟩,λk6=>⟨λk7=>?_,λk7=>?_⟩⟩⟩⟩⟩⟩⟩<;>(refine fin _ ?_;clear fin;unfold Fg;simp[*])
end
section
variable {Z:Hp}{R:Rr}
abbrev tyV (x:Int×Int):Value:=.tuple #[.I x.1,.I x.2]
def SE (n:Nd)(a:Int):Int×Int:=if a=(if n.op=11\/n.op=12 then 2 else 3) then(2,0) else(0,191)
def WY (a:Int):Int×Int:=if a=2 then(2,0) else(0,191)
def W6 (a:Int):Int×Int:=if a=3 then(0,191) else(a,0)
theorem rJ {w:Option Addr}{n:Nd}{p q r:Option Addr}{k c m d s t:Nat}{l:List Int}{a:Int}(hr:Eh .i64 Z r s l)(ha:l[0]?=some a)(h:R (.returned (tyV (SE n a))) Z):Spec prog 80 #[.pointer w,Ka n p k c q m d,.slice r s t] Z R:=by
 have hs:l.length=s:=hr.1;have h0:=(Amd.1 ha).1;obtain⟨b,o,rfl,CH⟩:=Eh.at hr ha;have go:∀z:Int,(if n.op=11\/n.op=12 then 2 else 3)=z->Dg.GX R (some ⟨b,o,none⟩) s t z Z:=λz hz=>by
  unfold SE at h;rw[hz]at h;refine Dg.Fv ⟨b,o,rfl,by omega,a,by simpa using CH,λAi=>?_,λA=>?_⟩
  .rw[Amb Ai]at h;exact h
  .rw[Amc (Amy.1 A)]at h;exact h
 exact Dg.start λ_=>⟨λC=>go 2 (Amc (.inl C)),λC=>⟨λG=>go 2 (Amc (.inr G)),λG=>go 3 (Amb (by omega))⟩⟩
theorem w6 {w:Option Addr}{n:Nd}{p q r:Option Addr}{k c m d s t:Nat}{l:List Int}{a:Int}(G:Eh .i64 Z r s l)(C:l[0]?=some a)(h:R (.returned (tyV (WY a))) Z):Spec prog 81 #[.pointer w,Ka n p k c q m d,.slice r s t] Z R:=by
 have hs:l.length=s:=G.1;have h0:=(Amd.1 C).1;obtain⟨b,o,rfl,CH⟩:=Eh.at G C;unfold WY at h;refine HV.start λ_=>⟨b,o,rfl,by omega,a,by simpa using CH,λAi=>?_,λA=>?_⟩
 .rw[Amb Ai]at h;exact h
 .rw[Amc (Amy.1 A)]at h;exact h
theorem w7 {w:Option Addr}{n:Nd}{p q r:Option Addr}{k c m d s t:Nat}{l:List Int}{a:Int}(hr:Eh .i64 Z r s l)(G:l[0]?=some a)(h:R (.returned (tyV (W6 a))) Z):Spec prog 83 #[.pointer w,Ka n p k c q m d,.slice r s t] Z R:=by
 have hs:l.length=s:=hr.1;have h0:=(Amd.1 G).1;obtain⟨b,o,rfl,C⟩:=Eh.at hr G;unfold W6 at h;refine Hg.start λ_=>⟨b,o,rfl,by omega,a,by simpa using C,λA=>?_,λAi=>⟨by omega,a,by simpa using C,?_⟩⟩
 .rw[Amc A]at h;exact h
 .rw[Amb Ai]at h;exact h
end
section
variable {Z:Hp}{R:Rr}
def Sl (n:Nd)(a b:Int):Int×Int:=if a=3\/b=3\/((11<=n.op/\n.op<=13\/n.Be≠0)/\¬(a=2/\b=2))\/(a=1/\b=1/\BR n.op=true/\n.bool=false) then(0,192) else(if a<b then b else a,0)
theorem w9 {w:Option Addr}{n:Nd}{p q r:Option Addr}{k c m d s t:Nat}{l:List Int}{a b:Int}(hr:Eh .i64 Z r s l)(ha:l[0]?=some a)(hb:l[1]?=some b)(h:R (.returned (tyV (Sl n a b))) Z):Spec prog 82 #[.pointer w,Ka n p k c q m d,.slice r s t] Z R:=by
 have hs:l.length=s:=hr.1;have h1:=(Amd.1 hb).1;obtain⟨b1,o,rfl,CH⟩:=Eh.at hr ha;obtain⟨_,_,he,mL⟩:=Eh.at hr hb;cases he;have C:a=3\/b=3\/((11<=n.op/\n.op<=13\/n.Be≠0)/\¬(a=2/\b=2))\/(a=1/\b=1/\BR n.op=true/\n.bool=false)->R (.T #[.I 0,.I 192]) Z:=λG=>by
  unfold Sl at h;rw[Amc G]at h;exact h
 have A:¬(a=3\/b=3\/((11<=n.op/\n.op<=13\/n.Be≠0)/\¬(a=2/\b=2))\/(a=1/\b=1/\BR n.op=true/\n.bool=false))->R (.T #[.I (if a<b then b else a),.I 0]) Z:=λG=>by
  unfold Sl at h;rw[Amb G]at h;exact h
 clear h;refine HW.start λ_=>⟨b1,o,rfl,by omega,a,by simpa using CH,by omega,b,by simpa using mL,?_⟩
 repeat' first
  | (apply WX;refine Exists.intro _ (And.intro rfl ?_))
  | (apply E1;refine Exists.intro _ (And.intro rfl ?_))
  | (apply And.intro<;>intro _)
 all_goals first
  | (refine C ?_;simp_all;done)
  | (refine A ?_;simp_all;done)
  | (refine C ?_;simp_all;omega)
  | (refine A ?_;simp_all;omega)
end
theorem HV.en:Enters prog 81:=λargs w=>call81 args w
theorem Fs.en:Enters prog 208:=λargs w=>call208 args w
theorem Gj.en:Enters prog 233:=λargs w=>call233 args w
theorem HW.en:Enters prog 82:=λargs w=>call82 args w
theorem F2.en:Enters prog 204:=λargs w=>call204 args w
theorem Je.en:Enters prog 213:=λargs w=>call213 args w
theorem DO.en:Enters prog 55:=λargs w=>call55 args w
theorem Dj.en:Enters prog 120:=λargs w=>call120 args w
theorem A2.en:Enters prog 121:=λargs w=>call121 args w
theorem HY.en:Enters prog 231:=λargs w=>call231 args w
theorem F3.en:Enters prog 174:=λargs w=>call174 args w
theorem F5.en:Enters prog 200:=λargs w=>call200 args w
theorem Ah.en:Enters prog 123:=λargs w=>call123 args w
theorem FZ.en:Enters prog 125:=λargs w=>call125 args w
theorem I3.en:Enters prog 167:=λargs w=>call167 args w
theorem Ga.en:Enters prog 169:=λargs w=>call169 args w
theorem Hd.en:Enters prog 170:=λargs w=>call170 args w
theorem He.en:Enters prog 232:=λargs w=>call232 args w
theorem Ip.en:Enters prog 236:=λargs w=>call236 args w
theorem Dg.en:Enters prog 80:=λargs w=>call80 args w
theorem AZ.en:Enters prog 124:=λargs w=>call124 args w
theorem KA.en:Enters prog 168:=λargs w=>call168 args w
theorem Cj.en:Enters prog 126:=λargs w=>call126 args w
theorem Td.en:Enters prog 160:=λargs w=>call160 args w
theorem NJ.en:Enters prog 161:=λargs w=>call161 args w
theorem GA.en:Enters prog 175:=λargs w=>call175 args w
theorem GB.en:Enters prog 206:=λargs w=>call206 args w
theorem Gp.en:Enters prog 234:=λargs w=>call234 args w
theorem NK.en:Enters prog 238:=λargs w=>call238 args w
theorem Hg.en:Enters prog 83:=λargs w=>call83 args w
theorem Ab.en:Enters prog 122:=λargs w=>call122 args w
theorem GD.en:Enters prog 135:=λargs w=>call135 args w
theorem KE.en:Enters prog 171:=λargs w=>call171 args w
theorem DE.en:Enters prog 202:=λargs w=>call202 args w
instance:MpT prog 78 9 3:=⟨underlying78,underlying9⟩
instance:TwI.MpI prog 144 3 142:=⟨underlying144,underlying3⟩
instance:TwI.MpI prog 201 3 166:=⟨underlying201,underlying3⟩
instance:MpT prog 207 9 210:=⟨underlying207,underlying9⟩
instance:TwI.MpI prog 212 3 211:=⟨underlying212,underlying3⟩
instance:MpT prog 247 9 59:=⟨underlying247,underlying9⟩
end TwW
end
section
namespace TwW
open Go Go.MapKept Tw Go.RowKit Go.Proofs.Tryz
section
variable {P:Program}{Z Z':Hp}{R:Rr}
def rK (x:Int×Value)(n:Nat):MapEntry:={ key:=.I x.1,val:=x.2,born:=n }
def MI (Z:Hp)(m:Nat)(l:List (Int×Value)):Prop:=∃(bs:List Nat) (clock:Nat),bs.length=l.length/\TwI.DF Z m (List.zipWith rK l bs) clock
theorem MI.loc {m:Nat}{l:List (Int×Value)}(h:MI Z m l)(A:Z' m=Z m):MI Z' m l:=let ⟨bs,c,h1,h2⟩:=h;⟨bs,c,h1,h2.loc A⟩
theorem MI.known {m:Nat}{l:List (Int×Value)}(h:MI Z m l):Z m≠none:=let ⟨bs,c,h1,h2⟩:=h;by rw[h2.1];simp
theorem MI.fresh {m:Nat}:MI (Z.set m (.map #[] 0)) m []:=⟨[],0,rfl,TwI.DF.fresh⟩
theorem MI.put {T K V:TypeId}[TwI.MpI P T K V]{m:Nat}{l:List (Int×Value)}{x:Int}{v:Value}{Φ:Unit->Hp->Prop}(h:MI Z m l)(hn:∀a∈l,a.1≠x)
  (hΦ:∀o,MI (Z.set m o) m (l++[(x,v)])->Φ () (Z.set m o)):AJ P (Instr.mapUpdate T (.map (some m)) (.I x) v) Z Φ:=by
 obtain⟨bs,clock,hb,hm⟩:=h;refine TwI.LZ hm (λCU Z' hσ G=>?_) λl1 e l2 hl he Z' hσ G=>?_
 .subst hσ;refine hΦ _ ⟨bs++[clock],clock+1,by simp[hb],?_⟩;rw[List.zipWith_append hb.symm];exact G
 .have ACR:e∈List.zipWith rK l bs:=by rw[hl];simp
  obtain⟨i,hi⟩:=AnC.1 ACR;rw[Apn]at hi;cases A:l[i]? with
  | none=>rw[A]at hi;cases hi
  | some a=>
   cases C:bs[i]? with
   | none=>rw[A,C]at hi;cases hi
   | some b=>
    rw[A,C]at hi;simp only[Ami]at hi;subst hi;have:=hn a (Ame A);simp only[rK,Value.int.injEq,true_and]at he;exact absurd he this
theorem MI.look {T K V:TypeId}[TwI.MpI P T K V]{m:Nat}{l:List (Int×Value)}{x:Int}{z:Value}{Φ:Value->Hp->Prop}(h:MI Z m l)(hz:∀w,(zeroValue V).run P w=.ok z w)
  (h0:(∀a∈l,a.1≠x)->Φ z Z) (h1:∀v,(x,v)∈l->Φ v Z):AJ P (Instr.lookup T (.map (some m)) (.I x) false) Z Φ:=by
 obtain⟨bs,clock,hb,hm⟩:=h;refine TwI.Sg hm hz (λCU=>h0 λa ha hax=>?_) λl1 e l2 hl he=>?_
 .obtain⟨i,hi⟩:=AnC.1 ha;have Av:=(Amd.1 hi).1;have hm:rK a (bs[i]'(by omega))∈List.zipWith rK l bs:=AnC.2 ⟨i,by rw[Apn,hi,Amf (by omega)]⟩;exact CU _ hm (by rw[<-hax];rfl)
 .have G:e∈List.zipWith rK l bs:=by rw[hl];simp
  obtain⟨i,hi⟩:=AnC.1 G;rw[Apn]at hi;cases A:l[i]? with
  | none=>rw[A]at hi;cases hi
  | some a=>
   cases C:bs[i]? with
   | none=>rw[A,C]at hi;cases hi
   | some b=>
    rw[A,C]at hi;simp only[Ami]at hi;subst hi;simp only[rK,Value.int.injEq,true_and]at he;subst he;exact h1 a.2 (Ame A)
def Stg (O Z:Hp)(m:Nat)(l:List (Int×Value)):Prop:=Ext O Z/\O m=none/\MI Z m l
theorem Stg.fresh {O:Hp}{m:Nat}(h:O m=none):Stg O (O.set m (.map #[] 0)) m []:=⟨.set h,h,MI.fresh⟩
theorem Stg.alloc {O:Hp}{m b:Nat}{l:List (Int×Value)}{o:Obj}(h:Stg O Z m l)(hb:Z b=none):Stg (O.set b o) (Z.set b o) m l:=by
 have C:m≠b:=λe=>h.2.2.known (by rw[e];exact hb);refine⟨λk u A=>?_,by rw[Hp.AN C];exact h.2.1,h.2.2.loc (Hp.AN C)⟩;by_cases G:k=b
 .subst G;rw[Hp.AA]at A ⊢;exact A
 .rw[Hp.AN G]at A ⊢;exact h.1 _ _ A
theorem Stg.put {O:Hp}{T K V:TypeId}[TwI.MpI P T K V]{m:Nat}{l:List (Int×Value)}{x:Int}{v:Value}{Φ:Unit->Hp->Prop}(h:Stg O Z m l)(G:∀a∈l,a.1≠x)
  (C:∀Z',Stg O Z' m (l++[(x,v)])->Φ () Z'):AJ P (Instr.mapUpdate T (.map (some m)) (.I x) v) Z Φ:=
 h.2.2.put G λo ho=>C _ ⟨λk u A=>by rw[Hp.AN (λe=>by rw[e,h.2.1]at A;cases A)];exact h.1 _ _ A,h.2.1,ho⟩
section
variable {α:Type}
theorem bV {l:List (ByteArray×α)}{k:ByteArray}(h:∀a∈l,a.1≠k):Cz l k=none:=by
 induction l with
 | nil=>rfl
 | cons a l A=>rw[Cz,Amb (h a (by simp))];exact A λb hb=>h b (Amk _ hb)
theorem fj {l m:List (ByteArray×α)}{k:ByteArray}{y:α}(h:∀a∈l,a.1≠k):Cz (l++(k,y)::m) k=some y:=by
 induction l with
 | nil=>simp[Cz]
 | cons a l A=>rw[AnQ,Cz,Amb (h a (by simp))];exact A λb hb=>h b (Amk _ hb)
theorem RH {l:List (ByteArray×α)}{k:ByteArray}{y:α}(h:∀a∈l,a.1≠k):KY l k y=l++[(k,y)]:=by
 induction l with
 | nil=>rfl
 | cons a l A=>rw[KY,Amb (h a (by simp)),A λb hb=>h b (Amk _ hb)];rfl
theorem mM {l m:List (ByteArray×α)}{k:ByteArray}{y z:α}(h:∀a∈l,a.1≠k):KY (l++(k,z)::m) k y=l++(k,y)::m:=by
 induction l with
 | nil=>simp[KY]
 | cons a l A=>rw[AnQ,KY,Amb (h a (by simp)),A λb hb=>h b (Amk _ hb)];rfl
def MS (E:Value->α->Prop)(Z:Hp)(m:Nat)(L:List (ByteArray×α)):Prop:=
 ∃(l:List MapEntry) (clock:Nat),DF Z m l clock/\l.length=L.length/\∀(i:Nat) (e:MapEntry) (x:ByteArray×α),l[i]?=some e->L[i]?=some x->e.key=.string x.1/\E e.val x.2
theorem MS.mono {E:Value->α->Prop}{m:Nat}{L:List (ByteArray×α)}(h:MS E Z m L)(A:Ext Z Z'):MS E Z' m L:=let ⟨l,c,h1,h2⟩:=h;⟨l,c,h1.mono A,h2⟩
theorem MS.loc {E:Value->α->Prop}{m:Nat}{L:List (ByteArray×α)}(h:MS E Z m L)(A:Z' m=Z m):MS E Z' m L:=let ⟨l,c,h1,h2⟩:=h;⟨l,c,h1.loc A,h2⟩
theorem MS.imp {E A:Value->α->Prop}{m:Nat}{L:List (ByteArray×α)}(h:MS E Z m L)(hE:∀v x,E v x->A v x):MS A Z m L:=let ⟨l,c,h1,h2,h3⟩:=h;⟨l,c,h1,h2,λi e x C G=>⟨(h3 i e x C G).1,hE _ _ (h3 i e x C G).2⟩⟩
theorem MS.known {E:Value->α->Prop}{m:Nat}{L:List (ByteArray×α)}(h:MS E Z m L):Z m≠none:=let ⟨l,c,h1,h2⟩:=h;by rw[h1.1];simp
theorem MS.fresh {E:Value->α->Prop}{m:Nat}:MS E (Z.set m (.map #[] 0)) m []:=⟨[],0,DF.fresh,rfl,λi e x A=>by simp at A⟩
theorem MS.len {E:Value->α->Prop}{T K V ty:TypeId}[MpT P T K V]{m:Nat}{L:List (ByteArray×α)}(h:MS E Z m L):YF P (Builtin.len_ #[T] ty #[.map (some m)]) Z (.I L.length):=by
 obtain⟨l,c,A,C,G⟩:=h;rw[<-C];exact AB3 A
theorem bW {E:Value->α->Prop}{l A l2:List MapEntry}{e:MapEntry}{L:List (ByteArray×α)}{s:ByteArray}(hn:(l.map (·.key)).Nodup)(h2:l.length=L.length)(h3:∀(i:Nat) (e:MapEntry) (x:ByteArray×α),l[i]?=some e->L[i]?=some x->e.key=.string x.1/\E e.val x.2)(hl:l=A++e::l2)(he:e.key=.string s):
  ∃G x L2,L=G++(s,x)::L2/\G.length=A.length/\(∀a∈G,a.1≠s)/\E e.val x:=by
 subst hl;have Av:A.length<L.length:=by rw[<-h2];simp
 have QZ:L=L.take A.length++L[A.length]::L.drop (A.length+1):=by rw[Apa,Anc]
 have hx:=h3 A.length e L[A.length] (by simp) (Amf _);rw[he]at hx;have hk:L[A.length].1=s:=by simpa using hx.1.symm
 refine⟨L.take A.length,L[A.length].2,L.drop (A.length+1),?_,by rw[Amp];omega,λa ha has=>?_,hx.2⟩
 .rw[<-hk];exact QZ
 .obtain⟨i,hi⟩:=AnC.1 ha;rw[Am5]at hi;split at hi
  .rename_i C;have hle:(A++e::l2)[i]?=some (A[i]'C):=by rw[AnZ C,Amf C]
   have h4:=(h3 i _ a hle hi).1;rw[Am7,AnT,Ao4]at hn;exact hn.2.2 _ (AnA.2 ⟨A[i]'C,Aod C,rfl⟩) _ (by simp;exact .inl rfl) (by rw[h4,he,has])
  .cases hi
theorem MS.AGM {E:Value->α->Prop}{l:List MapEntry}{L:List (ByteArray×α)}{s:ByteArray}(h2:l.length=L.length)(G:∀(i:Nat) (e:MapEntry) (x:ByteArray×α),l[i]?=some e->L[i]?=some x->e.key=.string x.1/\E e.val x.2)(C:∀e∈l,e.key≠.string s):∀a∈L,a.1≠s:=λa ha A=>by
 obtain⟨i,hi⟩:=AnC.1 ha;have Av:=(Amd.1 hi).1;have:=(G i (l[i]'(by omega)) a (Amf _) hi).1;exact C _ (Aod _) (by rw[this,A])
theorem MS.look {E:Value->α->Prop}{T K V:TypeId}[MpT P T K V]{m:Nat}{L:List (ByteArray×α)}{s:ByteArray}{z:Value}{Φ:Value->Hp->Prop}(h:MS E Z m L)(hz:∀w,(zeroValue V).run P w=.ok z w)
  (h0:Cz L s=none->Φ z Z) (h1:∀v x,Cz L s=some x->E v x->Φ v Z):AJ P (Instr.lookup T (.map (some m)) (.string s) false) Z Φ:=by
 obtain⟨l,c,hm,C,G⟩:=h;refine Sg hm hz (λA=>h0 (bV (MS.AGM C G A))) λl1 e l2 hl he=>?_;obtain⟨L1,x,L2,rfl,_,A,hE⟩:=bW hm.nodup C G hl he;exact h1 e.val x (fj A) hE
theorem MS.uM {E:Value->α->Prop}{T K V:TypeId}[t:MpT P T K V]{m:Nat}{L:List (ByteArray×α)}{s:ByteArray}{z:Value}{Φ:Value->Hp->Prop}(h:MS E Z m L)(hz:∀w,(zeroValue V).run P w=.ok z w)
  (h0:Cz L s=none->Φ (.tuple #[z,.bool false]) Z) (h1:∀v x,Cz L s=some x->E v x->Φ (.tuple #[v,.bool true]) Z):AJ P (Instr.lookup T (.map (some m)) (.string s) true) Z Φ:=by
 obtain⟨l,c,hm,h2,h3⟩:=h;rcases IN (s:=s) hm.2.2 with ⟨C,A⟩|⟨l1,e,l2,hl,he,C⟩
 .refine AJ.pu (λw G=>?_) (h0 (bV (MS.AGM h2 h3 A)));have:=G _ _ hm.1;simp[Instr.lookup,run_underlying t.sd,run_getObj_map this,run_checkKey t.key (k:=.string s) trivial,run_findKey t.key C,hz,Result.andThen]
 .obtain⟨L1,x,L2,rfl,_,A,hE⟩:=bW hm.nodup h2 h3 hl he;refine AJ.pu (λw G=>?_) (h1 e.val x (fj A) hE);have:=G _ _ hm.1;simp[Instr.lookup,run_underlying t.sd,run_getObj_map this,run_checkKey t.key (k:=.string s) trivial,run_findKey t.key C,Result.andThen]
theorem MS.put {E:Value->α->Prop}{T K V:TypeId}[MpT P T K V]{m:Nat}{L:List (ByteArray×α)}{s:ByteArray}{v:Value}{x:α}{Φ:Unit->Hp->Prop}(h:MS E Z m L)(hv:E v x)
  (hΦ:∀o,MS E (Z.set m o) m (KY L s x)->Φ () (Z.set m o)):AJ P (Instr.mapUpdate T (.map (some m)) (.string s) v) Z Φ:=by
 obtain⟨l,c,hm,h2,h3⟩:=h;refine LZ hm (λCU Z' G C=>?_) λl1 e l2 hl he Z' G C=>?_
 .subst G;refine hΦ _ ⟨_,_,C,?_,λi e y hi A=>?_⟩
  .rw[RH (MS.AGM h2 h3 CU)];simp[h2]
  .rw[RH (MS.AGM h2 h3 CU)]at A;rw[Anr]at hi A;split at hi
   .rename_i Av;rw[Amc (by omega)]at A;exact h3 i e y hi A
   .rename_i Av;rw[Amb (by omega)]at A;rw[<-h2]at A;cases hj:i-l.length with
    | zero=>
     rw[hj]at hi A;simp only[AnD,Ami]at hi A;subst hi;subst A;exact⟨rfl,hv⟩
    | succ j=>rw[hj]at hi;simp at hi
 .obtain⟨L1,y,L2,rfl,hlen,CU,hE⟩:=bW hm.nodup h2 h3 hl he;subst G;subst hl;refine hΦ _ ⟨_,_,C,?_,λi e' z hi hz=>?_⟩
  .rw[mM CU];simp at h2 ⊢;omega
  .rw[mM CU]at hz;by_cases hil:i=l1.length
   .subst hil;rw[<-hlen]at hz;simp at hi hz;subst hi;subst hz;exact⟨rfl,hv⟩
   .have e1:(l1++Tw.TD s v e.born::l2)[i]?=(l1++e::l2)[i]?:=by
     rcases Ao5 i l1.length with h|h
     .rw[AnZ h,AnZ h]
     .obtain⟨k,rfl⟩:∃k,i=l1.length+(k+1):=⟨i-l1.length-1,by omega⟩;simp[Ang]
    have e2:(L1++(s,x)::L2)[i]?=(L1++(s,y)::L2)[i]?:=by
     rcases Ao5 i L1.length with h|h
     .rw[AnZ h,AnZ h]
     .obtain⟨k,rfl⟩:∃k,i=L1.length+(k+1):=⟨i-L1.length-1,by omega⟩;simp[Ang]
    exact h3 i e' z (by rw[<-e1];exact hi) (by rw[<-e2];exact hz)
end
end
end TwW
end
section
namespace TwW
open Go Tw Go.RowKit Go.Proofs.Tryz
def Na (n:Nd)(l:List Int):Int×Int:=
 if n.kind=1 then(1,0) else if n.kind=2 then(2,0) else if n.kind=3 then(3,0) else if n.kind=4 then SE n (l[0]?.getD 0) else if n.kind=5 then WY (l[0]?.getD 0)
 else if n.kind=6 then Sl n (l[0]?.getD 0) (l[1]?.getD 0) else W6 (l[0]?.getD 0)
def Bk (n:Nd)(st:List Int):Int×List Int:=
 if DY n=false\/(st.length:Int)<n.parts then(190,st) else if JD DR n.mt≠0 then(193,st) else
  ((Na n (st.drop (st.length-n.parts.toNat))).2,st.take (st.length-n.parts.toNat)++[(Na n (st.drop (st.length-n.parts.toNat))).1])
theorem Gg {n:Nd}(h:DY n=true):Fg n=true:=by
 unfold DY at h;simp only[Amn]at h;exact h.2
theorem VV {n:Nd}(h:DY n=true):IV n (Ck n)=true:=by
 unfold DY at h;simp only[Amn]at h;exact h.1.1.1
theorem Aw.AN {s b:Nat}{o:Obj}{Z:Hp}{p:Option Addr}{n c:Nat}{cs:List Value}(C:Aw s Z p n c cs)(h:∀a,p=some a->a.block≠b):Aw s (Z.set b o) p n c cs:=
 ⟨C.1,C.2.1,C.2.2.imp id λ⟨G,o',A,T,hp,hb,r⟩=>⟨G,o',A,T,hp,by rw[Hp.AN (h _ hp)];exact hb,r⟩⟩
theorem AGN:∀w,(zeroValue 142).run prog w=.ok .nilFunc w:=λw=>by
 have h:prog.info? 142=some t142:=by kernel_rfl
 simp[zeroValue,typeInfo,h];rfl
structure rL (Z0 Z:Hp)(wb:Nat)(p:Option Addr)(n c:Nat)(st:List Int):Prop where
 cell:Z wb=some (.cells #[.slice p n c] 106 (0,0))
 own:Eb .i64 Z p n c st
 off:∀a,p=some a->a.block≠wb/\Z0 a.block=none
 new:Z0 wb=none
 ext:Ext Z0 Z
section
variable {Z Z' Z0:Hp}{R:Rr}
theorem rL.mono {C:Nat}{p:Option Addr}{n c:Nat}{st:List Int}(h:rL Z0 Z C p n c st)(A:Ext Z Z'):rL Z0 Z' C p n c st:=⟨A _ _ h.cell,h.own.mono A,h.off,h.new,h.ext.trans A⟩
theorem VW {k:Int}(h:∀b,Z b=none->R (.returned (.func (.func 135) #[] #[.pointer (aD b 0)])) (Z.set b (.cells #[.I k] 3 (0,0)))):Spec prog 79 #[.I k] Z R:=Yc.start h
theorem Sm {n:Nd}{p q r:Option Addr}{k c m d s t b:Nat}{v:Int}(hb:Z b=some (.cells #[.I v] 3 (0,0)))(h:R (.returned (tyV (v,0))) Z):Spec prog 135 #[Ka n p k c q m d,.slice r s t,.pointer (aD b 0)] Z R:=
 GD.start λ_=>⟨v,Ak hb rfl,h⟩
theorem AGO:∀w,(Go.sizeOf 104).run prog w=.ok 1 w:=λw=>by kernel_rfl
theorem xA {wb:Nat}{p q r:Option Addr}{k c m d j e:Nat}{st:List Int}{n:Nd}(hW:rL Z0 Z wb r j e st)(hm:AT 3 KH Z0 p k n.mt)(hr:HP 1 Z0 q m (n.names.map .string))(hb:n.text.size<=4611686018427387904)(hj:j<=1000000000000)
  (h:∀r' j' e' Z',(Bk n st).1=0->rL Z0 Z' wb r' j' e' (Bk n st).2->R (.returned (.I 0)) Z') (h':∀Z',(Bk n st).1≠0->Ext Z0 Z'->R (.returned (.I (Bk n st).1)) Z') :
  Spec prog 48 #[.pointer (some ⟨wb,0,none⟩),Ka n p k c q m d] Z R:=by
 have hk:n.mt.length=k:=hm.1;have hsl:st.length=j:=by have:=hW.own.1;simpa using this
 refine Nl.start λ_=>w5 hk (hr.mono hW.ext) hb λZ1 Bc=>⟨_,rfl,λhf=>?_,λht=>?_⟩
 .have e1:Bk n st=(190,st):=by unfold Bk;rw[Amc (.inl hf)]
  rw[e1] at h';exact h' Z1 (by dsimp only;decide) (hW.ext.trans Bc)
 have yW:=hW.mono Bc;refine⟨wb,0,rfl,r,j,e,Ak yW.cell rfl,λAv=>?_,λbH=>mK (hm.mono KH.mono yW.ext) ⟨_,rfl,λAi=>?_,λh0=>?_⟩⟩
 .have e1:Bk n st=(190,st):=by unfold Bk;rw[Amc (.inr (by omega))]
  rw[e1] at h';exact h' Z1 (by dsimp only;decide) yW.ext
 .have e1:Bk n st=(193,st):=by unfold Bk;rw[Amb (by rw[ht];simp;omega),Amc Ai]
  rw[e1] at h';exact h' Z1 (by dsimp only;decide) yW.ext
 have QT:=Amy.1 h0;have eS:Bk n st=((Na n (st.drop (st.length-n.parts.toNat))).2,st.take (st.length-n.parts.toNat)++[(Na n (st.drop (st.length-n.parts.toNat))).1]):=by
  unfold Bk;rw[Amb (by rw[ht];simp;omega),Amb h0]
 rw[eS]at h h';dsimp only at h h';have A:=Gg ht;have AcK:0<=n.parts:=by
  unfold Fg at A;have hp:=VV ht;by_cases h1:n.kind=1
  .unfold IV Ck at hp;simp[h1]at hp;omega
  by_cases h2:n.kind=2
  .unfold IV Ck at hp;simp[h2]at hp;omega
  by_cases h3:n.kind=3
  .unfold IV Ck at hp;simp[h3]at hp;omega
  rw[Amb h1,Amb h2,Amb h3]at A;split at A
  .simp at A;omega
  .split at A
   .simp at A;omega
   .split at A
    .simp at A;omega
    .simp at A;omega
 obtain⟨t,hpt⟩:∃t:Nat,n.parts=t:=⟨n.parts.toNat,by omega⟩;have htj:t<=j:=by omega
 have htn:n.parts.toNat=t:=by omega
 rw[htn,hsl]at h h';refine HD λmb hmb=>⟨mb,rfl,?_⟩;have s0:=Stg.fresh hmb;refine VW λb1 hb1=>⟨_,_,_,rfl,?_⟩;have s1:=s0.alloc (o:=.cells #[.I 1] 3 (0,0)) hb1;refine s1.put (by simp) λZ2 s2=>VW λb2 fD=>⟨_,_,_,rfl,?_⟩;have s3:=s2.alloc (o:=.cells #[.I 2] 3 (0,0)) fD;refine s3.put (by simp) λZ4 s4=>VW λb3 hb3=>⟨_,_,_,rfl,?_⟩;have s5:=s4.alloc (o:=.cells #[.I 3] 3 (0,0)) hb3;refine s5.put (by simp) λZ6 s6=>s6.put (by simp) λZ7 s7=>s7.put (by simp) λZ8 s8=>s8.put (by simp) λZ9 s9=>s9.put (by simp) λZA sA=>?_;clear s0 s1 s3 s5 s6 s7 s8 s9;have n1:Z1 b1=none:=(Hp.DG hb1).2;have n2:(Z1.set b1 (.cells #[.I 1] 3 (0,0))) b2=none:=A0 s2.1 fD;have n3:((Z1.set b1 (.cells #[.I 1] 3 (0,0))).set b2 (.cells #[.I 2] 3 (0,0))) b3=none:=A0 s4.1 hb3;have x1:Ext Z1 ZA:=(Ext.set n1).trans ((Ext.set n2).trans ((Ext.set n3).trans sA.1));have c3:=sA.1 b3 _ (Hp.AA _ _ _);have c2:=sA.1 b2 _ ((Ext.set n3) _ _ (Hp.AA _ _ _));have c1:=sA.1 b1 _ ((Ext.set n3) _ _ ((Ext.set n2) _ _ (Hp.AA _ _ _)));have xB:=yW.mono x1;have hlA:=sA.2.2;clear s2 s4 sA n1 n2 n3 hb1 fD hb3;simp only[Anm,AnQ]at hlA;have e1:Int.toNat ((j:Int)-n.parts)=j-t:=by omega
 refine⟨r,j,e,Ak xB.cell rfl,by unfold AF;omega,r,j,e,Ak xB.cell rfl,by omega,?_⟩;have hce:j<=e:=Aw.cap xB.own;have W5:Eh .i64 ZA (Mp r (j-t) e 1) (j-(j-t)) (st.drop (j-t)):=by
  have:=AT.sub (i:=j-t) (m:=j-(j-t)) (Eb.rd xB.own) (by decide) (by omega) hce;rwa[Amj (by rw[Amx];omega)]at this
 have W5:Eh .i64 ZA (Mp r (Int.toNat ((j:Int)-n.parts)) e 1) (j-Int.toNat ((j:Int)-n.parts)) (st.drop (j-t)):=by rw[e1];exact W5
 have fin:∀x:Int×Int,x=Na n (st.drop (j-t))->BV R (λz qJ=>∃zv PH,z=(.tuple #[.I zv,.I PH])/\LS qJ wb 0 λp66 zw tO=>((0:Int)<=((j:Int)-n.parts)/\((j:Int)-n.parts)<=(tO:Int))/\Al qJ λNj=>AJ prog (Builtin.append_ #[104,104] 104 #[(.slice p66 (Int.toNat ((j:Int)-n.parts)) tO),(.slice (aD Nj 0) 1 1)]) (Hp.set qJ Nj (.cells #[.I zv] 109 (0,0))) (CS λvz v7 wC ALo=>AJ prog (Instr.storeAt 104 (.pointer (aD wb 0)) (.slice vz v7 wC)) ALo (λ_ ALp=>R (.returned (.I PH)) ALp))) (.returned (tyV x)) ZA:=λx hx=>by
  rw[<-hx]at h h';refine⟨x.1,x.2,rfl,r,j,e,Ak xB.cell rfl,by omega,λNj ACT=>?_⟩;rw[e1];have Cp:=(Aw.take (m:=j-t) xB.own (by omega)).mono (Ext.set (o:=.cells #[.I x.1] 109 (0,0)) ACT);refine Ea Cp (bN (f:=.int .i64) (x:=x.1) (Hp.AA _ _ _)) HH.XG (by omega) λp' c' ZB hoB hxB=>⟨_,_,_,rfl,?_⟩;have hwb:∀a,r=some a->wb≠a.block:=λa ha=>Ann (xB.off a ha).1;have hnb:wb≠Nj:=λe=>by rw[<-e,xB.cell]at ACT;cases ACT
  obtain⟨g1,g2⟩:=AU.1 (hxB wb _ (AU.2 ⟨hwb,(Ext.set ACT) _ _ xB.cell⟩));have hE0:Ext Z0 (ZB.del p'):=λk u hk=>hxB k u (AU.2 ⟨λa ha yX=>(by rw[yX,(xB.off a ha).2]at hk;cases hk),(Ext.set ACT) _ _ (xB.ext _ _ hk)⟩);refine AJ.store AGO g2 rfl (by simp) (by simp[Value.cells,Value.oneCell']) ?_;have VX:rL Z0 (ZB.set wb (.cells (SP #[.slice r j e] 0 (Value.slice p' (j-t+1) c').cells.toList) 106 (0,0))) wb p' (j-t+1) c' (st.take (j-t)++[x.1]):=by
   refine⟨by rw[Hp.AA];simp[SP,Value.cells],?_,λa ha=>⟨λe=>g1 a ha e.symm,?_⟩,xB.new,λk u hk=>?_⟩
   .have:=Aw.AN (b:=wb) (o:=.cells (SP #[.slice r j e] 0 (Value.slice p' (j-t+1) c').cells.toList) 106 (0,0)) hoB (λa ha e=>g1 a ha e.symm);unfold Eb;rw[Am7,Apf];simpa using this
   .cases hh:Z0 a.block with
    | none=>rfl
    | some u=>exact absurd rfl ((AU.1 (hE0 _ _ hh)).1 a ha)
   .rw[Hp.AN (λe=>by rw[e,xB.new]at hk;cases hk)];exact(AU.1 (hE0 _ _ hk)).2
  by_cases hz:x.2=0
  .rw[hz];exact h _ _ _ _ hz VX
  .exact h' _ hz VX.ext
 have part:∀i,i<t->∃v,(st.drop (j-t))[i]?=some v:=λi hi=>⟨_,Amf (by rw[Amx];omega)⟩;refine hlA.look AGN (λCU=>?_) λv G=>⟨v,rfl,Kp.H9 (.refl _),?_⟩
 .exfalso;unfold Fg at A;have g:=λi=>CU i;simp only[Aml,AnF,Anp,forall_eq_or_imp,forall_eq]at CU;obtain⟨a1,a2,a3,a4,a5,a6,a7⟩:=CU;rw[Amb (Ann a1),Amb (Ann a2),Amb (Ann a3),Amb (Ann a4),Amb (Ann a5),Amb (Ann a6)]at A;exact a7 (Amg A).1.symm
 simp only[Aml,AnF,Anp,AoZ]at G;rcases G with ⟨C,rfl⟩|⟨C,rfl⟩|⟨C,rfl⟩|⟨C,rfl⟩|⟨C,rfl⟩|⟨C,rfl⟩|⟨C,rfl⟩
 .exact⟨135,_,_,rfl,GD.en,Sm c1 (fin _ (by unfold Na;rw[Amc C]))⟩
 .exact⟨135,_,_,rfl,GD.en,Sm c2 (fin _ (by unfold Na;rw[Amb (by omega),Amc C]))⟩
 .exact⟨135,_,_,rfl,GD.en,Sm c3 (fin _ (by unfold Na;rw[Amb (by omega),Amb (by omega),Amc C]))⟩
 .have ht1:t=1:=by unfold Fg at A;simp[C]at A;omega
  obtain⟨v,G⟩:=part 0 (by omega);exact⟨80,_,_,rfl,Dg.en,rJ W5 G (fin _ (by unfold Na;rw[Amb (by omega),Amb (by omega),Amb (by omega),Amc C,G];rfl))⟩
 .have ht1:t=1:=by unfold Fg at A;simp[C]at A;omega
  obtain⟨v,G⟩:=part 0 (by omega);exact⟨81,_,_,rfl,HV.en,w6 W5 G (fin _ (by unfold Na;rw[Amb (by omega),Amb (by omega),Amb (by omega),Amb (by omega),Amc C,G];rfl))⟩
 .have ht1:t=2:=by unfold Fg at A;simp[C]at A;omega
  obtain⟨v,G⟩:=part 0 (by omega);obtain⟨u,hu⟩:=part 1 (by omega);exact⟨82,_,_,rfl,HW.en,w9 W5 G hu (fin _ (by unfold Na;rw[Amb (by omega),Amb (by omega),Amb (by omega),Amb (by omega),Amb (by omega),Amc C,G,hu];rfl))⟩
 .have ht1:t=1:=by unfold Fg at A;simp[C]at A;omega
  obtain⟨v,G⟩:=part 0 (by omega);exact⟨83,_,_,rfl,Hg.en,w7 W5 G (fin _ (by unfold Na;rw[Amb (by omega),Amb (by omega),Amb (by omega),Amb (by omega),Amb (by omega),Amb (by omega),G];rfl))⟩
def DS:List Nd->List Int->Option (List Int)
 | [],st=>some st
 | n::t,st=>if(Bk n st).1=0 then DS t (Bk n st).2 else none
def ACU (t:List Nd):Option (List Int)->Option Int
 | some [k]=>if t.length<=4096 then some k else none
 | _=>none
def Jm (t:List Nd):Option Int:=ACU t (DS t [])
theorem IQ.at {p:Option Addr}{n i:Nat}{t:List Nd}{x:Nd}(hr:AT 10 IQ Z p n t)(hx:t[i]?=some x):∃b o p1 k c q m d,p=some ⟨b,o,none⟩/\Af Z b (o+i*10) [.I x.kind,.I x.op,.string x.text,.slice p1 k c,.I x.width,.I x.back,.I x.Be,.slice q m d,.bool x.bool,.I x.parts]/\AT 3 KH Z p1 k x.mt/\HP 1 Z q m (x.names.map .string):=by
 obtain⟨b,o,vs,hp,⟨p1,k,c,q,m,d,rfl,A,C⟩,G⟩:=AT.idx hr hx;exact⟨b,o,p1,k,c,q,m,d,hp,G,A,C⟩
theorem ACV {n:Nd}{st:List Int}:(Bk n st).2.length<=st.length+1:=by
 unfold Bk;split
 .exact Nat.le_succ _
 .split
  .exact Nat.le_succ _
  .simp only[Amv,Amp,AnW];omega
theorem bX {p:Option Addr}{n c:Nat}{t:List Nd}(hr:AT 10 IQ Z p n t)(hn:n<=1000000000)(hb:∀x∈t,x.text.size<=4611686018427387904)
  (h:∀k Z',Jm t=some k->Ext Z Z'->R (.T #[.I k,.I 0,.I 0]) Z') (h':∀k j e Z',Jm t=none->e≠0->Ext Z Z'->R (.T #[.I k,.I j,.I e]) Z') :
  Spec prog 28 #[.slice p n c] Z R:=by
 have hl:t.length=n:=hr.1;refine Iz.start λwb hwb=>?_
 suffices H:∀g k:Nat,∀r j e st Z',n-k=g->k<=n->j<=k->rL Z Z' wb r j e st->DS t []=DS (t.drop k) st->Iz.B9 R p n c (aD wb 0) p n c n k Z' from
  H n 0 none 0 0 [] _ rfl (Amh _) (Amr _) ⟨Hp.AA _ _ _,Eb.nil,λa ha=>(by cases ha),hwb,.set hwb⟩ rfl
 intro g
 induction g with
 | zero=>
  intro k r j e st Z' hg hk hj A G;rw[Amm (by omega)]at G;have C:st.length=j:=by have:=A.own.1;simpa using this
  have ht:Jm t=ACU t (some st):=by unfold Jm;rw[G];rfl
  refine Iz.As ⟨λAv=>by omega,λ_=>⟨wb,0,rfl,r,j,e,Ak A.cell rfl,λh1=>h' _ _ _ Z' ?_ (by decide) A.ext,λh1=>⟨λIP=>h' _ _ _ Z' ?_ (by decide) A.ext,λRp=>?_⟩⟩⟩
  .rw[ht]
   match st,C with
   | [],_=>rfl
   | [_],C=>simp at C;omega
   | _::_::_,_=>rfl
  .rw[ht]
   match st,C with
   | [],_=>rfl
   | [_],C=>exact Amb (by omega)
   | _::_::_,_=>rfl
  .have eH:j=1:=by omega
   subst eH
   match st,C with
   | [x],_=>
    obtain⟨b,o,rfl,CH⟩:=Eh.at (Eb.rd A.own) (i:=0) (x:=x) rfl;exact⟨_,1,e,Ak A.cell rfl,b,o,rfl,by omega,x,by simpa using CH,h x Z' (by rw[ht];exact Amc (by omega)) A.ext⟩
 | succ g ih=>
  intro k r j e st Z' hg hk hj A G;have DI:k<n:=by omega
  obtain⟨x,hx⟩:=hr.ex DI;obtain⟨b,o,p1,k1,c1,q1,m1,d1,rfl,CH,h1,h2⟩:=IQ.at hr hx;rw[BA hx,DS]at G;refine Iz.As ⟨λ_=>⟨b,o,rfl,by omega,_,_,_,_,_,_,_,_,_,_,_,_,_,_,by simpa using CH.mono A.ext,λ_=>?_⟩,λhh=>by omega⟩;refine xA A h1 h2 (hb x (Ame hx)) (by omega) (λr' j' e' Z2 h0 hW2=>⟨0,rfl,λhh=>absurd rfl hh,λ_=>⟨AI DI hr.big,ih (k+1) r' j' e' _ Z2 (by omega) (by omega) ?_ hW2 ?_⟩⟩) λZ2 h0 Ao=>⟨_,rfl,λ_=>h' _ _ _ Z2 ?_ h0 Ao,λhh=>absurd h0 hh⟩
  .have h3:=ACV (n:=x) (st:=st);have h4:(Bk x st).2.length=j':=by have:=hW2.own.1;simpa using this
   have h5:st.length=j:=by have:=A.own.1;simpa using this
   omega
  .rw[G,Amc h0]
  .unfold Jm;rw[G,Amb h0];rfl
end
end TwW
end
section
namespace Go.Proofs
open Go.Shelf
def Tryz.mN:Go.Shelf.Ren:=⟨λ|143=>271|219=>295|217=>316|225=>317|224=>318|267=>319|266=>328|314=>329|n=>n,λ|9=>9|3=>3|4=>4|5=>5|46=>121|146=>355|51=>159|n=>n,λ|1=>1|n=>n⟩
theorem Tryz.AGR:Go.Proofs.Lays.n143 Tryz.prog Tryz.mN:={
 mixed:=by kernel_rfl
 f143:=Tryz.func271.trans (Amz some (by kernel_rfl))
 f217:=Tryz.func316.trans (Amz some (by kernel_rfl))
 f219:=Tryz.func295.trans (Amz some (by kernel_rfl))
 f224:=Tryz.func318.trans (Amz some (by kernel_rfl))
 f225:=Tryz.func317.trans (Amz some (by kernel_rfl))
 f266:=Tryz.func328.trans (Amz some (by kernel_rfl))
 f267:=Tryz.func319.trans (Amz some (by kernel_rfl))
 f314:=Tryz.func329.trans (Amz some (by kernel_rfl))
 t3:=Tryz.underlying3
 a3:=Tryz.isAgg3
 z3:=Tryz.sizeOf3
 v3:=Tryz.zeroValue3
 t4:=Tryz.underlying4
 a4:=Tryz.isAgg4
 z4:=Tryz.sizeOf4
 v4:=Tryz.zeroValue4
 t5:=Tryz.underlying5
 a5:=Tryz.isAgg5
 z5:=Tryz.sizeOf5
 v5:=Tryz.zeroValue5
 t9:=Tryz.underlying9
 a9:=Tryz.isAgg9
 z9:=Tryz.sizeOf9
 v9:=Tryz.zeroValue9
 t46:=Tryz.underlying121
 a46:=Tryz.isAgg121
 z46:=Tryz.sizeOf121
 v46:=Tryz.zeroValue121
 t51:=Tryz.underlying159
 a51:=Tryz.isAgg159
 z51:=Tryz.sizeOf159
 v51:=Tryz.zeroValue159
 t146:=Tryz.underlying355
 a146:=Tryz.isAgg355
 z146:=Tryz.sizeOf355
 v146:=Tryz.zeroValue355
 g1:=by kernel_rfl }
open Go.RowKit Go.Lib in
theorem Tryz.strings_Index (s sub:ByteArray)(m:Int)(w:World)(A:s.size<4294967281)(hm:w.cell? ⟨1,0,none⟩=some (.I m)):
 Calls Tryz.prog 271 #[.string s,.string sub] w λe C=>e=.returned (.I (Lib.index s.data.toList sub.data.toList))/\C=w:=Any.strings_Index Tryz.AGR s sub m w A hm
def Tryz.mO:Go.Shelf.Ren:=⟨λ|146=>235|221=>250|268=>269|138=>270|143=>271|195=>292|197=>293|218=>294|219=>295|260=>315|217=>316|225=>317|224=>318|267=>319|266=>328|314=>329|n=>n,λ|9=>9|31=>42|3=>3|4=>4|0=>0|105=>319|21=>21|5=>5|46=>121|119=>351|139=>354|138=>353|146=>355|51=>159|n=>n,λ|1=>1|3=>11|4=>12|n=>n⟩
theorem Tryz.AGS:Go.Proofs.Lays.n146 Tryz.prog Tryz.mO:={
 mixed:=by kernel_rfl
 f138:=Tryz.func270.trans (Amz some (by kernel_rfl))
 f143:=Tryz.func271.trans (Amz some (by kernel_rfl))
 f146:=Tryz.func235.trans (Amz some (by kernel_rfl))
 f195:=Tryz.func292.trans (Amz some (by kernel_rfl))
 f197:=Tryz.func293.trans (Amz some (by kernel_rfl))
 f217:=Tryz.func316.trans (Amz some (by kernel_rfl))
 f218:=Tryz.func294.trans (Amz some (by kernel_rfl))
 f219:=Tryz.func295.trans (Amz some (by kernel_rfl))
 f221:=Tryz.func250.trans (Amz some (by kernel_rfl))
 f224:=Tryz.func318.trans (Amz some (by kernel_rfl))
 f225:=Tryz.func317.trans (Amz some (by kernel_rfl))
 f260:=Tryz.func315.trans (Amz some (by kernel_rfl))
 f266:=Tryz.func328.trans (Amz some (by kernel_rfl))
 f267:=Tryz.func319.trans (Amz some (by kernel_rfl))
 f268:=Tryz.func269.trans (Amz some (by kernel_rfl))
 f314:=Tryz.func329.trans (Amz some (by kernel_rfl))
 t0:=Tryz.underlying0
 a0:=Tryz.isAgg0
 z0:=Tryz.sizeOf0
 v0:=Tryz.zeroValue0
 t3:=Tryz.underlying3
 a3:=Tryz.isAgg3
 z3:=Tryz.sizeOf3
 v3:=Tryz.zeroValue3
 t4:=Tryz.underlying4
 a4:=Tryz.isAgg4
 z4:=Tryz.sizeOf4
 v4:=Tryz.zeroValue4
 t5:=Tryz.underlying5
 a5:=Tryz.isAgg5
 z5:=Tryz.sizeOf5
 v5:=Tryz.zeroValue5
 t9:=Tryz.underlying9
 a9:=Tryz.isAgg9
 z9:=Tryz.sizeOf9
 v9:=Tryz.zeroValue9
 t21:=Tryz.underlying21
 a21:=Tryz.isAgg21
 z21:=Tryz.sizeOf21
 v21:=Tryz.zeroValue21
 t31:=Tryz.underlying42
 a31:=Tryz.isAgg42
 z31:=Tryz.sizeOf42
 v31:=Tryz.zeroValue42
 t46:=Tryz.underlying121
 a46:=Tryz.isAgg121
 z46:=Tryz.sizeOf121
 v46:=Tryz.zeroValue121
 t51:=Tryz.underlying159
 a51:=Tryz.isAgg159
 z51:=Tryz.sizeOf159
 v51:=Tryz.zeroValue159
 t105:=Tryz.underlying319
 a105:=Tryz.isAgg319
 z105:=Tryz.sizeOf319
 v105:=Tryz.zeroValue319
 t119:=Tryz.underlying351
 a119:=Tryz.isAgg351
 z119:=Tryz.sizeOf351
 t138:=Tryz.underlying353
 a138:=Tryz.isAgg353
 z138:=Tryz.sizeOf353
 v138:=Tryz.zeroValue353
 t139:=Tryz.underlying354
 a139:=Tryz.isAgg354
 z139:=Tryz.sizeOf354
 v139:=Tryz.zeroValue354
 t146:=Tryz.underlying355
 a146:=Tryz.isAgg355
 z146:=Tryz.sizeOf355
 v146:=Tryz.zeroValue355
 g1:=by kernel_rfl
 g3:=by kernel_rfl
 g4:=by kernel_rfl }
open Go.RowKit Go.Lib in
theorem Tryz.strings_Split (s sep:ByteArray)(m:Int)(w:World)(C:s.size<4294967281)(hm:w.cell? ⟨1,0,none⟩=some (.I m))(A:1<=sep.size):
 Calls Tryz.prog 235 #[.string s,.string sep] w λe G=>
  e=.returned (.slice (some ⟨w.heap.size,0,none⟩) (Lib.countB s sep+1) (Lib.countB s sep+1))/\G=w.alloc (.cells ((Lib.splitB sep 0 (Lib.countB s sep) s).map Value.string).toArray 9):=Any.strings_Split Tryz.AGS (by kernel_rfl) s sep m w C hm A
end Go.Proofs
end
