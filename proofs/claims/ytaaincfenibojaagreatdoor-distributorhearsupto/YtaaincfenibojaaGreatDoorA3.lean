/-
  Part 3 of the proof that the law DistributorHearsUptoCardSaid of the given program answers true for every input of the given statement; the input reads behind the call as it did. (The texts: packed from 14 texts. Names are shortened by the packing program, for the bound on size.)
-/
import Derived.Test.YtaaincfenibojaaGreatDoorA2
import Derived.Shelf.Strings.Builder1
import Derived.Shelf.Strings.Builder2
import Derived.Shelf.Small.Bits
import Derived.Shelf.Small.Wraps
import Derived.Shelf.Strings.BuilderF
import Derived.Shelf.Strings.BuilderK
import Derived.Shelf.Strings.Builder2Cap
import Derived.Shelf.Strconv.Atoi
import Derived.Shelf.Strconv.Itoa0
import Derived.Shelf.Strconv.Itoa1
import Derived.Shelf.LaysM
import Derived.Shelf.Strconv.Itoa2
import Derived.Shelf.Strconv.Itoa3
import Derived.Shelf.Strconv.AtoiErrFast
import Derived.Shelf.Strconv.ParseIntEmpty
import Derived.Shelf.Strconv.AtoiFail
import Derived.Shelf.Strconv.Clone
import Derived.Shelf.Strconv.SyntaxError
import Derived.Shelf.LaysC
import Derived.Shelf.Strconv.ToError
import Derived.Shelf.Strconv.AtoiErr
import Derived.Shelf.Strconv.Lower
import Derived.Shelf.Strconv.ParseUint10
import Derived.Shelf.Strconv.ParseUint10Empty
import Derived.Shelf.Strconv.ParseUint10Any
import Derived.Shelf.Strconv.ParseInt10
import Derived.Shelf.Strconv.RangeError
import Derived.Shelf.Strconv.ToErrorRange
import Derived.Shelf.Strconv.ParseUintEmpty
import Derived.Shelf.Strconv.ParseUint10b64
import Derived.Shelf.Strconv.ParseUint10b32
import Derived.Shelf.Strconv.ParseUint10b16
import Derived.Shelf.Strconv.ParseUint10b8
import Derived.Shelf.Strconv.ParseUint10At
import Derived.Shelf.Strconv.ParseInt10At64
import Derived.Shelf.Strconv.ParseInt10At32
import Derived.Shelf.Strconv.ParseInt10At16
import Derived.Shelf.Strconv.ParseInt10At8
import Derived.Shelf.Sort.Plain
import Derived.Shelf.Strings.Prefix
import Derived.Shelf.Bits.Mul64
import Derived.Shelf.Strings.Repeat
import Derived.Shelf.Strings.BuilderCap
import Derived.Shelf.Slices.Turned
import Derived.Ground.Names2Prog
import Derived.Shelf.Slices.CompactI
import Derived.Shelf.Slices.SearchI
import Derived.Shelf.Slices.Cells
import Derived.Shelf.Slices.In.SortNone
import Derived.Shelf.Bytes.SlSearch0
import Derived.Shelf.Bytes.SlEqualAll
import Derived.Shelf.Bytes.Small
import Derived.Test.YtaaincfenibojaaGreatDoorProg
import Derived.Laws.Bits64b
set_option linter.all false
section
set_option maxRecDepth 100000
noncomputable section
namespace TwW
open Go Tw Go.Proofs.Tryz
variable [I7] {R : Rr} {σ : Hp}

namespace XF
variable {x0 : Int}
def M : Fw := ⟨prog, 8, f8, [], [], false, [], [], []⟩
theorem ok : M.Ok := ⟨AM.nil, mixed, func8, by kernel_rfl⟩
theorem start (h : Df (Go.bits .and .i64 x0 9223372036854775807) fun x4 => R (.returned (.int .i64 x4)) σ) : Spec prog 8 #[.int .i64 x0] σ R := M.start h ok
end XF
namespace Aw
variable {q0 p4 Y0 : Option Addr} {n4 c4 n16 Z3 : Nat} {t5 t6 : Bool} {D8 FT x9 : Int} {v24 : Value}
def M : Fw := ⟨prog, 17, f17, [51], [8], false, [], [(24, 127)], [(488, [(0, wQ), (4, wL), (5, wB), (6, wB), (16, wL), (17, wI), (18, wI)]), (501352, [(0, wQ), (4, wL), (5, wB), (6, wB), (9, wI), (16, wL), (17, wI), (18, wI), (24, wV)])]⟩
theorem ok : M.Ok := ⟨.cons call51 (AM.nil), mixed, func17, by kernel_rfl⟩
def HC := M.pt 0
def Qi := M.pt 1
theorem start (h : Pq q0 fun LG Nq => LS σ LG (Nq + 2) fun Y0 n16 Z3 => HC R (aD LG Nq) none 0 0 true false Y0 n16 Z3 (n16 : Int) 0 σ) : Spec prog 17 #[.pointer q0] σ R := M.start h ok
theorem F5 (h : Br (FT < D8) (Pq Y0 fun BA cR => In FT (n16 : Int) ∧ ∃ AKi AKj AKk rC rD AKl AKm AKn AD0, EF σ BA (cR + Int.toNat FT * 5) [.slice AKi AKj AKk, .int .i64 rC, .int .u64 rD, .slice AKl AKm AKn, .map AD0] ∧ ∀ b8 : Nat, AJ prog (Instr.range 127 (.map AD0)) σ (fun z y => ∃ v24, v24 = z ∧ Qi R q0 p4 n4 c4 t5 t6 0 (aD BA cR) n16 Z3 D8 FT v24 y)) (Bo t5 (R (.returned (.tuple #[.int .i64 1, .slice p4 n4 c4])) σ) (Bo t6 (R (.returned (.tuple #[.int .i64 6, .slice p4 n4 c4])) σ) (R (.returned (.tuple #[.int .i64 5, .slice p4 n4 c4])) σ)))) : HC R q0 p4 n4 c4 t5 t6 Y0 n16 Z3 D8 FT σ := M.of h ok rfl
theorem Ps (h : AJ prog (Instr.next v24 false 0) σ (fun v y => (v = (.tuple #[.bool false]) ∧ Pq q0 fun b35 o35 => LI .i64 y b35 (o35 + 1) fun KJ => Bo t5 (Bo t6 (Al y fun NR => AJ prog (Builtin.append_ #[51, 51] 51 #[.slice p4 n4 c4, (.slice (aD NR 0) 1 1)]) (Hp.set y NR (.cells #[(.bool (decide (KJ ≤ x9)))] 4 (0, 0))) (CS fun fM n50 fN AI => AO (FT + 1) ∧ HC R (aD b35 o35) fM n50 fN ((decide (KJ ≤ x9))) true Y0 n16 Z3 D8 (FT + 1) AI)) (Al y fun NR => AJ prog (Builtin.append_ #[51, 51] 51 #[.slice p4 n4 c4, (.slice (aD NR 0) 1 1)]) (Hp.set y NR (.cells #[(.bool (decide (KJ ≤ x9)))] 4 (0, 0))) (CS fun fM n50 fN AI => AO (FT + 1) ∧ HC R (aD b35 o35) fM n50 fN ((decide (KJ ≤ x9))) ((decide (KJ ≤ x9))) Y0 n16 Z3 D8 (FT + 1) AI))) (Bo t6 (Al y fun NR => AJ prog (Builtin.append_ #[51, 51] 51 #[.slice p4 n4 c4, (.slice (aD NR 0) 1 1)]) (Hp.set y NR (.cells #[(.bool (decide (KJ ≤ x9)))] 4 (0, 0))) (CS fun fM n50 fN AI => AO (FT + 1) ∧ HC R (aD b35 o35) fM n50 fN false true Y0 n16 Z3 D8 (FT + 1) AI)) (Al y fun NR => AJ prog (Builtin.append_ #[51, 51] 51 #[.slice p4 n4 c4, (.slice (aD NR 0) 1 1)]) (Hp.set y NR (.cells #[(.bool (decide (KJ ≤ x9)))] 4 (0, 0))) (CS fun fM n50 fN AI => AO (FT + 1) ∧ HC R (aD b35 o35) fM n50 fN false ((decide (KJ ≤ x9))) Y0 n16 Z3 D8 (FT + 1) AI)))) ∨ (∃ FV qt, v = (.tuple #[.bool true, .int .i64 FV, .int .i64 qt]) ∧ AJ prog (Instr.entry v24) y (fun z AI => ∃ AKo AD3, z = (.tuple #[.int .i64 AKo, .int .i64 AD3]) ∧ Spec prog 51 #[.int .i64 AD3] AI (AB R (CB fun t30 AV => Bo t30 (AO (x9 + 1) ∧ Qi R q0 p4 n4 c4 t5 t6 (x9 + 1) Y0 n16 Z3 D8 FT v24 AV) (Qi R q0 p4 n4 c4 t5 t6 x9 Y0 n16 Z3 D8 FT v24 AV))))))) : Qi R q0 p4 n4 c4 t5 t6 x9 Y0 n16 Z3 D8 FT v24 σ := M.of h ok rfl
end Aw
namespace Mm
variable {q0 q7 ca : Option Addr} {n24 c24 : Nat} {NQ IK : Int}
def M : Fw := ⟨prog, 41, f41, [95, 96], [], false, [], [], [(1000, [(7, wQ), (24, wL), (25, wI), (26, wI)])]⟩
theorem ok : M.Ok := ⟨.cons call95 (.cons call96 (AM.nil)), mixed, func41, by kernel_rfl⟩
def JL := M.pt 0
theorem start (h : Spec prog 95 #[.pointer q0, (.string (ByteArray.mk #[107, 118]))] σ (AB R (fun z y => ∃ Z4 AD4 yP AD5 Ux, z = (.tuple #[.pointer Z4, .slice AD4 yP AD5, .int .i64 Ux]) ∧ Br (Ux ≠ 0) (R (.returned (.tuple #[.pointer none, .int .i64 Ux])) y) (AJ prog (Instr.makeMap 159 none) y (fun z AI => ∃ m21, z = (.map (some m21)) ∧ Al AI fun Yv => JL R (aD Yv 0) AD4 yP AD5 (yP : Int) 0 (Hp.set AI Yv (.cells #[.pointer Z4, .pointer q0, (.map (some m21))] 161 (0, 0)))))))) : Spec prog 41 #[.pointer q0] σ R := M.start h ok
theorem Gm (h : Br (IK < NQ) (Pq ca fun Qh dD => In IK (n24 : Int) ∧ LS σ Qh (dD + Int.toNat IK * 1) fun eh n29 ei => Spec prog 96 #[.pointer q7, .slice eh n29 ei] σ (AB R (CB fun t32 y => Bn t32 (R (.returned (.tuple #[.pointer none, .int .i64 71])) y) (AO (IK + 1) ∧ JL R q7 (aD Qh dD) n24 c24 NQ (IK + 1) y)))) (R (.returned (.tuple #[.pointer q7, .int .i64 0])) σ)) : JL R q7 ca n24 c24 NQ IK σ := M.of h ok rfl
end Mm
namespace Mn
variable {q0 : Option Addr}
def M : Fw := ⟨prog, 65, f65, [131, 133, 134], [], false, [], [], []⟩
theorem ok : M.Ok := ⟨.cons call131 (.cons call133 (.cons call134 (AM.nil))), mixed, func65, by kernel_rfl⟩
theorem start (h : Spec prog 131 #[.pointer q0] σ (AB R (CB fun t4 y => Bn t4 (R (.returned (.int .i64 0)) y) (Pq q0 fun b7 o7 => LQ y b7 o7 fun q9 => LI .i64 y b7 (o7 + 4) fun E7 => Spec prog 134 #[(.pointer (aD b7 o7)), (.string (ByteArray.mk #[115])), .int .i64 E7] y (AB R (CT fun et AI => Kp [b7] y AI ∧ Spec prog 133 #[.pointer q9, .string et] AI (AB R (CI .i64 fun FF AV => R (.returned (.int .i64 FF)) AV)))))))) : Spec prog 65 #[.pointer q0] σ R := M.start h ok
end Mn
namespace Ho
variable {q0 : Option Addr}
def M : Fw := ⟨prog, 73, f73, [], [], false, [], [], []⟩
theorem ok : M.Ok := ⟨AM.nil, mixed, func73, by kernel_rfl⟩
theorem start (h : Pq q0 fun b4 o4 => LI .i64 σ b4 (o4 + 3) fun x6 => Br (0 ≤ x6) (LI .i64 σ b4 (o4 + 5) fun Eg => AO (Eg + 1) ∧ R (.returned (.int .i64 (Eg + 1))) σ) (LI .i64 σ b4 (o4 + 5) fun FF => R (.returned (.int .i64 FF)) σ)) : Spec prog 73 #[.pointer q0] σ R := M.start h ok
end Ho
namespace KO
variable {q0 p1 : Option Addr} {n1 c1 : Nat}
def M : Fw := ⟨prog, 96, f96, [94, 115, 177], [], false, [], [], []⟩
theorem ok : M.Ok := ⟨.cons call94 (.cons call115 (.cons call177 (AM.nil))), mixed, func96, by kernel_rfl⟩
theorem start (h : Spec prog 115 #[.slice p1 n1 c1, .int .i64 0] σ (AB R (fun z y => ∃ Wp Nz Ux, z = (.tuple #[.string Wp, .int .i64 Nz, .int .i64 Ux]) ∧ Br (Ux ≠ 0) (R (.returned (.bool false)) y) (Spec prog 177 #[.slice p1 n1 c1, .int .i64 Nz] y (AB R (fun z AI => ∃ Uy rC rD, z = (.tuple #[.int .u64 Uy, .int .i64 rC, .int .i64 rD]) ∧ Br (rD ≠ 0) (R (.returned (.bool false)) AI) (Spec prog 115 #[.slice p1 n1 c1, .int .i64 rC] AI (AB R (fun z AV => ∃ AD6 py pz, z = (.tuple #[.string AD6, .int .i64 py, .int .i64 pz]) ∧ Br (pz ≠ 0) (R (.returned (.bool false)) AV) (Br (py ≠ (n1 : Int)) (R (.returned (.bool false)) AV) (Spec prog 94 #[.string Wp] AV (AB R (CB fun t44 Ay => Bn t44 (R (.returned (.bool false)) Ay) (Br (Uy = 0) (R (.returned (.bool false)) Ay) (Pq q0 fun lE o52 => LM Ay lE (o52 + 2) fun m54 => AJ prog (convert 9 84 (.string AD6)) Ay (CS fun p57 n57 c57 Dj => AJ prog (Instr.mapUpdate 159 (.map m54) (.string Wp) (.agg #[.slice p57 n57 c57, .int .u64 Uy])) Dj (fun _ Ge => R (.returned (.bool true)) Ge))))))))))))))))) : Spec prog 96 #[.pointer q0, .slice p1 n1 c1] σ R := M.start h ok
end KO
namespace Mo
variable {E6 x1 : Int} {HX : Option Addr} {Gd HY : Nat} {v2 : Value}
def M : Fw := ⟨prog, 100, f100, [54, 117, 186, 187], [3, 6], false, [], [], []⟩
theorem ok : M.Ok := ⟨.cons call54 (.cons call117 (.cons call186 (.cons call187 (AM.nil)))), mixed, func100, by kernel_rfl⟩
theorem start (h : ∀ b3 : Nat, ∀ b6 : Nat, Spec prog 54 #[.agg #[.int .u64 E6, .slice HX Gd HY]] σ (AB R (CI .i64 fun Eg y => Br (Eg ≠ 0) (R (.returned (.tuple #[.agg #[.int .u64 0, .slice none 0 0], .int .i64 130])) y) (Br (E6 = 18446744073709551615) (R (.returned (.tuple #[.agg #[.int .u64 0, .slice none 0 0], .int .i64 130])) y) (Spec prog 117 #[.int .i64 x1] y (AB R (CB fun t20 AI => Bn t20 (R (.returned (.tuple #[.agg #[.int .u64 0, .slice none 0 0], .int .i64 130])) AI) (Spec prog 186 #[.agg #[.int .u64 E6, .slice HX Gd HY]] AI (AB R (fun z AV => ∃ FV AD7 AD8 AD9, z = (.agg #[.int .u64 FV, .slice AD7 AD8 AD9]) ∧ Al AV fun b8 => AJ prog (Instr.storeAt 41 (.pointer (aD b8 0)) (.agg #[.int .u64 FV, .slice AD7 AD8 AD9])) (Hp.set AV b8 (.cells #[.int .u64 0, .slice none 0 0] 41 (0, 0))) (fun _ Ay => LI .u64 Ay b8 0 fun JB => Df (IntKind.u64.wrap (JB + 1)) fun G9 => AJ prog (Instr.storeAt 23 (.pointer (aD b8 0)) (.int .u64 G9)) Ay (fun _ Dj => Spec prog 187 #[.agg #[.int .u64 E6, .slice HX Gd HY], .int .i64 x1] Dj (AB R (CI .i64 fun fO Ge => ∃ (f36 : Nat) (uT uU : Array Value), v2 = .func (.func f36) uT uU ∧ Enters prog f36 ∧ Spec prog f36 (uT ++ #[(.agg #[(.pointer (aD b8 0)), .int .i64 x1, .int .i64 fO])] ++ uU) Ge (AB R (CI .i64 fun x36 Qe => Br (x36 ≠ 0) (R (.returned (.tuple #[.agg #[.int .u64 0, .slice none 0 0], .int .i64 x36])) Qe) (∃ AEA AEB AEC AED, EF Qe b8 0 [.int .u64 AEA, .slice AEB AEC AED] ∧ R (.returned (.tuple #[.agg #[.int .u64 AEA, .slice AEB AEC AED], .int .i64 0])) Qe))))))))))))))))) : Spec prog 100 #[.agg #[.int .u64 E6, .slice HX Gd HY], .int .i64 x1, v2] σ R := M.KH h ok [(0, .G [.I .u64 E6, .L HX Gd HY]), (1, .o (.I .i64 x1)), (2, .o (.V v2))] rfl rfl (by kernel_rfl)
end Mo
namespace C2
variable {ti q1a : Option Addr} {IL H9 R3 fS x3 : Int}
def M : Fw := ⟨prog, 101, f101, [188, 189], [1], false, [(4, 22, true), (6, 18, false)], [], [(480, [(1, .X 201 [.Q, .I .i64, .I .i64]), (3, wI)])]⟩
theorem ok : M.Ok := ⟨.cons call188 (.cons call189 (AM.nil)), mixed, func101, by kernel_rfl⟩
def Ap := M.pt 0
theorem start (h : ∀ b1 : Nat, Br (0 ≤ H9) (R (.returned (.int .i64 131)) σ) (Ap R ti IL H9 0 σ)) : Spec prog 101 #[.agg #[.pointer ti, .int .i64 IL, .int .i64 H9]] σ R := M.start h ok
theorem BI (h : Pq q1a fun EL Ld => LS σ EL (Ld + 1) fun J6 n12 c12 => Br (x3 < (n12 : Int)) (LS σ EL (Ld + 1) fun uJ n20 c20 => Pq uJ fun Nr Ww => In x3 (n20 : Int) ∧ LI .i64 σ Nr (Ww + Int.toNat x3 * 3) fun J4 => Br (J4 < R3) (AO (x3 + 1) ∧ Ap R (aD EL Ld) R3 fS (x3 + 1) σ) (LS σ EL (Ld + 1) fun R1 n37 c37 => Spec prog 189 #[.int .i64 R3] σ (AB R (CS fun Uu n43 Vk y => Kp [EL] σ y ∧ Al y fun W5 => Spec prog 188 #[.slice R1 n37 c37, .int .i64 x3, (.slice (aD W5 0) 1 1)] (Hp.set y W5 (.cells #[.int .i64 R3, .int .i64 1, .slice Uu n43 Vk] 196 (0, 0))) (AB R (CS fun cW n46 c46 AI => AJ prog (Instr.storeAt 39 (.pointer (aD EL (Ld + 1))) (.slice cW n46 c46)) AI (fun _ AV => R (.returned (.int .i64 0)) AV))))))) (LS σ EL (Ld + 1) fun R1 n37 c37 => Spec prog 189 #[.int .i64 R3] σ (AB R (CS fun Uu n43 Vk y => Kp [EL] σ y ∧ Al y fun W5 => Spec prog 188 #[.slice R1 n37 c37, .int .i64 x3, (.slice (aD W5 0) 1 1)] (Hp.set y W5 (.cells #[.int .i64 R3, .int .i64 1, .slice Uu n43 Vk] 196 (0, 0))) (AB R (CS fun cW n46 c46 AI => AJ prog (Instr.storeAt 39 (.pointer (aD EL (Ld + 1))) (.slice cW n46 c46)) AI (fun _ AV => R (.returned (.int .i64 0)) AV))))))) : Ap R q1a R3 fS x3 σ := M.SI h ok rfl fun _ => by kernel_rfl
end C2
namespace Cb
variable {p0 iX cw p9c : Option Addr} {n0 c0 b1 iY iZ b5 cp cu n9c c9c : Nat} {Z0 Nu x8 x9a xa Di : Int} {v6 : Value}
def M : Fw := ⟨prog, 108, f108, [44, 195, 196], [2, 7, 9], false, [(11, 8, false)], [], [(2000, [(1, wA), (2, .X 41 [.I .u64, .L]), (5, wA), (6, wV), (7, .X 41 [.I .u64, .L]), (8, wU)]), (512592, [(1, wA), (2, .X 41 [.I .u64, .L]), (5, wA), (6, wV), (7, .X 41 [.I .u64, .L]), (8, wU), (9, .X 196 [.I .i64, .I .i64, .L]), (10, wU)])]⟩
theorem ok : M.Ok := ⟨.cons call44 (.cons call195 (.cons call196 (AM.nil))), mixed, func108, by kernel_rfl⟩
def LJ := M.pt 0
def Me := M.pt 1
theorem start (h : Al σ fun b1 => ∀ b2 : Nat, Al (Hp.set σ b1 (.cells #[.slice p0 n0 c0] 84 (0, 0))) fun b4 => Al (Hp.set (Hp.set σ b1 (.cells #[.slice p0 n0 c0] 84 (0, 0))) b4 (.cells #[.int .i64 0] 3 (0, 0))) fun b5 => AJ prog (Instr.storeAt 3 (.pointer (aD b4 0)) (.int .i64 0)) (Hp.set (Hp.set (Hp.set σ b1 (.cells #[.slice p0 n0 c0] 84 (0, 0))) b4 (.cells #[.int .i64 0] 3 (0, 0))) b5 (.cells #[.bool false] 4 (0, 0))) (fun _ y => AJ prog (Instr.storeAt 4 (.pointer (aD b5 0)) (.bool false)) y (fun _ AI => Spec prog 195 #[.int .u64 18446744073709551615, (.pointer (aD b1 0)), (.pointer (aD b4 0)), (.pointer (aD b5 0))] AI (AB R (CI .u64 fun Nv AV => ∀ b7 : Nat, Spec prog 195 #[.int .u64 16, (.pointer (aD b1 0)), (.pointer (aD b4 0)), (.pointer (aD b5 0))] AV (AB R (CI .u64 fun FT Ay => LJ R b1 0 none 0 0 b5 ((.func (.func 195) #[] #[(.pointer (aD b1 0)), (.pointer (aD b4 0)), (.pointer (aD b5 0))])) Nv none 0 0 FT Ay))))))) : Spec prog 108 #[.slice p0 n0 c0] σ R := M.start h ok
theorem Hk (h : Br (0 < x8) (LB σ b5 0 fun t22 => Bn t22 (∃ (f28 : Nat) (uV uW : Array Value), v6 = .func (.func f28) uV uW ∧ Enters prog f28 ∧ Spec prog f28 (uV ++ #[.int .u64 16] ++ uW) σ (AB R (CI .u64 fun G9 y => Df (IntKind.i64.wrap G9) fun MG => ∃ (f31 : Nat) (XG XH : Array Value), v6 = .func (.func f31) XG XH ∧ Enters prog f31 ∧ Spec prog f31 (XG ++ #[.int .u64 3] ++ XH) y (AB R (CI .u64 fun Hm AI => Df (IntKind.i64.wrap Hm) fun uS => ∀ b9 : Nat, ∃ (f35 : Nat) (uX uY : Array Value), v6 = .func (.func f35) uX uY ∧ Enters prog f35 ∧ Spec prog f35 (uX ++ #[.int .u64 64] ++ uY) AI (AB R (CI .u64 fun Zt AV => Me R b1 Z0 iX iY iZ b5 v6 Nu cw cp cu x8 MG uS none 0 0 Zt AV))))))) (Spec prog 44 #[.agg #[.int .u64 Nu, .slice cw cp cu]] σ (AB R (fun z y => ∃ XI XJ XK Uz, z = (.tuple #[.slice XI XJ XK, .int .i64 Uz]) ∧ LB y b5 0 fun t63 => Bo t63 (R (.returned (.tuple #[.agg #[.int .u64 0, .slice none 0 0], .int .i64 130])) y) (Br (Uz ≠ 0) (R (.returned (.tuple #[.agg #[.int .u64 0, .slice none 0 0], .int .i64 130])) y) (LS y b1 0 fun oH oI c70 => Spec prog 196 #[.slice XI XJ XK, .slice oH oI c70] y (AB R (CB fun t71 AI => Bn t71 (R (.returned (.tuple #[.agg #[.int .u64 0, .slice none 0 0], .int .i64 130])) AI) (R (.returned (.tuple #[.agg #[.int .u64 Nu, .slice cw cp cu], .int .i64 0])) AI))))))))) (Spec prog 44 #[.agg #[.int .u64 Nu, .slice cw cp cu]] σ (AB R (fun z y => ∃ XI XJ XK Uz, z = (.tuple #[.slice XI XJ XK, .int .i64 Uz]) ∧ LB y b5 0 fun t63 => Bo t63 (R (.returned (.tuple #[.agg #[.int .u64 0, .slice none 0 0], .int .i64 130])) y) (Br (Uz ≠ 0) (R (.returned (.tuple #[.agg #[.int .u64 0, .slice none 0 0], .int .i64 130])) y) (LS y b1 0 fun oH oI c70 => Spec prog 196 #[.slice XI XJ XK, .slice oH oI c70] y (AB R (CB fun t71 AI => Bn t71 (R (.returned (.tuple #[.agg #[.int .u64 0, .slice none 0 0], .int .i64 130])) AI) (R (.returned (.tuple #[.agg #[.int .u64 Nu, .slice cw cp cu], .int .i64 0])) AI))))))))) : LJ R b1 Z0 iX iY iZ b5 v6 Nu cw cp cu x8 σ := M.of2 h ok rfl fun _ _ => by kernel_rfl
theorem JM (h : Br (0 < Di) (LB σ b5 0 fun t39 => Bn t39 (∃ (f47 : Nat) (uZ ua : Array Value), v6 = .func (.func f47) uZ ua ∧ Enters prog f47 ∧ Spec prog f47 (uZ ++ #[.int .u64 4294967295] ++ ua) σ (AB R (CI .u64 fun SJ y => Df (IntKind.u32.wrap SJ) fun JZ => Al y fun NR => AJ prog (Builtin.append_ #[194, 194] 194 #[.slice p9c n9c c9c, (.slice (aD NR 0) 1 1)]) (Hp.set y NR (.cells #[.int .u32 JZ] 70 (0, 0))) (CS fun fM n50 fN AI => Df (IntKind.u64.wrap (Di - 1)) fun yC => Me R b1 Z0 iX iY iZ b5 v6 Nu cw cp cu x8 x9a xa fM n50 fN yC AI)))) (Al σ fun Vi => AJ prog (Builtin.append_ #[39, 39] 39 #[.slice cw cp cu, (.slice (aD Vi 0) 1 1)]) (Hp.set σ Vi (.cells #[.int .i64 x9a, .int .i64 xa, .slice p9c n9c c9c] 196 (0, 0))) (CS fun p56 n56 c56 y => Df (IntKind.u64.wrap (x8 - 1)) fun IK => LJ R b1 Z0 iX iY iZ b5 v6 Nu p56 n56 c56 IK y))) (Al σ fun Vi => AJ prog (Builtin.append_ #[39, 39] 39 #[.slice cw cp cu, (.slice (aD Vi 0) 1 1)]) (Hp.set σ Vi (.cells #[.int .i64 x9a, .int .i64 xa, .slice p9c n9c c9c] 196 (0, 0))) (CS fun p56 n56 c56 y => Df (IntKind.u64.wrap (x8 - 1)) fun IK => LJ R b1 Z0 iX iY iZ b5 v6 Nu p56 n56 c56 IK y))) : Me R b1 Z0 iX iY iZ b5 v6 Nu cw cp cu x8 x9a xa p9c n9c c9c Di σ := M.of3 h ok rfl fun _ _ _ => by kernel_rfl
end Cb
namespace Bh
variable {b0 b1 b2 : Nat}
def M : Fw := ⟨prog, 110, f110, [27, 111], [], false, [], [], []⟩
theorem ok : M.Ok := ⟨.cons call27 (.cons call111 (AM.nil)), mixed, func110, by kernel_rfl⟩
theorem start (h : LQ σ b0 0 fun q4 => Pq q4 fun b5 o5 => LT σ b5 (o5 + 2) fun s7 => Bo ((ByteArray.toList s7 == ByteArray.toList (ByteArray.mk #[]))) (R (.returned (.int .i64 0)) σ) (LQ σ b1 0 fun q9 => LQ σ b2 0 fun q10 => LQ σ b0 0 fun qf => Pq qf fun PK Qf => LT σ PK Qf fun cS => LQ σ b0 0 fun qW => Pq qW fun Ko Us => LT σ Ko (Us + 1) fun OR => LQ σ b0 0 fun q20 => Pq q20 fun oT rE => LT σ oT (rE + 2) fun s23 => LQ σ b0 0 fun q24 => Pq q24 fun pZ o25 => LI .i64 σ pZ (o25 + 4) fun JB => Spec prog 27 #[.string cS, .string OR] σ (AB R (CT fun s19 y => Kp [pZ, b0, oT, b0, b2, b1] σ y ∧ Spec prog 111 #[.pointer q9, .pointer q10, .string s19, .string s23, .int .i64 JB] y (AB R (CI .i64 fun G9 AI => R (.returned (.int .i64 G9)) AI)))))) : Spec prog 110 #[(.pointer (aD b0 0)), (.pointer (aD b1 0)), (.pointer (aD b2 0))] σ R := M.start h ok
end Bh
namespace Qk
variable {x0 : Int}
def M : Fw := ⟨prog, 127, f127, [], [], false, [], [], []⟩
theorem ok : M.Ok := ⟨AM.nil, mixed, func127, by kernel_rfl⟩
theorem start (h : Df (IntKind.u64.wrap x0) fun x4 => ((0 : Int) ≤ 1 ∧ 1 ≤ ((IntKind.bits .u64 : Nat) : Int)) ∧ Df (IntKind.u64.wrap (x4 * 2 ^ Int.toNat 1)) fun x5 => ((0 : Int) ≤ 63 ∧ 63 ≤ ((IntKind.bits .i64 : Nat) : Int)) ∧ Df (x0 / 2 ^ Int.toNat 63) fun x7 => Df (IntKind.u64.wrap x7) fun x8 => Df (Go.bits .xor .u64 x5 x8) fun x9 => R (.returned (.int .u64 x9)) σ) : Spec prog 127 #[.int .i64 x0] σ R := M.start h ok
end Qk
namespace Ql
variable {x0 : Int}
def M : Fw := ⟨prog, 132, f132, [], [], false, [], [], []⟩
theorem ok : M.Ok := ⟨AM.nil, mixed, func132, by kernel_rfl⟩
theorem start (h : Br (x0 ≠ 0) (R (.panicked [{ v := (.iface 295 (.agg #[.int .i64 x0])), recovered := false }]) σ) (R (.returned (.tuple #[])) σ)) : Spec prog 132 #[.int .i64 x0] σ R := M.start h ok
end Ql
namespace Mp
variable {q0 : Option Addr} {s1 : ByteArray} {x2 : Int}
def M : Fw := ⟨prog, 134, f134, [226], [], false, [], [], []⟩
theorem ok : M.Ok := ⟨.cons call226 (AM.nil), mixed, func134, by kernel_rfl⟩
theorem start (h : Pq q0 fun b8 o8 => LT σ b8 (o8 + 1) fun Ys => (ByteArray.size Ys + ByteArray.size (ByteArray.mk #[47]) ≤ 9223372036854775807) ∧ (ByteArray.size (Ys ++ (ByteArray.mk #[47])) + ByteArray.size s1 ≤ 9223372036854775807) ∧ Df (IntKind.u64.wrap x2) fun Nv => Spec prog 226 #[.int .u64 Nv, .int .i64 8] σ (AB R (CT fun s16 y => Kp [b8] σ y ∧ (ByteArray.size ((Ys ++ (ByteArray.mk #[47])) ++ s1) + ByteArray.size s16 ≤ 9223372036854775807) ∧ R (.returned (.string (((Ys ++ (ByteArray.mk #[47])) ++ s1) ++ s16))) y))) : Spec prog 134 #[.pointer q0, .string s1, .int .i64 x2] σ R := M.start h ok
end Mp
namespace Im
variable {q0 p2 : Option Addr} {s1 : ByteArray} {n2 c2 : Nat}
def M : Fw := ⟨prog, 135, f135, [221], [], false, [], [], []⟩
theorem ok : M.Ok := ⟨.cons call221 (AM.nil), mixed, func135, by kernel_rfl⟩
theorem start (h : Al σ fun b3 => Al (Hp.set σ b3 (.cells #[.pointer q0] 106 (0, 0))) fun b4 => Al (Hp.set (Hp.set σ b3 (.cells #[.pointer q0] 106 (0, 0))) b4 (.cells #[.string s1] 9 (0, 0))) fun b5 => LQ (Hp.set (Hp.set (Hp.set σ b3 (.cells #[.pointer q0] 106 (0, 0))) b4 (.cells #[.string s1] 9 (0, 0))) b5 (.cells #[.slice p2 n2 c2] 84 (0, 0))) b3 0 fun q9 => Spec prog 221 #[.pointer q9, (.func (.func 228) #[] #[(.pointer (aD b4 0)), (.pointer (aD b3 0)), (.pointer (aD b5 0))]), (.func (.func 227) #[] #[(.pointer (aD b3 0)), (.pointer (aD b4 0)), (.pointer (aD b5 0))]), (.func (.func 227) #[] #[(.pointer (aD b3 0)), (.pointer (aD b4 0)), (.pointer (aD b5 0))])] (Hp.set (Hp.set (Hp.set σ b3 (.cells #[.pointer q0] 106 (0, 0))) b4 (.cells #[.string s1] 9 (0, 0))) b5 (.cells #[.slice p2 n2 c2] 84 (0, 0))) (AB R (CI .i64 fun FU y => R (.returned (.int .i64 FU)) y))) : Spec prog 135 #[.pointer q0, .string s1, .slice p2 n2 c2] σ R := M.start h ok
end Im
namespace Fq
variable {q0 p2 yQ : Option Addr} {s1 fU : ByteArray} {n2 c2 rF yR : Nat} {t9 : Bool} {SL : Int}
def M : Fw := ⟨prog, 140, f140, [236, 237, 238, 239, 240], [10], false, [], [], [(252, [(0, wQ), (2, wL), (9, wB), (10, .X 305 [.T, .L, .I .i64])])]⟩
theorem ok : M.Ok := ⟨.cons call236 (.cons call237 (.cons call238 (.cons call239 (.cons call240 (AM.nil))))), mixed, func140, by kernel_rfl⟩
def Gn := M.pt 0
theorem start (h : Spec prog 236 #[.pointer q0, .string s1, .bool false] σ (AB R (CI .i64 fun E7 y => Br (E7 ≠ 0) (R (.returned (.int .i64 E7)) y) (Spec prog 237 #[.pointer q0, .string s1] y (AB R (fun z AI => ∃ Uy XE, z = (.tuple #[.int .i64 Uy, .bool XE]) ∧ ∀ EL : Nat, Bo XE (Pq q0 fun Qh dD => LS AI Qh dD fun p30 n30 c30 => Pq p30 fun jz j0 => In Uy (n30 : Int) ∧ ∃ AEF AEG AEH AEI AEJ, EF AI jz (j0 + Int.toNat Uy * 3) [.string AEF, .slice AEG AEH AEI, .int .i64 AEJ] ∧ Gn R (aD Qh dD) p2 n2 c2 true AEF AEG AEH AEI AEJ AI) (Gn R q0 p2 n2 c2 false s1 none 0 0 0 AI))))))) : Spec prog 140 #[.pointer q0, .string s1, .slice p2 n2 c2] σ R := M.start h ok
theorem F4 (h : Br (4194304 < (n2 : Int)) (R (.returned (.int .i64 63)) σ) (AO (4194304 - (n2 : Int)) ∧ Br (((4194304 - (n2 : Int)) : Int) < (rF : Int)) (R (.returned (.int .i64 63)) σ) (Bn t9 (Pq q0 fun Zv Zw => LS σ Zv Zw fun p53 n53 c53 => Br (1048576 ≤ (n53 : Int)) (R (.returned (.int .i64 63)) σ) (Spec prog 238 #[(.pointer (aD Zv Zw))] σ (AB R (CB fun t59 y => Al y fun R5 => AJ prog (Builtin.append_ #[84, 84] 84 #[(.slice (aD R5 0) 0 0), .slice yQ rF yR]) (Hp.set y R5 (.cells #[] 5 (0, 0))) (CS fun p63 n63 c63 AI => AJ prog (Builtin.append_ #[84, 84] 84 #[.slice p63 n63 c63, .slice p2 n2 c2]) AI (CS fun p65 n65 c65 AV => Spec prog 239 #[(.pointer (aD Zv Zw)), .agg #[.string fU, .slice p65 n65 c65, .int .i64 SL]] AV (AB R (fun z Ay => z = (.tuple #[]) ∧ Bo t59 (LI .i64 Ay Zv (Zw + 4) fun ub => Spec prog 240 #[(.pointer (aD Zv Zw)), .int .i64 ub] Ay (AB R (fun z Dj => z = (.tuple #[]) ∧ R (.returned (.int .i64 60)) Dj))) (R (.returned (.int .i64 0)) Ay))))))))) (Spec prog 238 #[.pointer q0] σ (AB R (CB fun t59 y => Al y fun R5 => AJ prog (Builtin.append_ #[84, 84] 84 #[(.slice (aD R5 0) 0 0), .slice yQ rF yR]) (Hp.set y R5 (.cells #[] 5 (0, 0))) (CS fun p63 n63 c63 AI => AJ prog (Builtin.append_ #[84, 84] 84 #[.slice p63 n63 c63, .slice p2 n2 c2]) AI (CS fun p65 n65 c65 AV => Spec prog 239 #[.pointer q0, .agg #[.string fU, .slice p65 n65 c65, .int .i64 SL]] AV (AB R (fun z Ay => z = (.tuple #[]) ∧ Bo t59 (Pq q0 fun b73 o73 => LI .i64 Ay b73 (o73 + 4) fun ub => Spec prog 240 #[(.pointer (aD b73 o73)), .int .i64 ub] Ay (AB R (fun z Dj => z = (.tuple #[]) ∧ R (.returned (.int .i64 60)) Dj))) (R (.returned (.int .i64 0)) Ay))))))))))) : Gn R q0 p2 n2 c2 t9 fU yQ rF yR SL σ := M.SI h ok rfl fun _ => by kernel_rfl
end Fq
namespace Io
variable {q0 p6 : Option Addr} {s1 : ByteArray} {n6 c6 : Nat} {x7 x8 Du : Int}
def M : Fw := ⟨prog, 179, f179, [148, 149, 150, 237], [], false, [], [], [(976, [(0, wQ), (1, wT), (6, wL), (7, wI), (8, wI)]), (252, [(0, wQ), (1, wT), (6, wL), (7, wI)]), (4048, [(0, wQ), (1, wT), (6, wL), (7, wI), (12, wI)]), (4051, [(0, wQ), (1, wT), (6, wL), (7, wI), (12, wI)])]⟩
theorem ok : M.Ok := ⟨.cons call148 (.cons call149 (.cons call150 (.cons call237 (AM.nil)))), mixed, func179, by kernel_rfl⟩
def yS := M.pt 0
def Nw := M.pt 1
def AEK := M.pt 2
def DY := M.pt 3
theorem start (h : (ByteArray.size s1 + ByteArray.size (ByteArray.mk #[47]) ≤ 9223372036854775807) ∧ Spec prog 149 #[.pointer q0, (.string (s1 ++ (ByteArray.mk #[47])))] σ (AB R (CS fun Zu n19 Yr y => yS R q0 s1 Zu n19 Yr 0 0 y))) : Spec prog 179 #[.pointer q0, .string s1] σ R := M.start h ok
theorem rG (h : Br (x8 < (n6 : Int)) (Pq p6 fun Kn TT => In x8 (n6 : Int) ∧ LT σ Kn (TT + Int.toNat x8 * 1) fun s30 => (ByteArray.size s1 + ByteArray.size (ByteArray.mk #[47, 99]) ≤ 9223372036854775807) ∧ Spec prog 150 #[.string s30, (.string (s1 ++ (ByteArray.mk #[47, 99])))] σ (AB R (CI .i64 fun uI y => AO (x8 + 1) ∧ yS R q0 s1 (aD Kn TT) n6 c6 (if x7 < uI then uI else x7) (x8 + 1) y))) ((ByteArray.size s1 + ByteArray.size (ByteArray.mk #[47, 110, 101, 119]) ≤ 9223372036854775807) ∧ Spec prog 237 #[.pointer q0, (.string (s1 ++ (ByteArray.mk #[47, 110, 101, 119])))] σ (AB R (fun z y => ∃ AKs AEL, z = (.tuple #[.int .i64 AKs, .bool AEL]) ∧ Bo AEL ((ByteArray.size s1 + ByteArray.size (ByteArray.mk #[47, 110, 101, 119]) ≤ 9223372036854775807) ∧ Spec prog 148 #[.pointer q0, (.string (s1 ++ (ByteArray.mk #[47, 110, 101, 119])))] y (AB R (CI .i64 fun fD AI => Br (fD ≠ 0) (R (.returned (.tuple #[.int .i64 0, .int .i64 fD])) AI) (Nw R q0 s1 p6 n6 c6 x7 AI)))) (Nw R q0 s1 p6 n6 c6 x7 y))))) : yS R q0 s1 p6 n6 c6 x7 x8 σ := M.of h ok rfl
theorem JN (h : AEK R q0 s1 p6 n6 c6 x7 0 σ) : Nw R q0 s1 p6 n6 c6 x7 σ := M.of h ok rfl
theorem rH (h : Br (Du < (n6 : Int)) (Pq p6 fun NS ic => In Du (n6 : Int) ∧ LT σ NS (ic + Int.toNat Du * 1) fun s59 => (ByteArray.size s1 + ByteArray.size (ByteArray.mk #[47, 99]) ≤ 9223372036854775807) ∧ In Du (n6 : Int) ∧ LT σ NS (ic + Int.toNat Du * 1) fun s66 => (ByteArray.size s1 + ByteArray.size (ByteArray.mk #[47, 115]) ≤ 9223372036854775807) ∧ Spec prog 150 #[.string s59, (.string (s1 ++ (ByteArray.mk #[47, 99])))] σ (AB R (CI .i64 fun xk y => Kp [NS] σ y ∧ Spec prog 150 #[.string s66, (.string (s1 ++ (ByteArray.mk #[47, 115])))] y (AB R (CI .i64 fun x69 AI => Br (1 ≤ xk) (Br (xk < x7) (In Du (n6 : Int) ∧ LT AI NS (ic + Int.toNat Du * 1) fun s90 => Spec prog 148 #[.pointer q0, .string s90] AI (AB R (CI .i64 fun uc AV => Br (uc ≠ 0) (R (.returned (.tuple #[.int .i64 0, .int .i64 uc])) AV) (DY R q0 s1 (aD NS ic) n6 c6 x7 Du AV)))) (Br (1 ≤ x69) (Br (x69 ≤ x7) (In Du (n6 : Int) ∧ LT AI NS (ic + Int.toNat Du * 1) fun s90 => Spec prog 148 #[.pointer q0, .string s90] AI (AB R (CI .i64 fun uc AV => Br (uc ≠ 0) (R (.returned (.tuple #[.int .i64 0, .int .i64 uc])) AV) (DY R q0 s1 (aD NS ic) n6 c6 x7 Du AV)))) (DY R q0 s1 (aD NS ic) n6 c6 x7 Du AI)) (DY R q0 s1 (aD NS ic) n6 c6 x7 Du AI))) (Br (1 ≤ x69) (Br (x69 ≤ x7) (In Du (n6 : Int) ∧ LT AI NS (ic + Int.toNat Du * 1) fun s90 => Spec prog 148 #[.pointer q0, .string s90] AI (AB R (CI .i64 fun uc AV => Br (uc ≠ 0) (R (.returned (.tuple #[.int .i64 0, .int .i64 uc])) AV) (DY R q0 s1 (aD NS ic) n6 c6 x7 Du AV)))) (DY R q0 s1 (aD NS ic) n6 c6 x7 Du AI)) (DY R q0 s1 (aD NS ic) n6 c6 x7 Du AI))))))) (R (.returned (.tuple #[.int .i64 x7, .int .i64 0])) σ)) : AEK R q0 s1 p6 n6 c6 x7 Du σ := M.of h ok rfl
end Io
namespace HF
variable {q0 p4 : Option Addr} {x1 x5 x6 : Int} {n4 c4 : Nat}
def M : Fw := ⟨prog, 183, f183, [149, 150, 180], [], false, [(8, 18, false)], [], [(4048, [(0, wQ), (1, wI), (4, wL), (5, wI)]), (4051, [(0, wQ), (1, wI), (4, wL), (5, wI)]), (518458, [(0, wQ), (1, wI), (4, wL), (5, wI), (6, wI)])]⟩
theorem ok : M.Ok := ⟨.cons call149 (.cons call150 (.cons call180 (AM.nil))), mixed, func183, by kernel_rfl⟩
def Ap := M.pt 0
def fE := M.pt 1
def QV := M.pt 2
theorem start (h : Pq q0 fun EL Ld => LQ σ EL Ld fun Jv => LT σ EL (Ld + 1) fun s16 => (ByteArray.size s16 + ByteArray.size (ByteArray.mk #[47]) ≤ 9223372036854775807) ∧ Spec prog 149 #[.pointer Jv, (.string (s16 ++ (ByteArray.mk #[47])))] σ (AB R (CS fun ej n18 oE y => AJ prog (Instr.storeAt 3 (.pointer (aD EL (Ld + 4))) (.int .i64 0)) y (fun _ AI => AJ prog (Instr.storeAt 3 (.pointer (aD EL (Ld + 2))) (.int .i64 0)) AI (fun _ AV => AJ prog (Instr.storeAt 3 (.pointer (aD EL (Ld + 3))) (.int .i64 (-1))) AV (fun _ Ay => AJ prog (Instr.storeAt 3 (.pointer (aD EL (Ld + 5))) (.int .i64 0)) Ay (fun _ Dj => Ap R (aD EL Ld) x1 ej n18 oE 0 Dj))))))) : Spec prog 183 #[.pointer q0, .int .i64 x1] σ R := M.start h ok
theorem BI (h : Br (x5 < (n4 : Int)) (Pq q0 fun Ny cz => LI .i64 σ Ny (cz + 4) fun Lh => Pq p4 fun Wm Yt => In x5 (n4 : Int) ∧ LT σ Wm (Yt + Int.toNat x5 * 1) fun s45 => LT σ Ny (cz + 1) fun s49 => (ByteArray.size s49 + ByteArray.size (ByteArray.mk #[47, 99]) ≤ 9223372036854775807) ∧ Spec prog 150 #[.string s45, (.string (s49 ++ (ByteArray.mk #[47, 99])))] σ (AB R (CI .i64 fun Yw y => Kp [Ny] σ y ∧ AJ prog (Instr.storeAt 3 (.pointer (aD Ny (cz + 4))) (.int .i64 (if Lh < Yw then Yw else Lh))) y (fun _ AI => In x5 (n4 : Int) ∧ LT AI Wm (Yt + Int.toNat x5 * 1) fun s58 => LT AI Ny (cz + 1) fun s62 => (ByteArray.size s62 + ByteArray.size (ByteArray.mk #[47, 115]) ≤ 9223372036854775807) ∧ Spec prog 150 #[.string s58, (.string (s62 ++ (ByteArray.mk #[47, 115])))] AI (AB R (CI .i64 fun x64 AV => Br (0 < x64) (LI .i64 AV Ny (cz + 3) fun xx => Br (0 ≤ xx) (LI .i64 AV Ny (cz + 5) fun ub => AO (ub + 1) ∧ AJ prog (Instr.storeAt 3 (.pointer (aD Ny (cz + 5))) (.int .i64 (ub + 1))) AV (fun _ Ay => QV R (aD Ny cz) x1 (aD Wm Yt) n4 c4 x5 x64 Ay)) (QV R (aD Ny cz) x1 (aD Wm Yt) n4 c4 x5 x64 AV)) (fE R (aD Ny cz) x1 (aD Wm Yt) n4 c4 x5 AV))))))) (Pq q0 fun yT yU => LI .i64 σ yT (yU + 3) fun AKt => Br (AKt < 0) (LI .i64 σ yT (yU + 4) fun rI => AO ((if x1 < rI then rI else x1) + 1) ∧ AJ prog (Instr.storeAt 3 (.pointer (aD yT (yU + 2))) (.int .i64 ((if x1 < rI then rI else x1) + 1))) σ (fun _ y => R (.returned (.tuple #[])) y)) (R (.returned (.tuple #[])) σ))) : Ap R q0 x1 p4 n4 c4 x5 σ := M.of h ok rfl
end HF
namespace Ln
variable {x0 : Int} {b1 b2 b3 : Nat}
def M : Fw := ⟨prog, 195, f195, [177], [], false, [], [], []⟩
theorem ok : M.Ok := ⟨.cons call177 (AM.nil), mixed, func195, by kernel_rfl⟩
theorem start (h : LS σ b1 0 fun PF n10 H6 => LI .i64 σ b2 0 fun Eg => Spec prog 177 #[.slice PF n10 H6, .int .i64 Eg] σ (AB R (fun z y => ∃ Uw Nz Ux, z = (.tuple #[.int .u64 Uw, .int .i64 Nz, .int .i64 Ux]) ∧ LB y b3 0 fun t16 => Bo t16 (AJ prog (Instr.storeAt 4 (.pointer (aD b3 0)) (.bool true)) y (fun _ AI => LB AI b3 0 fun t26 => Bo t26 (R (.returned (.int .u64 0)) AI) (AJ prog (Instr.storeAt 3 (.pointer (aD b2 0)) (.int .i64 Nz)) AI (fun _ AV => R (.returned (.int .u64 Uw)) AV)))) (Br (Ux ≠ 0) (AJ prog (Instr.storeAt 4 (.pointer (aD b3 0)) (.bool true)) y (fun _ AI => LB AI b3 0 fun t26 => Bo t26 (R (.returned (.int .u64 0)) AI) (AJ prog (Instr.storeAt 3 (.pointer (aD b2 0)) (.int .i64 Nz)) AI (fun _ AV => R (.returned (.int .u64 Uw)) AV)))) (AJ prog (Instr.storeAt 4 (.pointer (aD b3 0)) (.bool (decide (x0 < Uw)))) y (fun _ AI => LB AI b3 0 fun t26 => Bo t26 (R (.returned (.int .u64 0)) AI) (AJ prog (Instr.storeAt 3 (.pointer (aD b2 0)) (.int .i64 Nz)) AI (fun _ AV => R (.returned (.int .u64 Uw)) AV)))))))) : Spec prog 195 #[.int .u64 x0, (.pointer (aD b1 0)), (.pointer (aD b2 0)), (.pointer (aD b3 0))] σ R := M.start h ok
end Ln
namespace Qm
variable {v0 : Value}
def M : Fw := ⟨prog, 197, f197, [], [], false, [], [], []⟩
theorem ok : M.Ok := ⟨AM.nil, mixed, func197, by kernel_rfl⟩
theorem start (h : ∃ t5, YF prog ((do eqGuard .neq 272 (.tmp 3) (.tmp 4) v0 v0; binOp .neq 272 v0 v0)) σ (.bool t5) ∧ R (.returned (.bool t5)) σ) : Spec prog 197 #[v0] σ R := M.KH h ok [(0, .o (.V v0))] rfl rfl (by kernel_rfl)
end Qm
namespace HG
variable {b0 b1 b2 : Nat}
def M : Fw := ⟨prog, 228, f228, [171], [], false, [(4, 30, true)], [], []⟩
theorem ok : M.Ok := ⟨.cons call171 (AM.nil), mixed, func228, by kernel_rfl⟩
theorem start (h : LT σ b0 0 fun s5 => Spec prog 171 #[.string s5] σ (AB R (CB fun t6 y => Bn t6 (R (.returned (.int .i64 61)) y) (LQ y b1 0 fun q8 => Pq q8 fun b9 o9 => LM y b9 o9 fun m11 => LT y b0 0 fun s12 => AJ prog (Instr.lookup 186 (.map m11) (.string s12) false) y (CQ fun H8 AI => Bo (Option.isNone H8) (LQ AI b1 0 fun q17 => Pq q17 fun Nt TP => LM AI Nt TP fun m20 => ∃ Hj, YF prog (Builtin.len_ #[186] 3 #[.map m20]) AI (.int .i64 Hj) ∧ Br (1048576 ≤ Hj) (R (.returned (.int .i64 63)) AI) (LS AI b2 0 fun ca n24 c24 => Br (4194304 < (n24 : Int)) (R (.returned (.int .i64 63)) AI) (Bo (Option.isSome H8) (LS AI b2 0 fun jx n33 jy => Pq H8 fun qY qZ => LS AI qY qZ fun oM n38 oN => AO (4194304 - (n38 : Int)) ∧ Br (((4194304 - (n38 : Int)) : Int) < (n33 : Int)) (R (.returned (.int .i64 63)) AI) (R (.returned (.int .i64 0)) AI)) (R (.returned (.int .i64 0)) AI)))) (Bo (Option.isSome H8) (LS AI b2 0 fun jx n33 jy => Pq H8 fun qY qZ => LS AI qY qZ fun oM n38 oN => AO (4194304 - (n38 : Int)) ∧ Br (((4194304 - (n38 : Int)) : Int) < (n33 : Int)) (R (.returned (.int .i64 63)) AI) (R (.returned (.int .i64 0)) AI)) (R (.returned (.int .i64 0)) AI))))))) : Spec prog 228 #[(.pointer (aD b0 0)), (.pointer (aD b1 0)), (.pointer (aD b2 0))] σ R := M.start h ok
end HG
namespace HH
variable {b0 b1 : Nat}
def M : Fw := ⟨prog, 232, f232, [223], [], false, [], [], []⟩
theorem ok : M.Ok := ⟨.cons call223 (AM.nil), mixed, func232, by kernel_rfl⟩
theorem start (h : LQ σ b0 0 fun q3 => LT σ b1 0 fun s4 => Spec prog 223 #[.pointer q3, .string s4] σ (AB R (CI .i64 fun x5 y => R (.returned (.int .i64 x5)) y))) : Spec prog 232 #[(.pointer (aD b0 0)), (.pointer (aD b1 0))] σ R := M.start h ok
end HH
namespace GX
variable {q0 : Option Addr} {s1 : ByteArray} {t2 : Bool}
def M : Fw := ⟨prog, 236, f236, [178, 237], [], false, [], [], []⟩
theorem ok : M.Ok := ⟨.cons call178 (.cons call237 (AM.nil)), mixed, func236, by kernel_rfl⟩
theorem start (h : Pq q0 fun EH Gk => LB σ EH (Gk + 1) fun t13 => Bo t13 (R (.returned (.int .i64 60)) σ) (Spec prog 178 #[.string s1] σ (AB R (CB fun t16 y => Bn t16 (R (.returned (.int .i64 61)) y) (Spec prog 237 #[(.pointer (aD EH Gk)), .string s1] y (AB R (fun z AI => ∃ Uy XE, z = (.tuple #[.int .i64 Uy, .bool XE]) ∧ Bo t2 (Bn XE (R (.returned (.int .i64 62)) AI) (R (.returned (.int .i64 0)) AI)) (R (.returned (.int .i64 0)) AI)))))))) : Spec prog 236 #[.pointer q0, .string s1, .bool t2] σ R := M.start h ok
end GX
namespace BQ
variable {p0 : Option Addr} {n0 c0 : Nat} {v1 : Value} {x7 x8 : Int}
def M : Fw := ⟨prog, 260, f260, [], [], false, [], [], [(104, [(0, wL), (1, wV), (7, wI), (8, wI)])]⟩
theorem ok : M.Ok := ⟨AM.nil, mixed, func260, by kernel_rfl⟩
def Ns := M.pt 0
theorem start (h : Ns R p0 n0 c0 v1 (n0 : Int) 0 σ) : Spec prog 260 #[.slice p0 n0 c0, v1] σ R := M.KH h ok [(0, .o (.L p0 n0 c0)), (1, .o (.V v1))] rfl rfl (by kernel_rfl)
theorem EJ (h : Br (x8 < x7) (Pq p0 fun LG Nq => In x8 (n0 : Int) ∧ ∃ k7 XD k8 lA lB, EF σ LG (Nq + Int.toNat x8 * 3) [.int .i64 k7, .int .i64 XD, .slice k8 lA lB] ∧ ∃ (f16 : Nat) (OY OZ : Array Value), v1 = .func (.func f16) OY OZ ∧ Enters prog f16 ∧ Spec prog f16 (OY ++ #[.agg #[.int .i64 k7, .int .i64 XD, .slice k8 lA lB]] ++ OZ) σ (AB R (CB fun t16 y => Bo t16 (R (.returned (.int .i64 x8)) y) (AO (x8 + 1) ∧ Ns R (aD LG Nq) n0 c0 v1 x7 (x8 + 1) y)))) (R (.returned (.int .i64 (-1))) σ)) : Ns R p0 n0 c0 v1 x7 x8 σ := M.of h ok rfl
end BQ
namespace Lo
variable {kJ : Option Addr} {ew kK b1 : Nat} {IL H9 : Int}
def M : Fw := ⟨prog, 266, f266, [267], [2], false, [], [], []⟩
theorem ok : M.Ok := ⟨.cons call267 (AM.nil), mixed, func266, by kernel_rfl⟩
theorem start (h : ∀ b2 : Nat, Spec prog 267 #[.slice kJ ew kK] σ (AB R (CI .i64 fun x6 y => Br (x6 ≠ 0) (R (.returned (.int .i64 152)) y) (Br ((ew : Int) = 0) (R (.returned (.int .i64 152)) y) (LI .i64 y b1 1 fun MS => Br (MS < (ew : Int)) (R (.returned (.int .i64 152)) y) (R (.returned (.int .i64 0)) y)))))) : Spec prog 266 #[.agg #[.slice kJ ew kK, .int .i64 IL, .int .u64 H9], (.pointer (aD b1 0))] σ R := M.start h ok
end Lo
namespace HI
variable {b0 b1 b2 : Nat}
def M : Fw := ⟨prog, 293, f293, [], [], false, [(1, 5, true), (2, 6, true)], [], []⟩
theorem ok : M.Ok := ⟨AM.nil, mixed, func293, by kernel_rfl⟩
theorem start (h : LQ σ b0 0 fun q4 => Pq q4 fun b5 o5 => LM σ b5 o5 fun m7 => LT σ b1 0 fun s8 => AJ prog (Instr.lookup 186 (.map m7) (.string s8) false) σ (CQ fun q9 y => LQ y b0 0 fun q10 => Pq q10 fun EH Gk => LM y EH Gk fun m13 => LT y b1 0 fun cS => AJ prog (Builtin.delete_ #[186, 9] 0 #[.map m13, .string cS]) y (fun _ AI => LQ AI b0 0 fun qW => Pq qW fun Ko Us => LM AI Ko Us fun m18 => LT AI b2 0 fun s19 => AJ prog (Instr.mapUpdate 186 (.map m18) (.string s19) (.pointer q9)) AI (fun _ AV => R (.returned (.tuple #[])) AV)))) : Spec prog 293 #[(.pointer (aD b0 0)), (.pointer (aD b1 0)), (.pointer (aD b2 0))] σ R := M.start h ok
end HI
namespace Ft
variable {s0 : ByteArray} {x3 : Int}
def M : Fw := ⟨prog, 306, f306, [], [], false, [], [], [(464, [(0, wT), (3, wI)])]⟩
theorem ok : M.Ok := ⟨AM.nil, mixed, func306, by kernel_rfl⟩
def Ap := M.pt 0
theorem start (h : Bo ((ByteArray.toList s0 == ByteArray.toList (ByteArray.mk #[]))) (R (.returned (.bool false)) σ) (Br ((64 : Int) < ((ByteArray.size s0 : Nat) : Int)) (R (.returned (.bool false)) σ) (∃ MF : UInt8, (0 : Int) ≤ 0 ∧ (ByteArray.data s0)[Int.toNat 0]? = some MF ∧ Br ((48 : Int) ≤ ((UInt8.toNat MF : Nat) : Int)) (∃ u18 : UInt8, (0 : Int) ≤ 0 ∧ (ByteArray.data s0)[Int.toNat 0]? = some u18 ∧ Br ((((UInt8.toNat u18 : Nat) : Int) : Int) ≤ 57) (R (.returned (.bool false)) σ) (Ap R s0 0 σ)) (Ap R s0 0 σ)))) : Spec prog 306 #[.string s0] σ R := M.start h ok
theorem BI (h : Br (x3 < ((ByteArray.size s0 : Nat) : Int)) (∃ Y1 : UInt8, 0 ≤ x3 ∧ (ByteArray.data s0)[Int.toNat x3]? = some Y1 ∧ Br ((((UInt8.toNat Y1 : Nat) : Int) : Int) ≠ 95) (Br ((((UInt8.toNat Y1 : Nat) : Int) : Int) < 48) (Br ((((UInt8.toNat Y1 : Nat) : Int) : Int) < 65) (Br ((((UInt8.toNat Y1 : Nat) : Int) : Int) < 97) (R (.returned (.bool false)) σ) (Br ((122 : Int) < ((UInt8.toNat Y1 : Nat) : Int)) (R (.returned (.bool false)) σ) (AO (x3 + 1) ∧ Ap R s0 (x3 + 1) σ))) (Br ((90 : Int) < ((UInt8.toNat Y1 : Nat) : Int)) (Br ((((UInt8.toNat Y1 : Nat) : Int) : Int) < 97) (R (.returned (.bool false)) σ) (Br ((122 : Int) < ((UInt8.toNat Y1 : Nat) : Int)) (R (.returned (.bool false)) σ) (AO (x3 + 1) ∧ Ap R s0 (x3 + 1) σ))) (AO (x3 + 1) ∧ Ap R s0 (x3 + 1) σ))) (Br ((57 : Int) < ((UInt8.toNat Y1 : Nat) : Int)) (Br ((((UInt8.toNat Y1 : Nat) : Int) : Int) < 65) (Br ((((UInt8.toNat Y1 : Nat) : Int) : Int) < 97) (R (.returned (.bool false)) σ) (Br ((122 : Int) < ((UInt8.toNat Y1 : Nat) : Int)) (R (.returned (.bool false)) σ) (AO (x3 + 1) ∧ Ap R s0 (x3 + 1) σ))) (Br ((90 : Int) < ((UInt8.toNat Y1 : Nat) : Int)) (Br ((((UInt8.toNat Y1 : Nat) : Int) : Int) < 97) (R (.returned (.bool false)) σ) (Br ((122 : Int) < ((UInt8.toNat Y1 : Nat) : Int)) (R (.returned (.bool false)) σ) (AO (x3 + 1) ∧ Ap R s0 (x3 + 1) σ))) (AO (x3 + 1) ∧ Ap R s0 (x3 + 1) σ))) (AO (x3 + 1) ∧ Ap R s0 (x3 + 1) σ))) (AO (x3 + 1) ∧ Ap R s0 (x3 + 1) σ)) (R (.returned (.bool true)) σ)) : Ap R s0 x3 σ := M.of h ok rfl
end Ft
end TwW
end
end
section
set_option maxRecDepth 100000
noncomputable section
namespace TwW
open Go Tw Go.Proofs.Tryz
variable [I7] {R : Rr} {σ : Hp}

namespace Oc
variable {q0 : Option Addr}
def M : Fw := ⟨prog, 19, f19, [27, 39, 52], [2, 6], false, [], [], []⟩
theorem ok : M.Ok := ⟨.cons call27 (.cons call39 (.cons call52 (AM.nil))), mixed, func19, by kernel_rfl⟩
theorem start (h : ∀ b2 : Nat, Spec prog 27 #[(.string (ByteArray.mk #[116])), (.string (ByteArray.mk #[99]))] σ (AB R (CT fun Ys y => Spec prog 39 #[.pointer q0, .string Ys] y (AB R (fun z AI => ∃ fI fJ fK EB EK, z = (.tuple #[.slice fI fJ fK, .int .u64 EB, .int .i64 EK]) ∧ Br (EB = 0) (R (.returned (.agg #[(.string (ByteArray.mk #[])), .int .i64 0])) AI) (Spec prog 52 #[.slice fI fJ fK] AI (AB R (fun z AV => ∃ ud uf PH, z = (.tuple #[.agg #[.string ud, .int .i64 uf], .int .i64 PH]) ∧ ∀ b6 : Nat, R (.returned (.agg #[.string ud, .int .i64 uf])) AV)))))))) : Spec prog 19 #[.pointer q0] σ R := M.start h ok
end Oc
namespace lF
variable {s0 s1 : ByteArray}
def M : Fw := ⟨prog, 27, f27, [24, 58], [], false, [], [], []⟩
theorem ok : M.Ok := ⟨.cons call24 (.cons call58 (AM.nil)), mixed, func27, by kernel_rfl⟩
theorem start (h : Al σ fun b8 => Spec prog 24 #[(.slice (aD b8 0) 1 1)] (Hp.set σ b8 (.cells #[(.string (ByteArray.mk #[99, 108, 117, 115, 116, 101, 114])), .string s1] 61 (0, 0))) (AB R (CI .u32 fun x9 y => (ByteArray.size (ByteArray.mk #[104, 97, 47]) + ByteArray.size s0 ≤ 9223372036854775807) ∧ (ByteArray.size ((ByteArray.mk #[104, 97, 47]) ++ s0) + ByteArray.size (ByteArray.mk #[47]) ≤ 9223372036854775807) ∧ Df (IntKind.u64.wrap x9) fun E7 => Spec prog 58 #[.int .u64 E7, .int .i64 10] y (AB R (CT fun et AI => (ByteArray.size (((ByteArray.mk #[104, 97, 47]) ++ s0) ++ (ByteArray.mk #[47])) + ByteArray.size et ≤ 9223372036854775807) ∧ R (.returned (.string ((((ByteArray.mk #[104, 97, 47]) ++ s0) ++ (ByteArray.mk #[47])) ++ et))) AI))))) : Spec prog 27 #[.string s0, .string s1] σ R := M.start h ok
end lF
namespace TY
variable {E6 x1 : Int} {HX : Option Addr} {Gd HY : Nat}
def M : Fw := ⟨prog, 45, f45, [100], [2, 4], false, [], [], []⟩
theorem ok : M.Ok := ⟨.cons call100 (AM.nil), mixed, func45, by kernel_rfl⟩
theorem start (h : ∀ b2 : Nat, ∀ b4 : Nat, Spec prog 100 #[.agg #[.int .u64 E6, .slice HX Gd HY], .int .i64 x1, (.func (.func 101) #[] #[])] σ (AB R (fun z y => ∃ kv kx ky kz x8b, z = (.tuple #[.agg #[.int .u64 kv, .slice kx ky kz], .int .i64 x8b]) ∧ R (.returned (.tuple #[.agg #[.int .u64 kv, .slice kx ky kz], .int .i64 x8b])) y))) : Spec prog 45 #[.agg #[.int .u64 E6, .slice HX Gd HY], .int .i64 x1] σ R := M.start h ok
end TY
namespace slices_Sort_int
variable {p0 : Option Addr} {n0 c0 : Nat}
end slices_Sort_int
namespace Ip
variable {x0 : Int}
def M : Fw := ⟨prog, 51, f51, [], [], false, [], [], []⟩
theorem ok : M.Ok := ⟨AM.nil, mixed, func51, by kernel_rfl⟩
theorem start (h : Br (x0 = 1) (R (.returned (.bool true)) σ) (R (.returned (.bool (decide (x0 = 2)))) σ)) : Spec prog 51 #[.int .i64 x0] σ R := M.start h ok
end Ip
namespace EC
variable {p0 p6 : Option Addr} {n0 c0 n6 c6 : Nat} {x3 x7 x8 : Int}
def M : Fw := ⟨prog, 56, f56, [], [], false, [], [], [(232, [(3, cJ), (6, wL), (7, wI), (8, wI)])]⟩
theorem ok : M.Ok := ⟨AM.nil, mixed, func56, by kernel_rfl⟩
def A1 := M.pt 0
theorem start (h : A1 R 2166136261 p0 n0 c0 (n0 : Int) 0 σ) : Spec prog 56 #[.slice p0 n0 c0] σ R := M.start h ok
theorem AW (h : Br (x8 < x7) (Pq p6 fun EL Ld => In x8 (n6 : Int) ∧ LI .u8 σ EL (Ld + Int.toNat x8 * 1) fun Eg => Df (IntKind.u32.wrap Eg) fun E7 => Df (Go.bits .xor .u32 x3 E7) fun Nv => Df (IntKind.u32.wrap (Nv * 16777619)) fun FF => AO (x8 + 1) ∧ A1 R FF (aD EL Ld) n6 c6 x7 (x8 + 1) σ) (R (.returned (.int .u32 x3)) σ)) : A1 R x3 p6 n6 c6 x7 x8 σ := M.of h ok rfl
end EC
namespace Lp
variable {p0 : Option Addr} {n0 c0 : Nat} {s1 : ByteArray}
def M : Fw := ⟨prog, 60, f60, [99], [], false, [], [], []⟩
theorem ok : M.Ok := ⟨.cons call99 (AM.nil), mixed, func60, by kernel_rfl⟩
theorem start (h : Df (IntKind.u64.wrap ((ByteArray.size s1 : Nat) : Int)) fun x8 => Spec prog 99 #[.slice p0 n0 c0, .int .u64 x8] σ (AB R (CS fun p9 n9 c9 y => AJ prog (Builtin.append_ #[84, 9] 84 #[.slice p9 n9 c9, .string s1]) y (CS fun cQ n11 iT AI => R (.returned (.slice cQ n11 iT)) AI)))) : Spec prog 60 #[.slice p0 n0 c0, .string s1] σ R := M.start h ok
end Lp
namespace Jh
variable {q0 oP : Option Addr} {Vo : ByteArray} {oQ oR : Nat} {fS : Int}
def M : Fw := ⟨prog, 72, f72, [62], [3], false, [(3, 7, true), (5, 16, false)], [], []⟩
theorem ok : M.Ok := ⟨.cons call62 (AM.nil), mixed, func72, by kernel_rfl⟩
theorem start (h : ∀ b3 : Nat, Spec prog 62 #[.pointer q0, .string Vo] σ (AB R (fun z y => ∃ Cq AEN, z = (.tuple #[.int .i64 Cq, .bool AEN]) ∧ Bo AEN (Pq q0 fun Ko Us => LS y Ko (Us + 1) fun ej n18 oE => Pq ej fun oT rE => In Cq (n18 : Int) ∧ AJ prog (Instr.storeAt 154 (.pointer (aD oT (rE + Int.toNat Cq * 3))) (.agg #[.string Vo, .slice oP oQ oR, .int .u64 fS])) y (fun _ AI => R (.returned (.tuple #[])) AI)) (Al y fun Nr => Pq q0 fun NN cy => LS (Hp.set y Nr (.cells #[] 154 (0, 0))) NN (cy + 1) fun Wk n26 TQ => (0 ≤ Cq ∧ Cq ≤ (n26 : Int)) ∧ AJ prog (Builtin.append_ #[148, 148] 148 #[(.slice (aD Nr 0) 0 0), (.slice (GP Wk (Int.toNat Cq) TQ 3) (n26 - Int.toNat Cq) (TQ - Int.toNat Cq))]) (Hp.set y Nr (.cells #[] 154 (0, 0))) (CS fun eh n29 ei AI => LS AI NN (cy + 1) fun p35 n35 c35 => (0 ≤ Cq ∧ Cq ≤ (c35 : Int)) ∧ (Al AI fun J5 => (AJ prog (Builtin.append_ #[148, 148] 148 #[(.slice (aD J5 0) 0 0), (.slice p35 (Int.toNat Cq) c35)]) (Hp.set AI J5 (.cells #[] 154 (0, 0))) (CS fun oM n38 oN AV => Al AV fun OQ => AJ prog (Builtin.append_ #[148, 148] 148 #[.slice oM n38 oN, (.slice (aD OQ 0) 1 1)]) (Hp.set AV OQ (.cells #[.string Vo, .slice oP oQ oR, .int .u64 fS] 154 (0, 0))) (CS fun rA n41 oS Ay => AJ prog (Builtin.append_ #[148, 148] 148 #[.slice rA n41 oS, .slice eh n29 ei]) Ay (CS fun Uu n43 Vk Dj => AJ prog (Instr.storeAt 148 (.pointer (aD NN (cy + 1))) (.slice Uu n43 Vk)) Dj (fun _ Ge => R (.returned (.tuple #[])) Ge))))) ∧ (Al (Hp.set AI J5 (.cells #[] 154 (0, 0))) fun OQ => AJ prog (Builtin.append_ #[148, 148] 148 #[(.slice (aD J5 0) 0 0), (.slice p35 (Int.toNat Cq) c35)]) (Hp.set (Hp.set AI J5 (.cells #[] 154 (0, 0))) OQ (.cells #[.string Vo, .slice oP oQ oR, .int .u64 fS] 154 (0, 0))) (CS fun oM n38 oN AV => AJ prog (Builtin.append_ #[148, 148] 148 #[.slice oM n38 oN, (.slice (aD OQ 0) 1 1)]) AV (CS fun rA n41 oS Ay => AJ prog (Builtin.append_ #[148, 148] 148 #[.slice rA n41 oS, .slice eh n29 ei]) Ay (CS fun Uu n43 Vk Dj => AJ prog (Instr.storeAt 148 (.pointer (aD NN (cy + 1))) (.slice Uu n43 Vk)) Dj (fun _ Ge => R (.returned (.tuple #[])) Ge)))))) ∧ (Al AI fun OQ => Al (Hp.set AI OQ (.cells #[.string Vo, .slice oP oQ oR, .int .u64 fS] 154 (0, 0))) fun J5 => AJ prog (Builtin.append_ #[148, 148] 148 #[(.slice (aD J5 0) 0 0), (.slice p35 (Int.toNat Cq) c35)]) (Hp.set (Hp.set AI OQ (.cells #[.string Vo, .slice oP oQ oR, .int .u64 fS] 154 (0, 0))) J5 (.cells #[] 154 (0, 0))) (CS fun oM n38 oN AV => AJ prog (Builtin.append_ #[148, 148] 148 #[.slice oM n38 oN, (.slice (aD OQ 0) 1 1)]) AV (CS fun rA n41 oS Ay => AJ prog (Builtin.append_ #[148, 148] 148 #[.slice rA n41 oS, .slice eh n29 ei]) Ay (CS fun Uu n43 Vk Dj => AJ prog (Instr.storeAt 148 (.pointer (aD NN (cy + 1))) (.slice Uu n43 Vk)) Dj (fun _ Ge => R (.returned (.tuple #[])) Ge)))))))))) : Spec prog 72 #[.pointer q0, .agg #[.string Vo, .slice oP oQ oR, .int .u64 fS]] σ R := M.start h ok
end Jh
namespace Bi
variable {b0 b1 : Nat}
def M : Fw := ⟨prog, 105, f105, [106], [], false, [], [], []⟩
theorem ok : M.Ok := ⟨.cons call106 (AM.nil), mixed, func105, by kernel_rfl⟩
theorem start (h : LQ σ b0 0 fun q4 => Pq q4 fun b5 o5 => LB σ b5 ((o5 + 7) + 3) fun t9 => Bn t9 (R (.returned (.int .i64 0)) σ) (LQ σ b1 0 fun Jv => LQ σ b1 0 fun H8 => LQ σ b1 0 fun HZ => LQ σ b1 0 fun qW => Pq qW fun Ko Us => LS σ Ko (Us + 3) fun ej n18 oE => Spec prog 106 #[.slice ej n18 oE] σ (AB R (fun z y => ∃ fC AEO AEP AEQ AER AES, z = (.tuple #[.string fC, .string AEO, .slice AEP AEQ AER, .int .i64 AES]) ∧ Kp [b1, b1, b1] σ y ∧ Pq Jv fun NN cy => AJ prog (Instr.storeAt 9 (.pointer (aD NN (cy + 1))) (.string fC)) y (fun _ AI => Kp [b1, b1] y AI ∧ Pq H8 fun TV o26 => AJ prog (Instr.storeAt 9 (.pointer (aD TV (o26 + 2))) (.string AEO)) AI (fun _ AV => Kp [b1] AI AV ∧ Pq HZ fun Qh dD => AJ prog (Instr.storeAt 46 (.pointer (aD Qh (dD + 3))) (.slice AEP AEQ AER)) AV (fun _ Ay => Br (AES ≠ 0) (R (.returned (.int .i64 3)) Ay) (R (.returned (.int .i64 0)) Ay)))))))) : Spec prog 105 #[(.pointer (aD b0 0)), (.pointer (aD b1 0))] σ R := M.start h ok
end Bi
namespace TZ
variable {p0 : Option Addr} {n0 c0 : Nat} {x1 : Int}
def M : Fw := ⟨prog, 116, f116, [177], [], false, [], [], []⟩
theorem ok : M.Ok := ⟨.cons call177 (AM.nil), mixed, func116, by kernel_rfl⟩
theorem start (h : Spec prog 177 #[.slice p0 n0 c0, .int .i64 x1] σ (AB R (fun z y => ∃ Nx GU LH, z = (.tuple #[.int .u64 Nx, .int .i64 GU, .int .i64 LH]) ∧ ((0 : Int) ≤ 1 ∧ 1 ≤ ((IntKind.bits .u64 : Nat) : Int)) ∧ Df (Nx / 2 ^ Int.toNat 1) fun FT => Df (IntKind.i64.wrap FT) fun MS => Df (Go.bits .and .u64 Nx 1) fun Hj => Df (IntKind.i64.wrap Hj) fun PI => Df (IntKind.i64.wrap (0 - PI)) fun Po => Df (Go.bits .xor .i64 MS Po) fun J4 => R (.returned (.tuple #[.int .i64 J4, .int .i64 GU, .int .i64 LH])) y))) : Spec prog 116 #[.slice p0 n0 c0, .int .i64 x1] σ R := M.start h ok
end TZ
namespace Ji
variable {q0 p2 : Option Addr} {s1 : ByteArray} {n2 c2 : Nat}
def M : Fw := ⟨prog, 137, f137, [132, 133, 135, 229, 230, 231], [], false, [(0, 8, false), (1, 6, false), (2, 7, false)], [], []⟩
theorem ok : M.Ok := ⟨.cons call132 (.cons call133 (.cons call135 (.cons call229 (.cons call230 (.cons call231 (AM.nil)))))), mixed, func137, by kernel_rfl⟩
theorem start (h : Pq q0 fun b7 o7 => LQ σ b7 o7 fun q9 => Spec prog 229 #[(.pointer (aD b7 o7))] σ (AB R (CT fun oO y => Kp [b7] σ y ∧ Spec prog 230 #[.slice p2 n2 c2] y (AB R (CS fun OS n13 PL AI => Kp [b7] y AI ∧ Spec prog 135 #[.pointer q9, .string oO, .slice OS n13 PL] AI (AB R (CI .i64 fun E7 AV => Spec prog 132 #[.int .i64 E7] AV (AB R (fun z Ay => z = (.tuple #[]) ∧ LQ Ay b7 o7 fun q19 => Spec prog 229 #[(.pointer (aD b7 o7))] Ay (AB R (CT fun s21 Dj => Kp [b7] Ay Dj ∧ Spec prog 133 #[.pointer q19, .string s21] Dj (AB R (CI .i64 fun PI Ge => Spec prog 132 #[.int .i64 PI] Ge (AB R (fun z Qe => z = (.tuple #[]) ∧ LQ Qe b7 o7 fun q27 => Spec prog 229 #[(.pointer (aD b7 o7))] Qe (AB R (CT fun s29 ko => Kp [b7] Qe ko ∧ Spec prog 231 #[.pointer q27, .string s29, .string s1] ko (AB R (CI .i64 fun Hm kr => Spec prog 132 #[.int .i64 Hm] kr (AB R (fun z kt => z = (.tuple #[]) ∧ R (.returned (.tuple #[])) kt))))))))))))))))))))) : Spec prog 137 #[.pointer q0, .string s1, .slice p2 n2 c2] σ R := M.start h ok
end Ji
namespace Am
variable {q0 p1 PF kj : Option Addr} {n1 c1 n10 H6 n39 SN : Nat} {Eg Du Pp Lh : Int} {s5 : ByteArray}
def M : Fw := ⟨prog, 173, f173, [132, 138, 229, 257], [], false, [(5, 11, false)], [], [(40, [(0, wQ), (1, wL), (10, wL), (11, wI), (12, wI)]), (56, [(0, wQ), (39, wL), (40, wI), (41, wI)]), (231, [(0, wQ), (39, wL), (40, wI), (41, wI)]), (1331, [(0, wQ), (1, wL), (5, wT), (10, wL), (11, wI), (12, wI)])]⟩
theorem ok : M.Ok := ⟨.cons call132 (.cons call138 (.cons call229 (.cons call257 (AM.nil)))), mixed, func173, by kernel_rfl⟩
def Zy := M.pt 0
def SP := M.pt 1
def G7 := M.pt 2
def Wd := M.pt 3
theorem start (h : Zy R q0 p1 n1 c1 p1 n1 c1 (n1 : Int) 0 σ) : Spec prog 173 #[.pointer q0, .slice p1 n1 c1] σ R := M.start h ok
theorem MC (h : Br (Du < Eg) (Pq PF fun LG Nq => In Du (n10 : Int) ∧ LT σ LG (Nq + Int.toNat Du * 1) fun et => Spec prog 229 #[.pointer q0] σ (AB R (CT fun OR y => Bo (ByteArray.toList et == ByteArray.toList OR) (Pq q0 fun oT rE => LQ y oT rE fun q23 => Spec prog 138 #[.pointer q23, .string et] y (AB R (CI .i64 fun NQ AI => Spec prog 132 #[.int .i64 NQ] AI (AB R (fun z AV => z = (.tuple #[]) ∧ Wd R (aD oT rE) p1 n1 c1 et (aD LG Nq) n10 H6 Eg Du AV))))) (Wd R q0 p1 n1 c1 et (aD LG Nq) n10 H6 Eg Du y)))) (SP R q0 p1 n1 c1 (n1 : Int) 0 σ)) : Zy R q0 p1 n1 c1 PF n10 H6 Eg Du σ := M.of h ok rfl
theorem Ml (h : Br (Lh < Pp) (Pq kj fun GQ Pr => In Lh (n39 : Int) ∧ LT σ GQ (Pr + Int.toNat Lh * 1) fun ep => Spec prog 257 #[.pointer q0, (.string (ByteArray.mk #[99])), .string ep] σ (AB R (CI .i64 fun SJ y => Spec prog 257 #[.pointer q0, (.string (ByteArray.mk #[115])), .string ep] y (AB R (CI .i64 fun R4 AI => Br (0 < SJ) (Pq q0 fun Vm Vn => LI .i64 AI Vm (Vn + 2) fun pe => Br (SJ < pe) (LQ AI Vm Vn fun ug => Spec prog 138 #[.pointer ug, .string ep] AI (AB R (CI .i64 fun uh AV => Spec prog 132 #[.int .i64 uh] AV (AB R (fun z Ay => z = (.tuple #[]) ∧ G7 R (aD Vm Vn) (aD GQ Pr) n39 SN Pp Lh Ay))))) (Br (0 < R4) (LI .i64 AI Vm (Vn + 2) fun xx => Br (R4 ≤ xx) (LQ AI Vm Vn fun ug => Spec prog 138 #[.pointer ug, .string ep] AI (AB R (CI .i64 fun uh AV => Spec prog 132 #[.int .i64 uh] AV (AB R (fun z Ay => z = (.tuple #[]) ∧ G7 R (aD Vm Vn) (aD GQ Pr) n39 SN Pp Lh Ay))))) (Br (0 < R4) (LS AI Vm (Vn + 3) fun ig oU ij => Al AI fun Y2 => AJ prog (Builtin.append_ #[26, 26] 26 #[.slice ig oU ij, (.slice (aD Y2 0) 1 1)]) (Hp.set AI Y2 (.cells #[.int .i64 R4] 3 (0, 0))) (CS fun oV oW c91 AV => AJ prog (Instr.storeAt 26 (.pointer (aD Vm (Vn + 3))) (.slice oV oW c91)) AV (fun _ Ay => G7 R (aD Vm Vn) (aD GQ Pr) n39 SN Pp Lh Ay))) (G7 R (aD Vm Vn) (aD GQ Pr) n39 SN Pp Lh AI))) (Br (0 < R4) (LS AI Vm (Vn + 3) fun ig oU ij => Al AI fun Y2 => AJ prog (Builtin.append_ #[26, 26] 26 #[.slice ig oU ij, (.slice (aD Y2 0) 1 1)]) (Hp.set AI Y2 (.cells #[.int .i64 R4] 3 (0, 0))) (CS fun oV oW c91 AV => AJ prog (Instr.storeAt 26 (.pointer (aD Vm (Vn + 3))) (.slice oV oW c91)) AV (fun _ Ay => G7 R (aD Vm Vn) (aD GQ Pr) n39 SN Pp Lh Ay))) (G7 R (aD Vm Vn) (aD GQ Pr) n39 SN Pp Lh AI)))) (Br (0 < R4) (Pq q0 fun ia yV => LI .i64 AI ia (yV + 2) fun xx => Br (R4 ≤ xx) (LQ AI ia yV fun ug => Spec prog 138 #[.pointer ug, .string ep] AI (AB R (CI .i64 fun uh AV => Spec prog 132 #[.int .i64 uh] AV (AB R (fun z Ay => z = (.tuple #[]) ∧ G7 R (aD ia yV) (aD GQ Pr) n39 SN Pp Lh Ay))))) (Br (0 < R4) (LS AI ia (yV + 3) fun ig oU ij => Al AI fun Y2 => AJ prog (Builtin.append_ #[26, 26] 26 #[.slice ig oU ij, (.slice (aD Y2 0) 1 1)]) (Hp.set AI Y2 (.cells #[.int .i64 R4] 3 (0, 0))) (CS fun oV oW c91 AV => AJ prog (Instr.storeAt 26 (.pointer (aD ia (yV + 3))) (.slice oV oW c91)) AV (fun _ Ay => G7 R (aD ia yV) (aD GQ Pr) n39 SN Pp Lh Ay))) (G7 R (aD ia yV) (aD GQ Pr) n39 SN Pp Lh AI))) (Br (0 < R4) (Pq q0 fun b86 o86 => LS AI b86 (o86 + 3) fun ig oU ij => Al AI fun Y2 => AJ prog (Builtin.append_ #[26, 26] 26 #[.slice ig oU ij, (.slice (aD Y2 0) 1 1)]) (Hp.set AI Y2 (.cells #[.int .i64 R4] 3 (0, 0))) (CS fun oV oW c91 AV => AJ prog (Instr.storeAt 26 (.pointer (aD b86 (o86 + 3))) (.slice oV oW c91)) AV (fun _ Ay => G7 R (aD b86 o86) (aD GQ Pr) n39 SN Pp Lh Ay))) (G7 R q0 (aD GQ Pr) n39 SN Pp Lh AI)))))))) (R (.returned (.tuple #[])) σ)) : SP R q0 kj n39 SN Pp Lh σ := M.of h ok rfl
theorem Pn (h : AO (Lh + 1) ∧ SP R q0 kj n39 SN Pp (Lh + 1) σ) : G7 R q0 kj n39 SN Pp Lh σ := M.of h ok rfl
theorem Uo (h : Pq q0 fun Kn TT => LI .i64 σ Kn (TT + 2) fun Hm => Spec prog 257 #[(.pointer (aD Kn TT)), (.string (ByteArray.mk #[99])), .string s5] σ (AB R (CI .i64 fun fO y => Kp [Kn] σ y ∧ AJ prog (Instr.storeAt 3 (.pointer (aD Kn (TT + 2))) (.int .i64 (if Hm < fO then fO else Hm))) y (fun _ AI => AO (Du + 1) ∧ Zy R (aD Kn TT) p1 n1 c1 PF n10 H6 Eg (Du + 1) AI)))) : Wd R q0 p1 n1 c1 s5 PF n10 H6 Eg Du σ := M.of h ok rfl
end Am
namespace Ej
variable {p0 : Option Addr} {n0 c0 : Nat} {x1 x7 x8 : Int}
def M : Fw := ⟨prog, 177, f177, [], [], false, [], [], [(976, [(0, wL), (1, wI), (7, wU), (8, wI)])]⟩
theorem ok : M.Ok := ⟨AM.nil, mixed, func177, by kernel_rfl⟩
def LL := M.pt 0
theorem start (h : Br (x1 < 0) (R (.returned (.tuple #[.int .u64 0, .int .i64 0, .int .i64 20])) σ) (Br ((n0 : Int) < x1) (R (.returned (.tuple #[.int .u64 0, .int .i64 0, .int .i64 20])) σ) (LL R p0 n0 c0 x1 0 0 σ))) : Spec prog 177 #[.slice p0 n0 c0, .int .i64 x1] σ R := M.start h ok
theorem Pt (h : AO (x1 + x8) ∧ Br (((x1 + x8) : Int) < (n0 : Int)) (AO (x1 + x8) ∧ Pq p0 fun TW Yz => In (x1 + x8) (n0 : Int) ∧ LI .u8 σ TW (Yz + Int.toNat (x1 + x8) * 1) fun Hm => Br (x8 = 9) (Br (1 < Hm) (R (.returned (.tuple #[.int .u64 0, .int .i64 0, .int .i64 21])) σ) (Br (0 < x8) (Br (Hm = 0) (R (.returned (.tuple #[.int .u64 0, .int .i64 0, .int .i64 21])) σ) (Df (Go.bits .and .u8 Hm 127) fun JZ => Df (IntKind.u64.wrap JZ) fun Wo => AO (7 * x8) ∧ ((0 : Int) ≤ (7 * x8) ∧ (7 * x8) ≤ ((IntKind.bits .u64 : Nat) : Int)) ∧ Df (IntKind.u64.wrap (Wo * 2 ^ Int.toNat (7 * x8))) fun TR => Df (Go.bits .or .u64 x7 TR) fun PJ => Br (Hm < 128) (AO (x1 + x8) ∧ AO ((x1 + x8) + 1) ∧ R (.returned (.tuple #[.int .u64 PJ, (.int .i64 ((x1 + x8) + 1)), .int .i64 0])) σ) (AO (x8 + 1) ∧ LL R (aD TW Yz) n0 c0 x1 PJ (x8 + 1) σ))) (Df (Go.bits .and .u8 Hm 127) fun JZ => Df (IntKind.u64.wrap JZ) fun Wo => AO (7 * x8) ∧ ((0 : Int) ≤ (7 * x8) ∧ (7 * x8) ≤ ((IntKind.bits .u64 : Nat) : Int)) ∧ Df (IntKind.u64.wrap (Wo * 2 ^ Int.toNat (7 * x8))) fun TR => Df (Go.bits .or .u64 x7 TR) fun PJ => Br (Hm < 128) (AO (x1 + x8) ∧ AO ((x1 + x8) + 1) ∧ R (.returned (.tuple #[.int .u64 PJ, (.int .i64 ((x1 + x8) + 1)), .int .i64 0])) σ) (AO (x8 + 1) ∧ LL R (aD TW Yz) n0 c0 x1 PJ (x8 + 1) σ)))) (Br (0 < x8) (Br (Hm = 0) (R (.returned (.tuple #[.int .u64 0, .int .i64 0, .int .i64 21])) σ) (Df (Go.bits .and .u8 Hm 127) fun JZ => Df (IntKind.u64.wrap JZ) fun Wo => AO (7 * x8) ∧ ((0 : Int) ≤ (7 * x8) ∧ (7 * x8) ≤ ((IntKind.bits .u64 : Nat) : Int)) ∧ Df (IntKind.u64.wrap (Wo * 2 ^ Int.toNat (7 * x8))) fun TR => Df (Go.bits .or .u64 x7 TR) fun PJ => Br (Hm < 128) (AO (x1 + x8) ∧ AO ((x1 + x8) + 1) ∧ R (.returned (.tuple #[.int .u64 PJ, (.int .i64 ((x1 + x8) + 1)), .int .i64 0])) σ) (AO (x8 + 1) ∧ LL R (aD TW Yz) n0 c0 x1 PJ (x8 + 1) σ))) (Df (Go.bits .and .u8 Hm 127) fun JZ => Df (IntKind.u64.wrap JZ) fun Wo => AO (7 * x8) ∧ ((0 : Int) ≤ (7 * x8) ∧ (7 * x8) ≤ ((IntKind.bits .u64 : Nat) : Int)) ∧ Df (IntKind.u64.wrap (Wo * 2 ^ Int.toNat (7 * x8))) fun TR => Df (Go.bits .or .u64 x7 TR) fun PJ => Br (Hm < 128) (AO (x1 + x8) ∧ AO ((x1 + x8) + 1) ∧ R (.returned (.tuple #[.int .u64 PJ, (.int .i64 ((x1 + x8) + 1)), .int .i64 0])) σ) (AO (x8 + 1) ∧ LL R (aD TW Yz) n0 c0 x1 PJ (x8 + 1) σ)))) (R (.returned (.tuple #[.int .u64 0, .int .i64 0, .int .i64 20])) σ)) : LL R p0 n0 c0 x1 x7 x8 σ := M.of h ok rfl
end Ej
namespace Iq
variable {s0 : ByteArray} {x3 : Int}
def M : Fw := ⟨prog, 178, f178, [], [], false, [], [], [(464, [(0, wT), (3, wI)])]⟩
theorem ok : M.Ok := ⟨AM.nil, mixed, func178, by kernel_rfl⟩
def Ap := M.pt 0
theorem start (h : Br ((((ByteArray.size s0 : Nat) : Int) : Int) < 1) (R (.returned (.bool false)) σ) (Br ((64 : Int) < ((ByteArray.size s0 : Nat) : Int)) (R (.returned (.bool false)) σ) (Ap R s0 0 σ))) : Spec prog 178 #[.string s0] σ R := M.start h ok
theorem BI (h : Br (x3 < ((ByteArray.size s0 : Nat) : Int)) (∃ U0 : UInt8, 0 ≤ x3 ∧ (ByteArray.data s0)[Int.toNat x3]? = some U0 ∧ Br ((97 : Int) ≤ ((UInt8.toNat U0 : Nat) : Int)) (Br ((((UInt8.toNat U0 : Nat) : Int) : Int) ≤ 122) (AO (x3 + 1) ∧ Ap R s0 (x3 + 1) σ) (Br ((48 : Int) ≤ ((UInt8.toNat U0 : Nat) : Int)) (Br ((((UInt8.toNat U0 : Nat) : Int) : Int) ≤ 57) (AO (x3 + 1) ∧ Ap R s0 (x3 + 1) σ) (Br ((((UInt8.toNat U0 : Nat) : Int) : Int) = 47) (AO (x3 + 1) ∧ Ap R s0 (x3 + 1) σ) (Br ((((UInt8.toNat U0 : Nat) : Int) : Int) = 46) (AO (x3 + 1) ∧ Ap R s0 (x3 + 1) σ) (Bm ((((UInt8.toNat U0 : Nat) : Int) : Int) = 45) (R (.returned (.bool false)) σ) (AO (x3 + 1) ∧ Ap R s0 (x3 + 1) σ))))) (Br ((((UInt8.toNat U0 : Nat) : Int) : Int) = 47) (AO (x3 + 1) ∧ Ap R s0 (x3 + 1) σ) (Br ((((UInt8.toNat U0 : Nat) : Int) : Int) = 46) (AO (x3 + 1) ∧ Ap R s0 (x3 + 1) σ) (Bm ((((UInt8.toNat U0 : Nat) : Int) : Int) = 45) (R (.returned (.bool false)) σ) (AO (x3 + 1) ∧ Ap R s0 (x3 + 1) σ)))))) (Br ((48 : Int) ≤ ((UInt8.toNat U0 : Nat) : Int)) (Br ((((UInt8.toNat U0 : Nat) : Int) : Int) ≤ 57) (AO (x3 + 1) ∧ Ap R s0 (x3 + 1) σ) (Br ((((UInt8.toNat U0 : Nat) : Int) : Int) = 47) (AO (x3 + 1) ∧ Ap R s0 (x3 + 1) σ) (Br ((((UInt8.toNat U0 : Nat) : Int) : Int) = 46) (AO (x3 + 1) ∧ Ap R s0 (x3 + 1) σ) (Bm ((((UInt8.toNat U0 : Nat) : Int) : Int) = 45) (R (.returned (.bool false)) σ) (AO (x3 + 1) ∧ Ap R s0 (x3 + 1) σ))))) (Br ((((UInt8.toNat U0 : Nat) : Int) : Int) = 47) (AO (x3 + 1) ∧ Ap R s0 (x3 + 1) σ) (Br ((((UInt8.toNat U0 : Nat) : Int) : Int) = 46) (AO (x3 + 1) ∧ Ap R s0 (x3 + 1) σ) (Bm ((((UInt8.toNat U0 : Nat) : Int) : Int) = 45) (R (.returned (.bool false)) σ) (AO (x3 + 1) ∧ Ap R s0 (x3 + 1) σ)))))) (R (.returned (.bool true)) σ)) : Ap R s0 x3 σ := M.of h ok rfl
end Iq
namespace GH
variable {p0 p2 : Option Addr} {n0 c0 n2 c2 : Nat} {x1 : Int}
def M : Fw := ⟨prog, 188, f188, [263], [], false, [(11, 8, true), (15, 8, true)], [], []⟩
theorem ok : M.Ok := ⟨.cons call263 (AM.nil), mixed, func188, by kernel_rfl⟩
theorem start (h : (0 ≤ x1 ∧ x1 ≤ (n0 : Int)) ∧ Br ((n2 : Int) = 0) (R (.returned (.slice p0 n0 c0)) σ) (Br (x1 = (n0 : Int)) (AJ prog (Builtin.append_ #[39, 39] 39 #[.slice p0 n0 c0, .slice p2 n2 c2]) σ (CS fun R0 n25 Pk y => R (.returned (.slice R0 n25 Pk)) y)) (AO ((n0 : Int) + (n2 : Int)) ∧ Br ((c0 : Int) < ((n0 : Int) + (n2 : Int))) ((0 ≤ x1 ∧ x1 ≤ (c0 : Int)) ∧ AO ((n0 : Int) + (n2 : Int)) ∧ AO (((n0 : Int) + (n2 : Int)) - x1) ∧ AJ prog (Builtin.append_ #[39, 3] 39 #[(.slice p0 (Int.toNat x1) c0), (.int .i64 (((n0 : Int) + (n2 : Int)) - x1))]) σ (CS fun ek n40 c40 y => (0 ≤ x1 ∧ x1 ≤ (n40 : Int)) ∧ AJ prog (Builtin.copy_ #[39, 39] 3 #[(.slice (GP ek (Int.toNat x1) c40 3) (n40 - Int.toNat x1) (c40 - Int.toNat x1)), .slice p2 n2 c2]) y (CI .i64 fun fA AI => AO (x1 + (n2 : Int)) ∧ ((0 : Int) ≤ (x1 + (n2 : Int)) ∧ (x1 + (n2 : Int)) ≤ (n40 : Int)) ∧ (0 ≤ x1 ∧ x1 ≤ (n0 : Int)) ∧ AJ prog (Builtin.copy_ #[39, 39] 3 #[(.slice (GP ek (Int.toNat (x1 + (n2 : Int))) c40 3) (n40 - Int.toNat (x1 + (n2 : Int))) (c40 - Int.toNat (x1 + (n2 : Int)))), (.slice (GP p0 (Int.toNat x1) c0 3) (n0 - Int.toNat x1) (c0 - Int.toNat x1))]) AI (CI .i64 fun kk AV => R (.returned (.slice ek n40 c40)) AV)))) (AO ((n0 : Int) + (n2 : Int)) ∧ ((0 : Int) ≤ ((n0 : Int) + (n2 : Int)) ∧ ((n0 : Int) + (n2 : Int)) ≤ (c0 : Int)) ∧ AO (x1 + (n2 : Int)) ∧ ((0 : Int) ≤ (x1 + (n2 : Int)) ∧ (x1 + (n2 : Int)) ≤ (((Int.toNat ((n0 : Int) + (n2 : Int))) : Nat) : Int)) ∧ ∃ ve, YN prog 262 #[.slice p2 n2 c2, (.slice (GP p0 (Int.toNat (x1 + (n2 : Int))) c0 3) ((Int.toNat ((n0 : Int) + (n2 : Int))) - Int.toNat (x1 + (n2 : Int))) (c0 - Int.toNat (x1 + (n2 : Int))))] σ ve ∧ (CB fun t67 y => Bn t67 (AO (x1 + (n2 : Int)) ∧ ((0 : Int) ≤ (x1 + (n2 : Int)) ∧ (x1 + (n2 : Int)) ≤ (((Int.toNat ((n0 : Int) + (n2 : Int))) : Nat) : Int)) ∧ (0 ≤ x1 ∧ x1 ≤ (((Int.toNat ((n0 : Int) + (n2 : Int))) : Nat) : Int)) ∧ AJ prog (Builtin.copy_ #[39, 39] 3 #[(.slice (GP p0 (Int.toNat (x1 + (n2 : Int))) c0 3) ((Int.toNat ((n0 : Int) + (n2 : Int))) - Int.toNat (x1 + (n2 : Int))) (c0 - Int.toNat (x1 + (n2 : Int)))), (.slice (GP p0 (Int.toNat x1) c0 3) ((Int.toNat ((n0 : Int) + (n2 : Int))) - Int.toNat x1) (c0 - Int.toNat x1))]) σ (CI .i64 fun x77 AI => (0 ≤ x1 ∧ x1 ≤ (((Int.toNat ((n0 : Int) + (n2 : Int))) : Nat) : Int)) ∧ AJ prog (Builtin.copy_ #[39, 39] 3 #[(.slice (GP p0 (Int.toNat x1) c0 3) ((Int.toNat ((n0 : Int) + (n2 : Int))) - Int.toNat x1) (c0 - Int.toNat x1)), .slice p2 n2 c2]) AI (CI .i64 fun x82 AV => R (.returned (.slice p0 (Int.toNat ((n0 : Int) + (n2 : Int))) c0)) AV))) ((0 ≤ (n0 : Int) ∧ (n0 : Int) ≤ (((Int.toNat ((n0 : Int) + (n2 : Int))) : Nat) : Int)) ∧ AJ prog (Builtin.copy_ #[39, 39] 3 #[(.slice (GP p0 (Int.toNat (n0 : Int)) c0 3) ((Int.toNat ((n0 : Int) + (n2 : Int))) - Int.toNat (n0 : Int)) (c0 - Int.toNat (n0 : Int))), .slice p2 n2 c2]) σ (CI .i64 fun x88 AI => (0 ≤ x1 ∧ x1 ≤ (((Int.toNat ((n0 : Int) + (n2 : Int))) : Nat) : Int)) ∧ Spec prog 263 #[(.slice (GP p0 (Int.toNat x1) c0 3) ((Int.toNat ((n0 : Int) + (n2 : Int))) - Int.toNat x1) (c0 - Int.toNat x1)), (.int .i64 (n2 : Int))] AI (AB R (fun z AV => z = (.tuple #[]) ∧ R (.returned (.slice p0 (Int.toNat ((n0 : Int) + (n2 : Int))) c0)) AV))))) ve σ)))) : Spec prog 188 #[.slice p0 n0 c0, .int .i64 x1, .slice p2 n2 c2] σ R := M.start h ok
end GH
namespace JP
variable {kJ : Option Addr} {ew kK b1 b2 b3 b4 : Nat} {IL H9 : Int} {s6 s7 : ByteArray}
def M : Fw := ⟨prog, 193, f193, [21], [5], false, [], [], [(15, [(4, wA), (6, wT), (7, wT)])]⟩
theorem ok : M.Ok := ⟨.cons call21 (AM.nil), mixed, func193, by kernel_rfl⟩
def A1 := M.pt 0
theorem start (h : ∀ b5 : Nat, Spec prog 21 #[.slice kJ ew kK, (.string (ByteArray.mk #[99, 108, 117, 115, 116, 101, 114]))] σ (AB R (CT fun Ys y => Spec prog 21 #[.slice kJ ew kK, (.string (ByteArray.mk #[114, 101, 112, 108, 105, 99, 97]))] y (AB R (CT fun s13 AI => LB AI b1 0 fun t14 => Bn t14 (Bn ((ByteArray.toList s13 == ByteArray.toList (ByteArray.mk #[]))) (AJ prog (Instr.storeAt 9 (.pointer (aD b2 0)) (.string Ys)) AI (fun _ AV => AJ prog (Instr.storeAt 9 (.pointer (aD b3 0)) (.string s13)) AV (fun _ Ay => AJ prog (Instr.storeAt 4 (.pointer (aD b1 0)) (.bool true)) Ay (fun _ Dj => A1 R b4 Ys s13 Dj)))) (A1 R b4 Ys s13 AI)) (A1 R b4 Ys s13 AI)))))) : Spec prog 193 #[.agg #[.slice kJ ew kK, .int .i64 IL, .int .u64 H9], (.pointer (aD b1 0)), (.pointer (aD b2 0)), (.pointer (aD b3 0)), (.pointer (aD b4 0))] σ R := M.start h ok
theorem AW (h : LB σ b4 0 fun t22 => Bo t22 (Bn ((ByteArray.toList s6 == ByteArray.toList (ByteArray.mk #[]))) (AJ prog (Instr.storeAt 4 (.pointer (aD b4 0)) (.bool (!(ByteArray.toList s7 == ByteArray.toList (ByteArray.mk #[]))))) σ (fun _ y => R (.returned (.tuple #[])) y)) (AJ prog (Instr.storeAt 4 (.pointer (aD b4 0)) (.bool false)) σ (fun _ y => R (.returned (.tuple #[])) y))) (AJ prog (Instr.storeAt 4 (.pointer (aD b4 0)) (.bool false)) σ (fun _ y => R (.returned (.tuple #[])) y))) : A1 R b4 s6 s7 σ := M.of h ok rfl
end JP
namespace ED
variable {x0 : Int}
def M : Fw := ⟨prog, 213, f213, [], [], false, [], [], []⟩
theorem ok : M.Ok := ⟨AM.nil, mixed, func213, by kernel_rfl⟩
theorem start (h : R (.returned (.bool (decide (x0 ≠ x0)))) σ) : Spec prog 213 #[.int .u32 x0] σ R := M.start h ok
end ED
namespace Mq
def M : Fw := ⟨prog, 225, f225, [], [], false, [], [], []⟩
theorem ok : M.Ok := ⟨AM.nil, mixed, func225, by kernel_rfl⟩
theorem start (h : R (.returned (.tuple #[])) σ) : Spec prog 225 #[] σ R := M.start h ok
end Mq
namespace Lq
variable {E6 IL : Int} {p0c : Option Addr} {n0c c0c b1 : Nat}
def M : Fw := ⟨prog, 261, f261, [], [2], false, [], [], []⟩
theorem ok : M.Ok := ⟨AM.nil, mixed, func261, by kernel_rfl⟩
theorem start (h : ∀ b2 : Nat, LI .i64 σ b1 0 fun x6 => R (.returned (.bool (decide (E6 = x6)))) σ) : Spec prog 261 #[.agg #[.int .i64 E6, .int .i64 IL, .slice p0c n0c c0c], (.pointer (aD b1 0))] σ R := M.start h ok
end Lq
namespace Eu
variable {p0 p8 : Option Addr} {n0 c0 n8 c8 : Nat} {x9 Di : Int}
def M : Fw := ⟨prog, 267, f267, [306, 307], [4], false, [(10, 14, true)], [], [(232, [(0, wL), (8, wL), (9, wI), (10, wI)])]⟩
theorem ok : M.Ok := ⟨.cons call306 (.cons call307 (AM.nil)), mixed, func267, by kernel_rfl⟩
def fV := M.pt 0
theorem start (h : Br (16 < (n0 : Int)) (R (.returned (.int .i64 30)) σ) (fV R p0 n0 c0 p0 n0 c0 (n0 : Int) 0 σ)) : Spec prog 267 #[.slice p0 n0 c0] σ R := M.start h ok
theorem dE (h : Br (Di < x9) (Pq p8 fun H7 kL => In Di (n8 : Int) ∧ ∃ ey rJ, EF σ H7 (kL + Int.toNat Di * 2) [.string ey, .string rJ] ∧ ∀ b4 : Nat, Spec prog 306 #[.string ey] σ (AB R (CB fun t18 y => Bn t18 (R (.returned (.int .i64 31)) y) (Bo ((ByteArray.toList rJ == ByteArray.toList (ByteArray.mk #[]))) (R (.returned (.int .i64 32)) y) (Br ((256 : Int) < ((ByteArray.size rJ : Nat) : Int)) (R (.returned (.int .i64 32)) y) (Spec prog 307 #[.string rJ] y (AB R (CB fun t33 AI => Bn t33 (R (.returned (.int .i64 32)) AI) (Br (0 < Di) (AO (Di - 1) ∧ Pq p0 fun W5 o45 => In (Di - 1) (n0 : Int) ∧ LT AI W5 (o45 + Int.toNat (Di - 1) * 2) fun xo => ∃ t48, YF prog ((do eqGuard .leq 9 (.tmp 41) (.tmp 47) (.string ey) (.string xo); binOp .leq 9 (.string ey) (.string xo))) AI (.bool t48) ∧ Bo t48 (R (.returned (.int .i64 33)) AI) (AO (Di + 1) ∧ fV R (aD W5 o45) n0 c0 (aD H7 kL) n8 c8 x9 (Di + 1) AI)) (AO (Di + 1) ∧ fV R p0 n0 c0 (aD H7 kL) n8 c8 x9 (Di + 1) AI)))))))))) (R (.returned (.int .i64 0)) σ)) : fV R p0 n0 c0 p8 n8 c8 x9 Di σ := M.of h ok rfl
end Eu
namespace DH
variable {p0 p5 p8 : Option Addr} {n0 c0 n5 c5 n8 c8 : Nat} {v1 : Value} {x9 Di : Int}
def M : Fw := ⟨prog, 269, f269, [], [7], false, [], [], [(232, [(1, wV), (5, wL), (8, wL), (9, wI), (10, wI)]), (935, [(1, wV), (5, wL), (8, wL), (9, wI), (10, wI)])]⟩
theorem ok : M.Ok := ⟨AM.nil, mixed, func269, by kernel_rfl⟩
def A1 := M.pt 0
def Gn := M.pt 1
theorem start (h : A1 R v1 none 0 0 p0 n0 c0 (n0 : Int) 0 σ) : Spec prog 269 #[.slice p0 n0 c0, v1] σ R := M.KH h ok [(0, .o (.L p0 n0 c0)), (1, .o (.V v1))] rfl rfl (by kernel_rfl)
theorem AW (h : Br (Di < x9) (Pq p8 fun PK Qf => In Di (n8 : Int) ∧ ∃ Z2 yW, EF σ PK (Qf + Int.toNat Di * 2) [.string Z2, .string yW] ∧ ∀ b7 : Nat, ∃ (f16 : Nat) (OY OZ : Array Value), v1 = .func (.func f16) OY OZ ∧ Enters prog f16 ∧ Spec prog f16 (OY ++ #[.agg #[.string Z2, .string yW]] ++ OZ) σ (AB R (CB fun t16 y => Bo t16 (Al y fun Yy => AJ prog (Builtin.append_ #[22, 22] 22 #[.slice p5 n5 c5, (.slice (aD Yy 0) 1 1)]) (Hp.set y Yy (.cells #[.string Z2, .string yW] 61 (0, 0))) (CS fun uJ n20 c20 AI => Gn R v1 uJ n20 c20 (aD PK Qf) n8 c8 x9 Di AI)) (Gn R v1 p5 n5 c5 (aD PK Qf) n8 c8 x9 Di y)))) (R (.returned (.slice p5 n5 c5)) σ)) : A1 R v1 p5 n5 c5 p8 n8 c8 x9 Di σ := M.of h ok rfl
theorem F4 (h : AO (Di + 1) ∧ A1 R v1 p5 n5 c5 p8 n8 c8 x9 (Di + 1) σ) : Gn R v1 p5 n5 c5 p8 n8 c8 x9 Di σ := M.of h ok rfl
end DH
namespace slices_Index_string
variable {p0 : Option Addr} {n0 c0 : Nat} {s1 : ByteArray} {x7 x8 : Int}
def M : Fw := ⟨prog, 308, f308, [], [], false, [], [], [(104, [(0, wL), (1, wT), (7, wI), (8, wI)])]⟩
theorem ok : M.Ok := ⟨AM.nil, mixed, func308, by kernel_rfl⟩
def Ns := M.pt 0
theorem start (h : Ns R p0 n0 c0 s1 (n0 : Int) 0 σ) : Spec prog 308 #[.slice p0 n0 c0, .string s1] σ R := M.start h ok
theorem EJ (h : Br (x8 < x7) (Pq p0 fun LG Nq => In x8 (n0 : Int) ∧ LT σ LG (Nq + Int.toNat x8 * 1) fun et => Bo (ByteArray.toList s1 == ByteArray.toList et) (R (.returned (.int .i64 x8)) σ) (AO (x8 + 1) ∧ Ns R (aD LG Nq) n0 c0 s1 x7 (x8 + 1) σ)) (R (.returned (.int .i64 (-1))) σ)) : Ns R p0 n0 c0 s1 x7 x8 σ := M.of h ok rfl
end slices_Index_string
namespace C3
variable {s0 s1 : ByteArray}
def M : Fw := ⟨prog, 317, f317, [169], [], false, [], [], []⟩
theorem ok : M.Ok := ⟨.cons call169 (AM.nil), mixed, func317, by kernel_rfl⟩
theorem start (h : Spec prog 169 #[.string s0, .string s1] σ (AB R (CB fun t8 y => Bn t8 (R (.returned (.tuple #[.string s0, .bool false])) y) (∃ cS, YF prog (Instr.sliceAt 9 (.string s0) (some (.int .i64 ((ByteArray.size s1 : Nat) : Int))) none none) y (.string cS) ∧ R (.returned (.tuple #[.string cS, .bool true])) y)))) : Spec prog 317 #[.string s0, .string s1] σ R := M.start h ok
end C3
namespace BZ
variable {q0 Ut : Option Addr} {x1 x6 KJ NO : Int} {n36 Wu : Nat}
def M : Fw := ⟨prog, 344, f344, [219], [], false, [(1, 13, true), (4, 16, true), (9, 18, true)], [], [(488, [(0, wQ), (1, wI), (6, cJ), (36, wL), (37, wI), (38, wI)])]⟩
theorem ok : M.Ok := ⟨.cons call219 (AM.nil), mixed, func344, by kernel_rfl⟩
def Gp := M.pt 0
theorem start (h : Pq q0 fun EH Gk => LS σ EH Gk fun OS n13 PL => LI .i64 σ EH (Gk + 1) fun FT => AO ((n13 : Int) - FT) ∧ AO (4 + x1) ∧ Br ((((n13 : Int) - FT) : Int) < (4 + x1)) (R (.returned (.tuple #[.slice none 0 0, .int .i64 20])) σ) (LS σ EH Gk fun Wk n26 TQ => LI .i64 σ EH (Gk + 1) fun oK => LI .i64 σ EH (Gk + 1) fun fO => AO (fO + 4) ∧ (0 ≤ oK ∧ oK ≤ (fO + 4) ∧ (fO + 4) ≤ (TQ : Int)) ∧ Gp R (aD EH Gk) x1 0 ((GP Wk (Int.toNat oK) TQ 1)) ((Int.toNat (fO + 4) - Int.toNat oK)) (TQ - Int.toNat oK) ((((Int.toNat (fO + 4) - Int.toNat oK) : Nat) : Int)) 0 σ)) : Spec prog 344 #[.pointer q0, .int .i64 x1] σ R := M.start h ok
theorem Gq (h : Br (NO < KJ) (Pq Ut fun OQ eu => In NO (n36 : Int) ∧ LI .u8 σ OQ (eu + Int.toNat NO * 1) fun Lh => ((0 : Int) ≤ 8 ∧ 8 ≤ ((IntKind.bits .u32 : Nat) : Int)) ∧ Df (IntKind.u32.wrap (x6 * 2 ^ Int.toNat 8)) fun yC => Df (IntKind.u32.wrap Lh) fun fA => Df (Go.bits .or .u32 yC fA) fun fD => AO (NO + 1) ∧ Gp R q0 x1 fD (aD OQ eu) n36 Wu KJ (NO + 1) σ) (Pq q0 fun NR o49 => LS σ NR o49 fun p51 n51 c51 => LI .i64 σ NR (o49 + 1) fun rK => AO (rK + 4) ∧ LI .i64 σ NR (o49 + 1) fun x60 => AO (x60 + 4) ∧ AO ((x60 + 4) + x1) ∧ ((0 : Int) ≤ (rK + 4) ∧ (rK + 4) ≤ ((x60 + 4) + x1) ∧ ((x60 + 4) + x1) ≤ (c51 : Int)) ∧ LI .i64 σ NR (o49 + 1) fun x68 => AO (4 + x1) ∧ AO (x68 + (4 + x1)) ∧ AJ prog (Instr.storeAt 3 (.pointer (aD NR (o49 + 1))) (.int .i64 (x68 + (4 + x1)))) σ (fun _ y => Spec prog 219 #[(.slice (GP p51 (Int.toNat (rK + 4)) c51 1) (Int.toNat ((x60 + 4) + x1) - Int.toNat (rK + 4)) (c51 - Int.toNat (rK + 4)))] y (AB R (CI .u32 fun ub AI => Br (ub ≠ x6) (R (.returned (.tuple #[.slice none 0 0, .int .i64 22])) AI) (Al AI fun Yx => AJ prog (Builtin.append_ #[84, 84] 84 #[(.slice (aD Yx 0) 0 0), (.slice (GP p51 (Int.toNat (rK + 4)) c51 1) (Int.toNat ((x60 + 4) + x1) - Int.toNat (rK + 4)) (c51 - Int.toNat (rK + 4)))]) (Hp.set AI Yx (.cells #[] 5 (0, 0))) (CS fun p80 n80 c80 AV => R (.returned (.tuple #[.slice p80 n80 c80, .int .i64 0])) AV))))))) : Gp R q0 x1 x6 Ut n36 Wu KJ NO σ := M.of h ok rfl
end BZ
end TwW
end
end
section
set_option maxRecDepth 100000
noncomputable section
namespace TwW
open Go Tw Go.Proofs.Tryz
variable [I7] {R : Rr} {σ : Hp}

namespace Mr
variable {x0 x1 x2 : Int}
def M : Fw := ⟨prog, 7, f7, [8], [6], false, [], [], []⟩
theorem ok : M.Ok := ⟨.cons call8 (AM.nil), mixed, func7, by kernel_rfl⟩
theorem start (h : ∀ b6 : Nat, Al σ fun b7 => Spec prog 8 #[.int .i64 x0] (Hp.set σ b7 (.cells #[.int .i64 1, .int .i64 3, .int .i64 5] 3 (0, 0))) (AB R (CI .i64 fun x9 y => 3 ≠ (0 : Int) ∧ Df (Int.tmod x9 3) fun Di => In Di 3 ∧ LI .i64 y b7 (0 + Int.toNat Di * 1) fun Du => R (.returned (.agg #[.int .i64 0, .int .i64 Du, .int .i64 0, .int .i64 0, .int .i64 x2, .int .i64 x1, .int .i64 0, .int .i64 100, .int .i64 16, .int .i64 100, .bool true])) y))) : Spec prog 7 #[.int .i64 x0, .int .i64 x1, .int .i64 x2] σ R := M.start h ok
end Mr
namespace AT
variable {q0 p2 q4 Jv ca : Option Addr} {s1 : ByteArray} {n2 c2 n24 c24 : Nat} {x3 NQ IK : Int}
def M : Fw := ⟨prog, 12, f12, [47], [], false, [], [], [(232, [(12, wQ), (24, wL), (25, wI), (26, wI)])]⟩
theorem ok : M.Ok := ⟨.cons call47 (AM.nil), mixed, func12, by kernel_rfl⟩
def A1 := M.pt 0
theorem start (h : Al σ fun BA => Spec prog 47 #[.pointer q0, (.pointer (aD BA 0)), .pointer q4] (Hp.set σ BA (.cells #[.string s1, (.string (ByteArray.mk #[])), (.string (ByteArray.mk #[])), .slice p2 n2 c2, .int .i64 x3, .pointer none] 120 (0, 0))) (AB R (CS fun ca n24 c24 y => A1 R (aD BA 0) ca n24 c24 (n24 : Int) 0 y))) : Spec prog 12 #[.pointer q0, .string s1, .slice p2 n2 c2, .int .i64 x3, .pointer q4] σ R := M.start h ok
theorem AW (h : Br (IK < NQ) (Pq ca fun Qh dD => In IK (n24 : Int) ∧ ∃ v29, Hp.ld σ ⟨Qh, (dD + Int.toNat IK * 1), none⟩ = some v29 ∧ ∃ (f31 : Nat) (XG XH : Array Value), v29 = .func (.func f31) XG XH ∧ Enters prog f31 ∧ Spec prog f31 (XG ++ #[] ++ XH) σ (AB R (CI .i64 fun Hm y => Br (Hm ≠ 0) (R (.returned (.tuple #[.pointer none, .int .i64 Hm])) y) (AO (IK + 1) ∧ A1 R Jv (aD Qh dD) n24 c24 NQ (IK + 1) y)))) (Pq Jv fun Hn fP => LQ σ Hn (fP + 5) fun q39 => R (.returned (.tuple #[.pointer q39, .int .i64 0])) σ)) : A1 R Jv ca n24 c24 NQ IK σ := M.of h ok rfl
end AT
namespace C4
variable {p0 p1 : Option Addr} {n0 c0 n1 c1 : Nat} {x5 : Int}
def M : Fw := ⟨prog, 18, f18, [], [], false, [(6, 9, true)], [], [(464, [(0, wL), (1, wL), (5, wI)])]⟩
theorem ok : M.Ok := ⟨AM.nil, mixed, func18, by kernel_rfl⟩
def Ap := M.pt 0
theorem start (h : Br ((n0 : Int) ≠ (n1 : Int)) (R (.returned (.bool false)) σ) (Ap R p0 n0 c0 p1 n1 c1 0 σ)) : Spec prog 18 #[.slice p0 n0 c0, .slice p1 n1 c1] σ R := M.start h ok
theorem BI (h : Br (x5 < (n0 : Int)) (Pq p0 fun Yy qX => In x5 (n0 : Int) ∧ LB σ Yy (qX + Int.toNat x5 * 1) fun t20 => Pq p1 fun Yv px => In x5 (n1 : Int) ∧ LB σ Yv (px + Int.toNat x5 * 1) fun t24 => Bo t20 (Bo t24 (AO (x5 + 1) ∧ Ap R (aD Yy qX) n0 c0 (aD Yv px) n1 c1 (x5 + 1) σ) (R (.returned (.bool false)) σ)) (Bo t24 (R (.returned (.bool false)) σ) (AO (x5 + 1) ∧ Ap R (aD Yy qX) n0 c0 (aD Yv px) n1 c1 (x5 + 1) σ))) (R (.returned (.bool true)) σ)) : Ap R p0 n0 c0 p1 n1 c1 x5 σ := M.of h ok rfl
end C4
namespace Qo
variable {p0 : Option Addr} {n0 c0 : Nat}
def M : Fw := ⟨prog, 24, f24, [56, 57], [], false, [], [], []⟩
theorem ok : M.Ok := ⟨.cons call56 (.cons call57 (AM.nil)), mixed, func24, by kernel_rfl⟩
theorem start (h : Spec prog 57 #[.slice p0 n0 c0] σ (AB R (CS fun p4 n4 c4 y => Spec prog 56 #[.slice p4 n4 c4] y (AB R (CI .u32 fun x5 AI => R (.returned (.int .u32 x5)) AI))))) : Spec prog 24 #[.slice p0 n0 c0] σ R := M.start h ok
end Qo
namespace DP
variable {q0 q1 q2 : Option Addr}
def M : Fw := ⟨prog, 47, f47, [], [], false, [], [], []⟩
theorem ok : M.Ok := ⟨AM.nil, mixed, func47, by kernel_rfl⟩
theorem start (h : Al σ fun b3 => Al (Hp.set σ b3 (.cells #[.pointer q0] 33 (0, 0))) fun b4 => Al (Hp.set (Hp.set σ b3 (.cells #[.pointer q0] 33 (0, 0))) b4 (.cells #[.pointer q1] 118 (0, 0))) fun b5 => Al (Hp.set (Hp.set (Hp.set σ b3 (.cells #[.pointer q0] 33 (0, 0))) b4 (.cells #[.pointer q1] 118 (0, 0))) b5 (.cells #[.pointer q2] 35 (0, 0))) fun EH => R (.returned (.slice (aD EH 0) 4 4)) (Hp.set (Hp.set (Hp.set (Hp.set σ b3 (.cells #[.pointer q0] 33 (0, 0))) b4 (.cells #[.pointer q1] 118 (0, 0))) b5 (.cells #[.pointer q2] 35 (0, 0))) EH (.cells #[(.func (.func 103) #[] #[(.pointer (aD b4 0)), (.pointer (aD b3 0))]), (.func (.func 105) #[] #[(.pointer (aD b3 0)), (.pointer (aD b4 0))]), (.func (.func 107) #[] #[(.pointer (aD b5 0)), (.pointer (aD b3 0)), (.pointer (aD b4 0))]), (.func (.func 110) #[] #[(.pointer (aD b4 0)), (.pointer (aD b3 0)), (.pointer (aD b5 0))])] 123 (0, 0)))) : Spec prog 47 #[.pointer q0, .pointer q1, .pointer q2] σ R := M.start h ok
end DP
namespace N0
variable {p0 : Option Addr} {n0 c0 : Nat}
def M : Fw := ⟨prog, 52, f52, [115, 116], [2], false, [], [], []⟩
theorem ok : M.Ok := ⟨.cons call115 (.cons call116 (AM.nil)), mixed, func52, by kernel_rfl⟩
theorem start (h : ∀ b2 : Nat, Spec prog 115 #[.slice p0 n0 c0, .int .i64 0] σ (AB R (fun z y => ∃ fU SK SL, z = (.tuple #[.string fU, .int .i64 SK, .int .i64 SL]) ∧ Br (SL ≠ 0) (R (.returned (.tuple #[(.agg #[(.string (ByteArray.mk #[])), .int .i64 0]), .int .i64 161])) y) (Spec prog 116 #[.slice p0 n0 c0, .int .i64 SK] y (AB R (fun z AI => ∃ AEV PH W8, z = (.tuple #[.int .i64 AEV, .int .i64 PH, .int .i64 W8]) ∧ Br (W8 ≠ 0) (R (.returned (.tuple #[(.agg #[(.string (ByteArray.mk #[])), .int .i64 0]), .int .i64 161])) AI) (Br (PH ≠ (n0 : Int)) (R (.returned (.tuple #[(.agg #[(.string (ByteArray.mk #[])), .int .i64 0]), .int .i64 161])) AI) (R (.returned (.tuple #[.agg #[.string fU, .int .i64 AEV], .int .i64 0])) AI)))))))) : Spec prog 52 #[.slice p0 n0 c0] σ R := M.start h ok
end N0
namespace Ta
def K0 := f64.body.getD .skip
def K1 := cl K0
def K2 := cr K0
def K3 := cl K2
def K4 := cr K2
abbrev gl (R : Rr) : Gl := Gl.fn prog 64 14 R
theorem start {R : Rr} {s0 : ByteArray} {p1a : Option Addr} {n1a c1a : Nat} {R3 : Int} {σ : Hp} (h : ∃ s12 : ByteArray, YF prog (convert 84 9 (.slice p1a n1a c1a)) σ (.string s12) ∧ Spec prog 60 #[(.slice none 0 0), (.string s0)] σ (AB R (fun v σ1 => ∃ p6 : Option Addr, ∃ n6 : Nat, ∃ c6 : Nat, v = (.slice p6 n6 c6) ∧ Ext σ σ1 ∧ Spec prog 99 #[(.slice p6 n6 c6), (.int .u64 R3)] σ1 (AB R (fun cK Bb => ∃ p9 : Option Addr, ∃ n9 : Nat, ∃ c9 : Nat, cK = (.slice p9 n9 c9) ∧ Ext σ1 Bb ∧ Spec prog 60 #[(.slice p9 n9 c9), (.string s12)] Bb (AB R (fun v_3 BE => ∃ OS : Option Addr, ∃ n13 : Nat, ∃ PL : Nat, v_3 = (.slice OS n13 PL) ∧ Ext Bb BE ∧ R (.returned (.slice OS n13 PL)) BE))))))) : Spec prog 64 #[(.string s0), (.agg #[(.slice p1a n1a c1a), (.int .u64 R3)])] σ R := by
 refine Spec.Vv (fn := f64) (c := K0) func64 (by kernel_rfl) (Nat.le_of_ble_eq_true (by kernel_rfl)) (fun e he => ?_)
 refine At.ofL (l := [(0, (.string s0)), (1, (.agg #[(.slice p1a n1a c1a), (.int .u64 R3)]))]) ⟨he 0, he 1, trivial⟩ (fun J => ?_)
 show At (gl R) _ _ _ _
 refine At.s K1 K2 ?_
 refine At.rg 0 [0, 1] ?_
 refine Seq.o ?_
 refine AY.box (T := 156) (d := (some 3)) (ty := 0) (x := (.tmp 1)) (gd := none) (cs := #[(.slice p1a n1a c1a), (.int .u64 R3)]) (by kernel_rfl) rfl rfl rfl (fun b3 => ?_)
 refine Seq.u 4 (.slice none 0 0) (Seq.done ?_)
 refine At.s K3 K4 ?_
 refine At.draw (id := 1) (ops := cO K3) (n := 10) (q := none) (plan := [(0, true), (2, true), (3, true), (5, true), (6, true), (7, true), (1, false), (4, false), (8, false), (9, true)]) (tl := []) mixed (by kernel_rfl) (by kernel_rfl) ?_
 refine Head.u 5 (.string s0) ?_
 refine Head.z 7 (.fieldAddr 156 (.tmp 3) 1) 0 (.pointer (some ⟨b3, 1, none⟩)) (Y.fieldAddr (fd := (bg prog 156 1)) underlying156 (by kernel_rfl) sizeOf23 rfl rfl) ?_
 refine Head.z 8 (.load 23 (.tmp 7)) 23 (.int .u64 R3) (Y.jM isAgg23 rfl (List.mem_cons_self ..) rfl) ?_
 refine Head.z 10 (.fieldAddr 156 (.tmp 3) 0) 0 (.pointer (some ⟨b3, 0, none⟩)) (Y.fieldAddr (fd := (bg prog 156 0)) underlying156 (by kernel_rfl) sizeOf84 rfl rfl) ?_
 refine Head.z 11 (.load 84 (.tmp 10)) 84 (.slice p1a n1a c1a) (Y.jM isAgg84 rfl (List.mem_cons_self ..) rfl) ?_
 obtain ⟨s12, hy, h⟩ := h
 refine Head.y (d := (some 12)) (op := (.convert 84 9 (.tmp 11))) (ty := 9) (v := (.string s12)) (by kernel_rfl) rfl (Yd.any (m := convert 84 9 (.slice p1a n1a c1a)) (fun o ho ht => by simp only [execOp, ho]; rfl) hy) ?_
 refine Head.o (q' := none) rfl ?_
 refine AY.cl (some 6) call60 (h.cont fun v σ1 h2 => ?_); replace h := h2; clear h2
 obtain ⟨p6, n6, c6, rfl, hk, h⟩ := h
 refine ⟨⟨fun _ h => h, hk⟩, ?_⟩
 refine Head.o (q' := none) rfl ?_
 refine AY.cl (some 9) call99 (h.cont fun cK Bb h2 => ?_); replace h := h2; clear h2
 obtain ⟨p9, n9, c9, rfl, hk, h⟩ := h
 refine ⟨⟨fun _ h => h, hk⟩, ?_⟩
 refine Head.o (q' := none) rfl ?_
 refine AY.cl (some 13) call60 (h.cont fun v_3 BE h2 => ?_); replace h := h2; clear h2
 obtain ⟨OS, n13, PL, rfl, hk, h⟩ := h
 refine ⟨⟨fun _ h => h, hk⟩, ?_⟩
 refine Head.u 4 (.slice OS n13 PL) ?_
 refine Head.done ?_
 refine Seq.done ?_
 exact At.rt [.tmp 4] [(.slice OS n13 PL)] func64 ⟨_, rfl, rfl⟩ h
end Ta
namespace ES
variable {p0 p5 : Option Addr} {n0 c0 n5 c5 : Nat} {x1 : Int}
def M : Fw := ⟨prog, 99, f99, [], [], false, [], [], [(224, [(1, wU), (5, wL)])]⟩
theorem ok : M.Ok := ⟨AM.nil, mixed, func99, by kernel_rfl⟩
def La := M.pt 0
theorem start (h : Al σ fun b6 => AJ prog (Builtin.append_ #[84, 84] 84 #[(.slice (aD b6 0) 0 0), .slice p0 n0 c0]) (Hp.set σ b6 (.cells #[] 5 (0, 0))) (CS fun p8 n8 c8 y => La R x1 p8 n8 c8 y)) : Spec prog 99 #[.slice p0 n0 c0, .int .u64 x1] σ R := M.start h ok
theorem DF (h : Br (127 < x1) (Df (IntKind.u8.wrap x1) fun Nv => Df (Go.bits .or .u8 Nv 128) fun FF => Al σ fun SO => AJ prog (Builtin.append_ #[84, 84] 84 #[.slice p5 n5 c5, (.slice (aD SO 0) 1 1)]) (Hp.set σ SO (.cells #[.int .u8 FF] 5 (0, 0))) (CS fun ej n18 oE y => ((0 : Int) ≤ 7 ∧ 7 ≤ ((IntKind.bits .u64 : Nat) : Int)) ∧ Df (x1 / 2 ^ Int.toNat 7) fun Du => La R Du ej n18 oE y)) (Df (IntKind.u8.wrap x1) fun Hj => Al σ fun Nr => AJ prog (Builtin.append_ #[84, 84] 84 #[.slice p5 n5 c5, (.slice (aD Nr 0) 1 1)]) (Hp.set σ Nr (.cells #[.int .u8 Hj] 5 (0, 0))) (CS fun ph n23 pj y => R (.returned (.slice ph n23 pj)) y))) : La R x1 p5 n5 c5 σ := M.of h ok rfl
end ES
namespace C5
variable {p0 qc OS cZ AEW : Option Addr} {n0 c0 b6 b7 b8 b9 n17 qe n13 PL n27 Wv AEX AEY : Nat} {v10 : Value} {FT MS G9 MG XD AEZ : Int}
def M : Fw := ⟨prog, 106, f106, [21, 194], [12, 15], false, [(19, 7, true)], [], [(488, [(0, wL), (6, wA), (7, wA), (8, wA), (9, wA), (10, wV), (17, wL), (18, wI), (19, wI)]), (2024, [(6, wA), (7, wA), (8, wA), (9, wA), (13, wL), (27, wL), (28, wI), (29, wI)]), (259279, [(6, wA), (7, wA), (8, wA), (9, wA), (13, wL), (15, .X 25 [.L, .I .i64, .I .u64]), (27, wL), (28, wI), (29, wI)])]⟩
theorem ok : M.Ok := ⟨.cons call21 (.cons call194 (AM.nil)), mixed, func106, by kernel_rfl⟩
def HC := M.pt 0
def rL := M.pt 1
def QZ := M.pt 2
theorem start (h : Al σ fun b6 => Al (Hp.set σ b6 (.cells #[(.string (ByteArray.mk #[]))] 9 (0, 0))) fun b7 => Al (Hp.set (Hp.set σ b6 (.cells #[(.string (ByteArray.mk #[]))] 9 (0, 0))) b7 (.cells #[(.string (ByteArray.mk #[]))] 9 (0, 0))) fun b8 => Al (Hp.set (Hp.set (Hp.set σ b6 (.cells #[(.string (ByteArray.mk #[]))] 9 (0, 0))) b7 (.cells #[(.string (ByteArray.mk #[]))] 9 (0, 0))) b8 (.cells #[.bool false] 4 (0, 0))) fun b9 => AJ prog (Instr.storeAt 9 (.pointer (aD b6 0)) (.string (ByteArray.mk #[]))) (Hp.set (Hp.set (Hp.set (Hp.set σ b6 (.cells #[(.string (ByteArray.mk #[]))] 9 (0, 0))) b7 (.cells #[(.string (ByteArray.mk #[]))] 9 (0, 0))) b8 (.cells #[.bool false] 4 (0, 0))) b9 (.cells #[.bool false] 4 (0, 0))) (fun _ y => AJ prog (Instr.storeAt 9 (.pointer (aD b7 0)) (.string (ByteArray.mk #[]))) y (fun _ AI => AJ prog (Instr.storeAt 4 (.pointer (aD b8 0)) (.bool false)) AI (fun _ AV => AJ prog (Instr.storeAt 4 (.pointer (aD b9 0)) (.bool true)) AV (fun _ Ay => HC R p0 n0 c0 b6 b7 b8 b9 ((.func (.func 193) #[] #[(.pointer (aD b8 0)), (.pointer (aD b6 0)), (.pointer (aD b7 0)), (.pointer (aD b9 0))])) p0 n0 c0 (n0 : Int) 0 Ay))))) : Spec prog 106 #[.slice p0 n0 c0] σ R := M.start h ok
theorem F5 (h : Br (MS < FT) (Pq qc fun oT rE => In MS (n17 : Int) ∧ ∃ qu qw qx fQ fR, EF σ oT (rE + Int.toNat MS * 3) [.slice qu qw qx, .int .i64 fQ, .int .u64 fR] ∧ ∀ PK : Nat, ∃ (f25 : Nat) (ui uj : Array Value), v10 = .func (.func f25) ui uj ∧ Enters prog f25 ∧ Spec prog f25 (ui ++ #[.agg #[.slice qu qw qx, .int .i64 fQ, .int .u64 fR]] ++ uj) σ (AB R (fun z y => z = (.tuple #[]) ∧ AO (MS + 1) ∧ HC R p0 n0 c0 b6 b7 b8 b9 v10 (aD oT rE) n17 qe FT (MS + 1) y))) (rL R b6 b7 b8 b9 none 0 0 p0 n0 c0 (n0 : Int) 0 σ)) : HC R p0 n0 c0 b6 b7 b8 b9 v10 qc n17 qe FT MS σ := M.of h ok rfl
theorem dF (h : Br (MG < G9) (Pq cZ fun J5 qn => In MG (n27 : Int) ∧ ∃ lG lH lI Z5 lJ, EF σ J5 (qn + Int.toNat MG * 3) [.slice lG lH lI, .int .i64 Z5, .int .u64 lJ] ∧ ∀ cV : Nat, LB σ b8 0 fun t33 => Bo t33 (LB σ b9 0 fun t35 => Bn t35 (R (.returned (.tuple #[(.string (ByteArray.mk #[])), (.string (ByteArray.mk #[])), .slice none 0 0, .int .i64 160])) σ) (LT σ b6 0 fun s41 => Spec prog 21 #[.slice lG lH lI, (.string (ByteArray.mk #[99, 108, 117, 115, 116, 101, 114]))] σ (AB R (CT fun s40 y => Kp [b6] σ y ∧ Bn (ByteArray.toList s40 == ByteArray.toList s41) (R (.returned (.tuple #[(.string (ByteArray.mk #[])), (.string (ByteArray.mk #[])), .slice none 0 0, .int .i64 160])) y) (LT y b7 0 fun s48 => Spec prog 21 #[.slice lG lH lI, (.string (ByteArray.mk #[114, 101, 112, 108, 105, 99, 97]))] y (AB R (CT fun xo AI => Kp [b7] y AI ∧ Bn (ByteArray.toList xo == ByteArray.toList s48) (R (.returned (.tuple #[(.string (ByteArray.mk #[])), (.string (ByteArray.mk #[])), .slice none 0 0, .int .i64 160])) AI) (Al AI fun lE => AJ prog (Builtin.append_ #[22, 22] 22 #[(.slice (aD lE 0) 0 0), .slice lG lH lI]) (Hp.set AI lE (.cells #[] 61 (0, 0))) (CS fun rM oX rN AV => LB AV b8 0 fun t57 => Bo t57 (Al AV fun R5 => Spec prog 194 #[.slice rM oX rN, (.slice (aD R5 0) 1 1)] (Hp.set AV R5 (.cells #[(.string (ByteArray.mk #[114, 101, 112, 108, 105, 99, 97]))] 9 (0, 0))) (AB R (CS fun xL n61 tc Ay => QZ R b6 b7 b8 b9 OS n13 PL xL n61 tc Z5 lJ (aD J5 qn) n27 Wv G9 MG Ay))) (QZ R b6 b7 b8 b9 OS n13 PL rM oX rN Z5 lJ (aD J5 qn) n27 Wv G9 MG AV)))))))))) (Al σ fun lE => AJ prog (Builtin.append_ #[22, 22] 22 #[(.slice (aD lE 0) 0 0), .slice lG lH lI]) (Hp.set σ lE (.cells #[] 61 (0, 0))) (CS fun rM oX rN y => LB y b8 0 fun t57 => Bo t57 (Al y fun R5 => Spec prog 194 #[.slice rM oX rN, (.slice (aD R5 0) 1 1)] (Hp.set y R5 (.cells #[(.string (ByteArray.mk #[114, 101, 112, 108, 105, 99, 97]))] 9 (0, 0))) (AB R (CS fun xL n61 tc AI => QZ R b6 b7 b8 b9 OS n13 PL xL n61 tc Z5 lJ (aD J5 qn) n27 Wv G9 MG AI))) (QZ R b6 b7 b8 b9 OS n13 PL rM oX rN Z5 lJ (aD J5 qn) n27 Wv G9 MG y)))) (LT σ b6 0 fun s68 => LT σ b7 0 fun s69 => R (.returned (.tuple #[.string s68, .string s69, .slice OS n13 PL, .int .i64 0])) σ)) : rL R b6 b7 b8 b9 OS n13 PL cZ n27 Wv G9 MG σ := M.of h ok rfl
theorem rO (h : Al σ fun b65 => AJ prog (Builtin.append_ #[46, 46] 46 #[.slice OS n13 PL, (.slice (aD b65 0) 1 1)]) (Hp.set σ b65 (.cells #[.slice AEW AEX AEY, .int .i64 XD, .int .u64 AEZ] 25 (0, 0))) (CS fun p66 n66 c66 y => AO (MG + 1) ∧ rL R b6 b7 b8 b9 p66 n66 c66 cZ n27 Wv G9 (MG + 1) y)) : QZ R b6 b7 b8 b9 OS n13 PL AEW AEX AEY XD AEZ cZ n27 Wv G9 MG σ := M.SI h ok rfl fun _ => by kernel_rfl
end C5
namespace KQ
variable {p0 : Option Addr} {n0 c0 : Nat} {v1 : Value}
end KQ
namespace Ck
variable {b0 b1 : Nat}
def M : Fw := ⟨prog, 136, f136, [132, 134, 137, 138], [], false, [(0, 8, false), (2, 10, false), (3, 7, true), (5, 12, false), (6, 8, true)], [], [(14, [(0, wA)]), (480, [(0, wA)])]⟩
theorem ok : M.Ok := ⟨.cons call132 (.cons call134 (.cons call137 (.cons call138 (AM.nil)))), mixed, func136, by kernel_rfl⟩
def La := M.pt 0
def LJ := M.pt 1
theorem start (h : LQ σ b0 0 fun q2 => LQ σ b0 0 fun q3 => LQ σ b0 0 fun q4 => Pq q4 fun b5 o5 => LI .i64 σ b5 (o5 + 4) fun x7 => LS σ b1 0 fun p9 n9 c9 => Spec prog 134 #[.pointer q3, (.string (ByteArray.mk #[99])), .int .i64 x7] σ (AB R (CT fun s8 y => Kp [b1, b0] σ y ∧ Spec prog 137 #[.pointer q2, .string s8, .slice p9 n9 c9] y (AB R (fun z AI => z = (.tuple #[]) ∧ LQ AI b0 0 fun qf => Pq qf fun PK Qf => LI .i64 AI PK (Qf + 2) fun E7 => Br (0 < E7) (LQ AI b0 0 fun xF => Pq xF fun SO fL => LQ AI SO fL fun q19 => LQ AI b0 0 fun q20 => LQ AI b0 0 fun er => Pq er fun Nr Ww => LI .i64 AI Nr (Ww + 2) fun J4 => Spec prog 134 #[.pointer q20, (.string (ByteArray.mk #[99])), .int .i64 J4] AI (AB R (CT fun s25 AV => Kp [SO, b0] AI AV ∧ Spec prog 138 #[.pointer q19, .string s25] AV (AB R (CI .i64 fun IK Ay => Spec prog 132 #[.int .i64 IK] Ay (AB R (fun z Dj => z = (.tuple #[]) ∧ La R b0 Dj))))))) (La R b0 AI)))))) : Spec prog 136 #[(.pointer (aD b0 0)), (.pointer (aD b1 0))] σ R := M.start h ok
theorem DF (h : LQ σ b0 0 fun q28 => LQ σ b0 0 fun q29 => Pq q29 fun TW Yz => LI .i64 σ TW (Yz + 4) fun uS => Pq q28 fun Yu xS => AJ prog (Instr.storeAt 3 (.pointer (aD Yu (xS + 2))) (.int .i64 uS)) σ (fun _ y => LJ R b0 y)) : La R b0 σ := M.of h ok rfl
theorem Hk (h : LQ σ b0 0 fun q35 => Pq q35 fun qY qZ => LS σ qY (qZ + 3) fun oM n38 oN => Br (0 < (n38 : Int)) (LQ σ b0 0 fun q41 => Pq q41 fun iU j8 => LQ σ iU j8 fun q44 => LQ σ b0 0 fun q45 => LQ σ b0 0 fun xj => Pq xj fun cX kM => LS σ cX (kM + 3) fun Wq n49 c49 => Pq Wq fun b50 o50 => In 0 (n49 : Int) ∧ LI .i64 σ b50 o50 fun Yw => Spec prog 134 #[.pointer q45, (.string (ByteArray.mk #[115])), .int .i64 Yw] σ (AB R (CT fun s52 y => Kp [iU, b0] σ y ∧ Spec prog 138 #[.pointer q44, .string s52] y (AB R (CI .i64 fun PJ AI => Spec prog 132 #[.int .i64 PJ] AI (AB R (fun z AV => z = (.tuple #[]) ∧ LQ AV b0 0 fun q55 => LQ AV b0 0 fun q56 => Pq q56 fun Vm Vn => LS AV Vm (Vn + 3) fun p59 n59 c59 => ((0 : Int) ≤ 1 ∧ 1 ≤ (n59 : Int)) ∧ Pq q55 fun b61 o61 => AJ prog (Instr.storeAt 26 (.pointer (aD b61 (o61 + 3))) (.slice (GP p59 (1) c59 1) (n59 - 1) (c59 - 1))) AV (fun _ Ay => LJ R b0 Ay)))))))) (LQ σ b0 0 fun q63 => Pq q63 fun b64 o64 => LI .i64 σ b64 (o64 + 4) fun x66 => AO (x66 + 1) ∧ AJ prog (Instr.storeAt 3 (.pointer (aD b64 (o64 + 4))) (.int .i64 (x66 + 1))) σ (fun _ y => LQ y b0 0 fun q70 => Pq q70 fun b71 o71 => AJ prog (Instr.storeAt 3 (.pointer (aD b71 (o71 + 5))) (.int .i64 0)) y (fun _ AI => R (.returned (.tuple #[])) AI)))) : LJ R b0 σ := M.of h ok rfl
end Ck
namespace Ms
variable {p0 : Option Addr} {n0 c0 : Nat} {s1 : ByteArray}
def M : Fw := ⟨prog, 142, f142, [143], [], false, [], [], []⟩
theorem ok : M.Ok := ⟨.cons call143 (AM.nil), mixed, func142, by kernel_rfl⟩
theorem start (h : Df (IntKind.u64.wrap ((ByteArray.size s1 : Nat) : Int)) fun x8 => Spec prog 143 #[.slice p0 n0 c0, .int .u64 x8] σ (AB R (CS fun p9 n9 c9 y => AJ prog (Builtin.append_ #[84, 9] 84 #[.slice p9 n9 c9, .string s1]) y (CS fun cQ n11 iT AI => R (.returned (.slice cQ n11 iT)) AI)))) : Spec prog 142 #[.slice p0 n0 c0, .string s1] σ R := M.start h ok
end Ms
namespace FH
variable {p0 p5 : Option Addr} {n0 c0 n5 c5 : Nat} {x1 : Int}
def M : Fw := ⟨prog, 143, f143, [], [], false, [], [], [(224, [(1, wU), (5, wL)])]⟩
theorem ok : M.Ok := ⟨AM.nil, mixed, func143, by kernel_rfl⟩
def La := M.pt 0
theorem start (h : Al σ fun b6 => AJ prog (Builtin.append_ #[84, 84] 84 #[(.slice (aD b6 0) 0 0), .slice p0 n0 c0]) (Hp.set σ b6 (.cells #[] 5 (0, 0))) (CS fun p8 n8 c8 y => La R x1 p8 n8 c8 y)) : Spec prog 143 #[.slice p0 n0 c0, .int .u64 x1] σ R := M.start h ok
theorem DF (h : Br (128 ≤ x1) (Df (Go.bits .and .u64 x1 127) fun FU => Df (Go.bits .or .u64 FU 128) fun E7 => Df (IntKind.u8.wrap E7) fun Nv => Al σ fun Ko => AJ prog (Builtin.append_ #[84, 84] 84 #[.slice p5 n5 c5, (.slice (aD Ko 0) 1 1)]) (Hp.set σ Ko (.cells #[.int .u8 Nv] 5 (0, 0))) (CS fun qc n17 qe y => ((0 : Int) ≤ 7 ∧ 7 ≤ ((IntKind.bits .u64 : Nat) : Int)) ∧ Df (x1 / 2 ^ Int.toNat 7) fun MS => La R MS qc n17 qe y)) (Df (IntKind.u8.wrap x1) fun PI => Al σ fun Yv => AJ prog (Builtin.append_ #[84, 84] 84 #[.slice p5 n5 c5, (.slice (aD Yv 0) 1 1)]) (Hp.set σ Yv (.cells #[.int .u8 PI] 5 (0, 0))) (CS fun ca n24 c24 y => R (.returned (.slice ca n24 c24)) y))) : La R x1 p5 n5 c5 σ := M.of h ok rfl
end FH
namespace HJ
variable {q0 p5 : Option Addr} {s1 : ByteArray} {n5 c5 : Nat} {x6 : Int}
def M : Fw := ⟨prog, 149, f149, [], [], false, [], [], [(464, [(0, wQ), (1, wT), (5, wL), (6, wI)]), (467, [(0, wQ), (1, wT), (5, wL), (6, wI)])]⟩
theorem ok : M.Ok := ⟨AM.nil, mixed, func149, by kernel_rfl⟩
def CF := M.pt 0
def Gn := M.pt 1
theorem start (h : CF R q0 s1 none 0 0 0 σ) : Spec prog 149 #[.pointer q0, .string s1] σ R := M.start h ok
theorem BX (h : Pq q0 fun EL Ld => LS σ EL Ld fun J6 n12 c12 => Br (x6 < (n12 : Int)) (LS σ EL Ld fun uJ n20 c20 => Pq uJ fun Nr Ww => In x6 (n20 : Int) ∧ LT σ Nr (Ww + Int.toNat x6 * 3) fun s24 => LB σ EL (Ld + 1) fun t28 => Bn t28 (Br ((((ByteArray.size s1 : Nat) : Int) : Int) ≤ ((ByteArray.size s24 : Nat) : Int)) (∃ s41, YF prog (Instr.sliceAt 9 (.string s24) none (some (.int .i64 ((ByteArray.size s1 : Nat) : Int))) none) σ (.string s41) ∧ Bo (ByteArray.toList s41 == ByteArray.toList s1) (Al σ fun cX => AJ prog (Builtin.append_ #[97, 97] 97 #[.slice p5 n5 c5, (.slice (aD cX 0) 1 1)]) (Hp.set σ cX (.cells #[.string s24] 9 (0, 0))) (CS fun p48 n48 c48 y => Gn R (aD EL Ld) s1 p48 n48 c48 x6 y)) (Gn R (aD EL Ld) s1 p5 n5 c5 x6 σ)) (Gn R (aD EL Ld) s1 p5 n5 c5 x6 σ)) (Gn R (aD EL Ld) s1 p5 n5 c5 x6 σ)) (R (.returned (.slice p5 n5 c5)) σ)) : CF R q0 s1 p5 n5 c5 x6 σ := M.of h ok rfl
end HJ
namespace Fu
variable {s0 : ByteArray} {x3 : Int}
def M : Fw := ⟨prog, 171, f171, [], [], false, [], [], [(464, [(0, wT), (3, wI)])]⟩
theorem ok : M.Ok := ⟨AM.nil, mixed, func171, by kernel_rfl⟩
def Ap := M.pt 0
theorem start (h : Bo ((ByteArray.toList s0 == ByteArray.toList (ByteArray.mk #[]))) (R (.returned (.bool false)) σ) (Br ((64 : Int) < ((ByteArray.size s0 : Nat) : Int)) (R (.returned (.bool false)) σ) (Ap R s0 0 σ))) : Spec prog 171 #[.string s0] σ R := M.start h ok
theorem BI (h : Br (x3 < ((ByteArray.size s0 : Nat) : Int)) (∃ MH : UInt8, 0 ≤ x3 ∧ (ByteArray.data s0)[Int.toNat x3]? = some MH ∧ Br ((((UInt8.toNat MH : Nat) : Int) : Int) < 97) (Br ((((UInt8.toNat MH : Nat) : Int) : Int) < 48) (Br ((((UInt8.toNat MH : Nat) : Int) : Int) ≠ 47) (Br ((((UInt8.toNat MH : Nat) : Int) : Int) ≠ 46) (Br ((((UInt8.toNat MH : Nat) : Int) : Int) ≠ 45) (R (.returned (.bool false)) σ) (AO (x3 + 1) ∧ Ap R s0 (x3 + 1) σ)) (AO (x3 + 1) ∧ Ap R s0 (x3 + 1) σ)) (AO (x3 + 1) ∧ Ap R s0 (x3 + 1) σ)) (Br ((57 : Int) < ((UInt8.toNat MH : Nat) : Int)) (Br ((((UInt8.toNat MH : Nat) : Int) : Int) ≠ 47) (Br ((((UInt8.toNat MH : Nat) : Int) : Int) ≠ 46) (Br ((((UInt8.toNat MH : Nat) : Int) : Int) ≠ 45) (R (.returned (.bool false)) σ) (AO (x3 + 1) ∧ Ap R s0 (x3 + 1) σ)) (AO (x3 + 1) ∧ Ap R s0 (x3 + 1) σ)) (AO (x3 + 1) ∧ Ap R s0 (x3 + 1) σ)) (AO (x3 + 1) ∧ Ap R s0 (x3 + 1) σ))) (Br ((122 : Int) < ((UInt8.toNat MH : Nat) : Int)) (Br ((((UInt8.toNat MH : Nat) : Int) : Int) < 48) (Br ((((UInt8.toNat MH : Nat) : Int) : Int) ≠ 47) (Br ((((UInt8.toNat MH : Nat) : Int) : Int) ≠ 46) (Br ((((UInt8.toNat MH : Nat) : Int) : Int) ≠ 45) (R (.returned (.bool false)) σ) (AO (x3 + 1) ∧ Ap R s0 (x3 + 1) σ)) (AO (x3 + 1) ∧ Ap R s0 (x3 + 1) σ)) (AO (x3 + 1) ∧ Ap R s0 (x3 + 1) σ)) (Br ((57 : Int) < ((UInt8.toNat MH : Nat) : Int)) (Br ((((UInt8.toNat MH : Nat) : Int) : Int) ≠ 47) (Br ((((UInt8.toNat MH : Nat) : Int) : Int) ≠ 46) (Br ((((UInt8.toNat MH : Nat) : Int) : Int) ≠ 45) (R (.returned (.bool false)) σ) (AO (x3 + 1) ∧ Ap R s0 (x3 + 1) σ)) (AO (x3 + 1) ∧ Ap R s0 (x3 + 1) σ)) (AO (x3 + 1) ∧ Ap R s0 (x3 + 1) σ)) (AO (x3 + 1) ∧ Ap R s0 (x3 + 1) σ))) (AO (x3 + 1) ∧ Ap R s0 (x3 + 1) σ))) (R (.returned (.bool true)) σ)) : Ap R s0 x3 σ := M.of h ok rfl
end Fu
namespace Od
variable {E6 x1 : Int} {HX : Option Addr} {Gd HY : Nat}
def M : Fw := ⟨prog, 187, f187, [260], [2], false, [], [], []⟩
theorem ok : M.Ok := ⟨.cons call260 (AM.nil), mixed, func187, by kernel_rfl⟩
theorem start (h : ∀ b2 : Nat, Al σ fun b3 => Spec prog 260 #[.slice HX Gd HY, (.func (.func 261) #[] #[(.pointer (aD b3 0))])] (Hp.set σ b3 (.cells #[.int .i64 x1] 3 (0, 0))) (AB R (CI .i64 fun x8 y => R (.returned (.int .i64 x8)) y))) : Spec prog 187 #[.agg #[.int .u64 E6, .slice HX Gd HY], .int .i64 x1] σ R := M.start h ok
end Od
namespace Tc
variable {t0 : Bool} {Vo s2 : ByteArray} {R3 x3 x4 x5 : Int}
def M : Fw := ⟨prog, 200, f200, [], [7], false, [], [], []⟩
theorem ok : M.Ok := ⟨AM.nil, mixed, func200, by kernel_rfl⟩
theorem start (h : ∀ b7 : Nat, AO (x3 - R3) ∧ Bn t0 (R (.returned (.int .i64 2)) σ) (Bn (ByteArray.toList Vo == ByteArray.toList s2) (Br (x5 ≤ (x3 - R3)) (R (.returned (.int .i64 2)) σ) (Bn (ByteArray.toList Vo == ByteArray.toList s2) (R (.returned (.int .i64 3)) σ) (Br (x4 ≤ (x3 - R3)) (R (.returned (.int .i64 1)) σ) (R (.returned (.int .i64 0)) σ)))) (Bn (ByteArray.toList Vo == ByteArray.toList s2) (R (.returned (.int .i64 3)) σ) (Br (x4 ≤ (x3 - R3)) (R (.returned (.int .i64 1)) σ) (R (.returned (.int .i64 0)) σ))))) : Spec prog 200 #[.bool t0, .agg #[.string Vo, .int .i64 R3], .string s2, .int .i64 x3, .int .i64 x4, .int .i64 x5] σ R := M.start h ok
end Tc
namespace DQ
variable {x0 x2 : Int}
def M : Fw := ⟨prog, 211, f211, [], [], false, [], [], [(28, [(0, wU), (2, wI)]), (60, [(0, wU), (2, wI)]), (62, [(0, wU), (2, wI)])]⟩
theorem ok : M.Ok := ⟨AM.nil, mixed, func211, by kernel_rfl⟩
def HC := M.pt 0
def JL := M.pt 1
def yX := M.pt 2
theorem start (h : Br (4294967296 ≤ x0) (((0 : Int) ≤ 32 ∧ 32 ≤ ((IntKind.bits .u64 : Nat) : Int)) ∧ Df (x0 / 2 ^ Int.toNat 32) fun x6 => HC R x6 32 σ) (HC R x0 0 σ)) : Spec prog 211 #[.int .u64 x0] σ R := M.start h ok
theorem F5 (h : Br (65536 ≤ x0) (((0 : Int) ≤ 16 ∧ 16 ≤ ((IntKind.bits .u64 : Nat) : Int)) ∧ Df (x0 / 2 ^ Int.toNat 16) fun Di => AO (x2 + 16) ∧ JL R Di (x2 + 16) σ) (JL R x0 x2 σ)) : HC R x0 x2 σ := M.of h ok rfl
theorem Gm (h : Br (256 ≤ x0) (((0 : Int) ≤ 8 ∧ 8 ≤ ((IntKind.bits .u64 : Nat) : Int)) ∧ Df (x0 / 2 ^ Int.toNat 8) fun FF => AO (x2 + 8) ∧ yX R FF (x2 + 8) σ) (yX R x0 x2 σ)) : JL R x0 x2 σ := M.of h ok rfl
theorem rP (h : Df (IntKind.u8.wrap x0) fun Hj => ∃ u22 : UInt8, 0 ≤ Hj ∧ (ByteArray.data (ByteArray.mk #[0, 1, 2, 2, 3, 3, 3, 3, 4, 4, 4, 4, 4, 4, 4, 4, 5, 5, 5, 5, 5, 5, 5, 5, 5, 5, 5, 5, 5, 5, 5, 5, 6, 6, 6, 6, 6, 6, 6, 6, 6, 6, 6, 6, 6, 6, 6, 6, 6, 6, 6, 6, 6, 6, 6, 6, 6, 6, 6, 6, 6, 6, 6, 6, 7, 7, 7, 7, 7, 7, 7, 7, 7, 7, 7, 7, 7, 7, 7, 7, 7, 7, 7, 7, 7, 7, 7, 7, 7, 7, 7, 7, 7, 7, 7, 7, 7, 7, 7, 7, 7, 7, 7, 7, 7, 7, 7, 7, 7, 7, 7, 7, 7, 7, 7, 7, 7, 7, 7, 7, 7, 7, 7, 7, 7, 7, 7, 7, 8, 8, 8, 8, 8, 8, 8, 8, 8, 8, 8, 8, 8, 8, 8, 8, 8, 8, 8, 8, 8, 8, 8, 8, 8, 8, 8, 8, 8, 8, 8, 8, 8, 8, 8, 8, 8, 8, 8, 8, 8, 8, 8, 8, 8, 8, 8, 8, 8, 8, 8, 8, 8, 8, 8, 8, 8, 8, 8, 8, 8, 8, 8, 8, 8, 8, 8, 8, 8, 8, 8, 8, 8, 8, 8, 8, 8, 8, 8, 8, 8, 8, 8, 8, 8, 8, 8, 8, 8, 8, 8, 8, 8, 8, 8, 8, 8, 8, 8, 8, 8, 8, 8, 8, 8, 8, 8, 8, 8, 8, 8, 8, 8, 8, 8, 8, 8, 8, 8, 8, 8, 8, 8, 8, 8, 8, 8, 8]))[Int.toNat Hj]? = some u22 ∧ Df (IntKind.i64.wrap ((UInt8.toNat u22 : Nat) : Int)) fun Po => AO (x2 + Po) ∧ R (.returned (.int .i64 (x2 + Po))) σ) : yX R x0 x2 σ := M.of h ok rfl
end DQ
namespace Ir
variable {b0 b1 : Nat}
def M : Fw := ⟨prog, 224, f224, [], [], false, [], [], []⟩
theorem ok : M.Ok := ⟨AM.nil, mixed, func224, by kernel_rfl⟩
theorem start (h : LQ σ b0 0 fun q3 => Pq q3 fun b4 o4 => LM σ b4 o4 fun m6 => LT σ b1 0 fun s7 => AJ prog (Instr.lookup 186 (.map m6) (.string s7) false) σ (CQ fun q8 y => Pq q8 fun EH Gk => LS y EH Gk fun OS n13 PL => AJ prog (Instr.storeAt 3 (.pointer (aD EH (Gk + 1))) (.int .i64 (n13 : Int))) y (fun _ AI => R (.returned (.tuple #[])) AI))) : Spec prog 224 #[(.pointer (aD b0 0)), (.pointer (aD b1 0))] σ R := M.start h ok
end Ir
namespace HK
variable {b0 b1 : Nat}
def M : Fw := ⟨prog, 233, f233, [], [], false, [(0, 5, true)], [], []⟩
theorem ok : M.Ok := ⟨AM.nil, mixed, func233, by kernel_rfl⟩
theorem start (h : LQ σ b0 0 fun q2 => Pq q2 fun b3 o3 => LM σ b3 o3 fun m5 => LT σ b1 0 fun s6 => AJ prog (Builtin.delete_ #[186, 9] 0 #[.map m5, .string s6]) σ (fun _ y => R (.returned (.tuple #[])) y)) : Spec prog 233 #[(.pointer (aD b0 0)), (.pointer (aD b1 0))] σ R := M.start h ok
end HK
namespace ET
variable {p0 : Option Addr} {n0 c0 : Nat} {x3 x4 x5 : Int}
def M : Fw := ⟨prog, 235, f235, [], [], false, [], [], [(464, [(0, wL), (3, cJ), (4, wI)]), (59696, [(0, wL), (3, cJ), (4, wI), (5, wI)]), (59699, [(0, wL), (3, cJ), (4, wI), (5, wI)])]⟩
theorem ok : M.Ok := ⟨AM.nil, mixed, func235, by kernel_rfl⟩
def CF := M.pt 0
def MD := M.pt 1
def rQ := M.pt 2
theorem start (h : CF R p0 n0 c0 4294967295 0 σ) : Spec prog 235 #[.slice p0 n0 c0] σ R := M.start h ok
theorem BX (h : Br (x4 < (n0 : Int)) (Pq p0 fun Ko Us => In x4 (n0 : Int) ∧ LI .u8 σ Ko (Us + Int.toNat x4 * 1) fun D8 => Df (IntKind.u32.wrap D8) fun FT => Df (Go.bits .xor .u32 x3 FT) fun MS => MD R (aD Ko Us) n0 c0 MS x4 0 σ) (Df (Go.bits .xor .u32 x3 4294967295) fun uI => R (.returned (.int .u32 uI)) σ)) : CF R p0 n0 c0 x3 x4 σ := M.of h ok rfl
theorem Hl (h : Br (x5 < 8) (Df (Go.bits .and .u32 x3 1) fun NQ => ((0 : Int) ≤ 1 ∧ 1 ≤ ((IntKind.bits .u32 : Nat) : Int)) ∧ Df (x3 / 2 ^ Int.toNat 1) fun G9 => Br (NQ = 1) (Df (Go.bits .xor .u32 G9 3988292384) fun Hm => rQ R p0 n0 c0 Hm x4 x5 σ) (rQ R p0 n0 c0 G9 x4 x5 σ)) (AO (x4 + 1) ∧ CF R p0 n0 c0 x3 (x4 + 1) σ)) : MD R p0 n0 c0 x3 x4 x5 σ := M.of h ok rfl
theorem rR (h : AO (x5 + 1) ∧ MD R p0 n0 c0 x3 x4 (x5 + 1) σ) : rQ R p0 n0 c0 x3 x4 x5 σ := M.of h ok rfl
end ET
namespace KR
variable {q0 : Option Addr}
def M : Fw := ⟨prog, 238, f238, [], [], false, [], [], []⟩
theorem ok : M.Ok := ⟨AM.nil, mixed, func238, by kernel_rfl⟩
theorem start (h : Pq q0 fun b4 o4 => LI .u64 σ b4 (o4 + 5) fun x6 => Df (IntKind.u64.wrap (x6 + 1)) fun x7 => AJ prog (Instr.storeAt 23 (.pointer (aD b4 (o4 + 5))) (.int .u64 x7)) σ (fun _ y => LB y b4 (o4 + 2) fun t13 => Bn t13 (R (.returned (.bool false)) y) (LI .i64 y b4 (o4 + 3) fun FT => Br (0 < FT) (LI .i64 y b4 (o4 + 3) fun Po => AO (Po - 1) ∧ AJ prog (Instr.storeAt 3 (.pointer (aD b4 (o4 + 3))) (.int .i64 (Po - 1))) y (fun _ AI => R (.returned (.bool false)) AI)) (R (.returned (.bool true)) y)))) : Spec prog 238 #[.pointer q0] σ R := M.start h ok
end KR
namespace strings_CutPrefix
variable {s0 s1 : ByteArray}
def M : Fw := ⟨prog, 300, f300, [317], [], false, [], [], []⟩
theorem ok : M.Ok := ⟨.cons call317 (AM.nil), mixed, func300, by kernel_rfl⟩
theorem start (h : Spec prog 317 #[.string s0, .string s1] σ (AB R (fun z y => ∃ s8a t8b, z = (.tuple #[.string s8a, .bool t8b]) ∧ R (.returned (.tuple #[.string s8a, .bool t8b])) y))) : Spec prog 300 #[.string s0, .string s1] σ R := M.start h ok
end strings_CutPrefix
namespace Lr
variable {p0 : Option Addr} {n0 c0 : Nat} {x1 : Int}
def M : Fw := ⟨prog, 320, f320, [342], [], false, [(5, 8, true)], [], []⟩
theorem ok : M.Ok := ⟨.cons call342 (AM.nil), mixed, func320, by kernel_rfl⟩
theorem start (h : Al σ fun H7 => Spec prog 342 #[(.func (.func 343) #[(.pointer (aD H7 0))] #[]), (.func (.func 344) #[(.pointer (aD H7 0))] #[])] (Hp.set σ H7 (.cells #[.slice p0 n0 c0, .int .i64 x1] 381 (0, 0))) (AB R (fun z y => ∃ kF kG kI PG, z = (.tuple #[.slice kF kG kI, .int .i64 PG]) ∧ Br (PG ≠ 0) (R (.returned (.tuple #[.slice none 0 0, .int .i64 0, .int .i64 PG])) y) (LI .i64 y H7 1 fun MG => R (.returned (.tuple #[.slice kF kG kI, .int .i64 MG, .int .i64 0])) y)))) : Spec prog 320 #[.slice p0 n0 c0, .int .i64 x1] σ R := M.start h ok
end Lr
end TwW
end
end
section
namespace TwW
open Go Tw Go.Proofs.Tryz
instance : pF prog 186 9 298 := ⟨underlying186, underlying9⟩
theorem yY : ∀ w, (zeroValue 298).run prog w = .ok (.pointer none) w := fun w => by
 have h : prog.info? 298 = some t298 := by kernel_rfl
 have hz : t298.zero = some (.pointer none) := by kernel_rfl
 simp [zeroValue, typeInfo, h, hz, Result.andThen]
def fW (u : UInt8) : Bool := (97 ≤ u.toNat && u.toNat ≤ 122) || (48 ≤ u.toNat && u.toNat ≤ 57) || u.toNat == 47 || u.toNat == 46 || u.toNat == 45
def Ae (s : ByteArray) : Bool := decide (0 < s.size) && decide (s.size ≤ 64) && s.data.toList.all fW
structure Fl where
 data : List Int
 GY : Nat
structure Dk where
 files : ByteArray → Option Fl
 up : Bool
 armed : Bool
 cnt : Nat
structure Row where
 name : ByteArray
 f : Nat
 born : Nat
 T : TypeId
 p : Option Addr
 c : Nat
 fl : Fl
abbrev Row.n (r : Row) : Nat := r.fl.data.length
def Row.CY (r : Row) : MapEntry := Tw.CY r.name (.pointer (some ⟨r.f, 0, none⟩)) r.born
def Row.blocks (r : Row) : List Nat := r.f :: DJ r.p
structure Mt (σ : Hp) (r : Row) : Prop where
 obj : σ r.f = some (.cells #[.slice r.p r.n r.c, .int .i64 r.fl.GY] r.T (0, 0))
 own : AS .u8 σ r.p r.n r.c r.fl.data
 GY : r.fl.GY ≤ r.n
 small : r.n ≤ 4194304
 nm : Ae r.name = true
def Row.look (rows : List Row) (s : ByteArray) : Option Fl := (rows.find? fun r => decide (r.name = s)).map (·.fl)
def Ek (d m : Nat) (rows : List Row) : List Nat := d :: m :: rows.flatMap Row.blocks
structure Aq (σ : Hp) (d : Nat) (D : Dk) (S : List Nat) (m clock : Nat) (rows : List Row) (T : TypeId) (left keep writes : Int) : Prop where
 Ek : S = Ek d m rows
 ne : m ≠ d
 sep : rows.Pairwise fun r s => ∀ b ∈ r.blocks, b ∉ s.blocks
 out : ∀ r ∈ rows, r.f ∉ DJ r.p ∧ d ∉ r.blocks ∧ m ∉ r.blocks
 obj : σ d = some (.cells #[.map (some m), .bool D.up, .bool D.armed, .int .i64 left, .int .i64 keep, .int .u64 writes] T (0, 0))
 map : Av σ m (rows.map Row.CY) clock
 row : ∀ r ∈ rows, Mt σ r
 files : D.files = Row.look rows
 cnt : rows.length ≤ D.cnt
def A3 (σ : Hp) (d : Nat) (D : Dk) (S : List Nat) : Prop := ∃ m clock rows T left keep writes, Aq σ d D S m clock rows T left keep writes
theorem Own.loc {s : Nat} {σ σ' : Hp} {p : Option Addr} {n c : Nat} {cs : List Value} (h : Own s σ p n c cs) (hs : ∀ b ∈ DJ p, σ' b = σ b) : Own s σ' p n c cs := by
 refine ⟨h.1, h.2.1, h.2.2.imp id ?_⟩
 rintro ⟨b, o, arr, T, rfl, hb, r⟩
 exact ⟨b, o, arr, T, rfl, (hs b (by simp [DJ])).trans hb, r⟩
theorem Mt.loc {σ σ' : Hp} {r : Row} (h : Mt σ r) (hs : ∀ b ∈ r.blocks, σ' b = σ b) : Mt σ' r :=
 ⟨(hs _ (by simp [Row.blocks])).trans h.obj, Own.loc h.own fun b hb => hs b (by simp [Row.blocks, hb]), h.GY, h.small, h.nm⟩
theorem Mt.known {σ : Hp} {r : Row} (h : Mt σ r) : ∀ b ∈ r.blocks, σ b ≠ none := by
 intro b hb
 rcases List.mem_cons.1 hb with rfl | hb
 · rw [h.obj]; simp
 · cases hp : r.p with
   | none => rw [hp] at hb; cases hb
   | some a => rw [hp] at hb; simp [DJ] at hb; subst hb; exact h.own.block a hp
theorem GI {d m b : Nat} {rows : List Row} : b ∈ Ek d m rows ↔ b = d ∨ b = m ∨ ∃ r ∈ rows, b ∈ r.blocks := by simp [Ek]
section
variable {σ σ' : Hp} {d : Nat} {D : Dk} {S : List Nat} {m clock : Nat} {rows : List Row} {T : TypeId} {left keep writes : Int}
theorem Aq.loc (h : Aq σ d D S m clock rows T left keep writes) (hs : ∀ b ∈ S, σ' b = σ b) : Aq σ' d D S m clock rows T left keep writes := by
 have hS := h.Ek
 subst hS
 refine ⟨rfl, h.ne, h.sep, h.out, (hs d (by simp [TwW.Ek])).trans h.obj, h.map.loc (hs m (by simp [TwW.Ek])), fun r hr => (h.row r hr).loc fun b hb => hs b (GI.2 (.inr (.inr ⟨r, hr, hb⟩))), h.files, h.cnt⟩
theorem Aq.known (h : Aq σ d D S m clock rows T left keep writes) : ∀ b ∈ S, σ b ≠ none := by
 have hS := h.Ek
 subst hS
 intro b hb
 rcases GI.1 hb with rfl | rfl | ⟨r, hr, hb⟩
 · rw [h.obj]; simp
 · rw [h.map.1]; simp
 · exact (h.row r hr).known b hb
theorem Aq.mono (h : Aq σ d D S m clock rows T left keep writes) (hx : Ext σ σ') : Aq σ' d D S m clock rows T left keep writes := h.loc fun b hb => by
 cases hs : σ b with
 | none => exact absurd hs (h.known b hb)
 | some o => exact hx b o hs
theorem A3.mono (h : A3 σ d D S) (hx : Ext σ σ') : A3 σ' d D S := by
 obtain ⟨m, c, r, T, a, b, e, h⟩ := h; exact ⟨m, c, r, T, a, b, e, h.mono hx⟩
theorem A3.known (h : A3 σ d D S) : ∀ b ∈ S, σ b ≠ none := by obtain ⟨m, c, r, T, a, b, e, h⟩ := h; exact h.known
theorem A3.loc (h : A3 σ d D S) (hs : ∀ b ∈ S, σ' b = σ b) : A3 σ' d D S := by
 obtain ⟨m, c, r, T, a, b, e, h⟩ := h; exact ⟨m, c, r, T, a, b, e, h.loc hs⟩
theorem Aq.Qp (h : Aq σ d D S m clock rows T left keep writes) : d ∈ S := by rw [h.Ek]; simp [TwW.Ek]
theorem Aq.Mu (h : Aq σ d D S m clock rows T left keep writes) : m ∈ S := by rw [h.Ek]; simp [TwW.Ek]
theorem Aq.Oe (h : Aq σ d D S m clock rows T left keep writes) {r : Row} (hr : r ∈ rows) {b : Nat} (hb : b ∈ r.blocks) : b ∈ S := by rw [h.Ek]; exact GI.2 (.inr (.inr ⟨r, hr, hb⟩))
theorem Aq.put (h : Aq σ d D S m clock rows T left keep writes) {up armed : Bool} {left' XL writes' : Int} {cnt : Nat} (hc : rows.length ≤ cnt) :
   Aq (σ.set d (.cells #[.map (some m), .bool up, .bool armed, .int .i64 left', .int .i64 XL, .int .u64 writes'] T (0, 0))) d ⟨D.files, up, armed, cnt⟩ S m clock rows T left' XL writes' := by
 have hS := h.Ek
 subst hS
 refine ⟨rfl, h.ne, h.sep, h.out, Hp.AA _ _ _, h.map.loc (Hp.AF h.ne), fun r hr => (h.row r hr).loc fun b hb => Hp.AF fun e => (h.out r hr).2.1 (e ▸ hb), h.files, hc⟩
theorem Row.Fv {s : ByteArray} (h : ∀ r ∈ rows, r.name ≠ s) : Row.look rows s = none := by
 unfold Row.look
 rw [List.find?_eq_none.2 (by simpa using h)]; rfl
theorem Row.dG {r : Row} {r1 r2 : List Row} (hn : ((r1 ++ r :: r2).map (·.name)).Nodup) : Row.look (r1 ++ r :: r2) r.name = some r.fl := by
 unfold Row.look
 have : ∀ x ∈ r1, ¬ (decide (x.name = r.name)) = true := fun x hx => by
   simp only [List.map_append, List.map_cons] at hn
   have := (List.nodup_append.1 hn).2.2 x.name (List.mem_map.2 ⟨x, hx, rfl⟩) r.name (by simp)
   simpa using this
 rw [List.find?_append, List.find?_eq_none.2 this]
 simp
theorem Aq.names (h : Aq σ d D S m clock rows T left keep writes) : (rows.map (·.name)).Nodup := by
 have := h.map.nodup
 rw [List.map_map] at this
 have e : (rows.map ((fun e : MapEntry => e.key) ∘ Row.CY)) = (rows.map (·.name)).map Value.string := by rw [List.map_map]; rfl
 rw [e] at this
 rw [List.Nodup, List.pairwise_map] at this
 exact this.imp fun Ad e => Ad (by rw [e])
def BG (fs : ByteArray → Option Fl) (s : ByteArray) (x : Option Fl) : ByteArray → Option Fl := fun n => if n = s then x else fs n
theorem Row.N2 {r : Row} {s : ByteArray} : Row.look (r :: rows) s = if r.name = s then some r.fl else Row.look rows s := by
 unfold Row.look
 rw [List.find?_cons]
 by_cases h : r.name = s <;> simp [h]
theorem Row.KS {r1 r2 : List Row} {s : ByteArray} : Row.look (r1 ++ r2) s = (Row.look r1 s).or (Row.look r2 s) := by
 unfold Row.look
 rw [List.find?_append]
 cases List.find? (fun r => decide (r.name = s)) r1 <;> simp
theorem Hq {r : Row} {r1 r2 : List Row} (hn : ((r1 ++ r :: r2).map (·.name)).Nodup) : (∀ x ∈ r1, x.name ≠ r.name) ∧ ∀ x ∈ r2, x.name ≠ r.name := by
 simp only [List.map_append, List.map_cons] at hn
 have h := List.nodup_append.1 hn
 have h2 := List.nodup_cons.1 h.2.1
 exact ⟨fun x hx => h.2.2 x.name (List.mem_map.2 ⟨x, hx, rfl⟩) r.name (by simp), fun x hx e => h2.1 (e ▸ List.mem_map.2 ⟨x, hx, rfl⟩)⟩
theorem Row.Og {r r' : Row} {r1 r2 : List Row} (hn : ((r1 ++ r :: r2).map (·.name)).Nodup) (h : r'.name = r.name) : Row.look (r1 ++ r' :: r2) = BG (Row.look (r1 ++ r :: r2)) r.name (some r'.fl) := by
 funext s
 have h1 := (Hq hn).1
 simp only [Row.KS, Row.N2, BG, h]
 by_cases hs : s = r.name
 · subst hs
   simp [Row.Fv h1]
 · simp [hs, Ne.symm hs]
theorem Row.Td {r : Row} (h : ∀ x ∈ rows, x.name ≠ r.name) : Row.look (rows ++ [r]) = BG (Row.look rows) r.name (some r.fl) := by
 funext s
 simp only [Row.KS, Row.N2, BG]
 by_cases hs : s = r.name
 · subst hs
   simp [Row.Fv h]
 · simp [hs, Ne.symm hs, Row.look]
theorem Row.XM {r : Row} {r1 r2 : List Row} (hn : ((r1 ++ r :: r2).map (·.name)).Nodup) : Row.look (r1 ++ r2) = BG (Row.look (r1 ++ r :: r2)) r.name none := by
 funext s
 have h1 := Hq hn
 simp only [Row.KS, Row.N2, BG]
 by_cases hs : s = r.name
 · subst hs
   simp [Row.Fv h1.1, Row.Fv h1.2]
 · simp [hs, Ne.symm hs]
theorem Aq.change {r r' : Row} {r1 r2 : List Row} (h : Aq σ d D S m clock (r1 ++ r :: r2) T left keep writes) (FI : r'.name = r.name) (hf : r'.f = r.f) (hb : r'.born = r.born) (hr : Mt σ' r') (Ad : r'.f ∉ DJ r'.p)
   (hx : Ext (σ.off r.blocks) (σ'.off r'.blocks)) :
   Aq σ' d { D with files := BG D.files r.name (some r'.fl) } (TwW.Ek d m (r1 ++ r' :: r2)) m clock (r1 ++ r' :: r2) T left keep writes ∧ Ext (σ.off S) (σ'.off (TwW.Ek d m (r1 ++ r' :: r2))) := by
 have Fc := h.out
 have XN := h.sep
 have fX := h.row
 have C9 : r ∈ r1 ++ r :: r2 := by simp
 have keep : ∀ b, b ∉ r.blocks → σ b ≠ none → σ' b = σ b ∧ b ∉ r'.blocks := fun b h1 h2 => by
   cases hs : σ b with
   | none => exact absurd hs h2
   | some o =>
     have := Hp.AH.1 (hx b o (Hp.AH.2 ⟨h1, hs⟩))
     exact ⟨this.2, this.1⟩
 have hd := keep d (Fc r C9).2.1 (by rw [h.obj]; simp)
 have hm := keep m (Fc r C9).2.2 (by rw [h.map.1]; simp)
 rw [List.pairwise_append, List.pairwise_cons] at XN
 have o1 : ∀ x ∈ r1, ∀ b ∈ x.blocks, σ' b = σ b ∧ b ∉ r'.blocks := fun x hx b hb => keep b (XN.2.2 x hx r (by simp) b hb) ((fX x (by simp [hx])).known b hb)
 have o2 : ∀ x ∈ r2, ∀ b ∈ x.blocks, σ' b = σ b ∧ b ∉ r'.blocks := fun x hx b hb => keep b (fun Js => XN.2.1.1 x hx b Js hb) ((fX x (by simp [hx])).known b hb)
 refine ⟨⟨rfl, h.ne, ?_, ?_, hd.1.trans h.obj, ?_, ?_, ?_, ?_⟩, ?_⟩
 · rw [List.pairwise_append, List.pairwise_cons]
   refine ⟨XN.1, ⟨fun x hx b hb Js => (o2 x hx b Js).2 hb, XN.2.1.2⟩, fun x BH y hy b HV => ?_⟩
   rcases List.mem_cons.1 hy with rfl | hy
   · exact (o1 x BH b HV).2
   · exact XN.2.2 x BH y (by simp [hy]) b HV
 · intro x hx
   rcases List.mem_append.1 hx with hx | hx
   · exact Fc x (by simp [hx])
   · rcases List.mem_cons.1 hx with rfl | hx
     · exact ⟨Ad, hd.2, hm.2⟩
     · exact Fc x (by simp [hx])
 · have : (r1 ++ r' :: r2).map Row.CY = (r1 ++ r :: r2).map Row.CY := by simp [Row.CY, FI, hf, hb]
   rw [this]; exact h.map.loc hm.1
 · intro x hx
   rcases List.mem_append.1 hx with hx | hx
   · exact (fX x (by simp [hx])).loc fun b hb => (o1 x hx b hb).1
   · rcases List.mem_cons.1 hx with rfl | hx
     · exact hr
     · exact (fX x (by simp [hx])).loc fun b hb => (o2 x hx b hb).1
 · show BG D.files r.name _ = _
   rw [h.files, Row.Og h.names FI]
 · have := h.cnt; simpa using this
 · intro b o hb
   obtain ⟨Vp, uo⟩ := Hp.AH.1 hb
   rw [h.Ek, GI] at Vp
   have hk := keep b (fun Js => Vp (.inr (.inr ⟨r, C9, Js⟩))) (by rw [uo]; simp)
   refine Hp.AH.2 ⟨fun Js => ?_, hk.1.trans uo⟩
   rcases GI.1 Js with e | e | ⟨x, hx, Qq⟩
   · exact Vp (.inl e)
   · exact Vp (.inr (.inl e))
   · rcases List.mem_append.1 hx with hx | hx
     · exact Vp (.inr (.inr ⟨x, by simp [hx], Qq⟩))
     · rcases List.mem_cons.1 hx with rfl | hx
       · exact hk.2 Qq
       · exact Vp (.inr (.inr ⟨x, by simp [hx], Qq⟩))
theorem Aq.lK (h : Aq σ d D S m clock rows T left keep writes) {rows' : List Row} {clock' : Nat} {fs : ByteArray → Option Fl} {cnt : Nat} (hσ : ∀ b, b ≠ m → σ' b = σ b) (hm : Av σ' m (rows'.map Row.CY) clock')
   (fX : ∀ r ∈ rows', Mt σ r) (C9 : ∀ r ∈ rows', ∀ b ∈ r.blocks, b ∈ S ∧ b ≠ d ∧ b ≠ m) (AEa : ∀ r ∈ rows', r.f ∉ DJ r.p) (XN : rows'.Pairwise fun r s => ∀ b ∈ r.blocks, b ∉ s.blocks) (Jj : fs = Row.look rows') (hc : rows'.length ≤ cnt) :
   Aq σ' d ⟨fs, D.up, D.armed, cnt⟩ (TwW.Ek d m rows') m clock' rows' T left keep writes ∧ Ext (σ.off S) (σ'.off (TwW.Ek d m rows')) := by
 refine ⟨⟨rfl, h.ne, XN, fun r hr => ⟨AEa r hr, fun hd => (C9 r hr d hd).2.1 rfl, fun hm => (C9 r hr m hm).2.2 rfl⟩, (hσ d (Ne.symm h.ne)).trans h.obj, hm, fun r hr => (fX r hr).loc fun b hb => hσ b (C9 r hr b hb).2.2, Jj, hc⟩, fun b o hb => ?_⟩
 obtain ⟨Vp, uo⟩ := Hp.AH.1 hb
 refine Hp.AH.2 ⟨fun Js => ?_, (hσ b fun e => Vp (e ▸ h.Mu)).trans uo⟩
 rcases GI.1 Js with e | e | ⟨x, hx, Qq⟩
 · exact Vp (e ▸ h.Qp)
 · exact Vp (e ▸ h.Mu)
 · exact Vp (C9 x hx b Qq).1
theorem Aq.push (h : Aq σ d D S m clock rows T left keep writes) {r : Row} (Be : ∀ x ∈ rows, x.name ≠ r.name) (hb : σ r.f = none) (hp : r.p = none) (hσ : ∀ b, b ≠ m → b ≠ r.f → σ' b = σ b) (hr : Mt σ' r) {clock' : Nat} (hm : Av σ' m ((rows ++ [r]).map Row.CY) clock') :
   Aq σ' d ⟨BG D.files r.name (some r.fl), D.up, D.armed, D.cnt + 1⟩ (TwW.Ek d m (rows ++ [r])) m clock' (rows ++ [r]) T left keep writes ∧ Ext (σ.off S) (σ'.off (TwW.Ek d m (rows ++ [r]))) := by
 have fY : r.blocks = [r.f] := by simp [Row.blocks, hp, DJ]
 have hS : r.f ∉ S := fun hs => h.known _ hs hb
 have hk : ∀ x ∈ rows, ∀ b ∈ x.blocks, b ≠ r.f := fun x hx b Js e => hS (e ▸ h.Oe hx Js)
 refine ⟨⟨rfl, h.ne, ?_, ?_, (hσ d (Ne.symm h.ne) fun e => hS (e ▸ h.Qp)).trans h.obj, hm, ?_, ?_, ?_⟩, fun b o Js => ?_⟩
 · rw [List.pairwise_append]
   refine ⟨h.sep, by simp, fun x hx y hy b Js => ?_⟩
   simp only [List.mem_singleton] at hy
   subst hy
   rw [fY]; simpa using hk x hx b Js
 · intro x hx
   rcases List.mem_append.1 hx with hx | hx
   · exact h.out x hx
   · simp only [List.mem_singleton] at hx
     subst hx
     rw [fY, hp]
     exact ⟨by simp [DJ], fun e => hS (List.mem_singleton.1 e ▸ h.Qp), fun e => hS (List.mem_singleton.1 e ▸ h.Mu)⟩
 · intro x hx
   rcases List.mem_append.1 hx with hx | hx
   · exact (h.row x hx).loc fun b Js => hσ b (fun e => (h.out x hx).2.2 (e ▸ Js)) (hk x hx b Js)
   · simp only [List.mem_singleton] at hx
     subst hx; exact hr
 · show BG D.files r.name _ = _
   rw [h.files, Row.Td Be]
 · have := h.cnt; simpa using this
 · obtain ⟨Vp, uo⟩ := Hp.AH.1 Js
   have h1 : b ≠ r.f := fun e => by rw [e, hb] at uo; cases uo
   refine Hp.AH.2 ⟨fun HV => ?_, (hσ b (fun e => Vp (e ▸ h.Mu)) h1).trans uo⟩
   rcases GI.1 HV with e | e | ⟨x, hx, Qq⟩
   · exact Vp (e ▸ h.Qp)
   · exact Vp (e ▸ h.Mu)
   · rcases List.mem_append.1 hx with hx | hx
     · exact Vp (h.Oe hx Qq)
     · simp only [List.mem_singleton] at hx
       subst hx
       rw [fY] at Qq
       exact h1 (by simpa using Qq)
theorem El {l1 l2 : List MapEntry} {e : MapEntry} (h : rows.map Row.CY = l1 ++ e :: l2) : ∃ r1 r r2, rows = r1 ++ r :: r2 ∧ r1.map Row.CY = l1 ∧ r.CY = e ∧ r2.map Row.CY = l2 := by
 obtain ⟨r1, r', rfl, h1, h2⟩ := List.map_eq_append_iff.1 h
 obtain ⟨r, r2, rfl, h3, h4⟩ := List.map_eq_cons_iff.1 h2
 exact ⟨r1, r, r2, rfl, h1, h3, h4⟩
theorem Gs {r : Row} {s : ByteArray} : r.CY.key = .string s ↔ r.name = s := by simp [Row.CY]
theorem Is {s : ByteArray} (h : ∀ x ∈ rows.map Row.CY, x.key ≠ .string s) : ∀ r ∈ rows, r.name ≠ s := fun r hr e => h r.CY (List.mem_map.2 ⟨r, hr, rfl⟩) (Gs.2 e)
theorem A3.names (h : A3 σ d D S) : ∀ s, (D.files s).isSome = true → Ae s = true := fun s hs => by
 obtain ⟨m, c, rows, T, a, b, e, h⟩ := h
 rw [h.files, Row.look] at hs
 cases hf : rows.find? (fun r => decide (r.name = s)) with
 | none => rw [hf] at hs; cases hs
 | some r =>
   have h1 := (h.row r (List.mem_of_find?_eq_some hf)).nm
   have h2 := List.find?_some hf
   simp only [decide_eq_true_eq] at h2
   rw [← h2]; exact h1
theorem Aq.look (h : Aq σ d D S m clock rows T left keep writes) {s : ByteArray} {Φ : Value → Hp → Prop} (h0 : (∀ r ∈ rows, r.name ≠ s) → D.files s = none → Φ (.pointer none) σ)
   (h1 : ∀ r1 r r2, rows = r1 ++ r :: r2 → r.name = s → D.files s = some r.fl → Φ (.pointer (some ⟨r.f, 0, none⟩)) σ) : AJ prog (Instr.lookup 186 (.map (some m)) (.string s) false) σ Φ := by
 refine JG h.map yY (fun hn => h0 (Is hn) (by rw [h.files]; exact Row.Fv (Is hn))) fun l1 e l2 hl he => ?_
 obtain ⟨r1, r, r2, CR, _, rfl, _⟩ := El hl
 have hn := h.names
 rw [CR] at hn
 refine h1 r1 r r2 CR (Gs.1 he) ?_
 rw [h.files, CR, ← Gs.1 he, Row.dG hn]
end
end TwW
end
section
namespace TwW
open Go Tw Go.Proofs.Tryz
theorem AD {σ : Hp} {b o : Nat} {c : Array Value} {t : TypeId} {fr : Nat × Nat} {v : Value} (h : σ b = some (.cells c t fr)) (hv : c[o]? = some v) : σ.ld ⟨b, o, none⟩ = some v := by simp [Hp.ld, h, hv]
theorem U1 : ∀ w, (Go.sizeOf 84).run prog w = .ok 1 w := fun w => by
 have h : prog.info? 84 = some t84 := by kernel_rfl
 simp [Go.sizeOf, typeInfo, h, show t84.size = 1 from rfl]
theorem Jk : ∀ w, (Go.sizeOf 4).run prog w = .ok 1 w := fun w => by
 have h : prog.info? 4 = some t4 := by kernel_rfl
 simp [Go.sizeOf, typeInfo, h, show t4.size = 1 from rfl]
theorem Hr : ∀ w, (Go.sizeOf 3).run prog w = .ok 1 w := fun w => by
 have h : prog.info? 3 = some t3 := by kernel_rfl
 simp [Go.sizeOf, typeInfo, h, show t3.size = 1 from rfl]
theorem Z6 : ∀ w, (Go.sizeOf 23).run prog w = .ok 1 w := fun w => by
 have h : prog.info? 23 = some t23 := by kernel_rfl
 simp [Go.sizeOf, typeInfo, h, show t23.size = 1 from rfl]
theorem Kq {R : Rr} {σ : Hp} {s : ByteArray} (h : R (.returned (.bool (Ae s))) σ) : Spec prog 171 #[.string s] σ R := by
 refine Fu.start ⟨fun h0 => ?_, fun h0 => ⟨fun h1 => ?_, fun h1 => ?_⟩⟩
 · have : Ae s = false := by
     have : s = ⟨#[]⟩ := by
       have := eq_of_beq h0
       rw [ByteArray.toList_eq, ByteArray.toList_eq] at this
       exact ByteArray.ext (Array.toList_inj.1 this)
     subst this; rfl
   rwa [this] at h
 · have : Ae s = false := by
     have : ¬ s.size ≤ 64 := by omega
     simp [Ae, this]
   rwa [this] at h
 · have lL : 0 < s.size := by
     rcases Nat.eq_zero_or_pos s.size with hz | hz
     · exfalso
       have : s = ⟨#[]⟩ := ByteArray.ext (Array.eq_empty_of_size_eq_zero hz)
       subst this; simp at h0
     · exact hz
   have R6 : s.size ≤ 64 := by omega
   have Ee : s.data.toList.length = s.size := rfl
   suffices H : ∀ d k : Nat, s.size - k = d → k ≤ s.size → (s.data.toList.take k).all fW = true → Fu.Ap R s k σ from H s.size 0 rfl (Nat.zero_le _) rfl
   intro d
   induction d with
   | zero =>
     intro k hd hk E5
     rw [List.take_of_length_le (by omega)] at E5
     have hn : Ae s = true := by simp only [Ae, E5, decide_eq_true lL, decide_eq_true R6, Bool.and_true]
     rw [hn] at h
     exact Fu.BI ⟨fun Ag => by omega, fun _ => h⟩
   | succ d ih =>
     intro k hd hk E5
     have Dh : k < s.size := by omega
     obtain ⟨u, hu⟩ : ∃ u, s.data.toList[k]? = some u := ⟨_, List.getElem?_eq_getElem (by omega)⟩
     have Y3 : s.data[Int.toNat (k : Int)]? = some u := by simpa using hu
     have hi : AO ((k : Int) + 1) := by unfold AO; omega
     have step : fW u = true → Fu.Ap R s ((k : Int) + 1) σ := fun hc => ih (k + 1) (by omega) (by omega) (by rw [AR hu, List.all_append, E5]; simpa using hc)
     have bad : fW u = false → R (.returned (.bool false)) σ := fun hc => by
       have : Ae s = false := by
         have : s.data.toList.all fW = false := by
           rw [List.all_eq_false]
           exact ⟨u, List.mem_of_getElem? hu, by simp [hc]⟩
         simp [Ae, this]
       rwa [this] at h
     have e1 : (fW u = true) ↔ ((97 ≤ u.toNat ∧ u.toNat ≤ 122) ∨ (48 ≤ u.toNat ∧ u.toNat ≤ 57) ∨ u.toNat = 47 ∨ u.toNat = 46 ∨ u.toNat = 45) := by
       simp [fW, or_assoc]
     have good : ((97 ≤ u.toNat ∧ u.toNat ≤ 122) ∨ (48 ≤ u.toNat ∧ u.toNat ≤ 57) ∨ u.toNat = 47 ∨ u.toNat = 46 ∨ u.toNat = 45) → AO ((k : Int) + 1) ∧ Fu.Ap R s ((k : Int) + 1) σ := fun hc => ⟨hi, step (e1.2 hc)⟩
     have SQ : ¬ ((97 ≤ u.toNat ∧ u.toNat ≤ 122) ∨ (48 ≤ u.toNat ∧ u.toNat ≤ 57) ∨ u.toNat = 47 ∨ u.toNat = 46 ∨ u.toNat = 45) → R (.returned (.bool false)) σ := fun hc => bad (by
       cases ho : fW u with
       | false => rfl
       | true => exact absurd (e1.1 ho) hc)
     clear step bad e1 h ih
     refine Fu.BI ⟨fun Ag => ⟨u, by omega, Y3, ?_⟩, fun F8 => by omega⟩
     generalize u.toNat = n at good SQ
     repeat' (first | refine ⟨fun _ => ?_, fun _ => ?_⟩ | exact good (by omega) | exact SQ (by omega))
def Gg (fs gs : ByteArray → Option Fl) : Prop := ∀ s, (fs s = none → gs s = none) ∧ ∀ f, fs s = some f → ∃ k, f.GY ≤ k ∧ k ≤ f.data.length ∧ gs s = some ⟨f.data.take k, k⟩
section
variable {σ : Hp} {d : Nat} {D : Dk} {S : List Nat} {R : Rr}
theorem JQ {s : ByteArray} (hd : A3 σ d D S) (h0 : Ae s = false → R (.returned (.int .i64 61)) σ) (h1 : Ae s = true → D.files s = none → R (.returned (.int .i64 62)) σ) (h2 : ∀ f, Ae s = true → D.files s = some f → R (.returned (.int .i64 0)) σ) :
   Spec prog 223 #[.pointer (some ⟨d, 0, none⟩), .string s] σ R := by
 refine Ja.start (Kq ⟨_, rfl, fun hf => h0 hf, fun ht => ?_⟩)
 obtain ⟨m, c, rows, T, a, b, e, h⟩ := hd
 refine ⟨d, 0, rfl, some m, AD h.obj rfl, h.look (fun hn Jj => ⟨none, rfl, fun _ => h1 ht Jj, fun hh => by simp at hh⟩) fun r1 r r2 _ _ Jj => ⟨_, rfl, fun hh => by simp at hh, fun _ => h2 _ ht Jj⟩⟩
theorem Qr {s : ByteArray} {p : Option Addr} {n c b2 : Nat} {xs : List Int} {m clock : Nat} {r1 r2 : List Row} {r : Row} {T : TypeId} {a b e : Int} (hd : Aq σ d D S m clock (r1 ++ r :: r2) T a b e)
   (h2 : (σ.off S) b2 = some (.cells #[.slice p n c] 84 (0, 0))) (hx : CA .u8 (σ.off S) p n xs) (hlen : r.fl.data.length + n ≤ 4194304) (hs : r.name = s)
   (h : ∀ σ' S', A3 σ' d { D with files := BG D.files s (some ⟨r.fl.data ++ xs, r.fl.GY⟩) } S' → Ext (σ.off S) (σ'.off S') → R (.returned (.tuple #[])) σ') :
   DG.A1 R b2 (some ⟨r.f, 0, none⟩) σ := by
 have hr := hd.row r (by simp)
 have Fc := hd.out r (by simp)
 refine DG.AW ⟨r.f, 0, rfl, r.p, r.n, r.c, AD hr.obj rfl, p, n, c, AD (Hp.AH.1 h2).2 rfl, ?_⟩
 refine MW (T := 84) hr.own (Gi.of_map (hx.mono (Ext.CJ _ _))) CU.Cs (by simp only [Row.n]; omega) fun p' c' σ' Aa EU _ => ⟨p', r.n + n, c', rfl, ?_⟩
 have yZ : σ' r.f = some (.cells #[.slice r.p r.n r.c, .int .i64 r.fl.GY] r.T (0, 0)) ∧ r.f ∉ DJ p' := by
   rw [Hp.Dc, Hp.Dc] at EU
   have := Hp.AH.1 (EU r.f _ (Hp.AH.2 ⟨Fc.1, hr.obj⟩))
   exact ⟨this.2, this.1⟩
 refine AJ.store (v := .slice p' (r.n + n) c') U1 yZ.1 rfl (by simp) (by simp [Value.cells, Value.oneCell']) ?_
 have hlx : (r.fl.data ++ xs).length = r.n + n := by rw [List.length_append, hx.1]
 have hw : DX #[Value.slice r.p r.n r.c, .int .i64 r.fl.GY] 0 (Value.slice p' (r.n + n) c').cells.toList = #[.slice p' (r.n + n) c', .int .i64 r.fl.GY] := rfl
 rw [hw]
 have key := hd.change (σ' := σ'.set r.f (.cells #[.slice p' (r.n + n) c', .int .i64 r.fl.GY] r.T (0, 0))) (r' := { r with p := p', c := c', fl := ⟨r.fl.data ++ xs, r.fl.GY⟩ }) rfl rfl rfl
   ⟨by simp [Hp.AA, hlx], ?_, by simp only [hlx]; have := hr.GY; omega, by show (r.fl.data ++ xs).length ≤ _; rw [hlx]; exact hlen, hr.nm⟩ yZ.2 ?_
 · rw [← hs] at h
   exact h _ _ ⟨_, _, _, _, _, _, _, key.1⟩ key.2
 · have : AS .u8 σ' p' (r.n + n) c' (r.fl.data ++ xs) := by simpa [AS] using Aa
   simp only [hlx]
   refine Own.loc this fun b hb => Hp.AF fun e => yZ.2 (e ▸ hb)
 · intro b o hb
   obtain ⟨h3, h4⟩ := Hp.AH.1 hb
   simp only [Row.blocks, List.mem_cons, not_or] at h3
   rw [Hp.Dc, Hp.Dc] at EU
   have := Hp.AH.1 (EU b o (Hp.AH.2 ⟨h3.2, h4⟩))
   exact Hp.AH.2 ⟨by simp [Row.blocks, h3.1, this.1], by rw [Hp.AF h3.1]; exact this.2⟩
def Em (fs : ByteArray → Option Fl) (s : ByteArray) (xs : List Int) : ByteArray → Option Fl := BG fs s (some ⟨((fs s).getD ⟨[], 0⟩).data ++ xs, ((fs s).getD ⟨[], 0⟩).GY⟩)
theorem Mv {s : ByteArray} {p : Option Addr} {n c b0 b1 b2 : Nat} {xs : List Int} (Jw : Ae s = true) (hd : A3 σ d D S) (h0 : (σ.off S) b0 = some (.cells #[.pointer (some ⟨d, 0, none⟩)] 106 (0, 0))) (h1 : (σ.off S) b1 = some (.cells #[.string s] 9 (0, 0)))
   (h2 : (σ.off S) b2 = some (.cells #[.slice p n c] 84 (0, 0))) (hx : CA .u8 (σ.off S) p n xs) (hlen : ((D.files s).getD ⟨[], 0⟩).data.length + n ≤ 4194304)
   (h : ∀ σ' S', A3 σ' d ⟨Em D.files s xs, D.up, D.armed, D.cnt + 1⟩ S' → Ext (σ.off S) (σ'.off S') → R (.returned (.tuple #[])) σ') :
   Spec prog 227 #[.pointer (some ⟨b0, 0, none⟩), .pointer (some ⟨b1, 0, none⟩), .pointer (some ⟨b2, 0, none⟩)] σ R := by
 obtain ⟨m, cl, rows, T, a, b, e, hd⟩ := hd
 have Y4 := Hp.AH.1 h0
 have XO := Hp.AH.1 h1
 refine DG.start ⟨_, AD Y4.2 rfl, d, 0, rfl, some m, AD hd.obj rfl, s, AD XO.2 rfl, hd.look (fun hn Jj => ⟨none, rfl, fun _ H7 fZ => ?_, fun hh => by simp at hh⟩) fun r1 r r2 CR FI Jj => ⟨_, rfl, fun hh => by simp at hh, fun _ => ?_⟩⟩
 · have AK0 : b0 ≠ H7 := fun e => by rw [e, fZ] at Y4; cases Y4.2
   have ya : b1 ≠ H7 := fun e => by rw [e, fZ] at XO; cases XO.2
   have hS : H7 ∉ S := fun hs => hd.known _ hs fZ
   have hdn : d ≠ H7 := fun e => hS (e ▸ hd.Qp)
   have Z7 : m ≠ H7 := fun e => hS (e ▸ hd.Mu)
   refine ⟨_, AD (by rw [Hp.AF AK0]; exact Y4.2) rfl, d, 0, rfl, some m, AD (by rw [Hp.AF hdn]; exact hd.obj) rfl, s, AD (by rw [Hp.AF ya]; exact XO.2) rfl, ?_⟩
   have oy : Av (σ.set H7 (.cells #[.slice none 0 0, .int .i64 0] 300 (0, 0))) m (rows.map Row.CY) cl := hd.map.loc (Hp.AF Z7)
   refine DT oy (fun _ σ' SF Kr => ?_) fun l1 e l2 hl he => ?_
   · have key := hd.push (σ' := σ') (r := ⟨s, H7, cl, 300, none, 0, ⟨[], 0⟩⟩) hn fZ rfl (fun b h1 h2 => by rw [SF, Hp.AF h1, Hp.AF h2]) ⟨by rw [SF, Hp.AF (Ne.symm Z7), Hp.AA]; rfl, Own.nil, Nat.le_refl _, Nat.zero_le _, Jw⟩ (clock' := cl + 1) (by simpa [Row.CY] using Kr)
     refine Qr (r2 := []) key.1 (key.2 _ _ h2) (hx.mono key.2) ?_ rfl fun PC S'' hD hE => h PC S'' ?_ (key.2.trans hE)
     · simpa [Jj] using hlen
     · have : Em D.files s xs = BG (BG D.files s (some ⟨[], 0⟩)) s (some ⟨[] ++ xs, 0⟩) := by
         funext k; simp only [Em, Jj, BG, Option.getD_none]; split <;> rfl
       rw [this]; exact hD
   · exfalso
     obtain ⟨r1, r, r2, CR, _, rfl, _⟩ := El hl
     exact hn r (by simp [CR]) (Gs.1 he)
 · subst CR
   refine Qr hd h2 hx (by simpa [Jj] using hlen) FI fun σ' S' hD hE => h σ' S' ?_ hE
   have : Em D.files s xs = BG D.files s (some ⟨r.fl.data ++ xs, r.fl.GY⟩) := by simp [Em, Jj]
   rw [this]
   obtain ⟨m, cl, rows, T, a, b, e, hD⟩ := hD
   exact ⟨m, cl, rows, T, a, b, e, { hD with cnt := by have := hD.cnt; simp only at this ⊢; omega }⟩
end
end TwW
end
section
namespace TwW
open Go Tw Go.Proofs.Tryz
section
variable {σ : Hp} {d : Nat} {D : Dk} {S : List Nat} {R : Rr}
theorem Aq.rS {m clock : Nat} {rows : List Row} {T : TypeId} {left keep writes : Int} (h : Aq σ d D S m clock rows T left keep writes) {o : Obj} : Ext (σ.off S) ((σ.set d o).off S) := Ext.Gj h.Qp
theorem Aq.st {m clock : Nat} {rows : List Row} {T : TypeId} {left keep writes : Int} (h : Aq σ d D S m clock rows T left keep writes) {i : Nat} {E : TypeId} {v : Value} {up armed : Bool} {left' XL writes' : Int} (hz : ∀ w, (Go.sizeOf E).run prog w = .ok 1 w) (hv : v.cells.size = 1)
   (hi : i + 1 ≤ 6) (h1 : ∀ u ∈ v.cells.toList, u.oneCell' = true)
   (hw : DX #[.map (some m), .bool D.up, .bool D.armed, .int .i64 left, .int .i64 keep, .int .u64 writes] i v.cells.toList = #[.map (some m), .bool up, .bool armed, .int .i64 left', .int .i64 XL, .int .u64 writes'])
   {Φ : Unit → Hp → Prop} (hΦ : ∀ σ', Aq σ' d ⟨D.files, up, armed, D.cnt⟩ S m clock rows T left' XL writes' → Ext (σ.off S) (σ'.off S) → (∀ b, b ≠ d → σ' b = σ b) → Φ () σ') : AJ prog (Instr.storeAt E (.pointer (some ⟨d, i, none⟩)) v) σ Φ := by
 refine AJ.store hz h.obj hv (by simp; omega) h1 ?_
 rw [hw]
 exact hΦ _ (h.put h.cnt) h.rS fun b hb => Hp.AF hb
def AK1 (x1 : Int) (fs gs : ByteArray → Option Fl) (L : List MapEntry) : Prop :=
 ∀ s, (fs s = none → gs s = none) ∧ ∀ f, fs s = some f → (gs s = some f ∧ ∃ e ∈ L, e.key = .string s) ∨ ∃ k, f.GY ≤ k ∧ k ≤ f.data.length ∧ gs s = some ⟨f.data.take k, k⟩ ∧ (x1 = 0 → k = f.GY)
def lM (fs gs : ByteArray → Option Fl) : Prop := ∀ s f, fs s = some f → gs s = some ⟨f.data.take f.GY, f.GY⟩
theorem fc {x n : Int} (hx : 0 ≤ x) (hn : 0 ≤ n) : 0 ≤ Int.tmod x (n + 1) ∧ Int.tmod x (n + 1) ≤ n := by
 rw [Int.tmod_eq_emod_of_nonneg hx]
 have h1 := Int.emod_nonneg x (show n + 1 ≠ 0 by omega)
 have h2 := Int.emod_lt_of_pos x (show 0 < n + 1 by omega)
 omega
theorem Own.shrink {σ : Hp} {p : Option Addr} {n c k : Nat} {xs : List Int} {kd : IntKind} (h : AS kd σ p n c xs) (hk : k ≤ n) : AS kd σ p k c (xs.take k) := by
 have := Own.take h hk
 rw [Nat.mul_one, ← List.map_take] at this
 exact this
theorem Own.cap {s : Nat} {σ : Hp} {p : Option Addr} {n c : Nat} {cs : List Value} (h : Own s σ p n c cs) : n ≤ c := by
 rcases h.2.2 with ⟨_, h1, h2⟩ | ⟨b, o, arr, T, _, _, h3, _⟩
 · omega
 · exact h3
theorem yb {σ0 : Hp} {S0 : List Nat} {i m clock : Nat} {x1 : Int} {fs : ByteArray → Option Fl} {cnt : Nat} (fe : σ0 i = none)
   (hR : ∀ σ' S' gs, Gg fs gs → (x1 = 0 → lM fs gs) → A3 σ' d ⟨gs, false, false, cnt⟩ S' → Ext (σ0.off S0) (σ'.off S') → R (.returned (.tuple #[])) σ') :
   ∀ (n : Nat) (σ : Hp) (D : Dk) (S : List Nat) (rows : List Row) (L : List MapEntry) (T : TypeId) (a b e : Int), L.length = n → D.cnt = cnt → Aq σ d D S m clock rows T a b e → Cv σ i m (rows.map Row.CY) L clock → (∀ x ∈ L, x ∈ rows.map Row.CY) → i ∉ S → AK1 x1 fs D.files L →
     Ext (σ0.off S0) (σ.off S) → DV.Zy R (some ⟨d, 0, none⟩) x1 (.pointer (some ⟨i, 0, none⟩)) σ := by
 intro n
 induction n using Nat.strongRecOn with
 | _ n ih =>
 intro σ D S rows L T a b e hL GJ hd hi MI oY hh hx
 refine DV.MC (KC hd.map hi (fun h0 => .inl ⟨rfl, d, 0, rfl, ?_⟩) fun en J8 U2 o PM Z8 => .inr ?_)
 · subst h0
   refine hd.st (i := 1) (up := false) (armed := D.armed) Jk rfl (by omega) (by simp [Value.cells, Value.oneCell']) rfl fun σ1 h1 e1 _ => ?_
   refine h1.st (i := 2) (up := false) (armed := false) Jk rfl (by omega) (by simp [Value.cells, Value.oneCell']) rfl fun σ2 h2 e2 _ => ?_
   have E5 : ∀ s f, fs s = some f → ∃ k, f.GY ≤ k ∧ k ≤ f.data.length ∧ D.files s = some ⟨f.data.take k, k⟩ ∧ (x1 = 0 → k = f.GY) := fun s f hf => by
     rcases (hh s).2 f hf with ⟨_, e, he, _⟩ | h
     · cases he
     · exact h
   refine hR σ2 S D.files (fun s => ⟨(hh s).1, fun f hf => ?_⟩) (fun hz s f hf => ?_) ⟨_, _, _, _, _, _, _, GJ ▸ h2⟩ (hx.trans (e1.trans e2))
   · obtain ⟨k, h1, h2, h3, _⟩ := E5 s f hf
     exact ⟨k, h1, h2, h3⟩
   · obtain ⟨k, h1, h2, h3, h4⟩ := E5 s f hf
     rw [h3, h4 hz]
 · obtain ⟨l1, l2, hl⟩ := List.append_of_mem U2
   obtain ⟨r1, r, r2, rfl, _, rfl, _⟩ := El hl
   have hτ : ∀ b ∈ S, (σ.set i o) b = σ b := fun b hb => Hp.AF fun e => oY (e ▸ hb)
   have XP := hd.loc hτ
   have uq : m ≠ i := fun e => oY (e ▸ hd.Mu)
   have Ha : Ext (σ0.off S0) ((σ.set i o).off S) := fun b u hb => by
     have hbi : b ≠ i := fun e => by rw [e, Hp.KB fe] at hb; cases hb
     have h2 := Hp.AH.1 (hx b u hb)
     exact Hp.AH.2 ⟨h2.1, by rw [Hp.AF hbi]; exact h2.2⟩
   have hr := XP.row r (by simp)
   have Fc := XP.out r (by simp)
   have AEb := hr.GY
   have Fy := hr.own.rd.big
   have yc := Own.cap hr.own
   have APb := PM _ (Hp.AA σ i o)
   have main : ∀ y : Int, 0 ≤ y → y ≤ (r.n : Int) - r.fl.GY → (x1 = 0 → y = 0) → DV.Wn R (some ⟨d, 0, none⟩) x1 (some ⟨r.f, 0, none⟩) y (.pointer (some ⟨i, 0, none⟩)) (σ.set i o) := by
     intro y hy0 hy1 hyz
     obtain ⟨k, hk⟩ : ∃ k : Nat, (k : Int) = (r.fl.GY : Int) + y := ⟨((r.fl.GY : Int) + y).toNat, by omega⟩
     refine DV.Uq ⟨r.f, 0, rfl, r.p, r.n, r.c, AD hr.obj rfl, r.fl.GY, AD hr.obj rfl, by unfold AO; omega, by omega, ?_⟩
     refine AJ.store (v := .slice r.p (Int.toNat ((r.fl.GY : Int) + y)) r.c) U1 hr.obj rfl (by simp) (by simp [Value.cells, Value.oneCell']) ?_
     have hkt : Int.toNat ((r.fl.GY : Int) + y) = k := by omega
     rw [hkt]
     have hw : DX #[Value.slice r.p r.n r.c, .int .i64 r.fl.GY] 0 (Value.slice r.p k r.c).cells.toList = #[.slice r.p k r.c, .int .i64 r.fl.GY] := rfl
     rw [hw]
     refine ⟨r.p, k, r.c, AD (Hp.AA _ _ _) rfl, ?_⟩
     refine AJ.store (v := .int .i64 k) Hr (Hp.AA _ _ _) rfl (by simp) (by simp [Value.cells, Value.oneCell']) ?_
     have hw : DX #[Value.slice r.p k r.c, .int .i64 r.fl.GY] (0 + 1) (Value.int .i64 k).cells.toList = #[.slice r.p k r.c, .int .i64 k] := rfl
     rw [hw, Hp.set_set]
     have LF : k ≤ r.fl.data.length := by simp only [Row.n] at hy1; omega
     have SD : (r.fl.data.take k).length = k := by rw [List.length_take, Nat.min_eq_left LF]
     have key := XP.change (σ' := (σ.set i o).set r.f (.cells #[.slice r.p k r.c, .int .i64 k] r.T (0, 0))) (r' := { r with fl := ⟨r.fl.data.take k, k⟩ }) rfl rfl rfl
       ⟨by simp only [Hp.AA, SD], ?_, by simp [Row.n, SD], by simp only [Row.n, SD]; exact Nat.le_trans LF hr.small, hr.nm⟩ Fc.1 ?_
     · have XQ : r.f ≠ i := fun e => oY (e ▸ hd.Oe (r := r) (by simp) (by simp [Row.blocks]))
       have ur : (r1 ++ { r with fl := ⟨r.fl.data.take k, k⟩ } :: r2).map Row.CY = (r1 ++ r :: r2).map Row.CY := by simp [Row.CY]
       have AK4 : ((σ.set i o).set r.f (.cells #[.slice r.p k r.c, .int .i64 k] r.T (0, 0))) i = some o := by rw [Hp.AF (Ne.symm XQ), Hp.AA]
       refine ih _ (hL ▸ Ki J8) _ { D with files := BG D.files r.name (some ⟨r.fl.data.take k, k⟩) } _ _ _ _ _ _ _ rfl GJ key.1 (by rw [ur]; exact PM _ AK4) (fun x hx => by rw [ur]; exact MI x (List.mem_filter.1 hx).1) (fun Jl => ?_) (fun s => ?_) (Ha.trans key.2)
       · rcases GI.1 Jl with e | e | ⟨x, hx, Qq⟩
         · exact oY (e ▸ hd.Qp)
         · exact uq e.symm
         · rcases List.mem_append.1 hx with hx | hx
           · exact oY (hd.Oe (by simp [hx]) Qq)
           · rcases List.mem_cons.1 hx with rfl | hx
             · exact oY (hd.Oe (r := r) (by simp) Qq)
             · exact oY (hd.Oe (by simp [hx]) Qq)
       · have Vx : D.files r.name = some r.fl := by rw [hd.files, Row.dG hd.names]
         have hhs := hh s
         by_cases hs : s = r.name
         · subst hs
           refine ⟨fun h0 => ?_, fun f hf => .inr ?_⟩
           · rw [hhs.1 h0] at Vx; cases Vx
           · simp only [BG, if_true]
             rcases hhs.2 f hf with ⟨h1, _⟩ | ⟨k', h1, h2, h3, h4⟩
             · rw [h1] at Vx; cases Vx
               exact ⟨k, by omega, LF, rfl, fun hz => by have := hyz hz; omega⟩
             · rw [h3] at Vx
               have Z9 : r.fl = ⟨f.data.take k', k'⟩ := (Option.some.inj Vx).symm
               refine ⟨k, ?_, ?_, ?_, fun hz => ?_⟩
               · rw [Z9] at hk; simp only at hk; omega
               · rw [Z9] at LF; simp at LF; omega
               · rw [Z9, List.take_take, Nat.min_eq_left]
                 rw [Z9] at LF; simp at LF; omega
               · have e1 := hyz hz
                 have e2 := h4 hz
                 rw [Z9] at hk; simp only at hk; omega
         · simp only [BG, hs, if_false]
           refine ⟨hhs.1, fun f hf => (hhs.2 f hf).imp (fun ⟨h1, x, hx, hk⟩ => ⟨h1, x, List.mem_filter.2 ⟨hx, ?_⟩, hk⟩) id⟩
           have : x.born ≠ r.CY.born := fun e => by
             have := born_inj hd.map.V5 (MI x hx) U2 e
             rw [this, Gs] at hk
             exact hs hk.symm
           simpa using this
     · simp only [SD]
       exact Own.loc (Own.shrink hr.own LF) fun b hb => Hp.AF fun e => Fc.1 (e ▸ hb)
     · intro b u hb
       have h3 := Hp.AH.1 hb
       exact Hp.AH.2 ⟨h3.1, by rw [Hp.AF fun e => h3.1 (by simp [Row.blocks, e])]; exact h3.2⟩
   refine ⟨_, _, rfl, Z8 _ (Hp.AA _ _ _) (Hp.AF uq) ⟨_, _, rfl, fun h0 => ⟨r.f, 0, rfl, r.p, r.n, r.c, AD hr.obj rfl, r.fl.GY, AD hr.obj rfl, by unfold AO; omega, by unfold AO; omega, by omega, ?_⟩, fun _ => main 0 (by omega) (by omega) (fun _ => rfl)⟩⟩
   rintro x rfl
   have := fc h0 (show 0 ≤ (r.n : Int) - r.fl.GY by omega)
   exact main _ this.1 this.2 (fun hz => by rw [hz, Int.zero_tmod])
theorem lN {x1 : Int} (hd : A3 σ d D S) (hR : ∀ σ' S' gs, Gg D.files gs → (x1 = 0 → lM D.files gs) → A3 σ' d ⟨gs, false, false, D.cnt⟩ S' → Ext (σ.off S) (σ'.off S') → R (.returned (.tuple #[])) σ') :
   Spec prog 290 #[.pointer (some ⟨d, 0, none⟩), .int .i64 x1] σ R := by
 obtain ⟨m, cl, rows, T, a, b, e, hd⟩ := hd
 refine DV.start ⟨d, 0, rfl, some m, AD hd.obj rfl, IU hd.map fun i o hi PM => ⟨_, rfl, ?_⟩⟩
 have oY : i ∉ S := fun hs => hd.known _ hs hi
 refine yb hi hR _ _ D S rows _ T a b e rfl rfl (hd.loc fun b hb => Hp.AF fun e => oY (e ▸ hb)) PM (fun x hx => hx) oY (fun s => ⟨id, fun f hf => .inl ⟨hf, ?_⟩⟩) ((Ext.set hi).off S)
 rw [hd.files, Row.look] at hf
 cases il : rows.find? (fun r => decide (r.name = s)) with
 | none => rw [il] at hf; cases hf
 | some r => exact ⟨r.CY, List.mem_map.2 ⟨r, List.mem_of_find?_eq_some il, rfl⟩, Gs.2 (by simpa using List.find?_some il)⟩
end
end TwW
end
section
namespace TwW
open Go Tw Go.Proofs.Tryz
structure Wr (σ : Hp) (S : List Nat) (d : Nat) (D : Dk) (fs Fg : ByteArray → Option Fl) (c : Nat) (R : Rr) : Prop where
 ok : ∀ σ' S', A3 σ' d ⟨fs, true, D.armed, c⟩ S' → Ext (σ.off S) (σ'.off S') → R (.returned (.int .i64 0)) σ'
 bad : D.armed = true → ∀ σ' S' gs, Gg Fg gs → A3 σ' d ⟨gs, false, false, c⟩ S' → Ext (σ.off S) (σ'.off S') → R (.returned (.int .i64 60)) σ'
section
variable {σ : Hp} {d : Nat} {D : Dk} {S : List Nat} {R : Rr}
def ff (σ : Hp) (d : Nat) (D : Dk) (S : List Nat) (f : Nat) (cap : Array Value) (fs : ByteArray → Option Fl) (c : Nat) : Prop :=
 ∀ σ1, A3 σ1 d D S → Ext (σ.off S) (σ1.off S) → ∀ R : Rr, (∀ σ' S', A3 σ' d ⟨fs, D.up, D.armed, c⟩ S' → Ext (σ1.off S) (σ'.off S') → R (.returned (.tuple #[])) σ') → Spec prog f cap σ1 R
theorem Aq.AEc {m clock : Nat} {rows : List Row} {T : TypeId} {left keep writes : Int} {c : Nat} (h : Aq σ d D S m clock rows T left keep writes) (hc : D.cnt ≤ c) : Aq σ d { D with cnt := c } S m clock rows T left keep writes :=
 { h with cnt := Nat.le_trans h.cnt hc }
theorem JR {f1 f2 f3 : Nat} {c1 c2 c3 : Array Value} {fs Fg : ByteArray → Option Fl} {c : Nat} (hd : A3 σ d D S) (Ev : D.up = true) (e1 : Enters prog f1) (e2 : Enters prog f2) (e3 : Enters prog f3)
   (h1 : ∀ R : Rr, R (.returned (.int .i64 0)) σ → Spec prog f1 c1 σ R) (h2 : ff σ d D S f2 c2 fs c) (h3 : ff σ d D S f3 c3 Fg c) (hw : Wr σ S d D fs Fg c R) :
   Spec prog 221 #[.pointer (some ⟨d, 0, none⟩), .func (.func f1) #[] c1, .func (.func f2) #[] c2, .func (.func f3) #[] c3] σ R := by
 obtain ⟨m, cl, rows, T, a, b, e, hd⟩ := hd
 obtain ⟨dfs, dup, rT, AK5⟩ := D
 simp only at Ev
 subst Ev
 have Sr : ∀ (σ1 : Hp) (e' : Int), Aq σ1 d ⟨dfs, true, rT, AK5⟩ S m cl rows T a b e' → Ext (σ.off S) (σ1.off S) → ∀ (x : Int), x = IntKind.i64.wrap (a - 1) → AJ prog (Instr.storeAt 3 (.pointer (some ⟨d, 0 + 3, none⟩)) (.int .i64 x)) σ1 (fun _ BE => ∃ (f54 : Nat) (Oa Ob : Array Value), Value.func (.func f2) #[] c2 = .func (.func f54) Oa Ob ∧ Enters prog f54 ∧ Spec prog f54 (Oa ++ #[] ++ Ob) BE (AB R (fun cK OP => cK = (.tuple #[]) ∧ R (.returned (.int .i64 0)) OP))) := by
   intro σ1 e' h e1 x _
   refine h.st (i := 0 + 3) (up := true) (armed := rT) (left' := x) Hr rfl (by omega) (by simp [Value.cells, Value.oneCell']) rfl fun σ2 h' e2' _ => ?_
   refine ⟨f2, #[], c2, rfl, e2, ?_⟩
   have := h2 σ2 ⟨m, cl, rows, T, x, b, e', h'⟩ (e1.trans e2')
   simp only [Array.empty_append]
   exact this _ fun σ' S' hD hE => ⟨rfl, hw.ok σ' S' hD (e1.trans (e2'.trans hE))⟩
 refine Jg.start ⟨d, 0, rfl, true, AD hd.obj rfl, fun h => by simp at h, fun _ => ⟨f1, #[], c1, rfl, e1, ?_⟩⟩
 simp only [Array.empty_append]
 refine h1 _ ⟨0, rfl, fun h => absurd rfl h, fun _ => ⟨e, AD hd.obj rfl, fun J4 _ => ?_⟩⟩
 refine hd.st (i := 0 + 5) (up := true) (armed := rT) (writes' := J4) Z6 rfl (by omega) (by simp [Value.cells, Value.oneCell']) rfl fun σ1 h ex _ => ?_
 refine ⟨rT, AD h.obj rfl, fun ht => ⟨a, AD h.obj rfl, fun ha => ⟨f3, #[], c3, rfl, e3, ?_⟩, fun _ => ⟨a, AD h.obj rfl, fun x hx => Sr σ1 J4 h ex x hx⟩⟩, fun _ => ⟨a, AD h.obj rfl, fun x hx => Sr σ1 J4 h ex x hx⟩⟩
 simp only [Array.empty_append]
 refine h3 σ1 ⟨m, cl, rows, T, a, b, J4, h⟩ ex _ fun σ2 S2 hD hE => ⟨rfl, ?_⟩
 have hD' := hD
 obtain ⟨m2, cl2, XR, T2, a2, b2, e2', hDi⟩ := hD'
 refine ⟨b2, AD hDi.obj rfl, ?_⟩
 exact lN hD fun σ3 S3 gs hc _ hD3 hE3 => ⟨rfl, hw.bad ht σ3 S3 gs hc hD3 (ex.trans (hE.trans hE3))⟩
theorem AEd : Enters prog 227 := fun args w => call227 args w
theorem AK8 : Enters prog 228 := fun args w => call228 args w
theorem AK9 : Enters prog 222 := fun args w => call222 args w
theorem ALA : Enters prog 224 := fun args w => call224 args w
theorem yd : Enters prog 225 := fun args w => call225 args w
theorem ALB : Enters prog 232 := fun args w => call232 args w
theorem ALC : Enters prog 233 := fun args w => call233 args w
theorem AEe : Enters prog 292 := fun args w => call292 args w
theorem AEf : Enters prog 293 := fun args w => call293 args w
theorem JS {c : Nat} (hc : D.cnt ≤ c) : ff σ d D S 225 #[] D.files c := fun σ1 hd _ R h => by
 refine Mq.start (h σ1 S ?_ (Ext.refl _))
 obtain ⟨m, cl, rows, T, a, b, e, hd⟩ := hd
 exact ⟨m, cl, rows, T, a, b, e, hd.AEc hc⟩
theorem XS {L M : List ByteArray} (hn : L.Nodup) (h : ∀ x ∈ L, x ∈ M) : L.length ≤ M.length := by
 induction L generalizing M with
 | nil => simp
 | cons a L ih =>
   rw [List.nodup_cons] at hn
   obtain ⟨m1, m2, rfl⟩ := List.append_of_mem (h a (by simp))
   have := ih hn.2 (M := m1 ++ m2) fun x hx => by
     have h1 := h x (by simp [hx])
     simp only [List.mem_append, List.mem_cons] at h1 ⊢
     rcases h1 with h1 | rfl | h1
     · exact .inl h1
     · exact absurd hx hn.1
     · exact .inr h1
   simp only [List.length_append, List.length_cons] at this ⊢
   omega
def Oh (D : Dk) : Prop := D.cnt < 1048576 ∨ ∃ F : List ByteArray, F.length < 1048576 ∧ ∀ s, (D.files s).isSome = true → s ∈ F
theorem Oh.sub {D D' : Dk} (h : Oh D) (hc : D'.cnt ≤ D.cnt) (hs : ∀ s, (D'.files s).isSome = true → (D.files s).isSome = true) : Oh D' := by
 rcases h with h | ⟨F, h1, h2⟩
 · exact .inl (by omega)
 · exact .inr ⟨F, h1, fun s h => h2 s (hs s h)⟩
theorem lO {rows : List Row} (hf : D.files = Row.look rows) (hn : (rows.map (·.name)).Nodup) (hc : rows.length ≤ D.cnt) (h : Oh D) : rows.length < 1048576 := by
 rcases h with h | ⟨F, h1, h2⟩
 · omega
 · have := XS hn (M := F) fun s hs => h2 s (by
     rw [hf, Row.look]
     cases hh : rows.find? (fun r => decide (r.name = s)) with
     | some r => rfl
     | none =>
       obtain ⟨r, hr, rfl⟩ := List.mem_map.1 hs
       have := List.find?_eq_none.1 hh r hr
       simp at this)
   rw [List.length_map] at this; omega
theorem U3 {s : ByteArray} {p : Option Addr} {n c b0 b1 b2 : Nat} (hd : A3 σ d D S) (h0 : (σ.off S) b0 = some (.cells #[.pointer (some ⟨d, 0, none⟩)] 106 (0, 0))) (h1 : (σ.off S) b1 = some (.cells #[.string s] 9 (0, 0)))
   (h2 : (σ.off S) b2 = some (.cells #[.slice p n c] 84 (0, 0))) (hn : Ae s = true) (hc : Oh D) (hlen : ((D.files s).getD ⟨[], 0⟩).data.length + n ≤ 4194304) (h : R (.returned (.int .i64 0)) σ) :
   Spec prog 228 #[.pointer (some ⟨b1, 0, none⟩), .pointer (some ⟨b0, 0, none⟩), .pointer (some ⟨b2, 0, none⟩)] σ R := by
 obtain ⟨m, cl, rows, T, a, b, e, hd⟩ := hd
 have Y4 := Hp.AH.1 h0
 have XO := Hp.AH.1 h1
 have fg := Hp.AH.1 h2
 have Jm : (rows.map (·.name)).Nodup := by
   have := hd.map.nodup
   rw [List.map_map] at this
   have e : (rows.map ((fun e : MapEntry => e.key) ∘ Row.CY)) = (rows.map (·.name)).map Value.string := by rw [List.map_map]; rfl
   rw [e, List.Nodup, List.pairwise_map] at this
   exact this.imp fun Ad e => Ad (by rw [e])
 have hcn := lO hd.files Jm hd.cnt hc
 refine HG.start ⟨s, AD XO.2 rfl, Kq ⟨_, rfl, fun hf => (by rw [hn] at hf; cases hf), fun _ => ⟨_, AD Y4.2 rfl, d, 0, rfl, some m, AD hd.obj rfl, s, AD XO.2 rfl, hd.look (fun _ Jj => ⟨none, rfl, fun _ => ?_, fun hh => by simp at hh⟩) fun r1 r r2 CR FI Jj => ⟨_, rfl, fun hh => by simp at hh, fun _ => ?_⟩⟩⟩⟩
 · refine ⟨_, AD Y4.2 rfl, d, 0, rfl, some m, AD hd.obj rfl, _, jU hd.map, fun hh => ?_, fun _ => ⟨p, n, c, AD fg.2 rfl, fun hh => ?_, fun _ => ⟨fun hh => by simp at hh, fun _ => h⟩⟩⟩
   · simp at hh; omega
   · rw [Jj] at hlen; simp at hlen; omega
 · rw [Jj] at hlen
   simp only [Option.getD_some] at hlen
   have hr := hd.row r (by simp [CR])
   refine ⟨fun _ => ⟨p, n, c, AD fg.2 rfl, r.f, 0, rfl, r.p, r.n, r.c, AD hr.obj rfl, by unfold AO; simp only [Row.n]; omega, fun hh => ?_, fun _ => h⟩, fun hh => by simp at hh⟩
   simp only [Row.n] at hh; omega
theorem F6 {o : Obj} {b : Nat} (hd : A3 σ d D S) (hb : σ b = none) : ((σ.set b o).off S) b = some o ∧ A3 (σ.set b o) d D S ∧ Ext (σ.off S) ((σ.set b o).off S) := by
 have Vp : b ∉ S := fun hs => hd.known _ hs hb
 exact ⟨by rw [Hp.BN Vp, Hp.AA], hd.mono (.set hb), (Ext.set hb).off S⟩
theorem Oi {s : ByteArray} {p : Option Addr} {n c : Nat} {xs : List Int} (hd : A3 σ d D S) (Ev : D.up = true) (hn : Ae s = true) (hc : Oh D) (hx : CA .u8 (σ.off S) p n xs) (hlen : ((D.files s).getD ⟨[], 0⟩).data.length + n ≤ 4194304)
   (hw : Wr σ S d D (Em D.files s xs) (Em D.files s xs) (D.cnt + 1) R) : Spec prog 135 #[.pointer (some ⟨d, 0, none⟩), .string s, .slice p n c] σ R := by
 refine Im.start fun b3 U4 b4 fh b5 XT => ?_
 obtain ⟨q3, d3, x3⟩ := F6 (o := .cells #[.pointer (some ⟨d, 0, none⟩)] 106 (0, 0)) hd U4
 obtain ⟨q4, d4, x4⟩ := F6 (o := .cells #[.string s] 9 (0, 0)) d3 fh
 obtain ⟨q5, d5, x5⟩ := F6 (o := .cells #[.slice p n c] 84 (0, 0)) d4 XT
 have Y5 := x5 _ _ (x4 _ _ q3)
 have q4' := x5 _ _ q4
 have Cc := hx.mono (x3.trans (x4.trans x5))
 refine ⟨_, AD (Hp.AH.1 Y5).2 rfl, JR d5 Ev AK8 AEd AEd (fun R h => U3 d5 Y5 q4' q5 hn hc hlen h) (fun σ1 Pu he R h => Mv hn Pu (he _ _ Y5) (he _ _ q4') (he _ _ q5) (Cc.mono he) hlen h)
   (fun σ1 Pu he R h => Mv hn Pu (he _ _ Y5) (he _ _ q4') (he _ _ q5) (Cc.mono he) hlen h) ⟨fun σ' S' hD hE => ⟨0, rfl, hw.ok σ' S' hD (x3.trans (x4.trans (x5.trans hE)))⟩, fun ha σ' S' gs hg hD hE => ⟨60, rfl, hw.bad ha σ' S' gs hg hD (x3.trans (x4.trans (x5.trans hE)))⟩⟩⟩
theorem aA {s : ByteArray} {f : Fl} {b0 b1 : Nat} (h0 : (σ.off S) b0 = some (.cells #[.pointer (some ⟨d, 0, none⟩)] 106 (0, 0))) (h1 : (σ.off S) b1 = some (.cells #[.string s] 9 (0, 0))) (hf : D.files s = some f) :
   ff σ d D S 224 #[.pointer (some ⟨b0, 0, none⟩), .pointer (some ⟨b1, 0, none⟩)] (BG D.files s (some ⟨f.data, f.data.length⟩)) D.cnt := fun σ1 hd hx R h => by
 obtain ⟨m, cl, rows, T, a, b, e, hd⟩ := hd
 have Y4 := Hp.AH.1 (hx _ _ h0)
 have XO := Hp.AH.1 (hx _ _ h1)
 refine Ir.start ⟨_, AD Y4.2 rfl, d, 0, rfl, some m, AD hd.obj rfl, s, AD XO.2 rfl, hd.look (fun hn Jj => (by rw [hf] at Jj; cases Jj)) fun r1 r r2 CR FI Jj => ⟨_, rfl, r.f, 0, rfl, r.p, r.n, r.c, ?_⟩⟩
 subst CR
 have hr := hd.row r (by simp)
 have Fc := hd.out r (by simp)
 rw [hf] at Jj
 cases Jj
 refine ⟨AD hr.obj rfl, AJ.store (v := .int .i64 r.n) Hr hr.obj rfl (by simp) (by simp [Value.cells, Value.oneCell']) ?_⟩
 have hw : DX #[Value.slice r.p r.n r.c, .int .i64 r.fl.GY] (0 + 1) (Value.int .i64 r.n).cells.toList = #[.slice r.p r.n r.c, .int .i64 r.n] := rfl
 rw [hw]
 have key := hd.change (σ' := σ1.set r.f (.cells #[.slice r.p r.n r.c, .int .i64 r.n] r.T (0, 0))) (r' := { r with fl := ⟨r.fl.data, r.n⟩ }) rfl rfl rfl
   ⟨Hp.AA _ _ _, Own.loc hr.own fun b hb => Hp.AF fun e => Fc.1 (e ▸ hb), Nat.le_refl _, hr.small, hr.nm⟩ Fc.1 (fun b u hb => by
     have h3 := Hp.AH.1 hb
     exact Hp.AH.2 ⟨h3.1, by rw [Hp.AF fun e => h3.1 (by simp [Row.blocks, e])]; exact h3.2⟩)
 rw [FI] at key
 exact h _ _ ⟨_, _, _, _, _, _, _, key.1⟩ key.2
theorem Te {s : ByteArray} {f : Fl} (hd : A3 σ d D S) (Ev : D.up = true) (hn : Ae s = true) (hf : D.files s = some f)
   (hw : Wr σ S d D (BG D.files s (some ⟨f.data, f.data.length⟩)) D.files D.cnt R) : Spec prog 133 #[.pointer (some ⟨d, 0, none⟩), .string s] σ R := by
 refine KM.start fun b3 U4 b4 fh => ?_
 obtain ⟨q3, d3, x3⟩ := F6 (o := .cells #[.pointer (some ⟨d, 0, none⟩)] 106 (0, 0)) hd U4
 obtain ⟨q4, d4, x4⟩ := F6 (o := .cells #[.string s] 9 (0, 0)) d3 fh
 have Y5 := x4 _ _ q3
 refine ⟨_, AD (Hp.AH.1 Y5).2 rfl, JR d4 Ev AK9 ALA yd (fun R h => Ib.start ⟨_, AD (Hp.AH.1 Y5).2 rfl, s, AD (Hp.AH.1 q4).2 rfl, JQ d4 (fun hh => by rw [hn] at hh; cases hh) (fun _ hh => by rw [hf] at hh; cases hh) fun f' _ _ => ⟨0, rfl, h⟩⟩)
   (aA Y5 q4 hf) (JS (Nat.le_refl _)) ⟨fun σ' S' hD hE => ⟨0, rfl, hw.ok σ' S' hD (x3.trans (x4.trans hE))⟩, fun ha σ' S' gs hg hD hE => ⟨60, rfl, hw.bad ha σ' S' gs hg hD (x3.trans (x4.trans hE))⟩⟩⟩
theorem Aq.ALD {m cl : Nat} {r1 r2 : List Row} {r : Row} {T : TypeId} {a b e : Int} (hd : Aq σ d D S m cl (r1 ++ r :: r2) T a b e) {σ' : Hp} (hσ : ∀ b, b ≠ m → σ' b = σ b) {cl' : Nat} (hm : Av σ' m ((r1 ++ r2).map Row.CY) cl') :
   Aq σ' d { D with files := BG D.files r.name none } (TwW.Ek d m (r1 ++ r2)) m cl' (r1 ++ r2) T a b e ∧ Ext (σ.off S) (σ'.off (TwW.Ek d m (r1 ++ r2))) := by
 have C9 : ∀ x ∈ r1 ++ r2, x ∈ r1 ++ r :: r2 := fun x hx => by
   rcases List.mem_append.1 hx with h | h <;> simp [h]
 refine hd.lK hσ hm (fun x hx => hd.row x (C9 x hx)) (fun x hx b hb => ⟨hd.Oe (C9 x hx) hb, fun e => (hd.out x (C9 x hx)).2.1 (e ▸ hb), fun e => (hd.out x (C9 x hx)).2.2 (e ▸ hb)⟩) (fun x hx => (hd.out x (C9 x hx)).1) ?_ ?_ ?_
 · exact hd.sep.sublist (List.Sublist.append_left (List.sublist_cons_self ..) _)
 · rw [hd.files, Row.XM hd.names]
 · have := hd.cnt; simp at this ⊢; omega
theorem U5 {s : ByteArray} {f : Fl} {b0 b1 : Nat} (h0 : (σ.off S) b0 = some (.cells #[.pointer (some ⟨d, 0, none⟩)] 106 (0, 0))) (h1 : (σ.off S) b1 = some (.cells #[.string s] 9 (0, 0))) (hf : D.files s = some f) :
   ff σ d D S 233 #[.pointer (some ⟨b0, 0, none⟩), .pointer (some ⟨b1, 0, none⟩)] (BG D.files s none) D.cnt := fun σ1 hd hx R h => by
 obtain ⟨m, cl, rows, T, a, b, e, hd⟩ := hd
 have Y4 := Hp.AH.1 (hx _ _ h0)
 have XO := Hp.AH.1 (hx _ _ h1)
 refine HK.start ⟨_, AD Y4.2 rfl, d, 0, rfl, some m, AD hd.obj rfl, s, AD XO.2 rfl, L0 (T := 186) hd.map (fun hn => ?_) (fun l1 x l2 hl hx σ' hσ hm => ?_) rfl⟩
 · exfalso
   rw [hd.files, Row.Fv (Is hn)] at hf; cases hf
 · obtain ⟨r1, r, r2, rfl, rfl, rfl, rfl⟩ := El hl
   have key := hd.ALD (σ' := σ') (fun b hb => by rw [hσ, Hp.AF hb]) (by simpa using hm)
   rw [Gs.1 hx] at key
   exact h _ _ ⟨_, _, _, _, _, _, _, key.1⟩ key.2
theorem Oj {s : ByteArray} {f : Fl} (hd : A3 σ d D S) (Ev : D.up = true) (hn : Ae s = true) (hf : D.files s = some f)
   (hw : Wr σ S d D (BG D.files s none) D.files D.cnt R) : Spec prog 138 #[.pointer (some ⟨d, 0, none⟩), .string s] σ R := by
 refine Ij.start fun b3 U4 b4 fh => ?_
 obtain ⟨q3, d3, x3⟩ := F6 (o := .cells #[.pointer (some ⟨d, 0, none⟩)] 106 (0, 0)) hd U4
 obtain ⟨q4, d4, x4⟩ := F6 (o := .cells #[.string s] 9 (0, 0)) d3 fh
 have Y5 := x4 _ _ q3
 refine ⟨_, AD (Hp.AH.1 Y5).2 rfl, JR d4 Ev ALB ALC yd (fun R h => HH.start ⟨_, AD (Hp.AH.1 Y5).2 rfl, s, AD (Hp.AH.1 q4).2 rfl, JQ d4 (fun hh => by rw [hn] at hh; cases hh) (fun _ hh => by rw [hf] at hh; cases hh) fun f' _ _ => ⟨0, rfl, h⟩⟩)
   (U5 Y5 q4 hf) (JS (Nat.le_refl _)) ⟨fun σ' S' hD hE => ⟨0, rfl, hw.ok σ' S' hD (x3.trans (x4.trans hE))⟩, fun ha σ' S' gs hg hD hE => ⟨60, rfl, hw.bad ha σ' S' gs hg hD (x3.trans (x4.trans hE))⟩⟩⟩
def fi (L : List (List Nat)) : Prop := L.Pairwise fun a b => ∀ x ∈ a, x ∉ b
theorem N5 {L L' : List (List Nat)} (h : L.Perm L') (g : fi L) : fi L' := (h.pairwise_iff (fun {x y} hxy b hb Js => hxy b Js hb)).1 g
theorem N6 {rows : List Row} : (rows.Pairwise fun r s => ∀ b ∈ r.blocks, b ∉ s.blocks) ↔ fi (rows.map Row.blocks) := by rw [fi, List.pairwise_map]
theorem Qt {r q : Row} : ∀ {r1 r2 q1 q2 : List Row}, ((r1 ++ r :: r2).map (·.name)).Nodup → r1 ++ r :: r2 = q1 ++ q :: q2 → r.name = q.name → r1 = q1 ∧ r = q ∧ r2 = q2
 | [], _, [], _, _, h, _ => by simp at h; exact ⟨rfl, h⟩
 | [], r2, c :: q1, q2, hn, h, he => by
   simp at h
   obtain ⟨rfl, rfl⟩ := h
   exact absurd he.symm ((Hq (r1 := []) hn).2 q (by simp))
 | c :: r1, r2, [], q2, hn, h, he => by
   simp at h
   obtain ⟨rfl, rfl⟩ := h
   exact absurd he.symm ((Hq hn).1 c (by simp))
 | c :: r1, r2, c' :: q1, q2, hn, h, he => by
   simp at h
   obtain ⟨rfl, h⟩ := h
   have := Qt (by simp at hn ⊢; exact hn.2) h he
   exact ⟨by rw [this.1], this.2⟩
theorem U6 {s t : ByteArray} {f : Fl} {b0 b1 b2 : Nat} (hnt : Ae t = true) (h0 : (σ.off S) b0 = some (.cells #[.pointer (some ⟨d, 0, none⟩)] 106 (0, 0))) (h1 : (σ.off S) b1 = some (.cells #[.string s] 9 (0, 0))) (h2 : (σ.off S) b2 = some (.cells #[.string t] 9 (0, 0))) (hf : D.files s = some f) :
   ff σ d D S 293 #[.pointer (some ⟨b0, 0, none⟩), .pointer (some ⟨b1, 0, none⟩), .pointer (some ⟨b2, 0, none⟩)] (BG (BG D.files s none) t (some f)) D.cnt := fun σ1 hd hx R h => by
 obtain ⟨m, cl, rows, T, a, b, e, hd⟩ := hd
 have h0 := hx _ _ h0
 have h1 := hx _ _ h1
 have h2 := hx _ _ h2
 have Y4 := Hp.AH.1 h0
 have XO := Hp.AH.1 h1
 have fg := Hp.AH.1 h2
 have n0 : b0 ≠ m := fun e => Y4.1 (e ▸ hd.Mu)
 have n2 : b2 ≠ m := fun e => fg.1 (e ▸ hd.Mu)
 refine HI.start ⟨_, AD Y4.2 rfl, d, 0, rfl, some m, AD hd.obj rfl, s, AD XO.2 rfl, hd.look (fun hn Jj => (by rw [hf] at Jj; cases Jj)) fun r1 r r2 CR FI Jj => ⟨_, rfl, _, AD Y4.2 rfl, d, 0, rfl, some m, AD hd.obj rfl, s, AD XO.2 rfl, ?_⟩⟩
 refine L0 (T := 186) hd.map (fun hn => ?_) (fun l1 x l2 hl An σ2 Zs ye => ?_) rfl
 · exfalso
   rw [hd.files, Row.Fv (Is hn)] at hf; cases hf
 · obtain ⟨q1, q, q2, yf, rfl, rfl, rfl⟩ := El hl
   have Jm := hd.names
   rw [CR] at Jm
   obtain ⟨rfl, rfl, rfl⟩ := Qt Jm (CR.symm.trans yf) (FI.trans (Gs.1 An).symm)
   subst CR
   have C9 : ∀ x ∈ r1 ++ r2, x ∈ r1 ++ r :: r2 := fun x hx => by
     rcases List.mem_append.1 hx with h | h <;> simp [h]
   have Cl : ∀ x ∈ r1 ++ r :: r2, ∀ b ∈ x.blocks, b ∈ S ∧ b ≠ d ∧ b ≠ m := fun x hx b hb => ⟨hd.Oe hx hb, fun e => (hd.out x hx).2.1 (e ▸ hb), fun e => (hd.out x hx).2.2 (e ▸ hb)⟩
   have AEg : ((r1 ++ r2).map (·.name)).Nodup := Jm.sublist ((List.Sublist.append_left (List.sublist_cons_self ..) _).map _)
   rw [hf] at Jj
   cases Jj
   have lP : fi ((r :: (r1 ++ r2)).map Row.blocks) := N5 (List.perm_middle.map _) (N6.1 hd.sep)
   have OJ : BG D.files s none = Row.look (r1 ++ r2) := by rw [hd.files, Row.XM Jm, FI]
   have hlen : (r1 ++ r2).length + 1 ≤ D.cnt := by have := hd.cnt; simp at this ⊢; omega
   have rU : Av σ2 m ((r1 ++ r2).map Row.CY) cl := by simpa using ye
   refine ⟨_, AD (by rw [Zs, Hp.AF n0]; exact Y4.2) rfl, d, 0, rfl, some m, AD (by rw [Zs, Hp.AF (Ne.symm hd.ne)]; exact hd.obj) rfl, t, AD (by rw [Zs, Hp.AF n2]; exact fg.2) rfl, DT rU (fun Be σ3 yh hm => ?_) fun k1 x k2 hk fj σ3 yh hm => ?_⟩
   · have key := hd.lK (σ' := σ3) (rows' := (r1 ++ r2) ++ [{ r with name := t, born := cl }]) (clock' := cl + 1) (fs := BG (BG D.files s none) t (some r.fl)) (cnt := D.cnt) (fun b hb => by rw [yh, Hp.AF hb, Zs, Hp.AF hb]) (by simpa [Row.CY] using hm) ?_ ?_ ?_ ?_ ?_ ?_
     · exact h σ3 _ ⟨_, _, _, _, _, _, _, key.1⟩ key.2
     · intro x hx
       rcases List.mem_append.1 hx with hx | hx
       · exact hd.row x (C9 x hx)
       · rw [List.mem_singleton] at hx; subst hx
         have := hd.row r (by simp)
         exact ⟨this.obj, this.own, this.GY, this.small, hnt⟩
     · intro x hx
       rcases List.mem_append.1 hx with hx | hx
       · exact Cl x (C9 x hx)
       · rw [List.mem_singleton] at hx; subst hx
         exact Cl r (by simp)
     · intro x hx
       rcases List.mem_append.1 hx with hx | hx
       · exact (hd.out x (C9 x hx)).1
       · rw [List.mem_singleton] at hx; subst hx
         exact (hd.out r (by simp)).1
     · rw [N6]
       refine N5 ?_ lP
       rw [List.map_cons, List.map_append (l₁ := r1 ++ r2)]
       exact (List.perm_append_singleton (Row.blocks r) _).symm
     · rw [OJ]
       exact (Row.Td (r := { r with name := t, born := cl }) (fun x hx => Is Be x hx)).symm
     · simp at hlen ⊢; omega
   · obtain ⟨q1, q, q2, hq, rfl, rfl, rfl⟩ := El hk
     rw [hq] at C9 AEg lP OJ hlen
     have key := hd.lK (σ' := σ3) (rows' := q1 ++ { r with name := t, born := q.born } :: q2) (clock' := cl) (fs := BG (BG D.files s none) t (some r.fl)) (cnt := D.cnt) (fun b hb => by rw [yh, Hp.AF hb, Zs, Hp.AF hb]) (by simpa [Row.CY] using hm) ?_ ?_ ?_ ?_ ?_ ?_
     · exact h σ3 _ ⟨_, _, _, _, _, _, _, key.1⟩ key.2
     · intro x hx
       rcases List.mem_append.1 hx with hx | hx
       · exact hd.row x (C9 x (by simp [hx]))
       · rcases List.mem_cons.1 hx with rfl | hx
         · have := hd.row r (by simp)
           exact ⟨this.obj, this.own, this.GY, this.small, hnt⟩
         · exact hd.row x (C9 x (by simp [hx]))
     · intro x hx
       rcases List.mem_append.1 hx with hx | hx
       · exact Cl x (C9 x (by simp [hx]))
       · rcases List.mem_cons.1 hx with rfl | hx
         · exact Cl r (by simp)
         · exact Cl x (C9 x (by simp [hx]))
     · intro x hx
       rcases List.mem_append.1 hx with hx | hx
       · exact (hd.out x (C9 x (by simp [hx]))).1
       · rcases List.mem_cons.1 hx with rfl | hx
         · exact (hd.out r (by simp)).1
         · exact (hd.out x (C9 x (by simp [hx]))).1
     · rw [N6]
       have h1 : fi ((r :: (q1 ++ q2)).map Row.blocks) := lP.sublist (((List.Sublist.append_left (List.sublist_cons_self ..) _).cons₂ r).map _)
       refine N5 ?_ h1
       rw [List.map_cons, List.map_append, List.map_append, List.map_cons]
       exact List.perm_middle.symm
     · rw [OJ, ← Gs.1 fj]
       exact (Row.Og (r' := { r with name := q.name, born := q.born }) AEg rfl).symm
     · simp at hlen ⊢; omega
theorem XU {s t : ByteArray} {f : Fl} (hd : A3 σ d D S) (Ev : D.up = true) (hn : Ae s = true) (J1 : Ae t = true) (hf : D.files s = some f)
   (hw : Wr σ S d D (BG (BG D.files s none) t (some f)) D.files D.cnt R) : Spec prog 231 #[.pointer (some ⟨d, 0, none⟩), .string s, .string t] σ R := by
 refine Ih.start fun b3 U4 b4 fh b5 XT => ?_
 obtain ⟨q3, d3, x3⟩ := F6 (o := .cells #[.pointer (some ⟨d, 0, none⟩)] 106 (0, 0)) hd U4
 obtain ⟨q4, d4, x4⟩ := F6 (o := .cells #[.string s] 9 (0, 0)) d3 fh
 obtain ⟨q5, d5, x5⟩ := F6 (o := .cells #[.string t] 9 (0, 0)) d4 XT
 have Y5 := x5 _ _ (x4 _ _ q3)
 have q4' := x5 _ _ q4
 refine ⟨_, AD (Hp.AH.1 Y5).2 rfl, JR d5 Ev AEe AEf yd (fun R h => G8.start ⟨t, AD (Hp.AH.1 q5).2 rfl, Kq ⟨_, rfl, fun hh => (by rw [J1] at hh; cases hh), fun _ => ⟨_, AD (Hp.AH.1 Y5).2 rfl, s, AD (Hp.AH.1 q4').2 rfl,
     JQ d5 (fun hh => by rw [hn] at hh; cases hh) (fun _ hh => by rw [hf] at hh; cases hh) fun f' _ _ => ⟨0, rfl, h⟩⟩⟩⟩)
   (U6 J1 Y5 q4' q5 hf) (JS (Nat.le_refl _)) ⟨fun σ' S' hD hE => ⟨0, rfl, hw.ok σ' S' hD (x3.trans (x4.trans (x5.trans hE)))⟩, fun ha σ' S' gs hg hD hE => ⟨60, rfl, hw.bad ha σ' S' gs hg hD (x3.trans (x4.trans (x5.trans hE)))⟩⟩⟩
end
end TwW
end
section
namespace TwW
open Go Tw Go.Proofs.Tryz
section
variable {σ : Hp} {d : Nat} {D : Dk} {S : List Nat} {R : Rr}
theorem SR (h : ∀ d σ' S', A3 σ' d ⟨fun _ => none, true, false, 0⟩ S' → Ext σ (σ'.off S') → R (.returned (.pointer (some ⟨d, 0, none⟩))) σ') : Spec prog 42 #[] σ R := by
 refine XB.start (Hg fun m hm => ⟨m, rfl, fun d hd => ?_⟩)
 have Ad : m ≠ d := fun e => by rw [e, Hp.AA] at hd; cases hd
 have hd' : σ d = none := by rw [Hp.AF (Ne.symm Ad)] at hd; exact hd
 refine h d _ [d, m] ⟨m, 0, [], 188, 0, 0, 0, ⟨rfl, Ad, by simp, by simp, Hp.AA _ _ _, ?_, by simp, rfl, Nat.le_refl _⟩⟩ ((Ext.set hm).trans (Ext.set hd) |>.UY (by simp [hm, hd']))
 exact Av.fresh.loc (Hp.AF Ad)
theorem dH (hd : A3 σ d D S) (h : R (.returned (.bool D.up)) σ) : Spec prog 91 #[.pointer (some ⟨d, 0, none⟩)] σ R := by
 obtain ⟨m, cl, rows, T, a, b, e, hd⟩ := hd
 exact Mk.start ⟨d, 0, rfl, _, AD hd.obj rfl, h⟩
theorem fk {s : ByteArray} {f : Fl} (hd : A3 σ d D S) (Ev : D.up = true) (hn : Ae s = true) (hf : D.files s = some f)
   (h : ∀ p c σ', AS .u8 (σ.new σ') p f.data.length c f.data → Ext σ σ' → R (.returned (.tuple #[.slice p f.data.length c, .int .i64 0])) σ') : Spec prog 176 #[.pointer (some ⟨d, 0, none⟩), .string s] σ R := by
 have hd' := hd
 obtain ⟨m, cl, rows, T, a, b, e, hdi⟩ := hd'
 refine KL.start ⟨d, 0, rfl, _, AD hdi.obj rfl, fun hh => (by rw [Ev] at hh; cases hh), fun _ => JQ hd (fun hh => by rw [hn] at hh; cases hh) (fun _ hh => by rw [hf] at hh; cases hh) fun f' _ _ => ⟨0, rfl, fun hh => absurd rfl hh, fun _ Nt hb => ?_⟩⟩
 have PN := hdi.mono (σ' := σ.set Nt (.cells #[] 5 (0, 0))) (.set hb)
 refine ⟨some m, AD PN.obj rfl, PN.look (fun _ Jj => by rw [hf] at Jj; cases Jj) fun r1 r r2 CR FI Jj => ⟨_, rfl, r.f, 0, rfl, r.p, r.n, r.c, ?_⟩⟩
 rw [hf] at Jj
 cases Jj
 have hr := PN.row r (by simp [CR])
 refine ⟨AD hr.obj rfl, ?_⟩
 have Fy : r.n ≤ 140737488355328 := Nat.le_trans hr.small (by decide)
 have hq : ∀ a : Addr, (some (⟨Nt, 0, none⟩ : Addr)) = some a → σ a.block = none := fun a ha => by cases ha; exact hb
 refine Ec (T := 84) Own.empty (Own.rd hr.own) CU.Cs (by rw [Nat.zero_add, Nat.mul_one]; exact Fy) fun p' c' σ' Aa EU => ⟨p', _, c', rfl, ?_⟩
 rw [Nat.zero_add] at Aa ⊢
 exact h p' c' σ' (Own.CV Aa (B2 hq EU (.set hb))) (CX hq EU (.set hb))
theorem AEh {s : ByteArray} {h : Nat} (hh : h ≤ s.size) : YF prog (Instr.sliceAt 9 (.string s) none (some (.int .i64 (h : Int))) none) σ (.string (s.extract 0 h)) := fun w _ => by
 rw [run_sliceAt_string (h := underlying9)]
 have h1 : (h : Int) ≤ s.size := by omega
 simp [Instr.slice, run_underlying underlying9, Instr.sliceBounds, run_sliceBound, h1, Result.andThen]
theorem rV {s : ByteArray} {l : Nat} (hl : l ≤ s.size) : YF prog (Instr.sliceAt 9 (.string s) (some (.int .i64 (l : Int))) none none) σ (.string (s.extract l s.size)) := fun w _ => by
 rw [run_sliceAt_string (h := underlying9)]
 have h1 : (l : Int) ≤ s.size := by omega
 simp [Instr.slice, run_underlying underlying9, Instr.sliceBounds, run_sliceBound, h1, Result.andThen]
def BR (s t : ByteArray) : Bool := decide (t.data.toList <+: s.data.toList)
theorem XV {s : ByteArray} {i j : Nat} : (s.extract i j).data.toList = (s.data.toList.drop i).take (j - i) := by
 rw [ByteArray.data_extract, Array.toList_extract, List.extract]
theorem Qu {a b : ByteArray} : (ByteArray.toList a == ByteArray.toList b) = decide (a.data.toList = b.data.toList) := by
 rw [ByteArray.toList_eq, ByteArray.toList_eq]
 by_cases h : a.data.toList = b.data.toList
 · simp [h]
 · rw [decide_eq_false h]; exact beq_eq_false_iff_ne.2 h
theorem Qv {s t : ByteArray} (h : R (.returned (.bool (BR s t))) σ) : Spec prog 169 #[.string s, .string t] σ R := by
 have hs : s.data.toList.length = s.size := rfl
 have ht : t.data.toList.length = t.size := rfl
 refine Cy.start ⟨fun hle => ⟨_, AEh (by omega), ?_⟩, fun hgt => ?_⟩
 · rw [Qu, XV]
   have : (List.take (t.size - 0) (List.drop 0 s.data.toList) = t.data.toList) ↔ t.data.toList <+: s.data.toList := by
     rw [List.drop_zero, Nat.sub_zero, ← ht]
     exact ⟨fun e => e ▸ List.take_prefix _ _, fun e => (List.prefix_iff_eq_take.1 e).symm⟩
   rw [show decide (List.take (t.size - 0) (List.drop 0 s.data.toList) = t.data.toList) = BR s t from decide_eq_decide.2 this]
   exact h
 · have : BR s t = false := by
     unfold BR
     rw [decide_eq_false_iff_not]
     intro e
     have := e.length_le
     omega
   rwa [this] at h
theorem fm {s t : ByteArray} (h : R (.returned (.bool (BR s t))) σ) : Spec prog 92 #[.string s, .string t] σ R :=
 strings_HasPrefix.start (Qv ⟨_, rfl, h⟩)
theorem fp {s t : ByteArray} (h0 : BR s t = false → R (.returned (.tuple #[.string s, .bool false])) σ) (h1 : BR s t = true → R (.returned (.tuple #[.string (s.extract t.size s.size), .bool true])) σ) : Spec prog 300 #[.string s, .string t] σ R := by
 refine strings_CutPrefix.start (C3.start (Qv ⟨_, rfl, fun hf => ⟨_, _, rfl, h0 hf⟩, fun ht => ⟨_, rV ?_, _, _, rfl, h1 ht⟩⟩))
 have : t.data.toList <+: s.data.toList := by simpa [BR] using ht
 exact this.length_le
end
end TwW
end
section
namespace Go.Proofs
open Go.Shelf
def Tryz.XW : Go.Shelf.Ren := ⟨fun | 172 => 301 | 244 => 318 | 245 => 319 | 247 => 337 | 279 => 338 | 280 => 339 | 281 => 340 | 282 => 341 | 287 => 352 | 316 => 353 | 171 => 355 | 205 => 354 | 321 => 359 | 322 => 360 | 243 => 361 | 246 => 362 | 283 => 215 | 284 => 216 | 285 => 217 | 286 => 218 | 129 => 211 | 317 => 285 | 318 => 286 | 319 => 287 | 320 => 288 | 337 => 313 | 338 => 314 | n => n, fun | 9 => 9 | 3 => 3 | 75 => 346 | 76 => 347 | 4 => 4 | 5 => 5 | 167 => 373 | 37 => 84 | 0 => 0 | 85 => 374 | 2 => 2 | 168 => 376 | 53 => 23 | 175 => 392 | 46 => 205 | 210 => 396 | 127 => 391 | 145 => 405 | 143 => 403 | 21 => 21 | 171 => 290 | 173 => 292 | 212 => 336 | 51 => 70 | 20 => 20 | 213 => 337 | 232 => 366 | 233 => 367 | 80 => 301 | n => n, fun | 15 => 4 | 16 => 5 | 17 => 1 | 18 => 2 | 19 => 3 | n => n⟩
theorem Tryz.rW : Go.Proofs.Lays.n172 Tryz.prog Tryz.XW := {
 mixed := by kernel_rfl
 f129 := Tryz.func211.trans (congrArg some (by kernel_rfl))
 f171 := Tryz.func355.trans (congrArg some (by kernel_rfl))
 f172 := Tryz.func301.trans (congrArg some (by kernel_rfl))
 f205 := Tryz.func354.trans (congrArg some (by kernel_rfl))
 f243 := Tryz.func361.trans (congrArg some (by kernel_rfl))
 f244 := Tryz.func318.trans (congrArg some (by kernel_rfl))
 f245 := Tryz.func319.trans (congrArg some (by kernel_rfl))
 f246 := Tryz.func362.trans (congrArg some (by kernel_rfl))
 f247 := Tryz.func337.trans (congrArg some (by kernel_rfl))
 f279 := Tryz.func338.trans (congrArg some (by kernel_rfl))
 f280 := Tryz.func339.trans (congrArg some (by kernel_rfl))
 f281 := Tryz.func340.trans (congrArg some (by kernel_rfl))
 f282 := Tryz.func341.trans (congrArg some (by kernel_rfl))
 f283 := Tryz.func215.trans (congrArg some (by kernel_rfl))
 f284 := Tryz.func216.trans (congrArg some (by kernel_rfl))
 f285 := Tryz.func217.trans (congrArg some (by kernel_rfl))
 f286 := Tryz.func218.trans (congrArg some (by kernel_rfl))
 f287 := Tryz.func352.trans (congrArg some (by kernel_rfl))
 f316 := Tryz.func353.trans (congrArg some (by kernel_rfl))
 f317 := Tryz.func285.trans (congrArg some (by kernel_rfl))
 f318 := Tryz.func286.trans (congrArg some (by kernel_rfl))
 f319 := Tryz.func287.trans (congrArg some (by kernel_rfl))
 f320 := Tryz.func288.trans (congrArg some (by kernel_rfl))
 f321 := Tryz.func359.trans (congrArg some (by kernel_rfl))
 f322 := Tryz.func360.trans (congrArg some (by kernel_rfl))
 f337 := Tryz.func313.trans (congrArg some (by kernel_rfl))
 f338 := Tryz.func314.trans (congrArg some (by kernel_rfl))
 t0 := Tryz.underlying0
 a0 := Tryz.isAgg0
 z0 := Tryz.sizeOf0
 v0 := Tryz.zeroValue0
 t2 := Tryz.underlying2
 a2 := Tryz.isAgg2
 z2 := Tryz.sizeOf2
 v2 := Tryz.zeroValue2
 t3 := Tryz.underlying3
 a3 := Tryz.isAgg3
 z3 := Tryz.sizeOf3
 v3 := Tryz.zeroValue3
 t4 := Tryz.underlying4
 a4 := Tryz.isAgg4
 z4 := Tryz.sizeOf4
 v4 := Tryz.zeroValue4
 t5 := Tryz.underlying5
 a5 := Tryz.isAgg5
 z5 := Tryz.sizeOf5
 v5 := Tryz.zeroValue5
 t9 := Tryz.underlying9
 a9 := Tryz.isAgg9
 z9 := Tryz.sizeOf9
 v9 := Tryz.zeroValue9
 t20 := Tryz.underlying20
 a20 := Tryz.isAgg20
 z20 := Tryz.sizeOf20
 v20 := Tryz.zeroValue20
 t21 := Tryz.underlying21
 a21 := Tryz.isAgg21
 z21 := Tryz.sizeOf21
 v21 := Tryz.zeroValue21
 t37 := Tryz.underlying84
 a37 := Tryz.isAgg84
 z37 := Tryz.sizeOf84
 v37 := Tryz.zeroValue84
 t46 := Tryz.underlying205
 a46 := Tryz.isAgg205
 z46 := Tryz.sizeOf205
 v46 := Tryz.zeroValue205
 t51 := Tryz.underlying70
 a51 := Tryz.isAgg70
 z51 := Tryz.sizeOf70
 v51 := Tryz.zeroValue70
 t53 := Tryz.underlying23
 a53 := Tryz.isAgg23
 z53 := Tryz.sizeOf23
 v53 := Tryz.zeroValue23
 t75 := Tryz.underlying346
 a75 := Tryz.isAgg346
 z75 := Tryz.sizeOf346
 v75 := Tryz.zeroValue346
 t76 := Tryz.underlying347
 a76 := Tryz.isAgg347
 z76 := Tryz.sizeOf347
 v76 := Tryz.zeroValue347
 t85 := Tryz.underlying374
 a85 := Tryz.isAgg374
 z85 := Tryz.sizeOf374
 v85 := Tryz.zeroValue374
 t127 := Tryz.underlying391
 a127 := Tryz.isAgg391
 z127 := Tryz.sizeOf391
 v127 := Tryz.zeroValue391
 t143 := Tryz.underlying403
 a143 := Tryz.isAgg403
 z143 := Tryz.sizeOf403
 v143 := Tryz.zeroValue403
 t145 := Tryz.underlying405
 a145 := Tryz.isAgg405
 z145 := Tryz.sizeOf405
 v145 := Tryz.zeroValue405
 t167 := Tryz.underlying373
 a167 := Tryz.isAgg373
 z167 := Tryz.sizeOf373
 v167 := Tryz.zeroValue373
 t168 := Tryz.underlying376
 a168 := Tryz.isAgg376
 z168 := Tryz.sizeOf376
 v168 := Tryz.zeroValue376
 t171 := Tryz.underlying290
 a171 := Tryz.isAgg290
 z171 := Tryz.sizeOf290
 v171 := Tryz.zeroValue290
 t173 := Tryz.underlying292
 a173 := Tryz.isAgg292
 z173 := Tryz.sizeOf292
 v173 := Tryz.zeroValue292
 t175 := Tryz.underlying392
 a175 := Tryz.isAgg392
 z175 := Tryz.sizeOf392
 v175 := Tryz.zeroValue392
 t210 := Tryz.underlying396
 a210 := Tryz.isAgg396
 z210 := Tryz.sizeOf396
 v210 := Tryz.zeroValue396
 t212 := Tryz.underlying336
 a212 := Tryz.isAgg336
 z212 := Tryz.sizeOf336
 v212 := Tryz.zeroValue336
 t213 := Tryz.underlying337
 a213 := Tryz.isAgg337
 z213 := Tryz.sizeOf337
 t232 := Tryz.underlying366
 a232 := Tryz.isAgg366
 z232 := Tryz.sizeOf366
 v232 := Tryz.zeroValue366
 t233 := Tryz.underlying367
 a233 := Tryz.isAgg367
 z233 := Tryz.sizeOf367
 v233 := Tryz.zeroValue367
 g15 := by kernel_rfl
 g16 := by kernel_rfl
 g17 := by kernel_rfl
 g18 := by kernel_rfl
 g19 := by kernel_rfl }
open Go.RowKit in
theorem Tryz.strconv_Atoi (s : ByteArray) (n : Int) (hl : s.size ≤ 18) (h : Lib.atoi s.data.toList = some n) (w : World) :
   Calls Tryz.prog 301 #[.string s] w fun e w' => e = .returned (.tuple #[.int .i64 n, .nilIface]) ∧ ∃ t, w' = Lib.bytesWorld w 5 t := Any.strconv_Atoi Tryz.rW s n hl h w
def Tryz.XX : Go.Shelf.Ren := ⟨fun | 283 => 215 | n => n, fun | 3 => 3 | 9 => 9 | 4 => 4 | n => n, fun | n => n⟩
theorem Tryz.rX : Go.Proofs.Lays.n283 Tryz.prog Tryz.XX := {
 mixed := by kernel_rfl
 f283 := Tryz.func215.trans (congrArg some (by kernel_rfl))
 t3 := Tryz.underlying3
 a3 := Tryz.isAgg3
 z3 := Tryz.sizeOf3
 v3 := Tryz.zeroValue3
 t4 := Tryz.underlying4
 a4 := Tryz.isAgg4
 z4 := Tryz.sizeOf4
 v4 := Tryz.zeroValue4
 t9 := Tryz.underlying9
 a9 := Tryz.isAgg9
 z9 := Tryz.sizeOf9
 v9 := Tryz.zeroValue9 }
open Go.Lib in
theorem Tryz.internal_strconv_small (i : Nat) (h : i < 100) (w : World) :
   Calls Tryz.prog 215 #[.int .i64 i] w fun e w' => e = .returned (.string ⟨(Lib.decDigits i).toArray⟩) ∧ w' = w := Any.internal_strconv_small Tryz.rX i h w
def Tryz.U7 : Go.Shelf.Ren := ⟨fun | 284 => 216 | 129 => 211 | 317 => 285 | 318 => 286 | n => n, fun | 53 => 23 | 3 => 3 | 212 => 336 | 0 => 0 | 4 => 4 | 46 => 205 | 5 => 5 | 9 => 9 | n => n, fun | 17 => 1 | n => n⟩
theorem Tryz.lQ : Go.Proofs.LaysM.n284 Tryz.prog Tryz.U7 := {
 mixed := by kernel_rfl
 f129 := Tryz.func211.trans (congrArg some (by kernel_rfl))
 f284 := Tryz.func216.trans (congrArg some (by kernel_rfl))
 f317 := Tryz.func285.trans (congrArg some (by kernel_rfl))
 f318 := Tryz.func286.trans (congrArg some (by kernel_rfl))
 t0 := Tryz.underlying0
 a0 := Tryz.isAgg0
 z0 := Tryz.sizeOf0
 v0 := Tryz.zeroValue0
 t3 := Tryz.underlying3
 a3 := Tryz.isAgg3
 z3 := Tryz.sizeOf3
 v3 := Tryz.zeroValue3
 t4 := Tryz.underlying4
 a4 := Tryz.isAgg4
 z4 := Tryz.sizeOf4
 v4 := Tryz.zeroValue4
 t5 := Tryz.underlying5
 a5 := Tryz.isAgg5
 z5 := Tryz.sizeOf5
 v5 := Tryz.zeroValue5
 t9 := Tryz.underlying9
 a9 := Tryz.isAgg9
 z9 := Tryz.sizeOf9
 v9 := Tryz.zeroValue9
 t46 := Tryz.underlying205
 a46 := Tryz.isAgg205
 z46 := Tryz.sizeOf205
 v46 := Tryz.zeroValue205
 t53 := Tryz.underlying23
 a53 := Tryz.isAgg23
 z53 := Tryz.sizeOf23
 v53 := Tryz.zeroValue23
 t212 := Tryz.underlying336
 a212 := Tryz.isAgg336
 z212 := Tryz.sizeOf336
 v212 := Tryz.zeroValue336
 g17 := by kernel_rfl
 i0 := by kernel_rfl
 i3 := by kernel_rfl
 i4 := by kernel_rfl
 i5 := by kernel_rfl
 i9 := by kernel_rfl
 i46 := by kernel_rfl
 i53 := by kernel_rfl
 i212 := by kernel_rfl
 m17 := by kernel_rfl }
open Go.Lib in
theorem Tryz.internal_strconv_numDigits (u : Nat) (h1 : 1 ≤ u) (h2 : u < 18446744073709551616) (w : World) (ALF : Lib.TabIs Tryz.prog w "internal/strconv.uint64pow10" .u64 Lib.pow10Tab) :
   Calls Tryz.prog 216 #[.int .u64 u] w fun e w' => e = .returned (.int .i64 (Lib.nDigits u)) ∧ w' = w := Any.internal_strconv_numDigits Tryz.lQ u h1 h2 w ALF
def Tryz.XY : Go.Shelf.Ren := ⟨fun | 285 => 217 | n => n, fun | 37 => 84 | 53 => 23 | 3 => 3 | 4 => 4 | 51 => 70 | 9 => 9 | 5 => 5 | 0 => 0 | n => n, fun | n => n⟩
theorem Tryz.rY : Go.Proofs.Lays.n285 Tryz.prog Tryz.XY := {
 mixed := by kernel_rfl
 f285 := Tryz.func217.trans (congrArg some (by kernel_rfl))
 t0 := Tryz.underlying0
 a0 := Tryz.isAgg0
 z0 := Tryz.sizeOf0
 v0 := Tryz.zeroValue0
 t3 := Tryz.underlying3
 a3 := Tryz.isAgg3
 z3 := Tryz.sizeOf3
 v3 := Tryz.zeroValue3
 t4 := Tryz.underlying4
 a4 := Tryz.isAgg4
 z4 := Tryz.sizeOf4
 v4 := Tryz.zeroValue4
 t5 := Tryz.underlying5
 a5 := Tryz.isAgg5
 z5 := Tryz.sizeOf5
 v5 := Tryz.zeroValue5
 t9 := Tryz.underlying9
 a9 := Tryz.isAgg9
 z9 := Tryz.sizeOf9
 v9 := Tryz.zeroValue9
 t37 := Tryz.underlying84
 a37 := Tryz.isAgg84
 z37 := Tryz.sizeOf84
 v37 := Tryz.zeroValue84
 t51 := Tryz.underlying70
 a51 := Tryz.isAgg70
 z51 := Tryz.sizeOf70
 v51 := Tryz.zeroValue70
 t53 := Tryz.underlying23
 a53 := Tryz.isAgg23
 z53 := Tryz.sizeOf23
 v53 := Tryz.zeroValue23 }
open Go.RowKit Go.Sort Go.Lib in
theorem Tryz.internal_strconv_formatBase10 (DJ off cap : Nat) (u : Nat) (d : Array UInt8) (w : World) (hH : Holds (fun (b : UInt8) => Value.int .u8 (b.toNat : Int)) w DJ off d) (hu : u < 10 ^ d.size) (ALG : u < 18446744073709551616) (Ee : d.size < 4611686018427387904) :
   Calls Tryz.prog 217 #[.slice (some ⟨DJ, off, none⟩) d.size cap, .int .u64 u] w fun e w' =>
     e = .returned (.tuple #[]) ∧ ∃ (n v' : Nat) (dk : Array UInt8), w' = (putRow (fun (b : UInt8) => Value.int .u8 (b.toNat : Int)) w DJ off dk).drewN n ∧ FmtInv d.size u 0 v' dk := Any.internal_strconv_formatBase10 Tryz.rY DJ off cap u d w hH hu ALG Ee
def Tryz.XZ : Go.Shelf.Ren := ⟨fun | 190 => 93 | 125 => 113 | 258 => 170 | 128 => 210 | 129 => 211 | 302 => 248 | 303 => 249 | 304 => 250 | 305 => 251 | 306 => 252 | 307 => 253 | 308 => 254 | 309 => 255 | 310 => 256 | 333 => 296 | 329 => 273 | 330 => 274 | 334 => 297 | 335 => 298 | 336 => 299 | 344 => 316 | n => n, fun | 31 => 97 | 9 => 9 | 3 => 3 | 46 => 205 | 0 => 0 | 51 => 70 | 53 => 23 | 4 => 4 | 183 => 280 | 182 => 279 | 131 => 151 | 5 => 5 | 218 => 325 | 222 => 328 | 228 => 351 | 229 => 352 | n => n, fun | n => n⟩
theorem Tryz.dI : Go.Proofs.Lays.n190 Tryz.prog Tryz.XZ := {
 mixed := by kernel_rfl
 f125 := Tryz.func113.trans (congrArg some (by kernel_rfl))
 f128 := Tryz.func210.trans (congrArg some (by kernel_rfl))
 f129 := Tryz.func211.trans (congrArg some (by kernel_rfl))
 f190 := Tryz.func93.trans (congrArg some (by kernel_rfl))
 f258 := Tryz.func170.trans (congrArg some (by kernel_rfl))
 f302 := Tryz.func248.trans (congrArg some (by kernel_rfl))
 f303 := Tryz.func249.trans (congrArg some (by kernel_rfl))
 f304 := Tryz.func250.trans (congrArg some (by kernel_rfl))
 f305 := Tryz.func251.trans (congrArg some (by kernel_rfl))
 f306 := Tryz.func252.trans (congrArg some (by kernel_rfl))
 f307 := Tryz.func253.trans (congrArg some (by kernel_rfl))
 f308 := Tryz.func254.trans (congrArg some (by kernel_rfl))
 f309 := Tryz.func255.trans (congrArg some (by kernel_rfl))
 f310 := Tryz.func256.trans (congrArg some (by kernel_rfl))
 f329 := Tryz.func273.trans (congrArg some (by kernel_rfl))
 f330 := Tryz.func274.trans (congrArg some (by kernel_rfl))
 f333 := Tryz.func296.trans (congrArg some (by kernel_rfl))
 f334 := Tryz.func297.trans (congrArg some (by kernel_rfl))
 f335 := Tryz.func298.trans (congrArg some (by kernel_rfl))
 f336 := Tryz.func299.trans (congrArg some (by kernel_rfl))
 f344 := Tryz.func316.trans (congrArg some (by kernel_rfl))
 t0 := Tryz.underlying0
 a0 := Tryz.isAgg0
 z0 := Tryz.sizeOf0
 v0 := Tryz.zeroValue0
 t3 := Tryz.underlying3
 a3 := Tryz.isAgg3
 z3 := Tryz.sizeOf3
 v3 := Tryz.zeroValue3
 t4 := Tryz.underlying4
 a4 := Tryz.isAgg4
 z4 := Tryz.sizeOf4
 v4 := Tryz.zeroValue4
 t5 := Tryz.underlying5
 a5 := Tryz.isAgg5
 z5 := Tryz.sizeOf5
 v5 := Tryz.zeroValue5
 t9 := Tryz.underlying9
 a9 := Tryz.isAgg9
 z9 := Tryz.sizeOf9
 v9 := Tryz.zeroValue9
 t31 := Tryz.underlying97
 a31 := Tryz.isAgg97
 z31 := Tryz.sizeOf97
 v31 := Tryz.zeroValue97
 t46 := Tryz.underlying205
 a46 := Tryz.isAgg205
 z46 := Tryz.sizeOf205
 v46 := Tryz.zeroValue205
 t51 := Tryz.underlying70
 a51 := Tryz.isAgg70
 z51 := Tryz.sizeOf70
 v51 := Tryz.zeroValue70
 t53 := Tryz.underlying23
 a53 := Tryz.isAgg23
 z53 := Tryz.sizeOf23
 v53 := Tryz.zeroValue23
 t131 := Tryz.underlying151
 a131 := Tryz.isAgg151
 z131 := Tryz.sizeOf151
 v131 := Tryz.zeroValue151
 t182 := Tryz.underlying279
 a182 := Tryz.isAgg279
 z182 := Tryz.sizeOf279
 v182 := Tryz.zeroValue279
 t183 := Tryz.underlying280
 a183 := Tryz.isAgg280
 z183 := Tryz.sizeOf280
 v183 := Tryz.zeroValue280
 t218 := Tryz.underlying325
 a218 := Tryz.isAgg325
 z218 := Tryz.sizeOf325
 v218 := Tryz.zeroValue325
 t222 := Tryz.underlying328
 a222 := Tryz.isAgg328
 z222 := Tryz.sizeOf328
 v222 := Tryz.zeroValue328
 t228 := Tryz.underlying351
 a228 := Tryz.isAgg351
 z228 := Tryz.sizeOf351
 v228 := Tryz.zeroValue351
 t229 := Tryz.underlying352
 a229 := Tryz.isAgg352
 z229 := Tryz.sizeOf352
 v229 := Tryz.zeroValue352 }
open Go.Sort Go.RowKit in
theorem Tryz.slices_Sort_string (DJ off cap : Nat) (ss : List (List UInt8)) (w : World) (hH : Holds encStr w DJ off ss.toArray) (hblk : DJ < w.heap.size) (Ee : ss.length < 4611686018427387904) :
   Calls Tryz.prog 93 #[.slice (some ⟨DJ, off, none⟩) ss.length cap] w fun e w' =>
     e = .returned (.tuple #[]) ∧ ∃ n os, w' = grow (putRow encStr (Sort.ahead w n) DJ off (ss.mergeSort fun x y => decide (x ≤ y)).toArray) os := Any.slices_Sort_string Tryz.dI DJ off cap ss w hH hblk Ee
def Tryz.Ol : Go.Shelf.Ren := ⟨fun | 105 => 315 | 212 => 332 | 99 => 92 | 165 => 333 | 166 => 334 | 170 => 335 | 169 => 336 | 263 => 348 | 264 => 349 | 206 => 169 | 240 => 350 | 241 => 351 | 276 => 357 | 277 => 358 | n => n, fun | 9 => 9 | 3 => 3 | 4 => 4 | 20 => 20 | 0 => 0 | 46 => 205 | 109 => 368 | 5 => 5 | 72 => 372 | 76 => 347 | 51 => 70 | 146 => 387 | 53 => 23 | 148 => 389 | 70 => 370 | 37 => 84 | 75 => 346 | 127 => 391 | 164 => 399 | 80 => 301 | n => n, fun | n => n⟩
theorem Tryz.rZ : Go.Proofs.Lays.n105 Tryz.prog Tryz.Ol := {
 mixed := by kernel_rfl
 f99 := Tryz.func92.trans (congrArg some (by kernel_rfl))
 f105 := Tryz.func315.trans (congrArg some (by kernel_rfl))
 f165 := Tryz.func333.trans (congrArg some (by kernel_rfl))
 f166 := Tryz.func334.trans (congrArg some (by kernel_rfl))
 f169 := Tryz.func336.trans (congrArg some (by kernel_rfl))
 f170 := Tryz.func335.trans (congrArg some (by kernel_rfl))
 f206 := Tryz.func169.trans (congrArg some (by kernel_rfl))
 f212 := Tryz.func332.trans (congrArg some (by kernel_rfl))
 f240 := Tryz.func350.trans (congrArg some (by kernel_rfl))
 f241 := Tryz.func351.trans (congrArg some (by kernel_rfl))
 f263 := Tryz.func348.trans (congrArg some (by kernel_rfl))
 f264 := Tryz.func349.trans (congrArg some (by kernel_rfl))
 f276 := Tryz.func357.trans (congrArg some (by kernel_rfl))
 f277 := Tryz.func358.trans (congrArg some (by kernel_rfl))
 t0 := Tryz.underlying0
 a0 := Tryz.isAgg0
 z0 := Tryz.sizeOf0
 v0 := Tryz.zeroValue0
 t3 := Tryz.underlying3
 a3 := Tryz.isAgg3
 z3 := Tryz.sizeOf3
 v3 := Tryz.zeroValue3
 t4 := Tryz.underlying4
 a4 := Tryz.isAgg4
 z4 := Tryz.sizeOf4
 v4 := Tryz.zeroValue4
 t5 := Tryz.underlying5
 a5 := Tryz.isAgg5
 z5 := Tryz.sizeOf5
 v5 := Tryz.zeroValue5
 t9 := Tryz.underlying9
 a9 := Tryz.isAgg9
 z9 := Tryz.sizeOf9
 v9 := Tryz.zeroValue9
 t20 := Tryz.underlying20
 a20 := Tryz.isAgg20
 z20 := Tryz.sizeOf20
 v20 := Tryz.zeroValue20
 t37 := Tryz.underlying84
 a37 := Tryz.isAgg84
 z37 := Tryz.sizeOf84
 v37 := Tryz.zeroValue84
 t46 := Tryz.underlying205
 a46 := Tryz.isAgg205
 z46 := Tryz.sizeOf205
 v46 := Tryz.zeroValue205
 t51 := Tryz.underlying70
 a51 := Tryz.isAgg70
 z51 := Tryz.sizeOf70
 v51 := Tryz.zeroValue70
 t53 := Tryz.underlying23
 a53 := Tryz.isAgg23
 z53 := Tryz.sizeOf23
 v53 := Tryz.zeroValue23
 t70 := Tryz.underlying370
 a70 := Tryz.isAgg370
 z70 := Tryz.sizeOf370
 v70 := Tryz.zeroValue370
 t72 := Tryz.underlying372
 a72 := Tryz.isAgg372
 z72 := Tryz.sizeOf372
 v72 := Tryz.zeroValue372
 t75 := Tryz.underlying346
 a75 := Tryz.isAgg346
 z75 := Tryz.sizeOf346
 v75 := Tryz.zeroValue346
 t76 := Tryz.underlying347
 a76 := Tryz.isAgg347
 z76 := Tryz.sizeOf347
 v76 := Tryz.zeroValue347
 t109 := Tryz.underlying368
 a109 := Tryz.isAgg368
 z109 := Tryz.sizeOf368
 v109 := Tryz.zeroValue368
 t127 := Tryz.underlying391
 a127 := Tryz.isAgg391
 z127 := Tryz.sizeOf391
 v127 := Tryz.zeroValue391
 t146 := Tryz.underlying387
 a146 := Tryz.isAgg387
 z146 := Tryz.sizeOf387
 v146 := Tryz.zeroValue387
 t148 := Tryz.underlying389
 a148 := Tryz.isAgg389
 z148 := Tryz.sizeOf389
 v148 := Tryz.zeroValue389
 t164 := Tryz.underlying399
 a164 := Tryz.isAgg399
 z164 := Tryz.sizeOf399
 v164 := Tryz.zeroValue399 }
theorem Tryz.Mw : Builder.Extra Tryz.prog Tryz.Ol := {
 sizeBuilder := by kernel_rfl
 liesBuilder := by kernel_rfl
 t5 := Tryz.underlying5
 a5 := Tryz.isAgg5
 z5 := Tryz.sizeOf5
 v5 := Tryz.zeroValue5
 infoByte := by kernel_rfl
 cellsByte := by kernel_rfl
 sizeByte := by kernel_rfl
 neB5 := by decide }
open Go.RowKit Go.Lib in
theorem Tryz.strings_Repeat (s : ByteArray) (c : Nat) (w : World) (hc : c ≤ 9223372036854775807) (hlen : s.size * c ≤ 140737488355328) :
   Calls Tryz.prog 315 #[.string s, .int .i64 c] w fun e w' => e = .returned (.string ⟨(Lib.repeatL s.data.toList c).toArray⟩) ∧ Below w.heap.size w w' := Any.strings_Repeat Tryz.rZ Tryz.Mw s c w hc hlen
open Go.RowKit Go.Sort in
theorem Tryz.slices_Sort_string_none (p : Option Addr) (cap : Nat) (w : World) :
   Calls Tryz.prog 93 #[.slice p 0 cap] w fun e w' => e = .returned (.tuple #[]) ∧ w' = w := Any.slices_Sort_string_none Tryz.dI p cap w
end Go.Proofs
end
section
namespace TwW
open Go Tw Go.Proofs.Tryz
abbrev Xa (l : List UInt8) : Value := .string ⟨l.toArray⟩
def Gt (xs : List (List UInt8)) : List (List UInt8) := xs.mergeSort fun x y => decide (x ≤ y)
theorem Hs (xs : List (List UInt8)) : (Gt xs).length = xs.length := by simp [Gt]
theorem FJ {α : Type} [Inhabited α] (enc : α → Value) (F : Array α) (arr : Array Value) (o j : Nat) : (Sort.putCells enc o F arr)[j]? = if o ≤ j ∧ j < o + F.size then (arr[j]?).map fun _ => enc F[j - o]! else arr[j]? := by
 simp only [Sort.putCells, Array.getElem?_mapIdx]
 by_cases h : o ≤ j ∧ j < o + F.size
 · rw [if_pos h]; simp [h]
 · rw [if_neg h]
   cases arr[j]? with
   | none => rfl
   | some v => simp only [Option.map_some]; rw [if_neg h]
section
variable {σ : Hp} {R : Rr}
theorem Mx {q : Option Addr} {m d : Nat} {xs : List (List UInt8)} (ho : Own 1 σ q m d (xs.map Xa)) (hm : xs.length = m) (Ee : m < 4611686018427387904)
   (h : ∀ σ', Own 1 σ' q m d ((Gt xs).map Xa) → Ext (σ.del q) (σ'.del q) → R (.returned (.tuple #[])) σ') : Spec prog 93 #[.slice q m d] σ R := by
 intro w F hs hF
 by_cases My : m = 0
 · subst My
   have hx : xs = [] := List.eq_nil_of_length_eq_zero hm
   subst hx
   have IB := Go.Proofs.Tryz.slices_Sort_string_none q d w
   refine IB.mono ?_
   rintro e w' ⟨rfl, rfl⟩
   exact ⟨σ, h σ (by simpa [Gt] using ho) (Ext.refl _), hs, fun b hb => ⟨(hF b hb).2, rfl⟩, .same rfl rfl rfl, rfl, Nat.le_refl _⟩
 · obtain ⟨b, o, arr, T, rfl, hb, im, PA, IP⟩ : ∃ b o arr T, q = some ⟨b, o, none⟩ ∧ σ b = some (.cells arr T (0, 0)) ∧ m ≤ d ∧ o + d * 1 ≤ arr.size ∧ (arr.toList.drop o).take (m * 1) = xs.map Xa := by
     rcases ho.2.2 with ⟨_, h2, _⟩ | h
     · exact absurd h2 My
     · exact h
   have hw := hs _ _ hb
   have PO : ∀ (j : Nat) (hj : j < xs.length), arr[o + j]? = some (Xa xs[j]) := fun j hj => by
     have h1 : (xs.map Xa)[j]? = some (Xa xs[j]) := by simp [hj]
     rw [← IP, List.getElem?_take, if_pos (by omega), List.getElem?_drop, Array.getElem?_toList] at h1
     exact h1
   have hH : Sort.Holds Go.Proofs.encStr w b o xs.toArray := fun j hj => by
     have UQ : j < xs.length := by simpa using hj
     refine ⟨?_, by simp [World.frozen?, hw]⟩
     have e1 : xs.toArray[j]! = xs[j] := by simp [UQ]
     simp only [World.cell?, hw, e1]
     simpa using PO j UQ
   have hblk : b < w.heap.size := (Array.getElem?_eq_some_iff.1 hw).1
   have IB := Go.Proofs.Tryz.slices_Sort_string b o d xs w hH hblk (by omega)
   rw [hm] at IB
   refine IB.mono ?_
   rintro e w' ⟨rfl, n, os, rfl⟩
   let F2 : Array (List UInt8) := (Gt xs).toArray
   have hF2 : F2.size = m := by simp [F2, Hs, hm]
   have DL : ∀ k, (Sort.grow (Sort.putRow Go.Proofs.encStr (Sort.ahead w n) b o F2) os).heap[k]? = if k < w.heap.size then (if b = k then (w.heap[k]?).map (Sort.onCells (Sort.putCells Go.Proofs.encStr o F2)) else w.heap[k]?) else os[k - w.heap.size]? := fun k => by
     simp only [Sort.grow, Sort.putRow, Sort.mapBlock, Sort.ahead, Array.getElem?_append, Array.size_modify, Array.getElem?_modify]
   refine ⟨σ.set b (.cells (Sort.putCells Go.Proofs.encStr o F2 arr) T (0, 0)), h _ ⟨by simp [Hs, hm], by omega, .inr ⟨b, o, _, T, rfl, Hp.AA _ _ _, im, by simpa [Sort.putCells] using PA, ?_⟩⟩ (by rw [Hp.Bl]; exact Ext.refl _), ?_⟩
   · refine List.ext_getElem? fun j => ?_
     rw [List.getElem?_take]
     by_cases hj : j < m * 1
     · have UR : j < (Gt xs).length := by rw [Hs]; omega
       rw [if_pos hj, List.getElem?_drop, Array.getElem?_toList, FJ, if_pos (by omega), PO j (by omega)]
       simp [F2, UR]
     · rw [if_neg hj, List.getElem?_eq_none (by simp [Hs]; omega)]
   · refine ⟨fun k u hk => ?_, fun k hk => ?_, ⟨rfl, rfl, fun _ => ⟨n, rfl⟩⟩, rfl, by simp [Sort.grow, Sort.putRow, Sort.mapBlock, Sort.ahead]⟩
     · rw [show (Sort.grow (Sort.putRow Go.Proofs.encStr (Sort.ahead w n) b o (xs.mergeSort fun x y => decide (x ≤ y)).toArray) os).heap[k]? = _ from DL k]
       by_cases DD : k = b
       · subst DD
         rw [Hp.AA] at hk; cases hk
         rw [if_pos hblk, if_pos rfl, hw]; rfl
       · rw [Hp.AF DD] at hk
         have := hs k u hk
         rw [if_pos (Array.getElem?_eq_some_iff.1 this).1, if_neg (Ne.symm DD)]; exact this
     · have DD : k ≠ b := fun e => by have := (hF k hk).2; rw [e, hb] at this; cases this
       refine ⟨by rw [Hp.AF DD]; exact (hF k hk).2, ?_⟩
       rw [show (Sort.grow (Sort.putRow Go.Proofs.encStr (Sort.ahead w n) b o (xs.mergeSort fun x y => decide (x ≤ y)).toArray) os).heap[k]? = _ from DL k, if_pos (hF k hk).1, if_neg (Ne.symm DD)]
theorem Cv.sub {i b clock : Nat} {l L : List MapEntry} (h : Cv σ i b l L clock) : L.Sublist l := by
 obtain ⟨seen, c0, _, _, rfl⟩ := h
 simp only [leftOf, List.filter_toArray]
 exact List.filter_sublist
theorem Ks {e : MapEntry} : ∀ {L : List MapEntry}, (L.map (·.born)).Nodup → e ∈ L → L.Perm (e :: L.filter fun x => x.born != e.born)
 | a :: L, hn, he => by
   simp only [List.map_cons, List.nodup_cons] at hn
   rcases List.mem_cons.1 he with rfl | he
   · have : (e :: L).filter (fun x => x.born != e.born) = L := by
       rw [List.filter_cons_of_neg (by simp)]
       refine List.filter_eq_self.2 fun x hx => ?_
       simp only [bne_iff_ne]
       exact fun h => hn.1 (h ▸ List.mem_map.2 ⟨x, hx, rfl⟩)
     rw [this]
   · have Ad : a.born ≠ e.born := fun h => hn.1 (h ▸ List.mem_map.2 ⟨e, he, rfl⟩)
     rw [List.filter_cons_of_pos (by simpa using Ad)]
     exact ((Ks hn.2 he).cons a).trans (List.Perm.swap ..)
def nm (e : MapEntry) : ByteArray := match e.key with
 | .string s => s
 | _ => ⟨#[]⟩
def PM (pre : ByteArray) (L : List MapEntry) : List ByteArray := (L.map nm).filter (BR · pre)
structure Names (fs : ByteArray → Option Fl) (pre : ByteArray) (L : List ByteArray) : Prop where
 sorted : L.Pairwise fun a b => a.data.toList ≤ b.data.toList
 nodup : L.Nodup
 mem : ∀ s, s ∈ L ↔ (fs s).isSome = true ∧ BR s pre = true
theorem fq (a b : List UInt8) : (decide (a ≤ b) || decide (b ≤ a)) = true := by
 rcases Std.le_total (a := a) (b := b) with h | h <;> simp [h]
theorem lR {rows : List Row} {pre : ByteArray} {xs : List ByteArray} (hn : (rows.map (·.name)).Nodup) (hp : xs.Perm ((rows.map (·.name)).filter (BR · pre))) :
   Names (Row.look rows) pre ((Gt (xs.map (·.data.toList))).map fun l => ⟨l.toArray⟩) := by
 have uu : ((Gt (xs.map (·.data.toList))).map fun l => (⟨l.toArray⟩ : ByteArray)).Perm xs := by
   have h1 := (List.mergeSort_perm (xs.map (·.data.toList)) fun x y => decide (x ≤ y)).map fun l => (⟨l.toArray⟩ : ByteArray)
   rw [List.map_map] at h1
   have h2 : xs.map ((fun l => (⟨l.toArray⟩ : ByteArray)) ∘ fun s : ByteArray => s.data.toList) = xs := by
     conv => rhs; rw [← List.map_id xs]
     exact List.map_congr_left fun a _ => rfl
   rw [h2] at h1
   exact h1
 refine ⟨?_, ?_, fun s => ?_⟩
 · rw [List.pairwise_map]
   have := List.pairwise_mergeSort (le := fun x y : List UInt8 => decide (x ≤ y)) (fun a b c h1 h2 => by simp only [decide_eq_true_eq] at h1 h2 ⊢; exact Std.le_trans h1 h2) (fun a b => fq a b) (xs.map (·.data.toList))
   exact this.imp fun h => by simpa using h
 · exact (uu.nodup_iff).2 (hp.nodup_iff.2 (hn.filter _))
 · rw [uu.mem_iff, hp.mem_iff, List.mem_filter, and_congr_left_iff]
   intro _
   unfold Row.look
   cases hf : rows.find? (fun r => decide (r.name = s)) with
   | none =>
     simp only [Option.map_none, Option.isSome_none, Bool.false_eq_true, iff_false]
     intro hm
     obtain ⟨r, hr, rfl⟩ := List.mem_map.1 hm
     have := List.find?_eq_none.1 hf r hr
     simp at this
   | some r =>
     simp only [Option.map_some, Option.isSome_some, iff_true]
     exact List.mem_map.2 ⟨r, List.mem_of_find?_eq_some hf, by simpa using List.find?_some hf⟩
abbrev Qw (σ : Hp) (p : Option Addr) (n c : Nat) (L : List ByteArray) : Prop := Own 1 σ p n c (L.map .string)
theorem ra {σ0 : Hp} {pre : ByteArray} {i m clock : Nat} {rows : List Row} (My : Av σ0 m (rows.map Row.CY) clock) (dJ : rows.length ≤ 67108864)
   (hR : ∀ p n c L σ', Qw (σ0.new σ') p n c L → Names (Row.look rows) pre L → Ext σ0 σ' → n ≤ rows.length → R (.returned (.slice p n c)) σ') :
   ∀ (k : Nat) (σ : Hp) (L : List MapEntry) (xs : List ByteArray) (p : Option Addr) (c : Nat), L.length = k → Ext σ0 σ → Cv (σ0.new σ) i m (rows.map Row.CY) L clock → Qw (σ0.new σ) p xs.length c xs → (xs ++ PM pre L).Perm (PM pre (rows.map Row.CY)) →
     FG.Gp R pre p xs.length c (.pointer (some ⟨i, 0, none⟩)) σ := by
 intro k
 induction k using Nat.strongRecOn with
 | _ k ih =>
 intro σ L xs p c hL hx hi ho hp
 have AEj : PM pre (rows.map Row.CY) = (rows.map (·.name)).filter (BR · pre) := by simp only [PM, List.map_map]; rfl
 have hlen : xs.length ≤ rows.length := by
   have := hp.length_eq
   rw [AEj] at this
   have h2 := List.length_filter_le (BR · pre) (rows.map (·.name))
   simp at this h2; omega
 have hm := My.mono hx
 have Jm : (rows.map (·.name)).Nodup := by
   have := My.nodup
   rw [List.map_map] at this
   have e : (rows.map ((fun e : MapEntry => e.key) ∘ Row.CY)) = (rows.map (·.name)).map Value.string := by rw [List.map_map]; rfl
   rw [e, List.Nodup, List.pairwise_map] at this
   exact this.imp fun Ad e => Ad (by rw [e])
 refine FG.Gq (KC hm (hi.mono (Ext.Af _ _)) (fun h0 => .inl ⟨rfl, ?_⟩) fun e J8 U2 o aB Z8 => .inr ?_)
 · subst h0
   simp only [PM, List.map_nil, List.filter_nil, List.append_nil] at hp
   rw [← PM, AEj] at hp
   have B1 : Own 1 σ p xs.length c ((xs.map (·.data.toList)).map Xa) := by
     rw [List.map_map]; exact ho.mono (Ext.Af _ _)
   refine Mx B1 (by simp) (by omega) fun σ' hs hsx => ⟨rfl, ?_⟩
   refine hR p _ c _ σ' ?_ (lR Jm hp) (CX ho.Dp hsx hx) hlen
   have := Own.CV hs (σ := σ0) ho.Dp
   unfold Qw
   rw [List.map_map]
   exact this
 · obtain ⟨seen, c0, yi, _⟩ := hi
   obtain ⟨fe, _⟩ := AQ.1 yi
   have hpi : ∀ a, p = some a → a.block ≠ i := fun a ha e => by
     rcases ho.2.2 with ⟨h1, _⟩ | ⟨b, o', arr, T, h1, h2, _⟩
     · rw [h1] at ha; cases ha
     · rw [h1] at ha; cases ha
       simp only at e; subst e
       rw [yi] at h2; cases h2
   have uq : m ≠ i := fun e => by rw [← e, My.1] at fe; cases fe
   obtain ⟨l1, l2, hl⟩ := List.append_of_mem U2
   obtain ⟨r1, r, r2, CR, _, rfl, _⟩ := El hl
   have An : Ext σ0 (σ.set i o) := fun b u hb => by rw [Hp.AF fun e => by rw [e, fe] at hb; cases hb]; exact hx b u hb
   have oZ : (σ0.new (σ.set i o)) i = some o := AQ.2 ⟨fe, Hp.AA _ _ _⟩
   have B1 : Qw (σ0.new (σ.set i o)) p xs.length c xs := TwW.Own.loc ho fun b hb => by
     cases p with
     | none => cases hb
     | some a =>
       simp only [DJ, List.mem_singleton] at hb
       subst hb
       simp only [Hp.new, Hp.AF (hpi a rfl)]
   have Xb : (L.map (·.born)).Nodup := My.V5.sublist ((Cv.sub ⟨seen, c0, yi, by assumption⟩).map _)
   have rb := Ks Xb J8
   have lS : (PM pre L).Perm (PM pre (r.CY :: L.filter fun x => x.born != r.CY.born)) := (rb.map nm).filter _
   have AEl : ∀ M, PM pre (r.CY :: M) = if BR r.name pre = true then r.name :: PM pre M else PM pre M := fun M => by
     have : nm r.CY = r.name := rfl
     simp only [PM, List.map_cons, List.filter_cons, this]
   rw [AEl] at lS
   refine ⟨_, _, rfl, Z8 _ (Hp.AA _ _ _) (Hp.AF uq) ⟨_, _, rfl, fm ⟨_, rfl, fun ht TV U8 => ?_, fun hf => ?_⟩⟩⟩
   · rw [if_pos ht] at lS
     refine JE (T := 97) (ys := [.string r.name]) An B1 rfl (fun u hu => by simp at hu; subst hu; rfl) (by omega) (fun p' c' σ' Dl DR iq => ⟨p', _, c', rfl, ?_⟩) U8
     have hi3 : (σ0.new σ') i = some o := by
       have := iq i o (A6.2 ⟨fun a ha => Ne.symm (hpi a ha), oZ⟩)
       exact (A6.1 this).2
     have := ih _ (hL ▸ Ki J8) σ' _ (xs ++ [r.name]) p' c' rfl DR (aB _ hi3) (by simpa [Qw] using Dl) (by
       rw [List.append_assoc]
       exact (lS.append_left xs).symm.trans hp)
     simpa using this
   · rw [if_neg (by rw [hf]; simp)] at lS
     exact ih _ (hL ▸ Ki J8) _ _ xs p c rfl An (aB _ oZ) B1 ((lS.append_left xs).symm.trans hp)
theorem ft {d : Nat} {D : Dk} {S : List Nat} {pre : ByteArray} (hd : A3 σ d D S) (Ev : D.up = true) (hc : D.cnt ≤ 67108864)
   (h : ∀ p n c L σ', Qw (σ.new σ') p n c L → Names D.files pre L → Ext σ σ' → n ≤ D.cnt → R (.returned (.slice p n c)) σ') : Spec prog 174 #[.pointer (some ⟨d, 0, none⟩), .string pre] σ R := by
 obtain ⟨m, cl, rows, T, a, b, e, hd⟩ := hd
 refine FG.start ⟨d, 0, rfl, _, AD hd.obj rfl, fun hh => (by rw [Ev] at hh; cases hh), fun _ => ⟨some m, AD hd.obj rfl, IU hd.map fun i o hi PM => ⟨_, rfl, ?_⟩⟩⟩
 have Jj := hd.files
 exact ra hd.map (Nat.le_trans hd.cnt hc) (fun p n c L σ' ho hN hx hn => h p n c L σ' ho (Jj ▸ hN) hx (Nat.le_trans hn hd.cnt)) _ _ _ [] none 0 rfl (.set hi) (PM.loc (by simp [Hp.new, hi])) Own.nil (by simp)
end
end TwW
end
section
namespace TwW
open Go Tw Go.Proofs.Tryz
def uv (x : Nat) : List Int := if h : 128 ≤ x then ((x % 128 + 128 : Nat) : Int) :: uv (x / 128) else [(x : Int)]
termination_by x
decreasing_by omega
theorem HL {x : Nat} (h : 128 ≤ x) : uv x = ((x % 128 + 128 : Nat) : Int) :: uv (x / 128) := by rw [uv, dif_pos h]
theorem Cd {x : Nat} (h : ¬ 128 ≤ x) : uv x = [(x : Int)] := by rw [uv, dif_neg h]
theorem aC : ∀ (k x : Nat), x < 128 ^ (k + 1) → (uv x).length ≤ k + 1
 | 0, x, h => by rw [Cd (by simpa using h)]; simp
 | k + 1, x, h => by
   by_cases hx : 128 ≤ x
   · rw [HL hx]
     have := aC k (x / 128) (by rw [Nat.div_lt_iff_lt_mul (by decide)]; rw [Nat.pow_succ] at h; exact h)
     simp; omega
   · rw [Cd hx]; simp
theorem BF {x : Nat} (h : x < 18446744073709551616) : (uv x).length ≤ 10 := aC 9 x (by omega)
set_option maxRecDepth 100000 in
theorem AEm : ∀ y : Fin 256, Go.bits .or .u8 (y.1 : Int) 128 = ((y.1 % 128 + 128 : Nat) : Int) := by decide
set_option maxRecDepth 100000 in
theorem yj : ∀ y : Fin 128, (y.1 ||| 128) = y.1 + 128 := by decide
theorem Ce {R : Rr} {σ : Hp} {p : Option Addr} {n c x : Nat} {xs : List Int} (hr : CA .u8 σ p n xs) (hn : n ≤ 70368744177664) (hx : x < 18446744073709551616)
   (h : ∀ p' n' c' σ', AS .u8 (σ.new σ') p' n' c' (xs ++ uv x) → Ext σ σ' → R (.returned (.slice p' n' c')) σ') : Spec prog 99 #[.slice p n c, .int .u64 x] σ R := by
 refine ES.start fun b hb => ?_
 refine Ec Own.empty ((Gi.of_map hr).mono (.set hb)) CU.Cs (by omega) fun p' c' σ' Aa EU => ?_
 have hq : ∀ a : Addr, (some (⟨b, 0, none⟩ : Addr)) = some a → σ a.block = none := fun a ha => by cases ha; exact hb
 have ho := Own.CV Aa (B2 hq EU (.set hb))
 have he := CX hq EU (.set hb)
 refine ⟨p', 0 + n, c', rfl, ?_⟩
 rw [Nat.zero_add] at ho ⊢
 have hlen := hr.1
 suffices H : ∀ (k x n' : Nat) p' c' σ' ys, x < 128 ^ (k + 1) → n' + k ≤ n + 9 → AS .u8 (σ.new σ') p' n' c' ys → Ext σ σ' → (∀ p' n' c' σ', AS .u8 (σ.new σ') p' n' c' (ys ++ uv x) → Ext σ σ' → R (.returned (.slice p' n' c')) σ') → ES.La R x p' n' c' σ' from
   H 9 x n p' c' σ' xs (by omega) (by omega) ho he h
 intro k
 induction k with
 | zero =>
   intro x n' p' c' σ' ys hx J1 ho he h
   refine ES.DF ⟨fun Ag => by omega, fun _ Hj U9 b2 HV => ?_⟩
   have N7 : Hj = (x : Int) := by rw [U9]; simp [IntKind.wrap, IntKind.bits, IntKind.signed]; omega
   subst N7
   refine AS.JF he ho (by omega) (fun p2 c2 σ2 B1 Xc _ => ⟨p2, n' + 1, c2, rfl, h _ _ _ _ ?_ Xc⟩) HV
   rw [Cd (by omega)]; exact B1
 | succ k ih =>
   intro x n' p' c' σ' ys hx J1 ho he h
   refine ES.DF ⟨fun Ag Nv fu FF rh b2 HV => ?_, fun F8 Hj U9 b2 HV => ?_⟩
   · have h15 : Nv = ((x % 256 : Nat) : Int) := by rw [fu]; simp [IntKind.wrap, IntKind.bits, IntKind.signed]
     have fv : FF = ((x % 128 + 128 : Nat) : Int) := by
       rw [rh, h15, AEm ⟨x % 256, Nat.mod_lt _ (by decide)⟩]
       have : x % 256 % 128 = x % 128 := by omega
       rw [this]
     subst fv
     refine AS.JF he ho (by omega) (fun p2 c2 σ2 B1 Xc _ => ⟨p2, n' + 1, c2, rfl, by simp [IntKind.bits], fun Du aE => ?_⟩) HV
     have h12 : Du = ((x / 128 : Nat) : Int) := by rw [aE]; simp
     subst h12
     refine ih (x / 128) (n' + 1) p2 c2 σ2 _ (by rw [Nat.div_lt_iff_lt_mul (by decide)]; rw [Nat.pow_succ] at hx; exact hx) (by omega) B1 Xc fun p3 n3 c3 σ3 Dl he3 => h p3 n3 c3 σ3 ?_ he3
     rw [HL (by omega)]
     simpa using Dl
   · have N7 : Hj = (x : Int) := by rw [U9]; simp [IntKind.wrap, IntKind.bits, IntKind.signed]; omega
     subst N7
     refine AS.JF he ho (by omega) (fun p2 c2 σ2 B1 Xc _ => ⟨p2, n' + 1, c2, rfl, h _ _ _ _ ?_ Xc⟩) HV
     rw [Cd (by omega)]; exact B1
def E8 (bs : List Int) : Prop := ∀ x ∈ bs, 0 ≤ x ∧ x < 256
def Iu (bs : List Int) (i w : Nat) : Prop := w < 18446744073709551616 ∧ ∃ rest, bs.drop i = uv w ++ rest
theorem dK (x : Nat) : ∃ c t, uv x = c :: t ∧ (128 ≤ x → c = ((x % 128 + 128 : Nat) : Int) ∧ t = uv (x / 128)) ∧ (x < 128 → c = (x : Int) ∧ t = []) := by
 by_cases h : 128 ≤ x
 · exact ⟨_, _, HL h, fun _ => ⟨rfl, rfl⟩, fun h2 => by omega⟩
 · exact ⟨_, _, Cd h, fun h2 => by omega, fun _ => ⟨rfl, rfl⟩⟩
theorem KT : ∀ (k x : Nat), x < 128 ^ (k + 1) → E8 (uv x)
 | 0, x, h => by
   rw [Cd (by simpa using h)]
   intro y hy; simp at hy; subst hy; simp at h; omega
 | k + 1, x, h => by
   by_cases hx : 128 ≤ x
   · rw [HL hx]
     intro y hy
     rcases List.mem_cons.1 hy with rfl | hy
     · omega
     · exact KT k (x / 128) (by rw [Nat.div_lt_iff_lt_mul (by decide)]; rw [Nat.pow_succ] at h; exact h) y hy
   · rw [Cd hx]
     intro y hy; simp at hy; subst hy; omega
theorem N8 (x : Nat) : 0 < (uv x).length := by
 obtain ⟨c, t, h, _⟩ := dK x; rw [h]; simp
set_option maxRecDepth 100000 in
theorem yk : ∀ y : Fin 256, Go.bits .and .u8 (y.1 : Int) 127 = ((y.1 % 128 : Nat) : Int) := by decide
theorem lT {acc c k : Nat} (ha : acc < 2 ^ (7 * k)) (hk : k ≤ 9) (hc : c * 2 ^ (7 * k) < 18446744073709551616) : Go.bits .or .u64 (acc : Int) ((c * 2 ^ (7 * k) : Nat) : Int) = ((acc + c * 2 ^ (7 * k) : Nat) : Int) := by
 have hp : 2 ^ (7 * k) ≤ 2 ^ 63 := Nat.pow_le_pow_right (by decide) (by omega)
 rw [bits_or_u64_nat acc _ (by omega) hc]
 congr 1
 rw [Nat.or_comm, Nat.mul_comm, ← Nat.two_pow_add_eq_or_of_lt ha, Nat.add_comm]
def So (bs : List Int) (i k acc : Nat) : Prop := ∀ w, Iu bs i w → acc = w % 2 ^ (7 * k) ∧ (∃ rest, bs.drop (i + k) = uv (w / 2 ^ (7 * k)) ++ rest) ∧ (0 < k → 0 < w / 2 ^ (7 * k)) ∧ (uv w).length = k + (uv (w / 2 ^ (7 * k))).length
theorem So.zero {bs : List Int} {i : Nat} : So bs i 0 0 := fun w ⟨hw, rest, hr⟩ => by
 refine ⟨by simp [Nat.mod_one], ⟨rest, by simpa using hr⟩, fun h => by omega, by simp⟩
theorem So.byte {bs : List Int} {i k acc w : Nat} {c : Int} (h : So bs i k acc) (hw : Iu bs i w) (hc : bs[i + k]? = some c) :
   (128 ≤ w / 2 ^ (7 * k) → c = ((w / 2 ^ (7 * k) % 128 + 128 : Nat) : Int)) ∧ (w / 2 ^ (7 * k) < 128 → c = ((w / 2 ^ (7 * k) : Nat) : Int)) := by
 obtain ⟨_, ⟨rest, hr⟩, _, _⟩ := h w hw
 obtain ⟨c', t, he, h1, h2⟩ := dK (w / 2 ^ (7 * k))
 have : (bs.drop (i + k))[0]? = some c := by rw [List.getElem?_drop]; simpa using hc
 rw [hr, he] at this
 simp at this
 subst this
 exact ⟨fun h => (h1 h).1, fun h => (h2 h).1⟩
theorem So.next {bs : List Int} {i k acc a' : Nat} {c : Nat} (h : So bs i k acc) (hc : bs[i + k]? = some (c : Int)) (F8 : 128 ≤ c) (ha' : acc < 2 ^ (7 * k) → a' = acc + (c % 128) * 2 ^ (7 * k)) : So bs i (k + 1) a' := fun w hw => by
 obtain ⟨h1, ⟨rest, hr⟩, h3, h4⟩ := h w hw
 obtain ⟨g1, g2⟩ := h.byte hw hc
 have hp : 0 < 2 ^ (7 * k) := Nat.two_pow_pos _
 have Fy : 128 ≤ w / 2 ^ (7 * k) := by
   rcases Nat.lt_or_ge (w / 2 ^ (7 * k)) 128 with Ag | yl
   · have := g2 Ag; omega
   · exact yl
 have hcv : c = w / 2 ^ (7 * k) % 128 + 128 := by have := g1 Fy; omega
 have e1 : 2 ^ (7 * (k + 1)) = 2 ^ (7 * k) * 128 := by rw [Nat.mul_succ, Nat.pow_add]
 have e2 : w / 2 ^ (7 * (k + 1)) = w / 2 ^ (7 * k) / 128 := by rw [e1, Nat.div_div_eq_div_mul]
 rw [e2]
 rw [HL Fy] at hr h4
 refine ⟨?_, ⟨rest, ?_⟩, fun _ => by omega, by simp at h4; omega⟩
 · rw [ha' (by rw [h1]; exact Nat.mod_lt _ hp), e1, Nat.mod_mul, ← h1, show c % 128 = w / 2 ^ (7 * k) % 128 by omega, Nat.mul_comm (2 ^ (7 * k))]
 · rw [show i + (k + 1) = (i + k) + 1 by omega, ← List.drop_drop, hr]; rfl
theorem lU : ∀ (v w : Nat) (r s : List Int), uv v ++ r = uv w ++ s → v = w ∧ r = s := by
 intro v
 induction v using Nat.strongRecOn with
 | _ v ih =>
 intro w r s h
 by_cases hv : 128 ≤ v <;> by_cases hw : 128 ≤ w
 · rw [HL hv, HL hw] at h
   simp only [List.cons_append, List.cons.injEq] at h
   have := ih (v / 128) (by omega) (w / 128) r s h.2
   exact ⟨by omega, this.2⟩
 · rw [HL hv, Cd hw] at h
   simp only [List.cons_append, List.cons.injEq] at h
   omega
 · rw [Cd hv, HL hw] at h
   simp only [List.cons_append, List.cons.injEq] at h
   omega
 · rw [Cd hv, Cd hw] at h
   simp only [List.cons_append, List.nil_append, List.cons.injEq] at h
   exact ⟨by omega, h.2⟩
def lV (bs : List Int) (i k acc : Nat) : Prop := ∀ hi : Nat, (0 < hi ∨ k = 0) → uv (acc + hi * 2 ^ (7 * k)) = (bs.drop i).take k ++ uv hi
theorem lV.zero {bs : List Int} {i : Nat} : lV bs i 0 0 := fun hi _ => by simp
theorem Tf {bs : List Int} {i k : Nat} {c : Int} (hc : bs[i + k]? = some c) : (bs.drop i).take (k + 1) = (bs.drop i).take k ++ [c] := AR (by rw [List.getElem?_drop]; exact hc)
theorem lV.next {bs : List Int} {i k acc c : Nat} (h : lV bs i k acc) (hc : bs[i + k]? = some (c : Int)) (F8 : 128 ≤ c) (AST : c < 256) : lV bs i (k + 1) (acc + c % 128 * 2 ^ (7 * k)) := fun hi hh => by
 have Ju : 0 < hi := hh.resolve_right (by omega)
 have h1 := h (c % 128 + hi * 128) (.inl (by omega))
 have e1 : acc + c % 128 * 2 ^ (7 * k) + hi * 2 ^ (7 * (k + 1)) = acc + (c % 128 + hi * 128) * 2 ^ (7 * k) := by
   rw [show 2 ^ (7 * (k + 1)) = 128 * 2 ^ (7 * k) by rw [Nat.mul_succ, Nat.pow_add, Nat.mul_comm], Nat.add_mul, Nat.mul_assoc, Nat.add_assoc]
 rw [e1, h1, HL (by omega), Tf hc]
 have e2 : (c % 128 + hi * 128) % 128 + 128 = c := by omega
 have e3 : (c % 128 + hi * 128) / 128 = hi := by omega
 rw [e2, e3]; simp
theorem lV.last {bs : List Int} {i k acc c : Nat} (h : lV bs i k acc) (hc : bs[i + k]? = some (c : Int)) (Ag : c < 128) (Ju : 0 < c ∨ k = 0) : uv (acc + c * 2 ^ (7 * k)) = (bs.drop i).take (k + 1) := by
 rw [h c Ju, Cd (by omega), Tf hc]
structure Ls (bs : List Int) (i : Nat) (Φ : Int → Int → Int → Prop) : Prop where
 err : (∀ w, ¬ Iu bs i w) → ∀ code : Int, code ≠ 0 → Φ 0 0 code
 ok : ∀ v : Nat, Iu bs i v → Φ v ((i + (uv v).length : Nat)) 0
theorem Ls.no9 {bs : List Int} {i acc : Nat} {c : Int} (h : So bs i 9 acc) (hc : bs[i + 9]? = some c) (h1 : 1 < c) : ∀ w, ¬ Iu bs i w := fun w hw => by
 obtain ⟨g1, g2⟩ := h.byte hw hc
 have : w / 2 ^ (7 * 9) < 2 := by have := hw.1; omega
 have := g2 (by omega)
 omega
theorem Ls.no0 {bs : List Int} {i k acc : Nat} {c : Int} (h : So bs i k acc) (hk : 0 < k) (hc : bs[i + k]? = some c) (h0 : c = 0) : ∀ w, ¬ Iu bs i w := fun w hw => by
 obtain ⟨g1, g2⟩ := h.byte hw hc
 have := (h w hw).2.2.1 hk
 rcases Nat.lt_or_ge (w / 2 ^ (7 * k)) 128 with Ag | yl
 · have := g2 Ag; omega
 · have := g1 yl; omega
theorem Ls.AEp {bs : List Int} {i k acc : Nat} (h : So bs i k acc) (he : bs.length ≤ i + k) : ∀ w, ¬ Iu bs i w := fun w hw => by
 obtain ⟨_, ⟨rest, hr⟩, _, _⟩ := h w hw
 rw [List.drop_eq_nil_of_le he] at hr
 have := N8 (w / 2 ^ (7 * k))
 have := congrArg List.length hr
 simp at this; omega
theorem fw {bs : List Int} {n i k acc c : Nat} (hk : k ≤ 9) (AEq : c < 256) (h9 : k = 9 → c ≤ 1) (PQ : acc < 2 ^ (7 * k)) :
   IntKind.u64.wrap (IntKind.u64.wrap (Go.bits .and .u8 (c : Int) 127) * 2 ^ Int.toNat (7 * (k : Int))) = ((c % 128 * 2 ^ (7 * k) : Nat) : Int) ∧ c % 128 * 2 ^ (7 * k) < 18446744073709551616 ∧ acc + c % 128 * 2 ^ (7 * k) < 2 ^ (7 * (k + 1)) ∧ acc + c % 128 * 2 ^ (7 * k) < 18446744073709551616 := by
 have e0 : IntKind.u64.wrap (Go.bits .and .u8 (c : Int) 127) = ((c % 128 : Nat) : Int) := by
   rw [yk ⟨c, AEq⟩]; simp [IntKind.wrap, IntKind.bits, IntKind.signed]; omega
 have e1 : Int.toNat (7 * (k : Int)) = 7 * k := by omega
 have hm : c % 128 < 128 := Nat.mod_lt _ (by decide)
 have Ag : c % 128 * 2 ^ (7 * k) < 18446744073709551616 := by
   by_cases h : k = 9
   · subst h
     have := h9 rfl
     have : c % 128 ≤ 1 := by omega
     exact Nat.lt_of_le_of_lt (Nat.mul_le_mul_right (2 ^ (7 * 9)) this) (by decide)
   · have hp : 2 ^ (7 * k) ≤ 2 ^ 56 := Nat.pow_le_pow_right (by decide) (by omega)
     exact Nat.lt_of_le_of_lt (Nat.mul_le_mul (show c % 128 ≤ 127 by omega) hp) (by decide)
 refine ⟨?_, Ag, ?_, ?_⟩
 · rw [e0, e1, show (((c % 128 : Nat) : Int) * 2 ^ (7 * k)) = ((c % 128 * 2 ^ (7 * k) : Nat) : Int) by rw [Int.natCast_mul, Int.natCast_pow]; rfl]
   generalize c % 128 * 2 ^ (7 * k) = y at Ag
   simp [IntKind.wrap, IntKind.bits, IntKind.signed]; omega
 · rw [show 2 ^ (7 * (k + 1)) = 2 ^ (7 * k) * 128 by rw [Nat.mul_succ, Nat.pow_add]]
   have : c % 128 * 2 ^ (7 * k) ≤ 127 * 2 ^ (7 * k) := Nat.mul_le_mul_right _ (by omega)
   omega
 · by_cases h : k = 9
   · subst h
     have := h9 rfl
     have h1 : c % 128 ≤ 1 := by omega
     have h2 : c % 128 * 2 ^ (7 * 9) ≤ 1 * 2 ^ (7 * 9) := Nat.mul_le_mul_right _ h1
     have h3 : acc < 9223372036854775808 := PQ
     have h4 : 1 * 2 ^ (7 * 9) = 9223372036854775808 := by decide
     omega
   · have hp : 2 ^ (7 * k) ≤ 2 ^ 56 := Nat.pow_le_pow_right (by decide) (by omega)
     have h2 : c % 128 * 2 ^ (7 * k) ≤ 127 * 2 ^ 56 := Nat.mul_le_mul (by omega) hp
     have h3 : (2 : Nat) ^ 56 = 72057594037927936 := by decide
     omega
theorem Gy {R : Rr} {σ : Hp} {p : Option Addr} {n c0 i : Nat} {bs : List Int} (hr : CA .u8 σ p n bs) (h8 : E8 bs) (hi : i ≤ n)
   (h : Ls bs i fun v t code => R (.returned (.tuple #[.int .u64 v, .int .i64 t, .int .i64 code])) σ) : Spec prog 177 #[.slice p n c0, .int .i64 i] σ R := by
 have fY : bs.length = n := hr.1
 have Fy := hr.big
 refine Ej.start ⟨fun h0 => by omega, fun _ => ⟨fun h0 => by omega, fun _ => ?_⟩⟩
 suffices H : ∀ d k acc : Nat, 9 - k = d → k ≤ 9 → i + k ≤ n → acc < 2 ^ (7 * k) → So bs i k acc → lV bs i k acc → Ej.LL R p n c0 i acc k σ from H 9 0 0 rfl (by omega) (by omega) (by decide) So.zero lV.zero
 intro d
 have body : ∀ k acc : Nat, (∀ a', k < 9 → i + (k + 1) ≤ n → a' < 2 ^ (7 * (k + 1)) → So bs i (k + 1) a' → lV bs i (k + 1) a' → Ej.LL R p n c0 i a' (k + 1 : Nat) σ) → k ≤ 9 → i + k ≤ n → acc < 2 ^ (7 * k) → So bs i k acc → lV bs i k acc → Ej.LL R p n c0 i acc k σ := by
   intro k acc rec hk C9 PQ uw fx
   have ASW : 2 ^ (7 * k) ≤ 2 ^ 63 := Nat.pow_le_pow_right (by decide) (by omega)
   refine Ej.Pt ⟨by unfold AO; omega, fun Ag => ?_, fun F8 => h.err (Ls.AEp uw (by omega)) 20 (by decide)⟩
   obtain ⟨x, hx⟩ := hr.ex (k := i + k) (by omega)
   obtain ⟨b, o, rfl, hl⟩ := hr.at hx
   have Qy := h8 x (List.mem_of_getElem? hx)
   obtain ⟨c, rfl⟩ : ∃ c : Nat, x = c := ⟨x.toNat, by omega⟩
   have e0 : Int.toNat ((i : Int) + (k : Int)) = i + k := by omega
   have core : (k = 9 → c ≤ 1) → ((0 : Int) < (k : Int) → ¬ ((c : Int) = 0)) → ∀ JZ : Int, JZ = Go.bits .and .u8 (c : Int) 127 → ∀ Wo : Int, Wo = IntKind.u64.wrap JZ → AO (7 * (k : Int)) ∧ ((0 : Int) ≤ (7 * (k : Int)) ∧ (7 * (k : Int)) ≤ ((IntKind.bits .u64 : Nat) : Int)) ∧ ∀ TR : Int, TR = IntKind.u64.wrap (Wo * 2 ^ Int.toNat (7 * (k : Int))) → ∀ PJ : Int, PJ = Go.bits .or .u64 (acc : Int) TR → (((c : Int) : Int) < 128 → AO ((i : Int) + (k : Int)) ∧ AO (((i : Int) + (k : Int)) + 1) ∧ R (.returned (.tuple #[(.int .u64 PJ), (.int .i64 (((i : Int) + (k : Int)) + 1)), (.int .i64 0)])) σ) ∧ (¬ (((c : Int) : Int) < 128) → AO ((k : Int) + 1) ∧ Ej.LL R (some ⟨b, o, none⟩) n c0 i PJ ((k : Int) + 1) σ) := by
     intro h9 ym JZ yn Wo ALK
     refine ⟨by unfold AO; omega, ⟨by omega, by simp [IntKind.bits]; omega⟩, fun TR AEr PJ AEs => ?_⟩
     obtain ⟨f1, f2, f3, f4⟩ := fw (bs := bs) (n := n) (i := i) hk (by omega) h9 PQ
     rw [ALK, yn, f1] at AEr
     subst AEr
     rw [lT PQ hk f2] at AEs
     subst AEs
     refine ⟨fun hc => ⟨by unfold AO; omega, by unfold AO; omega, ?_⟩, fun hc => ⟨by unfold AO; omega, ?_⟩⟩
     · have hc' : c < 128 := by omega
       have e5 : c % 128 = c := Nat.mod_eq_of_lt hc'
       have hz : 0 < c ∨ k = 0 := by
         rcases Nat.eq_zero_or_pos k with h1 | h1
         · exact .inr h1
         · exact .inl (Nat.pos_of_ne_zero fun h2 => ym (by omega) (by omega))
       have hu := fx.last hx hc' hz
       have hlk : ((bs.drop i).take (k + 1)).length = k + 1 := by rw [List.length_take, List.length_drop]; omega
       have := h.ok (acc + c * 2 ^ (7 * k)) ⟨by rw [← e5]; omega, (bs.drop i).drop (k + 1), by rw [hu, List.take_append_drop]⟩
       rw [hu, hlk] at this
       have e4 : (((i + (k + 1) : Nat)) : Int) = (i : Int) + k + 1 := by omega
       rw [e4] at this
       rw [e5]; exact this
     · exact rec _ (by rcases Nat.lt_or_ge k 9 with h1 | h1; · exact h1
                       · have := h9 (by omega); omega) (by omega) f3 (uw.next hx (by omega) fun _ => rfl) (fx.next hx (by omega) (by omega))
   have rest : (k = 9 → c ≤ 1) → ((0 : Int) < (k : Int) → (((c : Int)) = 0 → R (.returned (.tuple #[(.int .u64 0), (.int .i64 0), (.int .i64 21)])) σ) ∧ (¬ (((c : Int)) = 0) → _)) ∧ (¬ ((0 : Int) < (k : Int)) → _) := fun h9 =>
     ⟨fun ux => ⟨fun hc0 => h.err (Ls.no0 uw (by omega) hx hc0) 21 (by decide), fun hc0 => core h9 fun _ => hc0⟩, fun ux => core h9 fun iu => absurd iu ux⟩
   refine ⟨by unfold AO; omega, b, o, rfl, by omega, c, by rw [e0]; simpa using hl, fun hk9 => ⟨fun fy => ?_, fun fy => rest fun _ => by omega⟩, fun hk9 => rest fun h => by omega⟩
   have : k = 9 := by omega
   subst this
   exact h.err (Ls.no9 uw hx fy) 21 (by decide)
 induction d with
 | zero =>
   intro k acc hd hk C9 PQ uw fx
   exact body k acc (fun a' h1 => by omega) hk C9 PQ uw fx
 | succ d ih =>
   intro k acc hd hk C9 PQ uw fx
   exact body k acc (fun a' h1 h2 h3 h4 h5 => ih (k + 1) a' (by omega) (by omega) h2 h3 h4 h5) hk C9 PQ uw fx
end TwW
end
section
namespace TwW
open Go Tw Go.Proofs.Tryz
def FK (x : Int) : Int := if Go.bits .and .u32 x 1 = 0 then x / 2 else Go.bits .xor .u32 (x / 2) 3988292384
def Iv (i : Nat) : Int := FK (FK (FK (FK i)))
def uy (c : Int) (t : Int) : Int := Go.bits .xor .u32 (c / 16) t
def ri (c : Int) : Nat := (Go.bits .and .u32 c 15).toNat
def uz (c x : Int) : Int := let a := Go.bits .xor .u32 c (IntKind.u32.wrap x); let b := uy a (Iv (ri a)); uy b (Iv (ri b))
def Xd (xs : List Int) : Int := Go.bits .xor .u32 4294967295 (xs.foldl uz 4294967295)
theorem lW (op : BinOp) (a b : Int) : 0 ≤ Go.bits op .u32 a b ∧ Go.bits op .u32 a b < 4294967296 := by
 have h := bits_within op .u32 a b
 have e1 : IntKind.min .u32 = 0 := rfl
 have e2 : IntKind.max .u32 = 4294967295 := rfl
 rw [e1, e2] at h; omega
theorem Tg (xs : List Int) : 0 ≤ Xd xs ∧ Xd xs < 4294967296 := lW _ _ _
theorem aF (c : Int) : (0 : Int) ≤ Go.bits .and .u32 c 15 ∧ Go.bits .and .u32 c 15 < 16 := by
 refine ⟨(lW _ _ _).1, ?_⟩
 have h2 : (BitVec.ofInt 32 15).toNat = 15 := rfl
 have : Go.bits .and .u32 c 15 = IntKind.u32.wrap (((BitVec.ofInt 32 c) &&& (BitVec.ofInt 32 15)).toNat : Int) := rfl
 rw [this, BitVec.toNat_and, h2]
 have hle : (BitVec.ofInt 32 c).toNat &&& 15 ≤ 15 := Nat.and_le_right
 generalize (BitVec.ofInt 32 c).toNat &&& 15 = y at hle
 simp [IntKind.wrap, IntKind.bits, IntKind.signed]; omega
theorem dL (c : Int) : ri c < 16 := by have := aF c; unfold ri; omega
def Mz : List Value := (List.range 16).map fun j => .int .u32 (Iv j)
section
variable {σ : Hp} {R : Rr}
theorem yo : ∀ w, (Go.sizeOf 70).run prog w = .ok 1 w := fun w => by
 have h : prog.info? 70 = some t70 := by kernel_rfl
 simp [Go.sizeOf, typeInfo, h, show t70.size = 1 from rfl]
theorem rj : ∀ w, (Go.sizeOf 338).run prog w = .ok 16 w := fun w => by
 have h : prog.info? 338 = some t338 := by kernel_rfl
 simp [Go.sizeOf, typeInfo, h, show t338.size = 16 from rfl]
theorem Xe : ∀ (n : Nat) (x : Int), Nat.repeat FK n (FK x) = Nat.repeat FK (n + 1) x
 | 0, _ => rfl
 | n + 1, x => by
   show FK (Nat.repeat FK n (FK x)) = FK (Nat.repeat FK (n + 1) x)
   rw [Xe n x]
theorem Xf {b1 : Nat} {i : Nat} {x5 : Int} : ∀ (n : Nat) (x3 : Int) (j : Int), j = 4 - (n : Int) → n ≤ 4 → (∀ y, y = (Nat.repeat FK n x3) → Bu.SP R 0 0 0 0 0 0 0 0 0 0 0 0 0 0 0 0 b1 i y 4 x5 σ) → Bu.SP R 0 0 0 0 0 0 0 0 0 0 0 0 0 0 0 0 b1 i x3 j x5 σ
 | 0, x3, j, hj, _, h => by
   have : j = 4 := by simpa using hj
   subst this; exact h x3 rfl
 | n + 1, x3, j, hj, hn, h => by
   have step : Bu.Nw R 0 0 0 0 0 0 0 0 0 0 0 0 0 0 0 0 b1 i (FK x3) j x5 σ := by
     refine Bu.JN ⟨by unfold AO; omega, Xf n (FK x3) (j + 1) (by omega) (by omega) fun y hy => h y ?_⟩
     rw [hy, Xe]
   refine Bu.Ml ⟨fun _ Nv fu => ⟨fun h0 => ⟨by simp [IntKind.bits], fun FT ALL => ?_⟩, fun h0 => ⟨by simp [IntKind.bits], fun Ws VA Hj U9 => ?_⟩⟩, fun hh => by omega⟩
   · have : FT = FK x3 := by rw [FK, if_pos (by rw [← fu]; exact h0), ALL]; rfl
     rw [this]; exact step
   · have : Hj = FK x3 := by rw [FK, if_neg (by rw [← fu]; exact h0), U9, VA]; rfl
     rw [this]; exact step
theorem ALM {A : Array Value} {i j : Nat} {v : Value} (hi : i < A.size) : (DX A i [v])[j]? = if j = i then some v else A[j]? := by
 simp only [DX]
 by_cases h : j = i
 · subst h; simp [hi]
 · simp [h, Ne.symm h]
theorem aG (h : ∀ σ', Ext σ σ' → R (.returned (.agg Mz.toArray)) σ') : Spec prog 289 #[] σ R := by
 refine Bu.start fun _ b1 PR => ?_
 suffices H : ∀ (d i : Nat) (A : Array Value), 16 - i = d → i ≤ 16 → A.size = 16 → (∀ j, j < i → A[j]? = some (.int .u32 (Iv j))) → Bu.A1 R 0 0 0 0 0 0 0 0 0 0 0 0 0 0 0 0 b1 i (σ.set b1 (.cells A 338 (0, 0))) from
   H 16 0 _ rfl (by omega) rfl (fun j hj => by omega)
 intro d
 induction d with
 | zero =>
   intro i A hd hi hA hj
   have : i = 16 := by omega
   subst this
   refine Bu.AW ⟨fun hh => by omega, fun _ => ⟨Iv 0, Iv 1, Iv 2, Iv 3, Iv 4, Iv 5, Iv 6, Iv 7, Iv 8, Iv 9, Iv 10, Iv 11, Iv 12, Iv 13, Iv 14, Iv 15, EF.of fun j v hv => ?_, h _ (.set PR)⟩⟩
   have ox : Mz[j]? = some v := hv
   have Ag : j < 16 := by
     have := (List.getElem?_eq_some_iff.1 ox).1
     simpa [Mz] using this
   have : Mz[j]? = some (.int .u32 (Iv j)) := by simp [Mz, Ag]
   rw [this] at ox
   cases ox
   rw [Nat.zero_add]
   exact AD (Hp.AA _ _ _) (hj j Ag)
 | succ d ih =>
   intro i A hd hi hA hj
   refine Bu.AW ⟨fun _ x9 hx9 => ?_, fun hh => by omega⟩
   have h9 : x9 = (i : Int) := by rw [hx9]; simp [IntKind.wrap, IntKind.bits, IntKind.signed]; omega
   subst h9
   refine Xf 4 (i : Int) 0 rfl (Nat.le_refl _) fun y hy => ?_
   refine Bu.Ml ⟨fun hh => by omega, fun _ => ⟨by omega, ?_⟩⟩
   refine AJ.store (v := .int .u32 y) yo (Hp.AA _ _ _) rfl (by omega) (by simp [Value.cells, Value.oneCell']) ⟨by unfold AO; omega, ?_⟩
   rw [Hp.set_set]
   have e0 : 0 + Int.toNat (i : Int) * 1 = i := by omega
   rw [e0]
   have e1 : (Value.int .u32 y).cells.toList = [.int .u32 y] := rfl
   rw [e1]
   refine ih (i + 1) _ (by omega) (by omega) (by rw [Dm]; exact hA) fun j UQ => ?_
   rw [ALM (by omega)]
   by_cases Yo : j = i
   · subst Yo; rw [if_pos rfl, hy]; rfl
   · rw [if_neg Yo]; exact hj j (by omega)
theorem Xg {p : Option Addr} {n c : Nat} {xs : List Int} (hr : CA .u8 σ p n xs) (h : ∀ σ', Ext σ σ' → R (.returned (.int .u32 (Xd xs))) σ') : Spec prog 219 #[.slice p n c] σ R := by
 refine Ig.start (aG fun σ1 hx => ⟨Iv 0, Iv 1, Iv 2, Iv 3, Iv 4, Iv 5, Iv 6, Iv 7, Iv 8, Iv 9, Iv 10, Iv 11, Iv 12, Iv 13, Iv 14, Iv 15, rfl, fun b3 U4 => ?_⟩)
 refine AJ.store (v := .agg Mz.toArray) (c := (List.replicate 16 (Value.int .u32 0)).toArray) rj (Hp.AA _ _ _) (by simp [Value.cells, Mz]) (by simp) (by simp [Value.cells, Mz, Value.oneCell']) ?_
 rw [Hp.set_set]
 have hw : DX (List.replicate 16 (Value.int .u32 0)).toArray 0 (Value.agg Mz.toArray).cells.toList = Mz.toArray := by kernel_rfl
 rw [hw]
 have An : Ext σ (σ1.set b3 (.cells Mz.toArray 338 (0, 0))) := hx.trans (.set U4)
 have US := hr.mono An
 have ht : ∀ k : Nat, k < 16 → (σ1.set b3 (.cells Mz.toArray 338 (0, 0))).ld ⟨b3, k, none⟩ = some (.int .u32 (Iv k)) := fun k hk => AD (Hp.AA _ _ _) (by simp [Mz, hk])
 generalize (σ1.set b3 (.cells Mz.toArray 338 (0, 0))) = τ at An US ht
 suffices H : ∀ (d k : Nat) (acc : Int), n - k = d → k ≤ n → acc = (xs.take k).foldl uz 4294967295 → Ig.HC R b3 acc p n c n k τ from H n 0 _ rfl (by omega) rfl
 intro d
 induction d with
 | zero =>
   intro k acc hd hk ha
   refine Ig.F5 ⟨fun hh => by omega, fun _ => ⟨Xd xs, fun w _ => ?_, h τ An⟩⟩
   rw [List.take_of_length_le (by rw [hr.1]; omega)] at ha
   subst ha
   simp [Op.unary, intBits_xor, Xd, IntKind.signed, IntKind.max, IntKind.bits]
 | succ d ih =>
   intro k acc hd hk ha
   refine Ig.F5 ⟨fun _ => ?_, fun hh => by omega⟩
   obtain ⟨y, hy⟩ := US.ex (k := k) (by omega)
   obtain ⟨b, o, rfl, hl⟩ := US.at hy
   refine ⟨b, o, rfl, by omega, y, by simpa using hl, fun FF fv D8 h17 => ⟨by simp [IntKind.bits], fun MS h19 Hj h21 => ?_⟩⟩
   subst fv h17 h19 h21
   refine ⟨aF _, Iv (ri (Go.bits .xor .u32 acc (IntKind.u32.wrap y))), ?_, fun J4 h24 => ⟨by simp [IntKind.bits], fun IK h26 G9 h28 => ?_⟩⟩
   · rw [Nat.zero_add, Nat.mul_one]; exact ht (ri _) (dL _)
   subst h24 h26 h28
   refine ⟨aF _, Iv (ri (Go.bits .xor .u32 (Go.bits .xor .u32 acc (IntKind.u32.wrap y) / 2 ^ Int.toNat 4) (Iv (ri (Go.bits .xor .u32 acc (IntKind.u32.wrap y)))))), ?_, fun Hm h31 => ⟨Ah (by omega) hr.big, ?_⟩⟩
   · rw [Nat.zero_add, Nat.mul_one]; exact ht (ri _) (dL _)
   subst h31
   refine ih (k + 1) _ (by omega) (by omega) ?_
   rw [AR hy, List.foldl_append, ← ha]
   rfl
def Y6 (x : Int) : List Int := [x / 16777216 % 256, x / 65536 % 256, x / 256 % 256, x % 256]
def frame (r : List Int) : List Int := uv r.length ++ Y6 (Xd r) ++ r
theorem Ew (r : List Int) : (frame r).length = (uv r.length).length + 4 + r.length := by simp [frame, Y6]; omega
theorem Om {r : List Int} (h : r.length ≤ 65536) : (frame r).length ≤ r.length + 7 := by
 have := aC 2 r.length (by omega)
 rw [Ew]; omega
theorem Qz {p : Option Addr} {n c : Nat} {xs : List Int} (hr : CA .u8 σ p n xs) (h0 : 65536 < n → R (.returned (.tuple #[.slice none 0 0, .int .i64 23])) σ)
   (h1 : n ≤ 65536 → ∀ p' n' c' σ', AS .u8 (σ.new σ') p' n' c' (frame xs) → Ext σ σ' → R (.returned (.tuple #[.slice p' n' c', .int .i64 0])) σ') : Spec prog 128 #[.slice p n c] σ R := by
 have hn : xs.length = n := hr.1
 refine OW.start ⟨fun h => h0 (by omega), fun hle => Xg hr fun σ1 BH => ⟨_, rfl, fun FU h13 => ?_⟩⟩
 have e13 : FU = (n : Int) := by rw [h13]; simp [IntKind.wrap, IntKind.bits, IntKind.signed]; omega
 subst e13
 have aH : CA .u8 σ1 none 0 [] := GS.nil
 refine Ce aH (by omega) (by omega) fun p' n' c' σ2 ho An => ⟨p', n', c', rfl, by simp [IntKind.bits], fun FF fv D8 h17 => ⟨by simp [IntKind.bits], fun MS h19 Ws iw => ⟨by simp [IntKind.bits], fun PI h22 Po h23 NQ h25 TV U8 => ?_⟩⟩⟩
 rw [List.nil_append] at ho
 have hcr := Tg xs
 have ec : [Value.int .u8 D8, .int .u8 Ws, .int .u8 Po, .int .u8 NQ] = (Y6 (Xd xs)).map (.int .u8) := by
   subst fv h17 h19 iw h22 h23 h25
   simp [Y6, IntKind.wrap, IntKind.bits, IntKind.signed]
 have hnl : n' ≤ 10 := by have := ho.1; have h2 := BF (x := n) (by omega); simp at this; omega
 have aE := BH.trans An
 have B1 : Own 1 (σ.new σ2) p' n' c' ((uv n).map (.int .u8)) := ho.mono (Ext.CW BH)
 refine JE (T := 84) aE B1 (m := 4) rfl (fun u hu => by simp at hu; rcases hu with rfl | rfl | rfl | rfl <;> rfl) (by omega) (fun p3 c3 σ3 Dl DR _ => ⟨p3, _, c3, rfl, ?_⟩) U8
 refine D6 (T := 84) DR Dl (Gi.of_map (hr.mono DR)) CU.Cs (by omega) fun p4 c4 σ4 Pv Kt _ => ⟨p4, _, c4, rfl, h1 (by omega) p4 _ c4 σ4 ?_ Kt⟩
 rw [ec] at Pv
 unfold AS frame
 rw [List.map_append, List.map_append, hn]
 exact Pv
end
end TwW
end
section
namespace TwW
open Go Tw Go.Proofs.Tryz
theorem CA.sub {k : IntKind} {σ : Hp} {p : Option Addr} {n c i m : Nat} {xs : List Int} (h : CA k σ p n xs) (him : i + m ≤ n) (hc : n ≤ c) : CA k σ (GP p i c 1) m ((xs.drop i).take m) := by
 have hl : xs.length = n := h.1
 obtain ⟨_, cs, ⟨h2, h3, h4⟩, h5⟩ := h
 rw [ZI.1 h5] at h4
 refine CA.Lz ⟨by simp; omega, by omega, ?_⟩
 rcases Nat.eq_zero_or_pos m with hm | hm
 · exact .inl hm
 · rcases h4 with h4 | ⟨b, o, rfl, h4⟩
   · omega
   · refine .inr ⟨b, o + i, ?_, ?_⟩
     · unfold GP
       rw [if_neg (by omega)]
       simp [DC]
     · rw [List.map_take, List.map_drop]
       exact h4.part
theorem PS (a b : Nat) (ha : a < 4294967296) (hb : b < 4294967296) : Go.bits .or .u32 (a : Int) (b : Int) = ((a ||| b : Nat) : Int) := by
 have hx : a ||| b < 2 ^ 32 := Nat.or_lt_two_pow (by omega) (by omega)
 have h1 : (BitVec.ofInt 32 (a : Int)).toNat = a := by
   rw [BitVec.ofInt_natCast, BitVec.toNat_ofNat]; exact Nat.mod_eq_of_lt (by omega)
 have h2 : (BitVec.ofInt 32 (b : Int)).toNat = b := by
   rw [BitVec.ofInt_natCast, BitVec.toNat_ofNat]; exact Nat.mod_eq_of_lt (by omega)
 show IntKind.u32.wrap ((BitVec.ofInt 32 (a : Int) ||| BitVec.ofInt 32 (b : Int)).toNat : Int) = _
 rw [BitVec.toNat_or, h1, h2]
 generalize a ||| b = y at hx
 simp [IntKind.wrap, IntKind.bits, IntKind.signed]; omega
theorem rl {a c : Nat} (ha : a < 16777216) (hc : c < 256) : Go.bits .or .u32 (IntKind.u32.wrap ((a : Int) * 2 ^ Int.toNat 8)) (IntKind.u32.wrap (c : Int)) = ((a * 256 + c : Nat) : Int) := by
 have e1 : IntKind.u32.wrap ((a : Int) * 2 ^ Int.toNat 8) = ((a * 256 : Nat) : Int) := by
   simp [IntKind.wrap, IntKind.bits, IntKind.signed]; omega
 have e2 : IntKind.u32.wrap (c : Int) = (c : Int) := by simp [IntKind.wrap, IntKind.bits, IntKind.signed]; omega
 rw [e1, e2, PS _ _ (by omega) (by omega), show a * 256 = 2 ^ 8 * a by omega, ← Nat.two_pow_add_eq_or_of_lt (show c < 2 ^ 8 from hc)]
def lX (l : List Int) : Int := l.foldl (fun a c => a * 256 + c) 0
theorem rm {x : Int} (h : 0 ≤ x ∧ x < 4294967296) : lX (Y6 x) = x := by simp [lX, Y6]; omega
theorem rn {l : List Int} (h : l.length = 4) (h8 : E8 l) : Y6 (lX l) = l := by
 match l, h with
 | [a, b, c, d], _ =>
   have ha := h8 a (by simp)
   have hb := h8 b (by simp)
   have hc := h8 c (by simp)
   have hd := h8 d (by simp)
   simp [lX, Y6]; omega
theorem Iu.uniq {bs : List Int} {i v w : Nat} (h : Iu bs i v) (g : Iu bs i w) : v = w := by
 obtain ⟨_, r, hr⟩ := h
 obtain ⟨_, s, hs⟩ := g
 exact (lU v w r s (hr.symm.trans hs)).1
def Iw (bs : List Int) (i : Nat) (r : List Int) : Prop := r.length ≤ 65536 ∧ ∃ rest, bs.drop i = frame r ++ rest
theorem Iw.uv {bs : List Int} {i : Nat} {r : List Int} (h : Iw bs i r) : Iu bs i r.length := by
 obtain ⟨h1, rest, h2⟩ := h
 exact ⟨by omega, _, by rw [h2, frame, List.append_assoc, List.append_assoc]⟩
theorem Iw.parts {bs : List Int} {i : Nat} {r : List Int} (h : Iw bs i r) : ((bs.drop (i + (TwW.uv r.length).length)).take 4 = Y6 (Xd r)) ∧ (bs.drop (i + (TwW.uv r.length).length + 4)).take r.length = r ∧ i + (TwW.uv r.length).length + 4 + r.length ≤ bs.length ∨ bs.length ≤ i := by
 obtain ⟨h1, rest, h2⟩ := h
 rcases Nat.lt_or_ge i bs.length with hi | hi
 · left
   have e1 : bs.drop (i + (TwW.uv r.length).length) = Y6 (Xd r) ++ (r ++ rest) := by
     rw [← List.drop_drop, h2, frame, List.append_assoc, List.append_assoc, List.drop_left]
   have e2 : bs.drop (i + (TwW.uv r.length).length + 4) = r ++ rest := by
     rw [← List.drop_drop, e1, show 4 = (Y6 (Xd r)).length from rfl, List.drop_left]
   refine ⟨by rw [e1, show 4 = (Y6 (Xd r)).length from rfl, List.take_left], by rw [e2, List.take_left], ?_⟩
   have := congrArg List.length h2
   rw [List.length_append, Ew, List.length_drop] at this
   omega
 · exact .inr hi
theorem Iw.lt {bs : List Int} {i : Nat} {r : List Int} (h : Iw bs i r) : i < bs.length := by
 obtain ⟨h1, rest, h2⟩ := h
 have := congrArg List.length h2
 have h3 := Ew r
 rw [List.length_append, List.length_drop] at this
 omega
theorem E8.part {bs : List Int} (h : E8 bs) (i m : Nat) : E8 ((bs.drop i).take m) := fun x hx => h x (List.mem_of_mem_drop (List.mem_of_mem_take hx))
theorem Iw.of {bs : List Int} {i len : Nat} (h8 : E8 bs) (hu : Iu bs i len) (hle : len ≤ 65536) (Db : i + (TwW.uv len).length + 4 + len ≤ bs.length)
   (hs : Xd ((bs.drop (i + (TwW.uv len).length + 4)).take len) = lX ((bs.drop (i + (TwW.uv len).length)).take 4)) : Iw bs i ((bs.drop (i + (TwW.uv len).length + 4)).take len) := by
 have hl : ((bs.drop (i + (TwW.uv len).length + 4)).take len).length = len := by rw [List.length_take, List.length_drop]; omega
 refine ⟨by omega, (bs.drop (i + (TwW.uv len).length + 4)).drop len, ?_⟩
 obtain ⟨_, rest, hr⟩ := hu
 have e0 : rest = bs.drop (i + (TwW.uv len).length) := by rw [← List.drop_drop, hr, List.drop_left]
 have e4 : Y6 (Xd ((bs.drop (i + (TwW.uv len).length + 4)).take len)) = (bs.drop (i + (TwW.uv len).length)).take 4 := by
   rw [hs, rn (by rw [List.length_take, List.length_drop]; omega) (h8.part _ _)]
 rw [frame, hl, e4, hr, e0, List.append_assoc, List.append_assoc, List.take_append_drop, show bs.drop (i + (TwW.uv len).length + 4) = (bs.drop (i + (TwW.uv len).length)).drop 4 from List.drop_drop.symm, List.take_append_drop]
section
variable {σ : Hp} {R : Rr}
theorem AEx : Enters prog 343 := fun args w => call343 args w
theorem AEy : Enters prog 344 := fun args w => call344 args w
theorem Xh {b i len : Nat} {p : Option Addr} {n c : Nat} {bs : List Int} (hb : σ b = none) (hr : CA .u8 σ p n bs) (h8 : E8 bs) (hc : n ≤ c) (hi : i ≤ n) (hle : len ≤ 65536)
   (yp : n < i + 4 + len → ∀ σ', Ext σ σ' → R (.returned (.tuple #[.slice none 0 0, .int .i64 20])) σ')
   (KU : i + 4 + len ≤ n → Xd ((bs.drop (i + 4)).take len) ≠ lX ((bs.drop i).take 4) → ∀ σ', Ext σ σ' → R (.returned (.tuple #[.slice none 0 0, .int .i64 22])) σ')
   (Au : i + 4 + len ≤ n → Xd ((bs.drop (i + 4)).take len) = lX ((bs.drop i).take 4) → ∀ p' c' σ', AS .u8 (σ.new σ') p' len c' ((bs.drop (i + 4)).take len) → Ext (σ.set b (.cells #[.slice p n c, .int .i64 (i + 4 + len : Nat)] 381 (0, 0))) σ' → R (.returned (.tuple #[.slice p' len c', .int .i64 0])) σ') :
   Spec prog 344 #[.pointer (some ⟨b, 0, none⟩), .int .i64 len] (σ.set b (.cells #[.slice p n c, .int .i64 i] 381 (0, 0))) R := by
 have fY : bs.length = n := hr.1
 have Fy := hr.big
 have hx : Ext σ (σ.set b (.cells #[.slice p n c, .int .i64 i] 381 (0, 0))) := .set hb
 have pA : ∀ {τ : Hp} {k : Int} {T : TypeId}, (τ.set b (.cells #[.slice p n c, .int .i64 k] T (0, 0))).ld ⟨b, 0, none⟩ = some (.slice p n c) := fun {τ k T} => AD (Hp.AA _ _ _) rfl
 have fz : ∀ {τ : Hp} {k : Int} {T : TypeId}, (τ.set b (.cells #[.slice p n c, .int .i64 k] T (0, 0))).ld ⟨b, 0 + 1, none⟩ = some (.int .i64 k) := fun {τ k T} => AD (Hp.AA _ _ _) rfl
 refine BZ.start ⟨b, 0, rfl, p, n, c, pA, i, fz, by unfold AO; omega, by unfold AO; omega, fun h => yp (by omega) _ hx, fun h => ⟨p, n, c, pA, i, fz, i, fz, by unfold AO; omega, by omega, ?_⟩⟩
 have Db : i + 4 + len ≤ n := by omega
 have e1 : Int.toNat (i : Int) = i := by omega
 have e2 : Int.toNat ((i : Int) + 4) - i = 4 := by omega
 rw [e1, e2]
 have h4 : CA .u8 (σ.set b (.cells #[.slice p n c, .int .i64 i] 381 (0, 0))) (GP p i c 1) 4 ((bs.drop i).take 4) := CA.sub (hr.mono hx) (by omega) hc
 have h48 : E8 ((bs.drop i).take 4) := h8.part _ _
 have fin : BZ.Gp R (some ⟨b, 0, none⟩) len (lX ((bs.drop i).take 4)) (GP p i c 1) 4 (c - i) ((4 : Nat) : Int) ((4 : Nat) : Int) (σ.set b (.cells #[.slice p n c, .int .i64 i] 381 (0, 0))) := by
   refine BZ.Gq ⟨fun hh => by omega, fun _ => ⟨b, 0, rfl, p, n, c, pA, i, fz, by unfold AO; omega, i, fz, by unfold AO; omega, by unfold AO; omega, by omega, i, fz, by unfold AO; omega, by unfold AO; omega, ?_⟩⟩
   refine AJ.store (v := .int .i64 ((i : Int) + (4 + (len : Int)))) Hr (Hp.AA _ _ _) rfl (by simp) (by simp [Value.cells, Value.oneCell']) ?_
   rw [Hp.set_set]
   have hw : DX #[Value.slice p n c, .int .i64 i] (0 + 1) (Value.int .i64 ((i : Int) + (4 + (len : Int)))).cells.toList = #[.slice p n c, .int .i64 ((i + 4 + len : Nat) : Int)] := by
     rw [show ((i + 4 + len : Nat) : Int) = (i : Int) + (4 + (len : Int)) by omega]; rfl
   rw [hw]
   have e3 : Int.toNat ((i : Int) + 4) = i + 4 := by omega
   have e4 : Int.toNat ((i : Int) + 4 + (len : Int)) - (i + 4) = len := by omega
   rw [e3, e4]
   have An : Ext σ (σ.set b (.cells #[.slice p n c, .int .i64 ((i + 4 + len : Nat) : Int)] 381 (0, 0))) := .set hb
   have lY : CA .u8 (σ.set b (.cells #[.slice p n c, .int .i64 ((i + 4 + len : Nat) : Int)] 381 (0, 0))) (GP p (i + 4) c 1) len ((bs.drop (i + 4)).take len) := CA.sub (hr.mono An) (by omega) hc
   refine Xg lY fun σ3 DR => ⟨_, rfl, fun Ad => KU Db Ad _ (An.trans DR), fun heq => ?_⟩
   intro Yx rp
   have hq : ∀ a : Addr, (some (⟨Yx, 0, none⟩ : Addr)) = some a → σ3 a.block = none := fun a ha => by cases ha; exact rp
   refine Ec (T := 84) Own.empty ((Gi.of_map (lY.mono DR)).mono (.set rp)) CU.Cs (by omega) fun p' c' σ' Aa EU => ⟨p', _, c', rfl, ?_⟩
   rw [Nat.zero_add] at Aa ⊢
   have ho := Own.CV Aa (B2 hq EU (.set rp))
   have he := CX hq EU (.set rp)
   exact Au Db (Decidable.byContradiction heq) p' c' σ' (ho.mono (Ext.CW (An.trans DR))) (DR.trans he)
 have step : ∀ (d k : Nat) (acc : Nat), 4 - k = d → k ≤ 4 → acc < 256 ^ k → (acc : Int) = lX (((bs.drop i).take 4).take k) → BZ.Gp R (some ⟨b, 0, none⟩) len acc (GP p i c 1) 4 (c - i) ((4 : Nat) : Int) k (σ.set b (.cells #[.slice p n c, .int .i64 i] 381 (0, 0))) := by
   intro d
   induction d with
   | zero =>
     intro k acc hd hk PQ ha
     have : k = 4 := by omega
     subst this
     rw [List.take_take, Nat.min_self] at ha
     rw [ha]; exact fin
   | succ d ih =>
     intro k acc hd hk PQ ha
     refine BZ.Gq ⟨fun _ => ?_, fun hh => by omega⟩
     obtain ⟨y, hy⟩ := h4.ex (k := k) (by omega)
     obtain ⟨b2, o2, hp, hl⟩ := h4.at hy
     have hy8 := h48 y (List.mem_of_getElem? hy)
     obtain ⟨cc, rfl⟩ : ∃ cc : Nat, y = cc := ⟨y.toNat, by omega⟩
     refine ⟨b2, o2, hp, by omega, cc, by simpa using hl, by simp [IntKind.bits], fun yC lZ fA h45 fD h46 => ⟨by unfold AO; omega, ?_⟩⟩
     subst lZ h45 h46
     have AEz : acc < 16777216 := Nat.lt_of_lt_of_le PQ (Nat.le_trans (Nat.pow_le_pow_right (by decide) (show k ≤ 3 by omega)) (by decide))
     rw [rl AEz (by omega), show aD b2 o2 = _ from hp.symm]
     refine ih (k + 1) (acc * 256 + cc) (by omega) (by omega) (by rw [Nat.pow_succ]; omega) ?_
     rw [AR hy, lX, List.foldl_append, ← lX, ← ha]
     simp
 exact step 4 0 0 rfl (by omega) (by decide) rfl
theorem M0 {i : Nat} {p : Option Addr} {n c : Nat} {bs : List Int} (hr : CA .u8 σ p n bs) (h8 : E8 bs) (hc : n ≤ c) (hi : i ≤ n)
   (Au : ∀ r, Iw bs i r → ∀ p' c' σ', AS .u8 (σ.new σ') p' r.length c' r → Ext σ σ' → R (.returned (.tuple #[.slice p' r.length c', .int .i64 (i + (frame r).length : Nat), .int .i64 0])) σ')
   (Q0 : (∀ r, ¬ Iw bs i r) → ∀ σ' (code : Int), code ≠ 0 → Ext σ σ' → R (.returned (.tuple #[.slice none 0 0, .int .i64 0, .int .i64 code])) σ') :
   Spec prog 320 #[.slice p n c, .int .i64 i] σ R := by
 have fY : bs.length = n := hr.1
 refine Lr.start fun b hb => ?_
 have hx : ∀ k : Int, Ext σ (σ.set b (.cells #[.slice p n c, .int .i64 k] 381 (0, 0))) := fun k => .set hb
 refine QU.start ⟨_, _, _, rfl, AEx, ?_⟩
 simp only [Array.append_empty]
 refine Gf.start ⟨b, 0, rfl, p, n, c, AD (Hp.AA _ _ _) rfl, i, AD (Hp.AA _ _ _) rfl, Gy (hr.mono (hx i)) h8 hi ⟨fun Be code Th => ⟨0, 0, code, rfl, ?_⟩, fun v hv => ⟨v, _, 0, rfl, ?_⟩⟩⟩
 · refine AJ.store (v := .int .i64 0) Hr (Hp.AA _ _ _) rfl (by simp) (by simp [Value.cells, Value.oneCell']) ?_
   rw [Hp.set_set]
   refine ⟨fun _ => ⟨_, _, rfl, fun _ => ⟨_, _, _, _, rfl, fun _ => Q0 (fun r hf => Be _ hf.uv) _ code Th (hx 0), fun h => absurd Th h⟩, fun h => absurd Th h⟩, fun h => absurd Th h⟩
 · refine AJ.store (v := .int .i64 ((i + (uv v).length : Nat) : Int)) Hr (Hp.AA _ _ _) rfl (by simp) (by simp [Value.cells, Value.oneCell']) ?_
   rw [Hp.set_set]
   have hw : DX #[Value.slice p n c, .int .i64 i] (0 + 1) (Value.int .i64 ((i + (uv v).length : Nat) : Int)).cells.toList = #[.slice p n c, .int .i64 ((i + (uv v).length : Nat) : Int)] := rfl
   rw [hw]
   have hto : i + (uv v).length ≤ n := by
     obtain ⟨_, rest, h2⟩ := hv
     have := congrArg List.length h2
     rw [List.length_append, List.length_drop] at this
     rw [← fY]
     rcases Nat.lt_or_ge i bs.length with h | h
     · omega
     · have := N8 v; omega
   refine ⟨fun h => absurd rfl h, fun _ => ⟨fun Fy => ⟨_, _, rfl, fun _ => ⟨_, _, _, _, rfl, fun _ => Q0 (fun r hf => ?_) _ 23 (by decide) (hx _), fun h => absurd (by decide) h⟩, fun h => absurd (by decide) h⟩, fun MR uS h32 => ?_⟩⟩
   · have := hv.uniq hf.uv
     have := hf.1
     omega
   · have e32 : uS = (v : Int) := by rw [h32]; simp [IntKind.wrap, IntKind.bits, IntKind.signed]; omega
     subst e32
     refine ⟨_, _, rfl, fun h => absurd rfl h, fun _ => ⟨_, _, _, rfl, AEy, ?_⟩⟩
     have hle : v ≤ 65536 := by omega
     have dM : ∀ r, Iw bs i r → r.length = v := fun r hf => (hv.uniq hf.uv).symm
     simp only [Array.append_empty]
     refine Xh hb hr h8 hc hto hle (fun hs σ' Cc => ⟨_, _, _, _, rfl, _, _, _, _, rfl, fun _ => Q0 (fun r hf => ?_) σ' 20 (by decide) Cc, fun h => absurd (by decide) h⟩) (fun Db Ad σ' Cc => ⟨_, _, _, _, rfl, _, _, _, _, rfl, fun _ => Q0 (fun r hf => ?_) σ' 22 (by decide) Cc, fun h => absurd (by decide) h⟩)
       fun Db heq p' c' σ' ho Cc => ⟨_, _, _, _, rfl, _, _, _, _, rfl, fun h => absurd rfl h, fun _ => ⟨_, AD (Cc _ _ (Hp.AA _ _ _)) rfl, ?_⟩⟩
     · have := dM r hf
       rcases hf.parts with ⟨_, _, h3⟩ | h3
       · rw [this] at h3; omega
       · have := hf.lt; omega
     · have := dM r hf
       rcases hf.parts with ⟨h1, h2, h3⟩ | h3
       · rw [this] at h1 h2
         rw [h2, h1, rm (Tg r)] at Ad
         exact Ad rfl
       · have := hf.lt; omega
     · have hf := Iw.of h8 hv hle (by omega) heq
       have dJ : ((bs.drop (i + (uv v).length + 4)).take v).length = v := by rw [List.length_take, List.length_drop]; omega
       have := Au _ hf p' c' σ' (by rw [dJ]; exact ho) ((hx _).trans Cc)
       rw [Ew, dJ] at this
       rw [show i + (uv v).length + 4 + v = i + ((uv v).length + 4 + v) by omega]
       exact this
end
end TwW
end
section
namespace TwW
open Go Tw Go.Proofs.Tryz
def R7 (σ : Hp) (vs : List Value) (x : List Int) : Prop := ∃ p n c, vs = [.slice p n c] ∧ n ≤ c ∧ CA .u8 σ p n x
theorem R7.mono : PD R7 := fun _ _ _ _ h ⟨p, n, c, h1, h2, h3⟩ => ⟨p, n, c, h1, h2, h3.mono h⟩
abbrev Jx := GS 1 R7
abbrev Ix := A9 1 R7
theorem Jx.mono {σ σ' : Hp} (h : Ext σ σ') {p : Option Addr} {n : Nat} {xs : List (List Int)} (hr : Jx σ p n xs) : Jx σ' p n xs := GS.mono R7.mono h hr
theorem Jx.at {σ : Hp} {p : Option Addr} {n i : Nat} {xs : List (List Int)} {x : List Int} (hr : Jx σ p n xs) (hx : xs[i]? = some x) : ∃ b o p' n' c', p = some ⟨b, o, none⟩ ∧ σ.ld ⟨b, o + i * 1, none⟩ = some (.slice p' n' c') ∧ n' ≤ c' ∧ CA .u8 σ p' n' x := by
 obtain ⟨b, o, vs, hp, ⟨p', n', c', rfl, h2, h3⟩, hl⟩ := GS.idx hr hx
 exact ⟨b, o, p', n', c', hp, hl.1, h2, h3⟩
def AU (rs : List (List Int)) : List Int := rs.flatMap frame
theorem Ti : AU [] = [] := rfl
theorem B5 (r : List Int) (rs : List (List Int)) : AU (r :: rs) = frame r ++ AU rs := by simp [AU]
theorem FL (rs ss : List (List Int)) : AU (rs ++ ss) = AU rs ++ AU ss := by simp [AU]
def gA (t : List Int) : Prop := ∀ r, ¬ Iw t 0 r
theorem EV : gA [] := fun r h => by have := h.lt; simp at this
abbrev M1 (rs : List (List Int)) : Prop := ∀ r ∈ rs, r.length ≤ 65536
theorem Iw.here {bs : List Int} {i : Nat} {r rest : List Int} (h : r.length ≤ 65536) (hd : bs.drop i = frame r ++ rest) : Iw bs i r := ⟨h, rest, hd⟩
theorem Iw.uniq {bs : List Int} {i : Nat} {r s : List Int} (h : Iw bs i r) (g : Iw bs i s) : r = s := by
 have hl := h.uv.uniq g.uv
 rcases h.parts with ⟨_, h2, _⟩ | h3
 · rcases g.parts with ⟨_, g2, _⟩ | g3
   · rw [← hl] at g2; exact h2.symm.trans g2
   · have := h.lt; omega
 · have := h.lt; omega
section
variable {σ : Hp} {R : Rr}
theorem On {p : Option Addr} {n c : Nat} {bs t : List Int} {Bp : List (List Int)} (hr : CA .u8 σ p n bs) (h8 : E8 bs) (hc : n ≤ c) (hn : n ≤ 4194304) (oa : bs = AU Bp ++ t) (hs : M1 Bp) (ht : gA t)
   (h : ∀ p' n' c' σ', Ix (σ.new σ') p' n' c' Bp → Ext σ σ' → R (.returned (.tuple #[.slice p' n' c', .bool (decide (t ≠ []))])) σ') : Spec prog 302 #[.slice p n c] σ R := by
 have fY : bs.length = n := hr.1
 refine HE.start ?_
 have hle : ∀ rs : List (List Int), rs.length ≤ (AU rs).length := fun rs => by
   induction rs with
   | nil => simp
   | cons r rs ih => rw [B5, List.length_append, Ew]; simp; omega
 suffices H : ∀ (d : List (List Int)) (k : List (List Int)) (p' : Option Addr) (n' c' : Nat) (σ' : Hp), Bp = k ++ d → Ix (σ.new σ') p' n' c' k → Ext σ σ' → HE.CF R p n c p' n' c' ((AU k).length : Nat) σ' from
   H Bp [] none 0 0 σ rfl A9.nil (Ext.refl _)
 intro d
 induction d with
 | nil =>
   intro k p' n' c' σ' hk ho hx
   rw [List.append_nil] at hk
   subst hk
   refine HE.BX ⟨fun he => ?_, fun Ad => ?_⟩
   · have : t = [] := by
       have h1 := congrArg List.length oa
       rw [List.length_append] at h1
       exact List.eq_nil_of_length_eq_zero (by omega)
     subst this
     simpa using h p' n' c' σ' ho hx
   · have h1 := congrArg List.length oa
     rw [List.length_append] at h1
     have htn : t ≠ [] := fun e => by subst e; simp at h1; omega
     have hdr : bs.drop (AU Bp).length = t := by rw [oa, List.drop_left]
     refine M0 (hr.mono hx) h8 hc (by omega) (fun r hf => absurd ?_ (ht r)) (fun _ σ2 code Th An => ⟨_, _, _, _, _, rfl, fun _ => ?_, fun hh => absurd Th hh⟩)
     · obtain ⟨g1, rest, g2⟩ := hf
       exact ⟨g1, rest, by rw [List.drop_zero, ← hdr, g2]⟩
     · have := h p' n' c' σ2 (A9.mono R7.mono (Ext.BV An) ho) (hx.trans An)
       simpa [htn] using this
 | cons r d ih =>
   intro k p' n' c' σ' hk ho hx
   have h1 := congrArg List.length oa
   rw [hk, List.length_append, FL, List.length_append, B5, List.length_append, Ew] at h1
   have dJ : r.length ≤ 65536 := hs r (by rw [hk]; simp)
   have Vx : Iw bs (AU k).length r := Iw.here (rest := AU d ++ t) dJ (by rw [oa, hk, FL, B5, List.append_assoc, List.drop_left, List.append_assoc])
   have iQ := hle k
   have LF : k.length = n' := ho.1
   refine HE.BX ⟨fun he => by omega, fun _ => ?_⟩
   refine M0 (hr.mono hx) h8 hc (by omega) (fun r' hf p2 c2 σ2 B1 An => ⟨_, _, _, _, _, rfl, fun hh => absurd rfl hh, fun _ TV U8 => ?_⟩) (fun Be => absurd Vx (Be r))
   have := hf.uniq Vx
   subst this
   have DR := hx.trans An
   have Dl : Ix (σ.new σ2) p' n' c' k := A9.mono R7.mono (Ext.BV An) ho
   have HV : ∀ a, p' = some a → σ' a.block ≠ none := fun a ha e => ho.block a ha (by
     cases hh : (σ.new σ') a.block with
     | none => rfl
     | some o => rw [(AQ.1 hh).2] at e; cases e)
   refine A9.JF (T := 165) R7.mono DR Dl rfl (fun u hu => by simp at hu; subst hu; rfl) (x := r') ⟨p2, r'.length, c2, rfl, Own.cap B1, (AS.rd B1).mono ?_⟩ (by omega) (fun p3 c3 σ3 Pv Kt => ⟨p3, _, c3, rfl, ?_⟩) U8
   · exact Ext.IS hx HV
   · have := ih (k ++ [r']) p3 (n' + 1) c3 σ3 (by rw [hk]; simp) Pv Kt
     rw [FL, B5, Ti, List.append_nil, List.length_append] at this
     exact this
theorem gB {p : Option Addr} {n c : Nat} {Bp : List (List Int)} (hr : Jx σ p n Bp) (hs : M1 Bp) (hb : (AU Bp).length ≤ 70368744177664)
   (h : ∀ p' n' c' σ', AS .u8 (σ.new σ') p' n' c' (AU Bp) → Ext σ σ' → R (.returned (.slice p' n' c')) σ') : Spec prog 230 #[.slice p n c] σ R := by
 refine KN.start ?_
 have hln : Bp.length = n := hr.1
 suffices H : ∀ (d k : Nat) (p' : Option Addr) (n' c' : Nat) (σ' : Hp), n - k = d → k ≤ n → AS .u8 (σ.new σ') p' n' c' (AU (Bp.take k)) → Ext σ σ' → KN.A1 R p' n' c' p n c n k σ' from H n 0 none 0 0 σ rfl (by omega) Own.nil (Ext.refl _)
 intro d
 induction d with
 | zero =>
   intro k p' n' c' σ' hd hk ho hx
   rw [List.take_of_length_le (by omega)] at ho
   exact KN.AW ⟨fun hh => by omega, fun _ => h p' n' c' σ' ho hx⟩
 | succ d ih =>
   intro k p' n' c' σ' hd hk ho hx
   refine KN.AW ⟨fun _ => ?_, fun hh => by omega⟩
   obtain ⟨x, SS⟩ := hr.ex (k := k) (by omega)
   obtain ⟨b, o, p2, n2, c2, rfl, hl, UW, HM⟩ := hr.at SS
   have Vq : x.length ≤ 65536 := hs x (List.mem_of_getElem? SS)
   have NT : x.length = n2 := HM.1
   refine ⟨b, o, rfl, by omega, p2, n2, c2, by simpa using hx.ld hl, Qz (HM.mono hx) (fun hh => by omega) fun _ p3 n3 c3 σ3 Dl DR => ⟨p3, n3, c3, 0, rfl, ?_⟩⟩
   have e1 : AU (Bp.take (k + 1)) = AU (Bp.take k) ++ frame x := by rw [AR SS, FL, B5, Ti, List.append_nil]
   have hlen : (AU (Bp.take (k + 1))).length ≤ 70368744177664 := by
     refine Nat.le_trans ?_ hb
     have : AU Bp = AU (Bp.take (k + 1)) ++ AU (Bp.drop (k + 1)) := by rw [← FL, List.take_append_drop]
     rw [this, List.length_append]; omega
   rw [e1, List.length_append] at hlen
   have NM := ho.1
   have hl3 := Dl.1
   simp at NM hl3
   have Pv : AS .u8 (σ.new σ3) p' n' c' (AU (Bp.take k)) := ho.mono (Ext.BV DR)
   refine D6 (T := 84) (hx.trans DR) Pv ((Gi.of_map (AS.rd Dl)).mono (Ext.Af _ _)) CU.Cs (by omega) fun p4 c4 σ4 ix SU _ => ⟨p4, _, c4, rfl, Ah (by omega) hr.big, ?_⟩
   refine ih (k + 1) p4 _ c4 σ4 (by omega) (by omega) ?_ SU
   rw [e1]
   unfold AS
   rw [List.map_append]
   exact ix
end
end TwW
end
