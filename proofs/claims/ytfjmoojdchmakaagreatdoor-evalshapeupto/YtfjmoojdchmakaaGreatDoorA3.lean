/-
  Part 3 of the proof that the law EvalShapeUptoCardSaid of the given program answers true for every input of the given statement; the input reads behind the call as it did. (The texts: P54 P64 P74 TwL TwQ TwQi TwS TwFr LA4 EvF EvC EvM EvT MA4 FA4 FB4 FC4 FD4 QA4 QB4 QC4 QD4 QE4 QF4 QG4 QH4 QI4 EN4.)
-/
import Derived.Test.YtfjmoojdchmakaaGreatDoorA2
import Derived.Laws.BytesArg
import Derived.Laws.Bits64b
import Derived.Laws.IdiomStrings
import Derived.Lib.Bytealg
import Derived.Lib.Split
import Derived.Lib.Index
set_option linter.all false
section
set_option maxRecDepth 100000
noncomputable section
namespace TwW
open Go Tw Go.Proofs.Tryz
variable [Cnt] {R : Ending → Hp → Prop} {σ : Hp}

namespace eval_moment
variable {p0 p1 p8c p8d : Option Addr} {n0 c0 n1 c1 n8c c8c n8d c8d : Nat} {x2 x8a x8b x9 : Int}
def M : Fw := ⟨prog, 12, f12, [25], [8], false, [], [], [(30, [(8, .X 79 [.I .i64, .I .u64, .L, .L]), (9, wI)])]⟩
theorem ok : M.Ok := ⟨.cons call25 (Ents.nil), mixed, func12, by kernel_rfl⟩
def pt11 := M.pt 0
theorem start (h : Al σ fun b14 => Spec prog 25 #[(.pointer (aD b14 0)), .slice p0 n0 c0] (Hp.set σ b14 (.cells #[.slice p1 n1 c1, .int .i64 x2] 83 (0, 0))) (Cont R (fun z y => ∃ x16aa x16ab p16ac n16ac c16ac p16ad n16ad c16ad x16b, z = (.tuple #[.agg #[.int .i64 x16aa, .int .u64 x16ab, .slice p16ac n16ac c16ac, .slice p16ad n16ad c16ad], .int .i64 x16b]) ∧ ∀ b8 : Nat, Br (x16aa = 1) (Al y fun b25 => pt11 R x16aa x16ab (aD b25 0) 1 1 p16ad n16ad c16ad x16b (Hp.set y b25 (.cells #[.slice none 0 0, .int .u64 x16ab] 48 (0, 0)))) (pt11 R x16aa x16ab p16ac n16ac c16ac p16ad n16ad c16ad x16b y)))) : Spec prog 12 #[.slice p0 n0 c0, .slice p1 n1 c1, .int .i64 x2] σ R := M.start h ok
theorem pt11_of (h : R (.returned (.tuple #[.slice p8c n8c c8c, .int .i64 x9])) σ) : pt11 R x8a x8b p8c n8c c8c p8d n8d c8d x9 σ := M.of1 h ok rfl fun _ => by kernel_rfl
end eval_moment
namespace law0_CopyMatchers
variable {p0 : Option Addr} {n0 c0 : Nat}
def M : Fw := ⟨prog, 13, f13, [], [], false, [], [], []⟩
theorem ok : M.Ok := ⟨Ents.nil, mixed, func13, by kernel_rfl⟩
theorem start (h : Al σ fun b3 => Eff prog (Builtin.append_ #[49, 49] 49 #[(.slice (aD b3 0) 0 0), .slice p0 n0 c0]) (Hp.set σ b3 (.cells #[] 62 (0, 0))) (CS fun p5 n5 c5 y => R (.returned (.slice p5 n5 c5)) y)) : Spec prog 13 #[.slice p0 n0 c0] σ R := M.start h ok
end law0_CopyMatchers
namespace types_walk_agg
variable {q0 p1d p1h p2 : Option Addr} {x1a x1b x1e x1f x1g x1j : Int} {s1c : ByteArray} {n1d c1d n1h c1h n2 c2 : Nat} {t1i : Bool}
def M : Fw := ⟨prog, 35, f35, [], [4], false, [], [], []⟩
theorem ok : M.Ok := ⟨Ents.nil, mixed, func35, by kernel_rfl⟩
theorem start (h : ∀ b4 : Nat, Pq p2 fun b9 o9 => In 0 (n2 : Int) ∧ LI .i64 σ b9 o9 fun x11 => Br (x11 ≠ 2) (R (.returned (.tuple #[.int .i64 0, .int .i64 191])) σ) (R (.returned (.tuple #[.int .i64 2, .int .i64 0])) σ)) : Spec prog 35 #[.pointer q0, .agg #[.int .i64 x1a, .int .i64 x1b, .string s1c, .slice p1d n1d c1d, .int .i64 x1e, .int .i64 x1f, .int .i64 x1g, .slice p1h n1h c1h, .bool t1i, .int .i64 x1j], .slice p2 n2 c2] σ R := M.start h ok
end types_walk_agg
namespace eval_moments_1
variable {v0 : Value} {b1 b2 b3 : Nat} {x5 : Int}
def M : Fw := ⟨prog, 45, f45, [], [100000], false, [], [], [(48, [(0, wV), (2, wA), (3, wA), (5, wI)])]⟩
theorem ok : M.Ok := ⟨Ents.nil, mixed, func45, by kernel_rfl⟩
def pt6 := M.pt 0
theorem start (h : LI .i64 σ b1 0 fun x6 => pt6 R v0 b2 b3 x6 σ) : Spec prog 45 #[v0, (.pointer (aD b1 0)), (.pointer (aD b2 0)), (.pointer (aD b3 0))] σ R := M.startD h ok [(0, .o (.V v0)), (1, .o (.A b1)), (2, .o (.A b2)), (3, .o (.A b3))] rfl rfl (by kernel_rfl)
theorem pt6_of (h : ∃ l9 : Nat, v0 = .func (.yield l9) #[] #[] ∧ YSpec prog l9 #[.int .i64 x5] σ (Cont R (CB fun t9 y => Bo t9 (LI .i64 y b2 0 fun x11 => LI .i64 y b3 0 fun x12 => I64 (x12 - x5) ∧ Br (x11 ≤ (x12 - x5)) (LI .i64 y b2 0 fun x18 => I64 (x5 + x18) ∧ pt6 R v0 b2 b3 (x5 + x18) y) (R (.returned (.tuple #[])) y)) (R (.returned (.tuple #[])) y)))) : pt6 R v0 b2 b3 x5 σ := M.of h ok rfl
end eval_moments_1
namespace types_plain
variable {x0a x0b x0e x0f x0g x0j x1a x1b x1e x1f x1g x1j : Int} {s0c s1c : ByteArray} {p0d p0h p1d p1h : Option Addr} {n0d c0d n0h c0h n1d c1d n1h c1h : Nat} {t0i t1i : Bool}
def M : Fw := ⟨prog, 49, f49, [], [2, 3], false, [], [], []⟩
theorem ok : M.Ok := ⟨Ents.nil, mixed, func49, by kernel_rfl⟩
theorem start (h : ∀ b2 : Nat, ∀ b3 : Nat, Br (x0a = x1a) (Br (x0b = x1b) (Bo (ByteArray.toList s0c == ByteArray.toList s1c) (Br (x0e = x1e) (Br (x0f = x1f) (Br (x0g = x1g) (Bo t0i (Bo t1i (R (.returned (.bool (decide (x0j = x1j)))) σ) (R (.returned (.bool false)) σ)) (Bo t1i (R (.returned (.bool false)) σ) (R (.returned (.bool (decide (x0j = x1j)))) σ))) (R (.returned (.bool false)) σ)) (R (.returned (.bool false)) σ)) (R (.returned (.bool false)) σ)) (R (.returned (.bool false)) σ)) (R (.returned (.bool false)) σ)) (R (.returned (.bool false)) σ)) : Spec prog 49 #[.agg #[.int .i64 x0a, .int .i64 x0b, .string s0c, .slice p0d n0d c0d, .int .i64 x0e, .int .i64 x0f, .int .i64 x0g, .slice p0h n0h c0h, .bool t0i, .int .i64 x0j], .agg #[.int .i64 x1a, .int .i64 x1b, .string s1c, .slice p1d n1d c1d, .int .i64 x1e, .int .i64 x1f, .int .i64 x1g, .slice p1h n1h c1h, .bool t1i, .int .i64 x1j]] σ R := M.start h ok
end types_plain
namespace types_Compares
variable {x0 : Int}
def M : Fw := ⟨prog, 54, f54, [], [], false, [], [], []⟩
theorem ok : M.Ok := ⟨Ents.nil, mixed, func54, by kernel_rfl⟩
theorem start (h : Br (5 ≤ x0) (R (.returned (.bool (decide (x0 ≤ 10)))) σ) (R (.returned (.bool false)) σ)) : Spec prog 54 #[.int .i64 x0] σ R := M.start h ok
end types_Compares
namespace internal_bytealg_CompareString
variable {s0 s1 : ByteArray}
def M : Fw := ⟨prog, 59, f59, [], [], false, [], [], []⟩
theorem ok : M.Ok := ⟨Ents.nil, mixed, func59, by kernel_rfl⟩
theorem start (h : EN prog 81 #[.string s0, .string s1] σ (CI .i64 fun x7 y => R (.returned (.int .i64 x7)) y)) : Spec prog 59 #[.string s0, .string s1] σ R := M.start h ok
end internal_bytealg_CompareString
namespace eval_asker_call
variable {q0 p1d p1h p2 p4d p4h p6c p6d p8 p25 p12 p47 : Option Addr} {x1a x1b x1e x1f x1g x1j x4a x4b x4e x4f x4g x4j x6a x6b x26 x27 x48 x49 : Int} {s1c s4c : ByteArray} {n1d c1d n1h c1h n2 c2 n4d c4d n4h c4h n6c c6c n6d c6d n8 c8 n25 c25 n12 c12 n47 c47 : Nat} {t1i t4i : Bool} {v9 : Value}
def M : Fw := ⟨prog, 63, f63, [88, 89, 90], [4, 6, 11, 14], false, [], [], [(488, [(2, wL), (4, .X 52 [.I .i64, .I .i64, .T, .L, .I .i64, .I .i64, .I .i64, .L, .B, .I .i64]), (6, .X 79 [.I .i64, .I .u64, .L, .L]), (8, wL), (9, wV), (25, wL), (26, wI), (27, wI)]), (2024, [(2, wL), (4, .X 52 [.I .i64, .I .i64, .T, .L, .I .i64, .I .i64, .I .i64, .L, .B, .I .i64]), (6, .X 79 [.I .i64, .I .u64, .L, .L]), (8, wL), (12, wL), (47, wL), (48, wI), (49, wI)]), (8103, [(2, wL), (4, .X 52 [.I .i64, .I .i64, .T, .L, .I .i64, .I .i64, .I .i64, .L, .B, .I .i64]), (6, .X 79 [.I .i64, .I .u64, .L, .L]), (8, wL), (12, wL), (47, wL), (48, wI), (49, wI)])]⟩
theorem ok : M.Ok := ⟨.cons call88 (.cons call89 (.cons call90 (Ents.nil))), mixed, func63, by kernel_rfl⟩
def pt12 := M.pt 0
def pt31 := M.pt 1
def pt47 := M.pt 2
theorem start (h : ∀ b4 : Nat, ∀ b6 : Nat, Eff prog (Instr.makeMap 139 none) σ (fun z y => ∃ m17, z = (.map (some m17)) ∧ Eff prog (Instr.mapUpdate 139 (.map (some m17)) (.int .i64 11) (.func (.func 86) #[] #[])) y (fun _ y_2 => Eff prog (Instr.mapUpdate 139 (.map (some m17)) (.int .i64 12) (.func (.func 87) #[] #[])) y_2 (fun _ y_3 => Eff prog (Instr.lookup 139 (.map (some m17)) (.int .i64 x1b) false) y_3 (fun z y_4 => ∃ v21, v21 = z ∧ Pq p2 fun b23 o23 => In 0 (n2 : Int) ∧ LS y_4 b23 (o23 + 2) fun p25 n25 c25 => pt12 R (aD b23 o23) n2 c2 x1a x1b s1c p1d n1d c1d x1e x1f x1g p1h n1h c1h t1i x1j 0 0 none 0 0 none 0 0 none 0 0 v21 p25 n25 c25 (n25 : Int) 0 y_4))))) : Spec prog 63 #[.pointer q0, .agg #[.int .i64 x1a, .int .i64 x1b, .string s1c, .slice p1d n1d c1d, .int .i64 x1e, .int .i64 x1f, .int .i64 x1g, .slice p1h n1h c1h, .bool t1i, .int .i64 x1j], .slice p2 n2 c2] σ R := M.start h ok
theorem pt12_of (h : Br (x27 < x26) (Pq p25 fun b29 o29 => In x27 (n25 : Int) ∧ ∃ p30a n30a c30a x30b, LdL σ b29 (o29 + Int.toNat x27 * 2) [.slice p30a n30a c30a, .int .u64 x30b] ∧ ∀ b11 : Nat, Spec prog 88 #[.slice p30a n30a c30a] σ (Cont R (CS fun p34 n34 c34 y => ∃ (f38 : Nat) (fst38 cap38 : Array Value), v9 = .func (.func f38) fst38 cap38 ∧ Enters prog f38 ∧ Spec prog f38 (fst38 ++ #[.int .u64 x30b] ++ cap38) y (Cont R (CI .u64 fun x38 y_2 => Al y_2 fun b40 => Eff prog (Builtin.append_ #[44, 44] 44 #[.slice p8 n8 c8, (.slice (aD b40 0) 1 1)]) (Hp.set y_2 b40 (.cells #[.slice p34 n34 c34, .int .u64 x38] 48 (0, 0))) (CS fun p41 n41 c41 y_3 => I64 (x27 + 1) ∧ pt12 R p2 n2 c2 x4a x4b s4c p4d n4d c4d x4e x4f x4g p4h n4h c4h t4i x4j x6a x6b p6c n6c c6c p6d n6d c6d p41 n41 c41 v9 (aD b29 o29) n25 c25 x26 (x27 + 1) y_3)))))) (Spec prog 89 #[] σ (Cont R (CS fun p43 n43 c43 y => Pq p2 fun b45 o45 => In 0 (n2 : Int) ∧ LS y b45 (o45 + 3) fun p47 n47 c47 => pt31 R (aD b45 o45) n2 c2 x4a x4b s4c p4d n4d c4d x4e x4f x4g p4h n4h c4h t4i x4j x6a x6b p6c n6c c6c p6d n6d c6d p8 n8 c8 p43 n43 c43 p47 n47 c47 (n47 : Int) 0 y)))) : pt12 R p2 n2 c2 x4a x4b s4c p4d n4d c4d x4e x4f x4g p4h n4h c4h t4i x4j x6a x6b p6c n6c c6c p6d n6d c6d p8 n8 c8 v9 p25 n25 c25 x26 x27 σ := M.of2 h ok rfl fun _ _ => by kernel_rfl
theorem pt31_of (h : Br (x49 < x48) (Pq p47 fun b51 o51 => In x49 (n47 : Int) ∧ ∃ p52a n52a c52a p52b n52b c52b, LdL σ b51 (o51 + Int.toNat x49 * 2) [.slice p52a n52a c52a, .slice p52b n52b c52b] ∧ ∀ b14 : Nat, Pq p12 fun b57 o57 => In x4b (n12 : Int) ∧ ∃ v58, Hp.ld σ ⟨b57, (o57 + Int.toNat x4b * 1), none⟩ = some v58 ∧ ∃ (f63 : Nat) (fst63 cap63 : Array Value), v58 = .func (.func f63) fst63 cap63 ∧ Enters prog f63 ∧ Spec prog f63 (fst63 ++ #[.slice p52b n52b c52b, .agg #[.int .i64 x4a, .int .i64 x4b, .string s4c, .slice p4d n4d c4d, .int .i64 x4e, .int .i64 x4f, .int .i64 x4g, .slice p4h n4h c4h, .bool t4i, .int .i64 x4j], .slice p2 n2 c2] ++ cap63) σ (Cont R (fun z y => ∃ x63a t63b, z = (.tuple #[.int .u64 x63a, .bool t63b]) ∧ Bo t63b (Spec prog 88 #[.slice p52a n52a c52a] y (Cont R (CS fun p70 n70 c70 y_2 => Al y_2 fun b73 => Eff prog (Builtin.append_ #[44, 44] 44 #[.slice p8 n8 c8, (.slice (aD b73 0) 1 1)]) (Hp.set y_2 b73 (.cells #[.slice p70 n70 c70, .int .u64 x63a] 48 (0, 0))) (CS fun p74 n74 c74 y_3 => pt47 R p2 n2 c2 x4a x4b s4c p4d n4d c4d x4e x4f x4g p4h n4h c4h t4i x4j x6a x6b p6c n6c c6c p6d n6d c6d p74 n74 c74 (aD b57 o57) n12 c12 (aD b51 o51) n47 c47 x48 x49 y_3)))) (pt47 R p2 n2 c2 x4a x4b s4c p4d n4d c4d x4e x4f x4g p4h n4h c4h t4i x4j x6a x6b p6c n6c c6c p6d n6d c6d p8 n8 c8 (aD b57 o57) n12 c12 (aD b51 o51) n47 c47 x48 x49 y)))) (Spec prog 90 #[.slice p8 n8 c8] σ (Cont R (fun z y => ∃ x77aa x77ab p77ac n77ac c77ac p77ad n77ad c77ad x77b, z = (.tuple #[.agg #[.int .i64 x77aa, .int .u64 x77ab, .slice p77ac n77ac c77ac, .slice p77ad n77ad c77ad], .int .i64 x77b]) ∧ R (.returned (.tuple #[.agg #[.int .i64 x77aa, .int .u64 x77ab, .slice p77ac n77ac c77ac, .slice p77ad n77ad c77ad], .int .i64 x77b])) y)))) : pt31 R p2 n2 c2 x4a x4b s4c p4d n4d c4d x4e x4f x4g p4h n4h c4h t4i x4j x6a x6b p6c n6c c6c p6d n6d c6d p8 n8 c8 p12 n12 c12 p47 n47 c47 x48 x49 σ := M.of2 h ok rfl fun _ _ => by kernel_rfl
theorem pt47_of (h : I64 (x49 + 1) ∧ pt31 R p2 n2 c2 x4a x4b s4c p4d n4d c4d x4e x4f x4g p4h n4h c4h t4i x4j x6a x6b p6c n6c c6c p6d n6d c6d p8 n8 c8 p12 n12 c12 p47 n47 c47 x48 (x49 + 1) σ) : pt47 R p2 n2 c2 x4a x4b s4c p4d n4d c4d x4e x4f x4g p4h n4h c4h t4i x4j x6a x6b p6c n6c c6c p6d n6d c6d p8 n8 c8 p12 n12 c12 p47 n47 c47 x48 x49 σ := M.of2 h ok rfl fun _ _ => by kernel_rfl
end eval_asker_call
namespace eval_bare
variable {p0 : Option Addr} {n0 c0 : Nat}
def M : Fw := ⟨prog, 88, f88, [92], [], false, [], [], []⟩
theorem ok : M.Ok := ⟨.cons call92 (Ents.nil), mixed, func88, by kernel_rfl⟩
theorem start (h : Al σ fun b4 => Spec prog 92 #[.slice p0 n0 c0, (.slice (aD b4 0) 1 1)] (Hp.set σ b4 (.cells #[(.string (ByteArray.mk #[95, 95, 110, 97, 109, 101, 95, 95]))] 9 (0, 0))) (Cont R (CS fun p5 n5 c5 y => R (.returned (.slice p5 n5 c5)) y))) : Spec prog 88 #[.slice p0 n0 c0] σ R := M.start h ok
end eval_bare
namespace eval_asker_mixed
variable {q0 p1d p1h p2 p5d p5h p8c p8d p10 p15 : Option Addr} {x1a x1b x1e x1f x1g x1j x5a x5b x5e x5f x5g x5j x8a x8b x16 x17 : Int} {s1c s5c : ByteArray} {n1d c1d n1h c1h n2 c2 n5d c5d n5h c5h n8c c8c n8d c8d n10 c10 n15 c15 : Nat} {t1i t5i : Bool} {v3 : Value}
def M : Fw := ⟨prog, 99, f99, [54, 88, 90], [5, 8, 12], false, [], [], [(232, [(3, wV), (5, .X 52 [.I .i64, .I .i64, .T, .L, .I .i64, .I .i64, .I .i64, .L, .B, .I .i64]), (8, .X 79 [.I .i64, .I .u64, .L, .L]), (10, wL), (15, wL), (16, wI), (17, wI)]), (935, [(3, wV), (5, .X 52 [.I .i64, .I .i64, .T, .L, .I .i64, .I .i64, .I .i64, .L, .B, .I .i64]), (8, .X 79 [.I .i64, .I .u64, .L, .L]), (10, wL), (15, wL), (16, wI), (17, wI)])]⟩
theorem ok : M.Ok := ⟨.cons call54 (.cons call88 (.cons call90 (Ents.nil))), mixed, func99, by kernel_rfl⟩
def pt10 := M.pt 0
def pt31 := M.pt 1
theorem start (h : ∀ b5 : Nat, ∀ b8 : Nat, pt10 R v3 x1a x1b s1c p1d n1d c1d x1e x1f x1g p1h n1h c1h t1i x1j 0 0 none 0 0 none 0 0 none 0 0 p2 n2 c2 (n2 : Int) 0 σ) : Spec prog 99 #[.pointer q0, .agg #[.int .i64 x1a, .int .i64 x1b, .string s1c, .slice p1d n1d c1d, .int .i64 x1e, .int .i64 x1f, .int .i64 x1g, .slice p1h n1h c1h, .bool t1i, .int .i64 x1j], .slice p2 n2 c2, v3] σ R := M.startD h ok [(0, .o (.Q q0)), (1, .G [.I .i64 x1a, .I .i64 x1b, .T s1c, .L p1d n1d c1d, .I .i64 x1e, .I .i64 x1f, .I .i64 x1g, .L p1h n1h c1h, .B t1i, .I .i64 x1j]), (2, .o (.L p2 n2 c2)), (3, .o (.V v3))] rfl rfl (by kernel_rfl)
theorem pt10_of (h : Br (x17 < x16) (Pq p15 fun b19 o19 => In x17 (n15 : Int) ∧ ∃ p20a n20a c20a x20b, LdL σ b19 (o19 + Int.toNat x17 * 2) [.slice p20a n20a c20a, .int .u64 x20b] ∧ ∀ b12 : Nat, ∃ (f25 : Nat) (fst25 cap25 : Array Value), v3 = .func (.func f25) fst25 cap25 ∧ Enters prog f25 ∧ Spec prog f25 (fst25 ++ #[.int .u64 x20b] ++ cap25) σ (Cont R (fun z y => ∃ x25a t25b, z = (.tuple #[.int .u64 x25a, .bool t25b]) ∧ Spec prog 54 #[.int .i64 x5b] y (Cont R (CB fun t31 y_2 => Bn t31 (Spec prog 88 #[.slice p20a n20a c20a] y_2 (Cont R (CS fun p40 n40 c40 y_3 => Al y_3 fun b43 => Eff prog (Builtin.append_ #[44, 44] 44 #[.slice p10 n10 c10, (.slice (aD b43 0) 1 1)]) (Hp.set y_3 b43 (.cells #[.slice p40 n40 c40, .int .u64 x25a] 48 (0, 0))) (CS fun p44 n44 c44 y_4 => pt31 R v3 x5a x5b s5c p5d n5d c5d x5e x5f x5g p5h n5h c5h t5i x5j x8a x8b p8c n8c c8c p8d n8d c8d p44 n44 c44 (aD b19 o19) n15 c15 x16 x17 y_4)))) (Bo t5i (Spec prog 88 #[.slice p20a n20a c20a] y_2 (Cont R (CS fun p40 n40 c40 y_3 => Al y_3 fun b43 => Eff prog (Builtin.append_ #[44, 44] 44 #[.slice p10 n10 c10, (.slice (aD b43 0) 1 1)]) (Hp.set y_3 b43 (.cells #[.slice p40 n40 c40, .int .u64 x25a] 48 (0, 0))) (CS fun p44 n44 c44 y_4 => pt31 R v3 x5a x5b s5c p5d n5d c5d x5e x5f x5g p5h n5h c5h true x5j x8a x8b p8c n8c c8c p8d n8d c8d p44 n44 c44 (aD b19 o19) n15 c15 x16 x17 y_4)))) (Bo t25b (Al y_2 fun b49 => Eff prog (Builtin.append_ #[44, 44] 44 #[.slice p10 n10 c10, (.slice (aD b49 0) 1 1)]) (Hp.set y_2 b49 (.cells #[.slice p20a n20a c20a, .int .u64 x20b] 48 (0, 0))) (CS fun p50 n50 c50 y_3 => pt31 R v3 x5a x5b s5c p5d n5d c5d x5e x5f x5g p5h n5h c5h false x5j x8a x8b p8c n8c c8c p8d n8d c8d p50 n50 c50 (aD b19 o19) n15 c15 x16 x17 y_3)) (pt31 R v3 x5a x5b s5c p5d n5d c5d x5e x5f x5g p5h n5h c5h false x5j x8a x8b p8c n8c c8c p8d n8d c8d p10 n10 c10 (aD b19 o19) n15 c15 x16 x17 y_2)))))))) (Spec prog 90 #[.slice p10 n10 c10] σ (Cont R (fun z y => ∃ x53aa x53ab p53ac n53ac c53ac p53ad n53ad c53ad x53b, z = (.tuple #[.agg #[.int .i64 x53aa, .int .u64 x53ab, .slice p53ac n53ac c53ac, .slice p53ad n53ad c53ad], .int .i64 x53b]) ∧ R (.returned (.tuple #[.agg #[.int .i64 x53aa, .int .u64 x53ab, .slice p53ac n53ac c53ac, .slice p53ad n53ad c53ad], .int .i64 x53b])) y)))) : pt10 R v3 x5a x5b s5c p5d n5d c5d x5e x5f x5g p5h n5h c5h t5i x5j x8a x8b p8c n8c c8c p8d n8d c8d p10 n10 c10 p15 n15 c15 x16 x17 σ := M.of2 h ok rfl fun _ _ => by kernel_rfl
theorem pt31_of (h : I64 (x17 + 1) ∧ pt10 R v3 x5a x5b s5c p5d n5d c5d x5e x5f x5g p5h n5h c5h t5i x5j x8a x8b p8c n8c c8c p8d n8d c8d p10 n10 c10 p15 n15 c15 x16 (x17 + 1) σ) : pt31 R v3 x5a x5b s5c p5d n5d c5d x5e x5f x5g p5h n5h c5h t5i x5j x8a x8b p8c n8c c8c p8d n8d c8d p10 n10 c10 p15 n15 c15 x16 x17 σ := M.of2 h ok rfl fun _ _ => by kernel_rfl
end eval_asker_mixed
namespace eval_asker_sets
variable {q0 p1d p1h p2 p3 p5d p5h p8c p8d p14 p35 p66 : Option Addr} {x1a x1b x1e x1f x1g x1j x5a x5b x5e x5f x5g x5j x8a x8b x36 x37 x67 x68 : Int} {s1c s5c : ByteArray} {n1d c1d n1h c1h n2 c2 n3 c3 n5d c5d n5h c5h n8c c8c n8d c8d n14 c14 n35 c35 n66 c66 : Nat} {t1i t5i : Bool} {m10 m12 : Option Nat}
def M : Fw := ⟨prog, 102, f102, [28, 90, 145, 146], [5, 8, 16, 17, 20, 21], false, [], [], [(1000, [(3, wL), (5, .X 52 [.I .i64, .I .i64, .T, .L, .I .i64, .I .i64, .I .i64, .L, .B, .I .i64]), (8, .X 79 [.I .i64, .I .u64, .L, .L]), (10, wM), (12, wM), (14, wL), (35, wL), (36, wI), (37, wI)]), (2024, [(5, .X 52 [.I .i64, .I .i64, .T, .L, .I .i64, .I .i64, .I .i64, .L, .B, .I .i64]), (8, .X 79 [.I .i64, .I .u64, .L, .L]), (10, wM), (14, wL), (66, wL), (67, wI), (68, wI)]), (8103, [(5, .X 52 [.I .i64, .I .i64, .T, .L, .I .i64, .I .i64, .I .i64, .L, .B, .I .i64]), (8, .X 79 [.I .i64, .I .u64, .L, .L]), (10, wM), (14, wL), (66, wL), (67, wI), (68, wI)]), (4007, [(3, wL), (5, .X 52 [.I .i64, .I .i64, .T, .L, .I .i64, .I .i64, .I .i64, .L, .B, .I .i64]), (8, .X 79 [.I .i64, .I .u64, .L, .L]), (10, wM), (12, wM), (14, wL), (35, wL), (36, wI), (37, wI)])]⟩
theorem ok : M.Ok := ⟨.cons call28 (.cons call90 (.cons call145 (.cons call146 (Ents.nil)))), mixed, func102, by kernel_rfl⟩
def pt14 := M.pt 0
def pt37 := M.pt 1
def pt53 := M.pt 2
def pt30 := M.pt 3
theorem start (h : ∀ b5 : Nat, ∀ b8 : Nat, Spec prog 145 #[.agg #[.int .i64 x1a, .int .i64 x1b, .string s1c, .slice p1d n1d c1d, .int .i64 x1e, .int .i64 x1f, .int .i64 x1g, .slice p1h n1h c1h, .bool t1i, .int .i64 x1j], .slice p2 n2 c2] σ (Cont R (fun z y => ∃ m26a t26b, z = (.tuple #[.map m26a, .bool t26b]) ∧ Spec prog 145 #[.agg #[.int .i64 x1a, .int .i64 x1b, .string s1c, .slice p1d n1d c1d, .int .i64 x1e, .int .i64 x1f, .int .i64 x1g, .slice p1h n1h c1h, .bool t1i, .int .i64 x1j], .slice p3 n3 c3] y (Cont R (fun z y_2 => ∃ m32a t32b, z = (.tuple #[.map m32a, .bool t32b]) ∧ pt14 R p3 n3 c3 x1a x1b s1c p1d n1d c1d x1e x1f x1g p1h n1h c1h t1i x1j 0 0 none 0 0 none 0 0 m26a m32a none 0 0 p2 n2 c2 (n2 : Int) 0 y_2))))) : Spec prog 102 #[.pointer q0, .agg #[.int .i64 x1a, .int .i64 x1b, .string s1c, .slice p1d n1d c1d, .int .i64 x1e, .int .i64 x1f, .int .i64 x1g, .slice p1h n1h c1h, .bool t1i, .int .i64 x1j], .slice p2 n2 c2, .slice p3 n3 c3] σ R := M.start h ok
theorem pt14_of (h : Br (x37 < x36) (Pq p35 fun b39 o39 => In x37 (n35 : Int) ∧ ∃ p40a n40a c40a x40b, LdL σ b39 (o39 + Int.toNat x37 * 2) [.slice p40a n40a c40a, .int .u64 x40b] ∧ ∀ b16 : Nat, Spec prog 146 #[.agg #[.int .i64 x5a, .int .i64 x5b, .string s5c, .slice p5d n5d c5d, .int .i64 x5e, .int .i64 x5f, .int .i64 x5g, .slice p5h n5h c5h, .bool t5i, .int .i64 x5j], .slice p40a n40a c40a] σ (Cont R (CS fun p46 n46 c46 y => Spec prog 28 #[.slice p46 n46 c46] y (Cont R (CT fun s47 y_2 => Eff prog (Instr.lookup 194 (.map m12) (.string s47) true) y_2 (fun z y_3 => ∃ p48aa n48aa c48aa x48ab t48b, z = (.tuple #[.agg #[.slice p48aa n48aa c48aa, .int .u64 x48ab], .bool t48b]) ∧ ∀ b17 : Nat, Br (x5b = 12) (Al y_3 fun b63 => Eff prog (Builtin.append_ #[44, 44] 44 #[.slice p14 n14 c14, (.slice (aD b63 0) 1 1)]) (Hp.set y_3 b63 (.cells #[.slice p40a n40a c40a, .int .u64 x40b] 48 (0, 0))) (CS fun p64 n64 c64 y_4 => pt30 R p3 n3 c3 x5a x5b s5c p5d n5d c5d x5e x5f x5g p5h n5h c5h t5i x5j x8a x8b p8c n8c c8c p8d n8d c8d m10 m12 p64 n64 c64 (aD b39 o39) n35 c35 x36 x37 y_4)) (Bo t48b (Br (x5b = 11) (Al y_3 fun b63 => Eff prog (Builtin.append_ #[44, 44] 44 #[.slice p14 n14 c14, (.slice (aD b63 0) 1 1)]) (Hp.set y_3 b63 (.cells #[.slice p40a n40a c40a, .int .u64 x40b] 48 (0, 0))) (CS fun p64 n64 c64 y_4 => pt30 R p3 n3 c3 x5a x5b s5c p5d n5d c5d x5e x5f x5g p5h n5h c5h t5i x5j x8a x8b p8c n8c c8c p8d n8d c8d m10 m12 p64 n64 c64 (aD b39 o39) n35 c35 x36 x37 y_4)) (pt30 R p3 n3 c3 x5a x5b s5c p5d n5d c5d x5e x5f x5g p5h n5h c5h t5i x5j x8a x8b p8c n8c c8c p8d n8d c8d m10 m12 p14 n14 c14 (aD b39 o39) n35 c35 x36 x37 y_3)) (Br (x5b = 11) (pt30 R p3 n3 c3 x5a x5b s5c p5d n5d c5d x5e x5f x5g p5h n5h c5h t5i x5j x8a x8b p8c n8c c8c p8d n8d c8d m10 m12 p14 n14 c14 (aD b39 o39) n35 c35 x36 x37 y_3) (Al y_3 fun b63 => Eff prog (Builtin.append_ #[44, 44] 44 #[.slice p14 n14 c14, (.slice (aD b63 0) 1 1)]) (Hp.set y_3 b63 (.cells #[.slice p40a n40a c40a, .int .u64 x40b] 48 (0, 0))) (CS fun p64 n64 c64 y_4 => pt30 R p3 n3 c3 x5a x5b s5c p5d n5d c5d x5e x5f x5g p5h n5h c5h t5i x5j x8a x8b p8c n8c c8c p8d n8d c8d m10 m12 p64 n64 c64 (aD b39 o39) n35 c35 x36 x37 y_4)))))))))) (pt37 R x5a x5b s5c p5d n5d c5d x5e x5f x5g p5h n5h c5h t5i x5j x8a x8b p8c n8c c8c p8d n8d c8d m10 p14 n14 c14 p3 n3 c3 (n3 : Int) 0 σ)) : pt14 R p3 n3 c3 x5a x5b s5c p5d n5d c5d x5e x5f x5g p5h n5h c5h t5i x5j x8a x8b p8c n8c c8c p8d n8d c8d m10 m12 p14 n14 c14 p35 n35 c35 x36 x37 σ := M.of2 h ok rfl fun _ _ => by kernel_rfl
theorem pt37_of (h : Br (x68 < x67) (Pq p66 fun b70 o70 => In x68 (n66 : Int) ∧ ∃ p71a n71a c71a x71b, LdL σ b70 (o70 + Int.toNat x68 * 2) [.slice p71a n71a c71a, .int .u64 x71b] ∧ ∀ b20 : Nat, Spec prog 146 #[.agg #[.int .i64 x5a, .int .i64 x5b, .string s5c, .slice p5d n5d c5d, .int .i64 x5e, .int .i64 x5f, .int .i64 x5g, .slice p5h n5h c5h, .bool t5i, .int .i64 x5j], .slice p71a n71a c71a] σ (Cont R (CS fun p77 n77 c77 y => Spec prog 28 #[.slice p77 n77 c77] y (Cont R (CT fun s78 y_2 => Eff prog (Instr.lookup 194 (.map m10) (.string s78) true) y_2 (fun z y_3 => ∃ p79aa n79aa c79aa x79ab t79b, z = (.tuple #[.agg #[.slice p79aa n79aa c79aa, .int .u64 x79ab], .bool t79b]) ∧ ∀ b21 : Nat, Bn t79b (Br (x5b = 12) (Al y_3 fun b91 => Eff prog (Builtin.append_ #[44, 44] 44 #[.slice p14 n14 c14, (.slice (aD b91 0) 1 1)]) (Hp.set y_3 b91 (.cells #[.slice p71a n71a c71a, .int .u64 x71b] 48 (0, 0))) (CS fun p92 n92 c92 y_4 => pt53 R x5a x5b s5c p5d n5d c5d x5e x5f x5g p5h n5h c5h t5i x5j x8a x8b p8c n8c c8c p8d n8d c8d m10 p92 n92 c92 (aD b70 o70) n66 c66 x67 x68 y_4)) (pt53 R x5a x5b s5c p5d n5d c5d x5e x5f x5g p5h n5h c5h t5i x5j x8a x8b p8c n8c c8c p8d n8d c8d m10 p14 n14 c14 (aD b70 o70) n66 c66 x67 x68 y_3)) (pt53 R x5a x5b s5c p5d n5d c5d x5e x5f x5g p5h n5h c5h t5i x5j x8a x8b p8c n8c c8c p8d n8d c8d m10 p14 n14 c14 (aD b70 o70) n66 c66 x67 x68 y_3))))))) (Spec prog 90 #[.slice p14 n14 c14] σ (Cont R (fun z y => ∃ x95aa x95ab p95ac n95ac c95ac p95ad n95ad c95ad x95b, z = (.tuple #[.agg #[.int .i64 x95aa, .int .u64 x95ab, .slice p95ac n95ac c95ac, .slice p95ad n95ad c95ad], .int .i64 x95b]) ∧ R (.returned (.tuple #[.agg #[.int .i64 x95aa, .int .u64 x95ab, .slice p95ac n95ac c95ac, .slice p95ad n95ad c95ad], .int .i64 x95b])) y)))) : pt37 R x5a x5b s5c p5d n5d c5d x5e x5f x5g p5h n5h c5h t5i x5j x8a x8b p8c n8c c8c p8d n8d c8d m10 p14 n14 c14 p66 n66 c66 x67 x68 σ := M.of2 h ok rfl fun _ _ => by kernel_rfl
theorem pt53_of (h : I64 (x68 + 1) ∧ pt37 R x5a x5b s5c p5d n5d c5d x5e x5f x5g p5h n5h c5h t5i x5j x8a x8b p8c n8c c8c p8d n8d c8d m10 p14 n14 c14 p66 n66 c66 x67 (x68 + 1) σ) : pt53 R x5a x5b s5c p5d n5d c5d x5e x5f x5g p5h n5h c5h t5i x5j x8a x8b p8c n8c c8c p8d n8d c8d m10 p14 n14 c14 p66 n66 c66 x67 x68 σ := M.of2 h ok rfl fun _ _ => by kernel_rfl
theorem pt30_of (h : I64 (x37 + 1) ∧ pt14 R p3 n3 c3 x5a x5b s5c p5d n5d c5d x5e x5f x5g p5h n5h c5h t5i x5j x8a x8b p8c n8c c8c p8d n8d c8d m10 m12 p14 n14 c14 p35 n35 c35 x36 (x37 + 1) σ) : pt30 R p3 n3 c3 x5a x5b s5c p5d n5d c5d x5e x5f x5g p5h n5h c5h t5i x5j x8a x8b p8c n8c c8c p8d n8d c8d m10 m12 p14 n14 c14 p35 n35 c35 x36 x37 σ := M.of2 h ok rfl fun _ _ => by kernel_rfl
end eval_asker_sets
namespace eval_turned
variable {x0 : Int}
def M : Fw := ⟨prog, 104, f104, [125], [], false, [], [], []⟩
theorem ok : M.Ok := ⟨.cons call125 (Ents.nil), mixed, func104, by kernel_rfl⟩
theorem start (h : Df (Go.bits .xor .u64 x0 9223372036854775808) fun x4 => Spec prog 125 #[.int .u64 x4] σ (Cont R (CI .u64 fun x5 y => R (.returned (.int .u64 x5)) y))) : Spec prog 104 #[.int .u64 x0] σ R := M.start h ok
end eval_turned
namespace internal_strconv_parseFloatPrefix
variable {s0 : ByteArray} {x1 : Int}
def M : Fw := ⟨prog, 166, f166, [185, 186], [], false, [], [], []⟩
theorem ok : M.Ok := ⟨.cons call185 (.cons call186 (Ents.nil)), mixed, func166, by kernel_rfl⟩
theorem start (h : Br (x1 = 32) (Spec prog 185 #[.string s0] σ (Cont R (fun z y => ∃ v14a x14b v14c, z = (.tuple #[v14a, .int .i64 x14b, v14c]) ∧ Eff prog (convert 229 60 v14a) y (fun z y_2 => ∃ x19, (Value.float .f64 x19) = z ∧ R (.returned (.tuple #[(Value.float .f64 x19), .int .i64 x14b, v14c])) y_2)))) (Spec prog 186 #[.string s0] σ (Cont R (fun z y => ∃ v23a x23b v23c, z = (.tuple #[v23a, .int .i64 x23b, v23c]) ∧ R (.returned (.tuple #[v23a, .int .i64 x23b, v23c])) y)))) : Spec prog 166 #[.string s0, .int .i64 x1] σ R := M.start h ok
end internal_strconv_parseFloatPrefix
namespace wave_twiddles
def M : Fw := ⟨prog, 196, f196, [121], [], false, [], [], []⟩
theorem ok : M.Ok := ⟨.cons call121 (Ents.nil), mixed, func196, by kernel_rfl⟩
theorem start (h : Spec prog 121 #[.int .u64 4604544271217802189] σ (Cont R (fun z y => ∃ x2, (Value.float .f64 x2) = z ∧ ∃ x5, YF prog (Op.unary .neg (Value.float .f64 x2)) y (Value.float .f64 x5) ∧ ∃ x6 y6, YF prog (Builtin.complex_ #[60, 60] 222 #[(Value.float .f64 x2), (Value.float .f64 x5)]) y (Value.complex .f64 x6 y6) ∧ ∃ x8, YF prog (Op.unary .neg (Value.float .f64 x2)) y (Value.float .f64 x8) ∧ ∃ x10, YF prog (Op.unary .neg (Value.float .f64 x2)) y (Value.float .f64 x10) ∧ ∃ x11 y11, YF prog (Builtin.complex_ #[60, 60] 222 #[(Value.float .f64 x8), (Value.float .f64 x10)]) y (Value.complex .f64 x11 y11) ∧ ∃ x13, YF prog (Op.unary .neg (Value.float .f64 x2)) y (Value.float .f64 x13) ∧ ∃ x15 y15, YF prog (Builtin.complex_ #[60, 60] 222 #[(Value.float .f64 x13), (Value.float .f64 x2)]) y (Value.complex .f64 x15 y15) ∧ ∃ x18 y18, YF prog (Builtin.complex_ #[60, 60] 222 #[(Value.float .f64 x2), (Value.float .f64 x2)]) y (Value.complex .f64 x18 y18) ∧ Al y fun b19 => R (.returned (.slice (aD b19 0) 8 8)) (Hp.set y b19 (.cells #[.complex .f64 4607182418800017408 0, (Value.complex .f64 x6 y6), .complex .f64 0 13830554455654793216, (Value.complex .f64 x11 y11), .complex .f64 13830554455654793216 0, (Value.complex .f64 x15 y15), .complex .f64 0 4607182418800017408, (Value.complex .f64 x18 y18)] 222 (0, 0)))))) : Spec prog 196 #[] σ R := M.start h ok
end wave_twiddles
namespace internal_strconv_readFloat
variable {s0 : ByteArray} {x2 x3 x7 x10 x11 x12 x15 x16 x17 x19 x20 : Int} {t4 t5 t6 t8 t9 t13 t14 : Bool}
def M : Fw := ⟨prog, 201, f201, [226, 227], [], false, [], [], [(110, [(0, wT), (2, wU), (3, wI), (4, wB), (5, wB), (6, wB), (7, wI), (8, wB), (9, wB)]), (1790, [(0, wT), (2, wU), (3, wI), (4, wB), (5, wB), (6, wB), (7, wI), (8, wB), (9, wB), (10, wU), (11, wI), (12, w8)]), (1834976, [(0, wT), (2, wU), (3, wI), (4, wB), (5, wB), (6, wB), (7, wI), (8, wB), (9, wB), (10, wU), (11, wI), (12, w8), (13, wB), (14, wB), (15, wI), (16, wI), (17, wI)]), (458748, [(0, wT), (2, wU), (3, wI), (4, wB), (5, wB), (6, wB), (7, wI), (8, wB), (9, wB), (10, wU), (12, w8), (13, wB), (14, wB), (15, wI), (16, wI), (17, wI)]), (1835004, [(0, wT), (2, wU), (3, wI), (4, wB), (5, wB), (6, wB), (7, wI), (8, wB), (9, wB), (10, wU), (12, w8), (16, wI), (17, wI)]), (3670012, [(0, wT), (2, wU), (3, wI), (4, wB), (5, wB), (6, wB), (7, wI), (8, wB), (9, wB), (10, wU), (12, w8), (16, wI), (17, wI)]), (7340028, [(0, wT), (2, wU), (3, wI), (4, wB), (5, wB), (6, wB), (7, wI), (8, wB), (9, wB), (16, wI), (17, wI)]), (14680060, [(0, wT), (2, wU), (3, wI), (4, wB), (5, wB), (6, wB), (7, wI), (8, wB), (9, wB)]), (469761724, [(0, wT), (2, wU), (3, wI), (4, wB), (5, wB), (6, wB), (7, wI), (8, wB), (9, wB), (16, wI), (17, wI), (19, wI)]), (15032375264, [(0, wT), (2, wU), (3, wI), (4, wB), (5, wB), (6, wB), (7, wI), (8, wB), (9, wB), (16, wI), (17, wI), (19, wI), (20, wI)]), (15032375267, [(0, wT), (2, wU), (3, wI), (4, wB), (5, wB), (6, wB), (7, wI), (8, wB), (9, wB), (16, wI), (17, wI), (19, wI), (20, wI)]), (1834979, [(0, wT), (2, wU), (3, wI), (4, wB), (5, wB), (6, wB), (7, wI), (8, wB), (9, wB), (10, wU), (11, wI), (12, w8), (13, wB), (14, wB), (15, wI), (16, wI), (17, wI)])]⟩
theorem ok : M.Ok := ⟨.cons call226 (.cons call227 (Ents.nil)), mixed, func201, by kernel_rfl⟩
def pt27 := M.pt 0
def pt47 := M.pt 1
def pt63 := M.pt 2
def pt146 := M.pt 3
def pt158 := M.pt 4
def pt166 := M.pt 5
def pt234 := M.pt 6
def pt240 := M.pt 7
def pt195 := M.pt 8
def pt143 := M.pt 11
theorem start (h : Br ((((ByteArray.size s0 : Nat) : Int) : Int) ≤ 0) (R (.returned (.tuple #[.int .u64 0, .int .i64 0, .bool false, .bool false, .bool false, .int .i64 0, .bool false])) σ) (∃ u27 : UInt8, (0 : Int) ≤ 0 ∧ (ByteArray.data s0)[Int.toNat 0]? = some u27 ∧ Br ((((UInt8.toNat u27 : Nat) : Int) : Int) = 43) (I64 (0 + 1) ∧ pt27 R s0 0 0 false false false (0 + 1) false false σ) (Br ((((UInt8.toNat u27 : Nat) : Int) : Int) = 45) (I64 (0 + 1) ∧ pt27 R s0 0 0 true false false (0 + 1) false false σ) (pt27 R s0 0 0 false false false 0 false false σ)))) : Spec prog 201 #[.string s0] σ R := M.start h ok
theorem pt27_of (h : I64 (x7 + 2) ∧ Br (((x7 + 2) : Int) < ((ByteArray.size s0 : Nat) : Int)) (∃ u44 : UInt8, 0 ≤ x7 ∧ (ByteArray.data s0)[Int.toNat x7]? = some u44 ∧ Br ((((UInt8.toNat u44 : Nat) : Int) : Int) = 48) (I64 (x7 + 1) ∧ ∃ u51 : UInt8, (0 : Int) ≤ (x7 + 1) ∧ (ByteArray.data s0)[Int.toNat (x7 + 1)]? = some u51 ∧ Spec prog 226 #[(.int .u8 ((UInt8.toNat u51 : Nat) : Int))] σ (Cont R (CI .u8 fun x52 y => Br (x52 = 120) (I64 (x7 + 2) ∧ pt47 R s0 x2 x3 t4 t5 true (x7 + 2) t8 t9 16 16 112 y) (pt47 R s0 x2 x3 t4 t5 t6 x7 t8 t9 10 19 101 y)))) (pt47 R s0 x2 x3 t4 t5 t6 x7 t8 t9 10 19 101 σ)) (pt47 R s0 x2 x3 t4 t5 t6 x7 t8 t9 10 19 101 σ)) : pt27 R s0 x2 x3 t4 t5 t6 x7 t8 t9 σ := M.of h ok rfl
theorem pt47_of (h : pt63 R s0 x2 x3 t4 t5 t6 x7 t8 t9 x10 x11 x12 false false 0 0 0 σ) : pt47 R s0 x2 x3 t4 t5 t6 x7 t8 t9 x10 x11 x12 σ := M.of h ok rfl
theorem pt63_of (h : Br (x7 < ((ByteArray.size s0 : Nat) : Int)) (∃ u65 : UInt8, 0 ≤ x7 ∧ (ByteArray.data s0)[Int.toNat x7]? = some u65 ∧ Br ((((UInt8.toNat u65 : Nat) : Int) : Int) = 95) (pt143 R s0 x2 x3 t4 t5 t6 x7 t8 true x10 x11 x12 t13 t14 x15 x16 x17 σ) (Br ((((UInt8.toNat u65 : Nat) : Int) : Int) = 46) (Bo t13 (pt146 R s0 x2 x3 t4 t5 t6 x7 t8 t9 x10 x12 true t14 x15 x16 x17 σ) (pt143 R s0 x2 x3 t4 t5 t6 x7 t8 t9 x10 x11 x12 true t14 x15 x16 x15 σ)) (Br ((48 : Int) ≤ ((UInt8.toNat u65 : Nat) : Int)) (Br ((((UInt8.toNat u65 : Nat) : Int) : Int) ≤ 57) (Br ((((UInt8.toNat u65 : Nat) : Int) : Int) = 48) (Br (x15 = 0) (I64 (x17 - 1) ∧ pt143 R s0 x2 x3 t4 t5 t6 x7 t8 t9 x10 x11 x12 t13 true x15 x16 (x17 - 1) σ) (I64 (x15 + 1) ∧ Br (x16 < x11) (Df (IntKind.u64.wrap (x2 * x10)) fun x99 => Df (IntKind.u8.wrap (((UInt8.toNat u65 : Nat) : Int) - 48)) fun x102 => Df (IntKind.u64.wrap x102) fun x103 => Df (IntKind.u64.wrap (x99 + x103)) fun x104 => I64 (x16 + 1) ∧ pt143 R s0 x104 x3 t4 t5 t6 x7 t8 t9 x10 x11 x12 t13 true (x15 + 1) (x16 + 1) x17 σ) (Br ((((UInt8.toNat u65 : Nat) : Int) : Int) ≠ 48) (pt143 R s0 x2 x3 t4 true t6 x7 t8 t9 x10 x11 x12 t13 true (x15 + 1) x16 x17 σ) (pt143 R s0 x2 x3 t4 t5 t6 x7 t8 t9 x10 x11 x12 t13 true (x15 + 1) x16 x17 σ)))) (I64 (x15 + 1) ∧ Br (x16 < x11) (Df (IntKind.u64.wrap (x2 * x10)) fun x99 => Df (IntKind.u8.wrap (((UInt8.toNat u65 : Nat) : Int) - 48)) fun x102 => Df (IntKind.u64.wrap x102) fun x103 => Df (IntKind.u64.wrap (x99 + x103)) fun x104 => I64 (x16 + 1) ∧ pt143 R s0 x104 x3 t4 t5 t6 x7 t8 t9 x10 x11 x12 t13 true (x15 + 1) (x16 + 1) x17 σ) (Br ((((UInt8.toNat u65 : Nat) : Int) : Int) ≠ 48) (pt143 R s0 x2 x3 t4 true t6 x7 t8 t9 x10 x11 x12 t13 true (x15 + 1) x16 x17 σ) (pt143 R s0 x2 x3 t4 t5 t6 x7 t8 t9 x10 x11 x12 t13 true (x15 + 1) x16 x17 σ)))) (Br (x10 = 16) (Spec prog 226 #[(.int .u8 ((UInt8.toNat u65 : Nat) : Int))] σ (Cont R (CI .u8 fun x114 y => Br (97 ≤ x114) (Spec prog 226 #[(.int .u8 ((UInt8.toNat u65 : Nat) : Int))] y (Cont R (CI .u8 fun x119 y_2 => Br (x119 ≤ 102) (I64 (x15 + 1) ∧ Br (x16 < x11) (Df (IntKind.u64.wrap (x2 * 16)) fun x129 => Spec prog 226 #[(.int .u8 ((UInt8.toNat u65 : Nat) : Int))] y_2 (Cont R (CI .u8 fun x132 y_3 => Df (IntKind.u8.wrap (x132 - 97)) fun x133 => Df (IntKind.u8.wrap (x133 + 10)) fun x134 => Df (IntKind.u64.wrap x134) fun x135 => Df (IntKind.u64.wrap (x129 + x135)) fun x136 => I64 (x16 + 1) ∧ pt143 R s0 x136 x3 t4 t5 t6 x7 t8 t9 x10 x11 x12 t13 true (x15 + 1) (x16 + 1) x17 y_3))) (pt143 R s0 x2 x3 t4 true t6 x7 t8 t9 x10 x11 x12 t13 true (x15 + 1) x16 x17 y_2)) (pt146 R s0 x2 x3 t4 t5 t6 x7 t8 t9 x10 x12 t13 t14 x15 x16 x17 y_2)))) (pt146 R s0 x2 x3 t4 t5 t6 x7 t8 t9 x10 x12 t13 t14 x15 x16 x17 y)))) (pt146 R s0 x2 x3 t4 t5 t6 x7 t8 t9 x10 x12 t13 t14 x15 x16 x17 σ))) (Br (x10 = 16) (Spec prog 226 #[(.int .u8 ((UInt8.toNat u65 : Nat) : Int))] σ (Cont R (CI .u8 fun x114 y => Br (97 ≤ x114) (Spec prog 226 #[(.int .u8 ((UInt8.toNat u65 : Nat) : Int))] y (Cont R (CI .u8 fun x119 y_2 => Br (x119 ≤ 102) (I64 (x15 + 1) ∧ Br (x16 < x11) (Df (IntKind.u64.wrap (x2 * 16)) fun x129 => Spec prog 226 #[(.int .u8 ((UInt8.toNat u65 : Nat) : Int))] y_2 (Cont R (CI .u8 fun x132 y_3 => Df (IntKind.u8.wrap (x132 - 97)) fun x133 => Df (IntKind.u8.wrap (x133 + 10)) fun x134 => Df (IntKind.u64.wrap x134) fun x135 => Df (IntKind.u64.wrap (x129 + x135)) fun x136 => I64 (x16 + 1) ∧ pt143 R s0 x136 x3 t4 t5 t6 x7 t8 t9 x10 x11 x12 t13 true (x15 + 1) (x16 + 1) x17 y_3))) (pt143 R s0 x2 x3 t4 true t6 x7 t8 t9 x10 x11 x12 t13 true (x15 + 1) x16 x17 y_2)) (pt146 R s0 x2 x3 t4 t5 t6 x7 t8 t9 x10 x12 t13 t14 x15 x16 x17 y_2)))) (pt146 R s0 x2 x3 t4 t5 t6 x7 t8 t9 x10 x12 t13 t14 x15 x16 x17 y)))) (pt146 R s0 x2 x3 t4 t5 t6 x7 t8 t9 x10 x12 t13 t14 x15 x16 x17 σ))))) (pt146 R s0 x2 x3 t4 t5 t6 x7 t8 t9 x10 x12 t13 t14 x15 x16 x17 σ)) : pt63 R s0 x2 x3 t4 t5 t6 x7 t8 t9 x10 x11 x12 t13 t14 x15 x16 x17 σ := M.of h ok rfl
theorem pt146_of (h : Bn t14 (R (.returned (.tuple #[.int .u64 x2, .int .i64 x3, .bool t4, .bool t5, .bool t6, .int .i64 x7, .bool t8])) σ) (Bn t13 (pt158 R s0 x2 x3 t4 t5 t6 x7 t8 t9 x10 x12 x16 x15 σ) (pt158 R s0 x2 x3 t4 t5 t6 x7 t8 t9 x10 x12 x16 x17 σ))) : pt146 R s0 x2 x3 t4 t5 t6 x7 t8 t9 x10 x12 t13 t14 x15 x16 x17 σ := M.of h ok rfl
theorem pt158_of (h : Br (x10 = 16) (I64 (x17 * 4) ∧ I64 (x16 * 4) ∧ pt166 R s0 x2 x3 t4 t5 t6 x7 t8 t9 x10 x12 (x16 * 4) (x17 * 4) σ) (pt166 R s0 x2 x3 t4 t5 t6 x7 t8 t9 x10 x12 x16 x17 σ)) : pt158 R s0 x2 x3 t4 t5 t6 x7 t8 t9 x10 x12 x16 x17 σ := M.of h ok rfl
theorem pt166_of (h : Br (x7 < ((ByteArray.size s0 : Nat) : Int)) (∃ u157 : UInt8, 0 ≤ x7 ∧ (ByteArray.data s0)[Int.toNat x7]? = some u157 ∧ Spec prog 226 #[(.int .u8 ((UInt8.toNat u157 : Nat) : Int))] σ (Cont R (CI .u8 fun x158 y => Br (x158 = x12) (I64 (x7 + 1) ∧ Br ((((ByteArray.size s0 : Nat) : Int) : Int) ≤ (x7 + 1)) (R (.returned (.tuple #[.int .u64 x2, .int .i64 x3, .bool t4, .bool t5, .bool t6, (.int .i64 (x7 + 1)), .bool t8])) y) (∃ u170 : UInt8, (0 : Int) ≤ (x7 + 1) ∧ (ByteArray.data s0)[Int.toNat (x7 + 1)]? = some u170 ∧ Br ((((UInt8.toNat u170 : Nat) : Int) : Int) = 43) (I64 ((x7 + 1) + 1) ∧ pt195 R s0 x2 x3 t4 t5 t6 (((x7 + 1) + 1)) t8 t9 x16 x17 1 y) (Br ((((UInt8.toNat u170 : Nat) : Int) : Int) = 45) (I64 ((x7 + 1) + 1) ∧ pt195 R s0 x2 x3 t4 t5 t6 (((x7 + 1) + 1)) t8 t9 x16 x17 (-1) y) (pt195 R s0 x2 x3 t4 t5 t6 (x7 + 1) t8 t9 x16 x17 1 y)))) (Br (x10 = 16) (R (.returned (.tuple #[.int .u64 x2, .int .i64 x3, .bool t4, .bool t5, .bool t6, .int .i64 x7, .bool t8])) y) (pt234 R s0 x2 x3 t4 t5 t6 x7 t8 t9 x16 x17 y))))) (Br (x10 = 16) (R (.returned (.tuple #[.int .u64 x2, .int .i64 x3, .bool t4, .bool t5, .bool t6, .int .i64 x7, .bool t8])) σ) (pt234 R s0 x2 x3 t4 t5 t6 x7 t8 t9 x16 x17 σ))) : pt166 R s0 x2 x3 t4 t5 t6 x7 t8 t9 x10 x12 x16 x17 σ := M.of h ok rfl
theorem pt234_of (h : Br (x2 ≠ 0) (I64 (x17 - x16) ∧ pt240 R s0 x2 (x17 - x16) t4 t5 t6 x7 t8 t9 σ) (pt240 R s0 x2 x3 t4 t5 t6 x7 t8 t9 σ)) : pt234 R s0 x2 x3 t4 t5 t6 x7 t8 t9 x16 x17 σ := M.of h ok rfl
theorem pt240_of (h : Bo t9 (∃ s249, YF prog (Instr.sliceAt 9 (.string s0) none (some (.int .i64 x7)) none) σ (.string s249) ∧ Spec prog 227 #[.string s249] σ (Cont R (CB fun t250 y => Bn t250 (R (.returned (.tuple #[.int .u64 x2, .int .i64 x3, .bool t4, .bool t5, .bool t6, .int .i64 x7, .bool t8])) y) (R (.returned (.tuple #[.int .u64 x2, .int .i64 x3, .bool t4, .bool t5, .bool t6, .int .i64 x7, .bool true])) y)))) (R (.returned (.tuple #[.int .u64 x2, .int .i64 x3, .bool t4, .bool t5, .bool t6, .int .i64 x7, .bool true])) σ)) : pt240 R s0 x2 x3 t4 t5 t6 x7 t8 t9 σ := M.of h ok rfl
theorem pt143_of (h : I64 (x7 + 1) ∧ pt63 R s0 x2 x3 t4 t5 t6 (x7 + 1) t8 t9 x10 x11 x12 t13 t14 x15 x16 x17 σ) : pt143 R s0 x2 x3 t4 t5 t6 x7 t8 t9 x10 x11 x12 t13 t14 x15 x16 x17 σ := M.of h ok rfl
end internal_strconv_readFloat
end TwW
end
end
section
set_option maxRecDepth 100000
noncomputable section
namespace TwW
open Go Tw Go.Proofs.Tryz
variable [Cnt] {R : Ending → Hp → Prop} {σ : Hp}

namespace law0_CopyPoints
variable {p0 : Option Addr} {n0 c0 : Nat}
def M : Fw := ⟨prog, 16, f16, [], [], false, [], [], []⟩
theorem ok : M.Ok := ⟨Ents.nil, mixed, func16, by kernel_rfl⟩
theorem start (h : Al σ fun b3 => Eff prog (Builtin.append_ #[34, 34] 34 #[(.slice (aD b3 0) 0 0), .slice p0 n0 c0]) (Hp.set σ b3 (.cells #[] 39 (0, 0))) (CS fun p5 n5 c5 y => R (.returned (.slice p5 n5 c5)) y)) : Spec prog 16 #[.slice p0 n0 c0] σ R := M.start h ok
end law0_CopyPoints
namespace label_valid
variable {s0 : ByteArray} {x3 x4 x5 x6 : Int}
def M : Fw := ⟨prog, 39, f39, [], [], false, [], [], [(220, [(0, wT), (3, wI)]), (894, [(0, wT), (3, wI), (4, wI), (5, w8), (6, w8)]), (7164, [(0, wT), (3, wI), (4, wI), (5, w8), (6, w8)])]⟩
theorem ok : M.Ok := ⟨Ents.nil, mixed, func39, by kernel_rfl⟩
def pt11 := M.pt 0
def pt65 := M.pt 1
def pt70 := M.pt 2
theorem start (h : pt11 R s0 0 σ) : Spec prog 39 #[.string s0] σ R := M.start h ok
theorem pt11_of (h : Br (x3 = ((ByteArray.size s0 : Nat) : Int)) (R (.returned (.bool true)) σ) (∃ u14 : UInt8, 0 ≤ x3 ∧ (ByteArray.data s0)[Int.toNat x3]? = some u14 ∧ Br ((((UInt8.toNat u14 : Nat) : Int) : Int) < 128) (I64 (x3 + 1) ∧ pt11 R s0 (x3 + 1) σ) (Br ((194 : Int) ≤ ((UInt8.toNat u14 : Nat) : Int)) (Br ((((UInt8.toNat u14 : Nat) : Int) : Int) ≤ 223) (pt65 R s0 x3 1 128 191 σ) (Br ((224 : Int) ≤ ((UInt8.toNat u14 : Nat) : Int)) (Br ((((UInt8.toNat u14 : Nat) : Int) : Int) ≤ 239) (Br ((((UInt8.toNat u14 : Nat) : Int) : Int) = 224) (pt65 R s0 x3 2 160 191 σ) (Br ((((UInt8.toNat u14 : Nat) : Int) : Int) = 237) (pt65 R s0 x3 2 128 159 σ) (pt65 R s0 x3 2 128 191 σ))) (Br ((240 : Int) ≤ ((UInt8.toNat u14 : Nat) : Int)) (Br ((((UInt8.toNat u14 : Nat) : Int) : Int) ≤ 244) (Br ((((UInt8.toNat u14 : Nat) : Int) : Int) = 240) (pt65 R s0 x3 3 144 191 σ) (Br ((((UInt8.toNat u14 : Nat) : Int) : Int) = 244) (pt65 R s0 x3 3 128 143 σ) (pt65 R s0 x3 3 128 191 σ))) (R (.returned (.bool false)) σ)) (R (.returned (.bool false)) σ))) (Br ((240 : Int) ≤ ((UInt8.toNat u14 : Nat) : Int)) (Br ((((UInt8.toNat u14 : Nat) : Int) : Int) ≤ 244) (Br ((((UInt8.toNat u14 : Nat) : Int) : Int) = 240) (pt65 R s0 x3 3 144 191 σ) (Br ((((UInt8.toNat u14 : Nat) : Int) : Int) = 244) (pt65 R s0 x3 3 128 143 σ) (pt65 R s0 x3 3 128 191 σ))) (R (.returned (.bool false)) σ)) (R (.returned (.bool false)) σ)))) (Br ((224 : Int) ≤ ((UInt8.toNat u14 : Nat) : Int)) (Br ((((UInt8.toNat u14 : Nat) : Int) : Int) ≤ 239) (Br ((((UInt8.toNat u14 : Nat) : Int) : Int) = 224) (pt65 R s0 x3 2 160 191 σ) (Br ((((UInt8.toNat u14 : Nat) : Int) : Int) = 237) (pt65 R s0 x3 2 128 159 σ) (pt65 R s0 x3 2 128 191 σ))) (Br ((240 : Int) ≤ ((UInt8.toNat u14 : Nat) : Int)) (Br ((((UInt8.toNat u14 : Nat) : Int) : Int) ≤ 244) (Br ((((UInt8.toNat u14 : Nat) : Int) : Int) = 240) (pt65 R s0 x3 3 144 191 σ) (Br ((((UInt8.toNat u14 : Nat) : Int) : Int) = 244) (pt65 R s0 x3 3 128 143 σ) (pt65 R s0 x3 3 128 191 σ))) (R (.returned (.bool false)) σ)) (R (.returned (.bool false)) σ))) (Br ((240 : Int) ≤ ((UInt8.toNat u14 : Nat) : Int)) (Br ((((UInt8.toNat u14 : Nat) : Int) : Int) ≤ 244) (Br ((((UInt8.toNat u14 : Nat) : Int) : Int) = 240) (pt65 R s0 x3 3 144 191 σ) (Br ((((UInt8.toNat u14 : Nat) : Int) : Int) = 244) (pt65 R s0 x3 3 128 143 σ) (pt65 R s0 x3 3 128 191 σ))) (R (.returned (.bool false)) σ)) (R (.returned (.bool false)) σ)))))) : pt11 R s0 x3 σ := M.of h ok rfl
theorem pt65_of (h : I64 (x3 + 1) ∧ pt70 R s0 (x3 + 1) x4 x5 x6 σ) : pt65 R s0 x3 x4 x5 x6 σ := M.of h ok rfl
theorem pt70_of (h : Br (x4 = 0) (pt11 R s0 x3 σ) (Br (x3 = ((ByteArray.size s0 : Nat) : Int)) (R (.returned (.bool false)) σ) (∃ u60 : UInt8, 0 ≤ x3 ∧ (ByteArray.data s0)[Int.toNat x3]? = some u60 ∧ Br ((((UInt8.toNat u60 : Nat) : Int) : Int) < x5) (R (.returned (.bool false)) σ) (∃ u67 : UInt8, 0 ≤ x3 ∧ (ByteArray.data s0)[Int.toNat x3]? = some u67 ∧ Br (x6 < ((UInt8.toNat u67 : Nat) : Int)) (R (.returned (.bool false)) σ) (I64 (x4 - 1) ∧ I64 (x3 + 1) ∧ pt70 R s0 (x3 + 1) (x4 - 1) 128 191 σ))))) : pt70 R s0 x3 x4 x5 x6 σ := M.of h ok rfl
end label_valid
namespace label_Encode
variable {p0 p3 p10 : Option Addr} {n0 c0 n3 c3 n10 c10 : Nat} {x11 x12 : Int}
def M : Fw := ⟨prog, 46, f46, [67, 68], [5], false, [], [], [(232, [(3, wL), (10, wL), (11, wI), (12, wI)])]⟩
theorem ok : M.Ok := ⟨.cons call67 (.cons call68 (Ents.nil)), mixed, func46, by kernel_rfl⟩
def pt10 := M.pt 0
theorem start (h : Df (IntKind.u64.wrap (n0 : Int)) fun x8 => Spec prog 67 #[.slice none 0 0, .int .u64 x8] σ (Cont R (CS fun p9 n9 c9 y => pt10 R p9 n9 c9 p0 n0 c0 (n0 : Int) 0 y))) : Spec prog 46 #[.slice p0 n0 c0] σ R := M.start h ok
theorem pt10_of (h : Br (x12 < x11) (Pq p10 fun b14 o14 => In x12 (n10 : Int) ∧ ∃ s15a s15b, LdL σ b14 (o14 + Int.toNat x12 * 2) [.string s15a, .string s15b] ∧ ∀ b5 : Nat, Spec prog 68 #[.slice p3 n3 c3, .string s15a] σ (Cont R (CS fun p19 n19 c19 y => Spec prog 68 #[.slice p19 n19 c19, .string s15b] y (Cont R (CS fun p22 n22 c22 y_2 => I64 (x12 + 1) ∧ pt10 R p22 n22 c22 (aD b14 o14) n10 c10 x11 (x12 + 1) y_2))))) (R (.returned (.slice p3 n3 c3)) σ)) : pt10 R p3 n3 c3 p10 n10 c10 x11 x12 σ := M.of h ok rfl
end label_Encode
namespace types_names
variable {x0a x0b x0e x0f x0g x0j x1a x1b x1e x1f x1g x1j x7 x8 : Int} {s0c s1c : ByteArray} {p0d p0h p1d p1h p6 : Option Addr} {n0d c0d n0h c0h n1d c1d n1h c1h n6 c6 : Nat} {t0i t1i : Bool}
def M : Fw := ⟨prog, 51, f51, [56], [1], false, [], [], [(104, [(1, .X 52 [.I .i64, .I .i64, .T, .L, .I .i64, .I .i64, .I .i64, .L, .B, .I .i64]), (6, wL), (7, wI), (8, wI)])]⟩
theorem ok : M.Ok := ⟨.cons call56 (Ents.nil), mixed, func51, by kernel_rfl⟩
def pt8 := M.pt 0
theorem start (h : ∀ b1 : Nat, pt8 R x0a x0b s0c p0d n0d c0d x0e x0f x0g p0h n0h c0h t0i x0j p0h n0h c0h (n0h : Int) 0 σ) : Spec prog 51 #[.agg #[.int .i64 x0a, .int .i64 x0b, .string s0c, .slice p0d n0d c0d, .int .i64 x0e, .int .i64 x0f, .int .i64 x0g, .slice p0h n0h c0h, .bool t0i, .int .i64 x0j]] σ R := M.start h ok
theorem pt8_of (h : Br (x8 < x7) (Pq p6 fun b10 o10 => In x8 (n6 : Int) ∧ LT σ b10 (o10 + Int.toNat x8 * 1) fun s11 => Spec prog 56 #[.string s11] σ (Cont R (CB fun t13 y => Bn t13 (R (.returned (.bool false)) y) (I64 (x8 + 1) ∧ pt8 R x1a x1b s1c p1d n1d c1d x1e x1f x1g p1h n1h c1h t1i x1j (aD b10 o10) n6 c6 x7 (x8 + 1) y)))) (Br ((n1h : Int) = 0) (R (.returned (.bool true)) σ) (R (.returned (.bool (decide (x1g ≠ 0)))) σ))) : pt8 R x1a x1b s1c p1d n1d c1d x1e x1f x1g p1h n1h c1h t1i x1j p6 n6 c6 x7 x8 σ := M.of1 h ok rfl fun _ => by kernel_rfl
end types_names
namespace types_span
variable {x0 x1 : Int}
def M : Fw := ⟨prog, 53, f53, [], [], false, [], [], []⟩
theorem ok : M.Ok := ⟨Ents.nil, mixed, func53, by kernel_rfl⟩
theorem start (h : Br (x1 ≤ x0) (R (.returned (.bool (decide (x0 < 2147483648)))) σ) (R (.returned (.bool false)) σ)) : Spec prog 53 #[.int .i64 x0, .int .i64 x1] σ R := M.start h ok
end types_span
namespace types_Sets
variable {x0 : Int}
def M : Fw := ⟨prog, 58, f58, [], [], false, [], [], []⟩
theorem ok : M.Ok := ⟨Ents.nil, mixed, func58, by kernel_rfl⟩
theorem start (h : Br (11 ≤ x0) (R (.returned (.bool (decide (x0 ≤ 13)))) σ) (R (.returned (.bool false)) σ)) : Spec prog 58 #[.int .i64 x0] σ R := M.start h ok
end types_Sets
namespace eval_asker_agg
variable {q0 p1d p1h p2 p4d p4h p6c p6d p9 p22 p15 p79 p11a p12 q13 : Option Addr} {x1a x1b x1e x1f x1g x1j x4a x4b x4e x4f x4g x4j x6a x6b x23 x24 x80 x81 x11b : Int} {s1c s4c : ByteArray} {n1d c1d n1h c1h n2 c2 n4d c4d n4h c4h n6c c6c n6d c6d n9 c9 n22 c22 n15 c15 n79 c79 n11a c11a n12 c12 : Nat} {t1i t4i : Bool} {m8 : Option Nat} {v14 : Value}
def M : Fw := ⟨prog, 64, f64, [28, 88, 90, 91, 92], [4, 6, 11], false, [(17, 11, false)], [], [(488, [(4, .X 52 [.I .i64, .I .i64, .T, .L, .I .i64, .I .i64, .I .i64, .L, .B, .I .i64]), (6, .X 79 [.I .i64, .I .u64, .L, .L]), (8, wM), (9, wL), (22, wL), (23, wI), (24, wI)]), (4072, [(6, .X 79 [.I .i64, .I .u64, .L, .L]), (14, wV), (15, wL), (79, wL), (80, wI), (81, wI)]), (62670, [(4, .X 52 [.I .i64, .I .i64, .T, .L, .I .i64, .I .i64, .I .i64, .L, .B, .I .i64]), (6, .X 79 [.I .i64, .I .u64, .L, .L]), (8, wM), (9, wL), (11, .X 48 [.L, .I .u64]), (12, wL), (22, wL), (23, wI), (24, wI)]), (125343, [(4, .X 52 [.I .i64, .I .i64, .T, .L, .I .i64, .I .i64, .I .i64, .L, .B, .I .i64]), (6, .X 79 [.I .i64, .I .u64, .L, .L]), (8, wM), (9, wL), (11, .X 48 [.L, .I .u64]), (13, wQ), (22, wL), (23, wI), (24, wI)])]⟩
theorem ok : M.Ok := ⟨.cons call28 (.cons call88 (.cons call90 (.cons call91 (.cons call92 (Ents.nil))))), mixed, func64, by kernel_rfl⟩
def pt12 := M.pt 0
def pt60 := M.pt 1
def pt37 := M.pt 2
def pt48 := M.pt 3
theorem start (h : ∀ b4 : Nat, ∀ b6 : Nat, Eff prog (Instr.makeMap 145 none) σ (fun z y => ∃ m18, z = (.map (some m18)) ∧ Pq p2 fun b20 o20 => In 0 (n2 : Int) ∧ LS y b20 (o20 + 2) fun p22 n22 c22 => pt12 R x1a x1b s1c p1d n1d c1d x1e x1f x1g p1h n1h c1h t1i x1j 0 0 none 0 0 none 0 0 (some m18) none 0 0 p22 n22 c22 (n22 : Int) 0 y)) : Spec prog 64 #[.pointer q0, .agg #[.int .i64 x1a, .int .i64 x1b, .string s1c, .slice p1d n1d c1d, .int .i64 x1e, .int .i64 x1f, .int .i64 x1g, .slice p1h n1h c1h, .bool t1i, .int .i64 x1j], .slice p2 n2 c2] σ R := M.start h ok
theorem pt12_of (h : Br (x24 < x23) (Pq p22 fun b26 o26 => In x24 (n22 : Int) ∧ ∃ p27a n27a c27a x27b, LdL σ b26 (o26 + Int.toNat x24 * 2) [.slice p27a n27a c27a, .int .u64 x27b] ∧ ∀ b11 : Nat, Br (x4g = 1) (Spec prog 91 #[.slice p27a n27a c27a, .slice p4h n4h c4h] σ (Cont R (CS fun p36 n36 c36 y => pt37 R x4a x4b s4c p4d n4d c4d x4e x4f x4g p4h n4h c4h t4i x4j x6a x6b p6c n6c c6c p6d n6d c6d m8 p9 n9 c9 p27a n27a c27a x27b p36 n36 c36 (aD b26 o26) n22 c22 x23 x24 y))) (Br (x4g = 2) (Spec prog 92 #[.slice p27a n27a c27a, .slice p4h n4h c4h] σ (Cont R (CS fun p43 n43 c43 y => Spec prog 88 #[.slice p43 n43 c43] y (Cont R (CS fun p44 n44 c44 y_2 => pt37 R x4a x4b s4c p4d n4d c4d x4e x4f x4g p4h n4h c4h t4i x4j x6a x6b p6c n6c c6c p6d n6d c6d m8 p9 n9 c9 p27a n27a c27a x27b p44 n44 c44 (aD b26 o26) n22 c22 x23 x24 y_2))))) (pt37 R x4a x4b s4c p4d n4d c4d x4e x4f x4g p4h n4h c4h t4i x4j x6a x6b p6c n6c c6c p6d n6d c6d m8 p9 n9 c9 p27a n27a c27a x27b none 0 0 (aD b26 o26) n22 c22 x23 x24 σ))) (Eff prog (Instr.makeMap 150 none) σ (fun z y => ∃ m74, z = (.map (some m74)) ∧ Eff prog (Instr.mapUpdate 150 (.map (some m74)) (.int .i64 1) (.func (.func 93) #[] #[])) y (fun _ y_2 => Eff prog (Instr.mapUpdate 150 (.map (some m74)) (.int .i64 2) (.func (.func 94) #[] #[])) y_2 (fun _ y_3 => Eff prog (Instr.mapUpdate 150 (.map (some m74)) (.int .i64 3) (.func (.func 95) #[] #[])) y_3 (fun _ y_4 => Eff prog (Instr.mapUpdate 150 (.map (some m74)) (.int .i64 4) (.func (.func 96) #[] #[])) y_4 (fun _ y_5 => Eff prog (Instr.mapUpdate 150 (.map (some m74)) (.int .i64 5) (.func (.func 97) #[] #[])) y_5 (fun _ y_6 => Eff prog (Instr.lookup 150 (.map (some m74)) (.int .i64 x4b) false) y_6 (fun z y_7 => ∃ v78, v78 = z ∧ pt60 R x6a x6b p6c n6c c6c p6d n6d c6d v78 none 0 0 p9 n9 c9 (n9 : Int) 0 y_7))))))))) : pt12 R x4a x4b s4c p4d n4d c4d x4e x4f x4g p4h n4h c4h t4i x4j x6a x6b p6c n6c c6c p6d n6d c6d m8 p9 n9 c9 p22 n22 c22 x23 x24 σ := M.of2 h ok rfl fun _ _ => by kernel_rfl
theorem pt60_of (h : Br (x81 < x80) (Pq p79 fun b83 o83 => In x81 (n79 : Int) ∧ LQ σ b83 (o83 + Int.toNat x81 * 1) fun q84 => Pq q84 fun b87 o87 => LS σ b87 o87 fun p89 n89 c89 => LS σ b87 (o87 + 1) fun p94 n94 c94 => ∃ (f95 : Nat) (fst95 cap95 : Array Value), v14 = .func (.func f95) fst95 cap95 ∧ Enters prog f95 ∧ Spec prog f95 (fst95 ++ #[.slice p94 n94 c94] ++ cap95) σ (Cont R (CI .u64 fun x95 y => Kp [b87] σ y ∧ Al y fun b97 => Eff prog (Builtin.append_ #[44, 44] 44 #[.slice p15 n15 c15, (.slice (aD b97 0) 1 1)]) (Hp.set y b97 (.cells #[.slice p89 n89 c89, .int .u64 x95] 48 (0, 0))) (CS fun p98 n98 c98 y_2 => I64 (x81 + 1) ∧ pt60 R x6a x6b p6c n6c c6c p6d n6d c6d v14 p98 n98 c98 (aD b83 o83) n79 c79 x80 (x81 + 1) y_2)))) (Spec prog 90 #[.slice p15 n15 c15] σ (Cont R (fun z y => ∃ x101aa x101ab p101ac n101ac c101ac p101ad n101ad c101ad x101b, z = (.tuple #[.agg #[.int .i64 x101aa, .int .u64 x101ab, .slice p101ac n101ac c101ac, .slice p101ad n101ad c101ad], .int .i64 x101b]) ∧ R (.returned (.tuple #[.agg #[.int .i64 x101aa, .int .u64 x101ab, .slice p101ac n101ac c101ac, .slice p101ad n101ad c101ad], .int .i64 x101b])) y)))) : pt60 R x6a x6b p6c n6c c6c p6d n6d c6d v14 p15 n15 c15 p79 n79 c79 x80 x81 σ := M.of1 h ok rfl fun _ => by kernel_rfl
theorem pt37_of (h : Spec prog 28 #[.slice p12 n12 c12] σ (Cont R (CT fun s47 y => Eff prog (Instr.lookup 145 (.map m8) (.string s47) false) y (CQ fun q48 y_2 => Bo (Option.isNone q48) (Al y_2 fun b53 => Spec prog 28 #[.slice p12 n12 c12] (Hp.set y_2 b53 (.cells #[.slice p12 n12 c12, .slice none 0 0] 137 (0, 0))) (Cont R (CT fun s56 y_3 => Eff prog (Instr.mapUpdate 145 (.map m8) (.string s56) (.pointer (aD b53 0))) y_3 (fun _ y_4 => Al y_4 fun b60 => Eff prog (Builtin.append_ #[146, 146] 146 #[.slice p9 n9 c9, (.slice (aD b60 0) 1 1)]) (Hp.set y_4 b60 (.cells #[(.pointer (aD b53 0))] 148 (0, 0))) (CS fun p61 n61 c61 y_5 => pt48 R x4a x4b s4c p4d n4d c4d x4e x4f x4g p4h n4h c4h t4i x4j x6a x6b p6c n6c c6c p6d n6d c6d m8 p61 n61 c61 p11a n11a c11a x11b (aD b53 0) p22 n22 c22 x23 x24 y_5))))) (pt48 R x4a x4b s4c p4d n4d c4d x4e x4f x4g p4h n4h c4h t4i x4j x6a x6b p6c n6c c6c p6d n6d c6d m8 p9 n9 c9 p11a n11a c11a x11b q48 p22 n22 c22 x23 x24 y_2))))) : pt37 R x4a x4b s4c p4d n4d c4d x4e x4f x4g p4h n4h c4h t4i x4j x6a x6b p6c n6c c6c p6d n6d c6d m8 p9 n9 c9 p11a n11a c11a x11b p12 n12 c12 p22 n22 c22 x23 x24 σ := M.of3 h ok rfl fun _ _ _ => by kernel_rfl
theorem pt48_of (h : Pq q13 fun b64 o64 => LS σ b64 (o64 + 1) fun p66 n66 c66 => Al σ fun b69 => Eff prog (Builtin.append_ #[135, 135] 135 #[.slice p66 n66 c66, (.slice (aD b69 0) 1 1)]) (Hp.set σ b69 (.cells #[.int .u64 x11b] 37 (0, 0))) (CS fun p70 n70 c70 y => Eff prog (Instr.storeAt 135 (.pointer (aD b64 (o64 + 1))) (.slice p70 n70 c70)) y (fun _ y_2 => I64 (x24 + 1) ∧ pt12 R x4a x4b s4c p4d n4d c4d x4e x4f x4g p4h n4h c4h t4i x4j x6a x6b p6c n6c c6c p6d n6d c6d m8 p9 n9 c9 p22 n22 c22 x23 (x24 + 1) y_2))) : pt48 R x4a x4b s4c p4d n4d c4d x4e x4f x4g p4h n4h c4h t4i x4j x6a x6b p6c n6c c6c p6d n6d c6d m8 p9 n9 c9 p11a n11a c11a x11b q13 p22 n22 c22 x23 x24 σ := M.of3 h ok rfl fun _ _ _ => by kernel_rfl
end eval_asker_agg
namespace lex_needless
variable {s0 : ByteArray}
def M : Fw := ⟨prog, 80, f80, [], [], false, [], [], []⟩
theorem ok : M.Ok := ⟨Ents.nil, mixed, func80, by kernel_rfl⟩
theorem start (h : Br ((1 : Int) < ((ByteArray.size s0 : Nat) : Int)) (∃ u8 : UInt8, (0 : Int) ≤ 0 ∧ (ByteArray.data s0)[Int.toNat 0]? = some u8 ∧ R (.returned (.bool (decide ((((UInt8.toNat u8 : Nat) : Int) : Int) = 48)))) σ) (R (.returned (.bool false)) σ)) : Spec prog 80 #[.string s0] σ R := M.start h ok
end lex_needless
namespace eval_points
variable {p0 : Option Addr} {n0 c0 : Nat} {x1 x2 : Int}
def M : Fw := ⟨prog, 83, f83, [114], [], false, [], [], []⟩
theorem ok : M.Ok := ⟨.cons call114 (Ents.nil), mixed, func83, by kernel_rfl⟩
theorem start (h : Spec prog 114 #[.slice p0 n0 c0, .int .i64 x1, (.func (.func 115) #[] #[])] σ (Cont R (fun z y => ∃ x14a t14b, z = (.tuple #[.int .i64 x14a, .bool t14b]) ∧ Spec prog 114 #[.slice p0 n0 c0, .int .i64 x2, (.func (.func 116) #[] #[])] y (Cont R (fun z y_2 => ∃ x20a t20b, z = (.tuple #[.int .i64 x20a, .bool t20b]) ∧ ((0 : Int) ≤ (if x20a < x14a then x20a else x14a) ∧ (if x20a < x14a then x20a else x14a) ≤ x20a ∧ x20a ≤ (c0 : Int)) ∧ R (.returned (.slice (slP p0 (Int.toNat (if x20a < x14a then x20a else x14a)) c0 2) (Int.toNat x20a - Int.toNat (if x20a < x14a then x20a else x14a)) (c0 - Int.toNat (if x20a < x14a then x20a else x14a)))) y_2))))) : Spec prog 83 #[.slice p0 n0 c0, .int .i64 x1, .int .i64 x2] σ R := M.start h ok
end eval_points
namespace eval_whole
variable {x0 : Int}
def M : Fw := ⟨prog, 85, f85, [], [], false, [], [], []⟩
theorem ok : M.Ok := ⟨Ents.nil, mixed, func85, by kernel_rfl⟩
theorem start (h : Eff prog (convert 2 60 (.int .i64 x0)) σ (fun z y => ∃ x4, (Value.float .f64 x4) = z ∧ EN prog 26 #[(Value.float .f64 x4)] y (CI .u64 fun x5 y_2 => R (.returned (.int .u64 x5)) y_2))) : Spec prog 85 #[.int .i64 x0] σ R := M.start h ok
end eval_whole
namespace match_compile
variable {s0 : ByteArray} {p2 p3 p7 : Option Addr} {n2 c2 n3 c3 n7 c7 : Nat} {x8 x9 : Int}
def M : Fw := ⟨prog, 118, f118, [156], [2, 3], false, [(5, 8, false)], [], [(232, [(2, .X 173 [.L]), (3, .X 173 [.L]), (7, wL), (8, wI), (9, wI)])]⟩
theorem ok : M.Ok := ⟨.cons call156 (Ents.nil), mixed, func118, by kernel_rfl⟩
def pt10 := M.pt 0
theorem start (h : ∀ b2 : Nat, ∀ b3 : Nat, Spec prog 156 #[.string s0, (.string (ByteArray.mk #[124]))] σ (Cont R (CS fun p7 n7 c7 y => pt10 R none 0 0 none 0 0 p7 n7 c7 (n7 : Int) 0 y))) : Spec prog 118 #[.string s0] σ R := M.start h ok
theorem pt10_of (h : Br (x9 < x8) (Pq p7 fun b11 o11 => In x9 (n7 : Int) ∧ LT σ b11 (o11 + Int.toNat x9 * 1) fun s12 => Spec prog 156 #[.string s12, (.string (ByteArray.mk #[42]))] σ (Cont R (CS fun p16 n16 c16 y => Al y fun b18 => Eff prog (Builtin.append_ #[171, 171] 171 #[.slice p3 n3 c3, (.slice (aD b18 0) 1 1)]) (Hp.set y b18 (.cells #[.slice p16 n16 c16] 206 (0, 0))) (CS fun p19 n19 c19 y_2 => I64 (x9 + 1) ∧ pt10 R p2 n2 c2 p19 n19 c19 (aD b11 o11) n7 c7 x8 (x9 + 1) y_2)))) (R (.returned (.agg #[.slice p3 n3 c3])) σ)) : pt10 R p2 n2 c2 p3 n3 c3 p7 n7 c7 x8 x9 σ := M.of2 h ok rfl fun _ _ => by kernel_rfl
end match_compile
namespace eval_add
variable {x0 x1 : Int}
def M : Fw := ⟨prog, 140, f140, [142], [], false, [], [], []⟩
theorem ok : M.Ok := ⟨.cons call142 (Ents.nil), mixed, func140, by kernel_rfl⟩
theorem start (h : Spec prog 142 #[.int .i64 1, .int .u64 x0, .int .u64 x1] σ (Cont R (fun z y => ∃ x10a t10b, z = (.tuple #[.int .u64 x10a, .bool t10b]) ∧ R (.returned (.int .u64 x10a)) y))) : Spec prog 140 #[.int .u64 x0, .int .u64 x1] σ R := M.start h ok
end eval_add
namespace wave_Compare
variable {x0 x1 x2 : Int}
def M : Fw := ⟨prog, 143, f143, [121], [], false, [], [], []⟩
theorem ok : M.Ok := ⟨.cons call121 (Ents.nil), mixed, func143, by kernel_rfl⟩
theorem start (h : Spec prog 121 #[.int .u64 x1] σ (Cont R (fun z y => ∃ x11, (Value.float .f64 x11) = z ∧ Spec prog 121 #[.int .u64 x2] y (Cont R (fun z y_2 => ∃ x13, (Value.float .f64 x13) = z ∧ Br (x0 = 5) (∃ t19, YF prog ((do eqGuard .eql 60 (.tmp 17) (.tmp 18) (Value.float .f64 x11) (Value.float .f64 x13); binOp .eql 60 (Value.float .f64 x11) (Value.float .f64 x13))) y_2 (.bool t19) ∧ R (.returned (.tuple #[.bool t19, .bool true])) y_2) (Br (x0 = 6) (∃ t24, YF prog ((do eqGuard .neq 60 (.tmp 22) (.tmp 23) (Value.float .f64 x11) (Value.float .f64 x13); binOp .neq 60 (Value.float .f64 x11) (Value.float .f64 x13))) y_2 (.bool t24) ∧ R (.returned (.tuple #[.bool t24, .bool true])) y_2) (Br (x0 = 7) (∃ t29, YF prog ((do eqGuard .lss 60 (.tmp 27) (.tmp 28) (Value.float .f64 x11) (Value.float .f64 x13); binOp .lss 60 (Value.float .f64 x11) (Value.float .f64 x13))) y_2 (.bool t29) ∧ R (.returned (.tuple #[.bool t29, .bool true])) y_2) (Br (x0 = 8) (∃ t34, YF prog ((do eqGuard .leq 60 (.tmp 32) (.tmp 33) (Value.float .f64 x11) (Value.float .f64 x13); binOp .leq 60 (Value.float .f64 x11) (Value.float .f64 x13))) y_2 (.bool t34) ∧ R (.returned (.tuple #[.bool t34, .bool true])) y_2) (Br (x0 = 9) (∃ t39, YF prog ((do eqGuard .gtr 60 (.tmp 37) (.tmp 38) (Value.float .f64 x11) (Value.float .f64 x13); binOp .gtr 60 (Value.float .f64 x11) (Value.float .f64 x13))) y_2 (.bool t39) ∧ R (.returned (.tuple #[.bool t39, .bool true])) y_2) (Br (x0 = 10) (∃ t44, YF prog ((do eqGuard .geq 60 (.tmp 42) (.tmp 43) (Value.float .f64 x11) (Value.float .f64 x13); binOp .geq 60 (Value.float .f64 x11) (Value.float .f64 x13))) y_2 (.bool t44) ∧ R (.returned (.tuple #[.bool t44, .bool true])) y_2) (R (.returned (.tuple #[.bool false, .bool false])) y_2))))))))))) : Spec prog 143 #[.int .i64 x0, .int .u64 x1, .int .u64 x2] σ R := M.start h ok
end wave_Compare
namespace eval_by
variable {x0a x0b x0e x0f x0g x0j : Int} {s0c : ByteArray} {p0d p0h p1 : Option Addr} {n0d c0d n0h c0h n1 c1 : Nat} {t0i : Bool}
def M : Fw := ⟨prog, 146, f146, [88, 91, 92], [2], false, [], [], []⟩
theorem ok : M.Ok := ⟨.cons call88 (.cons call91 (.cons call92 (Ents.nil))), mixed, func146, by kernel_rfl⟩
theorem start (h : ∀ b2 : Nat, Br (x0g = 3) (Spec prog 91 #[.slice p1 n1 c1, .slice p0h n0h c0h] σ (Cont R (CS fun p11 n11 c11 y => R (.returned (.slice p11 n11 c11)) y))) (Spec prog 92 #[.slice p1 n1 c1, .slice p0h n0h c0h] σ (Cont R (CS fun p15 n15 c15 y => Spec prog 88 #[.slice p15 n15 c15] y (Cont R (CS fun p16 n16 c16 y_2 => R (.returned (.slice p16 n16 c16)) y_2)))))) : Spec prog 146 #[.agg #[.int .i64 x0a, .int .i64 x0b, .string s0c, .slice p0d n0d c0d, .int .i64 x0e, .int .i64 x0f, .int .i64 x0g, .slice p0h n0h c0h, .bool t0i, .int .i64 x0j], .slice p1 n1 c1] σ R := M.start h ok
end eval_by
namespace internal_strconv_ParseFloat
variable {s0 : ByteArray} {x1 : Int}
def M : Fw := ⟨prog, 149, f149, [166], [], false, [], [], []⟩
theorem ok : M.Ok := ⟨.cons call166 (Ents.nil), mixed, func149, by kernel_rfl⟩
theorem start (h : Spec prog 166 #[.string s0, .int .i64 x1] σ (Cont R (fun z y => ∃ v12a x12b v12c, z = (.tuple #[v12a, .int .i64 x12b, v12c]) ∧ Br (x12b ≠ ((ByteArray.size s0 : Nat) : Int)) (R (.returned (.tuple #[.float .f64 0, (.iface 214 (.int .i64 2))])) y) (R (.returned (.tuple #[v12a, v12c])) y)))) : Spec prog 149 #[.string s0, .int .i64 x1] σ R := M.start h ok
end internal_strconv_ParseFloat
namespace wave_Power
variable {p0 : Option Addr} {n0 c0 : Nat}
def M : Fw := ⟨prog, 161, f161, [113, 175, 176], [], false, [], [], []⟩
theorem ok : M.Ok := ⟨.cons call113 (.cons call175 (.cons call176 (Ents.nil))), mixed, func161, by kernel_rfl⟩
theorem start (h : Spec prog 175 #[(.int .i64 (n0 : Int))] σ (Cont R (CB fun t7 y => Bn t7 (R (.returned (.tuple #[.int .u64 0, .int .i64 210])) y) ((n0 : Int) ≠ (0 : Int) ∧ Df (Int.tmod 1 (n0 : Int)) fun x12 => Spec prog 176 #[.slice p0 n0 c0, .int .i64 x12] y (Cont R (fun z y_2 => ∃ x13 y13, (Value.complex .f64 x13 y13) = z ∧ ∃ x15, YF prog (Builtin.real_ #[222] 60 #[(Value.complex .f64 x13 y13)]) y_2 (Value.float .f64 x15) ∧ ∃ x17, YF prog (Builtin.real_ #[222] 60 #[(Value.complex .f64 x13 y13)]) y_2 (Value.float .f64 x17) ∧ Eff prog (binOp .mul 60 (Value.float .f64 x15) (Value.float .f64 x17)) y_2 (fun z y_3 => ∃ x18, (Value.float .f64 x18) = z ∧ ∃ x20, YF prog (Builtin.imag_ #[222] 60 #[(Value.complex .f64 x13 y13)]) y_3 (Value.float .f64 x20) ∧ ∃ x22, YF prog (Builtin.imag_ #[222] 60 #[(Value.complex .f64 x13 y13)]) y_3 (Value.float .f64 x22) ∧ Eff prog (binOp .mul 60 (Value.float .f64 x20) (Value.float .f64 x22)) y_3 (fun z y_4 => ∃ x23, (Value.float .f64 x23) = z ∧ Eff prog (binOp .add 60 (Value.float .f64 x18) (Value.float .f64 x23)) y_4 (fun z y_5 => ∃ x24, (Value.float .f64 x24) = z ∧ Spec prog 113 #[(Value.float .f64 x24)] y_5 (Cont R (CI .u64 fun x25 y_6 => R (.returned (.tuple #[.int .u64 x25, .int .i64 0])) y_6))))))))))) : Spec prog 161 #[.slice p0 n0 c0] σ R := M.start h ok
end wave_Power
namespace slices_Index_string
variable {p0 : Option Addr} {n0 c0 : Nat} {s1 : ByteArray} {x7 x8 : Int}
def M : Fw := ⟨prog, 164, f164, [], [], false, [], [], [(104, [(0, wL), (1, wT), (7, wI), (8, wI)])]⟩
theorem ok : M.Ok := ⟨Ents.nil, mixed, func164, by kernel_rfl⟩
def pt8 := M.pt 0
theorem start (h : pt8 R p0 n0 c0 s1 (n0 : Int) 0 σ) : Spec prog 164 #[.slice p0 n0 c0, .string s1] σ R := M.start h ok
theorem pt8_of (h : Br (x8 < x7) (Pq p0 fun b14 o14 => In x8 (n0 : Int) ∧ LT σ b14 (o14 + Int.toNat x8 * 1) fun s15 => Bo (ByteArray.toList s1 == ByteArray.toList s15) (R (.returned (.int .i64 x8)) σ) (I64 (x8 + 1) ∧ pt8 R (aD b14 o14) n0 c0 s1 x7 (x8 + 1) σ)) (R (.returned (.int .i64 (-1))) σ)) : pt8 R p0 n0 c0 s1 x7 x8 σ := M.of h ok rfl
end slices_Index_string
namespace match_piece_is
variable {p0a p64 : Option Addr} {n0a c0a n64 c64 : Nat} {s1 : ByteArray} {x65 x66 : Int}
def M : Fw := ⟨prog, 190, f190, [193, 214, 215], [2], false, [(1, 14, true)], [], [(2024, [(1, wT), (64, wL), (65, wI), (66, wI)])]⟩
theorem ok : M.Ok := ⟨.cons call193 (.cons call214 (.cons call215 (Ents.nil))), mixed, func190, by kernel_rfl⟩
def pt28 := M.pt 0
theorem start (h : ∀ b2 : Nat, Pq p0a fun b12 o12 => In 0 (n0a : Int) ∧ LT σ b12 o12 fun s13 => I64 ((n0a : Int) - 1) ∧ In (((n0a : Int) - 1)) (n0a : Int) ∧ LT σ b12 (o12 + Int.toNat ((n0a : Int) - 1) * 1) fun s21 => Br ((n0a : Int) = 1) (R (.returned (.bool (ByteArray.toList s1 == ByteArray.toList s13))) σ) (I64 (((ByteArray.size s13 : Nat) : Int) + ((ByteArray.size s21 : Nat) : Int)) ∧ Br ((((ByteArray.size s1 : Nat) : Int) : Int) < (((ByteArray.size s13 : Nat) : Int) + ((ByteArray.size s21 : Nat) : Int))) (R (.returned (.bool false)) σ) (Spec prog 214 #[.string s1, .string s13] σ (Cont R (CB fun t40 y => Bn t40 (R (.returned (.bool false)) y) (Spec prog 215 #[.string s1, .string s21] y (Cont R (CB fun t46 y_2 => Bn t46 (R (.returned (.bool false)) y_2) (I64 (((ByteArray.size s1 : Nat) : Int) - ((ByteArray.size s21 : Nat) : Int)) ∧ ∃ s57, YF prog (Instr.sliceAt 9 (.string s1) (some (.int .i64 ((ByteArray.size s13 : Nat) : Int))) (some (.int .i64 (((ByteArray.size s1 : Nat) : Int) - ((ByteArray.size s21 : Nat) : Int)))) none) y_2 (.string s57) ∧ I64 ((n0a : Int) - 1) ∧ ((0 : Int) ≤ 1 ∧ 1 ≤ ((n0a : Int) - 1) ∧ ((n0a : Int) - 1) ≤ (c0a : Int)) ∧ pt28 R s57 ((slP (aD b12 o12) (1) c0a 1)) ((Int.toNat ((n0a : Int) - 1) - 1)) (c0a - 1) ((((Int.toNat ((n0a : Int) - 1) - 1) : Nat) : Int)) 0 y_2))))))))) : Spec prog 190 #[.agg #[.slice p0a n0a c0a], .string s1] σ R := M.start h ok
theorem pt28_of (h : Br (x66 < x65) (Pq p64 fun b68 o68 => In x66 (n64 : Int) ∧ LT σ b68 (o68 + Int.toNat x66 * 1) fun s69 => Spec prog 193 #[.string s1, .string s69] σ (Cont R (CI .i64 fun x72 y => Br (x72 < 0) (R (.returned (.bool false)) y) (I64 (x72 + ((ByteArray.size s69 : Nat) : Int)) ∧ ∃ s80, YF prog (Instr.sliceAt 9 (.string s1) (some (.int .i64 (x72 + ((ByteArray.size s69 : Nat) : Int)))) none none) y (.string s80) ∧ I64 (x66 + 1) ∧ pt28 R s80 (aD b68 o68) n64 c64 x65 (x66 + 1) y)))) (R (.returned (.bool true)) σ)) : pt28 R s1 p64 n64 c64 x65 x66 σ := M.of h ok rfl
end match_piece_is
namespace strings_Index
variable {s0 s1 : ByteArray}
end strings_Index
end TwW
end
end
section
set_option maxRecDepth 100000
noncomputable section
namespace TwW
open Go Tw Go.Proofs.Tryz
variable [Cnt] {R : Ending → Hp → Prop} {σ : Hp}

namespace law0_CopySeries
variable {p0 p3 : Option Addr} {n0 c0 n3 c3 : Nat} {x4 : Int}
def M : Fw := ⟨prog, 6, f6, [15, 16], [], false, [], [], [(464, [(0, wL), (3, wL), (4, wI)])]⟩
theorem ok : M.Ok := ⟨.cons call15 (.cons call16 (Ents.nil)), mixed, func6, by kernel_rfl⟩
def pt11 := M.pt 0
theorem start (h : pt11 R p0 n0 c0 none 0 0 0 σ) : Spec prog 6 #[.slice p0 n0 c0] σ R := M.start h ok
theorem pt11_of (h : Br (x4 < (n0 : Int)) (Pq p0 fun b14 o14 => In x4 (n0 : Int) ∧ LS σ b14 (o14 + Int.toNat x4 * 2) fun p16 n16 c16 => In x4 (n0 : Int) ∧ LS σ b14 ((o14 + Int.toNat x4 * 2) + 1) fun p22 n22 c22 => Spec prog 15 #[.slice p16 n16 c16] σ (Cont R (CS fun p17 n17 c17 y => Kp [b14] σ y ∧ Spec prog 16 #[.slice p22 n22 c22] y (Cont R (CS fun p23 n23 c23 y_2 => Al y_2 fun b25 => Eff prog (Builtin.append_ #[23, 23] 23 #[.slice p3 n3 c3, (.slice (aD b25 0) 1 1)]) (Hp.set y_2 b25 (.cells #[.slice p17 n17 c17, .slice p23 n23 c23] 36 (0, 0))) (CS fun p26 n26 c26 y_3 => I64 (x4 + 1) ∧ pt11 R (aD b14 o14) n0 c0 p26 n26 c26 (x4 + 1) y_3)))))) (R (.returned (.slice p3 n3 c3)) σ)) : pt11 R p0 n0 c0 p3 n3 c3 x4 σ := M.of h ok rfl
end law0_CopySeries
namespace law0_CopyTexts
variable {p0 : Option Addr} {n0 c0 : Nat}
def M : Fw := ⟨prog, 14, f14, [], [], false, [], [], []⟩
theorem ok : M.Ok := ⟨Ents.nil, mixed, func14, by kernel_rfl⟩
theorem start (h : Al σ fun b3 => Eff prog (Builtin.append_ #[50, 50] 50 #[(.slice (aD b3 0) 0 0), .slice p0 n0 c0]) (Hp.set σ b3 (.cells #[] 9 (0, 0))) (CS fun p5 n5 c5 y => R (.returned (.slice p5 n5 c5)) y)) : Spec prog 14 #[.slice p0 n0 c0] σ R := M.start h ok
end law0_CopyTexts
namespace types_walk_node
variable {q0 p1d p1h : Option Addr} {x1a x1b x1e x1f x1g x1j : Int} {s1c : ByteArray} {n1d c1d n1h c1h : Nat} {t1i : Bool}
def M : Fw := ⟨prog, 21, f21, [31, 32, 33], [3], false, [(6, 9, true)], [], []⟩
theorem ok : M.Ok := ⟨.cons call31 (.cons call32 (.cons call33 (Ents.nil))), mixed, func21, by kernel_rfl⟩
theorem start (h : ∀ b3 : Nat, Spec prog 31 #[.agg #[.int .i64 x1a, .int .i64 x1b, .string s1c, .slice p1d n1d c1d, .int .i64 x1e, .int .i64 x1f, .int .i64 x1g, .slice p1h n1h c1h, .bool t1i, .int .i64 x1j]] σ (Cont R (CB fun t10 y => Bn t10 (R (.returned (.int .i64 190)) y) (Pq q0 fun b16 o16 => LS y b16 o16 fun p18 n18 c18 => Br ((n18 : Int) < x1j) (R (.returned (.int .i64 190)) y) (Spec prog 32 #[.slice p1d n1d c1d] y (Cont R (CI .i64 fun x24 y_2 => Br (x24 ≠ 0) (R (.returned (.int .i64 193)) y_2) (Eff prog (Instr.makeMap 96 none) y_2 (fun z y_3 => ∃ m26, z = (.map (some m26)) ∧ Spec prog 33 #[.int .i64 1] y_3 (Cont R (fun z y_4 => ∃ f27 a27 c27, (Value.func f27 a27 c27) = z ∧ Eff prog (Instr.mapUpdate 96 (.map (some m26)) (.int .i64 1) (Value.func f27 a27 c27)) y_4 (fun _ y_5 => Spec prog 33 #[.int .i64 2] y_5 (Cont R (fun z y_6 => ∃ f28 a28 c28, (Value.func f28 a28 c28) = z ∧ Eff prog (Instr.mapUpdate 96 (.map (some m26)) (.int .i64 2) (Value.func f28 a28 c28)) y_6 (fun _ y_7 => Spec prog 33 #[.int .i64 3] y_7 (Cont R (fun z y_8 => ∃ f29 a29 c29, (Value.func f29 a29 c29) = z ∧ Eff prog (Instr.mapUpdate 96 (.map (some m26)) (.int .i64 3) (Value.func f29 a29 c29)) y_8 (fun _ y_9 => Eff prog (Instr.mapUpdate 96 (.map (some m26)) (.int .i64 4) (.func (.func 34) #[(.pointer (aD b16 o16))] #[])) y_9 (fun _ y_10 => Eff prog (Instr.mapUpdate 96 (.map (some m26)) (.int .i64 5) (.func (.func 35) #[(.pointer (aD b16 o16))] #[])) y_10 (fun _ y_11 => Eff prog (Instr.mapUpdate 96 (.map (some m26)) (.int .i64 6) (.func (.func 36) #[(.pointer (aD b16 o16))] #[])) y_11 (fun _ y_12 => Eff prog (Instr.mapUpdate 96 (.map (some m26)) (.int .i64 7) (.func (.func 37) #[(.pointer (aD b16 o16))] #[])) y_12 (fun _ y_13 => LS y_13 b16 o16 fun p42 n42 c42 => I64 ((n42 : Int) - x1j) ∧ LS y_13 b16 o16 fun p56 n56 c56 => ((0 : Int) ≤ ((n42 : Int) - x1j) ∧ ((n42 : Int) - x1j) ≤ (n56 : Int)) ∧ Eff prog (Instr.lookup 96 (.map (some m26)) (.int .i64 x1a) false) y_13 (fun z y_14 => ∃ v51, v51 = z ∧ Kp [b16] y_13 y_14 ∧ ∃ (f59 : Nat) (fst59 cap59 : Array Value), v51 = .func (.func f59) fst59 cap59 ∧ Enters prog f59 ∧ Spec prog f59 (fst59 ++ #[.agg #[.int .i64 x1a, .int .i64 x1b, .string s1c, .slice p1d n1d c1d, .int .i64 x1e, .int .i64 x1f, .int .i64 x1g, .slice p1h n1h c1h, .bool t1i, .int .i64 x1j], (.slice (slP p56 (Int.toNat ((n42 : Int) - x1j)) c56 1) (n56 - Int.toNat ((n42 : Int) - x1j)) (c56 - Int.toNat ((n42 : Int) - x1j)))] ++ cap59) y_14 (Cont R (fun z y_15 => ∃ x59a x59b, z = (.tuple #[.int .i64 x59a, .int .i64 x59b]) ∧ LS y_15 b16 o16 fun p66 n66 c66 => ((0 : Int) ≤ ((n42 : Int) - x1j) ∧ ((n42 : Int) - x1j) ≤ (c66 : Int)) ∧ Al y_15 fun b71 => Eff prog (Builtin.append_ #[68, 68] 68 #[(.slice p66 (Int.toNat ((n42 : Int) - x1j)) c66), (.slice (aD b71 0) 1 1)]) (Hp.set y_15 b71 (.cells #[.int .i64 x59a] 73 (0, 0))) (CS fun p72 n72 c72 y_16 => Eff prog (Instr.storeAt 68 (.pointer (aD b16 o16)) (.slice p72 n72 c72)) y_16 (fun _ y_17 => R (.returned (.int .i64 x59b)) y_17))))))))))))))))))))))))))) : Spec prog 21 #[.pointer q0, .agg #[.int .i64 x1a, .int .i64 x1b, .string s1c, .slice p1d n1d c1d, .int .i64 x1e, .int .i64 x1f, .int .i64 x1g, .slice p1h n1h c1h, .bool t1i, .int .i64 x1j]] σ R := M.start h ok
end types_walk_node
namespace eval_asker_run
variable {q0 p1 p4c p4d p6 p7 p14 : Option Addr} {n1 c1 n4c c4c n4d c4d n6 c6 n7 c7 n14 c14 : Nat} {x4a x4b x15 x16 : Int}
def M : Fw := ⟨prog, 25, f25, [44], [4, 9], false, [], [], [(488, [(0, wQ), (4, .X 79 [.I .i64, .I .u64, .L, .L]), (6, wL), (7, wL), (14, wL), (15, wI), (16, wI)])]⟩
theorem ok : M.Ok := ⟨.cons call44 (Ents.nil), mixed, func25, by kernel_rfl⟩
def pt12 := M.pt 0
theorem start (h : ∀ b4 : Nat, Spec prog 44 #[] σ (Cont R (CS fun p13 n13 c13 y => pt12 R q0 0 0 none 0 0 none 0 0 p13 n13 c13 none 0 0 p1 n1 c1 (n1 : Int) 0 y))) : Spec prog 25 #[.pointer q0, .slice p1 n1 c1] σ R := M.start h ok
theorem pt12_of (h : Br (x16 < x15) (Pq p14 fun b18 o18 => In x16 (n14 : Int) ∧ ∃ x19a x19b s19c p19d n19d c19d x19e x19f x19g p19h n19h c19h t19i x19j, LdL σ b18 (o18 + Int.toNat x16 * 10) [.int .i64 x19a, .int .i64 x19b, .string s19c, .slice p19d n19d c19d, .int .i64 x19e, .int .i64 x19f, .int .i64 x19g, .slice p19h n19h c19h, .bool t19i, .int .i64 x19j] ∧ ∀ b9 : Nat, I64 ((n7 : Int) - x19j) ∧ Pq p6 fun b29 o29 => In x19a (n6 : Int) ∧ ∃ v30, Hp.ld σ ⟨b29, (o29 + Int.toNat x19a * 1), none⟩ = some v30 ∧ ((0 : Int) ≤ ((n7 : Int) - x19j) ∧ ((n7 : Int) - x19j) ≤ (n7 : Int)) ∧ (Al σ fun b33 => (Eff prog (Builtin.append_ #[105, 105] 105 #[(.slice (aD b33 0) 0 0), (.slice (slP p7 (Int.toNat ((n7 : Int) - x19j)) c7 4) (n7 - Int.toNat ((n7 : Int) - x19j)) (c7 - Int.toNat ((n7 : Int) - x19j)))]) (Hp.set σ b33 (.cells #[] 79 (0, 0))) (CS fun p37 n37 c37 y => Kp [b29] (Hp.set σ b33 (.cells #[] 79 (0, 0))) y ∧ (∃ (f38 : Nat) (fst38 cap38 : Array Value), v30 = .func (.func f38) fst38 cap38 ∧ Enters prog f38 ∧ Spec prog f38 (fst38 ++ #[.pointer q0, .agg #[.int .i64 x19a, .int .i64 x19b, .string s19c, .slice p19d n19d c19d, .int .i64 x19e, .int .i64 x19f, .int .i64 x19g, .slice p19h n19h c19h, .bool t19i, .int .i64 x19j], .slice p37 n37 c37] ++ cap38) y (Cont R (fun z y_2 => ∃ x38aa x38ab p38ac n38ac c38ac p38ad n38ad c38ad x38b, z = (.tuple #[.agg #[.int .i64 x38aa, .int .u64 x38ab, .slice p38ac n38ac c38ac, .slice p38ad n38ad c38ad], .int .i64 x38b]) ∧ Al y_2 fun b11 => Eff prog (Instr.storeAt 79 (.pointer (aD b11 0)) (.agg #[.int .i64 x38aa, .int .u64 x38ab, .slice p38ac n38ac c38ac, .slice p38ad n38ad c38ad])) (Hp.set y_2 b11 (.cells #[.int .i64 0, .int .u64 0, .slice none 0 0, .slice none 0 0] 79 (0, 0))) (fun _ y_3 => Br (x38b ≠ 0) (R (.returned (.tuple #[.agg #[.int .i64 0, .int .u64 0, .slice none 0 0, .slice none 0 0], .int .i64 x38b])) y_3) (((0 : Int) ≤ ((n7 : Int) - x19j) ∧ ((n7 : Int) - x19j) ≤ (c7 : Int)) ∧ ∃ x48a x48b p48c n48c c48c p48d n48d c48d, LdL y_3 b11 0 [.int .i64 x48a, .int .u64 x48b, .slice p48c n48c c48c, .slice p48d n48d c48d] ∧ Al y_3 fun b49 => Eff prog (Builtin.append_ #[105, 105] 105 #[(.slice p7 (Int.toNat ((n7 : Int) - x19j)) c7), (.slice (aD b49 0) 1 1)]) (Hp.set y_3 b49 (.cells #[.int .i64 x48a, .int .u64 x48b, .slice p48c n48c c48c, .slice p48d n48d c48d] 79 (0, 0))) (CS fun p50 n50 c50 y_4 => I64 (x16 + 1) ∧ pt12 R q0 x4a x4b p4c n4c c4c p4d n4d c4d (aD b29 o29) n6 c6 p50 n50 c50 (aD b18 o18) n14 c14 x15 (x16 + 1) y_4)))))) ∧ (Al y fun b11 => ∃ (f38 : Nat) (fst38 cap38 : Array Value), v30 = .func (.func f38) fst38 cap38 ∧ Enters prog f38 ∧ Spec prog f38 (fst38 ++ #[.pointer q0, .agg #[.int .i64 x19a, .int .i64 x19b, .string s19c, .slice p19d n19d c19d, .int .i64 x19e, .int .i64 x19f, .int .i64 x19g, .slice p19h n19h c19h, .bool t19i, .int .i64 x19j], .slice p37 n37 c37] ++ cap38) (Hp.set y b11 (.cells #[.int .i64 0, .int .u64 0, .slice none 0 0, .slice none 0 0] 79 (0, 0))) (Cont R (fun z y_2 => ∃ x38aa x38ab p38ac n38ac c38ac p38ad n38ad c38ad x38b, z = (.tuple #[.agg #[.int .i64 x38aa, .int .u64 x38ab, .slice p38ac n38ac c38ac, .slice p38ad n38ad c38ad], .int .i64 x38b]) ∧ Eff prog (Instr.storeAt 79 (.pointer (aD b11 0)) (.agg #[.int .i64 x38aa, .int .u64 x38ab, .slice p38ac n38ac c38ac, .slice p38ad n38ad c38ad])) y_2 (fun _ y_3 => Br (x38b ≠ 0) (R (.returned (.tuple #[.agg #[.int .i64 0, .int .u64 0, .slice none 0 0, .slice none 0 0], .int .i64 x38b])) y_3) (((0 : Int) ≤ ((n7 : Int) - x19j) ∧ ((n7 : Int) - x19j) ≤ (c7 : Int)) ∧ ∃ x48a x48b p48c n48c c48c p48d n48d c48d, LdL y_3 b11 0 [.int .i64 x48a, .int .u64 x48b, .slice p48c n48c c48c, .slice p48d n48d c48d] ∧ Al y_3 fun b49 => Eff prog (Builtin.append_ #[105, 105] 105 #[(.slice p7 (Int.toNat ((n7 : Int) - x19j)) c7), (.slice (aD b49 0) 1 1)]) (Hp.set y_3 b49 (.cells #[.int .i64 x48a, .int .u64 x48b, .slice p48c n48c c48c, .slice p48d n48d c48d] 79 (0, 0))) (CS fun p50 n50 c50 y_4 => I64 (x16 + 1) ∧ pt12 R q0 x4a x4b p4c n4c c4c p4d n4d c4d (aD b29 o29) n6 c6 p50 n50 c50 (aD b18 o18) n14 c14 x15 (x16 + 1) y_4)))))))) ∧ (Al (Hp.set σ b33 (.cells #[] 79 (0, 0))) fun b11 => Eff prog (Builtin.append_ #[105, 105] 105 #[(.slice (aD b33 0) 0 0), (.slice (slP p7 (Int.toNat ((n7 : Int) - x19j)) c7 4) (n7 - Int.toNat ((n7 : Int) - x19j)) (c7 - Int.toNat ((n7 : Int) - x19j)))]) (Hp.set (Hp.set σ b33 (.cells #[] 79 (0, 0))) b11 (.cells #[.int .i64 0, .int .u64 0, .slice none 0 0, .slice none 0 0] 79 (0, 0))) (CS fun p37 n37 c37 y => Kp [b29] (Hp.set (Hp.set σ b33 (.cells #[] 79 (0, 0))) b11 (.cells #[.int .i64 0, .int .u64 0, .slice none 0 0, .slice none 0 0] 79 (0, 0))) y ∧ ∃ (f38 : Nat) (fst38 cap38 : Array Value), v30 = .func (.func f38) fst38 cap38 ∧ Enters prog f38 ∧ Spec prog f38 (fst38 ++ #[.pointer q0, .agg #[.int .i64 x19a, .int .i64 x19b, .string s19c, .slice p19d n19d c19d, .int .i64 x19e, .int .i64 x19f, .int .i64 x19g, .slice p19h n19h c19h, .bool t19i, .int .i64 x19j], .slice p37 n37 c37] ++ cap38) y (Cont R (fun z y_2 => ∃ x38aa x38ab p38ac n38ac c38ac p38ad n38ad c38ad x38b, z = (.tuple #[.agg #[.int .i64 x38aa, .int .u64 x38ab, .slice p38ac n38ac c38ac, .slice p38ad n38ad c38ad], .int .i64 x38b]) ∧ Eff prog (Instr.storeAt 79 (.pointer (aD b11 0)) (.agg #[.int .i64 x38aa, .int .u64 x38ab, .slice p38ac n38ac c38ac, .slice p38ad n38ad c38ad])) y_2 (fun _ y_3 => Br (x38b ≠ 0) (R (.returned (.tuple #[.agg #[.int .i64 0, .int .u64 0, .slice none 0 0, .slice none 0 0], .int .i64 x38b])) y_3) (((0 : Int) ≤ ((n7 : Int) - x19j) ∧ ((n7 : Int) - x19j) ≤ (c7 : Int)) ∧ ∃ x48a x48b p48c n48c c48c p48d n48d c48d, LdL y_3 b11 0 [.int .i64 x48a, .int .u64 x48b, .slice p48c n48c c48c, .slice p48d n48d c48d] ∧ Al y_3 fun b49 => Eff prog (Builtin.append_ #[105, 105] 105 #[(.slice p7 (Int.toNat ((n7 : Int) - x19j)) c7), (.slice (aD b49 0) 1 1)]) (Hp.set y_3 b49 (.cells #[.int .i64 x48a, .int .u64 x48b, .slice p48c n48c c48c, .slice p48d n48d c48d] 79 (0, 0))) (CS fun p50 n50 c50 y_4 => I64 (x16 + 1) ∧ pt12 R q0 x4a x4b p4c n4c c4c p4d n4d c4d (aD b29 o29) n6 c6 p50 n50 c50 (aD b18 o18) n14 c14 x15 (x16 + 1) y_4)))))))) ∧ (Al σ fun b11 => Al (Hp.set σ b11 (.cells #[.int .i64 0, .int .u64 0, .slice none 0 0, .slice none 0 0] 79 (0, 0))) fun b33 => Eff prog (Builtin.append_ #[105, 105] 105 #[(.slice (aD b33 0) 0 0), (.slice (slP p7 (Int.toNat ((n7 : Int) - x19j)) c7 4) (n7 - Int.toNat ((n7 : Int) - x19j)) (c7 - Int.toNat ((n7 : Int) - x19j)))]) (Hp.set (Hp.set σ b11 (.cells #[.int .i64 0, .int .u64 0, .slice none 0 0, .slice none 0 0] 79 (0, 0))) b33 (.cells #[] 79 (0, 0))) (CS fun p37 n37 c37 y => Kp [b29] (Hp.set (Hp.set σ b11 (.cells #[.int .i64 0, .int .u64 0, .slice none 0 0, .slice none 0 0] 79 (0, 0))) b33 (.cells #[] 79 (0, 0))) y ∧ ∃ (f38 : Nat) (fst38 cap38 : Array Value), v30 = .func (.func f38) fst38 cap38 ∧ Enters prog f38 ∧ Spec prog f38 (fst38 ++ #[.pointer q0, .agg #[.int .i64 x19a, .int .i64 x19b, .string s19c, .slice p19d n19d c19d, .int .i64 x19e, .int .i64 x19f, .int .i64 x19g, .slice p19h n19h c19h, .bool t19i, .int .i64 x19j], .slice p37 n37 c37] ++ cap38) y (Cont R (fun z y_2 => ∃ x38aa x38ab p38ac n38ac c38ac p38ad n38ad c38ad x38b, z = (.tuple #[.agg #[.int .i64 x38aa, .int .u64 x38ab, .slice p38ac n38ac c38ac, .slice p38ad n38ad c38ad], .int .i64 x38b]) ∧ Eff prog (Instr.storeAt 79 (.pointer (aD b11 0)) (.agg #[.int .i64 x38aa, .int .u64 x38ab, .slice p38ac n38ac c38ac, .slice p38ad n38ad c38ad])) y_2 (fun _ y_3 => Br (x38b ≠ 0) (R (.returned (.tuple #[.agg #[.int .i64 0, .int .u64 0, .slice none 0 0, .slice none 0 0], .int .i64 x38b])) y_3) (((0 : Int) ≤ ((n7 : Int) - x19j) ∧ ((n7 : Int) - x19j) ≤ (c7 : Int)) ∧ ∃ x48a x48b p48c n48c c48c p48d n48d c48d, LdL y_3 b11 0 [.int .i64 x48a, .int .u64 x48b, .slice p48c n48c c48c, .slice p48d n48d c48d] ∧ Al y_3 fun b49 => Eff prog (Builtin.append_ #[105, 105] 105 #[(.slice p7 (Int.toNat ((n7 : Int) - x19j)) c7), (.slice (aD b49 0) 1 1)]) (Hp.set y_3 b49 (.cells #[.int .i64 x48a, .int .u64 x48b, .slice p48c n48c c48c, .slice p48d n48d c48d] 79 (0, 0))) (CS fun p50 n50 c50 y_4 => I64 (x16 + 1) ∧ pt12 R q0 x4a x4b p4c n4c c4c p4d n4d c4d (aD b29 o29) n6 c6 p50 n50 c50 (aD b18 o18) n14 c14 x15 (x16 + 1) y_4)))))))) (Pq p7 fun b53 o53 => In 0 (n7 : Int) ∧ ∃ x54a x54b p54c n54c c54c p54d n54d c54d, LdL σ b53 o53 [.int .i64 x54a, .int .u64 x54b, .slice p54c n54c c54c, .slice p54d n54d c54d] ∧ R (.returned (.tuple #[.agg #[.int .i64 x54a, .int .u64 x54b, .slice p54c n54c c54c, .slice p54d n54d c54d], .int .i64 0])) σ)) : pt12 R q0 x4a x4b p4c n4c c4c p4d n4d c4d p6 n6 c6 p7 n7 c7 p14 n14 c14 x15 x16 σ := M.of1 h ok rfl fun _ => by kernel_rfl
end eval_asker_run
namespace types_walk_neg
variable {q0 p1d p1h p2 : Option Addr} {x1a x1b x1e x1f x1g x1j : Int} {s1c : ByteArray} {n1d c1d n1h c1h n2 c2 : Nat} {t1i : Bool}
def M : Fw := ⟨prog, 37, f37, [], [4], false, [], [], []⟩
theorem ok : M.Ok := ⟨Ents.nil, mixed, func37, by kernel_rfl⟩
theorem start (h : ∀ b4 : Nat, Pq p2 fun b9 o9 => In 0 (n2 : Int) ∧ LI .i64 σ b9 o9 fun x11 => Br (x11 = 3) (R (.returned (.tuple #[.int .i64 0, .int .i64 191])) σ) (In 0 (n2 : Int) ∧ LI .i64 σ b9 o9 fun x16 => R (.returned (.tuple #[.int .i64 x16, .int .i64 0])) σ)) : Spec prog 37 #[.pointer q0, .agg #[.int .i64 x1a, .int .i64 x1b, .string s1c, .slice p1d n1d c1d, .int .i64 x1e, .int .i64 x1f, .int .i64 x1g, .slice p1h n1h c1h, .bool t1i, .int .i64 x1j], .slice p2 n2 c2] σ R := M.start h ok
end types_walk_neg
namespace label_name
variable {s0 : ByteArray} {x3 : Int}
def M : Fw := ⟨prog, 38, f38, [], [], false, [], [], [(464, [(0, wT), (3, wI)])]⟩
theorem ok : M.Ok := ⟨Ents.nil, mixed, func38, by kernel_rfl⟩
def pt17 := M.pt 0
theorem start (h : Bo ((ByteArray.toList s0 == ByteArray.toList (ByteArray.mk #[]))) (R (.returned (.bool false)) σ) (Br ((64 : Int) < ((ByteArray.size s0 : Nat) : Int)) (R (.returned (.bool false)) σ) (∃ u14 : UInt8, (0 : Int) ≤ 0 ∧ (ByteArray.data s0)[Int.toNat 0]? = some u14 ∧ Br ((48 : Int) ≤ ((UInt8.toNat u14 : Nat) : Int)) (∃ u18 : UInt8, (0 : Int) ≤ 0 ∧ (ByteArray.data s0)[Int.toNat 0]? = some u18 ∧ Br ((((UInt8.toNat u18 : Nat) : Int) : Int) ≤ 57) (R (.returned (.bool false)) σ) (pt17 R s0 0 σ)) (pt17 R s0 0 σ)))) : Spec prog 38 #[.string s0] σ R := M.start h ok
theorem pt17_of (h : Br (x3 < ((ByteArray.size s0 : Nat) : Int)) (∃ u30 : UInt8, 0 ≤ x3 ∧ (ByteArray.data s0)[Int.toNat x3]? = some u30 ∧ Br ((((UInt8.toNat u30 : Nat) : Int) : Int) ≠ 95) (Br ((((UInt8.toNat u30 : Nat) : Int) : Int) < 48) (Br ((((UInt8.toNat u30 : Nat) : Int) : Int) < 65) (Br ((((UInt8.toNat u30 : Nat) : Int) : Int) < 97) (R (.returned (.bool false)) σ) (Br ((122 : Int) < ((UInt8.toNat u30 : Nat) : Int)) (R (.returned (.bool false)) σ) (I64 (x3 + 1) ∧ pt17 R s0 (x3 + 1) σ))) (Br ((90 : Int) < ((UInt8.toNat u30 : Nat) : Int)) (Br ((((UInt8.toNat u30 : Nat) : Int) : Int) < 97) (R (.returned (.bool false)) σ) (Br ((122 : Int) < ((UInt8.toNat u30 : Nat) : Int)) (R (.returned (.bool false)) σ) (I64 (x3 + 1) ∧ pt17 R s0 (x3 + 1) σ))) (I64 (x3 + 1) ∧ pt17 R s0 (x3 + 1) σ))) (Br ((57 : Int) < ((UInt8.toNat u30 : Nat) : Int)) (Br ((((UInt8.toNat u30 : Nat) : Int) : Int) < 65) (Br ((((UInt8.toNat u30 : Nat) : Int) : Int) < 97) (R (.returned (.bool false)) σ) (Br ((122 : Int) < ((UInt8.toNat u30 : Nat) : Int)) (R (.returned (.bool false)) σ) (I64 (x3 + 1) ∧ pt17 R s0 (x3 + 1) σ))) (Br ((90 : Int) < ((UInt8.toNat u30 : Nat) : Int)) (Br ((((UInt8.toNat u30 : Nat) : Int) : Int) < 97) (R (.returned (.bool false)) σ) (Br ((122 : Int) < ((UInt8.toNat u30 : Nat) : Int)) (R (.returned (.bool false)) σ) (I64 (x3 + 1) ∧ pt17 R s0 (x3 + 1) σ))) (I64 (x3 + 1) ∧ pt17 R s0 (x3 + 1) σ))) (I64 (x3 + 1) ∧ pt17 R s0 (x3 + 1) σ))) (I64 (x3 + 1) ∧ pt17 R s0 (x3 + 1) σ)) (R (.returned (.bool true)) σ)) : pt17 R s0 x3 σ := M.of h ok rfl
end label_name
namespace slices_CompareFunc_Label
variable {p0 p1 p11 : Option Addr} {n0 c0 n1 c1 n11 c11 : Nat} {v2 : Value} {x12 x13 : Int}
def M : Fw := ⟨prog, 40, f40, [], [8, 9], false, [], [], [(104, [(0, wL), (1, wL), (2, wV), (11, wL), (12, wI), (13, wI)])]⟩
theorem ok : M.Ok := ⟨Ents.nil, mixed, func40, by kernel_rfl⟩
def pt8 := M.pt 0
theorem start (h : pt8 R p0 n0 c0 p1 n1 c1 v2 p0 n0 c0 (n0 : Int) 0 σ) : Spec prog 40 #[.slice p0 n0 c0, .slice p1 n1 c1, v2] σ R := M.startD h ok [(0, .o (.L p0 n0 c0)), (1, .o (.L p1 n1 c1)), (2, .o (.V v2))] rfl rfl (by kernel_rfl)
theorem pt8_of (h : Br (x13 < x12) (Pq p11 fun b16 o16 => In x13 (n11 : Int) ∧ ∃ s17a s17b, LdL σ b16 (o16 + Int.toNat x13 * 2) [.string s17a, .string s17b] ∧ ∀ b8 : Nat, Br ((n1 : Int) ≤ x13) (R (.returned (.int .i64 1)) σ) (Pq p1 fun b24 o24 => In x13 (n1 : Int) ∧ ∃ s25a s25b, LdL σ b24 (o24 + Int.toNat x13 * 2) [.string s25a, .string s25b] ∧ ∀ b9 : Nat, ∃ (f29 : Nat) (fst29 cap29 : Array Value), v2 = .func (.func f29) fst29 cap29 ∧ Enters prog f29 ∧ Spec prog f29 (fst29 ++ #[.agg #[.string s17a, .string s17b], .agg #[.string s25a, .string s25b]] ++ cap29) σ (Cont R (CI .i64 fun x29 y => Br (x29 ≠ 0) (R (.returned (.int .i64 x29)) y) (I64 (x13 + 1) ∧ pt8 R p0 n0 c0 (aD b24 o24) n1 c1 v2 (aD b16 o16) n11 c11 x12 (x13 + 1) y))))) (Br ((n0 : Int) < (n1 : Int)) (R (.returned (.int .i64 (-1))) σ) (R (.returned (.int .i64 0)) σ))) : pt8 R p0 n0 c0 p1 n1 c1 v2 p11 n11 c11 x12 x13 σ := M.of h ok rfl
end slices_CompareFunc_Label
namespace cmp_Or_int
variable {p0 p6 : Option Addr} {n0 c0 n6 c6 : Nat} {x3 x7 x8 : Int}
def M : Fw := ⟨prog, 42, f42, [], [], false, [], [], [(232, [(3, wI), (6, wL), (7, wI), (8, wI)])]⟩
theorem ok : M.Ok := ⟨Ents.nil, mixed, func42, by kernel_rfl⟩
def pt10 := M.pt 0
theorem start (h : pt10 R 0 p0 n0 c0 (n0 : Int) 0 σ) : Spec prog 42 #[.slice p0 n0 c0] σ R := M.start h ok
theorem pt10_of (h : Br (x8 < x7) (Pq p6 fun b10 o10 => In x8 (n6 : Int) ∧ LI .i64 σ b10 (o10 + Int.toNat x8 * 1) fun x11 => Br (x11 ≠ x3) (R (.returned (.int .i64 x11)) σ) (I64 (x8 + 1) ∧ pt10 R x3 (aD b10 o10) n6 c6 x7 (x8 + 1) σ)) (R (.returned (.int .i64 x3)) σ)) : pt10 R x3 p6 n6 c6 x7 x8 σ := M.of h ok rfl
end cmp_Or_int
namespace types_leaf_1
variable {x0a x0b x0e x0f x0g x0j : Int} {s0c : ByteArray} {p0d p0h p1 : Option Addr} {n0d c0d n0h c0h n1 c1 b2 : Nat} {t0i : Bool}
def M : Fw := ⟨prog, 57, f57, [], [3], false, [], [], []⟩
theorem ok : M.Ok := ⟨Ents.nil, mixed, func57, by kernel_rfl⟩
theorem start (h : ∀ b3 : Nat, LI .i64 σ b2 0 fun x7 => R (.returned (.tuple #[.int .i64 x7, .int .i64 0])) σ) : Spec prog 57 #[.agg #[.int .i64 x0a, .int .i64 x0b, .string s0c, .slice p0d n0d c0d, .int .i64 x0e, .int .i64 x0f, .int .i64 x0g, .slice p0h n0h c0h, .bool t0i, .int .i64 x0j], .slice p1 n1 c1, (.pointer (aD b2 0))] σ R := M.start h ok
end types_leaf_1
namespace codec_PutUint
variable {p0 p5 : Option Addr} {n0 c0 n5 c5 : Nat} {x1 : Int}
def M : Fw := ⟨prog, 67, f67, [], [], false, [], [], [(224, [(1, wU), (5, wL)])]⟩
theorem ok : M.Ok := ⟨Ents.nil, mixed, func67, by kernel_rfl⟩
def pt9 := M.pt 0
theorem start (h : Al σ fun b6 => Eff prog (Builtin.append_ #[107, 107] 107 #[(.slice (aD b6 0) 0 0), .slice p0 n0 c0]) (Hp.set σ b6 (.cells #[] 5 (0, 0))) (CS fun p8 n8 c8 y => pt9 R x1 p8 n8 c8 y)) : Spec prog 67 #[.slice p0 n0 c0, .int .u64 x1] σ R := M.start h ok
theorem pt9_of (h : Br (127 < x1) (Df (IntKind.u8.wrap x1) fun x15 => Df (Go.bits .or .u8 x15 128) fun x16 => Al σ fun b17 => Eff prog (Builtin.append_ #[107, 107] 107 #[.slice p5 n5 c5, (.slice (aD b17 0) 1 1)]) (Hp.set σ b17 (.cells #[.int .u8 x16] 5 (0, 0))) (CS fun p18 n18 c18 y => ((0 : Int) ≤ 7 ∧ 7 ≤ ((IntKind.bits .u64 : Nat) : Int)) ∧ Df (x1 / 2 ^ Int.toNat 7) fun x12 => pt9 R x12 p18 n18 c18 y)) (Df (IntKind.u8.wrap x1) fun x21 => Al σ fun b22 => Eff prog (Builtin.append_ #[107, 107] 107 #[.slice p5 n5 c5, (.slice (aD b22 0) 1 1)]) (Hp.set σ b22 (.cells #[.int .u8 x21] 5 (0, 0))) (CS fun p23 n23 c23 y => R (.returned (.slice p23 n23 c23)) y))) : pt9 R x1 p5 n5 c5 σ := M.of h ok rfl
end codec_PutUint
namespace eval_vector
variable {p0 p2c p2d : Option Addr} {n0 c0 n2c c2c n2d c2d : Nat} {x2a x2b x4 : Int}
def M : Fw := ⟨prog, 90, f90, [24, 134], [2], false, [], [], [(464, [(0, wL), (2, .X 79 [.I .i64, .I .u64, .L, .L]), (4, wI)])]⟩
theorem ok : M.Ok := ⟨.cons call24 (.cons call134 (Ents.nil)), mixed, func90, by kernel_rfl⟩
def pt11 := M.pt 0
theorem start (h : ∀ b2 : Nat, Spec prog 134 #[.slice p0 n0 c0, (.func (.func 135) #[] #[])] σ (Cont R (fun z y => z = (.tuple #[]) ∧ pt11 R p0 n0 c0 0 0 none 0 0 none 0 0 1 y))) : Spec prog 90 #[.slice p0 n0 c0] σ R := M.start h ok
theorem pt11_of (h : Br (x4 < (n0 : Int)) (I64 (x4 - 1) ∧ Pq p0 fun b16 o16 => In (x4 - 1) (n0 : Int) ∧ LS σ b16 (o16 + Int.toNat (x4 - 1) * 2) fun p18 n18 c18 => In x4 (n0 : Int) ∧ LS σ b16 (o16 + Int.toNat x4 * 2) fun p23 n23 c23 => Spec prog 24 #[.slice p18 n18 c18, .slice p23 n23 c23] σ (Cont R (CI .i64 fun x24 y => Br (x24 = 0) (R (.returned (.tuple #[.agg #[.int .i64 0, .int .u64 0, .slice none 0 0, .slice none 0 0], .int .i64 223])) y) (I64 (x4 + 1) ∧ pt11 R (aD b16 o16) n0 c0 x2a x2b p2c n2c c2c p2d n2d c2d (x4 + 1) y)))) (R (.returned (.tuple #[.agg #[.int .i64 2, .int .u64 0, .slice p0 n0 c0, .slice none 0 0], .int .i64 0])) σ)) : pt11 R p0 n0 c0 x2a x2b p2c n2c c2c p2d n2d c2d x4 σ := M.of1 h ok rfl fun _ => by kernel_rfl
end eval_vector
namespace eval_functions_1
variable {p0 : Option Addr} {n0 c0 : Nat}
def M : Fw := ⟨prog, 124, f124, [125], [], false, [], [], []⟩
theorem ok : M.Ok := ⟨.cons call125 (Ents.nil), mixed, func124, by kernel_rfl⟩
theorem start (h : I64 ((n0 : Int) - 1) ∧ Pq p0 fun b7 o7 => In (((n0 : Int) - 1)) (n0 : Int) ∧ LI .u64 σ b7 (o7 + Int.toNat ((n0 : Int) - 1) * 1) fun x8 => Spec prog 125 #[.int .u64 x8] σ (Cont R (CI .u64 fun x9 y => R (.returned (.int .u64 x9)) y))) : Spec prog 124 #[.slice p0 n0 c0] σ R := M.start h ok
end eval_functions_1
namespace eval_sub
variable {x0 x1 : Int}
def M : Fw := ⟨prog, 129, f129, [142], [], false, [], [], []⟩
theorem ok : M.Ok := ⟨.cons call142 (Ents.nil), mixed, func129, by kernel_rfl⟩
theorem start (h : Spec prog 142 #[.int .i64 2, .int .u64 x0, .int .u64 x1] σ (Cont R (fun z y => ∃ x10a t10b, z = (.tuple #[.int .u64 x10a, .bool t10b]) ∧ R (.returned (.int .u64 x10a)) y))) : Spec prog 129 #[.int .u64 x0, .int .u64 x1] σ R := M.start h ok
end eval_sub
namespace math_IsNaN
variable {v0 : Value}
def M : Fw := ⟨prog, 151, f151, [], [], false, [], [], []⟩
theorem ok : M.Ok := ⟨Ents.nil, mixed, func151, by kernel_rfl⟩
theorem start (h : ∃ t5, YF prog ((do eqGuard .neq 60 (.tmp 3) (.tmp 4) v0 v0; binOp .neq 60 v0 v0)) σ (.bool t5) ∧ R (.returned (.bool t5)) σ) : Spec prog 151 #[v0] σ R := M.startD h ok [(0, .o (.V v0))] rfl rfl (by kernel_rfl)
end math_IsNaN
namespace match_asker_yes
variable {p0a : Option Addr} {n0a c0a : Nat} {s0b s1 : ByteArray}
def M : Fw := ⟨prog, 154, f154, [171], [2], false, [], [], []⟩
theorem ok : M.Ok := ⟨.cons call171 (Ents.nil), mixed, func154, by kernel_rfl⟩
theorem start (h : ∀ b2 : Nat, Spec prog 171 #[.agg #[.slice p0a n0a c0a], .string s1] σ (Cont R (CB fun t8 y => R (.returned (.bool t8)) y))) : Spec prog 154 #[.agg #[.slice p0a n0a c0a, .string s0b], .string s1] σ R := M.start h ok
end match_asker_yes
namespace strings_Split
variable {s0 s1 : ByteArray}
end strings_Split
namespace eval_nan
variable {x0 : Int}
def M : Fw := ⟨prog, 165, f165, [125], [], false, [], [], []⟩
theorem ok : M.Ok := ⟨.cons call125 (Ents.nil), mixed, func165, by kernel_rfl⟩
theorem start (h : Spec prog 125 #[.int .u64 x0] σ (Cont R (CI .u64 fun x4 y => R (.returned (.bool (decide (x4 = 9221120237041090560)))) y))) : Spec prog 165 #[.int .u64 x0] σ R := M.start h ok
end eval_nan
namespace match_pattern_like
variable {p0a p8 : Option Addr} {n0a c0a n8 c8 : Nat} {s1 : ByteArray} {x9 x10 : Int}
def M : Fw := ⟨prog, 171, f171, [190], [2, 6], false, [], [], [(104, [(1, wT), (8, wL), (9, wI), (10, wI)])]⟩
theorem ok : M.Ok := ⟨.cons call190 (Ents.nil), mixed, func171, by kernel_rfl⟩
def pt8 := M.pt 0
theorem start (h : ∀ b2 : Nat, pt8 R s1 p0a n0a c0a (n0a : Int) 0 σ) : Spec prog 171 #[.agg #[.slice p0a n0a c0a], .string s1] σ R := M.start h ok
theorem pt8_of (h : Br (x10 < x9) (Pq p8 fun b12 o12 => In x10 (n8 : Int) ∧ ∃ p13a n13a c13a, LdL σ b12 (o12 + Int.toNat x10 * 1) [.slice p13a n13a c13a] ∧ ∀ b6 : Nat, Spec prog 190 #[.agg #[.slice p13a n13a c13a], .string s1] σ (Cont R (CB fun t16 y => Bo t16 (R (.returned (.bool true)) y) (I64 (x10 + 1) ∧ pt8 R s1 (aD b12 o12) n8 c8 x9 (x10 + 1) y)))) (R (.returned (.bool false)) σ)) : pt8 R s1 p8 n8 c8 x9 x10 σ := M.of h ok rfl
end match_pattern_like
namespace internal_strconv_special
variable {s0 : ByteArray} {x5 x6 x12 x7 : Int} {t13 t16 t19 : Bool}
def M : Fw := ⟨prog, 200, f200, [223, 224, 225], [], false, [], [], [(128001, [(0, wT), (5, wI), (6, wI), (12, w8), (13, wB)]), (256005, [(0, wT), (5, wI), (6, wI), (12, w8), (16, wB)]), (8004, [(0, wT), (5, wI), (6, wI)]), (256007, [(0, wT), (19, wB)]), (126, []), (32022, [(5, wI), (6, wI), (7, wI)]), (32006, [(0, wT), (5, wI)])]⟩
theorem ok : M.Ok := ⟨.cons call223 (.cons call224 (.cons call225 (Ents.nil))), mixed, func200, by kernel_rfl⟩
def pt32 := M.pt 0
def pt42 := M.pt 1
def pt66 := M.pt 2
def pt51 := M.pt 3
def pt91 := M.pt 4
def pt62 := M.pt 6
theorem start (h : Br ((((ByteArray.size s0 : Nat) : Int) : Int) = 0) (R (.returned (.tuple #[.float .f64 0, .int .i64 0, .bool false])) σ) (∃ u12 : UInt8, (0 : Int) ≤ 0 ∧ (ByteArray.data s0)[Int.toNat 0]? = some u12 ∧ Br ((((UInt8.toNat u12 : Nat) : Int) : Int) = 43) (pt32 R s0 1 0 (((UInt8.toNat u12 : Nat) : Int)) true σ) (pt32 R s0 1 0 (((UInt8.toNat u12 : Nat) : Int)) ((decide ((((UInt8.toNat u12 : Nat) : Int) : Int) = 45))) σ))) : Spec prog 200 #[.string s0] σ R := M.start h ok
theorem pt32_of (h : Bo t13 (∃ u23 : UInt8, (0 : Int) ≤ 0 ∧ (ByteArray.data s0)[Int.toNat 0]? = some u23 ∧ Br ((((UInt8.toNat u23 : Nat) : Int) : Int) = 45) (pt62 R s0 (-1) σ) (pt62 R s0 x5 σ)) (Br (x12 = 105) (pt42 R s0 x5 x6 x12 true σ) (pt42 R s0 x5 x6 x12 ((decide (x12 = 73))) σ))) : pt32 R s0 x5 x6 x12 t13 σ := M.of h ok rfl
theorem pt42_of (h : Bo t16 (pt66 R s0 x5 x6 σ) (Br (x12 = 110) (pt51 R s0 true σ) (pt51 R s0 ((decide (x12 = 78))) σ))) : pt42 R s0 x5 x6 x12 t16 σ := M.of h ok rfl
theorem pt51_of (h : Bo t19 (Spec prog 223 #[.string s0, (.string (ByteArray.mk #[110, 97, 110]))] σ (Cont R (CI .i64 fun x47 y => Br (x47 = 3) (Spec prog 225 #[] y (Cont R (fun z y_2 => ∃ x49, (Value.float .f64 x49) = z ∧ R (.returned (.tuple #[(Value.float .f64 x49), .int .i64 3, .bool true])) y_2))) (pt91 R y)))) (pt91 R σ)) : pt51 R s0 t19 σ := M.of h ok rfl
theorem pt91_of (h : R (.returned (.tuple #[.float .f64 0, .int .i64 0, .bool false])) σ) : pt91 R  σ := M.of h ok rfl
end internal_strconv_special
namespace strings_HasSuffix
variable {s0 s1 : ByteArray}
def M : Fw := ⟨prog, 215, f215, [240], [], false, [], [], []⟩
theorem ok : M.Ok := ⟨.cons call240 (Ents.nil), mixed, func215, by kernel_rfl⟩
theorem start (h : Spec prog 240 #[.string s0, .string s1] σ (Cont R (CB fun t7 y => R (.returned (.bool t7)) y))) : Spec prog 215 #[.string s0, .string s1] σ R := M.start h ok
end strings_HasSuffix
namespace internal_stringslite_HasPrefix
variable {s0 s1 : ByteArray}
def M : Fw := ⟨prog, 239, f239, [], [], false, [], [], []⟩
theorem ok : M.Ok := ⟨Ents.nil, mixed, func239, by kernel_rfl⟩
theorem start (h : Br ((((ByteArray.size s1 : Nat) : Int) : Int) ≤ ((ByteArray.size s0 : Nat) : Int)) (∃ s14, YF prog (Instr.sliceAt 9 (.string s0) none (some (.int .i64 ((ByteArray.size s1 : Nat) : Int))) none) σ (.string s14) ∧ R (.returned (.bool (ByteArray.toList s14 == ByteArray.toList s1))) σ) (R (.returned (.bool false)) σ)) : Spec prog 239 #[.string s0, .string s1] σ R := M.start h ok
end internal_stringslite_HasPrefix
end TwW
end
end
section
namespace Tw
open Go
variable [Cnt]
def sets (τ : Hp) : List (Nat × Obj) → Hp
  | [] => τ
  | (b, o) :: L => (sets τ L).set b o
abbrev names (L : List (Nat × Obj)) : List Nat := L.map Prod.fst
section
variable {τ : Hp} {L : List (Nat × Obj)} {b i : Nat} {o o' : Obj}
theorem sets_not (h : b ∉ names L) : sets τ L b = τ b := by
  induction L with
  | nil => rfl
  | cons p L ih =>
    simp only [names, List.map_cons, List.mem_cons, not_or] at h
    simp only [sets, Hp.set_ne h.1]
    exact ih h.2
theorem sets_get : ∀ {L : List (Nat × Obj)} {i : Nat}, (names L).Nodup → L[i]? = some (b, o) → sets τ L b = some o
  | p :: L, 0, _, h => by simp at h; subst h; exact Hp.set_same _ _ _
  | p :: L, i + 1, hn, h => by
    simp only [List.getElem?_cons_succ] at h
    have hm : b ∈ names L := List.mem_map.2 ⟨_, List.mem_of_getElem? h, rfl⟩
    have hn := List.nodup_cons.1 (show (p.1 :: names L).Nodup from hn)
    have hne : b ≠ p.1 := fun e => hn.1 (e ▸ hm)
    simp only [sets, Hp.set_ne hne]
    exact sets_get hn.2 h
theorem Hp.set_swap {σ : Hp} {a b : Nat} {o u : Obj} (h : a ≠ b) : (σ.set a o).set b u = (σ.set b u).set a o := by
  funext k
  simp only [Hp.set]
  by_cases h1 : k = a
  · subst h1; simp [h]
  · simp [h1]
theorem sets_set : ∀ {L : List (Nat × Obj)} {i : Nat}, (names L).Nodup → L[i]? = some (b, o) → (sets τ L).set b o' = sets τ (L.set i (b, o'))
  | p :: L, 0, _, h => by simp at h; subst h; exact Hp.set_set
  | p :: L, i + 1, hn, h => by
    simp only [List.getElem?_cons_succ] at h
    have hm : b ∈ names L := List.mem_map.2 ⟨_, List.mem_of_getElem? h, rfl⟩
    have hn := List.nodup_cons.1 (show (p.1 :: names L).Nodup from hn)
    have hne : b ≠ p.1 := fun e => hn.1 (e ▸ hm)
    simp only [sets, List.set_cons_succ]
    rw [Hp.set_swap (Ne.symm hne), sets_set hn.2 h]
theorem sets_fresh : ∀ {L : List (Nat × Obj)}, b ∉ names L → (sets τ L).set b o = sets (τ.set b o) L
  | [], _ => rfl
  | p :: L, h => by
    simp only [names, List.map_cons, List.mem_cons, not_or] at h
    simp only [sets]
    rw [Hp.set_swap (Ne.symm h.1), sets_fresh h.2]
theorem sets_some : ∀ {L : List (Nat × Obj)}, b ∈ names L → sets τ L b ≠ none
  | p :: L, h => by
    by_cases hb : b = p.1
    · subst hb; simp only [sets, Hp.set_same]; simp
    · simp only [names, List.map_cons, List.mem_cons] at h
      simp only [sets, Hp.set_ne hb]
      exact sets_some (h.resolve_left hb)
theorem sets_none (h : sets τ L b = none) : b ∉ names L ∧ τ b = none := by
  have hs : ∀ {L : List (Nat × Obj)}, b ∉ names L → sets τ L b = τ b := sets_not
  have hn : b ∉ names L := fun hm => sets_some hm h
  exact ⟨hn, (hs hn).symm.trans h⟩
def Off (L : List (Nat × Obj)) (τ : Hp) : Prop := ∀ b ∈ names L, τ b = none
theorem Off.ext {τ : Hp} : ∀ {L : List (Nat × Obj)}, (names L).Nodup → Off L τ → Ext τ (sets τ L)
  | [], _, _ => .refl τ
  | p :: L, hn, h => by
    have hn := List.nodup_cons.1 (show (p.1 :: names L).Nodup from hn)
    have ih := Off.ext hn.2 (fun b hb => h b (List.mem_cons_of_mem _ hb))
    refine ih.trans (.set ?_)
    rw [sets_not hn.1]
    exact h _ (List.mem_cons_self ..)
theorem Off.set {τ : Hp} {b : Nat} {o : Obj} (h : Off L τ) (hb : b ∉ names L) : Off L (τ.set b o) := fun c hc => by
  have hne : c ≠ b := fun e => hb (e ▸ hc)
  rw [Hp.set_ne hne]; exact h c hc
end
theorem Spec.frameL {P : Program} {f : FuncId} {args : Array Value} {τ : Hp} : ∀ {L : List (Nat × Obj)} {R : Ending → Hp → Prop}, (names L).Nodup → Off L τ →
    Spec P f args τ (fun e τ' => Off L τ' → R e (sets τ' L)) → Spec P f args (sets τ L) R
  | [], R, _, _, h => h.mono fun e τ' hr => hr (fun b hb => by cases hb)
  | p :: L, R, hn, ho, h => by
    have hn := List.nodup_cons.1 (show (p.1 :: names L).Nodup from hn)
    refine Spec.frame1 (by rw [sets_not hn.1]; exact ho _ (List.mem_cons_self ..)) ?_
    refine Spec.frameL hn.2 (fun b hb => ho b (List.mem_cons_of_mem _ hb)) (h.mono fun e τ' hr hoff hnone => hr fun b hb => ?_)
    rcases List.mem_cons.1 (show b ∈ p.1 :: names L from hb) with rfl | hb
    · rw [sets_not hn.1] at hnone; exact hnone
    · exact hoff b hb
theorem Eff.frameL {P : Program} {α : Type} {m : Sem α} {τ : Hp} : ∀ {L : List (Nat × Obj)} {Φ : α → Hp → Prop}, (names L).Nodup → Off L τ →
    Eff P m τ (fun v τ' => Off L τ' → Φ v (sets τ' L)) → Eff P m (sets τ L) Φ
  | [], R, _, _, h => h.mono fun e τ' hr => hr (fun b hb => by cases hb)
  | p :: L, R, hn, ho, h => by
    have hn := List.nodup_cons.1 (show (p.1 :: names L).Nodup from hn)
    refine Eff.frame1 (by rw [sets_not hn.1]; exact ho _ (List.mem_cons_self ..)) ?_
    refine Eff.frameL hn.2 (fun b hb => ho b (List.mem_cons_of_mem _ hb)) (h.mono fun e τ' hr hoff hnone => hr fun b hb => ?_)
    rcases List.mem_cons.1 (show b ∈ p.1 :: names L from hb) with rfl | hb
    · rw [sets_not hn.1] at hnone; exact hnone
    · exact hoff b hb
theorem Eff.storeL {P : Program} {τ : Hp} {L : List (Nat × Obj)} {i b n o : Nat} {T t : TypeId} {c c' : Array Value} {v : Value} {Φ : Unit → Hp → Prop} (hz : ∀ w, (Go.sizeOf T).run P w = .ok n w) (hn : (names L).Nodup) (hi : L[i]? = some (b, .cells c t (0, 0)))
    (hv : v.cells.size = n) (hl : Nat.ble (o + n) c.size = true) (h1 : (v.cells.toList.all fun u => u.oneCell') = true) (hc : wrt c o v.cells.toList = c') (h : Φ () (sets τ (L.set i (b, .cells c' t (0, 0))))) :
    Eff P (Instr.storeAt T (.pointer (some ⟨b, o, none⟩)) v) (sets τ L) Φ := by
  subst hc
  refine Eff.store hz (sets_get hn hi) hv (Nat.le_of_ble_eq_true hl) (fun u hu => List.all_eq_true.1 h1 u hu) ?_
  rw [sets_set hn hi]; exact h
theorem ldL {τ : Hp} {L : List (Nat × Obj)} {i b o : Nat} {t : TypeId} {c : Array Value} {v : Value} (hn : (names L).Nodup) (hi : L[i]? = some (b, .cells c t (0, 0))) (h : c[o]? = some v) : Hp.ld (sets τ L) ⟨b, o, none⟩ = some v := by
  simp [Hp.ld, sets_get hn hi, h]
end Tw
end
section
namespace Tw
open Go Go.MapKept
variable [Cnt]
def blk (p : Option Addr) : List Nat := match p with
  | some a => [a.block]
  | none => []
structure Loc (A : Hp → Prop) (σ : Hp) (S : List Nat) : Prop where
  here : A σ
  known : ∀ b ∈ S, σ b ≠ none
  loc : ∀ σ', (∀ b ∈ S, σ' b = σ b) → A σ'
section
variable {P : Program} {σ : Hp} {α : Type}
theorem Eff.obj {m : Sem α} {b : Nat} {o o' : Obj} {v : α} {Φ : α → Hp → Prop} (hb : σ b = some o) (hm : ∀ w, Sat σ w → ∃ w1 : World, (w1 = w ∨ w1 = w.drew) ∧ m.run P w = .ok v (ChangeMaps.setBlock w1 b o')) (h : Φ v (σ.set b o')) : Eff P m σ Φ := fun w F hs hF => by
  obtain ⟨w1, hw, hrun⟩ := hm w hs
  have hlt : b < w.heap.size := (Array.getElem?_eq_some_iff.1 (hs b o hb)).1
  have hheap : w1.heap = w.heap := by rcases hw with rfl | rfl <;> rfl
  refine ⟨v, _, _, hrun, h, fun k u hk => ?_, fun k hk => ?_, ?_, ?_, ?_⟩
  · simp only [ChangeMaps.setBlock, hheap]
    by_cases hkb : k = b
    · subst hkb; rw [Hp.set_same] at hk; cases hk; simp [hlt]
    · rw [Hp.set_ne hkb] at hk; simp [Ne.symm hkb, hs k u hk]
  · have hkb : k ≠ b := fun e => by have := (hF k hk).2; rw [e, hb] at this; cases this
    refine ⟨by rw [Hp.set_ne hkb]; exact (hF k hk).2, ?_⟩
    simp [ChangeMaps.setBlock, hheap, Ne.symm hkb]
  · rcases hw with rfl | rfl
    · exact .same rfl rfl rfl
    · exact ⟨rfl, rfl, fun _ => ⟨1, rfl⟩⟩
  · rcases hw with rfl | rfl <;> rfl
  · simp [ChangeMaps.setBlock, hheap]
theorem Eff.new {m : Sem α} {o : Obj} {v : Nat → α} {Φ : α → Hp → Prop} (hm : ∀ w, Sat σ w → m.run P w = .ok (v w.heap.size) (w.alloc o)) (h : ∀ b, σ b = none → Φ (v b) (σ.set b o)) : Eff P m σ Φ := fun w F hs hF =>
  ⟨_, _, _, hm w hs, h _ (hp_fresh hs), Fin.alloc hs hF _ rfl (.same rfl rfl rfl) rfl⟩
class MpT (P : Program) (T : TypeId) (K V : outParam TypeId) : Prop where
  und : P.underlying T = some (.map K V)
  key : P.underlying K = some .string
def MapAt (σ : Hp) (b : Nat) (l : List MapEntry) (clock : Nat) : Prop := σ b = some (.map l.toArray clock) ∧ Stamped l.toArray clock ∧ ∀ x ∈ l, IsKey .string x.key
theorem MapAt.mono {σ σ' : Hp} {b : Nat} {l : List MapEntry} {clock : Nat} (h : MapAt σ b l clock) (hx : Ext σ σ') : MapAt σ' b l clock := ⟨hx _ _ h.1, h.2⟩
theorem MapAt.loc {σ σ' : Hp} {b : Nat} {l : List MapEntry} {clock : Nat} (h : MapAt σ b l clock) (hx : σ' b = σ b) : MapAt σ' b l clock := ⟨hx.trans h.1, h.2⟩
theorem MapAt.nodup {σ : Hp} {b : Nat} {l : List MapEntry} {clock : Nat} (h : MapAt σ b l clock) : (l.map (·.key)).Nodup := h.2.1.2.2
theorem find_cases {s : ByteArray} {l : List MapEntry} (hk : ∀ x ∈ l, IsKey .string x.key) :
    (Instr.findNow .string (.string s) l 0 = some none ∧ ∀ x ∈ l, x.key ≠ .string s) ∨ ∃ l1 e l2, l = l1 ++ e :: l2 ∧ e.key = .string s ∧ Instr.findNow .string (.string s) l 0 = some (some (l1.length, e.val)) := by
  rcases findNow_spec (d := .string) (k := .string s) trivial l 0 hk with h | ⟨j, e, h1, h2, h3⟩
  · exact .inl h
  · obtain ⟨hj, rfl⟩ := List.getElem?_eq_some_iff.1 h2
    refine .inr ⟨l.take j, l[j], l.drop (j + 1), ?_, h3, ?_⟩
    · rw [List.getElem_cons_drop, List.take_append_drop]
    · rw [h1]; simp [Nat.min_eq_left (Nat.le_of_lt hj)]
section
variable {T K V ty : TypeId} {b clock : Nat} {l : List MapEntry} {s : ByteArray}
theorem makeMap_eff {Φ : Value → Hp → Prop} (h : ∀ b, σ b = none → Φ (.map (some b)) (σ.set b (.map #[] 0))) : Eff P (Instr.makeMap T none) σ Φ :=
  Eff.new (v := fun b => .map (some b)) (fun w _ => by simp [Instr.makeMap, Result.andThen]) h
theorem MapAt.fresh {b : Nat} {σ : Hp} : MapAt (σ.set b (.map #[] 0)) b [] 0 := ⟨Hp.set_same _ _ _, stamped_empty 0, by simp⟩
theorem lookup_yf [t : MpT P T K V] (hm : MapAt σ b l clock) {z : Value} (hz : ∀ w, (zeroValue V).run P w = .ok z w) {Q : Value → Prop}
    (h0 : (∀ x ∈ l, x.key ≠ .string s) → Q z) (h1 : ∀ l1 e l2, l = l1 ++ e :: l2 → e.key = .string s → Q e.val) : ∃ v, Q v ∧ YF P (Instr.lookup T (.map (some b)) (.string s) false) σ v := by
  rcases find_cases (s := s) hm.2.2 with ⟨hf, hn⟩ | ⟨l1, e, l2, hl, he, hf⟩
  · refine ⟨z, h0 hn, fun w hs => ?_⟩
    have := hs _ _ hm.1
    simp [Instr.lookup, run_underlying t.und, run_getObj_map this, run_checkKey t.key (k := .string s) trivial, run_findKey t.key hf, hz, Result.andThen]
  · refine ⟨e.val, h1 l1 e l2 hl he, fun w hs => ?_⟩
    have := hs _ _ hm.1
    simp [Instr.lookup, run_underlying t.und, run_getObj_map this, run_checkKey t.key (k := .string s) trivial, run_findKey t.key hf, Result.andThen]
theorem lookup_eff [t : MpT P T K V] (hm : MapAt σ b l clock) {z : Value} (hz : ∀ w, (zeroValue V).run P w = .ok z w) {Φ : Value → Hp → Prop}
    (h0 : (∀ x ∈ l, x.key ≠ .string s) → Φ z σ) (h1 : ∀ l1 e l2, l = l1 ++ e :: l2 → e.key = .string s → Φ e.val σ) : Eff P (Instr.lookup T (.map (some b)) (.string s) false) σ Φ := by
  obtain ⟨v, hq, hy⟩ := lookup_yf (T := T) (K := K) (s := s) (Q := fun v => Φ v σ) hm hz h0 h1
  exact Eff.pu hy hq
theorem len_yf [t : MpT P T K V] (hm : MapAt σ b l clock) : YF P (Builtin.len_ #[T] ty #[.map (some b)]) σ (.int .i64 l.length) := fun w hs => by
  have := hs _ _ hm.1
  simp [Builtin.len_, run_underlying t.und, run_getObj_map this, goInt, Result.andThen]
abbrev ent (s : ByteArray) (v : Value) (n : Nat) : MapEntry := { key := .string s, val := v, born := n }
theorem mapUpdate_eff [t : MpT P T K V] (hm : MapAt σ b l clock) {v : Value} {Φ : Unit → Hp → Prop}
    (h0 : (∀ x ∈ l, x.key ≠ .string s) → ∀ σ', σ' = σ.set b (.map (l ++ [ent s v clock]).toArray (clock + 1)) → MapAt σ' b (l ++ [ent s v clock]) (clock + 1) → Φ () σ')
    (h1 : ∀ l1 e l2, l = l1 ++ e :: l2 → e.key = .string s → ∀ σ', σ' = σ.set b (.map (l1 ++ ent s v e.born :: l2).toArray clock) → MapAt σ' b (l1 ++ ent s v e.born :: l2) clock → Φ () σ') :
    Eff P (Instr.mapUpdate T (.map (some b)) (.string s) v) σ Φ := by
  obtain ⟨hb, hst, hk⟩ := hm
  rcases find_cases (s := s) hk with ⟨hf, hn⟩ | ⟨l1, e, l2, hl, he, hf⟩
  · have hpush : (l ++ [ent s v clock]).toArray = l.toArray.push (ent s v clock) := by simp
    refine Eff.obj (v := ()) (o' := .map (l ++ [ent s v clock]).toArray (clock + 1)) hb (fun w hs => ⟨w, .inl rfl, ?_⟩) (h0 hn _ rfl ⟨Hp.set_same _ _ _, ?_, ?_⟩)
    · have := hs _ _ hb
      rw [hpush]
      simp only [Instr.mapUpdate, Sem.run_bind, run_underlying t.und, run_getObj_map this, run_checkKey t.key (k := .string s) trivial, run_findKey t.key hf, Result.andThen_ok]
      simp [setObj, Sem.run, this, ChangeMaps.setBlock]
    · rw [hpush]; exact stamped_push hst (by simpa using hn)
    · intro x hx
      rcases List.mem_append.1 hx with hx | hx
      · exact hk x hx
      · rw [List.mem_singleton] at hx; subst hx; trivial
  · subst hl
    have hmod : (l1 ++ ent s v e.born :: l2).toArray = (l1 ++ e :: l2).toArray.modify l1.length (fun e => { e with key := .string s, val := v }) := by
      rw [← Array.toList_inj]
      apply List.ext_getElem?
      intro j
      simp only [Array.getElem?_toList, Array.getElem?_modify, List.getElem?_toArray]
      by_cases hj : l1.length = j
      · subst hj; simp
      · rw [if_neg hj]
        rcases Nat.lt_or_ge j l1.length with h | h
        · rw [List.getElem?_append_left h, List.getElem?_append_left h]
        · have : ∃ k, j = l1.length + (k + 1) := ⟨j - l1.length - 1, by omega⟩
          obtain ⟨k, rfl⟩ := this
          simp [List.getElem?_append_right]
    have hge : (l1 ++ e :: l2).toArray[l1.length]? = some e := by simp
    refine Eff.obj (v := ()) (o' := .map (l1 ++ ent s v e.born :: l2).toArray clock) hb (fun w hs => ⟨w, .inl rfl, ?_⟩) (h1 l1 e l2 rfl he _ rfl ⟨Hp.set_same _ _ _, ?_, ?_⟩)
    · have := hs _ _ hb
      rw [hmod]
      simp only [Instr.mapUpdate, Sem.run_bind, run_underlying t.und, run_getObj_map this, run_checkKey t.key (k := .string s) trivial, run_findKey t.key hf, Result.andThen_ok, hge, Option.map_some, Option.getD_some, he,
        run_keyThatStays (d := .string) (k := .string s) trivial]
      simp [setObj, Sem.run, this, ChangeMaps.setBlock]
    · rw [hmod]; exact stamped_modify hst _ _ (fun _ _ => rfl) (fun e' _ he' => by rw [hge] at he'; cases he'; exact he.symm)
    · intro x hx
      rcases List.mem_append.1 hx with hx | hx
      · exact hk x (List.mem_append_left _ hx)
      · rcases List.mem_cons.1 hx with rfl | hx
        · trivial
        · exact hk x (List.mem_append_right _ (List.mem_cons_of_mem _ hx))
end
end
end Tw
end
section
theorem Tw.Hp.none_of_set {σ : Tw.Hp} {b k : Nat} {o : Go.Obj} (h : (σ.set b o) k = none) : k ≠ b ∧ σ k = none := by
  have hne : k ≠ b := fun e => by rw [e, Tw.Hp.set_same] at h; cases h
  exact ⟨hne, by rw [Tw.Hp.set_ne hne] at h; exact h⟩
namespace TwI
open Go Go.MapKept Tw
variable [Cnt]
section
variable {P : Program} {σ : Hp}
class MpI (P : Program) (T : TypeId) (K V : outParam TypeId) : Prop where
  und : P.underlying T = some (.map K V)
  key : P.underlying K = some (.int .i64)
def MapAt (σ : Hp) (b : Nat) (l : List MapEntry) (clock : Nat) : Prop := σ b = some (.map l.toArray clock) ∧ Stamped l.toArray clock ∧ ∀ x ∈ l, IsKey (.int .i64) x.key
theorem MapAt.loc {σ σ' : Hp} {b : Nat} {l : List MapEntry} {clock : Nat} (h : MapAt σ b l clock) (hx : σ' b = σ b) : MapAt σ' b l clock := ⟨hx.trans h.1, h.2⟩
theorem find_cases {s : Int} {l : List MapEntry} (hk : ∀ x ∈ l, IsKey (.int .i64) x.key) :
    (Instr.findNow (.int .i64) (.int .i64 s) l 0 = some none ∧ ∀ x ∈ l, x.key ≠ .int .i64 s) ∨ ∃ l1 e l2, l = l1 ++ e :: l2 ∧ e.key = .int .i64 s ∧ Instr.findNow (.int .i64) (.int .i64 s) l 0 = some (some (l1.length, e.val)) := by
  rcases findNow_spec (d := .int .i64) (k := .int .i64 s) rfl l 0 hk with h | ⟨j, e, h1, h2, h3⟩
  · exact .inl h
  · obtain ⟨hj, rfl⟩ := List.getElem?_eq_some_iff.1 h2
    refine .inr ⟨l.take j, l[j], l.drop (j + 1), ?_, h3, ?_⟩
    · rw [List.getElem_cons_drop, List.take_append_drop]
    · rw [h1]; simp [Nat.min_eq_left (Nat.le_of_lt hj)]
section
variable {T K V ty : TypeId} {b clock : Nat} {l : List MapEntry} {s : Int}
theorem MapAt.fresh {b : Nat} {σ : Hp} : MapAt (σ.set b (.map #[] 0)) b [] 0 := ⟨Hp.set_same _ _ _, stamped_empty 0, by simp⟩
theorem lookup_yf [t : MpI P T K V] (hm : MapAt σ b l clock) {z : Value} (hz : ∀ w, (zeroValue V).run P w = .ok z w) {Q : Value → Prop}
    (h0 : (∀ x ∈ l, x.key ≠ .int .i64 s) → Q z) (h1 : ∀ l1 e l2, l = l1 ++ e :: l2 → e.key = .int .i64 s → Q e.val) : ∃ v, Q v ∧ YF P (Instr.lookup T (.map (some b)) (.int .i64 s) false) σ v := by
  rcases find_cases (s := s) hm.2.2 with ⟨hf, hn⟩ | ⟨l1, e, l2, hl, he, hf⟩
  · refine ⟨z, h0 hn, fun w hs => ?_⟩
    have := hs _ _ hm.1
    simp [Instr.lookup, run_underlying t.und, run_getObj_map this, run_checkKey t.key (k := .int .i64 s) rfl, run_findKey t.key hf, hz, Result.andThen]
  · refine ⟨e.val, h1 l1 e l2 hl he, fun w hs => ?_⟩
    have := hs _ _ hm.1
    simp [Instr.lookup, run_underlying t.und, run_getObj_map this, run_checkKey t.key (k := .int .i64 s) rfl, run_findKey t.key hf, Result.andThen]
theorem lookup_eff [t : MpI P T K V] (hm : MapAt σ b l clock) {z : Value} (hz : ∀ w, (zeroValue V).run P w = .ok z w) {Φ : Value → Hp → Prop}
    (h0 : (∀ x ∈ l, x.key ≠ .int .i64 s) → Φ z σ) (h1 : ∀ l1 e l2, l = l1 ++ e :: l2 → e.key = .int .i64 s → Φ e.val σ) : Eff P (Instr.lookup T (.map (some b)) (.int .i64 s) false) σ Φ := by
  obtain ⟨v, hq, hy⟩ := lookup_yf (T := T) (K := K) (s := s) (Q := fun v => Φ v σ) hm hz h0 h1
  exact Eff.pu hy hq
theorem len_yf [t : MpI P T K V] (hm : MapAt σ b l clock) : YF P (Builtin.len_ #[T] ty #[.map (some b)]) σ (.int .i64 l.length) := fun w hs => by
  have := hs _ _ hm.1
  simp [Builtin.len_, run_underlying t.und, run_getObj_map this, goInt, Result.andThen]
abbrev ent (s : Int) (v : Value) (n : Nat) : MapEntry := { key := .int .i64 s, val := v, born := n }
theorem mapUpdate_eff [t : MpI P T K V] (hm : MapAt σ b l clock) {v : Value} {Φ : Unit → Hp → Prop}
    (h0 : (∀ x ∈ l, x.key ≠ .int .i64 s) → ∀ σ', σ' = σ.set b (.map (l ++ [ent s v clock]).toArray (clock + 1)) → MapAt σ' b (l ++ [ent s v clock]) (clock + 1) → Φ () σ')
    (h1 : ∀ l1 e l2, l = l1 ++ e :: l2 → e.key = .int .i64 s → ∀ σ', σ' = σ.set b (.map (l1 ++ ent s v e.born :: l2).toArray clock) → MapAt σ' b (l1 ++ ent s v e.born :: l2) clock → Φ () σ') :
    Eff P (Instr.mapUpdate T (.map (some b)) (.int .i64 s) v) σ Φ := by
  obtain ⟨hb, hst, hk⟩ := hm
  rcases find_cases (s := s) hk with ⟨hf, hn⟩ | ⟨l1, e, l2, hl, he, hf⟩
  · have hpush : (l ++ [ent s v clock]).toArray = l.toArray.push (ent s v clock) := by simp
    refine Eff.obj (v := ()) (o' := .map (l ++ [ent s v clock]).toArray (clock + 1)) hb (fun w hs => ⟨w, .inl rfl, ?_⟩) (h0 hn _ rfl ⟨Hp.set_same _ _ _, ?_, ?_⟩)
    · have := hs _ _ hb
      rw [hpush]
      simp only [Instr.mapUpdate, Sem.run_bind, run_underlying t.und, run_getObj_map this, run_checkKey t.key (k := .int .i64 s) rfl, run_findKey t.key hf, Result.andThen_ok]
      simp [setObj, Sem.run, this, ChangeMaps.setBlock]
    · rw [hpush]; exact stamped_push hst (by simpa using hn)
    · intro x hx
      rcases List.mem_append.1 hx with hx | hx
      · exact hk x hx
      · rw [List.mem_singleton] at hx; subst hx; rfl
  · subst hl
    have hmod : (l1 ++ ent s v e.born :: l2).toArray = (l1 ++ e :: l2).toArray.modify l1.length (fun e => { e with key := .int .i64 s, val := v }) := by
      rw [← Array.toList_inj]
      apply List.ext_getElem?
      intro j
      simp only [Array.getElem?_toList, Array.getElem?_modify, List.getElem?_toArray]
      by_cases hj : l1.length = j
      · subst hj; simp
      · rw [if_neg hj]
        rcases Nat.lt_or_ge j l1.length with h | h
        · rw [List.getElem?_append_left h, List.getElem?_append_left h]
        · have : ∃ k, j = l1.length + (k + 1) := ⟨j - l1.length - 1, by omega⟩
          obtain ⟨k, rfl⟩ := this
          simp [List.getElem?_append_right]
    have hge : (l1 ++ e :: l2).toArray[l1.length]? = some e := by simp
    refine Eff.obj (v := ()) (o' := .map (l1 ++ ent s v e.born :: l2).toArray clock) hb (fun w hs => ⟨w, .inl rfl, ?_⟩) (h1 l1 e l2 rfl he _ rfl ⟨Hp.set_same _ _ _, ?_, ?_⟩)
    · have := hs _ _ hb
      rw [hmod]
      simp only [Instr.mapUpdate, Sem.run_bind, run_underlying t.und, run_getObj_map this, run_checkKey t.key (k := .int .i64 s) rfl, run_findKey t.key hf, Result.andThen_ok, hge, Option.map_some, Option.getD_some, he,
        run_keyThatStays (d := .int .i64) (k := .int .i64 s) rfl]
      simp [setObj, Sem.run, this, ChangeMaps.setBlock]
    · rw [hmod]; exact stamped_modify hst _ _ (fun _ _ => rfl) (fun e' _ he' => by rw [hge] at he'; cases he'; exact he.symm)
    · intro x hx
      rcases List.mem_append.1 hx with hx | hx
      · exact hk x (List.mem_append_left _ hx)
      · rcases List.mem_cons.1 hx with rfl | hx
        · rfl
        · exact hk x (List.mem_append_right _ (List.mem_cons_of_mem _ hx))
end
end
end TwI
end
section
namespace Tw
open Go
variable [Cnt]
def strV (s : ByteArray) : List Value := s.data.toList.map fun b => .int .u8 b.toNat
theorem strV_len {s : ByteArray} : (strV s).length = s.size := by simp [strV]
theorem strV_one {s : ByteArray} : OneC (strV s) := fun u hu => by obtain ⟨x, _, rfl⟩ := List.mem_map.1 hu; rfl
section append
variable {P : Program} {T E ty : TypeId} {bs : Nat} {σ : Hp} {p : Option Addr} {n c m : Nat} {cs ys : List Value} {Φ : Value → Hp → Prop}
theorem run_firstS {str : ByteArray} (w : World) (size : Nat) : (Builtin.firstCells size str.size (.string str)).run P w = .ok (strV str).toArray w := by
  have hx : (Array.map (fun b : UInt8 => Value.int IntKind.u8 (b.toNat : Int)) str.data).extract 0 str.size = (strV str).toArray := by
    have hs : str.size = (Array.map (fun b : UInt8 => Value.int IntKind.u8 (b.toNat : Int)) str.data).size := by rw [Array.size_map]; rfl
    rw [hs, Array.extract_size]
    apply Array.ext'
    simp [strV]
  have hx2 : Array.map (fun b : UInt8 => Value.int IntKind.u8 (b.toNat : Int)) str.data = (strV str).toArray := by apply Array.ext'; simp [strV]
  simp [Builtin.firstCells, hx2]
theorem app_str [h : SlT P T E 1 bs] {U : TypeId} {str : ByteArray} (hU : P.underlying U = some .string) (hown : Own 1 σ p n c cs) (hm : str.size = m) (hys : strV str = ys) (hb : (n + m) * bs ≤ 140737488355328)
    (hΦ : ∀ p' c' σ', Own 1 σ' p' (n + m) c' (cs ++ ys) → Ext (σ.del p) (σ'.del p') → ((p' = p ∧ c' = c ∧ n + m ≤ c) ∨ (c < n + m ∧ Ext σ σ' ∧ ∀ a, p' = some a → σ a.block = none)) → Φ (.slice p' (n + m) c') σ') :
    Eff P (Builtin.append_ #[T, U] ty #[.slice p n c, .string str]) σ Φ := by
  obtain ⟨ht, ⟨i, z, hi, hz, hs1, rfl, hzs⟩, hpos, hbpos⟩ := h
  have h1 : OneC ys := hys ▸ strV_one
  have hyl : ys.length = m * 1 := by rw [← hys, ← hm, Nat.mul_one]; exact strV_len
  have h62 : n + m ≤ 140737488355328 := Nat.le_trans (Nat.le_mul_of_pos_right _ hbpos) hb
  intro w F hs hF
  have hf := run_firstS (P := P) (str := str) w 1
  rw [hys, hm] at hf
  have hf' := fun w' : World => run_firstS (P := P) (str := str) w' 1
  rw [hys, hm] at hf'
  have ho' := fun w' (hw : Sat σ w') => run_first (P := P) (d := c) w' hw hown.rd
  have hlen : (cs ++ ys).length = (n + m) * 1 := by rw [List.length_append, hown.1, hyl, Nat.add_mul]
  by_cases hroom : n + m ≤ c
  · -- there is room
    rcases hown.2.2 with ⟨hp, hn, hc⟩ | ⟨b, o, arr, T', rfl, hblk, hnc, hsz, hcs⟩
    · subst hp hn hc
      have hm : m = 0 := by omega
      subst hm
      have hys : ys = [] := List.eq_nil_of_length_eq_zero (by simpa using hyl)
      have hcs : cs = [] := List.eq_nil_of_length_eq_zero (by simpa using hown.1)
      subst hys hcs
      refine ⟨.slice none 0 0, w, σ, ?_, hΦ none 0 σ Own.nil (Ext.refl _) (.inl ⟨rfl, rfl, hroom⟩), hs, fun b hb => ⟨(hF b hb).2, rfl⟩, .same rfl rfl rfl, rfl, Nat.le_refl _⟩
      simp [Builtin.append_, run_underlying ht, run_underlying hU, hs1, hm, Go.sizeOf, typeInfo, hi, Builtin.lenOf, hf]
    · have hw := hs _ _ hblk
      have hfit : o + n * 1 + 0 + ys.length ≤ arr.size := by
        rw [hyl]
        have : (n + m) * 1 ≤ c * 1 := Nat.mul_le_mul_right _ hroom
        rw [Nat.add_mul] at this
        omega
      have hst := run_storeCells (P := P) b (o + n * 1) T' ys 0 arr w hw hfit h1
      simp only [Nat.add_zero, Nat.mul_one] at hst
      refine ⟨.slice (some ⟨b, o, none⟩) (n + m) c, w.setRow b (wrt arr (o + n) ys), σ.set b (.cells (wrt arr (o + n) ys) T' (0, 0)), ?_, hΦ _ _ _ ⟨hlen, by omega, .inr ⟨b, o, _, T', rfl, Hp.set_same _ _ _, hroom, by rw [wrt_size]; exact hsz, ?_⟩⟩ (by rw [Hp.del_set_same]; exact Ext.refl _) (.inl ⟨rfl, rfl, hroom⟩), ?_⟩
      · simp [Builtin.append_, run_underlying ht, run_underlying hU, hs1, hm, Go.sizeOf, typeInfo, hi, Builtin.lenOf, hroom, hf, add_off, hst]
      · refine List.ext_getElem? fun j => ?_
        rw [List.getElem?_take]
        simp only [List.getElem?_drop, Array.getElem?_toList]
        rw [wrt_get _ _ _ _ (by omega), List.getElem?_append]
        have e1 : cs.length = n * 1 := hown.1
        have e2 : ys.length = m * 1 := hyl
        have e3 : (n + m) * 1 = n * 1 + m * 1 := Nat.add_mul ..
        by_cases hj1 : j < cs.length
        · rw [if_pos (by omega), if_neg (by omega), if_pos hj1, ← hcs, List.getElem?_take, if_pos (by omega)]
          simp
        · rw [if_neg hj1]
          by_cases hj2 : j < (n + m) * 1
          · rw [if_pos hj2, if_pos (by omega), show o + j - (o + n) = j - cs.length by omega]
          · rw [if_neg hj2, List.getElem?_eq_none (by omega)]
      · refine ⟨fun k u hk => ?_, fun k hk => ?_, .same rfl rfl rfl, rfl, by simp⟩
        · by_cases hkb : k = b
          · subst hkb; rw [Hp.set_same] at hk; cases hk; exact setRow_heap w k arr _ T' (0, 0) hw
          · rw [Hp.set_ne hkb] at hk; rw [setRow_other _ _ _ _ hkb]; exact hs k u hk
        · have hkb : k ≠ b := fun h => by have := (hF k hk).2; rw [h, hblk] at this; cases this
          exact ⟨by rw [Hp.set_ne hkb]; exact (hF k hk).2, setRow_other _ _ _ _ hkb⟩
  · -- it grows
    have hfits : Builtin.nextslicecap (n + m) c * i.bytes ≤ 281474976710656 := growslice_fits (by omega) hb
    have hgc := grownCap_ge w (n + m) c E
    have hs' : Sat σ w.drew := hs
    have hrun : (Builtin.append_ #[T, U] ty #[.slice p n c, .string str]).run P w =
        .ok (.slice (some ⟨w.heap.size, 0, none⟩) (n + m) (grownCap w (n + m) c E))
          (w.drew.alloc (.cells (cs.toArray ++ ys.toArray ++ Builtin.zeroCells z.cells (grownCap w (n + m) c E - (n + m))) E)) := by
      have h63' : ¬ (9223372036854775807 < ((n : Int) + (m : Int))) := by omega
      have h48' : ¬ (281474976710656 < Builtin.nextslicecap (n + m) c * i.bytes) := by omega
      simp [Builtin.append_, run_underlying ht, run_underlying hU, hs1, hm, Go.sizeOf, typeInfo, zeroValue, hi, hz, Builtin.lenOf, hroom, h63', h48', Question.forced, hf', ho' _ hs', newRow, grownCap]
      congr 2
      apply Array.ext'
      simp [List.append_assoc]
    refine ⟨_, _, σ.set w.heap.size _, hrun, hΦ _ _ _ ⟨hlen, by omega, .inr ⟨w.heap.size, 0, _, E, rfl, Hp.set_same _ _ _, hgc, ?_, ?_⟩⟩ ?_ (.inr ⟨by omega, Ext.set (hp_fresh hs), fun a ha => by cases ha; exact hp_fresh hs⟩), Fin.alloc hs hF _ rfl ⟨rfl, rfl, fun _ => ⟨1, rfl⟩⟩ rfl⟩
    · simp only [Array.size_append, List.size_toArray, size_zeroCells, hzs, hown.1, hyl, ← Nat.add_mul]
      have : n + m + (grownCap w (n + m) c E - (n + m)) = grownCap w (n + m) c E := by omega
      rw [this]; omega
    · simp only [Array.toList_append, List.drop_zero]
      rw [← hlen]
      exact List.take_left
    · rw [Hp.del_set_self (hp_fresh hs)]
      exact Ext.of_del σ p
end append
end Tw
end
section
namespace Tw
open Go
variable [Cnt]
def Hp.or (N M : Hp) : Hp := fun k => match N k with | some o => some o | none => M k
def Dis (N M : Hp) : Prop := ∀ k, M k ≠ none → N k = none
theorem Hp.or_l {N M : Hp} {k : Nat} {o : Obj} (h : N k = some o) : N.or M k = some o := by simp [Hp.or, h]
theorem Hp.or_r {N M : Hp} {k : Nat} (h : N k = none) : N.or M k = M k := by simp [Hp.or, h]
theorem Ext.or_l (N M : Hp) : Ext N (N.or M) := fun _ _ h => Hp.or_l h
theorem Ext.or_r {N M : Hp} (hd : Dis N M) : Ext M (N.or M) := fun k o h => by rw [Hp.or_r (hd k (by rw [h]; simp))]; exact h
theorem Ext.or_of {N M σ : Hp} (h1 : Ext N σ) (h2 : Ext M σ) : Ext (N.or M) σ := fun k o h => by
  unfold Hp.or at h
  split at h
  · rename_i u hu; cases h; exact h1 _ _ hu
  · exact h2 _ _ h
end Tw
end
section
namespace TwW
open Go Tw Go.Proofs.Tryz
theorem ld_of {σ : Hp} {b o : Nat} {c : Array Value} {t : TypeId} {fr : Nat × Nat} {v : Value} (h : σ b = some (.cells c t fr)) (hv : c[o]? = some v) : σ.ld ⟨b, o, none⟩ = some v := by simp [Hp.ld, h, hv]
section
variable {σ : Hp} {d : Nat} {S : List Nat} {R : Ending → Hp → Prop}
end
end TwW
namespace TwW
open Go Tw Go.Proofs.Tryz
section
variable {σ : Hp} {d : Nat} {S : List Nat} {R : Ending → Hp → Prop}
theorem Own.cap {s : Nat} {σ : Hp} {p : Option Addr} {n c : Nat} {cs : List Value} (h : Own s σ p n c cs) : n ≤ c := by
  rcases h.2.2 with ⟨_, h1, h2⟩ | ⟨b, o, arr, T, _, _, h3, _⟩
  · omega
  · exact h3
end
end TwW
namespace TwW
open Go Tw Go.Proofs.Tryz
def uv (x : Nat) : List Int := if h : 128 ≤ x then ((x % 128 + 128 : Nat) : Int) :: uv (x / 128) else [(x : Int)]
termination_by x
decreasing_by omega
theorem uv_big {x : Nat} (h : 128 ≤ x) : uv x = ((x % 128 + 128 : Nat) : Int) :: uv (x / 128) := by rw [uv, dif_pos h]
theorem uv_small {x : Nat} (h : ¬ 128 ≤ x) : uv x = [(x : Int)] := by rw [uv, dif_neg h]
theorem uv_len : ∀ (k x : Nat), x < 128 ^ (k + 1) → (uv x).length ≤ k + 1
  | 0, x, h => by rw [uv_small (by simpa using h)]; simp
  | k + 1, x, h => by
    by_cases hx : 128 ≤ x
    · rw [uv_big hx]
      have := uv_len k (x / 128) (by rw [Nat.div_lt_iff_lt_mul (by decide)]; rw [Nat.pow_succ] at h; exact h)
      simp; omega
    · rw [uv_small hx]; simp
theorem uv_len10 {x : Nat} (h : x < 18446744073709551616) : (uv x).length ≤ 10 := uv_len 9 x (by omega)
set_option maxRecDepth 100000 in
theorem or_u8 : ∀ y : Fin 256, Go.bits .or .u8 (y.1 : Int) 128 = ((y.1 % 128 + 128 : Nat) : Int) := by decide
theorem putUint_spec {R : Ending → Hp → Prop} {σ : Hp} {p : Option Addr} {n c x : Nat} {xs : List Int} (hr : RdI .u8 σ p n xs) (hn : n ≤ 70368744177664) (hx : x < 18446744073709551616)
    (h : ∀ p' n' c' σ', OwnI .u8 (σ.new σ') p' n' c' (xs ++ uv x) → Ext σ σ' → R (.returned (.slice p' n' c')) σ') : Spec prog 67 #[.slice p n c, .int .u64 x] σ R := by
  refine codec_PutUint.start fun b hb => ?_
  refine app_eff Own.empty ((RdC.of_map hr).mono (.set hb)) OneC.map_int (by omega) fun p' c' σ' hown hext => ?_
  have hq : ∀ a : Addr, (some (⟨b, 0, none⟩ : Addr)) = some a → σ a.block = none := fun a ha => by cases ha; exact hb
  have ho := Own.to_new hown (new_block hq hext (.set hb))
  have he := ext_new hq hext (.set hb)
  refine ⟨p', 0 + n, c', rfl, ?_⟩
  rw [Nat.zero_add] at ho ⊢
  have hlen := hr.1
  suffices H : ∀ (k x n' : Nat) p' c' σ' ys, x < 128 ^ (k + 1) → n' + k ≤ n + 9 → OwnI .u8 (σ.new σ') p' n' c' ys → Ext σ σ' → (∀ p' n' c' σ', OwnI .u8 (σ.new σ') p' n' c' (ys ++ uv x) → Ext σ σ' → R (.returned (.slice p' n' c')) σ') → codec_PutUint.pt9 R x p' n' c' σ' from
    H 9 x n p' c' σ' xs (by omega) (by omega) ho he h
  intro k
  induction k with
  | zero =>
    intro x n' p' c' σ' ys hx hn' ho he h
    refine codec_PutUint.pt9_of ⟨fun hlt => by omega, fun _ x21 hx21 b2 hb2 => ?_⟩
    have hxx : x21 = (x : Int) := by rw [hx21]; simp [IntKind.wrap, IntKind.bits, IntKind.signed]; omega
    subst hxx
    refine OwnI.app1 he ho (by omega) (fun p2 c2 σ2 ho2 he2 _ => ⟨p2, n' + 1, c2, rfl, h _ _ _ _ ?_ he2⟩) hb2
    rw [uv_small (by omega)]; exact ho2
  | succ k ih =>
    intro x n' p' c' σ' ys hx hn' ho he h
    refine codec_PutUint.pt9_of ⟨fun hlt x15 hx15 x16 hx16 b2 hb2 => ?_, fun hge x21 hx21 b2 hb2 => ?_⟩
    · have h15 : x15 = ((x % 256 : Nat) : Int) := by rw [hx15]; simp [IntKind.wrap, IntKind.bits, IntKind.signed]
      have h16 : x16 = ((x % 128 + 128 : Nat) : Int) := by
        rw [hx16, h15, or_u8 ⟨x % 256, Nat.mod_lt _ (by decide)⟩]
        have : x % 256 % 128 = x % 128 := by omega
        rw [this]
      subst h16
      refine OwnI.app1 he ho (by omega) (fun p2 c2 σ2 ho2 he2 _ => ⟨p2, n' + 1, c2, rfl, by simp [IntKind.bits], fun x12 hx12 => ?_⟩) hb2
      have h12 : x12 = ((x / 128 : Nat) : Int) := by rw [hx12]; simp
      subst h12
      refine ih (x / 128) (n' + 1) p2 c2 σ2 _ (by rw [Nat.div_lt_iff_lt_mul (by decide)]; rw [Nat.pow_succ] at hx; exact hx) (by omega) ho2 he2 fun p3 n3 c3 σ3 ho3 he3 => h p3 n3 c3 σ3 ?_ he3
      rw [uv_big (by omega)]
      simpa using ho3
    · have hxx : x21 = (x : Int) := by rw [hx21]; simp [IntKind.wrap, IntKind.bits, IntKind.signed]; omega
      subst hxx
      refine OwnI.app1 he ho (by omega) (fun p2 c2 σ2 ho2 he2 _ => ⟨p2, n' + 1, c2, rfl, h _ _ _ _ ?_ he2⟩) hb2
      rw [uv_small (by omega)]; exact ho2
end TwW
namespace TwW
open Go Tw Go.RowKit Go.Proofs.Tryz
theorem RdC.at1 {σ : Hp} {p : Option Addr} {n k : Nat} {L : List Value} {v : Value} (h : RdC 1 σ p n L) (hk : L[k]? = some v) : ∃ b o, p = some ⟨b, o, none⟩ ∧ σ.ld ⟨b, o + k * 1, none⟩ = some v := by
  obtain ⟨h1, _, h2⟩ := h
  have hlt := (List.getElem?_eq_some_iff.1 hk).1
  rcases h2 with h2 | ⟨b, o, hp, hl⟩
  · simp at h1; omega
  · refine ⟨b, o, hp, ?_⟩
    rw [Nat.mul_one]
    exact hl.get hk
section
variable {σ τ : Hp} {d : Nat} {R : Ending → Hp → Prop}
end
section
variable {dir : ByteArray} {cnt : Nat}
end
end TwW
namespace TwW
open Go Tw Go.RowKit Go.Proofs.Tryz
def byt (s : ByteArray) : List Int := s.data.toList.map fun b => (b.toNat : Int)
theorem byt_len {s : ByteArray} : (byt s).length = s.size := by simp [byt]
theorem strV_byt {s : ByteArray} : strV s = (byt s).map (.int .u8) := by simp [strV, byt]
section
variable {σ : Hp} {R : Ending → Hp → Prop}
theorem putText_spec {p : Option Addr} {n c : Nat} {xs : List Int} {s : ByteArray} (hr : RdI .u8 σ p n xs) (hn : n ≤ 1048576) (hs : s.size ≤ 1048576)
    (h : ∀ p' n' c' σ', OwnI .u8 (σ.new σ') p' n' c' (xs ++ uv s.size ++ byt s) → Ext σ σ' → R (.returned (.slice p' n' c')) σ') : Spec prog 68 #[.slice p n c, .string s] σ R := by
  refine codec_PutText.start fun x8 h8 => ?_
  have e8 : x8 = (s.size : Int) := by rw [h8]; simp [IntKind.wrap, IntKind.bits, IntKind.signed]; omega
  subst e8
  refine putUint_spec hr (by omega) (by omega) fun p' n' c' σ1 ho hx1 => ⟨p', n', c', rfl, ?_⟩
  have hq : ∀ a, p' = some a → σ a.block = none := fun a ha => by
    have h2 := Own.block ho a ha
    cases hh : (σ.new σ1) a.block with
    | none => exact absurd hh h2
    | some o => exact (new_some.1 hh).1
  have hl : (xs ++ uv s.size).length = n' := by have := ho.1; simpa using this
  have h10 := uv_len10 (x := s.size) (by omega)
  have hxl : xs.length = n := hr.1
  rw [List.length_append] at hl
  refine app_str underlying9 (Own.mono (Ext.of_new _ _) ho) rfl strV_byt (by omega) fun p2 c2 σ2 ho2 hx2 _ => ⟨p2, _, c2, rfl, ?_⟩
  have hb2 := new_block hq hx2 hx1
  refine h p2 _ c2 σ2 ?_ (ext_new hq hx2 hx1)
  have := Own.to_new ho2 hb2
  simpa [OwnI] using this
theorem putText_len {p : Option Addr} {n c : Nat} {xs : List Int} (h : OwnI .u8 σ p n c xs) : xs.length = n := by have := h.1; simpa using this
theorem size0 {s : ByteArray} : (ByteArray.toList s == ByteArray.toList (ByteArray.mk #[])) = decide (s.size = 0) := by
  rw [ByteArray.toList_eq, ByteArray.toList_eq]
  by_cases h : s.size = 0
  · have : s = ⟨#[]⟩ := ByteArray.ext (Array.eq_empty_of_size_eq_zero h)
    subst this; rfl
  · rw [decide_eq_false h]
    simp only [beq_eq_false_iff_ne]
    intro e
    apply h
    have := congrArg List.length e
    simpa using this
end
end TwW
namespace TwW
open Go Tw Go.RowKit Go.Proofs.Tryz
abbrev Lb := ByteArray × ByteArray
def ELb (_ : Hp) (vs : List Value) (x : Lb) : Prop := vs = [.string x.1, .string x.2]
theorem ELb.mono : Mono ELb := fun _ _ _ _ _ h => h
abbrev RdL := RdS 2 ELb
section
variable {σ : Hp} {R : Ending → Hp → Prop}
theorem RdL.at {p : Option Addr} {n i : Nat} {ls : List Lb} {x : Lb} (hr : RdL σ p n ls) (hx : ls[i]? = some x) : ∃ b o, p = some ⟨b, o, none⟩ ∧ LdL σ b (o + i * 2) [.string x.1, .string x.2] := by
  obtain ⟨b, o, vs, hp, rfl, hl⟩ := RdS.idx hr hx
  exact ⟨b, o, hp, hl⟩
theorem eqS {s t : ByteArray} : (s.toList == t.toList) = decide (s = t) := by
  rw [ByteArray.toList_eq, ByteArray.toList_eq]
  by_cases h : s = t
  · subst h; simp
  · rw [decide_eq_false h, beq_eq_false_iff_ne]
    exact fun e => h (ByteArray.ext (Array.toList_inj.1 e))
theorem drop_at {α : Type} {xs : List α} {k : Nat} {y : α} (hy : xs[k]? = some y) : xs.drop k = y :: xs.drop (k + 1) := by
  obtain ⟨h, rfl⟩ := List.getElem?_eq_some_iff.1 hy
  exact List.drop_eq_getElem_cons h
def getL : List Lb → ByteArray → ByteArray
  | [], _ => ⟨#[]⟩
  | x :: l, k => if x.1 = k then x.2 else getL l k
theorem labelGet_spec {p : Option Addr} {n c : Nat} {ls : List Lb} {k : ByteArray} (hr : RdL σ p n ls) (h : R (.returned (.string (getL ls k))) σ) : Spec prog 119 #[.slice p n c, .string k] σ R := by
  refine label_Get.start ?_
  suffices H : ∀ d i : Nat, n - i = d → i ≤ n → getL ls k = getL (ls.drop i) k → label_Get.pt8 R k p n c n i σ from H n 0 rfl (Nat.zero_le _) rfl
  intro d
  induction d with
  | zero =>
    intro i hd hi he
    refine label_Get.pt8_of ⟨fun hlt => by omega, fun _ => ?_⟩
    rw [List.drop_of_length_le (by rw [hr.1]; omega)] at he
    rw [he] at h; exact h
  | succ d ih =>
    intro i hd hi he
    refine label_Get.pt8_of ⟨fun _ => ?_, fun hh => by omega⟩
    have hi' : i < n := by omega
    obtain ⟨x, hx⟩ := hr.ex hi'
    obtain ⟨b, o, rfl, hl⟩ := RdL.at hr hx
    rw [drop_at hx, getL] at he
    refine ⟨b, o, rfl, by omega, x.1, x.2, by simpa using hl, fun _ => ⟨fun hk => ?_, fun hk => ⟨i64_succ hi' hr.big, ih (i + 1) (by omega) (by omega) ?_⟩⟩⟩
    · rw [eqS, decide_eq_true_eq] at hk
      rw [if_pos hk] at he
      rw [he] at h; exact h
    · rw [eqS, decide_eq_false_iff_not] at hk
      rwa [if_neg hk] at he
theorem letters {s : ByteArray} {ok : UInt8 → Bool} {pt : Int → Prop} {G : Bool → Prop}
    (hend : G true → pt s.size) (hstep : ∀ (k : Nat) (u : UInt8), k < s.size → s.data[Int.toNat (k : Int)]? = some u → I64 ((k : Int) + 1) → (ok u = true → pt ((k : Int) + 1)) → (ok u = false → G false) → pt k)
    (h : G (s.data.toList.all ok)) (hb : s.size ≤ 4611686018427387904) : pt 0 := by
  have hsz : s.data.toList.length = s.size := rfl
  suffices H : ∀ d k : Nat, s.size - k = d → k ≤ s.size → (s.data.toList.take k).all ok = true → pt k from H s.size 0 rfl (Nat.zero_le _) rfl
  intro d
  induction d with
  | zero =>
    intro k hd hk hall
    rw [List.take_of_length_le (by omega)] at hall
    rw [hall] at h
    have : k = s.size := by omega
    rw [this]; exact hend h
  | succ d ih =>
    intro k hd hk hall
    have hk' : k < s.size := by omega
    obtain ⟨u, hu⟩ : ∃ u, s.data.toList[k]? = some u := ⟨_, List.getElem?_eq_getElem (by omega)⟩
    refine hstep k u hk' (by simpa using hu) (by unfold I64; omega) (fun hc => ih (k + 1) (by omega) (by omega) (by rw [take_succ' hu, List.all_append, hall]; simpa using hc)) fun hc => ?_
    have : s.data.toList.all ok = false := by
      rw [List.all_eq_false]
      exact ⟨u, List.mem_of_getElem? hu, by simp [hc]⟩
    rwa [this] at h
def dgt (u : UInt8) : Bool := decide (48 ≤ u.toNat ∧ u.toNat ≤ 57)
def nch (u : UInt8) : Bool := decide (u.toNat = 95 ∨ (48 ≤ u.toNat ∧ u.toNat ≤ 57) ∨ (65 ≤ u.toNat ∧ u.toNat ≤ 90) ∨ (97 ≤ u.toNat ∧ u.toNat ≤ 122))
def lnOk (s : ByteArray) : Bool := decide (0 < s.size) && decide (s.size ≤ 64) && !(s.data.toList.head?.any dgt) && s.data.toList.all nch
theorem labelName_spec {s : ByteArray} (h : R (.returned (.bool (lnOk s))) σ) : Spec prog 38 #[.string s] σ R := by
  have hsz : s.data.toList.length = s.size := rfl
  refine label_name.start ⟨fun h0 => ?_, fun h0 => ⟨fun h1 => ?_, fun h1 => ?_⟩⟩
  · rw [size0, decide_eq_true_eq] at h0
    simpa [lnOk, h0] using h
  · have : ¬ s.size ≤ 64 := by omega
    simpa [lnOk, this] using h
  · rw [size0, decide_eq_false_iff_not] at h0
    obtain ⟨u, hu⟩ : ∃ u, s.data.toList[0]? = some u := ⟨_, List.getElem?_eq_getElem (by omega)⟩
    have hu' : s.data[Int.toNat (0 : Int)]? = some u := by simpa using hu
    have hh : s.data.toList.head? = some u := by rw [← hu]; cases s.data.toList <;> rfl
    have rest : dgt u = false → label_name.pt17 R s 0 σ := fun hd => by
      have e : lnOk s = s.data.toList.all nch := by simp [lnOk, show 0 < s.size by omega, show s.size ≤ 64 by omega, hh, hd]
      rw [e] at h
      refine letters (s := s) (pt := fun k => label_name.pt17 R s k σ) (ok := nch) (G := fun t => R (.returned (.bool t)) σ) (fun g => label_name.pt17_of ⟨fun hlt => by omega, fun _ => g⟩) (fun k u hk hu hi good bad => ?_) h (by omega)
      simp only [nch, decide_eq_true_eq, decide_eq_false_iff_not] at good bad
      refine label_name.pt17_of ⟨fun hlt => ⟨u, by omega, hu, ?_⟩, fun hge => by omega⟩
      clear h
      generalize u.toNat = n at good bad
      repeat' (first | refine ⟨fun _ => ?_, fun _ => ?_⟩ | exact ⟨hi, good (by omega)⟩ | exact bad (by omega))
    simp only [dgt, decide_eq_false_iff_not] at rest
    refine ⟨u, by omega, hu', fun h2 => ⟨u, by omega, hu', fun h3 => ?_, fun h3 => rest (by omega)⟩, fun h2 => rest (by omega)⟩
    have : dgt u = true := by simp [dgt]; omega
    simpa [lnOk, hh, this] using h
def vl : Nat → Nat → Nat → List UInt8 → Bool
  | 0, _, _, [] => true
  | _ + 1, _, _, [] => false
  | 0, _, _, c :: r =>
    if c.toNat < 128 then vl 0 128 191 r
    else if 194 ≤ c.toNat ∧ c.toNat ≤ 223 then vl 1 128 191 r
    else if 224 ≤ c.toNat ∧ c.toNat ≤ 239 then (if c.toNat = 224 then vl 2 160 191 r else if c.toNat = 237 then vl 2 128 159 r else vl 2 128 191 r)
    else if 240 ≤ c.toNat ∧ c.toNat ≤ 244 then (if c.toNat = 240 then vl 3 144 191 r else if c.toNat = 244 then vl 3 128 143 r else vl 3 128 191 r)
    else false
  | m + 1, lo, hi, c :: r => if c.toNat < lo ∨ hi < c.toNat then false else vl m 128 191 r
def lvOk (s : ByteArray) : Bool := vl 0 128 191 s.data.toList
theorem vl0 (l : List UInt8) (a b c d : Nat) : vl 0 a b l = vl 0 c d l := by cases l <;> rfl
attribute [local irreducible] label_valid.pt11 label_valid.pt65 label_valid.pt70 in
theorem labelValid_spec {s : ByteArray} (hb : s.size ≤ 4611686018427387904) (h : R (.returned (.bool (lvOk s))) σ) : Spec prog 39 #[.string s] σ R := by
  have hsz : s.data.toList.length = s.size := rfl
  refine label_valid.start ?_
  suffices H : ∀ d : Nat, (∀ k : Nat, s.size - k = d → k ≤ s.size → lvOk s = vl 0 128 191 (s.data.toList.drop k) → label_valid.pt11 R s k σ) ∧
      (∀ (k m lo hi : Nat), s.size - k = d → k ≤ s.size → lvOk s = vl m lo hi (s.data.toList.drop k) → m ≤ 3 → label_valid.pt70 R s k m lo hi σ) from (H s.size).1 0 (by omega) (by omega) rfl
  intro d
  induction d with
  | zero =>
    have A : ∀ k : Nat, s.size - k = 0 → k ≤ s.size → lvOk s = vl 0 128 191 (s.data.toList.drop k) → label_valid.pt11 R s k σ := fun k hd hk he => by
      refine label_valid.pt11_of ⟨fun _ => ?_, fun hne => by omega⟩
      rw [List.drop_of_length_le (by omega)] at he
      rw [he] at h; exact h
    refine ⟨A, fun k m lo hi hd hk he hm => label_valid.pt70_of ⟨fun h0 => A k hd hk ?_, fun h0 => ⟨fun _ => ?_, fun hne => by omega⟩⟩⟩
    · have : m = 0 := by omega
      subst this; rw [he]; exact vl0 _ _ _ _ _
    · obtain ⟨m', rfl⟩ : ∃ m', m = m' + 1 := ⟨m - 1, by omega⟩
      rw [List.drop_of_length_le (by omega)] at he
      rw [he] at h; exact h
  | succ d ih =>
    have A : ∀ k : Nat, s.size - k = d + 1 → k ≤ s.size → lvOk s = vl 0 128 191 (s.data.toList.drop k) → label_valid.pt11 R s k σ := fun k hd hk he => by
      have hk' : k < s.size := by omega
      obtain ⟨u, hu⟩ : ∃ u, s.data.toList[k]? = some u := ⟨_, List.getElem?_eq_getElem (by omega)⟩
      have hu' : s.data[Int.toNat (k : Int)]? = some u := by simpa using hu
      have hi : I64 ((k : Int) + 1) := by unfold I64; omega
      rw [drop_at hu, vl] at he
      have st : ∀ (m lo hi : Nat), m ≤ 3 → lvOk s = vl m lo hi (s.data.toList.drop (k + 1)) → label_valid.pt65 R s k m lo hi σ := fun m lo hh hm he => label_valid.pt65_of ⟨hi, ih.2 (k + 1) m lo hh (by omega) (by omega) he hm⟩
      have nx : lvOk s = vl 0 128 191 (s.data.toList.drop (k + 1)) → label_valid.pt11 R s ((k : Int) + 1) σ := fun he => ih.1 (k + 1) (by omega) (by omega) he
      have no : lvOk s = false → R (.returned (.bool false)) σ := fun e => by rw [e] at h; exact h
      refine label_valid.pt11_of ⟨fun hne => by omega, fun _ => ⟨u, by omega, hu', ?_⟩⟩
      generalize s.data.toList.drop (k + 1) = r at he st nx
      clear ih h hu hu'
      generalize u.toNat = n at he
      have st1 := st 1 128 191 (by omega)
      have st2 := st 2 160 191 (by omega)
      have st3 := st 2 128 159 (by omega)
      have st4 := st 2 128 191 (by omega)
      have st5 := st 3 144 191 (by omega)
      have st6 := st 3 128 143 (by omega)
      have st7 := st 3 128 191 (by omega)
      repeat' (first | refine ⟨fun _ => ?_, fun _ => ?_⟩ | refine ⟨hi, nx ?_⟩ | refine st1 ?_ | refine st2 ?_ | refine st3 ?_ | refine st4 ?_ | refine st5 ?_ | refine st6 ?_ | refine st7 ?_ | refine no ?_)
      all_goals first | (exfalso; clear he; omega) | (rw [he]; repeat' (first | rfl | rw [if_pos (by omega)] | rw [if_neg (by omega)]))
    refine ⟨A, fun k m lo hi hd hk he hm => label_valid.pt70_of ⟨fun h0 => A k hd hk ?_, fun h0 => ⟨fun hne => by omega, fun _ => ?_⟩⟩⟩
    · have : m = 0 := by omega
      subst this; rw [he]; exact vl0 _ _ _ _ _
    · obtain ⟨m', rfl⟩ : ∃ m', m = m' + 1 := ⟨m - 1, by omega⟩
      have hk' : k < s.size := by omega
      obtain ⟨u, hu⟩ : ∃ u, s.data.toList[k]? = some u := ⟨_, List.getElem?_eq_getElem (by omega)⟩
      have hu' : s.data[Int.toNat (k : Int)]? = some u := by simpa using hu
      rw [drop_at hu, vl] at he
      refine ⟨u, by omega, hu', fun h1 => ?_, fun h1 => ⟨u, by omega, hu', fun h2 => ?_, fun h2 => ⟨by unfold I64; omega, by unfold I64; omega, ?_⟩⟩⟩
      · rw [if_pos (by omega)] at he
        rw [he] at h; exact h
      · rw [if_pos (by omega)] at he
        rw [he] at h; exact h
      · rw [if_neg (by omega)] at he
        have := ih.2 (k + 1) m' 128 191 (by omega) (by omega) he (by omega)
        have e1 : ((m' + 1 : Nat) : Int) - 1 = (m' : Nat) := by omega
        rw [e1]; exact this
end
end TwW
namespace TwW
open Go Tw Go.RowKit Go.Proofs.Tryz
section
variable {σ : Hp} {R : Ending → Hp → Prop}
def sle (a b : ByteArray) : Bool := Op.bytesLess a.toList b.toList || a.toList == b.toList
theorem leq_yf {x y : Operand} {a b : ByteArray} {T : TypeId} : YF prog (do eqGuard .leq T x y (.string a) (.string b); binOp .leq T (.string a) (.string b)) σ (.bool (sle a b)) := fun w _ => by
  simp [eqGuard, binOp, Op.stringOp, sle]
def chkLs : Option ByteArray → List Lb → Int
  | _, [] => 0
  | pv, x :: l => if lnOk x.1 = false then 31 else if x.2.size = 0 ∨ 256 < x.2.size ∨ lvOk x.2 = false then 32 else if pv.any (sle x.1 ·) = true then 33 else chkLs (some x.1) l
def chkL (ls : List Lb) : Int := if 16 < ls.length then 30 else chkLs none ls
theorem labelCheck_spec {p : Option Addr} {n c : Nat} {ls : List Lb} (hr : RdL σ p n ls) (h : R (.returned (.int .i64 (chkL ls))) σ) : Spec prog 22 #[.slice p n c] σ R := by
  have hn : ls.length = n := hr.1
  refine label_Check.start ⟨fun h1 => ?_, fun h1 => ?_⟩
  · rw [chkL, if_pos (by omega)] at h; exact h
  rw [chkL, if_neg (by omega)] at h
  let pv : Nat → Option ByteArray := fun i => if i = 0 then none else (ls[i - 1]?).map (·.1)
  suffices H : ∀ d i : Nat, n - i = d → i ≤ n → chkLs none ls = chkLs (pv i) (ls.drop i) → label_Check.pt16 R p n c p n c n i σ from H n 0 rfl (Nat.zero_le _) rfl
  intro d
  induction d with
  | zero =>
    intro i hd hi he
    refine label_Check.pt16_of ⟨fun hlt => by omega, fun _ => ?_⟩
    rw [List.drop_of_length_le (by omega)] at he
    rw [he] at h; exact h
  | succ d ih =>
    intro i hd hi he
    have hi' : i < n := by omega
    obtain ⟨x, hx⟩ := hr.ex hi'
    obtain ⟨b, o, rfl, hl⟩ := RdL.at hr hx
    rw [drop_at hx, chkLs] at he
    have out : ∀ e : Int, chkLs none ls = e → R (.returned (.int .i64 e)) σ := fun e h1 => h1 ▸ h
    refine label_Check.pt16_of ⟨fun _ => ?_, fun hh => by omega⟩
    refine ⟨b, o, rfl, by omega, x.1, x.2, by simpa using hl, fun _ => labelName_spec ⟨_, rfl, fun h1 => out _ ?_, fun h1 => ?_⟩⟩
    · rw [he, if_pos h1]
    rw [if_neg (by simp [h1])] at he
    rw [size0]
    refine ⟨fun h2 => out _ ?_, fun h2 => ⟨fun h3 => out _ ?_, fun h3 => labelValid_spec (by omega) ⟨_, rfl, fun h4 => out _ ?_, fun h4 => ?_⟩⟩⟩
    · rw [he, if_pos (.inl (by simpa using h2))]
    · rw [he, if_pos (.inr (.inl (by omega)))]
    · rw [he, if_pos (.inr (.inr h4))]
    rw [if_neg (by rw [decide_eq_false_iff_not] at h2; simp [h2, h4]; omega)] at he
    have nx : pv (i + 1) = some x.1 := by simp [pv, hx]
    have go : (pv i).any (sle x.1 ·) = false → label_Check.pt16 R (aD b o) n c (aD b o) n c n ((i : Int) + 1) σ := fun h5 => by
      rw [if_neg (by simp [h5]), ← nx] at he
      exact ih (i + 1) (by omega) (by omega) he
    refine ⟨fun h5 => ?_, fun h5 => ⟨i64_succ hi' hr.big, go ?_⟩⟩
    · obtain ⟨y, hy⟩ := hr.ex (k := i - 1) (by omega)
      obtain ⟨b', o', hp, hl'⟩ := RdL.at hr hy
      cases hp
      have e1 : ((i : Int) - 1).toNat = i - 1 := by omega
      have hpv : pv i = some y.1 := by simp [pv, hy, show i ≠ 0 by omega]
      refine ⟨by have := hr.big; unfold I64; omega, b, o, rfl, by omega, y.1, by rw [e1]; exact hl'.1, _, leq_yf, fun h6 => out _ ?_, fun h6 => ⟨i64_succ hi' hr.big, go ?_⟩⟩
      · rw [he, if_pos (by rw [hpv]; exact h6)]
      · rw [hpv]; exact h6
    · have : i = 0 := by omega
      simp [pv, this]
theorem chkLs_mem : ∀ {ls : List Lb} {pv : Option ByteArray}, chkLs pv ls = 0 → ∀ x ∈ ls, lnOk x.1 = true ∧ 0 < x.2.size ∧ x.2.size ≤ 256 ∧ lvOk x.2 = true
  | [], _, _, _, hx => by cases hx
  | y :: l, pv, h, x, hx => by
    rw [chkLs] at h
    split at h
    · cases h
    split at h
    · cases h
    split at h
    · cases h
    rename_i h1 h2 h3
    rcases List.mem_cons.1 hx with rfl | hx
    · simp only [not_or, Bool.not_eq_false] at h1 h2
      exact ⟨h1, by omega, by omega, h2.2.2⟩
    · exact chkLs_mem h x hx
def SmallL (ls : List Lb) : Prop := ls.length ≤ 16 ∧ ∀ x ∈ ls, x.1.size ≤ 256 ∧ x.2.size ≤ 256
theorem SmallL.of {ls : List Lb} (h : chkL ls = 0) : SmallL ls := by
  unfold chkL at h
  split at h
  · cases h
  · refine ⟨by omega, fun x hx => ?_⟩
    obtain ⟨h1, _, h2, _⟩ := chkLs_mem h x hx
    simp [lnOk] at h1
    exact ⟨by omega, h2⟩
theorem ELb.one (σ : Hp) (vs : List Value) (x : Lb) (h : ELb σ vs x) : OneC vs := by
  rw [h]
  intro u hu
  simp only [List.mem_cons, List.not_mem_nil, or_false] at hu
  rcases hu with rfl | rfl <;> rfl
theorem copyL_eff {σ1 : Hp} {q : Option Addr} {j c b : Nat} {ls : List Lb} {ty : TypeId} {Φ : Value → Hp → Prop} (ht : RdL σ1 q j ls) (hb : j ≤ 1000000000)
    (hΦ : ∀ p' c' σ', OwnL 2 ELb (σ1.new σ') p' j c' ls → Ext σ1 σ' → Φ (.slice p' j c') σ') (hn : σ1 b = none) :
    Eff prog (Builtin.append_ #[33, 33] ty #[.slice (some ⟨b, 0, none⟩) 0 0, .slice q j c]) (σ1.set b (.cells #[] 58 (0, 0))) Φ := by
  obtain ⟨h1, cs, h2, h3⟩ := ht
  refine app_eff Own.empty (h2.mono (.set hn)) (Ch.oneC ELb.one h3 (by decide)) (by omega) fun p' c' σ' hown hext => ?_
  have hq : ∀ a : Addr, (some (⟨b, 0, none⟩ : Addr)) = some a → σ1 a.block = none := fun a ha => by cases ha; exact hn
  rw [Nat.zero_add] at hown ⊢
  rw [List.nil_append] at hown
  exact hΦ p' c' σ' ⟨h1, cs, Own.to_new hown (new_block hq hext (.set hn)), h3⟩ (ext_new hq hext (.set hn))
def encL1 (x : Lb) : List Int := uv x.1.size ++ byt x.1 ++ (uv x.2.size ++ byt x.2)
def encL (ls : List Lb) : List Int := uv ls.length ++ ls.flatMap encL1
theorem encL1_len {x : Lb} (h : x.1.size ≤ 256 ∧ x.2.size ≤ 256) : (encL1 x).length ≤ 532 := by
  have h1 := uv_len10 (x := x.1.size) (by omega)
  have h2 := uv_len10 (x := x.2.size) (by omega)
  simp only [encL1, List.length_append, byt_len]
  omega
theorem flat_len {ls : List Lb} (h : ∀ x ∈ ls, x.1.size ≤ 256 ∧ x.2.size ≤ 256) : (ls.flatMap encL1).length ≤ ls.length * 532 := by
  induction ls with
  | nil => simp
  | cons x l ih =>
    have := ih fun y hy => h y (List.mem_cons_of_mem _ hy)
    have := encL1_len (h x (by simp))
    rw [List.flatMap_cons, List.length_append, List.length_cons]
    omega
theorem encodeL_spec {p : Option Addr} {n c : Nat} {ls : List Lb} (hr : RdL σ p n ls) (hs : SmallL ls) (h : ∀ p' n' c' σ', OwnI .u8 (σ.new σ') p' n' c' (encL ls) → Ext σ σ' → R (.returned (.slice p' n' c')) σ') : Spec prog 46 #[.slice p n c] σ R := by
  have hn : ls.length = n := hr.1
  have h16 := hs.1
  refine label_Encode.start fun x8 h8 => ?_
  have e8 : x8 = (n : Int) := by rw [h8]; simp [IntKind.wrap, IntKind.bits, IntKind.signed]; omega
  subst e8
  refine putUint_spec RdS.nil (by omega) (by omega) fun p1 n1 c1 σ1 ho1 hx1 => ⟨p1, n1, c1, rfl, ?_⟩
  rw [List.nil_append] at ho1
  suffices H : ∀ d k : Nat, ∀ p3 n3 c3 σ3, n - k = d → k ≤ n → OwnI .u8 (σ.new σ3) p3 n3 c3 (uv n ++ (ls.take k).flatMap encL1) → Ext σ σ3 → label_Encode.pt10 R p3 n3 c3 p n c n k σ3 from H n 0 p1 n1 c1 σ1 rfl (Nat.zero_le _) (by simpa using ho1) hx1
  intro d
  induction d with
  | zero =>
    intro k p3 n3 c3 σ3 hd hk ho hx
    refine label_Encode.pt10_of ⟨fun hlt => by omega, fun _ => h p3 n3 c3 σ3 ?_ hx⟩
    rw [List.take_of_length_le (by omega)] at ho
    rw [encL, hn]; exact ho
  | succ d ih =>
    intro k p3 n3 c3 σ3 hd hk ho hx
    have hk' : k < n := by omega
    obtain ⟨y, hy⟩ := hr.ex hk'
    obtain ⟨b, o, rfl, hl⟩ := RdL.at hr hy
    have hsy := hs.2 y (List.mem_of_getElem? hy)
    have hl3 := putText_len ho
    have h10 := uv_len10 (x := n) (by omega)
    have hfl := flat_len (ls := ls.take k) fun x hx => hs.2 x (List.mem_of_mem_take hx)
    rw [List.length_append] at hl3
    rw [List.length_take] at hfl
    have h3b : n3 ≤ 9000 := by omega
    refine label_Encode.pt10_of ⟨fun _ => ⟨b, o, rfl, by omega, y.1, y.2, by simpa using hl.mono hx, fun _ => ?_⟩, fun hh => by omega⟩
    refine putText_spec (OwnI.rd (Own.mono (Ext.of_new _ _) ho)) (by omega) (by omega) fun p4 n4 c4 σ4 ho4 hx4 => ⟨p4, n4, c4, rfl, ?_⟩
    have hl4 := putText_len ho4
    have hu1 := uv_len10 (x := y.1.size) (by omega)
    simp only [List.length_append, byt_len] at hl4
    refine putText_spec (OwnI.rd (Own.mono (Ext.of_new _ _) ho4)) (by omega) (by omega) fun p5 n5 c5 σ5 ho5 hx5 => ⟨p5, n5, c5, rfl, i64_succ hk' hr.big, ?_⟩
    refine ih (k + 1) p5 n5 c5 σ5 (by omega) (by omega) ?_ (hx.trans (hx4.trans hx5))
    have := Own.mono (Ext.new_trans (hx.trans hx4)) ho5
    rw [take_succ' hy, List.flatMap_append]
    simpa [encL1, OwnI] using this
end
end TwW
namespace TwW
open Go Tw Go.RowKit Go.Proofs.Tryz
section
variable {σ σ' τ : Hp} {R : Ending → Hp → Prop}
def memS (x : ByteArray) (xs : List ByteArray) : Bool := xs.any fun y => decide (x = y)
theorem memS_iff {x : ByteArray} {xs : List ByteArray} : memS x xs = true ↔ x ∈ xs := by simp [memS]
theorem containsS_spec {p : Option Addr} {n c : Nat} {x : ByteArray} {xs : List ByteArray} (hr : RdC 1 σ p n (xs.map .string)) (h : R (.returned (.bool (memS x xs))) σ) : Spec prog 138 #[.slice p n c, .string x] σ R := by
  have hn : xs.length = n := by have := hr.1; simpa using this
  have hbig : n ≤ 4611686018427387904 := hr.2.1
  have key : ∀ i : Int, (0 ≤ i ↔ x ∈ xs) → Cont R (CI .i64 fun x7 y => R (.returned (.bool (decide (0 ≤ x7)))) y) (.returned (.int .i64 i)) σ := fun i hi => ⟨i, rfl, by
    dsimp only
    rw [show decide (0 ≤ i) = memS x xs by rw [Bool.eq_iff_iff, memS_iff, decide_eq_true_eq]; exact hi]; exact h⟩
  refine slices_Contains_string.start (slices_Index_string.start ?_)
  suffices H : ∀ d k : Nat, n - k = d → k ≤ n → x ∉ xs.take k → slices_Index_string.pt8 (Cont R (CI .i64 fun x7 y => R (.returned (.bool (decide (0 ≤ x7)))) y)) p n c x n k σ from H n 0 rfl (Nat.zero_le _) (by simp)
  intro d
  induction d with
  | zero =>
    intro k hd hk hno
    refine slices_Index_string.pt8_of ⟨fun hlt => by omega, fun _ => key (-1) ?_⟩
    rw [List.take_of_length_le (by omega)] at hno
    exact ⟨fun h => absurd h (by decide), fun h => absurd h hno⟩
  | succ d ih =>
    intro k hd hk hno
    have hk' : k < n := by omega
    obtain ⟨y, hy⟩ : ∃ y, xs[k]? = some y := ⟨_, List.getElem?_eq_getElem (by omega)⟩
    obtain ⟨b, o, rfl, hl⟩ := RdC.at1 hr (k := k) (v := .string y) (by rw [List.getElem?_map, hy]; rfl)
    refine slices_Index_string.pt8_of ⟨fun _ => ⟨b, o, rfl, by omega, y, by simpa using hl, fun he => key k ⟨fun _ => ?_, fun _ => by omega⟩, fun hne => ⟨i64_succ hk' hbig, ih (k + 1) (by omega) (by omega) ?_⟩⟩, fun hge => by omega⟩
    · rw [eqS, decide_eq_true_eq] at he
      rw [he]; exact List.mem_of_getElem? hy
    · rw [eqS, decide_eq_false_iff_not] at hne
      rw [mem_take_succ hy]
      rintro (h1 | h1)
      · exact hno h1
      · exact hne h1
theorem filter_spec {f : Nat} {cap : Array Value} {g : Lb → Bool} {p : Option Addr} {n c : Nat} {ls : List Lb} (hen : Enters prog f) (hr : RdL σ p n ls) (hn : n ≤ 1000000)
    (hf : ∀ (σ' : Hp) (x : Lb) (R' : Ending → Hp → Prop), Ext σ σ' → R' (.returned (.bool (g x))) σ' → Spec prog f (#[] ++ #[.agg #[.string x.1, .string x.2]] ++ cap) σ' R')
    (h : ∀ p' n' c' σ', OwnL 2 ELb (σ.new σ') p' n' c' (ls.filter g) → Ext σ σ' → R (.returned (.slice p' n' c')) σ') : Spec prog 136 #[.slice p n c, .func (.func f) #[] cap] σ R := by
  have hl0 : ls.length = n := hr.1
  refine label_filter.start ?_
  suffices H : ∀ d k : Nat, ∀ p5 n5 c5 σ5, n - k = d → k ≤ n → OwnL 2 ELb (σ.new σ5) p5 n5 c5 ((ls.take k).filter g) → Ext σ σ5 → label_filter.pt10 R (.func (.func f) #[] cap) p5 n5 c5 p n c n k σ5 from H n 0 none 0 0 σ rfl (Nat.zero_le _) OwnL.nil (.refl _)
  intro d
  induction d with
  | zero =>
    intro k p5 n5 c5 σ5 hd hk ho hx
    refine label_filter.pt10_of ⟨fun hlt => by omega, fun _ => h p5 n5 c5 σ5 ?_ hx⟩
    rw [List.take_of_length_le (by omega)] at ho; exact ho
  | succ d ih =>
    intro k p5 n5 c5 σ5 hd hk ho hx
    have hk' : k < n := by omega
    obtain ⟨x, hxk⟩ := hr.ex hk'
    obtain ⟨b, o, rfl, hl⟩ := RdL.at hr hxk
    have hn5 : n5 ≤ n := by
      have h1 := ho.1
      have h2 := List.length_filter_le g (ls.take k)
      rw [List.length_take] at h2
      omega
    have ht : (ls.take (k + 1)).filter g = (ls.take k).filter g ++ if g x then [x] else [] := by
      rw [take_succ' hxk, List.filter_append]
      by_cases hg : g x <;> simp [hg]
    refine label_filter.pt10_of ⟨fun _ => ⟨b, o, rfl, by omega, x.1, x.2, by simpa using hl.mono hx, fun _ => ⟨f, #[], cap, rfl, hen, hf σ5 x _ hx ⟨_, rfl, fun hg b19 hb19 => ?_, fun hg => ?_⟩⟩⟩, fun hh => by omega⟩
    · refine OwnL.app1 ELb.mono (vs := [.string x.1, .string x.2]) (x := x) hx ho rfl (ELb.one σ _ _ rfl) rfl (by omega) (fun p' c' σ' ho' hx' => ⟨_, _, _, rfl, label_filter.pt24_of ⟨i64_succ hk' hr.big, ih (k + 1) _ _ _ _ (by omega) (by omega) ?_ hx'⟩⟩) hb19
      rw [ht, if_pos hg]; exact ho'
    · refine label_filter.pt24_of ⟨i64_succ hk' hr.big, ih (k + 1) _ _ _ _ (by omega) (by omega) ?_ hx⟩
      rw [ht, if_neg (by simp [hg]), List.append_nil]; exact ho
theorem en270 : Enters prog 139 := fun args w => call139 args w
theorem without_spec {p q : Option Addr} {n c m d : Nat} {ls : List Lb} {ns : List ByteArray} (hr : RdL σ p n ls) (hn : n ≤ 1000000) (hs : RdC 1 σ q m (ns.map .string))
    (h : ∀ p' n' c' σ', OwnL 2 ELb (σ.new σ') p' n' c' (ls.filter fun x => !memS x.1 ns) → Ext σ σ' → R (.returned (.slice p' n' c')) σ') : Spec prog 92 #[.slice p n c, .slice q m d] σ R := by
  refine label_Without.start fun b3 hb3 => ?_
  have hx3 : Ext σ (σ.set b3 (.cells #[.slice q m d] 50 (0, 0))) := .set hb3
  refine filter_spec (f := 139) (g := fun x => !memS x.1 ns) en270 (hr.mono ELb.mono hx3) hn (fun σ' x R' hx hR' => ?_) fun p' n' c' σ' ho hx => ⟨_, _, _, rfl, h p' n' c' σ' ?_ (hx3.trans hx)⟩
  · refine label_Without_1.start fun _ => ⟨q, m, d, ld_of (hx _ _ (Hp.set_same _ _ _)) rfl, containsS_spec (hs.mono (hx3.trans hx)) ⟨_, rfl, hR'⟩⟩
  · exact ho.mono ELb.mono (Ext.new_trans hx3)
end
end TwW
namespace TwW
open Go Tw Go.RowKit Go.Proofs.Tryz
section
variable {σ σ' τ : Hp} {R : Ending → Hp → Prop}
theorem lit_rd {α : Type} {b : Nat} {T : TypeId} {f : α → Value} {x : α} {ρ : Hp} (h : ρ b = some (.cells #[f x] T (0, 0))) : RdC 1 ρ (some ⟨b, 0, none⟩) 1 ([x].map f) := ⟨rfl, by omega, .inr ⟨b, 0, rfl, ⟨ld_of h rfl, trivial⟩⟩⟩
end
end TwW
end
section
namespace TwW
open Go Tw
structure Mt where
  kind : Int
  name : ByteArray
  val : ByteArray
structure Nd where
  kind : Int
  op : Int
  text : ByteArray
  mt : List Mt
  width : Int
  back : Int
  grp : Int
  names : List ByteArray
  bool : Bool
  parts : Int
structure Sr where
  ls : List Lb
  ps : List (Int × Int)
structure El where
  ls : List Lb
  v : Int
structure Rg where
  ls : List Lb
  vs : List Int
structure Vv where
  kind : Int
  v : Int
  vec : List El
  rng : List Rg
structure Fl where
  num : ByteArray → Int
  abs : Int → Int
  floor : Int → Int
  whole : Int → Int
  turn : Int → Int
  over : Int → List Int → Int → Option Int
  fold : Int → List Int → Int
  sing : Int → Int → Int → Int × Bool
  says : List Mt → List Lb → Bool
  cmpL : List Lb → List Lb → Int
abbrev stale : Int := 9218868437227405314
def kName : ByteArray := ⟨#[95, 95, 110, 97, 109, 101, 95, 95]⟩
def keyL (ls : List Lb) : ByteArray := strOfNums (encL ls)
section
variable {α : Type}
def setM : List (ByteArray × α) → ByteArray → α → List (ByteArray × α)
  | [], k, x => [(k, x)]
  | (a, b) :: l, k, x => if a = k then (k, x) :: l else (a, b) :: setM l k x
def lookM : List (ByteArray × α) → ByteArray → Option α
  | [], _ => none
  | (a, b) :: l, k => if a = k then some b else lookM l k
end
def bareF (ls : List Lb) : List Lb := ls.filter fun x => !memS x.1 [kName]
def keepF (ns : List ByteArray) (ls : List Lb) : List Lb := ls.filter fun x => memS x.1 ns
def dropF (ns : List ByteArray) (ls : List Lb) : List Lb := ls.filter fun x => !memS x.1 ns
section
variable (F : Fl)
def insE (x : El) : List El → List El
  | [] => [x]
  | y :: l => if F.cmpL x.ls y.ls ≤ 0 then x :: y :: l else y :: insE x l
def sortE (l : List El) : List El := l.foldr (insE F) []
def vecF (l : List El) : Option (List El) := if l.Pairwise (fun a b => F.cmpL a.ls b.ls ≠ 0) then some (sortE F l) else none
def ptsF (ps : List (Int × Int)) (above most : Int) : List (Int × Int) := ps.filter fun p => decide (above < p.1) && decide (p.1 ≤ most)
def choiceF (n : Nd) (ss : List Sr) (at_ : Int) : List El := ss.filterMap fun s => match (ptsF s.ps (at_ - n.back - 300) (at_ - n.back)).getLast? with
  | none => none
  | some p => if p.2 = stale ∨ F.says n.mt s.ls = false then none else some ⟨s.ls, p.2⟩
def reachF (n : Nd) (ss : List Sr) (at_ : Int) : List Rg := ss.filterMap fun s =>
  let vs := ((ptsF s.ps (at_ - n.back - n.width) (at_ - n.back)).filter fun p => decide (p.2 ≠ stale)).map Prod.snd
  bif !vs.isEmpty && F.says n.mt s.ls then some ⟨s.ls, vs⟩ else none
def callF (n : Nd) (p : Vv) : List El := (p.vec.map fun x => ⟨bareF x.ls, if n.op = 11 then F.abs x.v else F.floor x.v⟩) ++ p.rng.filterMap fun s => (F.over n.op s.vs p.v).map fun v => ⟨bareF s.ls, v⟩
def groupL (n : Nd) (ls : List Lb) : List Lb := if n.grp = 1 then keepF n.names ls else if n.grp = 2 then bareF (dropF n.names ls) else []
def addG (ls : List Lb) (v : Int) : List Rg → List Rg
  | [] => [⟨ls, [v]⟩]
  | g :: l => if keyL g.ls = keyL ls then ⟨g.ls, g.vs ++ [v]⟩ :: l else g :: addG ls v l
def aggF (n : Nd) (p : Vv) : List El := (p.vec.foldl (fun gs x => addG (groupL n x.ls) x.v gs) []).map fun g => ⟨g.ls, F.fold n.op g.vs⟩
def cmpsF (op : Int) : Bool := decide (5 ≤ op) && decide (op ≤ 10)
def mixF (n : Nd) (vec : List El) (f : Int → Int × Bool) : List El := vec.filterMap fun x =>
  if cmpsF n.op = false ∨ n.bool = true then some ⟨bareF x.ls, (f x.v).1⟩ else if (f x.v).2 then some x else none
def byF (n : Nd) (ls : List Lb) : List Lb := if n.grp = 3 then keepF n.names ls else bareF (dropF n.names ls)
def keyM (n : Nd) (l : List El) : List (ByteArray × El) := l.foldl (fun m x => setM m (keyL (byF n x.ls)) x) []
def lastE (n : Nd) (l : List El) (k : List Lb) : Option El := lookM (keyM n l) (keyL k)
def oneF (n : Nd) (l : List El) : Bool := decide ((keyM n l).length = l.length)
def setsF (n : Nd) (x y : List El) : List El :=
  (x.filter fun e => decide (n.op = 12) || ((lastE n y (byF n e.ls)).isSome == decide (n.op = 11))) ++ y.filter fun e => (lastE n x (byF n e.ls)).isNone && decide (n.op = 12)
def vecsF (n : Nd) (x y : List El) : Option (List El) := if oneF n x && oneF n y then some (x.filterMap fun e => match lastE n y (byF n e.ls) with
  | none => none
  | some o => if cmpsF n.op = false ∨ n.bool = true then some ⟨byF n e.ls, (F.sing n.op e.v o.v).1⟩ else if (F.sing n.op e.v o.v).2 then some e else none) else none
def binF (n : Nd) (x y : Vv) : Option Vv :=
  if x.kind = 1 ∧ y.kind = 1 then some ⟨1, (F.sing n.op x.v y.v).1, [], []⟩
  else ((if x.kind = 1 then some (mixF n y.vec (F.sing n.op x.v)) else if y.kind = 1 then some (mixF n x.vec fun v => F.sing n.op v y.v) else if 11 ≤ n.op ∧ n.op ≤ 13 then some (setsF n x.vec y.vec) else vecsF F n x.vec y.vec).bind (vecF F)).map fun l => ⟨2, 0, l, []⟩
def negF (p : Vv) : Option Vv := if p.kind = 1 then some ⟨1, F.turn p.v, [], []⟩ else (vecF F (p.vec.map fun x => ⟨bareF x.ls, F.turn x.v⟩)).map fun l => ⟨2, 0, l, []⟩
def nodeF (ss : List Sr) (at_ : Int) (n : Nd) (l : List Vv) : Option Vv :=
  if n.kind = 1 then some ⟨1, F.num n.text, [], []⟩
  else if n.kind = 2 then some ⟨2, 0, choiceF F n ss at_, []⟩
  else if n.kind = 3 then some ⟨3, F.whole n.width, [], reachF F n ss at_⟩
  else match l with
    | [p] => if n.kind = 4 then (vecF F (callF F n p)).map fun l => ⟨2, 0, l, []⟩ else if n.kind = 5 then (vecF F (aggF F n p)).map fun l => ⟨2, 0, l, []⟩ else if n.kind = 7 then negF F p else none
    | [p, q] => if n.kind = 6 then binF F n p q else none
    | _ => none
def runF (ss : List Sr) (at_ : Int) : List Nd → List Vv → Option (List Vv)
  | [], st => some st
  | n :: t, st => (nodeF F ss at_ n (st.drop (st.length - n.parts.toNat))).bind fun v => runF ss at_ t (st.take (st.length - n.parts.toNat) ++ [v])
def momentF (t : List Nd) (ss : List Sr) (at_ : Int) : Option (List El) := (runF F ss at_ t []).bind fun st => st.head?.map fun v => if v.kind = 1 then [⟨[], v.v⟩] else v.vec
end
section
variable {F : Fl}
end
end TwW
end
section
namespace TwW
open Go Tw
structure CmpOk {α : Type} (c : α → α → Int) : Prop where
  eq : ∀ x y, c x y = 0 ↔ x = y
  anti : ∀ x y, c x y < 0 ↔ 0 < c y x
  trans : ∀ x y z, c x y < 0 → c y z < 0 → c x z < 0
def lexL {α : Type} (c : α → α → Int) : List α → List α → Int
  | [], [] => 0
  | [], _ :: _ => -1
  | _ :: _, [] => 1
  | x :: l, y :: m => if c x y = 0 then lexL c l m else c x y
def lex2 {α β : Type} (c : α → α → Int) (d : β → β → Int) (x y : α × β) : Int := if c x.1 y.1 = 0 then d x.2 y.2 else c x.1 y.1
theorem CmpOk.lexL {α : Type} {c : α → α → Int} (h : CmpOk c) : CmpOk (lexL c) := by
  refine ⟨fun l => ?_, fun l => ?_, fun l => ?_⟩
  · induction l with
    | nil => intro m; cases m <;> simp [TwW.lexL]
    | cons x l ih =>
      intro m
      cases m with
      | nil => simp [TwW.lexL]
      | cons y m =>
        unfold TwW.lexL
        by_cases hc : c x y = 0
        · rw [if_pos hc, ih]; simp [(h.eq x y).1 hc]
        · rw [if_neg hc]; simp [hc, mt (h.eq x y).2 hc]
  · induction l with
    | nil => intro m; cases m <;> simp [TwW.lexL]
    | cons x l ih =>
      intro m
      cases m with
      | nil => simp [TwW.lexL]
      | cons y m =>
        unfold TwW.lexL
        by_cases hc : c x y = 0
        · have hxy := (h.eq x y).1 hc
          rw [if_pos hc, if_pos ((h.eq y x).2 hxy.symm), ih]
        · have hc' : c y x ≠ 0 := fun e => hc ((h.eq x y).2 ((h.eq y x).1 e).symm)
          rw [if_neg hc, if_neg hc', h.anti]
  · induction l with
    | nil =>
      intro m k h1 h2
      cases m with
      | nil => simp [TwW.lexL] at h1
      | cons y m =>
        cases k with
        | nil => simp [TwW.lexL] at h2
        | cons z k => simp [TwW.lexL]
    | cons x l ih =>
      intro m k h1 h2
      cases m with
      | nil => simp [TwW.lexL] at h1
      | cons y m =>
        cases k with
        | nil => simp [TwW.lexL] at h2
        | cons z k =>
          unfold TwW.lexL at h1 h2 ⊢
          by_cases hxy : c x y = 0
          · rw [if_pos hxy] at h1
            have e := (h.eq x y).1 hxy
            subst e
            by_cases hyz : c x z = 0
            · rw [if_pos hyz] at h2 ⊢; exact ih m k h1 h2
            · rw [if_neg hyz] at h2 ⊢; exact h2
          · rw [if_neg hxy] at h1
            by_cases hyz : c y z = 0
            · rw [if_pos hyz] at h2
              have e := (h.eq y z).1 hyz
              subst e
              rw [if_neg hxy]; exact h1
            · rw [if_neg hyz] at h2
              have h3 := h.trans x y z h1 h2
              rw [if_neg (by omega)]; exact h3
theorem CmpOk.lex2 {α β : Type} {c : α → α → Int} {d : β → β → Int} (h : CmpOk c) (g : CmpOk d) : CmpOk (lex2 c d) := by
  refine ⟨fun x y => ?_, fun x y => ?_, fun x y z h1 h2 => ?_⟩
  · obtain ⟨x1, x2⟩ := x
    obtain ⟨y1, y2⟩ := y
    unfold TwW.lex2
    by_cases hc : c x1 y1 = 0
    · simp only [hc, if_pos]; rw [g.eq]; simp [(h.eq x1 y1).1 hc]
    · simp only [hc, if_false]; simp [hc, mt (h.eq x1 y1).2 hc]
  · unfold TwW.lex2
    by_cases hc : c x.1 y.1 = 0
    · rw [if_pos hc, if_pos ((h.eq _ _).2 ((h.eq _ _).1 hc).symm), g.anti]
    · rw [if_neg hc, if_neg (fun e => hc ((h.eq _ _).2 ((h.eq _ _).1 e).symm)), h.anti]
  · unfold TwW.lex2 at h1 h2 ⊢
    by_cases hxy : c x.1 y.1 = 0
    · rw [if_pos hxy] at h1
      rw [(h.eq _ _).1 hxy]
      by_cases hyz : c y.1 z.1 = 0
      · rw [if_pos hyz] at h2 ⊢; exact g.trans _ _ _ h1 h2
      · rw [if_neg hyz] at h2 ⊢; exact h2
    · rw [if_neg hxy] at h1
      by_cases hyz : c y.1 z.1 = 0
      · rw [if_pos hyz] at h2
        rw [← (h.eq _ _).1 hyz, if_neg hxy]; exact h1
      · rw [if_neg hyz] at h2
        have h3 := h.trans _ _ _ h1 h2
        rw [if_neg (by omega)]; exact h3
def cmpU (a b : UInt8) : Int := if a < b then -1 else if b < a then 1 else 0
theorem cmpU_lt {a b : UInt8} : cmpU a b < 0 ↔ a.toNat < b.toNat := by
  unfold cmpU
  by_cases h : a < b
  · have := UInt8.lt_iff_toNat_lt.1 h; simp [h, this]
  · have h' := mt UInt8.lt_iff_toNat_lt.2 h
    rw [if_neg h]
    by_cases g : b < a <;> simp [g] <;> omega
theorem cmpU_gt {a b : UInt8} : 0 < cmpU a b ↔ b.toNat < a.toNat := by
  unfold cmpU
  by_cases h : a < b
  · have := UInt8.lt_iff_toNat_lt.1 h; simp [h]; omega
  · rw [if_neg h]
    by_cases g : b < a
    · have := UInt8.lt_iff_toNat_lt.1 g; simp [g, this]
    · have h' := mt UInt8.lt_iff_toNat_lt.2 g; simp [g]; omega
theorem cmpU_ok : CmpOk cmpU := by
  refine ⟨fun x y => ?_, fun x y => ?_, fun x y z h1 h2 => ?_⟩
  · have h1 := @cmpU_lt x y
    have h2 := @cmpU_gt x y
    rw [← UInt8.toNat_inj]; omega
  · rw [cmpU_lt, cmpU_gt]
  · rw [cmpU_lt] at *; omega
theorem lexU : ∀ a b : List UInt8, lexL cmpU a b = Lib.compareBytes a b
  | [], [] => rfl
  | [], _ :: _ => rfl
  | _ :: _, [] => rfl
  | x :: l, y :: m => by
    unfold lexL Lib.compareBytes
    rw [← lexU l m]
    unfold cmpU
    by_cases h1 : x < y
    · simp [h1]
    · by_cases h2 : y < x <;> simp [h1, h2]
def cmpB (a b : ByteArray) : Int := Lib.compareBytes a.data.toList b.data.toList
theorem cmpB_ok : CmpOk cmpB := by
  have h := cmpU_ok.lexL
  refine ⟨fun x y => ?_, fun x y => ?_, fun x y z h1 h2 => ?_⟩
  · unfold cmpB
    rw [← lexU, h.eq]
    exact ⟨fun e => by cases x; cases y; simp at e; rw [e], fun e => by rw [e]⟩
  · unfold cmpB; rw [← lexU, ← lexU]; exact h.anti _ _
  · unfold cmpB at *; rw [← lexU] at *; exact h.trans _ _ _ h1 h2
def cmpLs : List Lb → List Lb → Int := lexL (lex2 cmpB cmpB)
theorem cmpLs_ok : CmpOk cmpLs := (cmpB_ok.lex2 cmpB_ok).lexL
section
variable {F : Fl} (hF : F.cmpL = cmpLs)
theorem insE_perm (x : El) : ∀ l : List El, (insE F x l).Perm (x :: l)
  | [] => List.Perm.refl _
  | y :: l => by
    unfold insE
    split
    · exact List.Perm.refl _
    · exact ((insE_perm x l).cons y).trans (List.Perm.swap ..)
theorem sortE_perm : ∀ l : List El, (sortE F l).Perm l
  | [] => List.Perm.refl _
  | x :: l => (insE_perm x _).trans ((sortE_perm l).cons x)
include hF
theorem le_trans' {x y z : El} (h1 : F.cmpL x.ls y.ls ≤ 0) (h2 : F.cmpL y.ls z.ls ≤ 0) : F.cmpL x.ls z.ls ≤ 0 := by
  rw [hF] at *
  rcases Int.lt_or_eq_of_le h1 with g1 | g1
  · rcases Int.lt_or_eq_of_le h2 with g2 | g2
    · exact Int.le_of_lt (cmpLs_ok.trans _ _ _ g1 g2)
    · rw [← (cmpLs_ok.eq _ _).1 g2]; exact h1
  · rw [(cmpLs_ok.eq _ _).1 g1]; exact h2
theorem insE_sorted (x : El) : ∀ l : List El, l.Pairwise (fun a b => F.cmpL a.ls b.ls ≤ 0) → (insE F x l).Pairwise fun a b => F.cmpL a.ls b.ls ≤ 0
  | [], _ => by simp [insE]
  | y :: l, h => by
    rw [List.pairwise_cons] at h
    unfold insE
    split
    · rename_i hxy
      refine List.pairwise_cons.2 ⟨fun z hz => ?_, List.pairwise_cons.2 h⟩
      rcases List.mem_cons.1 hz with rfl | hz
      · exact hxy
      · exact le_trans' hF hxy (h.1 z hz)
    · rename_i hxy
      refine List.pairwise_cons.2 ⟨fun z hz => ?_, insE_sorted x l h.2⟩
      rcases List.mem_cons.1 ((insE_perm x l).mem_iff.1 hz) with rfl | hz
      · have h1 : 0 < F.cmpL z.ls y.ls := by omega
        rw [hF] at *
        exact Int.le_of_lt ((cmpLs_ok.anti _ _).2 h1)
      · exact h.1 z hz
theorem sortE_sorted : ∀ l : List El, (sortE F l).Pairwise fun a b => F.cmpL a.ls b.ls ≤ 0
  | [] => List.Pairwise.nil
  | x :: l => insE_sorted hF x _ (sortE_sorted l)
theorem sorted_is {l m : List El} (hp : m.Perm l) (hs : m.Pairwise fun a b => F.cmpL a.ls b.ls < 0) : vecF F l = some m := by
  have hne : m.Pairwise fun a b => F.cmpL a.ls b.ls ≠ 0 := hs.imp fun h => by omega
  have hne' : l.Pairwise fun a b => F.cmpL a.ls b.ls ≠ 0 := (hp.pairwise_iff fun {a b} h e => by
    rw [hF] at *
    exact h ((cmpLs_ok.eq _ _).2 ((cmpLs_ok.eq _ _).1 e).symm)).1 hne
  unfold vecF
  rw [if_pos hne']
  refine congrArg some (List.Perm.eq_of_pairwise (le := fun a b : El => F.cmpL a.ls b.ls ≤ 0) (fun a b ha hb h1 h2 => ?_) (sortE_sorted hF l) (hs.imp fun h => Int.le_of_lt h) ((sortE_perm l).trans hp.symm))
  have hab : F.cmpL a.ls b.ls = 0 := by
    refine Int.le_antisymm h1 (Int.not_lt.1 fun h3 => ?_)
    rw [hF] at *
    have := (cmpLs_ok.anti _ _).1 h3
    omega
  have ham := ((sortE_perm (F := F) l).trans hp.symm).mem_iff.1 ha
  obtain ⟨i, hi, rfl⟩ := List.mem_iff_getElem.1 ham
  obtain ⟨j, hj, rfl⟩ := List.mem_iff_getElem.1 hb
  have hpw := List.pairwise_iff_getElem.1 hne
  rcases Nat.lt_trichotomy i j with h | h | h
  · exact absurd hab (hpw i j hi hj h)
  · subst h; rfl
  · have h4 := hpw j i hj hi h
    rw [hF] at hab h4
    exact absurd ((cmpLs_ok.eq _ _).2 ((cmpLs_ok.eq _ _).1 hab).symm) h4
theorem sorted_no {l m : List El} (hp : m.Perm l) (h : ¬ m.Pairwise fun a b => F.cmpL a.ls b.ls ≠ 0) : vecF F l = none := by
  unfold vecF
  rw [if_neg fun hl => h ((hp.pairwise_iff fun {a b} h e => by
    rw [hF] at *
    exact h ((cmpLs_ok.eq _ _).2 ((cmpLs_ok.eq _ _).1 e).symm)).2 hl)]
end
end TwW
end
section
namespace TwW
open Go Tw
def cutB (c : UInt8) (s : ByteArray) : List ByteArray := Lib.splitB ⟨#[c]⟩ 0 (Lib.countB s ⟨#[c]⟩) s
def midK : List ByteArray → ByteArray → Bool
  | [], _ => true
  | t :: r, s => if Lib.index s.data.toList t.data.toList < 0 then false else midK r (s.extract ((Lib.index s.data.toList t.data.toList).toNat + t.size) s.size)
def isK (l : List ByteArray) (s : ByteArray) : Bool :=
  let a := l.head?.getD ⟨#[]⟩
  let z := l.getLast?.getD ⟨#[]⟩
  if l.length = 1 then decide (s = a) else
    if s.size < a.size + z.size ∨ s.extract 0 a.size ≠ a ∨ s.extract (s.size - z.size) s.size ≠ z then false else midK l.tail.dropLast (s.extract a.size (s.size - z.size))
def likeK (p s : ByteArray) : Bool := (cutB 124 p).any fun x => isK (cutB 42 x) s
def says1 (m : Mt) (ls : List Lb) : Bool :=
  let v := getL ls m.name
  if m.kind = 1 then decide (v = m.val) else if m.kind = 2 then decide (v ≠ m.val) else if m.kind = 3 then likeK m.val v else if m.kind = 4 then !likeK m.val v else false
def saysF (ms : List Mt) (ls : List Lb) : Bool := ms.all fun m => says1 m ls
def digB (u : UInt8) : Bool := decide (48 ≤ u.toNat ∧ u.toNat ≤ 57)
end TwW
end
section
namespace TwW
open Go Tw
def spanF (v least : Int) : Bool := decide (least ≤ v) && decide (v < 2147483648)
section
variable (nameOk : ByteArray → Bool) (numOk : ByteArray → Bool)
def namesF (n : Nd) : Bool := n.names.all nameOk && (decide (n.names.length = 0) || decide (n.grp ≠ 0))
def mtsOk (ms : List Mt) : Int := if 8 < ms.length then 41 else if ms.all (fun m => decide (1 ≤ m.kind ∧ m.kind ≤ 4) && nameOk m.name && decide (m.val.size ≤ 256)) then 0 else 40
end
end TwW
end
section
namespace TwW
open Go Tw Go.RowKit Go.Proofs.Tryz
abbrev Pt := Int × Int
def EPt (_ : Hp) (vs : List Value) (x : Pt) : Prop := vs = [.int .i64 x.1, .int .u64 x.2]
theorem EPt.mono : Mono EPt := fun _ _ _ _ _ h => h
def ESr (σ : Hp) (vs : List Value) (s : Sr) : Prop := ∃ p n c q m d, vs = [.slice p n c, .slice q m d] ∧ RdL σ p n s.ls ∧ RdS 2 EPt σ q m s.ps ∧ m ≤ d
theorem ESr.mono : Mono ESr := fun _ _ _ _ hx ⟨p, n, c, q, m, d, hv, h1, h2, h3⟩ => ⟨p, n, c, q, m, d, hv, h1.mono ELb.mono hx, h2.mono EPt.mono hx, h3⟩
def EMt (_ : Hp) (vs : List Value) (m : Mt) : Prop := vs = [.int .i64 m.kind, .string m.name, .string m.val]
theorem EMt.mono : Mono EMt := fun _ _ _ _ _ h => h
def ENd (σ : Hp) (vs : List Value) (n : Nd) : Prop := ∃ p k c q m d, vs = [.int .i64 n.kind, .int .i64 n.op, .string n.text, .slice p k c, .int .i64 n.width, .int .i64 n.back, .int .i64 n.grp, .slice q m d, .bool n.bool, .int .i64 n.parts] ∧ RdS 3 EMt σ p k n.mt ∧ RdC 1 σ q m (n.names.map .string)
theorem ENd.mono : Mono ENd := fun _ _ _ _ hx ⟨p, k, c, q, m, d, hv, h1, h2⟩ => ⟨p, k, c, q, m, d, hv, h1.mono EMt.mono hx, h2.mono hx⟩
def EEl (σ : Hp) (vs : List Value) (x : El) : Prop := ∃ p n c, vs = [.slice p n c, .int .u64 x.v] ∧ RdL σ p n x.ls
theorem EEl.mono : Mono EEl := fun _ _ _ _ hx ⟨p, n, c, hv, h⟩ => ⟨p, n, c, hv, h.mono ELb.mono hx⟩
def ERg (σ : Hp) (vs : List Value) (x : Rg) : Prop := ∃ p n c q m d, vs = [.slice p n c, .slice q m d] ∧ RdL σ p n x.ls ∧ RdI .u64 σ q m x.vs ∧ m ≤ d
theorem ERg.mono : Mono ERg := fun _ _ _ _ hx ⟨p, n, c, q, m, d, hv, h1, h2, h3⟩ => ⟨p, n, c, q, m, d, hv, h1.mono ELb.mono hx, h2.mono hx, h3⟩
def EVv (σ : Hp) (vs : List Value) (x : Vv) : Prop := ∃ p n c q m d, vs = [.int .i64 x.kind, .int .u64 x.v, .slice p n c, .slice q m d] ∧ RdS 2 EEl σ p n x.vec ∧ RdS 2 ERg σ q m x.rng
theorem EVv.mono : Mono EVv := fun _ _ _ _ hx ⟨p, n, c, q, m, d, hv, h1, h2⟩ => ⟨p, n, c, q, m, d, hv, h1.mono EEl.mono hx, h2.mono ERg.mono hx⟩
theorem RdS.sub {α : Type} {s : Nat} {E : Hp → List Value → α → Prop} {σ : Hp} {p : Option Addr} {n c i m : Nat} {xs : List α} (h : RdS s E σ p n xs) (hs : 0 < s) (him : i + m ≤ n) (hc : n ≤ c) : RdS s E σ (slP p i c s) m ((xs.drop i).take m) := by
  obtain ⟨h1, cs, ⟨h2, h3, h4⟩, h5, h6⟩ := h
  refine ⟨by rw [List.length_take, List.length_drop]; omega, (cs.drop (i * s)).take (m * s), ⟨?_, by omega, ?_⟩, ?_, fun j x hj => ?_⟩
  · have : i * s + m * s ≤ n * s := by rw [← Nat.add_mul]; exact Nat.mul_le_mul_right _ him
    rw [List.length_take, List.length_drop]; omega
  · rcases Nat.eq_zero_or_pos m with hm | hm
    · exact .inl hm
    · rcases h4 with h4 | ⟨b, o, rfl, h4⟩
      · omega
      · refine .inr ⟨b, o + i * s, ?_, ?_⟩
        · unfold slP
          rw [if_neg (by omega)]
          simp [add_off]
        · exact h4.part
  · have : i * s + m * s ≤ n * s := by rw [← Nat.add_mul]; exact Nat.mul_le_mul_right _ him
    rw [List.length_take, List.length_drop, List.length_take, List.length_drop]
    have : min m (xs.length - i) = m := by omega
    rw [this]; omega
  · rw [List.getElem?_take] at hj
    split at hj
    · rename_i hjm
      rw [List.getElem?_drop] at hj
      have := h6 (i + j) x hj
      have e : ((((cs.drop (i * s)).take (m * s)).drop (j * s)).take s) = (cs.drop ((i + j) * s)).take s := by
        have hle : j * s + s ≤ m * s := by rw [← Nat.succ_mul]; exact Nat.mul_le_mul_right _ hjm
        rw [List.drop_take, List.take_take, List.drop_drop, Nat.add_mul]
        congr 1
        omega
      rw [e]; exact this
    · cases hj
section
variable {σ σ' τ : Hp} {R : Ending → Hp → Prop}
theorem cmpstr_yn {a b : ByteArray} : YN prog 81 #[.string a, .string b] σ (.int .i64 (cmpB a b)) := fun w _ => by
  rw [run_callFunc_extern Go.Proofs.Tryz.func81 (by kernel_rfl) (by kernel_rfl) (by kernel_rfl) (e := Extern.BytealgCompare.compare) (by kernel_rfl), Lib.run_compareString]
  rfl
theorem strCmp_spec [Cnt] {a b : ByteArray} (h : R (.returned (.int .i64 (cmpB a b))) σ) : Spec prog 43 #[.string a, .string b] σ R :=
  strings_Compare.start (internal_bytealg_CompareString.start (.y cmpstr_yn ⟨_, rfl, _, rfl, h⟩))
theorem lbCmp_spec [Cnt] {x y : Lb} (h : ∀ σ', Ext σ σ' → R (.returned (.int .i64 (lex2 cmpB cmpB x y))) σ') : Spec prog 41 #[.agg #[.string x.1, .string x.2], .agg #[.string y.1, .string y.2]] σ R := by
  refine label_Compare_1.start fun _ _ => strCmp_spec ⟨_, rfl, strCmp_spec ⟨_, rfl, fun b hb => ?_⟩⟩
  have hh := h _ (.set hb (o := .cells #[.int .i64 (cmpB x.1 y.1), .int .i64 (cmpB x.2 y.2)] 3 (0, 0)))
  unfold lex2 at hh
  generalize cmpB x.1 y.1 = u at *
  generalize cmpB x.2 y.2 = v at *
  refine cmp_Or_int.start (cmp_Or_int.pt10_of ⟨fun _ => ⟨b, 0, rfl, by omega, u, by simp [Hp.ld, Hp.set_same], fun h0 => ⟨_, rfl, ?_⟩, fun h0 => ⟨by unfold I64; omega, cmp_Or_int.pt10_of ⟨fun _ => ⟨b, 0, rfl, by omega, v, by simp [Hp.ld, Hp.set_same], fun h1 => ⟨_, rfl, ?_⟩, fun h1 => ⟨by unfold I64; omega, cmp_Or_int.pt10_of ⟨fun h2 => by omega, fun _ => ⟨_, rfl, ?_⟩⟩⟩⟩, fun h2 => by omega⟩⟩⟩, fun h2 => by omega⟩)
  · rw [if_neg h0] at hh; exact hh
  · rw [if_pos (Decidable.not_not.1 h0)] at hh; exact hh
  · have h1' : v = 0 := Decidable.not_not.1 h1
    rw [if_pos (Decidable.not_not.1 h0), h1'] at hh
    rw [← h1'] at hh ⊢
    exact hh
theorem enLb : Enters prog 41 := fun args w => call41 args w
theorem drop_at' {α : Type} {xs : List α} {k : Nat} {y : α} (hy : xs[k]? = some y) : xs.drop k = y :: xs.drop (k + 1) := by
  obtain ⟨h, rfl⟩ := List.getElem?_eq_some_iff.1 hy
  exact List.drop_eq_getElem_cons h
theorem cmpL_spec [Cnt] {p q : Option Addr} {n c m d : Nat} {ls ms : List Lb} (hr : RdL σ p n ls) (hs : RdL σ q m ms) (h : ∀ σ', Ext σ σ' → R (.returned (.int .i64 (cmpLs ls ms))) σ') : Spec prog 24 #[.slice p n c, .slice q m d] σ R := by
  have hl : ls.length = n := hr.1
  have hm : ms.length = m := hs.1
  refine label_Compare.start (slices_CompareFunc_Label.start ?_)
  suffices H : ∀ g k : Nat, ∀ σ', n - k = g → k ≤ n → k ≤ m → Ext σ σ' → cmpLs ls ms = cmpLs (ls.drop k) (ms.drop k) → slices_CompareFunc_Label.pt8 (Cont R (CI .i64 fun x7 y => R (.returned (.int .i64 x7)) y)) p n c q m d (.func (.func 41) #[] #[]) p n c n k σ' from H n 0 σ rfl (Nat.zero_le _) (Nat.zero_le _) (.refl _) rfl
  intro g
  induction g with
  | zero =>
    intro k σ' hg hk hkm hx he
    have hkn : k = n := by omega
    rw [List.drop_eq_nil_of_le (by omega)] at he
    refine slices_CompareFunc_Label.pt8_of ⟨fun hlt => by omega, fun _ => ⟨fun hnm => ⟨_, rfl, ?_⟩, fun hnm => ⟨_, rfl, ?_⟩⟩⟩
    · obtain ⟨y, hy⟩ := hs.ex (k := k) (by omega)
      rw [drop_at' hy] at he
      have := h σ' hx
      rw [he] at this; exact this
    · rw [List.drop_eq_nil_of_le (by omega)] at he
      have := h σ' hx
      rw [he] at this; exact this
  | succ g ih =>
    intro k σ' hg hk hkm hx he
    obtain ⟨x, hxk⟩ := hr.ex (k := k) (by omega)
    obtain ⟨b, o, rfl, hlx⟩ := RdL.at hr hxk
    rw [drop_at' hxk] at he
    refine slices_CompareFunc_Label.pt8_of ⟨fun _ => ⟨b, o, rfl, by omega, x.1, x.2, by simpa using hlx.mono hx, fun _ => ⟨fun hmk => ⟨_, rfl, ?_⟩, fun hmk => ?_⟩⟩, fun hh => by omega⟩
    · rw [show ms.drop k = [] from List.drop_eq_nil_of_le (by omega)] at he
      have := h σ' hx
      rw [he] at this; exact this
    · obtain ⟨y, hyk⟩ := hs.ex (k := k) (by omega)
      obtain ⟨b', o', rfl, hly⟩ := RdL.at hs hyk
      rw [drop_at' hyk] at he
      have hstep : cmpLs ls ms = if lex2 cmpB cmpB x y = 0 then cmpLs (ls.drop (k + 1)) (ms.drop (k + 1)) else lex2 cmpB cmpB x y := he
      refine ⟨b', o', rfl, by omega, y.1, y.2, by simpa using hly.mono hx, fun _ => ⟨41, #[], #[], rfl, enLb, lbCmp_spec fun σ2 hx2 => ⟨_, rfl, fun hne => ⟨_, rfl, ?_⟩, fun heq => ⟨i64_succ (by omega : k < n) hr.big, ih (k + 1) σ2 (by omega) (by omega) (by omega) (hx.trans hx2) ?_⟩⟩⟩⟩
      · have := h σ2 (hx.trans hx2)
        rw [hstep, if_neg hne] at this; exact this
      · rw [hstep, if_pos (Decidable.not_not.1 heq)]
def risF : List Pt → Bool
  | [] => false
  | [_] => true
  | a :: b :: l => decide (a.1 < b.1) && risF (b :: l)
theorem risF_iff : ∀ ps : List Pt, risF ps = true ↔ 0 < ps.length ∧ ∀ j a b, ps[j]? = some a → ps[j + 1]? = some b → a.1 < b.1
  | [] => by simp [risF]
  | [a] => by simp [risF]
  | a :: b :: l => by
    simp only [risF, Bool.and_eq_true, decide_eq_true_eq]
    rw [risF_iff (b :: l)]
    constructor
    · rintro ⟨h1, h2, h3⟩
      refine ⟨by simp, fun j x y hx hy => ?_⟩
      cases j with
      | zero => simp at hx hy; subst hx; subst hy; exact h1
      | succ j => exact h3 j x y (by simpa using hx) (by simpa using hy)
    · rintro ⟨h1, h2⟩
      exact ⟨h2 0 a b rfl rfl, by simp, fun j x y hx hy => h2 (j + 1) x y (by simpa using hx) (by simpa using hy)⟩
theorem EPt.at {p : Option Addr} {n i : Nat} {ps : List Pt} {x : Pt} (hr : RdS 2 EPt σ p n ps) (hx : ps[i]? = some x) : ∃ b o, p = some ⟨b, o, none⟩ ∧ LdL σ b (o + i * 2) [.int .i64 x.1, .int .u64 x.2] := by
  obtain ⟨b, o, vs, hp, rfl, hl⟩ := RdS.idx hr hx
  exact ⟨b, o, hp, hl⟩
theorem rising_spec {p : Option Addr} {n c : Nat} {ps : List Pt} (hr : RdS 2 EPt σ p n ps) (h : R (.returned (.bool (risF ps))) σ) : Spec prog 23 #[.slice p n c] σ R := by
  have hl : ps.length = n := hr.1
  refine series_rising.start ?_
  have fin : (∀ j a b, ps[j]? = some a → ps[j + 1]? = some b → a.1 < b.1) → R (.returned (.bool (decide (0 < (n : Int))))) σ := fun hh => by
    have e : risF ps = decide (0 < (n : Int)) := by
      rw [Bool.eq_iff_iff, risF_iff, decide_eq_true_eq]
      exact ⟨fun h => by omega, fun h => ⟨by omega, hh⟩⟩
    rw [e] at h; exact h
  suffices H : ∀ g k : Nat, n - k = g → 1 ≤ k → (∀ j a b, j + 1 < k → ps[j]? = some a → ps[j + 1]? = some b → a.1 < b.1) → series_rising.pt9 R p n c k σ from H (n - 1) 1 rfl (Nat.le_refl _) (fun j a b hj => by omega)
  intro g
  induction g with
  | zero =>
    intro k hg hk hno
    refine series_rising.pt9_of ⟨fun hlt => by omega, fun _ => fin fun j a b ha hb => hno j a b ?_ ha hb⟩
    have := (List.getElem?_eq_some_iff.1 hb).1; omega
  | succ g ih =>
    intro k hg hk hno
    obtain ⟨x, hx⟩ := hr.ex (k := k) (by omega)
    obtain ⟨y, hy⟩ := hr.ex (k := k - 1) (by omega)
    obtain ⟨b, o, rfl, hlx⟩ := EPt.at hr hx
    obtain ⟨_, _, he, hly⟩ := EPt.at hr hy
    cases he
    have e1 : Int.toNat ((k : Int) - 1) = k - 1 := by omega
    refine series_rising.pt9_of ⟨fun _ => ⟨b, o, rfl, by omega, x.1, by simpa using hlx.1, by unfold I64; have := hr.big; omega, by omega, y.1, by rw [e1]; simpa using hly.1, fun hle => ?_, fun hgt => ⟨i64_succ (by omega : k < n) hr.big, ih (k + 1) (by omega) (by omega) fun j a b' hj ha hb => ?_⟩⟩, fun hh => by omega⟩
    · have e : risF ps = false := by
        rw [Bool.eq_false_iff, ne_eq, risF_iff]
        exact fun hh => by
          have := hh.2 (k - 1) y x hy (by rw [show k - 1 + 1 = k by omega]; exact hx)
          omega
      rw [e] at h; exact h
    · by_cases hjk : j + 1 = k
      · rw [hjk, hx] at hb; cases hb
        rw [show j = k - 1 by omega, hy] at ha; cases ha
        omega
      · exact hno j a b' (by omega) ha hb
def okSs : Option (List Lb) → List Sr → Bool
  | _, [] => true
  | q, s :: l => decide (chkL s.ls = 0) && risF s.ps && (match q with | none => true | some q => decide (cmpLs q s.ls < 0)) && okSs (some s.ls) l
theorem okSs_cons (q : Option (List Lb)) (s : Sr) (l : List Sr) : okSs q (s :: l) = (decide (chkL s.ls = 0) && risF s.ps && (match q with | none => true | some q => decide (cmpLs q s.ls < 0)) && okSs (some s.ls) l) := by
  cases q <;> rfl
theorem ESr.at {p : Option Addr} {n i : Nat} {ss : List Sr} {s : Sr} (hr : RdS 2 ESr σ p n ss) (hx : ss[i]? = some s) : ∃ b o p1 n1 c1 q m d, p = some ⟨b, o, none⟩ ∧ LdL σ b (o + i * 2) [.slice p1 n1 c1, .slice q m d] ∧ RdL σ p1 n1 s.ls ∧ RdS 2 EPt σ q m s.ps ∧ m ≤ d := by
  obtain ⟨b, o, vs, hp, ⟨p1, n1, c1, q, m, d, rfl, h1, h2, h3⟩, hl⟩ := RdS.idx hr hx
  exact ⟨b, o, p1, n1, c1, q, m, d, hp, hl, h1, h2, h3⟩
theorem sCheck_spec {p : Option Addr} {n c : Nat} {ss : List Sr} (hr : RdS 2 ESr σ p n ss) (h : ∀ σ', Ext σ σ' → R (.returned (.int .i64 (if okSs none ss then 0 else 100))) σ') : Spec prog 9 #[.slice p n c] σ R := by
  have hl : ss.length = n := hr.1
  refine series_Check.start ?_
  suffices H : ∀ g k : Nat, ∀ σ', n - k = g → k ≤ n → Ext σ σ' → okSs none ss = okSs (if k = 0 then none else (ss[k - 1]?).map (·.ls)) (ss.drop k) → series_Check.pt8 R p n c p n c n k σ' from H n 0 σ rfl (Nat.zero_le _) (.refl _) rfl
  intro g
  induction g with
  | zero =>
    intro k σ' hg hk hx he
    rw [List.drop_eq_nil_of_le (by omega)] at he
    refine series_Check.pt8_of ⟨fun hlt => by omega, fun _ => ?_⟩
    have := h σ' hx
    rw [he] at this; exact this
  | succ g ih =>
    intro k σ' hg hk hx he
    have hk' : k < n := by omega
    obtain ⟨s, hs⟩ := hr.ex hk'
    obtain ⟨b, o, p1, n1, c1, q, m, d, rfl, hls, h1, h2, h3⟩ := ESr.at hr hs
    rw [drop_at' hs, okSs_cons] at he
    have bad : (decide (chkL s.ls = 0) && risF s.ps && (match (if k = 0 then none else (ss[k - 1]?).map (·.ls)) with | none => true | some q => decide (cmpLs q s.ls < 0))) = false → ∀ σ2, Ext σ σ2 → R (.returned (.int .i64 100)) σ2 := fun hf σ2 hx2 => by
      have := h σ2 hx2
      rw [he, hf] at this; exact this
    refine series_Check.pt8_of ⟨fun _ => ⟨b, o, rfl, by omega, p1, n1, c1, q, m, d, by simpa using hls.mono hx, fun _ => labelCheck_spec (h1.mono ELb.mono hx) ⟨_, rfl, fun hne => bad (by simp [hne]) σ' hx, fun h0 => rising_spec (h2.mono EPt.mono hx) ⟨_, rfl, fun hf => bad (by simp [hf]) σ' hx, fun ht => ?_⟩⟩⟩, fun hh => by omega⟩
    have h0' := Decidable.not_not.1 h0
    have ht' : risF s.ps = true := ht
    have next : ∀ σ2, Ext σ σ2 → (match (if k = 0 then none else (ss[k - 1]?).map (·.ls)) with | none => true | some q => decide (cmpLs q s.ls < 0)) = true → I64 ((k : Int) + 1) ∧ series_Check.pt8 R (aD b o) n c (aD b o) n c n ((k : Int) + 1) σ2 := fun σ2 hx2 hm => by
      refine ⟨i64_succ hk' hr.big, ih (k + 1) σ2 (by omega) (by omega) hx2 ?_⟩
      rw [he, hm, h0', ht']
      simp [hs]
    refine ⟨fun hpos => ⟨by unfold I64; have := hr.big; omega, b, o, rfl, by omega, ?_⟩, fun hpos => next σ' hx (by rw [if_pos (by omega)])⟩
    obtain ⟨s', hs'⟩ := hr.ex (k := k - 1) (by omega)
    obtain ⟨_, _, p1', n1', c1', _, _, _, he', hls', h1', _, _⟩ := ESr.at hr hs'
    cases he'
    have e1 : Int.toNat ((k : Int) - 1) = k - 1 := by omega
    refine ⟨p1', n1', c1', by rw [e1]; simpa using (hls'.mono hx).1, cmpL_spec (h1'.mono ELb.mono hx) (h1.mono ELb.mono hx) fun σ2 hx2 => ⟨_, rfl, fun hge => bad ?_ σ2 (hx.trans hx2), fun hlt => next σ2 (hx.trans hx2) ?_⟩⟩
    · rw [if_neg (by omega), hs']
      simp; omega
    · rw [if_neg (by omega), hs']
      simp; omega
end
end TwW
end
section
namespace TwW
open Go Tw Go.RowKit Go.Proofs.Tryz
def fNan (x : Nat) : Bool := !(FloatKind.f64.format.order x x == some .eq)
def toF (x : Nat) : Nat := if fNan x then 9221120237041090560 else x
theorem order_self (d : Ieee.Datum) : d.order d = if d.isNaN then none else some .eq := by
  cases d with
  | nan => rfl
  | infinity s => cases s <;> rfl
  | number s m i => simp [Ieee.Datum.order, Ieee.Datum.isNaN, Std.ReflCmp.compare_self]
theorem fNan_iff (x : Nat) : fNan x = true ↔ 9218868437227405312 < x % 9223372036854775808 := by
  have h1 : fNan x = (Ieee.double.read x).isNaN := by
    show (!((Ieee.double.read x).order (Ieee.double.read x) == some .eq)) = _
    rw [order_self]
    cases (Ieee.double.read x).isNaN <;> rfl
  rw [h1]
  have e1 : Ieee.double.signWeight = 9223372036854775808 := by decide
  have e2 : Ieee.double.binade = 4503599627370496 := by decide
  have e3 : Ieee.double.infRung = 9218868437227405312 := by decide
  unfold Ieee.Format.read
  simp only [e1, e2, e3]
  split
  · simp [Ieee.Datum.isNaN]; omega
  · split
    · simp [Ieee.Datum.isNaN]; omega
    · split
      · simp [Ieee.Datum.isNaN]; omega
      · simp [Ieee.Datum.isNaN]; omega
theorem fNan_nan : fNan 9221120237041090560 = true := (fNan_iff _).2 (by decide)
theorem fNan_drawn (a b t : Nat) : fNan (Question.cut (.nanBits .f64 a b) t) = true := by
  rw [fNan_iff]
  show 9218868437227405312 < ((t % 2) * 9223372036854775808 + 9218868437227405312 + 1 + (t / 2) % 4503599627370495) % 9223372036854775808
  have h1 := Nat.mod_lt (t / 2) (show 0 < 4503599627370495 by decide)
  generalize (t / 2) % 4503599627370495 = r at *
  rcases Nat.mod_two_eq_zero_or_one t with h | h <;> rw [h] <;> omega
theorem toF_drawn (a b t : Nat) : toF (Question.cut (.nanBits .f64 a b) t) = 9221120237041090560 := by unfold toF; rw [fNan_drawn]; rfl
def fAr (op : Int) (a b : Nat) : Option Nat := if op = 1 then Ieee.double.add a b else if op = 2 then Ieee.double.sub a b else if op = 3 then Ieee.double.mul a b else Ieee.double.div a b
def resN : Option Nat → Nat
  | some r => toF r
  | none => 9221120237041090560
def resS (a b : Nat) : Option Nat → Sem Value
  | some r => pure (.float .f64 r)
  | none => do pure (.float .f64 (← choose (.nanBits .f64 a b)))
def arN (op : Int) (a b : Nat) : Nat := resN (fAr op a b)
def fCm (op : Int) (a b : Nat) : Bool :=
  let c := Ieee.double.order a b
  if op = 5 then c == some .eq else if op = 6 then c != some .eq else if op = 7 then c == some .lt else if op = 8 then c == some .lt || c == some .eq else if op = 9 then c == some .gt else if op = 10 then c == some .gt || c == some .eq else false
section
variable [Cnt] {σ : Hp} {R : Ending → Hp → Prop}
theorem fbits_yn {b : Nat} : YN prog 26 #[.float .f64 b] σ (.int .u64 b) := fun w _ => by
  rw [run_callFunc_extern Go.Proofs.Tryz.func26 (by kernel_rfl) (by kernel_rfl) (by kernel_rfl) (e := Extern.MathFloatBits.float64bits) (by kernel_rfl)]
  rfl
theorem fof_yn {x : Int} : YN prog 157 #[.int .u64 x] σ (.float .f64 x.toNat) := fun w _ => by
  rw [run_callFunc_extern Go.Proofs.Tryz.func157 (by kernel_rfl) (by kernel_rfl) (by kernel_rfl) (e := Extern.MathFloatBits.float64frombits) (by kernel_rfl)]
  rfl
theorem isNaN_spec {x : Nat} (h : R (.returned (.bool (fNan x))) σ) : Spec prog 151 #[.float .f64 x] σ R :=
  math_IsNaN.start ⟨fNan x, fun w _ => rfl, h⟩
theorem of_spec {x : Int} (h : R (.returned (.float .f64 x.toNat)) σ) : Spec prog 121 #[.int .u64 x] σ R :=
  wave_of.start (.y fof_yn ⟨_, rfl, h⟩)
theorem to_spec {x : Nat} (h : R (.returned (.int .u64 (toF x : Nat))) σ) : Spec prog 113 #[.float .f64 x] σ R := by
  refine wave_to.start (isNaN_spec ⟨_, rfl, fun ht => ?_, fun hf => .y fbits_yn ⟨_, rfl, ?_⟩⟩)
  · rw [show toF x = 9221120237041090560 by unfold toF; rw [ht]; rfl] at h; exact h
  · rw [show toF x = x by unfold toF; rw [hf]; rfl] at h; exact h
def nrm (x : Int) : Int := (toF x.toNat : Nat)
theorem normal_spec {x : Int} (h : R (.returned (.int .u64 (nrm x))) σ) : Spec prog 125 #[.int .u64 x] σ R :=
  wave_Normal.start (of_spec ⟨_, rfl, to_spec ⟨_, rfl, h⟩⟩)
theorem eff_draw {m : Sem Value} {q : Question} {f : Nat → Value} {Φ : Value → Hp → Prop} (hm : ∀ w, m.run prog w = .ok (f (q.cut (w.tape w.drawn q))) { w with drawn := w.drawn + 1 }) (h : ∀ t, Φ (f (q.cut t)) σ) : Eff prog m σ Φ := fun w F hs hF =>
  ⟨_, _, σ, hm w, h _, ⟨fun b o hb => hs b o hb, fun b hb => ⟨(hF b hb).2, rfl⟩, (SameOs.same rfl rfl rfl).drew, rfl, Nat.le_refl _⟩⟩
theorem eff_same {m : Sem Value} {v : Value} {Φ : Value → Hp → Prop} (hm : ∀ w, m.run prog w = .ok v w) (h : Φ v σ) : Eff prog m σ Φ := fun w F hs hF =>
  ⟨_, _, σ, hm w, h, ⟨hs, fun b hb => ⟨(hF b hb).2, rfl⟩, .same rfl rfl rfl, rfl, Nat.le_refl _⟩⟩
theorem float_eff {op : BinOp} {a b : Nat} {Φ : Value → Hp → Prop} (r : Option Nat) (hr : ∀ w, (Go.binOp op 60 (.float .f64 a) (.float .f64 b)).run prog w = (resS a b r).run prog w)
    (h : ∀ x : Nat, toF x = resN r → Φ (.float .f64 x) σ) : Eff prog (Go.binOp op 60 (.float .f64 a) (.float .f64 b)) σ Φ := by
  cases r with
  | some r => exact eff_same (v := .float .f64 r) (fun w => (hr w).trans rfl) (h r rfl)
  | none => exact eff_draw (q := .nanBits .f64 a b) (f := fun x => .float .f64 x) (fun w => (hr w).trans rfl) (fun t => h _ (toF_drawn a b t))
theorem add_eff {a b : Nat} {Φ : Value → Hp → Prop} (h : ∀ x : Nat, toF x = arN 1 a b → Φ (.float .f64 x) σ) : Eff prog (Go.binOp .add 60 (.float .f64 a) (.float .f64 b)) σ Φ :=
  float_eff (Ieee.double.add a b) (fun w => by refine (show _ = (Op.floatArith .add .f64 a b).run prog w from rfl).trans ?_; unfold Op.floatArith; simp only [FloatKind.format]; cases Ieee.double.add a b <;> rfl) h
theorem sub_eff {a b : Nat} {Φ : Value → Hp → Prop} (h : ∀ x : Nat, toF x = arN 2 a b → Φ (.float .f64 x) σ) : Eff prog (Go.binOp .sub 60 (.float .f64 a) (.float .f64 b)) σ Φ :=
  float_eff (Ieee.double.sub a b) (fun w => by refine (show _ = (Op.floatArith .sub .f64 a b).run prog w from rfl).trans ?_; unfold Op.floatArith; simp only [FloatKind.format]; cases Ieee.double.sub a b <;> rfl) h
theorem mul_eff {a b : Nat} {Φ : Value → Hp → Prop} (h : ∀ x : Nat, toF x = arN 3 a b → Φ (.float .f64 x) σ) : Eff prog (Go.binOp .mul 60 (.float .f64 a) (.float .f64 b)) σ Φ :=
  float_eff (Ieee.double.mul a b) (fun w => by refine (show _ = (Op.floatArith .mul .f64 a b).run prog w from rfl).trans ?_; unfold Op.floatArith; simp only [FloatKind.format]; cases Ieee.double.mul a b <;> rfl) h
theorem quo_eff {a b : Nat} {Φ : Value → Hp → Prop} (h : ∀ x : Nat, toF x = arN 4 a b → Φ (.float .f64 x) σ) : Eff prog (Go.binOp .quo 60 (.float .f64 a) (.float .f64 b)) σ Φ :=
  float_eff (Ieee.double.div a b) (fun w => by refine (show _ = (Op.floatArith .quo .f64 a b).run prog w from rfl).trans ?_; unfold Op.floatArith; simp only [FloatKind.format]; cases Ieee.double.div a b <;> rfl) h
def ari (op a b : Int) : Int := (arN op a.toNat b.toNat : Nat)
theorem arith_spec {op a b : Int} (h : R (.returned (if 1 ≤ op ∧ op ≤ 4 then .tuple #[.int .u64 (ari op a b), .bool true] else .tuple #[.int .u64 0, .bool false])) σ) : Spec prog 142 #[.int .i64 op, .int .u64 a, .int .u64 b] σ R := by
  refine wave_Arith.start (of_spec ⟨_, rfl, of_spec ⟨_, rfl, fun h1 => add_eff fun x hx => ⟨_, rfl, to_spec ⟨_, rfl, ?_⟩⟩, fun h1 => ⟨fun h2 => sub_eff fun x hx => ⟨_, rfl, to_spec ⟨_, rfl, ?_⟩⟩, fun h2 => ⟨fun h3 => mul_eff fun x hx => ⟨_, rfl, to_spec ⟨_, rfl, ?_⟩⟩, fun h3 => ⟨fun h4 => quo_eff fun x hx => ⟨_, rfl, to_spec ⟨_, rfl, ?_⟩⟩, fun h4 => ?_⟩⟩⟩⟩⟩)
  · subst h1; rw [hx]; exact h
  · subst h2; rw [hx]; exact h
  · subst h3; rw [hx]; exact h
  · subst h4; rw [hx]; exact h
  · rw [if_neg (by omega)] at h; exact h
end
end TwW
end
section
namespace TwW
open Go Tw Go.RowKit Go.Proofs.Tryz
section
variable [Cnt] {σ : Hp} {R : Ending → Hp → Prop}
def cmpI (op a b : Int) : Bool := fCm op a.toNat b.toNat
theorem compare_spec {op a b : Int} (h : R (.returned (.tuple #[.bool (cmpI op a b), .bool (decide (5 ≤ op ∧ op ≤ 10))])) σ) : Spec prog 143 #[.int .i64 op, .int .u64 a, .int .u64 b] σ R := by
  have fin : ∀ {k : Int} {t : Bool}, op = k → 5 ≤ k → k ≤ 10 → fCm k a.toNat b.toNat = t → R (.returned (.tuple #[.bool t, .bool true])) σ := fun hk h5 h10 ht => by
    subst hk
    rw [show cmpI op a b = fCm op a.toNat b.toNat from rfl, ht, show decide (5 ≤ op ∧ op ≤ 10) = true from decide_eq_true ⟨h5, h10⟩] at h
    exact h
  refine wave_Compare.start (of_spec ⟨_, rfl, of_spec ⟨_, rfl,
    fun h1 => ⟨_, fun w _ => rfl, fin h1 (by decide) (by decide) rfl⟩, fun h1 =>
    ⟨fun h2 => ⟨_, fun w _ => rfl, fin h2 (by decide) (by decide) rfl⟩, fun h2 =>
    ⟨fun h3 => ⟨_, fun w _ => rfl, fin h3 (by decide) (by decide) rfl⟩, fun h3 =>
    ⟨fun h4 => ⟨_, fun w _ => rfl, fin h4 (by decide) (by decide) rfl⟩, fun h4 =>
    ⟨fun h5 => ⟨_, fun w _ => rfl, fin h5 (by decide) (by decide) rfl⟩, fun h5 =>
    ⟨fun h6 => ⟨_, fun w _ => rfl, fin h6 (by decide) (by decide) rfl⟩, fun h6 => ?_⟩⟩⟩⟩⟩⟩⟩)
  rw [show decide (5 ≤ op ∧ op ≤ 10) = false from decide_eq_false (by omega), show cmpI op a b = false by unfold cmpI fCm; simp only [h1, h2, h3, h4, h5, h6, if_false]] at h
  exact h
def absI (x : Int) : Int := (toF (Go.bits .andNot .u64 x 9223372036854775808).toNat : Nat)
theorem abs_spec {x : Int} (hx : 0 ≤ x) (h : R (.returned (.int .u64 (absI x))) σ) : Spec prog 86 #[.int .u64 x] σ R := by
  refine wave_Abs.start (of_spec ⟨_, rfl, math_Abs.start (.y fbits_yn ⟨_, rfl, fun x5 h5 => .y fof_yn ⟨_, rfl, _, rfl, to_spec ⟨_, rfl, ?_⟩⟩⟩)⟩)
  rw [show absI x = (toF x5.toNat : Nat) by unfold absI; rw [h5, Int.toNat_of_nonneg hx]] at h
  exact h
def floorN (x : Nat) : Nat := match Ieee.double.read x with
  | .nan _ _ => 9221120237041090560
  | d => toF (Ieee.double.write (d.integral .down))
def floorI (x : Int) : Int := (floorN x.toNat : Nat)
theorem fNan_read (x : Nat) : fNan x = (Ieee.double.read x).isNaN := by
  show (!((Ieee.double.read x).order (Ieee.double.read x) == some .eq)) = _
  rw [order_self]
  cases (Ieee.double.read x).isNaN <;> rfl
theorem fNan_write (s : Bool) (t : Nat) : fNan (Ieee.double.write (.nan s (Ieee.double.quiet t))) = true := by
  rw [fNan_iff]
  have e1 : Ieee.double.signWeight = 9223372036854775808 := by decide
  have e2 : Ieee.double.binade = 4503599627370496 := by decide
  have e3 : Ieee.double.infRung = 9218868437227405312 := by decide
  have hp : (Ieee.double.quiet t % 4503599627370496).testBit 51 = true := by
    rw [show 4503599627370496 = 2 ^ 52 from rfl, Nat.testBit_mod_two_pow]
    show (decide (51 < 52) && (t ||| 2 ^ 51).testBit 51) = true
    rw [Nat.testBit_or, Nat.testBit_two_pow_self]
    simp
  have hp0 : 0 < Ieee.double.quiet t % 4503599627370496 := by
    apply Nat.pos_of_ne_zero
    intro h0
    rw [h0] at hp
    simp at hp
  have hlt := Nat.mod_lt (Ieee.double.quiet t) (show 0 < 4503599627370496 by decide)
  show 9218868437227405312 < Ieee.double.word s (Ieee.double.infRung + Ieee.double.quiet t % Ieee.double.binade) % 9223372036854775808
  unfold Ieee.Format.word
  rw [e1, e2, e3]
  generalize Ieee.double.quiet t % 4503599627370496 = p at *
  cases s
  · rw [if_neg (by decide)]; omega
  · rw [if_pos rfl]; omega
def flo (x : Nat) : Sem Value := match Ieee.double.read x with
  | .nan s t => if Ieee.double.quiet t = t then pure (.float .f64 x) else do
    let kept ← choose (.extern "math.Floor,Ceil,Trunc,RoundToEven.signallingNaN kept" 2)
    pure (.float .f64 (if kept == 1 then x else Ieee.double.write (.nan s (Ieee.double.quiet t))))
  | d => pure (.float .f64 (Ieee.double.write (d.integral .down)))
theorem floor_en {x : Nat} {Φ : Value → Hp → Prop} (h : ∀ y : Nat, toF y = floorN x → Φ (.float .f64 y) σ) : EN prog 158 #[.float .f64 x] σ Φ := by
  have hrun : ∀ w, (callFunc 158 #[.float .f64 x]).run prog w = ((flo x).run prog w).andThen fun v w' => .ok (.value v) w' := fun w => by
    rw [run_callFunc_extern Go.Proofs.Tryz.func158 (by kernel_rfl) (by kernel_rfl) (by kernel_rfl) (e := Extern.MathFloor.toIntegral "math.archFloor" .down) (by kernel_rfl)]
    rfl
  have same : ∀ y, flo x = pure (.float .f64 y) → toF y = floorN x → EN prog 158 #[.float .f64 x] σ Φ := fun y hy hf => .y (v := .float .f64 y) (fun w _ => by rw [hrun, hy]; rfl) (h y hf)
  cases hd : Ieee.double.read x with
  | number s m i => exact same _ (by unfold flo; rw [hd]) (by unfold floorN; rw [hd])
  | infinity s => exact same _ (by unfold flo; rw [hd]) (by unfold floorN; rw [hd])
  | nan s t =>
    have hx : fNan x = true := by rw [fNan_read, hd]; rfl
    have hn : floorN x = 9221120237041090560 := by unfold floorN; rw [hd]
    have e1 : toF x = 9221120237041090560 := by unfold toF; rw [hx]; rfl
    by_cases hq : Ieee.double.quiet t = t
    · exact same x (by unfold flo; rw [hd]; simp only [hq, if_true]) (by rw [e1, hn])
    · intro w F hs hF
      refine ⟨.float .f64 (if (Question.cut (.extern "math.Floor,Ceil,Trunc,RoundToEven.signallingNaN kept" 2) (w.tape w.drawn (.extern "math.Floor,Ceil,Trunc,RoundToEven.signallingNaN kept" 2))) == 1 then x else Ieee.double.write (.nan s (Ieee.double.quiet t))), { w with drawn := w.drawn + 1 }, σ, ?_, ?_, ⟨fun b o hb => hs b o hb, fun b hb => ⟨(hF b hb).2, rfl⟩, (SameOs.same rfl rfl rfl).drew, rfl, Nat.le_refl _⟩⟩
      · rw [hrun]
        unfold flo
        rw [hd]
        simp only [hq, if_false]
        rfl
      · refine h _ ?_
        rw [hn]
        split
        · exact e1
        · unfold toF; rw [fNan_write]; rfl
theorem floor_spec {x : Int} (h : R (.returned (.int .u64 (floorI x))) σ) : Spec prog 87 #[.int .u64 x] σ R :=
  wave_Floor.start (of_spec ⟨_, rfl, math_Floor.start (floor_en fun y hy => ⟨_, rfl, _, rfl, to_spec ⟨_, rfl, by rw [hy]; exact h⟩⟩)⟩)
def wholeI (n : Int) : Int := (FloatKind.f64.nearest n : Nat)
theorem whole_spec {n : Int} (h : R (.returned (.int .u64 (wholeI n))) σ) : Spec prog 85 #[.int .i64 n] σ R :=
  eval_whole.start (eff_same (v := .float .f64 (FloatKind.f64.nearest n)) (fun w => by kernel_rfl) ⟨_, rfl, .y fbits_yn ⟨_, rfl, h⟩⟩)
theorem truth_spec {b : Bool} (h : R (.returned (.int .u64 (if b then wholeI 1 else wholeI 0))) σ) : Spec prog 144 #[.bool b] σ R :=
  eval_truth.start ⟨fun ht => whole_spec ⟨_, rfl, by rw [ht] at h; exact h⟩, fun hf => whole_spec ⟨_, rfl, by rw [hf] at h; exact h⟩⟩
theorem add_spec {a b : Int} (h : R (.returned (.int .u64 (ari 1 a b))) σ) : Spec prog 140 #[.int .u64 a, .int .u64 b] σ R := eval_add.start (arith_spec ⟨_, _, rfl, h⟩)
theorem sub_spec {a b : Int} (h : R (.returned (.int .u64 (ari 2 a b))) σ) : Spec prog 129 #[.int .u64 a, .int .u64 b] σ R := eval_sub.start (arith_spec ⟨_, _, rfl, h⟩)
theorem div_spec {a b : Int} (h : R (.returned (.int .u64 (ari 4 a b))) σ) : Spec prog 133 #[.int .u64 a, .int .u64 b] σ R := eval_div.start (arith_spec ⟨_, _, rfl, h⟩)
theorem nan_spec {a : Int} (h : R (.returned (.bool (decide (nrm a = 9221120237041090560)))) σ) : Spec prog 165 #[.int .u64 a] σ R := eval_nan.start (normal_spec ⟨_, rfl, h⟩)
def turnI (x : Int) : Int := nrm (Go.bits .xor .u64 x 9223372036854775808)
theorem turned_spec {x : Int} (h : R (.returned (.int .u64 (turnI x))) σ) : Spec prog 104 #[.int .u64 x] σ R := eval_turned.start fun x4 h4 => normal_spec ⟨_, rfl, by rw [h4]; exact h⟩
end
end TwW
end
section
namespace TwW
open Go Tw Go.RowKit Go.Proofs.Tryz
section
variable [Cnt] {σ : Hp} {R : Ending → Hp → Prop}
def sumI : List Int → Int
  | [] => 0
  | v :: l => l.foldl (ari 1) (nrm v)
theorem sum_spec {p : Option Addr} {n c : Nat} {vs : List Int} (hr : RdI .u64 σ p n vs) (h0 : 0 < n) (hc : n ≤ c) (h : R (.returned (.int .u64 (sumI vs))) σ) : Spec prog 93 #[.slice p n c] σ R := by
  have hl : vs.length = n := hr.1
  obtain ⟨v, hv⟩ := hr.ex h0
  obtain ⟨b, o, rfl, hld⟩ := RdI.at hr hv
  refine eval_sum.start ⟨b, o, rfl, by omega, v, by simpa using hld, normal_spec ⟨_, rfl, by omega, ?_⟩⟩
  have hs : RdI .u64 σ (slP (aD b o) 1 c 1) (n - 1) ((vs.drop 1).take (n - 1)) := RdS.sub hr (by decide) (by omega) hc
  have hd : (vs.drop 1).take (n - 1) = vs.tail := by rw [List.drop_one, List.take_of_length_le (by rw [List.length_tail]; omega)]
  rw [hd] at hs
  have hvs : vs = v :: vs.tail := by
    cases vs with
    | nil => cases hv
    | cons a l => simp only [List.getElem?_cons_zero, Option.some.injEq] at hv; rw [hv]; rfl
  rw [hvs] at h
  change R (.returned (.int .u64 (vs.tail.foldl (ari 1) (nrm v)))) σ at h
  generalize slP (aD b o) 1 c 1 = q at *
  suffices H : ∀ g k : Nat, ∀ (q' : Option Addr) (a : Int), (0 < n - 1 → q' = q) → n - 1 - k = g → k ≤ n - 1 → vs.tail.foldl (ari 1) (nrm v) = (vs.tail.drop k).foldl (ari 1) a → eval_sum.pt10 R a q (n - 1) (c - 1) ((n - 1 : Nat) : Int) k σ from H (n - 1) 0 q (nrm v) (fun _ => rfl) (by omega) (by omega) rfl
  intro g
  induction g with
  | zero =>
    intro k q' a _ hg hk he
    refine eval_sum.pt10_of ⟨fun hlt => by omega, fun _ => ?_⟩
    rw [List.drop_eq_nil_of_le (by rw [List.length_tail]; omega)] at he
    rw [he] at h; exact h
  | succ g ih =>
    intro k q' a hq hg hk he
    obtain ⟨x, hx⟩ := hs.ex (k := k) (by omega)
    obtain ⟨b', o', rfl, hlx⟩ := RdI.at hs hx
    rw [drop_at' hx] at he
    refine eval_sum.pt10_of ⟨fun _ => ⟨b', o', rfl, by omega, x, by simpa using hlx, add_spec ⟨_, rfl, i64_succ (by omega : k < n - 1) hs.big, ih (k + 1) _ _ (fun _ => rfl) (by omega) (by omega) he⟩⟩, fun hh => by omega⟩
theorem count_spec {p : Option Addr} {n c : Nat} (h : R (.returned (.int .u64 (wholeI n))) σ) : Spec prog 97 #[.slice p n c] σ R :=
  eval_count.start (whole_spec ⟨_, rfl, h⟩)
theorem average_spec {p : Option Addr} {n c : Nat} {vs : List Int} (hr : RdI .u64 σ p n vs) (h0 : 0 < n) (hc : n ≤ c) (h : R (.returned (.int .u64 (ari 4 (sumI vs) (wholeI n)))) σ) : Spec prog 96 #[.slice p n c] σ R :=
  eval_average.start (sum_spec hr h0 hc ⟨_, rfl, count_spec ⟨_, rfl, div_spec ⟨_, rfl, h⟩⟩⟩)
def betI (op : Int) (out v : Int) : Int := if cmpI op v out = true ∨ nrm out = 9221120237041090560 then v else out
def bestI (op : Int) : List Int → Int
  | [] => 0
  | v :: l => nrm (l.foldl (betI op) v)
theorem best_spec {op : Int} {p : Option Addr} {n c : Nat} {vs : List Int} (hr : RdI .u64 σ p n vs) (h0 : 0 < n) (hc : n ≤ c) (h : R (.returned (.int .u64 (bestI op vs))) σ) : Spec prog 141 #[.int .i64 op, .slice p n c] σ R := by
  have hl : vs.length = n := hr.1
  obtain ⟨v, hv⟩ := hr.ex h0
  obtain ⟨b, o, rfl, hld⟩ := RdI.at hr hv
  refine eval_best.start ⟨b, o, rfl, by omega, v, by simpa using hld, by omega, ?_⟩
  have hs : RdI .u64 σ (slP (aD b o) 1 c 1) (n - 1) ((vs.drop 1).take (n - 1)) := RdS.sub hr (by decide) (by omega) hc
  have hd : (vs.drop 1).take (n - 1) = vs.tail := by rw [List.drop_one, List.take_of_length_le (by rw [List.length_tail]; omega)]
  rw [hd] at hs
  have hvs : vs = v :: vs.tail := by
    cases vs with
    | nil => cases hv
    | cons a l => simp only [List.getElem?_cons_zero, Option.some.injEq] at hv; rw [hv]; rfl
  rw [hvs] at h
  change R (.returned (.int .u64 (nrm (vs.tail.foldl (betI op) v)))) σ at h
  generalize slP (aD b o) 1 c 1 = q at *
  suffices H : ∀ g k : Nat, ∀ (a : Int), n - 1 - k = g → k ≤ n - 1 → vs.tail.foldl (betI op) v = (vs.tail.drop k).foldl (betI op) a → eval_best.pt10 R op a q (n - 1) (c - 1) ((n - 1 : Nat) : Int) k σ from H (n - 1) 0 v (by omega) (by omega) rfl
  intro g
  induction g with
  | zero =>
    intro k a hg hk he
    refine eval_best.pt10_of ⟨fun hlt => by omega, fun _ => normal_spec ⟨_, rfl, ?_⟩⟩
    rw [List.drop_eq_nil_of_le (by rw [List.length_tail]; omega)] at he
    rw [he] at h; exact h
  | succ g ih =>
    intro k a hg hk he
    obtain ⟨x, hx⟩ := hs.ex (k := k) (by omega)
    obtain ⟨b', o', rfl, hlx⟩ := RdI.at hs hx
    rw [drop_at' hx, List.foldl_cons] at he
    have go : ∀ y, betI op a x = y → eval_best.pt26 R op y (aD b' o') (n - 1) (c - 1) ((n - 1 : Nat) : Int) k σ := fun y hy => eval_best.pt26_of ⟨i64_succ (by omega : k < n - 1) hs.big, ih (k + 1) y (by omega) (by omega) (by rw [← hy]; exact he)⟩
    refine eval_best.pt10_of ⟨fun _ => ⟨b', o', rfl, by omega, x, by simpa using hlx, compare_spec ⟨_, _, rfl, fun ht => go x (by unfold betI; rw [if_pos (.inl ht)]), fun hf => nan_spec ⟨_, rfl, fun ht => go x ?_, fun hn => go a ?_⟩⟩⟩, fun hh => by omega⟩
    · unfold betI; rw [if_pos (.inr (of_decide_eq_true ht))]
    · unfold betI; rw [if_neg (by rintro (h1 | h1)
                                  · rw [h1] at hf; cases hf
                                  · exact absurd h1 (of_decide_eq_false hn))]
theorem least_spec {p : Option Addr} {n c : Nat} {vs : List Int} (hr : RdI .u64 σ p n vs) (h0 : 0 < n) (hc : n ≤ c) (h : R (.returned (.int .u64 (bestI 7 vs))) σ) : Spec prog 94 #[.slice p n c] σ R := eval_least.start (best_spec hr h0 hc ⟨_, rfl, h⟩)
theorem greatest_spec {p : Option Addr} {n c : Nat} {vs : List Int} (hr : RdI .u64 σ p n vs) (h0 : 0 < n) (hc : n ≤ c) (h : R (.returned (.int .u64 (bestI 9 vs))) σ) : Spec prog 95 #[.slice p n c] σ R := eval_greatest.start (best_spec hr h0 hc ⟨_, rfl, h⟩)
def stepI (out : Int) (p : Int × Int) : Int := if cmpI 7 p.2 p.1 = true then ari 1 out p.1 else out
def growI (vs : List Int) : Int := (vs.zip vs.tail).foldl stepI (ari 2 (vs.getLast?.getD 0) (vs.head?.getD 0))
theorem grown_spec {p : Option Addr} {n c : Nat} {vs : List Int} (hr : RdI .u64 σ p n vs) (h0 : 0 < n) (h : R (.returned (.int .u64 (growI vs))) σ) : Spec prog 131 #[.slice p n c] σ R := by
  have hl : vs.length = n := hr.1
  have hbig := hr.big
  obtain ⟨v, hv⟩ := hr.ex h0
  obtain ⟨z, hz⟩ := hr.ex (k := n - 1) (by omega)
  obtain ⟨b, o, rfl, hld⟩ := RdI.at hr hv
  obtain ⟨_, _, he, hlz⟩ := RdI.at hr hz
  cases he
  have e1 : Int.toNat ((n : Int) - 1) = n - 1 := by omega
  refine eval_grown.start ⟨by unfold I64; omega, b, o, rfl, by omega, z, by rw [e1]; exact hlz, by omega, v, by simpa using hld, sub_spec ⟨_, rfl, ?_⟩⟩
  have hgrow : growI vs = (vs.zip vs.tail).foldl stepI (ari 2 z v) := by
    unfold growI
    rw [List.getLast?_eq_getElem?, hl, hz, List.head?_eq_getElem?, hv]; rfl
  rw [hgrow] at h
  suffices H : ∀ g k : Nat, ∀ a : Int, n - 1 - k = g → k ≤ n - 1 → (vs.zip vs.tail).foldl stepI (ari 2 z v) = ((vs.zip vs.tail).drop k).foldl stepI a → eval_grown.pt11 R (aD b o) n c a ((k + 1 : Nat) : Int) σ from H (n - 1) 0 _ (by omega) (by omega) rfl
  have hlen : (vs.zip vs.tail).length = n - 1 := by rw [List.length_zip, List.length_tail]; omega
  intro g
  induction g with
  | zero =>
    intro k a hg hk he
    refine eval_grown.pt11_of ⟨fun hlt => by omega, fun _ => ?_⟩
    rw [List.drop_eq_nil_of_le (by omega)] at he
    rw [he] at h; exact h
  | succ g ih =>
    intro k a hg hk he
    obtain ⟨x, hx⟩ := hr.ex (k := k) (by omega)
    obtain ⟨y, hy⟩ := hr.ex (k := k + 1) (by omega)
    obtain ⟨_, _, h1, hlx⟩ := RdI.at hr hx
    obtain ⟨_, _, h2, hly⟩ := RdI.at hr hy
    cases h1; cases h2
    have hzip : (vs.zip vs.tail)[k]? = some (x, y) := by
      rw [List.getElem?_zip_eq_some]
      exact ⟨hx, by rw [List.getElem?_tail]; exact hy⟩
    rw [drop_at' hzip, List.foldl_cons] at he
    have e2 : Int.toNat (((k + 1 : Nat) : Int) - 1) = k := by omega
    have e3 : Int.toNat ((k + 1 : Nat) : Int) = k + 1 := by omega
    have go : ∀ w, stepI a (x, y) = w → eval_grown.pt24 R (aD b o) n c w ((k + 1 : Nat) : Int) σ := fun w hw => eval_grown.pt24_of ⟨i64_succ (by omega : k + 1 < n) hr.big, ih (k + 1) w (by omega) (by omega) (by rw [← hw]; exact he)⟩
    refine eval_grown.pt11_of ⟨fun _ => ⟨b, o, rfl, by omega, y, by rw [e3]; exact hly, by unfold I64; omega, by omega, x, by rw [e2]; exact hlx, compare_spec ⟨_, _, rfl, fun ht => ⟨by unfold I64; omega, by omega, x, by rw [e2]; exact hlx, add_spec ⟨_, rfl, go _ ?_⟩⟩, fun hf => go _ ?_⟩⟩, fun hh => by omega⟩
    · unfold stepI; rw [if_pos ht]
    · unfold stepI; rw [if_neg (by rw [hf]; decide)]
end
end TwW
end
section
namespace TwW
open Go Tw Go.RowKit Go.Proofs.Tryz
theorem read_nan {x : Nat} (h : fNan x = true) : ∃ s t, Ieee.double.read x = .nan s t := by
  rw [fNan_read] at h
  cases hd : Ieee.double.read x with
  | nan s t => exact ⟨s, t, rfl⟩
  | number => rw [hd] at h; cases h
  | infinity => rw [hd] at h; cases h
theorem fAr_l {op : Int} {a b : Nat} (h : fNan a = true) : fAr op a b = none := by
  obtain ⟨s, t, hr⟩ := read_nan h
  unfold fAr Ieee.Format.add Ieee.Format.sub Ieee.Format.mul Ieee.Format.div
  rw [hr]
  simp [Ieee.Datum.sum, Ieee.Datum.product, Ieee.Datum.quotient]
theorem fAr_r {op : Int} {a b : Nat} (h : fNan b = true) : fAr op a b = none := by
  obtain ⟨s, t, hr⟩ := read_nan h
  unfold fAr Ieee.Format.add Ieee.Format.sub Ieee.Format.mul Ieee.Format.div
  rw [hr]
  cases Ieee.double.read a <;> simp [Ieee.Datum.sum, Ieee.Datum.product, Ieee.Datum.quotient, Ieee.Datum.opposite]
theorem arN_to (op : Int) (a b : Nat) : arN op (toF a) (toF b) = arN op a b := by
  unfold arN
  by_cases ha : fNan a = true
  · rw [fAr_l ha, show toF a = 9221120237041090560 by unfold toF; rw [ha]; rfl, fAr_l fNan_nan]
  · rw [show toF a = a by unfold toF; rw [if_neg ha]]
    by_cases hb : fNan b = true
    · rw [fAr_r hb, show toF b = 9221120237041090560 by unfold toF; rw [hb]; rfl, fAr_r fNan_nan]
    · rw [show toF b = b by unfold toF; rw [if_neg hb]]
abbrev cN : Nat := 4604544271217802189
abbrev dN : Nat := 13827916308072577997
abbrev oneN : Nat := 4607182418800017408
abbrev monN : Nat := 13830554455654793216
def twid : List (Nat × Nat) := [(oneN, 0), (cN, dN), (0, monN), (dN, dN), (monN, 0), (dN, cN), (0, oneN), (cN, cN)]
def lineF (j n : Nat) : List Int → Nat → Nat × Nat → Nat × Nat
  | [], _, a => a
  | x :: l, k, a =>
    let w := twid.getD ((j * k % n) * (8 / n)) (0, 0)
    lineF j n l (k + 1) (arN 1 a.1 (arN 3 x.toNat w.1), arN 1 a.2 (arN 3 x.toNat w.2))
def powN (vs : List Int) : Nat :=
  let l := lineF (1 % vs.length) vs.length vs 0 (0, 0)
  arN 1 (arN 3 l.1 l.1) (arN 3 l.2 l.2)
section
variable [Cnt] {σ : Hp} {R : Ending → Hp → Prop}
theorem neg_yf {x y : Nat} (h : x ^^^ 9223372036854775808 = y) : YF prog (Op.unary .neg (.float .f64 x)) σ (.float .f64 y) := fun w _ => by subst h; rfl
theorem twiddles_spec (h : ∀ b T σ', σ b = none → σ' = σ.set b (.cells (twid.map fun p => .complex .f64 p.1 p.2).toArray T (0, 0)) → R (.returned (.slice (aD b 0) 8 8)) σ') : Spec prog 196 #[] σ R := by
  refine wave_twiddles.start (of_spec ⟨_, rfl, dN, neg_yf (by decide), _, _, fun w _ => rfl, dN, neg_yf (by decide), dN, neg_yf (by decide), _, _, fun w _ => rfl, dN, neg_yf (by decide), _, _, fun w _ => rfl, _, _, fun w _ => rfl, fun b hb => ?_⟩)
  exact h b _ _ hb rfl
theorem line_spec {j : Nat} (hj : j ≤ 1) {p : Option Addr} {n c : Nat} {vs : List Int} (hr : RdI .u64 σ p n vs) (hn : n = 1 ∨ n = 2 ∨ n = 4 ∨ n = 8)
    (h : ∀ re im σ', Ext σ σ' → toF re = (lineF j n vs 0 (0, 0)).1 → toF im = (lineF j n vs 0 (0, 0)).2 → R (.returned (.complex .f64 re im)) σ') : Spec prog 176 #[.slice p n c, .int .i64 j] σ R := by
  have hl : vs.length = n := hr.1
  have z0 : toF 0 = 0 := by
    unfold toF
    rw [if_neg]
    rw [fNan_iff]; decide
  refine wave_line.start (twiddles_spec fun b T σ1 hb hs1 => ⟨_, _, _, rfl, ?_⟩)
  have hx1 : Ext σ σ1 := by rw [hs1]; exact .set hb
  have hlb : ∀ k, k < 8 → ∀ re im, twid[k]? = some (re, im) → σ1.ld ⟨b, 0 + k * 1, none⟩ = some (.complex .f64 re im) := fun k hk re im hw => by
    rw [hs1]
    unfold Hp.ld
    simp only [Hp.set_same]
    have : (twid.map fun p => Value.complex .f64 p.1 p.2)[k]? = some (.complex .f64 re im) := by rw [List.getElem?_map, hw]; rfl
    simpa using this
  clear hs1
  suffices H : ∀ g k : Nat, ∀ re im, ∀ a : Nat × Nat, n - k = g → k ≤ n → toF re = a.1 → toF im = a.2 → lineF j n vs 0 (0, 0) = lineF j n (vs.drop k) k a → wave_line.pt13 R p n c j (aD b 0) 8 8 (.complex .f64 re im) k σ1 from H n 0 0 0 (0, 0) rfl (Nat.zero_le _) z0 z0 rfl
  intro g
  induction g with
  | zero =>
    intro k re im a hg hk h1 h2 he
    have hkn : k = n := by omega
    subst hkn
    rw [List.drop_eq_nil_of_le (by omega)] at he
    refine wave_line.pt13_of ⟨fun _ => ?_, fun hh => by omega⟩
    rw [he] at h
    exact h re im σ1 hx1 h1 h2
  | succ g ih =>
    intro k re im a hg hk h1 h2 he
    have hkn : k < n := by omega
    obtain ⟨x, hx⟩ := hr.ex hkn
    obtain ⟨b', o', rfl, hld⟩ := RdI.at hr hx
    rw [drop_at' hx] at he
    have ht : (j : Int) * k = ((j * k : Nat) : Int) := by push_cast; rfl
    have hjk : j * k ≤ 8 := by
      rcases Nat.le_one_iff_eq_zero_or_eq_one.1 hj with h | h <;> subst h <;> omega
    refine wave_line.pt13_of ⟨fun hh => by omega, fun _ => ⟨b', o', rfl, by omega, x, by simpa using hx1.ld hld, by unfold I64; omega, by omega, fun x27 h27 => ⟨by omega, fun x30 h30 => ?_⟩⟩⟩
    have e27 : x27 = ((j * k % n : Nat) : Int) := by rw [h27, ht, Int.tmod_eq_emod_of_nonneg (by omega)]; omega
    have e30 : x30 = ((8 / n : Nat) : Int) := by rw [h30]; rcases hn with h | h | h | h <;> subst h <;> rfl
    have hm : (j * k % n) * (8 / n) < 8 := by
      have := Nat.mod_lt (j * k) (show 0 < n by omega)
      rcases hn with h | h | h | h <;> subst h <;> simp at * <;> omega
    have ep : x27 * x30 = (((j * k % n) * (8 / n) : Nat) : Int) := by rw [e27, e30]; push_cast; rfl
    dsimp only
    rw [ep]
    generalize hq : (j * k % n) * (8 / n) = q at *
    obtain ⟨⟨wr, wi⟩, hw⟩ : ∃ w, twid[q]? = some w := ⟨_, List.getElem?_eq_getElem (show q < twid.length from hm)⟩
    have hgd : twid.getD q (0, 0) = (wr, wi) := by rw [List.getD_eq_getElem?_getD, hw]; rfl
    rw [lineF, hq, hgd] at he
    refine ⟨by unfold I64; omega, b, 0, rfl, by omega, wr, wi, by simpa using hlb q hm wr wi hw, of_spec ⟨_, rfl, fun _ _ _ h => h, re, fun w _ => rfl, wr, fun w _ => rfl, mul_eff fun y hy => ⟨_, rfl, add_eff fun z hz => ⟨_, rfl, im, fun w _ => rfl, wi, fun w _ => rfl, mul_eff fun y' hy' => ⟨_, rfl, add_eff fun z' hz' => ⟨_, rfl, z, z', fun w _ => rfl, i64_succ hkn hr.big, ?_⟩⟩⟩⟩⟩⟩
    refine ih (k + 1) z z' _ (by omega) (by omega) ?_ ?_ he
    · rw [hz, ← arN_to, h1, hy]
    · rw [hz', ← arN_to, h2, hy']
theorem power_spec {p : Option Addr} {n c : Nat} {vs : List Int} (hr : RdI .u64 σ p n vs) (hn : n = 1 ∨ n = 2 ∨ n = 4 ∨ n = 8)
    (h : ∀ σ', Ext σ σ' → R (.returned (.tuple #[.int .u64 (powN vs : Nat), .int .i64 0])) σ') : Spec prog 161 #[.slice p n c] σ R := by
  have hl : vs.length = n := hr.1
  have hsz : ∀ {t : Bool} {Q : Ending → Hp → Prop}, Q (.returned (.bool true)) σ → Spec prog 175 #[.int .i64 n] σ Q := fun hq => wave_size.start ⟨fun _ => hq, fun h1 => ⟨fun _ => hq, fun h2 => ⟨fun _ => hq, fun h4 => by rw [show decide ((n : Int) = 8) = true from decide_eq_true (by omega)]; exact hq⟩⟩⟩
  refine wave_Power.start (hsz (t := true) ?_)
  refine ⟨true, rfl, fun hf => (by cases hf), fun _ => ⟨by omega, fun x12 h12 => ?_⟩⟩
  have e12 : x12 = ((1 % n : Nat) : Int) := by rw [h12, Int.tmod_eq_emod_of_nonneg (by omega)]; exact (Int.natCast_emod 1 n).symm
  rw [e12]
  refine line_spec (Nat.mod_le 1 n) hr hn fun re im σ1 hx h1 h2 => ⟨_, _, rfl, re, fun w _ => rfl, re, fun w _ => rfl, mul_eff fun y hy => ⟨_, rfl, im, fun w _ => rfl, im, fun w _ => rfl, mul_eff fun z hz => ⟨_, rfl, add_eff fun u hu => ⟨_, rfl, to_spec ⟨_, rfl, ?_⟩⟩⟩⟩⟩
  have e : toF u = powN vs := by
    rw [hu, ← arN_to, hy, hz]
    unfold powN
    rw [hl]
    dsimp only
    rw [← h1, ← h2, arN_to, arN_to]
  rw [e]
  exact h σ1 hx
def lastN (n : Nat) : Nat := if 8 ≤ n then 8 else if 4 ≤ n then 4 else if 2 ≤ n then 2 else 1
def strongI (vs : List Int) : Int := (powN (vs.drop (vs.length - lastN vs.length)) : Nat)
theorem strength_spec {p : Option Addr} {n c : Nat} {vs : List Int} (hr : RdI .u64 σ p n vs) (h0 : 0 < n) (hc : n ≤ c)
    (h : ∀ σ', Ext σ σ' → R (.returned (.int .u64 (strongI vs))) σ') : Spec prog 126 #[.slice p n c] σ R := by
  have hl : vs.length = n := hr.1
  have hbig := hr.big
  have last : ∀ m : Nat, lastN n = m → m ≤ n → (m = 1 ∨ m = 2 ∨ m = 4 ∨ m = 8) → I64 ((n : Int) - m) ∧ ((0 : Int) ≤ ((n : Int) - m) ∧ ((n : Int) - m) ≤ (n : Int)) ∧ Spec prog 161 #[(.slice (slP p (Int.toNat ((n : Int) - m)) c 1) (n - Int.toNat ((n : Int) - m)) (c - Int.toNat ((n : Int) - m)))] σ (Cont R (fun z y => ∃ x19a x19b, z = (.tuple #[.int .u64 x19a, .int .i64 x19b]) ∧ R (.returned (.int .u64 x19a)) y)) := fun m hm hmn hk => by
    have e : Int.toNat ((n : Int) - m) = n - m := by omega
    rw [e]
    refine ⟨by unfold I64; omega, by omega, ?_⟩
    have hs := RdS.sub (i := n - m) (m := m) hr (by decide) (by omega) hc
    rw [List.take_of_length_le (by rw [List.length_drop]; omega)] at hs
    rw [show n - (n - m) = m by omega]
    refine power_spec hs hk fun σ' hx => ⟨_, _, rfl, ?_⟩
    have := h σ' hx
    unfold strongI at this
    rw [hl, hm] at this
    exact this
  have two : ∀ m x : Int, x = IntKind.i64.wrap (Int.tdiv m 2) → (m = 8 ∨ m = 4 ∨ m = 2) → x = m / 2 := fun m x hx hm => by
    rw [hx]; rcases hm with h | h | h <;> subst h <;> rfl
  refine eval_strength.start (eval_strength.pt9_of ⟨fun h8 => ⟨by decide, fun x1 e1 => ?_⟩, fun h8 => last 8 (by unfold lastN; rw [if_pos (by omega)]) (by omega) (by omega)⟩)
  have e1 := two _ _ e1 (.inl rfl)
  subst e1
  refine eval_strength.pt9_of ⟨fun h4 => ⟨by decide, fun x2 e2 => ?_⟩, fun h4 => last 4 (by unfold lastN; rw [if_neg (by omega), if_pos (by omega)]) (by omega) (by omega)⟩
  have e2 := two _ _ e2 (.inr (.inl (by decide)))
  subst e2
  refine eval_strength.pt9_of ⟨fun h2 => ⟨by decide, fun x3 e3 => ?_⟩, fun h2 => last 2 (by unfold lastN; rw [if_neg (by omega), if_neg (by omega), if_pos (by omega)]) (by omega) (by omega)⟩
  have e3 := two _ _ e3 (.inr (.inr (by decide)))
  subst e3
  exact eval_strength.pt9_of ⟨fun h1 => by omega, fun h1 => last 1 (by unfold lastN; rw [if_neg (by omega), if_neg (by omega), if_neg (by omega)]) (by omega) (by omega)⟩
end
end TwW
end
section
namespace TwW
open Go Tw Go.RowKit Go.Proofs.Tryz
def cntP (ps : List Pt) (x : Int) : Nat := ps.countP fun q => decide (q.1 ≤ x)
theorem cntP_eq {ps : List Pt} {x : Int} {i : Nat} (hi : i ≤ ps.length) (h1 : ∀ k q, k < i → ps[k]? = some q → q.1 ≤ x) (h2 : ∀ k q, i ≤ k → ps[k]? = some q → x < q.1) : cntP ps x = i := by
  unfold cntP
  rw [← List.take_append_drop i ps, List.countP_append]
  have e1 : (ps.take i).countP (fun q => decide (q.1 ≤ x)) = (ps.take i).length := List.countP_eq_length.2 fun q hq => by
    obtain ⟨k, hk⟩ := List.mem_iff_getElem?.1 hq
    rw [List.getElem?_take] at hk
    split at hk
    · rename_i hki; exact decide_eq_true (h1 k q hki hk)
    · cases hk
  have e2 : (ps.drop i).countP (fun q => decide (q.1 ≤ x)) = 0 := List.countP_eq_zero.2 fun q hq => by
    obtain ⟨k, hk⟩ := List.mem_iff_getElem?.1 hq
    rw [List.getElem?_drop] at hk
    have := h2 _ q (Nat.le_add_right i k) hk
    simp; omega
  rw [e1, e2, List.length_take]; omega
def risP (ps : List Pt) : Prop := ps.Pairwise fun a b => a.1 < b.1
theorem risF_pair {ps : List Pt} (h : risF ps = true) : risP ps := by
  have hh := ((risF_iff ps).1 h).2
  unfold risP
  rw [List.pairwise_iff_getElem]
  intro i j hi hj hij
  induction j with
  | zero => omega
  | succ j ih =>
    have hs := hh j ps[j] ps[j + 1] (List.getElem?_eq_getElem _) (List.getElem?_eq_getElem _)
    by_cases h : i = j
    · subst h; exact hs
    · exact Int.lt_trans (ih (by omega) (by omega)) hs
theorem risP_lt {ps : List Pt} (h : risP ps) {i j : Nat} {a b : Pt} (hij : i < j) (ha : ps[i]? = some a) (hb : ps[j]? = some b) : a.1 < b.1 := by
  obtain ⟨h1, rfl⟩ := List.getElem?_eq_some_iff.1 ha
  obtain ⟨h2, rfl⟩ := List.getElem?_eq_some_iff.1 hb
  exact List.pairwise_iff_getElem.1 h i j h1 h2 hij
theorem wrapU {x : Int} (h0 : 0 ≤ x) (h1 : x < 18446744073709551616) : IntKind.u64.wrap x = x := by simp [IntKind.wrap, IntKind.bits, IntKind.signed]; omega
theorem wrapI {x : Int} (h0 : 0 ≤ x) (h1 : x < 9223372036854775808) : IntKind.i64.wrap x = x := by simp [IntKind.wrap, IntKind.bits, IntKind.signed]; omega
section
variable [Cnt] {σ : Hp} {R : Ending → Hp → Prop}
theorem bs_spec {f : Nat} (hf : Enters prog f) (hcmp : ∀ a b x σ' R', R' (.returned (.int .i64 (if a ≤ x then -1 else 1))) σ' → Spec prog f #[.agg #[.int .i64 a, .int .u64 b], .int .i64 x] σ' R') {p : Option Addr} {n c : Nat} {ps : List Pt} {x : Int} (hr : RdS 2 EPt σ p n ps) (hs : risP ps)
    (h : ∀ t, R (.returned (.tuple #[.int .i64 (cntP ps x), .bool t])) σ) : Spec prog 114 #[.slice p n c, .int .i64 x, .func (.func f) #[] #[]] σ R := by
  have hl : ps.length = n := hr.1
  have hbig := hr.big
  refine slices_BinarySearchFunc_int64.start ?_
  suffices H : ∀ g i j : Nat, j - i = g → i ≤ j → j ≤ n → (∀ k q, k < i → ps[k]? = some q → q.1 ≤ x) → (∀ k q, j ≤ k → ps[k]? = some q → x < q.1) → slices_BinarySearchFunc_int64.pt11 R p n c x (.func (.func f) #[] #[]) n i j σ from
    H n 0 n rfl (Nat.zero_le _) (Nat.le_refl _) (fun k q hk => by omega) (fun k q hk hq => by have := (List.getElem?_eq_some_iff.1 hq).1; omega)
  intro g
  induction g using Nat.strongRecOn with
  | _ g ih =>
    intro i j hg hij hj h1 h2
    refine slices_BinarySearchFunc_int64.pt11_of ⟨fun hlt => ⟨by unfold I64; omega, fun x21 e21 => ⟨by decide, fun x22 e22 x23 e23 => ?_⟩⟩, fun hge => ⟨fun hin => ?_, fun hin => ?_⟩⟩
    · rw [wrapU (by omega) (by omega)] at e21
      have e22' : x22 = ((i + j) / 2 : Nat) := by rw [e22, e21]; show ((i : Int) + j) / 2 ^ 1 = _; omega
      rw [e22', wrapI (by omega) (by omega)] at e23
      generalize hm : (i + j) / 2 = m at *
      have him : i ≤ m ∧ m < j := by omega
      obtain ⟨q, hq⟩ := hr.ex (k := m) (by omega)
      obtain ⟨b, o, rfl, hld⟩ := EPt.at hr hq
      rw [e23]
      refine ⟨b, o, rfl, by omega, q.1, q.2, by simpa using hld, f, #[], #[], rfl, hf, hcmp _ _ _ _ _ ⟨_, rfl, fun hneg => ⟨by unfold I64; omega, ?_⟩, fun hpos => ?_⟩⟩
      · have hq1 : q.1 ≤ x := by
          by_cases hh : q.1 ≤ x
          · exact hh
          · rw [if_neg hh] at hneg; omega
        refine ih (j - (m + 1)) (by omega) (m + 1) j rfl (by omega) hj (fun k r hk hkr => ?_) h2
        by_cases hkm : k = m
        · rw [hkm, hq] at hkr; cases hkr; exact hq1
        · have := risP_lt hs (by omega : k < m) hkr hq; omega
      · have hq1 : x < q.1 := by
          by_cases hh : q.1 ≤ x
          · rw [if_pos hh] at hpos; omega
          · omega
        refine ih (m - i) (by omega) i m rfl (by omega) (by omega) h1 (fun k r hk hkr => ?_)
        by_cases hkm : k = m
        · rw [hkm, hq] at hkr; cases hkr; exact hq1
        · have := risP_lt hs (by omega : m < k) hq hkr; omega
    · have e : i = j := by omega
      subst e
      have hc := cntP_eq (by omega) h1 h2
      obtain ⟨q, hq⟩ := hr.ex (k := i) (by omega)
      obtain ⟨b, o, rfl, hld⟩ := EPt.at hr hq
      refine ⟨b, o, rfl, by omega, q.1, q.2, by simpa using hld, f, #[], #[], rfl, hf, hcmp _ _ _ _ _ ⟨_, rfl, ?_⟩⟩
      have := h (decide ((if q.1 ≤ x then (-1 : Int) else 1) = 0))
      rw [hc] at this; exact this
    · have e : i = j := by omega
      subst e
      have hc := cntP_eq (by omega) h1 h2
      have := h false
      rw [hc] at this; exact this
omit [Cnt] in
theorem cntP_spec {x : Int} : ∀ {ps : List Pt}, risP ps → cntP ps x ≤ ps.length ∧ (∀ k q, k < cntP ps x → ps[k]? = some q → q.1 ≤ x) ∧ (∀ k q, cntP ps x ≤ k → ps[k]? = some q → x < q.1)
  | [], _ => ⟨Nat.le_refl _, fun k q hk => by simp [cntP] at hk, fun k q _ hq => by simp at hq⟩
  | a :: l, h => by
    have hl := List.pairwise_cons.1 h
    obtain ⟨h1, h2, h3⟩ := cntP_spec (x := x) (ps := l) hl.2
    by_cases ha : a.1 ≤ x
    · have e : cntP (a :: l) x = cntP l x + 1 := by unfold cntP; rw [List.countP_cons_of_pos (by simpa using ha)]
      rw [e]
      refine ⟨by simp; exact h1, fun k q hk hq => ?_, fun k q hk hq => ?_⟩
      · cases k with
        | zero => simp at hq; subst hq; exact ha
        | succ k => exact h2 k q (by omega) (by simpa using hq)
      · cases k with
        | zero => omega
        | succ k => exact h3 k q (by omega) (by simpa using hq)
    · have e : cntP (a :: l) x = 0 := by
        unfold cntP
        rw [List.countP_eq_zero]
        intro q hq
        rcases List.mem_cons.1 hq with rfl | hq
        · simpa using ha
        · have := hl.1 q hq
          simp; omega
      rw [e]
      refine ⟨Nat.zero_le _, fun k q hk => by omega, fun k q _ hq => ?_⟩
      cases k with
      | zero => simp at hq; subst hq; omega
      | succ k =>
        have := hl.1 q (List.mem_of_getElem? (by simpa using hq))
        omega
omit [Cnt] in
theorem pts_cut {ps : List Pt} (hs : risP ps) (above most : Int) {i m : Nat} (hi : i = min (cntP ps above) (cntP ps most)) (hm : m = cntP ps most - i) : (ps.drop i).take m = ptsF ps above most := by
  obtain ⟨a1, a2, a3⟩ := cntP_spec (x := above) hs
  obtain ⟨m1, m2, m3⟩ := cntP_spec (x := most) hs
  have e : ps = ps.take i ++ ((ps.drop i).take m ++ (ps.drop i).drop m) := by rw [List.take_append_drop, List.take_append_drop]
  have hf : ptsF ps above most = ptsF (ps.take i) above most ++ (ptsF ((ps.drop i).take m) above most ++ ptsF ((ps.drop i).drop m) above most) := by
    conv => lhs; rw [e]
    unfold ptsF
    rw [List.filter_append, List.filter_append]
  rw [hf]
  have f1 : ptsF (ps.take i) above most = [] := List.filter_eq_nil_iff.2 fun q hq => by
    obtain ⟨k, hk⟩ := List.mem_iff_getElem?.1 hq
    rw [List.getElem?_take] at hk
    split at hk
    · have := a2 k q (by omega) hk; simp; omega
    · cases hk
  have f2 : ptsF ((ps.drop i).take m) above most = (ps.drop i).take m := List.filter_eq_self.2 fun q hq => by
    obtain ⟨k, hk⟩ := List.mem_iff_getElem?.1 hq
    rw [List.getElem?_take] at hk
    split at hk
    · rename_i hkm
      rw [List.getElem?_drop] at hk
      have g1 := m2 _ q (by omega) hk
      have g2 := a3 _ q (by omega) hk
      simp; omega
    · cases hk
  have f3 : ptsF ((ps.drop i).drop m) above most = [] := List.filter_eq_nil_iff.2 fun q hq => by
    obtain ⟨k, hk⟩ := List.mem_iff_getElem?.1 hq
    rw [List.getElem?_drop, List.getElem?_drop] at hk
    have := m3 _ q (by omega) hk
    simp; omega
  rw [f1, f2, f3]; simp
theorem points_spec {p : Option Addr} {n c : Nat} {ps : List Pt} {above most : Int} (hr : RdS 2 EPt σ p n ps) (hc : n ≤ c) (hs : risP ps)
    (h : ∀ q m d, RdS 2 EPt σ q m (ptsF ps above most) → m ≤ d → R (.returned (.slice q m d)) σ) : Spec prog 83 #[.slice p n c, .int .i64 above, .int .i64 most] σ R := by
  have hl : ps.length = n := hr.1
  have c1 : ∀ a b x σ' R', R' (.returned (.int .i64 (if a ≤ x then -1 else 1))) σ' → Spec prog 115 #[.agg #[.int .i64 a, .int .u64 b], .int .i64 x] σ' R' := fun a b x σ' R' hh => eval_points_1.start fun _ => ⟨fun hle => by rw [if_pos hle] at hh; exact hh, fun hle => by rw [if_neg hle] at hh; exact hh⟩
  have c2 : ∀ a b x σ' R', R' (.returned (.int .i64 (if a ≤ x then -1 else 1))) σ' → Spec prog 116 #[.agg #[.int .i64 a, .int .u64 b], .int .i64 x] σ' R' := fun a b x σ' R' hh => eval_points_2.start fun _ => ⟨fun hle => by rw [if_pos hle] at hh; exact hh, fun hle => by rw [if_neg hle] at hh; exact hh⟩
  have ha := (cntP_spec (x := above) hs).1
  have hm := (cntP_spec (x := most) hs).1
  refine eval_points.start (bs_spec (fun args w => call115 args w) c1 hr hs fun t => ⟨_, _, rfl, bs_spec (fun args w => call116 args w) c2 hr hs fun t' => ⟨_, _, rfl, ?_⟩⟩)
  have e : (if ((cntP ps most : Nat) : Int) < (cntP ps above : Nat) then ((cntP ps most : Nat) : Int) else (cntP ps above : Nat)) = ((min (cntP ps above) (cntP ps most) : Nat) : Int) := by split <;> omega
  rw [e]
  generalize hi : min (cntP ps above) (cntP ps most) = i
  have hsub := RdS.sub (i := i) (m := cntP ps most - i) hr (by decide) (by omega) hc
  rw [pts_cut hs above most hi.symm rfl] at hsub
  refine ⟨by omega, ?_⟩
  have := h _ _ (c - i) hsub (by omega)
  simpa using this
end
end TwW
end
section
namespace TwW
open Go Tw Go.RowKit Go.Proofs.Tryz
theorem takeW_len {α : Type} {P : α → Bool} : ∀ {l : List α} {k : Nat}, k ≤ l.length → (∀ j u, j < k → l[j]? = some u → P u = true) → (∀ u, l[k]? = some u → P u = false) → (l.takeWhile P).length = k
  | [], k, hk, _, _ => by simp at hk; subst hk; rfl
  | a :: l, 0, _, _, h2 => by simp [List.takeWhile, h2 a rfl]
  | a :: l, k + 1, hk, h1, h2 => by
    have ha : P a = true := h1 0 a (by omega) rfl
    simp only [List.takeWhile, ha, List.length_cons]
    rw [takeW_len (k := k) (by simp at hk; omega) (fun j u hj hu => h1 (j + 1) u (by omega) (by simpa using hu)) (fun u hu => h2 u (by simpa using hu))]
def digN (s : ByteArray) : Nat := (s.data.toList.takeWhile digB).length
theorem digN_le (s : ByteArray) : digN s ≤ s.size := by
  unfold digN
  exact Nat.le_trans (List.Sublist.length_le (List.takeWhile_sublist _)) (Nat.le_of_eq (Array.length_toList (xs := s.data)))
section
variable [Cnt] {σ : Hp} {R : Ending → Hp → Prop}
omit [Cnt] in
theorem strTo {s : ByteArray} {h : Nat} (hh : h ≤ s.size) : YF prog (Instr.sliceAt 9 (.string s) none (some (.int .i64 (h : Int))) none) σ (.string (s.extract 0 h)) := fun w _ => by
  rw [run_sliceAt_string (h := underlying9)]
  have h1 : (h : Int) ≤ s.size := by omega
  simp [Instr.slice, run_underlying underlying9, Instr.sliceBounds, run_sliceBound, h1, Result.andThen]
omit [Cnt] in
theorem strFrom {s : ByteArray} {l : Nat} (hl : l ≤ s.size) : YF prog (Instr.sliceAt 9 (.string s) (some (.int .i64 (l : Int))) none none) σ (.string (s.extract l s.size)) := fun w _ => by
  rw [run_sliceAt_string (h := underlying9)]
  have h1 : (l : Int) ≤ s.size := by omega
  simp [Instr.slice, run_underlying underlying9, Instr.sliceBounds, run_sliceBound, h1, Result.andThen]
omit [Cnt] in
theorem byte_at {s : ByteArray} {k : Nat} (hk : k < s.size) : ∃ u, s.data[k]? = some u ∧ s.data.toList[k]? = some u := ⟨s.data[k]'hk, by rw [Array.getElem?_eq_getElem], by rw [Array.getElem?_toList, Array.getElem?_eq_getElem]⟩
theorem lexDigits_spec {s : ByteArray} (hb : s.size ≤ 4611686018427387904) (h : R (.returned (.int .i64 (digN s))) σ) : Spec prog 79 #[.string s] σ R := by
  have hlen : s.data.toList.length = s.size := Array.length_toList (xs := s.data)
  refine lex_digits.start ?_
  suffices H : ∀ g k : Nat, s.size - k = g → k ≤ s.size → (∀ j u, j < k → s.data.toList[j]? = some u → digB u = true) → lex_digits.pt9 R s k σ from H s.size 0 rfl (Nat.zero_le _) (fun j u hj => by omega)
  intro g
  induction g with
  | zero =>
    intro k hg hk h1
    have e : digN s = k := takeW_len (by omega) h1 (fun u hu => by have := (List.getElem?_eq_some_iff.1 hu).1; omega)
    rw [e] at h
    exact lex_digits.pt9_of ⟨fun hlt => by omega, fun _ => h⟩
  | succ g ih =>
    intro k hg hk h1
    obtain ⟨u, hu, hu'⟩ := byte_at (show k < s.size by omega)
    have stop : digB u = false → R (.returned (.int .i64 k)) σ := fun hd => by
      have e : digN s = k := takeW_len (by omega) h1 (fun v hv => by rw [hu'] at hv; cases hv; exact hd)
      rw [e] at h; exact h
    refine lex_digits.pt9_of ⟨fun _ => ⟨u, by omega, by simpa using hu, lex_digit.start ⟨fun h48 => ⟨_, rfl, fun ht => ?_, fun hf => stop ?_⟩, fun h48 => ⟨false, rfl, ⟨fun ht => (by cases ht), fun _ => stop ?_⟩⟩⟩⟩, fun hh => by omega⟩
    · refine ⟨i64_succ (by omega : k < s.size) hb, ih (k + 1) (by omega) (by omega) fun j v hj hv => ?_⟩
      by_cases hjk : j = k
      · rw [hjk, hu'] at hv; cases hv
        have := of_decide_eq_true ht
        exact decide_eq_true (by omega)
      · exact h1 j v (by omega) hv
    · have := of_decide_eq_false hf
      exact decide_eq_false (by omega)
    · exact decide_eq_false (by omega)
end
end TwW
end
section
namespace TwW
open Go Tw Go.RowKit Go.Proofs.Tryz
abbrev ndV (n : Nd) (p : Option Addr) (k c : Nat) (q : Option Addr) (m d : Nat) : Value := .agg #[.int .i64 n.kind, .int .i64 n.op, .string n.text, .slice p k c, .int .i64 n.width, .int .i64 n.back, .int .i64 n.grp, .slice q m d, .bool n.bool, .int .i64 n.parts]
def bareNd (n : Nd) : Nd :=
  if n.kind = 1 then ⟨n.kind, 0, n.text, [], 0, 0, 0, [], false, 0⟩
  else if n.kind = 2 then ⟨n.kind, 0, ByteArray.mk #[], [], 0, n.back, 0, [], false, 0⟩
  else if n.kind = 3 then ⟨n.kind, 0, ByteArray.mk #[], [], n.width, n.back, 0, [], false, 0⟩
  else if n.kind = 4 then ⟨n.kind, n.op, ByteArray.mk #[], [], 0, 0, 0, [], false, n.parts⟩
  else if n.kind = 5 then ⟨n.kind, n.op, ByteArray.mk #[], [], 0, 0, n.grp, [], false, n.parts⟩
  else if n.kind = 6 then ⟨n.kind, n.op, ByteArray.mk #[], [], 0, 0, n.grp, [], n.bool, n.parts⟩
  else ⟨n.kind, 0, ByteArray.mk #[], [], 0, 0, 0, [], false, n.parts⟩
theorem size2 : ∀ w, (Go.sizeOf 2).run prog w = .ok 1 w := fun w => by kernel_rfl
theorem size3 : ∀ w, (Go.sizeOf 3).run prog w = .ok 1 w := fun w => by kernel_rfl
theorem size4 : ∀ w, (Go.sizeOf 4).run prog w = .ok 1 w := fun w => by kernel_rfl
theorem size9 : ∀ w, (Go.sizeOf 9).run prog w = .ok 1 w := fun w => by kernel_rfl
theorem size52 : ∀ w, (Go.sizeOf 52).run prog w = .ok 10 w := fun w => by kernel_rfl
theorem wrt_full {c : Array Value} {l : List Value} (h : l.length = c.size) : wrt c 0 l = l.toArray := by
  apply Array.ext_getElem?
  intro j
  rw [wrt_get l c 0 j (by omega)]
  split
  · simp
  · rename_i hj
    rw [Array.getElem?_eq_none (by omega), List.getElem?_toArray, List.getElem?_eq_none (by omega)]
section
variable [Cnt] {σ : Hp} {R : Ending → Hp → Prop}
omit [Cnt] in
theorem ldl_of {τ : Hp} {b T : Nat} : ∀ {l : List Value} {c : Array Value} {o : Nat}, τ b = some (.cells c T (0, 0)) → (∀ j v, l[j]? = some v → c[o + j]? = some v) → LdL τ b o l
  | [], _, _, _, _ => trivial
  | v :: l, c, o, hb, h => ⟨by unfold Hp.ld; rw [hb]; simpa using h 0 v rfl, ldl_of hb fun j u hu => by have := h (j + 1) u (by simpa using hu); rwa [show o + (j + 1) = o + 1 + j by omega] at this⟩
omit [Cnt] in
theorem ext_set {τ : Hp} {b : Nat} {o : Obj} (hb : σ b = none) (h : Ext σ τ) : Ext σ (τ.set b o) := fun k u hk => by
  rw [Hp.set_ne (fun e => by rw [e, hb] at hk; cases hk)]; exact h k u hk
set_option maxHeartbeats 4000000 in
theorem bare_spec {n : Nd} {p q : Option Addr} {k c m d : Nat} (h : ∀ σ', Ext σ σ' → R (.returned (ndV (bareNd n) none 0 0 none 0 0)) σ') : Spec prog 50 #[ndV n p k c q m d] σ R := by
  refine types_bare.start fun _ _ b hb => ?_
  have fin : ∀ (τ : Hp) (c : Array Value) (T : Nat), τ b = some (.cells c T (0, 0)) → Ext σ τ → c = #[.int .i64 (bareNd n).kind, .int .i64 (bareNd n).op, .string (bareNd n).text, .slice none 0 0, .int .i64 (bareNd n).width, .int .i64 (bareNd n).back, .int .i64 (bareNd n).grp, .slice none 0 0, .bool (bareNd n).bool, .int .i64 (bareNd n).parts] →
      ∃ x18a x18b s18c p18d n18d c18d x18e x18f x18g p18h n18h c18h t18i x18j, LdL τ b 0 [.int .i64 x18a, .int .i64 x18b, .string s18c, .slice p18d n18d c18d, .int .i64 x18e, .int .i64 x18f, .int .i64 x18g, .slice p18h n18h c18h, .bool t18i, .int .i64 x18j] ∧ R (.returned (.agg #[.int .i64 x18a, .int .i64 x18b, .string s18c, .slice p18d n18d c18d, .int .i64 x18e, .int .i64 x18f, .int .i64 x18g, .slice p18h n18h c18h, .bool t18i, .int .i64 x18j])) τ := fun τ c T hτ hx hc =>
    ⟨_, _, _, _, _, _, _, _, _, _, _, _, _, _, ldl_of hτ fun j v hv => by rw [hc, Nat.zero_add]; simpa using hv, h τ hx⟩
  have st : ∀ {τ : Hp} {c : Array Value} {T U o : Nat} {v : Value} {Φ : Unit → Hp → Prop}, (∀ w, (Go.sizeOf U).run prog w = .ok 1 w) → τ b = some (.cells c T (0, 0)) → Ext σ τ → o + 1 ≤ c.size → v.cells = #[v] → v.oneCell' = true →
      (∀ (τ' : Hp) (c' : Array Value), c' = wrt c o [v] → c'.size = c.size → τ' b = some (.cells c' T (0, 0)) → Ext σ τ' → Φ () τ') → Eff prog (Instr.storeAt U (.pointer (aD b o)) v) τ Φ := fun {τ c T U o v Φ} hz hτ hx ho h1 h2 hk => by
    refine Eff.store hz hτ (by rw [h1]; rfl) (by simpa using ho) (fun u hu => by rw [h1] at hu; simp at hu; rw [hu]; exact h2) ?_
    rw [h1]
    exact hk _ _ rfl (wrt_size _ _ _) (Hp.set_same _ _ _) (ext_set hb hx)
  have st0 : ∀ {Φ : Unit → Hp → Prop}, (∀ (τ : Hp) (c : Array Value), c = #[.int .i64 n.kind, .int .i64 0, (.string (ByteArray.mk #[])), .slice none 0 0, .int .i64 0, .int .i64 0, .int .i64 0, .slice none 0 0, .bool false, .int .i64 0] → c.size = 10 → τ b = some (.cells c 52 (0, 0)) → Ext σ τ → Φ () τ) →
      Eff prog (Instr.storeAt 52 (.pointer (aD b 0)) (.agg #[.int .i64 n.kind, .int .i64 0, (.string (ByteArray.mk #[])), .slice none 0 0, .int .i64 0, .int .i64 0, .int .i64 0, .slice none 0 0, .bool false, .int .i64 0])) (Hp.set σ b (.cells #[.int .i64 0, .int .i64 0, (.string (ByteArray.mk #[])), .slice none 0 0, .int .i64 0, .int .i64 0, .int .i64 0, .slice none 0 0, .bool false, .int .i64 0] 52 (0, 0))) Φ := fun {Φ} hk => by
    refine Eff.store size52 (Hp.set_same _ _ _) rfl (by simp) (by simp [Value.cells, Value.oneCell']) ?_
    exact hk _ _ (wrt_full rfl) (by rw [wrt_size]; rfl) (Hp.set_same _ _ _) (ext_set hb (Ext.set hb))
  refine st0 fun τ c0 e0 z0 g0 x0 => ?_
  refine ⟨fun h1 => ?_, fun h1 => ⟨fun h2 => ?_, fun h2 => ⟨fun h3 => ?_, fun h3 => ⟨fun h4 => ?_, fun h4 => ⟨fun h5 => ?_, fun h5 => ⟨fun h6 => ?_, fun h6 => ?_⟩⟩⟩⟩⟩⟩
  · refine st size9 g0 x0 (by omega) rfl rfl fun τ1 c1 e1 z1 g1 x1 => fin τ1 c1 _ g1 x1 ?_
    subst e0 e1; unfold bareNd; simp only [h1, if_true]; rfl
  · refine st size2 g0 x0 (by omega) rfl rfl fun τ1 c1 e1 z1 g1 x1 => fin τ1 c1 _ g1 x1 ?_
    subst e0 e1; unfold bareNd; simp only [h2, if_true]; rfl
  · refine st size2 g0 x0 (by omega) rfl rfl fun τ1 c1 e1 z1 g1 x1 => ?_
    refine st size2 g1 x1 (by omega) rfl rfl fun τ2 c2 e2 z2 g2 x2 => fin τ2 c2 _ g2 x2 ?_
    subst e0 e1 e2; unfold bareNd; simp only [h3, if_true]; rfl
  · refine st size3 g0 x0 (by omega) rfl rfl fun τ1 c1 e1 z1 g1 x1 => ?_
    refine st size3 g1 x1 (by omega) rfl rfl fun τ2 c2 e2 z2 g2 x2 => fin τ2 c2 _ g2 x2 ?_
    subst e0 e1 e2; unfold bareNd; simp only [h4, if_true]; rfl
  · refine st size3 g0 x0 (by omega) rfl rfl fun τ1 c1 e1 z1 g1 x1 => ?_
    refine st size3 g1 x1 (by omega) rfl rfl fun τ2 c2 e2 z2 g2 x2 => ?_
    refine st size3 g2 x2 (by omega) rfl rfl fun τ3 c3 e3 z3 g3 x3 => fin τ3 c3 _ g3 x3 ?_
    subst e0 e1 e2 e3; unfold bareNd; simp only [h5, if_true]; rfl
  · refine st size3 g0 x0 (by omega) rfl rfl fun τ1 c1 e1 z1 g1 x1 => ?_
    refine st size3 g1 x1 (by omega) rfl rfl fun τ2 c2 e2 z2 g2 x2 => ?_
    refine st size4 g2 x2 (by omega) rfl rfl fun τ3 c3 e3 z3 g3 x3 => ?_
    refine st size3 g3 x3 (by omega) rfl rfl fun τ4 c4 e4 z4 g4 x4 => fin τ4 c4 _ g4 x4 ?_
    subst e0 e1 e2 e3 e4; unfold bareNd; simp only [h6, if_true]; rfl
  · refine st size3 g0 x0 (by omega) rfl rfl fun τ1 c1 e1 z1 g1 x1 => fin τ1 c1 _ g1 x1 ?_
    subst e0 e1; unfold bareNd; simp only [h1, h2, h3, h4, h5, h6, if_false]; rfl
end
end TwW
end
section
namespace TwW
open Go Tw Go.RowKit Go.Proofs.Tryz
section
variable {σ : Hp} {R : Ending → Hp → Prop}
theorem compares_spec {k : Int} (h : R (.returned (.bool (cmpsF k))) σ) : Spec prog 54 #[.int .i64 k] σ R := by
  refine types_Compares.start ⟨fun h1 => ?_, fun h1 => ?_⟩
  · rw [show cmpsF k = decide (k ≤ 10) by unfold cmpsF; rw [decide_eq_true h1]; rfl] at h; exact h
  · rw [show cmpsF k = false by unfold cmpsF; rw [decide_eq_false h1]; rfl] at h; exact h
theorem setsOp_spec {k : Int} (h : R (.returned (.bool (decide (11 ≤ k ∧ k ≤ 13)))) σ) : Spec prog 58 #[.int .i64 k] σ R := by
  refine types_Sets.start ⟨fun h1 => ?_, fun h1 => ?_⟩
  · rw [show decide (11 ≤ k ∧ k ≤ 13) = decide (k ≤ 13) from decide_eq_decide.2 ⟨fun h => h.2, fun h => ⟨h1, h⟩⟩] at h; exact h
  · rw [show decide (11 ≤ k ∧ k ≤ 13) = false from decide_eq_false (fun hh => h1 hh.1)] at h; exact h
theorem span_spec {v l : Int} (h : R (.returned (.bool (spanF v l))) σ) : Spec prog 53 #[.int .i64 v, .int .i64 l] σ R := by
  refine types_span.start ⟨fun h1 => ?_, fun h1 => ?_⟩
  · rw [show spanF v l = decide (v < 2147483648) by unfold spanF; rw [decide_eq_true h1]; rfl] at h; exact h
  · rw [show spanF v l = false by unfold spanF; rw [decide_eq_false h1]; rfl] at h; exact h
theorem kind_spec {k : Int} (h : R (.returned (.bool (decide (1 ≤ k ∧ k ≤ 4)))) σ) : Spec prog 55 #[.int .i64 k] σ R := by
  refine match_kind.start ⟨fun h1 => ?_, fun h1 => ?_⟩
  · rw [show decide (1 ≤ k ∧ k ≤ 4) = decide (k ≤ 4) from decide_eq_decide.2 ⟨fun h => h.2, fun h => ⟨h1, h⟩⟩] at h; exact h
  · rw [show decide (1 ≤ k ∧ k ≤ 4) = false from decide_eq_false (fun hh => h1 hh.1)] at h; exact h
theorem name_spec {s : ByteArray} (h : R (.returned (.bool (lnOk s))) σ) : Spec prog 56 #[.string s] σ R := by
  refine label_Name.start (labelName_spec ?_)
  exact ⟨_, rfl, h⟩
theorem EMt.at {p : Option Addr} {n i : Nat} {ms : List Mt} {x : Mt} (hr : RdS 3 EMt σ p n ms) (hx : ms[i]? = some x) : ∃ b o, p = some ⟨b, o, none⟩ ∧ LdL σ b (o + i * 3) [.int .i64 x.kind, .string x.name, .string x.val] := by
  obtain ⟨b, o, vs, hp, rfl, hl⟩ := RdS.idx hr hx
  exact ⟨b, o, hp, hl⟩
def mtF (m : Mt) : Bool := decide (1 ≤ m.kind ∧ m.kind ≤ 4) && lnOk m.name && decide (m.val.size ≤ 256)
theorem mCheck_spec {p : Option Addr} {n c : Nat} {ms : List Mt} (hr : RdS 3 EMt σ p n ms) (h : R (.returned (.int .i64 (mtsOk lnOk ms))) σ) : Spec prog 32 #[.slice p n c] σ R := by
  have hl : ms.length = n := hr.1
  refine match_Check.start ⟨fun h8 => ?_, fun h8 => ?_⟩
  · rw [show mtsOk lnOk ms = 41 by unfold mtsOk; rw [if_pos (by omega)]] at h; exact h
  have hm : mtsOk lnOk ms = if ms.all mtF then 0 else 40 := by unfold mtsOk; rw [if_neg (by omega)]; rfl
  rw [hm] at h
  suffices H : ∀ g k : Nat, n - k = g → k ≤ n → ms.all mtF = (ms.drop k).all mtF → match_Check.pt16 R p n c n k σ from H n 0 rfl (Nat.zero_le _) rfl
  intro g
  induction g with
  | zero =>
    intro k hg hk he
    rw [List.drop_eq_nil_of_le (by omega)] at he
    rw [he] at h
    exact match_Check.pt16_of ⟨fun hlt => by omega, fun _ => h⟩
  | succ g ih =>
    intro k hg hk he
    have hk' : k < n := by omega
    obtain ⟨x, hx⟩ := hr.ex hk'
    obtain ⟨b, o, rfl, hld⟩ := EMt.at hr hx
    rw [drop_at' hx, List.all_cons] at he
    have bad : mtF x = false → R (.returned (.int .i64 40)) σ := fun hf => by
      rw [hf] at he
      rw [he] at h; exact h
    refine match_Check.pt16_of ⟨fun _ => ⟨b, o, rfl, by omega, x.kind, x.name, x.val, by simpa using hld, fun _ => kind_spec ⟨_, rfl, fun hf => bad ?_, fun ht => name_spec ⟨_, rfl, fun hf => bad ?_, fun hn => ⟨fun hv => bad ?_, fun hv => ⟨i64_succ hk' hr.big, ih (k + 1) (by omega) (by omega) ?_⟩⟩⟩⟩⟩, fun hh => by omega⟩
    · unfold mtF; rw [hf]; rfl
    · unfold mtF; rw [hf]; simp
    · unfold mtF; rw [show decide (x.val.size ≤ 256) = false from decide_eq_false (by omega)]; simp
    · rw [he, show mtF x = true by unfold mtF; rw [ht, hn, show decide (x.val.size ≤ 256) = true from decide_eq_true (by omega)]; rfl, Bool.true_and]
end
end TwW
end
section
namespace TwW
open Go Tw Go.RowKit Go.Proofs.Tryz
section
variable {σ : Hp} {R : Ending → Hp → Prop}
theorem names_spec {n : Nd} {p q : Option Addr} {k c m d : Nat} (hr : RdC 1 σ q m (n.names.map .string)) (h : R (.returned (.bool (namesF lnOk n))) σ) : Spec prog 51 #[ndV n p k c q m d] σ R := by
  have hl : n.names.length = m := by have := hr.1; simpa using this
  refine types_names.start fun _ => ?_
  suffices H : ∀ g i : Nat, m - i = g → i ≤ m → n.names.all lnOk = (n.names.drop i).all lnOk → types_names.pt8 R n.kind n.op n.text p k c n.width n.back n.grp q m d n.bool n.parts q m d m i σ from H m 0 rfl (Nat.zero_le _) rfl
  have hbig : m ≤ 4611686018427387904 := hr.2.1
  intro g
  induction g with
  | zero =>
    intro i hg hi he
    rw [List.drop_eq_nil_of_le (by omega)] at he
    have e : namesF lnOk n = (decide (m = 0) || decide (n.grp ≠ 0)) := by unfold namesF; rw [he, hl]; rfl
    rw [e] at h
    refine types_names.pt8_of ⟨fun hlt => by omega, fun _ => ⟨fun h0 => ?_, fun h0 => ?_⟩⟩
    · rw [decide_eq_true (show m = 0 by omega)] at h; exact h
    · rw [decide_eq_false (show ¬ m = 0 by omega)] at h; exact h
  | succ g ih =>
    intro i hg hi he
    have hi' : i < m := by omega
    obtain ⟨x, hx⟩ : ∃ x, n.names[i]? = some x := ⟨_, List.getElem?_eq_getElem (by omega)⟩
    obtain ⟨b, o, rfl, hld⟩ := RdC.at1 hr (k := i) (v := .string x) (by rw [List.getElem?_map, hx]; rfl)
    rw [drop_at' hx, List.all_cons] at he
    refine types_names.pt8_of ⟨fun _ => ⟨b, o, rfl, by omega, x, by simpa using hld, name_spec ⟨_, rfl, fun hf => ?_, fun ht => ⟨i64_succ hi' hbig, ih (i + 1) (by omega) (by omega) ?_⟩⟩⟩, fun hh => by omega⟩
    · have e : namesF lnOk n = false := by unfold namesF; rw [he, hf]; rfl
      rw [e] at h; exact h
    · rw [he, ht, Bool.true_and]
theorem beq_list {a b : ByteArray} : (ByteArray.toList a == ByteArray.toList b) = decide (a.data.toList = b.data.toList) := by
  rw [ByteArray.toList_eq, ByteArray.toList_eq]
  by_cases h : a.data.toList = b.data.toList
  · simp [h]
  · rw [decide_eq_false h]; exact beq_eq_false_iff_ne.2 h
theorem beqS {a b : ByteArray} : (ByteArray.toList a == ByteArray.toList b) = decide (a = b) := by
  rw [beq_list]
  exact decide_eq_decide.2 ⟨fun h => ByteArray.ext (Array.toList_inj.1 h), fun h => by rw [h]⟩
def plainB (a b : Nd) : Bool := decide (a.kind = b.kind ∧ a.op = b.op ∧ a.text = b.text ∧ a.width = b.width ∧ a.back = b.back ∧ a.grp = b.grp ∧ a.bool = b.bool ∧ a.parts = b.parts)
theorem plain_spec {a b : Nd} {p p' q q' : Option Addr} {k c k' c' m d m' d' : Nat} (h : R (.returned (.bool (plainB a b))) σ) : Spec prog 49 #[ndV a p k c q m d, ndV b p' k' c' q' m' d'] σ R := by
  have no : ¬ (a.kind = b.kind ∧ a.op = b.op ∧ a.text = b.text ∧ a.width = b.width ∧ a.back = b.back ∧ a.grp = b.grp ∧ a.bool = b.bool ∧ a.parts = b.parts) → R (.returned (.bool false)) σ := fun hn => by
    rw [show plainB a b = false from decide_eq_false hn] at h; exact h
  have last : a.kind = b.kind ∧ a.op = b.op ∧ a.text = b.text ∧ a.width = b.width ∧ a.back = b.back ∧ a.grp = b.grp ∧ a.bool = b.bool → R (.returned (.bool (decide (a.parts = b.parts)))) σ := fun hh => by
    rw [show plainB a b = decide (a.parts = b.parts) from decide_eq_decide.2 ⟨fun g => g.2.2.2.2.2.2.2, fun g => ⟨hh.1, hh.2.1, hh.2.2.1, hh.2.2.2.1, hh.2.2.2.2.1, hh.2.2.2.2.2.1, hh.2.2.2.2.2.2, g⟩⟩] at h; exact h
  refine types_plain.start fun _ _ => ⟨fun h1 => ⟨fun h2 => ⟨fun h3 => ?_, fun h3 => no ?_⟩, fun h2 => no fun g => h2 g.2.1⟩, fun h1 => no fun g => h1 g.1⟩
  · rw [beqS] at h3
    have h3 := of_decide_eq_true h3
    refine ⟨fun h4 => ⟨fun h5 => ⟨fun h6 => ⟨fun t1 => ⟨fun t2 => last ⟨h1, h2, h3, h4, h5, h6, t1.trans t2.symm⟩, fun t2 => no fun g => ?_⟩, fun t1 => ⟨fun t2 => no fun g => ?_, fun t2 => last ⟨h1, h2, h3, h4, h5, h6, t1.trans t2.symm⟩⟩⟩, fun h6 => no fun g => h6 g.2.2.2.2.2.1⟩, fun h5 => no fun g => h5 g.2.2.2.2.1⟩, fun h4 => no fun g => h4 g.2.2.2.1⟩
    · have := g.2.2.2.2.2.2.1; rw [t1, t2] at this; cases this
    · have := g.2.2.2.2.2.2.1; rw [t1, t2] at this; cases this
  · rw [beqS] at h3
    exact fun g => of_decide_eq_false h3 g.2.2.1
end
end TwW
end
section
namespace TwW
open Go Tw Go.RowKit Go.Proofs.Tryz
def numO (s : ByteArray) : Bool :=
  if digN s = 0 then false else if 1 < digN s ∧ s.data[0]? = some 48 then false else if digN s = s.size then decide (digN s ≤ 15)
  else decide (s.data[digN s]? = some 46 ∧ 0 < digN (s.extract (digN s + 1) s.size) ∧ digN s + 1 + digN (s.extract (digN s + 1) s.size) = s.size ∧ digN s + digN (s.extract (digN s + 1) s.size) ≤ 15)
theorem byte48 {u : UInt8} {k : Nat} (hk : k < 256) : ((u.toNat : Nat) : Int) = k ↔ u = UInt8.ofNat k := by
  constructor
  · intro h
    apply UInt8.toNat_inj.1
    rw [UInt8.toNat_ofNat']
    omega
  · rintro rfl
    rw [UInt8.toNat_ofNat']
    omega
section
variable {σ : Hp} {R : Ending → Hp → Prop}
theorem lexNumber_spec {s : ByteArray} (hb : s.size ≤ 4611686018427387904) (h : R (.returned (.bool (numO s))) σ) : Spec prog 52 #[.string s] σ R := by
  have hle := digN_le s
  refine lex_Number.start (lexDigits_spec hb ⟨_, rfl, fun h0 => ?_, fun h0 => ⟨_, strTo hle, ?_⟩⟩)
  · rw [show numO s = false by unfold numO; rw [if_pos (by omega)]] at h; exact h
  have hsz : (s.extract 0 (digN s)).size = digN s := by rw [ByteArray.size_extract]; omega
  have tail : ¬ (1 < digN s ∧ s.data[0]? = some 48) → Br ((digN s : Int) = ((ByteArray.size s : Nat) : Int)) (R (.returned (.bool (decide ((digN s : Int) ≤ 15)))) σ) (I64 ((digN s : Int) + 1) ∧ ∃ s24, YF prog (Instr.sliceAt 9 (.string s) (some (.int .i64 ((digN s : Int) + 1))) none none) σ (.string s24) ∧ Spec prog 79 #[.string s24] σ (Cont R (CI .i64 fun x25 y_3 => ∃ u28 : UInt8, 0 ≤ (digN s : Int) ∧ (ByteArray.data s)[Int.toNat (digN s : Int)]? = some u28 ∧ Br ((((UInt8.toNat u28 : Nat) : Int) : Int) = 46) (Br (0 < x25) (I64 ((digN s : Int) + 1) ∧ I64 (((digN s : Int) + 1) + x25) ∧ Br (((((digN s : Int) + 1) + x25) : Int) = ((ByteArray.size s : Nat) : Int)) (I64 ((digN s : Int) + x25) ∧ R (.returned (.bool (decide ((((digN s : Int) + x25) : Int) ≤ 15)))) y_3) (R (.returned (.bool false)) y_3)) (R (.returned (.bool false)) y_3)) (R (.returned (.bool false)) y_3)))) := fun hn => by
    refine ⟨fun he => ?_, fun he => ⟨by unfold I64; omega, s.extract (digN s + 1) s.size, strFrom (l := digN s + 1) (by omega), ?_⟩⟩
    · rw [show numO s = decide ((digN s : Int) ≤ 15) by unfold numO; rw [if_neg (by omega), if_neg hn, if_pos (by omega)]; exact decide_eq_decide.2 (by omega)] at h; exact h
    have hsz2 : (s.extract (digN s + 1) s.size).size = s.size - (digN s + 1) := by rw [ByteArray.size_extract]; omega
    have hm := digN_le (s.extract (digN s + 1) s.size)
    refine lexDigits_spec (by omega) ?_
    obtain ⟨u, hu, _⟩ := byte_at (show digN s < s.size by omega)
    have hO : numO s = decide (s.data[digN s]? = some 46 ∧ 0 < digN (s.extract (digN s + 1) s.size) ∧ digN s + 1 + digN (s.extract (digN s + 1) s.size) = s.size ∧ digN s + digN (s.extract (digN s + 1) s.size) ≤ 15) := by unfold numO; rw [if_neg (by omega), if_neg hn, if_neg (by omega)]
    rw [hO, hu] at h
    generalize digN (s.extract (digN s + 1) s.size) = m at *
    have b46 := byte48 (u := u) (k := 46) (by decide)
    have no : ¬ (u = 46 ∧ 0 < m ∧ digN s + 1 + m = s.size ∧ digN s + m ≤ 15) → R (.returned (.bool false)) σ := fun hh => by
      rw [decide_eq_false (by rw [Option.some.injEq]; exact hh)] at h; exact h
    refine ⟨_, rfl, u, by omega, by simpa using hu, fun h46 => ⟨fun h0m => ⟨by unfold I64; omega, by unfold I64; omega, fun hs => ⟨by unfold I64; omega, ?_⟩, fun hs => no fun g => hs (by omega)⟩, fun h0m => no fun g => h0m (by omega)⟩, fun h46 => no fun g => h46 (b46.2 g.1)⟩
    rw [show decide (some u = some 46 ∧ 0 < m ∧ digN s + 1 + m = s.size ∧ digN s + m ≤ 15) = decide (((digN s : Int) + m) ≤ 15) from decide_eq_decide.2 ⟨fun g => by omega, fun g => ⟨by rw [b46.1 h46]; rfl, by omega, by omega, by omega⟩⟩] at h
    exact h
  refine lex_needless.start ⟨fun h1 => ?_, fun h1 => ⟨false, rfl, fun ht => (by cases ht), fun _ => tail (by omega)⟩⟩
  obtain ⟨u, hu, _⟩ := byte_at (show 0 < s.size by omega)
  have b48 := byte48 (u := u) (k := 48) (by decide)
  have hu' : (s.extract 0 (digN s)).data[0]? = some u := by
    rw [ByteArray.data_extract, Array.getElem?_extract]
    rw [if_pos (by have : s.data.size = s.size := rfl; omega)]
    simpa using hu
  refine ⟨u, by omega, by simpa using hu', _, rfl, fun ht => ?_, fun hf => tail ?_⟩
  · have := b48.1 (of_decide_eq_true ht)
    rw [show numO s = false by unfold numO; rw [if_neg (by omega), if_pos ⟨by omega, by rw [hu, this]; rfl⟩]] at h; exact h
  · rintro ⟨_, g⟩
    rw [hu, Option.some.injEq] at g
    exact of_decide_eq_false hf (b48.2 g)
end
end TwW
end
section
namespace TwW
open Go Tw Go.RowKit Go.Proofs.Tryz
def kindO (n : Nd) : Bool :=
  if n.kind = 1 then numO n.text else if n.kind = 2 then spanF n.back 0 else if n.kind = 3 then spanF n.width 1 && spanF n.back 0
  else if n.kind = 4 then decide (n.parts = 1 ∧ 1 ≤ n.op ∧ n.op ≤ 12)
  else if n.kind = 5 then decide (n.parts = 1 ∧ 1 ≤ n.op ∧ n.op ≤ 5 ∧ (n.grp = 0 ∨ n.grp = 1 ∨ n.grp = 2))
  else if n.kind = 6 then decide (n.parts = 2 ∧ 1 ≤ n.op ∧ n.op ≤ 13 ∧ (n.grp = 0 ∨ n.grp = 3 ∨ n.grp = 4)) && (!n.bool || cmpsF n.op)
  else decide (n.kind = 7 ∧ n.parts = 1)
def formO (n : Nd) : Bool := plainB n (bareNd n) && namesF lnOk n && !(decide (0 < n.mt.length) && decide (n.kind ≠ 2) && decide (n.kind ≠ 3)) && kindO n
section
variable {σ : Hp} {R : Ending → Hp → Prop}
theorem form_spec {n : Nd} {p q : Option Addr} {k c m d : Nat} (hk : n.mt.length = k) (hr : RdC 1 σ q m (n.names.map .string)) (hb : n.text.size ≤ 4611686018427387904) (h : ∀ σ', Ext σ σ' → R (.returned (.bool (formO n))) σ') : Spec prog 31 #[ndV n p k c q m d] σ R := by
  refine types_form.start fun _ => bare_spec fun σ1 hx => ⟨_, _, _, _, _, _, _, _, _, _, _, _, _, _, rfl, plain_spec ⟨_, rfl, fun hf => ?_, fun ht => names_spec (hr.mono hx) ⟨_, rfl, fun hf => ?_, fun hn => ?_⟩⟩⟩
  · have := h σ1 hx; rw [show formO n = false by unfold formO; rw [hf]; rfl] at this; exact this
  · have := h σ1 hx; rw [show formO n = false by unfold formO; rw [ht, hf]; rfl] at this; exact this
  have hh := h σ1 hx
  have e : formO n = (!(decide (0 < n.mt.length) && decide (n.kind ≠ 2) && decide (n.kind ≠ 3)) && kindO n) := by unfold formO; rw [ht, hn]; rfl
  rw [e] at hh
  clear e h
  have fin : ¬ (0 < n.mt.length ∧ n.kind ≠ 2 ∧ n.kind ≠ 3) → ∀ t, kindO n = t → R (.returned (.bool t)) σ1 := fun hno t ht => by
    have e2 : (!(decide (0 < n.mt.length) && decide (n.kind ≠ 2) && decide (n.kind ≠ 3))) = true := by
      rw [Bool.not_eq_true', Bool.eq_false_iff]
      intro hc
      simp only [Bool.and_eq_true, decide_eq_true_eq] at hc
      exact hno ⟨hc.1.1, hc.1.2, hc.2⟩
    rw [e2, Bool.true_and, ht] at hh; exact hh
  refine ⟨fun hm => ⟨fun h2 => ⟨fun h3 => ?_, fun h3 => ?_⟩, fun h2 => ?_⟩, fun hm => ?_⟩
  · rw [show (!(decide (0 < n.mt.length) && decide (n.kind ≠ 2) && decide (n.kind ≠ 3))) = false by rw [decide_eq_true (show 0 < n.mt.length by omega), decide_eq_true h2, decide_eq_true h3]; rfl, Bool.false_and] at hh
    exact hh
  all_goals
    have fin := fin (by omega)
    clear hh ht hn
    refine ⟨fun k1 => lexNumber_spec hb ⟨_, rfl, ?_⟩, fun k1 => ⟨fun k2 => span_spec ⟨_, rfl, ?_⟩, fun k2 => ⟨fun k3 => span_spec ⟨_, rfl, fun ht => span_spec ⟨_, rfl, ?_⟩, fun hf => ?_⟩, fun k3 => ⟨fun k4 => ⟨fun hp => ⟨fun ho => ?_, fun ho => ?_⟩, fun hp => ?_⟩, fun k4 => ⟨fun k5 => ⟨fun hp => ⟨fun ho => ⟨fun ho2 => ⟨fun g0 => ?_, fun g0 => ⟨fun g1 => ?_, fun g1 => ?_⟩⟩, fun ho2 => ?_⟩, fun ho => ?_⟩, fun hp => ?_⟩, fun k5 => ⟨fun k6 => ⟨fun hp => ⟨fun ho => ⟨fun ho2 => ⟨fun g0 => ⟨fun bf => ?_, fun bt => compares_spec ⟨_, rfl, ?_⟩⟩, fun g0 => ⟨fun g3 => ⟨fun bf => ?_, fun bt => compares_spec ⟨_, rfl, ?_⟩⟩, fun g3 => ⟨fun g4 => ⟨fun bf => ?_, fun bt => compares_spec ⟨_, rfl, ?_⟩⟩, fun g4 => ?_⟩⟩⟩, fun ho2 => ?_⟩, fun ho => ?_⟩, fun hp => ?_⟩, fun k6 => ⟨fun k7 => ?_, fun k7 => ?_⟩⟩⟩⟩⟩⟩⟩ <;> (refine fin _ ?_; clear fin; unfold kindO; simp [*])
end
end TwW
end
section
namespace TwW
open Go Tw Go.RowKit Go.Proofs.Tryz
section
variable {σ : Hp} {R : Ending → Hp → Prop}
abbrev tyV (x : Int × Int) : Value := .tuple #[.int .i64 x.1, .int .i64 x.2]
def callT (n : Nd) (a : Int) : Int × Int := if a = (if n.op = 11 ∨ n.op = 12 then 2 else 3) then (2, 0) else (0, 191)
def aggT' (a : Int) : Int × Int := if a = 2 then (2, 0) else (0, 191)
def negT (a : Int) : Int × Int := if a = 3 then (0, 191) else (a, 0)
theorem wcall_spec {w : Option Addr} {n : Nd} {p q r : Option Addr} {k c m d s t : Nat} {l : List Int} {a : Int} (hr : RdI .i64 σ r s l) (ha : l[0]? = some a) (h : R (.returned (tyV (callT n a))) σ) : Spec prog 34 #[.pointer w, ndV n p k c q m d, .slice r s t] σ R := by
  have hs : l.length = s := hr.1
  have h0 := (List.getElem?_eq_some_iff.1 ha).1
  obtain ⟨b, o, rfl, hld⟩ := RdI.at hr ha
  have go : ∀ z : Int, (if n.op = 11 ∨ n.op = 12 then 2 else 3) = z → types_walk_call.pt12 R (some ⟨b, o, none⟩) s t z σ := fun z hz => by
    unfold callT at h
    rw [hz] at h
    refine types_walk_call.pt12_of ⟨b, o, rfl, by omega, a, by simpa using hld, fun hne => ?_, fun heq => ?_⟩
    · rw [if_neg hne] at h; exact h
    · rw [if_pos (Decidable.not_not.1 heq)] at h; exact h
  exact types_walk_call.start fun _ => ⟨fun h1 => go 2 (if_pos (.inl h1)), fun h1 => ⟨fun h2 => go 2 (if_pos (.inr h2)), fun h2 => go 3 (if_neg (by omega))⟩⟩
theorem wagg_spec {w : Option Addr} {n : Nd} {p q r : Option Addr} {k c m d s t : Nat} {l : List Int} {a : Int} (hr : RdI .i64 σ r s l) (ha : l[0]? = some a) (h : R (.returned (tyV (aggT' a))) σ) : Spec prog 35 #[.pointer w, ndV n p k c q m d, .slice r s t] σ R := by
  have hs : l.length = s := hr.1
  have h0 := (List.getElem?_eq_some_iff.1 ha).1
  obtain ⟨b, o, rfl, hld⟩ := RdI.at hr ha
  unfold aggT' at h
  refine types_walk_agg.start fun _ => ⟨b, o, rfl, by omega, a, by simpa using hld, fun hne => ?_, fun heq => ?_⟩
  · rw [if_neg hne] at h; exact h
  · rw [if_pos (Decidable.not_not.1 heq)] at h; exact h
theorem wneg_spec {w : Option Addr} {n : Nd} {p q r : Option Addr} {k c m d s t : Nat} {l : List Int} {a : Int} (hr : RdI .i64 σ r s l) (ha : l[0]? = some a) (h : R (.returned (tyV (negT a))) σ) : Spec prog 37 #[.pointer w, ndV n p k c q m d, .slice r s t] σ R := by
  have hs : l.length = s := hr.1
  have h0 := (List.getElem?_eq_some_iff.1 ha).1
  obtain ⟨b, o, rfl, hld⟩ := RdI.at hr ha
  unfold negT at h
  refine types_walk_neg.start fun _ => ⟨b, o, rfl, by omega, a, by simpa using hld, fun heq => ?_, fun hne => ⟨by omega, a, by simpa using hld, ?_⟩⟩
  · rw [if_pos heq] at h; exact h
  · rw [if_neg hne] at h; exact h
end
end TwW
end
section
namespace TwW
open Go Tw Go.RowKit Go.Proofs.Tryz
section
variable {σ : Hp} {R : Ending → Hp → Prop}
def binT (n : Nd) (a b : Int) : Int × Int := if a = 3 ∨ b = 3 ∨ ((11 ≤ n.op ∧ n.op ≤ 13 ∨ n.grp ≠ 0) ∧ ¬ (a = 2 ∧ b = 2)) ∨ (a = 1 ∧ b = 1 ∧ cmpsF n.op = true ∧ n.bool = false) then (0, 192) else (if a < b then b else a, 0)
theorem wbin_spec {w : Option Addr} {n : Nd} {p q r : Option Addr} {k c m d s t : Nat} {l : List Int} {a b : Int} (hr : RdI .i64 σ r s l) (ha : l[0]? = some a) (hb : l[1]? = some b) (h : R (.returned (tyV (binT n a b))) σ) : Spec prog 36 #[.pointer w, ndV n p k c q m d, .slice r s t] σ R := by
  have hs : l.length = s := hr.1
  have h1 := (List.getElem?_eq_some_iff.1 hb).1
  obtain ⟨b1, o, rfl, hld⟩ := RdI.at hr ha
  obtain ⟨_, _, he, hld2⟩ := RdI.at hr hb
  cases he
  have bad : a = 3 ∨ b = 3 ∨ ((11 ≤ n.op ∧ n.op ≤ 13 ∨ n.grp ≠ 0) ∧ ¬ (a = 2 ∧ b = 2)) ∨ (a = 1 ∧ b = 1 ∧ cmpsF n.op = true ∧ n.bool = false) → R (.returned (.tuple #[.int .i64 0, .int .i64 192])) σ := fun hh => by
    unfold binT at h; rw [if_pos hh] at h; exact h
  have good : ¬ (a = 3 ∨ b = 3 ∨ ((11 ≤ n.op ∧ n.op ≤ 13 ∨ n.grp ≠ 0) ∧ ¬ (a = 2 ∧ b = 2)) ∨ (a = 1 ∧ b = 1 ∧ cmpsF n.op = true ∧ n.bool = false)) → R (.returned (.tuple #[.int .i64 (if a < b then b else a), .int .i64 0])) σ := fun hh => by
    unfold binT at h; rw [if_neg hh] at h; exact h
  clear h
  refine types_walk_bin.start fun _ => ⟨b1, o, rfl, by omega, a, by simpa using hld, by omega, b, by simpa using hld2, ?_⟩
  repeat' first
    | (apply setsOp_spec; refine Exists.intro _ (And.intro rfl ?_))
    | (apply compares_spec; refine Exists.intro _ (And.intro rfl ?_))
    | (apply And.intro <;> intro _)
  all_goals first
    | (refine bad ?_; simp_all; done)
    | (refine good ?_; simp_all; done)
    | (refine bad ?_; simp_all; omega)
    | (refine good ?_; simp_all; omega)
end
end TwW
end
section
namespace TwW
open Go Tw Go.RowKit Go.Proofs.Tryz
theorem wave_Abs.en : Enters prog 86 := fun args w => call86 args w
theorem eval_sum.en : Enters prog 93 := fun args w => call93 args w
theorem eval_count.en : Enters prog 97 := fun args w => call97 args w
theorem eval_asker_bin_2.en : Enters prog 101 := fun args w => call101 args w
theorem types_walk_call.en : Enters prog 34 := fun args w => call34 args w
theorem eval_asker_choice.en : Enters prog 61 := fun args w => call61 args w
theorem eval_strength.en : Enters prog 126 := fun args w => call126 args w
theorem eval_functions_4.en : Enters prog 132 := fun args w => call132 args w
theorem match_asker_ne.en : Enters prog 153 := fun args w => call153 args w
theorem types_walk_bin.en : Enters prog 36 := fun args w => call36 args w
theorem eval_asker_number.en : Enters prog 60 := fun args w => call60 args w
theorem wave_Floor.en : Enters prog 87 := fun args w => call87 args w
theorem eval_greatest.en : Enters prog 95 := fun args w => call95 args w
theorem match_asker_eq.en : Enters prog 152 := fun args w => call152 args w
theorem eval_always_1.en : Enters prog 160 := fun args w => call160 args w
theorem eval_two_1.en : Enters prog 162 := fun args w => call162 args w
theorem eval_asker_reach.en : Enters prog 62 := fun args w => call62 args w
theorem eval_asker_bin.en : Enters prog 65 := fun args w => call65 args w
theorem eval_average.en : Enters prog 96 := fun args w => call96 args w
theorem eval_asker_bin_1.en : Enters prog 100 := fun args w => call100 args w
theorem eval_functions_2.en : Enters prog 128 := fun args w => call128 args w
theorem label_Keep_1.en : Enters prog 137 := fun args w => call137 args w
theorem eval_asker_neg.en : Enters prog 66 := fun args w => call66 args w
theorem eval_least.en : Enters prog 94 := fun args w => call94 args w
theorem eval_functions_3.en : Enters prog 130 := fun args w => call130 args w
theorem match_asker_not.en : Enters prog 155 := fun args w => call155 args w
theorem types_walk_agg.en : Enters prog 35 := fun args w => call35 args w
theorem eval_moments_1.en : Enters prog 45 := fun args w => call45 args w
theorem eval_asker_call.en : Enters prog 63 := fun args w => call63 args w
theorem eval_asker_agg.en : Enters prog 64 := fun args w => call64 args w
theorem types_walk_neg.en : Enters prog 37 := fun args w => call37 args w
theorem types_leaf_1.en : Enters prog 57 := fun args w => call57 args w
theorem eval_functions_1.en : Enters prog 124 := fun args w => call124 args w
theorem match_asker_yes.en : Enters prog 154 := fun args w => call154 args w
instance : MpT prog 85 9 3 := ⟨underlying85, underlying9⟩
instance : TwI.MpI prog 96 3 94 := ⟨underlying96, underlying3⟩
instance : TwI.MpI prog 139 3 138 := ⟨underlying139, underlying3⟩
instance : MpT prog 145 9 148 := ⟨underlying145, underlying9⟩
instance : TwI.MpI prog 150 3 149 := ⟨underlying150, underlying3⟩
instance : MpT prog 194 9 48 := ⟨underlying194, underlying9⟩
end TwW
end
