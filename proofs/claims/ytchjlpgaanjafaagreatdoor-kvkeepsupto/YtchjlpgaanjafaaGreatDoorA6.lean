/-
  Part 6 of the proof that the law KvKeepsUptoCardSaid of the given program answers true for every input of the given statement; the input reads behind the call as it did. (The texts: HG KF KG KH.)
-/
import Derived.Test.YtchjlpgaanjafaaGreatDoorA5
set_option linter.all false
section
/- written by gen.py: program points and what leads to them -/
set_option linter.unusedVariables false
set_option maxRecDepth 100000
namespace TwW
open Go Tw Go.Proofs.Tryz
noncomputable section
namespace law12_KvKeeps
abbrev fid : Nat := 10
noncomputable def K0 := f10.body.getD .skip
def K1 := cl K0
def K2 := cr K0
def K3 := cl K2
def K4 := cr K2
def K5 := cl K4
def K6 := cr K4
def K7 := cl K6
def K8 := cl K7
def K9 := cr K7
def K10 := cl K9
def K11 := cl K10
def K12 := cr K10
def K13 := cr K9
def K14 := cr K6
def K15 := cl K14
def K16 := cr K14
def K17 := cl K16
def K18 := cr K16
def K19 := cl K18
def K20 := cr K18
def K21 := cl K20
def K22 := cr K20
def K23 := cl K22
def K24 := cl K23
def K25 := cr K23
def K26 := cl K25
def K27 := cl K26
def K28 := cl K27
def K29 := cl K28
def K30 := cr K28
def K31 := cl K30
def K32 := cr K30
def K33 := cr K27
def K34 := cl K33
def K35 := cl K34
def K36 := cl K35
def K37 := cr K35
def K38 := cl K37
def K39 := cr K37
def K40 := cl K39
def K41 := cl K40
def K42 := cr K40
def K43 := cl K42
def K44 := cl K43
def K45 := cr K43
def K46 := cr K42
def K47 := cr K39
def K48 := cl K47
def K49 := cr K47
def K50 := cl K49
def K51 := cr K49
def K52 := cl K51
def K53 := cl K52
def K54 := cr K52
def K55 := cr K51
def K56 := cr K33
def K57 := cr K22
def K58 := cl K57
def K59 := cr K57
def K60 := cl K59
def K61 := cr K59
def K62 := cl K61
def K63 := cr K61
def K64 := cl K63
def K65 := cl K64
def K66 := cr K64
def K67 := cl K66
def K68 := cl K67
def K69 := cr K67
def K70 := cr K66
def K71 := cr K63
def K72 := cl K71
def K73 := cl K72
def K74 := cr K72
def K75 := cl K74
def K76 := cl K75
def K77 := cl K76
def K78 := cl K77
def K79 := cr K77
def K80 := cl K79
def K81 := cr K79
def K82 := cr K76
def K83 := cl K82
def K84 := cl K83
def K85 := cl K84
def K86 := cr K84
def K87 := cl K86
def K88 := cl K87
def K89 := cr K87
def K90 := cl K89
def K91 := cl K90
def K92 := cr K90
def K93 := cr K89
def K94 := cr K86
def K95 := cl K94
def K96 := cr K94
def K97 := cl K96
def K98 := cl K97
def K99 := cr K97
def K100 := cr K96
def K101 := cr K82
def K102 := cr K71
def K103 := cl K102
def K104 := cr K102
abbrev gl (R : Ending → Hp → Prop) : Gl := Gl.fn prog 10 161 R
def pt29 (R : Ending → Hp → Prop) (p0 : Option Addr) (n0 c0 : Nat) (x2 : Int) (q7 q8 p10 : Option Addr) (n10 c10 b11 : Nat) (x12 x13 : Int) (σ : Hp) : Prop := ∀ (J : Env), At (gl R) [.code K29, .code K30, .code K33, .inLoop K27, .inBlock 0, .code K57] (upds J [(0, (.slice p0 n0 c0)), (2, (.int .i64 x2)), (7, (.pointer q7)), (8, (.pointer q8)), (10, (.slice p10 n10 c10)), (11, (.pointer (some ⟨b11, 0, none⟩))), (12, (.int .i64 x12)), (13, (.int .i64 x13))]) [] σ
def pt78 (R : Ending → Hp → Prop) (p10 : Option Addr) (n10 c10 b11 : Nat) (x12 : Int) (q17 : Option Addr) (x19 : Int) (σ : Hp) : Prop := ∀ (J : Env), At (gl R) [.code K78, .code K79, .code K82, .inLoop K76, .inBlock 2, .code K102] (upds J [(10, (.slice p10 n10 c10)), (11, (.pointer (some ⟨b11, 0, none⟩))), (12, (.int .i64 x12)), (17, (.pointer q17)), (19, (.int .i64 x19))]) [] σ
def pt56 (R : Ending → Hp → Prop) (p0 : Option Addr) (n0 c0 : Nat) (x2 : Int) (q7 q8 p10 : Option Addr) (n10 c10 b11 : Nat) (x12 x13 : Int) (σ : Hp) : Prop := ∀ (J : Env), At (gl R) [.code K56, .inLoop K27, .inBlock 0, .code K57] (upds J [(0, (.slice p0 n0 c0)), (2, (.int .i64 x2)), (7, (.pointer q7)), (8, (.pointer q8)), (10, (.slice p10 n10 c10)), (11, (.pointer (some ⟨b11, 0, none⟩))), (12, (.int .i64 x12)), (13, (.int .i64 x13))]) [] σ
theorem start {R : Ending → Hp → Prop} {p0 : Option Addr} {n0 c0 : Nat} {x1 x2 : Int} {σ : Hp} (h : Spec prog 11 #[] σ (Cont R (fun v σ1 => ∃ q23 : Option Addr, v = (.pointer q23) ∧ Spec prog 30 #[(.pointer q23)] σ1 (Cont R (fun v_2 σ1_2 => ∃ q26a : Option Addr, ∃ x26b : Int, v_2 = (.tuple #[(.pointer q26a), (.int .i64 x26b)]) ∧ ((x26b : Int) ≠ 0 → R (.returned (.bool false)) σ1_2) ∧ (¬ ((x26b : Int) ≠ 0) → ((Option.isNone q26a) = true → R (.returned (.bool false)) σ1_2) ∧ ((Option.isNone q26a) = false → Spec prog 20 #[(.int .i64 x1)] σ1_2 (Cont R (fun v_3 σ1_3 => ∃ x37 : Int, v_3 = (.int .i64 x37) ∧ I64 (2 * (n0 : Int)) ∧ I64 ((2 * (n0 : Int)) + 1) ∧ ((2 * (n0 : Int)) + 1) ≠ (0 : Int) ∧ ∀ x42 : Int, x42 = Int.tmod x37 ((2 * (n0 : Int)) + 1) → Spec prog 26 #[(.pointer q23), (.int .i64 x42), (.int .i64 x2)] σ1_3 (Cont R (fun v_4 σ1_4 => v_4 = (.tuple #[]) ∧ ∀ b45 : Nat, σ1_4 b45 = none → ∀ b11 : Nat, (Hp.set σ1_4 b45 (.cells #[(.string (ByteArray.mk #[97])), (.string (ByteArray.mk #[98])), (.string (ByteArray.mk #[99]))] 9 (0, 0))) b11 = none → pt29 R p0 n0 c0 x2 q23 q26a ((some ⟨b45, 0, none⟩)) 3 3 b11 ((-1)) 0 (Hp.set (Hp.set σ1_4 b45 (.cells #[(.string (ByteArray.mk #[97])), (.string (ByteArray.mk #[98])), (.string (ByteArray.mk #[99]))] 9 (0, 0))) b11 (.cells #[(.int .u64 0), (.int .u64 0), (.int .u64 0)] 65 (0, 0)))))))))))))) : Spec prog 10 #[(.slice p0 n0 c0), (.int .i64 x1), (.int .i64 x2)] σ R := by
 refine Spec.of_at (fn := f10) (c := K0) func10 (by kernel_rfl) (Nat.le_of_ble_eq_true (by kernel_rfl)) (fun e he => ?_)
 refine At.ofL (l := [(0, (.slice p0 n0 c0)), (1, (.int .i64 x1)), (2, (.int .i64 x2))]) ⟨he 0, he 1, he 2, trivial⟩ (fun J => ?_)
 show At (gl R) _ _ _ _
 refine At.s K1 K2 ?_
 refine At.rg 0 [0] ?_
 refine Seq.u 6 (.bool false) ?_
 refine Seq.done ?_
 refine At.s K3 K4 ?_
 refine At.rg 1 [0, 1] ?_
 refine Seq.o ?_
 refine OpTo.cl (some 23) call11 (h.cont fun v σ1 h2 => ?_); replace h := h2; clear h2
 obtain ⟨q23, rfl, h⟩ := h
 refine Seq.u 7 (.pointer q23) ?_
 refine Seq.done ?_
 refine At.s K5 K6 ?_
 refine At.rg 2 [0, 1, 2, 3, 4, 5, 6] ?_
 refine Seq.u 25 (.pointer q23) ?_
 refine Seq.o ?_
 refine OpTo.cl (some 26) call30 (h.cont fun v_2 σ1_2 h2 => ?_); replace h := h2; clear h2
 obtain ⟨q26a, x26b, rfl, h⟩ := h
 refine Seq.us [(24, .tuple #[(.pointer q26a), (.int .i64 x26b)]), (27, .pointer q26a), (28, .int .i64 x26b), (8, .pointer q26a), (9, .int .i64 x26b)] ?_
 refine Seq.done ?_
 refine At.s K7 K14 ?_
 refine At.s K8 K9 ?_
 refine At.rg 3 [0, 1, 2, 3, 4, 5] ?_
 refine Seq.us [(29, .int .i64 x26b), (30, .bool (decide ((x26b : Int) ≠ 0))), (31, .bool (decide ((x26b : Int) ≠ 0)))] ?_
 cases hb : (decide ((x26b : Int) ≠ 0)) with
 | true =>
  replace h := h.1 (of_decide_eq_true hb)
  refine Seq.n 32 ?_
  refine Seq.n 33 ?_
  refine Seq.u 34 (.bool true) ?_
  refine Seq.done ?_
  refine At.cT 34 K10 K13 ?_
  refine At.s K11 K12 ?_
  refine At.rg 4 [0] ?_
  refine Seq.u 6 (.bool false) ?_
  refine Seq.done ?_
  exact At.rt [.tmp 6] [(.bool false)] func10 ⟨_, rfl, rfl⟩ h
 | false =>
  replace h := h.2 (of_decide_eq_false hb)
  refine Seq.u 32 (.pointer q26a) ?_
  refine Seq.zg 33 (.binOp .eql 53 (.tmp 32) (.const (.pointer none)) 53) 4 (2, false) (.bool (Option.isNone q26a)) (Y.eqlNil underlying53 rfl rfl) ?_
  refine Seq.u 34 (.bool (Option.isNone q26a)) ?_
  refine Seq.done ?_
  cases hb : (Option.isNone q26a) with
  | true =>
   replace h := h.1 hb
   refine At.cT 34 K10 K13 ?_
   refine At.s K11 K12 ?_
   refine At.rg 4 [0] ?_
   refine Seq.u 6 (.bool false) ?_
   refine Seq.done ?_
   exact At.rt [.tmp 6] [(.bool false)] func10 ⟨_, rfl, rfl⟩ h
  | false =>
   replace h := h.2 hb
   refine At.cF 34 K10 K13 ?_
   refine At.skip ?_
   refine At.s K15 K16 ?_
   refine At.rg 5 [0, 1, 2, 3, 4, 5, 6, 7, 8, 9] ?_
   refine Seq.us [(35, .pointer q23), (36, .int .i64 x1)] ?_
   refine Seq.o ?_
   refine OpTo.cl (some 37) call20 (h.cont fun v_3 σ1_3 h2 => ?_); replace h := h2; clear h2
   obtain ⟨x37, rfl, h⟩ := h
   refine Seq.u 38 (.slice p0 n0 c0) ?_
   refine Seq.z 39 (.call { callee := .builtin .len, args := #[(.tmp 38)], argTypes := #[64] }) 3 (.int .i64 (n0 : Int)) (Y.lenS underlying64 rfl rfl) ?_
   obtain ⟨hi, h⟩ := h
   refine Seq.z 40 (.binOp .mul 3 (.const (.int .i64 2)) (.tmp 39) 3) 3 (.int .i64 (2 * (n0 : Int))) (Y.mulI hi rfl rfl) ?_
   obtain ⟨hi, h⟩ := h
   refine Seq.z 41 (.binOp .add 3 (.tmp 40) (.const (.int .i64 1)) 3) 3 (.int .i64 ((2 * (n0 : Int)) + 1)) (Y.addI hi rfl rfl) ?_
   obtain ⟨hc, h⟩ := h
   obtain ⟨x42, hwx42⟩ : ∃ y, y = Int.tmod x37 ((2 * (n0 : Int)) + 1) := ⟨_, rfl⟩
   replace h := h x42 hwx42
   refine Seq.y (d := (some 42)) (op := (.binOp .rem 3 (.tmp 37) (.tmp 41) 3)) (ty := 3) (v := (.int .i64 x42)) (by kernel_rfl) rfl (hwx42 ▸ Y.rem hc rfl rfl) ?_
   refine Seq.u 43 (.int .i64 x2) ?_
   refine Seq.o ?_
   refine OpTo.cl (some 44) call26 (h.cont fun v_4 σ1_4 h2 => ?_); replace h := h2; clear h2
   obtain ⟨rfl, h⟩ := h
   refine Seq.done ?_
   refine At.s K17 K18 ?_
   refine At.rg 6 [0, 1] ?_
   refine Seq.o ?_
   refine OpTo.bslice (T := 36) (E := 9) (m := 3) (ps := #[(0, (.const (.string (ByteArray.mk #[97])))), (1, (.const (.string (ByteArray.mk #[98])))), (2, (.const (.string (ByteArray.mk #[99]))))]) (d := (some 45)) (ty := 36) (gd := none) (vs := [(0, (.string (ByteArray.mk #[97]))), (1, (.string (ByteArray.mk #[98]))), (2, (.string (ByteArray.mk #[99])))]) (cs := #[(.string (ByteArray.mk #[97])), (.string (ByteArray.mk #[98])), (.string (ByteArray.mk #[99]))]) underlying36 (by kernel_rfl) rfl rfl rfl (by kernel_rfl) (fun b45 hn => ?_)
   replace h := h b45 hn
   refine Seq.u 10 (.slice (some ⟨b45, 0, none⟩) 3 3) ?_
   refine Seq.done ?_
   refine At.s K19 K20 ?_
   refine At.rg 7 [0] ?_
   refine Seq.o ?_
   refine OpTo.allocO (T := 65) (d := (some 11)) (ty := 0)  (gd := none) (cs := #[(.int .u64 0), (.int .u64 0), (.int .u64 0)]) (by kernel_rfl) rfl rfl zeroValue65 rfl (fun b11 hn => ?_)
   replace h := h b11 hn
   refine Seq.done ?_
   refine At.s K21 K22 ?_
   refine At.rg 8 [0] ?_
   refine Seq.u 12 (.int .i64 (-1)) ?_
   refine Seq.done ?_
   refine At.L [(0, (.slice p0 n0 c0)), (2, (.int .i64 x2)), (7, (.pointer q23)), (8, (.pointer q26a)), (10, (.slice (some ⟨b45, 0, none⟩) 3 3)), (11, (.pointer (some ⟨b11, 0, none⟩))), (12, (.int .i64 (-1)))] fun J => ?_
   refine At.s K23 K57 ?_
   refine At.s K24 K25 ?_
   refine At.rg 9 [0] ?_
   refine Seq.u 13 (.int .i64 0) ?_
   refine Seq.done ?_
   refine At.b 0 K26 ?_
   refine At.loop (x := K27) (by kernel_rfl) ?_
   refine At.s K28 K33 ?_
   refine At.s K29 K30 ?_
   exact At.v [(0, (.slice p0 n0 c0)), (2, (.int .i64 x2)), (7, (.pointer q23)), (8, (.pointer q26a)), (10, (.slice (some ⟨b45, 0, none⟩) 3 3)), (11, (.pointer (some ⟨b11, 0, none⟩))), (12, (.int .i64 (-1))), (13, (.int .i64 0))] (h _)
theorem pt29_of {R : Ending → Hp → Prop} {p0 q7 q8 p10 : Option Addr} {n0 c0 n10 c10 b11 : Nat} {x2 x12 x13 : Int} {σ : Hp} (h : ((x13 : Int) < (n0 : Int) → ((x12 : Int) < 0 → ∃ (b58 o58 : Nat), p0 = some ⟨b58, o58, none⟩ ∧ ((0 : Int) ≤ x13 ∧ x13 < (n0 : Int)) ∧ ∃ x59 : Int, Hp.ld σ ⟨b58, (o58 + Int.toNat x13 * 1), none⟩ = some (.int .i64 x59) ∧ Spec prog 20 #[(.int .i64 x59)] σ (Cont R (fun v σ1 => ∃ x60 : Int, v = (.int .i64 x60) ∧ 3 ≠ (0 : Int) ∧ ∀ x61 : Int, x61 = Int.tmod x60 3 → ∃ (b66 o66 : Nat), p10 = some ⟨b66, o66, none⟩ ∧ ((0 : Int) ≤ x61 ∧ x61 < (n10 : Int)) ∧ ∃ s67 : ByteArray, Hp.ld σ1 ⟨b66, (o66 + Int.toNat x61 * 1), none⟩ = some (.string s67) ∧ ∀ x69 : Int, x69 = IntKind.u8.wrap x61 → ((0 : Int) ≤ x61 ∧ x61 < 3) ∧ ∃ x72 : Int, Hp.ld σ1 ⟨b11, (0 + Int.toNat x61 * 1), none⟩ = some (.int .u64 x72) ∧ ∀ x73 : Int, x73 = IntKind.u8.wrap x72 → ((0 : Int) ≤ x61 ∧ x61 < 3) ∧ ∃ x77 : Int, Hp.ld σ1 ⟨b11, (0 + Int.toNat x61 * 1), none⟩ = some (.int .u64 x77) ∧ ∀ b74 : Nat, σ1 b74 = none → Spec prog 32 #[(.pointer q8), (.string s67), (.slice (some ⟨b74, 0, none⟩) 2 2), (.int .u64 x77)] (Hp.set σ1 b74 (.cells #[(.int .u8 x69), (.int .u8 x73)] 5 (0, 0))) (Cont R (fun v_2 σ1_2 => ∃ x78a : Int, ∃ x78b : Int, v_2 = (.tuple #[(.int .u64 x78a), (.int .i64 x78b)]) ∧ ((x78b : Int) ≠ 0 → pt56 R ((some ⟨b58, o58, none⟩)) n0 c0 x2 q7 q8 ((some ⟨b66, o66, none⟩)) n10 c10 b11 x61 x13 σ1_2) ∧ (¬ ((x78b : Int) ≠ 0) → ((0 : Int) ≤ x61 ∧ x61 < 3) ∧ ∃ x86 : Int, Hp.ld σ1_2 ⟨b11, (0 + Int.toNat x61 * 1), none⟩ = some (.int .u64 x86) ∧ ∀ x87 : Int, x87 = IntKind.u64.wrap (x86 + 1) → ((0 : Int) ≤ x61 ∧ x61 < 3) ∧ Eff prog (Instr.storeAt 56 (.pointer (some ⟨b11, (0 + Int.toNat x61 * 1), none⟩)) (.int .u64 x87)) σ1_2 (fun _ σ1_3 => ((0 : Int) ≤ x61 ∧ x61 < 3) ∧ ∃ x92 : Int, Hp.ld σ1_3 ⟨b11, (0 + Int.toNat x61 * 1), none⟩ = some (.int .u64 x92) ∧ ((x78a : Int) ≠ x92 → R (.returned (.bool false)) σ1_3) ∧ (¬ ((x78a : Int) ≠ x92) → pt56 R ((some ⟨b58, o58, none⟩)) n0 c0 x2 q7 q8 ((some ⟨b66, o66, none⟩)) n10 c10 b11 x12 x13 σ1_3)))))))) ∧ (¬ ((x12 : Int) < 0) → Spec prog 28 #[(.pointer q7), (.int .i64 x2)] σ (Cont R (fun v σ1 => v = (.tuple #[]) ∧ Spec prog 29 #[(.pointer q7)] σ1 (Cont R (fun v_2 σ1_2 => v_2 = (.tuple #[]) ∧ Spec prog 30 #[(.pointer q7)] σ1_2 (Cont R (fun v_3 σ1_3 => ∃ q101a : Option Addr, ∃ x101b : Int, v_3 = (.tuple #[(.pointer q101a), (.int .i64 x101b)]) ∧ ((x101b : Int) ≠ 0 → R (.returned (.bool false)) σ1_3) ∧ (¬ ((x101b : Int) ≠ 0) → ((Option.isNone q101a) = true → R (.returned (.bool false)) σ1_3) ∧ ((Option.isNone q101a) = false → pt78 R p10 n10 c10 b11 x12 q101a 0 σ1_3)))))))))) ∧ (¬ ((x13 : Int) < (n0 : Int)) → Spec prog 28 #[(.pointer q7), (.int .i64 x2)] σ (Cont R (fun v σ1 => v = (.tuple #[]) ∧ Spec prog 29 #[(.pointer q7)] σ1 (Cont R (fun v_2 σ1_2 => v_2 = (.tuple #[]) ∧ Spec prog 30 #[(.pointer q7)] σ1_2 (Cont R (fun v_3 σ1_3 => ∃ q101a : Option Addr, ∃ x101b : Int, v_3 = (.tuple #[(.pointer q101a), (.int .i64 x101b)]) ∧ ((x101b : Int) ≠ 0 → R (.returned (.bool false)) σ1_3) ∧ (¬ ((x101b : Int) ≠ 0) → ((Option.isNone q101a) = true → R (.returned (.bool false)) σ1_3) ∧ ((Option.isNone q101a) = false → pt78 R p10 n10 c10 b11 x12 q101a 0 σ1_3)))))))))) : pt29 R p0 n0 c0 x2 q7 q8 p10 n10 c10 b11 x12 x13 σ := by
 intro J
 show At (gl R) _ _ _ _
 refine At.rg 10 [0, 1, 2, 3, 4, 5, 6, 7] ?_
 refine Seq.us [(46, .int .i64 x13), (47, .slice p0 n0 c0)] ?_
 refine Seq.z 48 (.call { callee := .builtin .len, args := #[(.tmp 47)], argTypes := #[64] }) 3 (.int .i64 (n0 : Int)) (Y.lenS underlying64 rfl rfl) ?_
 refine Seq.us [(49, .bool (decide ((x13 : Int) < (n0 : Int)))), (50, .bool (decide ((x13 : Int) < (n0 : Int))))] ?_
 cases hb : (decide ((x13 : Int) < (n0 : Int))) with
 | true =>
  replace h := h.1 (of_decide_eq_true hb)
  refine Seq.us [(51, .int .i64 x12), (52, .bool (decide ((x12 : Int) < 0))), (53, .bool (decide ((x12 : Int) < 0)))] ?_
  refine Seq.done ?_
  cases hb : (decide ((x12 : Int) < 0)) with
  | true =>
   replace h := h.1 (of_decide_eq_true hb)
   refine At.cT 53 K31 K32 ?_
   refine At.skip ?_
   refine At.s K34 K56 ?_
   refine At.b 1 K35 ?_
   refine At.s K36 K37 ?_
   refine At.rg 12 [0, 1, 2, 3, 4, 5, 6] ?_
   refine Seq.us [(56, .slice p0 n0 c0), (57, .int .i64 x13)] ?_
   obtain ⟨b58, o58, hq, h⟩ := h
   subst hq
   obtain ⟨hi, h⟩ := h
   refine Seq.z 58 (.indexAddr 64 (.tmp 56) (.tmp 57)) 0 (.pointer (some ⟨b58, (o58 + Int.toNat x13 * 1), none⟩)) (Y.idx underlying64 sizeOf3 rfl rfl hi rfl) ?_
   obtain ⟨x59, hl, h⟩ := h
   refine Seq.z 59 (.load 3 (.tmp 58)) 3 (.int .i64 x59) (Y.ld isAgg3 rfl hl) ?_
   refine Seq.o ?_
   refine OpTo.cl (some 60) call20 (h.cont fun v σ1 h2 => ?_); replace h := h2; clear h2
   obtain ⟨x60, rfl, h⟩ := h
   obtain ⟨hc, h⟩ := h
   obtain ⟨x61, hwx61⟩ : ∃ y, y = Int.tmod x60 3 := ⟨_, rfl⟩
   replace h := h x61 hwx61
   refine Seq.y (d := (some 61)) (op := (.binOp .rem 3 (.tmp 60) (.const (.int .i64 3)) 3)) (ty := 3) (v := (.int .i64 x61)) (by kernel_rfl) rfl (hwx61 ▸ Y.rem hc rfl rfl) ?_
   refine Seq.u 14 (.int .i64 x61) ?_
   refine Seq.done ?_
   refine At.s K38 K39 ?_
   refine At.draw (id := 13) (ops := cO K38) (n := 21) (q := (some [])) (plan := [(0, true), (1, true), (2, true), (3, true), (4, true), (5, true), (6, true), (7, true), (8, true), (9, true), (10, true), (12, true), (13, true), (14, true), (11, false), (15, false), (16, true), (17, true), (18, true), (19, true), (20, true)]) (tl := []) mixed (by kernel_rfl) (by kernel_rfl) ?_
   refine Head.u 63 (.pointer q8) ?_
   refine Head.u 64 (.slice p10 n10 c10) ?_
   refine Head.u 65 (.int .i64 x61) ?_
   obtain ⟨b66, o66, hq, h⟩ := h
   subst hq
   obtain ⟨hi, h⟩ := h
   refine Head.z 66 (.indexAddr 36 (.tmp 64) (.tmp 65)) 0 (.pointer (some ⟨b66, (o66 + Int.toNat x61 * 1), none⟩)) (Y.idx underlying36 sizeOf9 rfl rfl hi rfl) ?_
   obtain ⟨s67, hl, h⟩ := h
   refine Head.yl b66 [[15]] rfl (by kernel_rfl) (d := (some 67)) (op := (.load 9 (.tmp 66))) (ty := 9) (v := (.string s67)) (by kernel_rfl) rfl (Y.ld isAgg9 rfl (lim_ld hl)) ?_
   refine Head.u 68 (.int .i64 x61) ?_
   obtain ⟨x69, hwx69⟩ : ∃ y, y = IntKind.u8.wrap x61 := ⟨_, rfl⟩
   replace h := h x69 hwx69
   refine Head.y (d := (some 69)) (op := (.convert 3 5 (.tmp 68))) (ty := 5) (v := (.int .u8 x69)) (by kernel_rfl) rfl (hwx69 ▸ Y.conv (by kernel_rfl) underlying5 rfl) ?_
   refine Head.u 70 (.int .i64 x61) ?_
   obtain ⟨hi, h⟩ := h
   refine Head.z 71 (.indexAddr 65 (.tmp 11) (.tmp 70)) 0 (.pointer (some ⟨b11, (0 + Int.toNat x61 * 1), none⟩)) (Y.idxA underlying65 sizeOf56 rfl rfl hi rfl) ?_
   obtain ⟨x72, hl, h⟩ := h
   refine Head.yl b11 [[11, 10], [15, 11, 10]] rfl (by kernel_rfl) (d := (some 72)) (op := (.load 56 (.tmp 71))) (ty := 56) (v := (.int .u64 x72)) (by kernel_rfl) rfl (Y.ld isAgg56 rfl (lim_ld hl)) ?_
   obtain ⟨x73, hwx73⟩ : ∃ y, y = IntKind.u8.wrap x72 := ⟨_, rfl⟩
   replace h := h x73 hwx73
   refine Head.y (d := (some 73)) (op := (.convert 56 5 (.tmp 72))) (ty := 5) (v := (.int .u8 x73)) (by kernel_rfl) rfl (hwx73 ▸ Y.conv (by kernel_rfl) underlying5 rfl) ?_
   refine Head.u 75 (.int .i64 x61) ?_
   obtain ⟨hi, h⟩ := h
   refine Head.z 76 (.indexAddr 65 (.tmp 11) (.tmp 75)) 0 (.pointer (some ⟨b11, (0 + Int.toNat x61 * 1), none⟩)) (Y.idxA underlying65 sizeOf56 rfl rfl hi rfl) ?_
   obtain ⟨x77, hl, h⟩ := h
   refine Head.yl b11 [[15]] rfl (by kernel_rfl) (d := (some 77)) (op := (.load 56 (.tmp 76))) (ty := 56) (v := (.int .u64 x77)) (by kernel_rfl) rfl (Y.ld isAgg56 rfl (lim_ld hl)) ?_
   refine Head.o (q' := (some [(b11, [15]), (b66, [15])])) rfl ?_
   refine OpTo.bslice (T := 23) (E := 5) (m := 2) (ps := #[(0, (.tmp 69)), (1, (.tmp 73))]) (d := (some 74)) (ty := 23) (gd := none) (vs := [(0, (.int .u8 x69)), (1, (.int .u8 x73))]) (cs := #[(.int .u8 x69), (.int .u8 x73)]) underlying23 (by kernel_rfl) rfl rfl rfl (by kernel_rfl) (fun b74 hn => ?_)
   refine ⟨⟨fun _ h => h, kp_q (Kp.of_ext (Ext.set hn))⟩, ?_⟩
   replace h := h b74 hn
   refine Head.o (q' := (some [])) rfl ?_
   refine OpTo.cl (some 78) call32 (h.cont fun v_2 σ1_2 h2 => ?_); replace h := h2; clear h2
   obtain ⟨x78a, x78b, rfl, h⟩ := h
   refine ⟨⟨fun _ h => h, kp_q (L := []) Kp.nil⟩, ?_⟩
   refine Head.u 62 (.tuple #[(.int .u64 x78a), (.int .i64 x78b)]) ?_
   refine Head.u 79 (.int .u64 x78a) ?_
   refine Head.u 80 (.int .i64 x78b) ?_
   refine Head.u 15 (.int .u64 x78a) ?_
   refine Head.u 16 (.int .i64 x78b) ?_
   refine Head.done ?_
   refine Seq.done ?_
   refine At.s K40 K47 ?_
   refine At.s K41 K42 ?_
   refine At.rg 14 [0, 1] ?_
   refine Seq.us [(81, .int .i64 x78b), (82, .bool (decide ((x78b : Int) ≠ 0)))] ?_
   refine Seq.done ?_
   cases hb : (decide ((x78b : Int) ≠ 0)) with
   | true =>
    replace h := h.1 (of_decide_eq_true hb)
    refine At.cT 82 K43 K46 ?_
    refine At.s K44 K45 ?_
    refine At.rg 15 [0, 1] ?_
    refine Seq.us [(83, .int .i64 x61), (12, .int .i64 x61)] ?_
    refine Seq.done ?_
    refine At.L [(0, (.slice (some ⟨b58, o58, none⟩) n0 c0)), (2, (.int .i64 x2)), (7, (.pointer q7)), (8, (.pointer q8)), (10, (.slice (some ⟨b66, o66, none⟩) n10 c10)), (11, (.pointer (some ⟨b11, 0, none⟩))), (12, (.int .i64 x61)), (13, (.int .i64 x13))] fun J => ?_
    refine At.x 1 [.code K56, .inLoop K27, .inBlock 0, .code K57] ?_
    exact At.v [(0, (.slice (some ⟨b58, o58, none⟩) n0 c0)), (2, (.int .i64 x2)), (7, (.pointer q7)), (8, (.pointer q8)), (10, (.slice (some ⟨b66, o66, none⟩) n10 c10)), (11, (.pointer (some ⟨b11, 0, none⟩))), (12, (.int .i64 x61)), (13, (.int .i64 x13))] (h _)
   | false =>
    replace h := h.2 (of_decide_eq_false hb)
    refine At.cF 82 K43 K46 ?_
    refine At.skip ?_
    refine At.s K48 K49 ?_
    refine At.rg 16 [0, 1, 2, 3, 4, 5] ?_
    refine Seq.u 84 (.int .i64 x61) ?_
    obtain ⟨hi, h⟩ := h
    refine Seq.z 85 (.indexAddr 65 (.tmp 11) (.tmp 84)) 0 (.pointer (some ⟨b11, (0 + Int.toNat x61 * 1), none⟩)) (Y.idxA underlying65 sizeOf56 rfl rfl hi rfl) ?_
    obtain ⟨x86, hl, h⟩ := h
    refine Seq.z 86 (.load 56 (.tmp 85)) 56 (.int .u64 x86) (Y.ld isAgg56 rfl hl) ?_
    obtain ⟨x87, hwx87⟩ : ∃ y, y = IntKind.u64.wrap (x86 + 1) := ⟨_, rfl⟩
    replace h := h x87 hwx87
    refine Seq.y (d := (some 87)) (op := (.binOp .add 56 (.tmp 86) (.const (.int .u64 1)) 56)) (ty := 56) (v := (.int .u64 x87)) (by kernel_rfl) rfl (hwx87 ▸ Y.add rfl rfl) ?_
    obtain ⟨hi, h⟩ := h
    refine Seq.z 88 (.indexAddr 65 (.tmp 11) (.tmp 84)) 0 (.pointer (some ⟨b11, (0 + Int.toNat x61 * 1), none⟩)) (Y.idxA underlying65 sizeOf56 rfl rfl hi rfl) ?_
    refine Seq.o ?_
    refine OpTo.store (T := 56) (ty := 0) (x := (.tmp 88)) (y := (.tmp 87)) (p := (.pointer (some ⟨b11, (0 + Int.toNat x61 * 1), none⟩))) (v := (.int .u64 x87)) (gd := none) (by kernel_rfl) rfl rfl rfl (h.mono (fun _ σ1_3 h2 => ?_)); replace h := h2; clear h2
    refine Seq.done ?_
    refine At.s K50 K51 ?_
    refine At.rg 17 [0, 1, 2, 3, 4] ?_
    refine Seq.us [(89, .int .u64 x78a), (90, .int .i64 x61)] ?_
    obtain ⟨hi, h⟩ := h
    refine Seq.z 91 (.indexAddr 65 (.tmp 11) (.tmp 90)) 0 (.pointer (some ⟨b11, (0 + Int.toNat x61 * 1), none⟩)) (Y.idxA underlying65 sizeOf56 rfl rfl hi rfl) ?_
    obtain ⟨x92, hl, h⟩ := h
    refine Seq.z 92 (.load 56 (.tmp 91)) 56 (.int .u64 x92) (Y.ld isAgg56 rfl hl) ?_
    refine Seq.u 93 (.bool (decide ((x78a : Int) ≠ x92))) ?_
    refine Seq.done ?_
    cases hb : (decide ((x78a : Int) ≠ x92)) with
    | true =>
     replace h := h.1 (of_decide_eq_true hb)
     refine At.cT 93 K52 K55 ?_
     refine At.s K53 K54 ?_
     refine At.rg 18 [0] ?_
     refine Seq.u 6 (.bool false) ?_
     refine Seq.done ?_
     exact At.rt [.tmp 6] [(.bool false)] func10 ⟨_, rfl, rfl⟩ h
    | false =>
     replace h := h.2 (of_decide_eq_false hb)
     refine At.cF 93 K52 K55 ?_
     refine At.skip ?_
     refine At.inBlock ?_
     exact At.v [(0, (.slice (some ⟨b58, o58, none⟩) n0 c0)), (2, (.int .i64 x2)), (7, (.pointer q7)), (8, (.pointer q8)), (10, (.slice (some ⟨b66, o66, none⟩) n10 c10)), (11, (.pointer (some ⟨b11, 0, none⟩))), (12, (.int .i64 x12)), (13, (.int .i64 x13))] (h _)
  | false =>
   replace h := h.2 (of_decide_eq_false hb)
   refine At.cF 53 K31 K32 ?_
   refine At.x 0 [.code K57] ?_
   refine At.s K58 K59 ?_
   refine At.rg 19 [0, 1, 2] ?_
   refine Seq.us [(94, .pointer q7), (95, .int .i64 x2)] ?_
   refine Seq.o ?_
   refine OpTo.cl (some 96) call28 (h.cont fun v σ1 h2 => ?_); replace h := h2; clear h2
   obtain ⟨rfl, h⟩ := h
   refine Seq.done ?_
   refine At.s K60 K61 ?_
   refine At.rg 20 [0, 1] ?_
   refine Seq.u 97 (.pointer q7) ?_
   refine Seq.o ?_
   refine OpTo.cl (some 98) call29 (h.cont fun v_2 σ1_2 h2 => ?_); replace h := h2; clear h2
   obtain ⟨rfl, h⟩ := h
   refine Seq.done ?_
   refine At.s K62 K63 ?_
   refine At.rg 21 [0, 1, 2, 3, 4, 5, 6] ?_
   refine Seq.u 100 (.pointer q7) ?_
   refine Seq.o ?_
   refine OpTo.cl (some 101) call30 (h.cont fun v_3 σ1_3 h2 => ?_); replace h := h2; clear h2
   obtain ⟨q101a, x101b, rfl, h⟩ := h
   refine Seq.us [(99, .tuple #[(.pointer q101a), (.int .i64 x101b)]), (102, .pointer q101a), (103, .int .i64 x101b), (17, .pointer q101a), (18, .int .i64 x101b)] ?_
   refine Seq.done ?_
   refine At.s K64 K71 ?_
   refine At.s K65 K66 ?_
   refine At.rg 22 [0, 1, 2, 3, 4, 5] ?_
   refine Seq.us [(104, .int .i64 x101b), (105, .bool (decide ((x101b : Int) ≠ 0))), (106, .bool (decide ((x101b : Int) ≠ 0)))] ?_
   cases hb : (decide ((x101b : Int) ≠ 0)) with
   | true =>
    replace h := h.1 (of_decide_eq_true hb)
    refine Seq.n 107 ?_
    refine Seq.n 108 ?_
    refine Seq.u 109 (.bool true) ?_
    refine Seq.done ?_
    refine At.cT 109 K67 K70 ?_
    refine At.s K68 K69 ?_
    refine At.rg 23 [0] ?_
    refine Seq.u 6 (.bool false) ?_
    refine Seq.done ?_
    exact At.rt [.tmp 6] [(.bool false)] func10 ⟨_, rfl, rfl⟩ h
   | false =>
    replace h := h.2 (of_decide_eq_false hb)
    refine Seq.u 107 (.pointer q101a) ?_
    refine Seq.zg 108 (.binOp .eql 53 (.tmp 107) (.const (.pointer none)) 53) 4 (2, false) (.bool (Option.isNone q101a)) (Y.eqlNil underlying53 rfl rfl) ?_
    refine Seq.u 109 (.bool (Option.isNone q101a)) ?_
    refine Seq.done ?_
    cases hb : (Option.isNone q101a) with
    | true =>
     replace h := h.1 hb
     refine At.cT 109 K67 K70 ?_
     refine At.s K68 K69 ?_
     refine At.rg 23 [0] ?_
     refine Seq.u 6 (.bool false) ?_
     refine Seq.done ?_
     refine At.L [(6, (.bool false))] fun J => ?_
     exact At.rt [.tmp 6] [(.bool false)] func10 ⟨_, rfl, rfl⟩ h
    | false =>
     replace h := h.2 hb
     refine At.cF 109 K67 K70 ?_
     refine At.skip ?_
     refine At.s K72 K102 ?_
     refine At.s K73 K74 ?_
     refine At.rg 24 [0] ?_
     refine Seq.u 19 (.int .i64 0) ?_
     refine Seq.done ?_
     refine At.b 2 K75 ?_
     refine At.loop (x := K76) (by kernel_rfl) ?_
     refine At.s K77 K82 ?_
     refine At.s K78 K79 ?_
     exact At.v [(10, (.slice p10 n10 c10)), (11, (.pointer (some ⟨b11, 0, none⟩))), (12, (.int .i64 x12)), (17, (.pointer q101a)), (19, (.int .i64 0))] (h _)
 | false =>
  replace h := h.2 (of_decide_eq_false hb)
  refine Seq.n 51 ?_
  refine Seq.n 52 ?_
  refine Seq.u 53 (.bool false) ?_
  refine Seq.done ?_
  refine At.cF 53 K31 K32 ?_
  refine At.x 0 [.code K57] ?_
  refine At.s K58 K59 ?_
  refine At.rg 19 [0, 1, 2] ?_
  refine Seq.us [(94, .pointer q7), (95, .int .i64 x2)] ?_
  refine Seq.o ?_
  refine OpTo.cl (some 96) call28 (h.cont fun v σ1 h2 => ?_); replace h := h2; clear h2
  obtain ⟨rfl, h⟩ := h
  refine Seq.done ?_
  refine At.s K60 K61 ?_
  refine At.rg 20 [0, 1] ?_
  refine Seq.u 97 (.pointer q7) ?_
  refine Seq.o ?_
  refine OpTo.cl (some 98) call29 (h.cont fun v_2 σ1_2 h2 => ?_); replace h := h2; clear h2
  obtain ⟨rfl, h⟩ := h
  refine Seq.done ?_
  refine At.s K62 K63 ?_
  refine At.rg 21 [0, 1, 2, 3, 4, 5, 6] ?_
  refine Seq.u 100 (.pointer q7) ?_
  refine Seq.o ?_
  refine OpTo.cl (some 101) call30 (h.cont fun v_3 σ1_3 h2 => ?_); replace h := h2; clear h2
  obtain ⟨q101a, x101b, rfl, h⟩ := h
  refine Seq.us [(99, .tuple #[(.pointer q101a), (.int .i64 x101b)]), (102, .pointer q101a), (103, .int .i64 x101b), (17, .pointer q101a), (18, .int .i64 x101b)] ?_
  refine Seq.done ?_
  refine At.s K64 K71 ?_
  refine At.s K65 K66 ?_
  refine At.rg 22 [0, 1, 2, 3, 4, 5] ?_
  refine Seq.us [(104, .int .i64 x101b), (105, .bool (decide ((x101b : Int) ≠ 0))), (106, .bool (decide ((x101b : Int) ≠ 0)))] ?_
  cases hb : (decide ((x101b : Int) ≠ 0)) with
  | true =>
   replace h := h.1 (of_decide_eq_true hb)
   refine Seq.n 107 ?_
   refine Seq.n 108 ?_
   refine Seq.u 109 (.bool true) ?_
   refine Seq.done ?_
   refine At.cT 109 K67 K70 ?_
   refine At.s K68 K69 ?_
   refine At.rg 23 [0] ?_
   refine Seq.u 6 (.bool false) ?_
   refine Seq.done ?_
   exact At.rt [.tmp 6] [(.bool false)] func10 ⟨_, rfl, rfl⟩ h
  | false =>
   replace h := h.2 (of_decide_eq_false hb)
   refine Seq.u 107 (.pointer q101a) ?_
   refine Seq.zg 108 (.binOp .eql 53 (.tmp 107) (.const (.pointer none)) 53) 4 (2, false) (.bool (Option.isNone q101a)) (Y.eqlNil underlying53 rfl rfl) ?_
   refine Seq.u 109 (.bool (Option.isNone q101a)) ?_
   refine Seq.done ?_
   cases hb : (Option.isNone q101a) with
   | true =>
    replace h := h.1 hb
    refine At.cT 109 K67 K70 ?_
    refine At.s K68 K69 ?_
    refine At.rg 23 [0] ?_
    refine Seq.u 6 (.bool false) ?_
    refine Seq.done ?_
    exact At.rt [.tmp 6] [(.bool false)] func10 ⟨_, rfl, rfl⟩ h
   | false =>
    replace h := h.2 hb
    refine At.cF 109 K67 K70 ?_
    refine At.skip ?_
    refine At.s K72 K102 ?_
    refine At.s K73 K74 ?_
    refine At.rg 24 [0] ?_
    refine Seq.u 19 (.int .i64 0) ?_
    refine Seq.done ?_
    refine At.b 2 K75 ?_
    refine At.loop (x := K76) (by kernel_rfl) ?_
    refine At.s K77 K82 ?_
    refine At.s K78 K79 ?_
    exact At.v [(10, (.slice p10 n10 c10)), (11, (.pointer (some ⟨b11, 0, none⟩))), (12, (.int .i64 x12)), (17, (.pointer q101a)), (19, (.int .i64 0))] (h _)
theorem pt78_of {R : Ending → Hp → Prop} {p10 q17 : Option Addr} {n10 c10 b11 : Nat} {x12 x19 : Int} {σ : Hp} (h : ((x19 : Int) < 3 → ∃ (b118 o118 : Nat), p10 = some ⟨b118, o118, none⟩ ∧ ((0 : Int) ≤ x19 ∧ x19 < (n10 : Int)) ∧ ∃ s119 : ByteArray, Hp.ld σ ⟨b118, (o118 + Int.toNat x19 * 1), none⟩ = some (.string s119) ∧ Spec prog 33 #[(.pointer q17), (.string s119)] σ (Cont R (fun v σ1 => ∃ p120a : Option Addr, ∃ n120a : Nat, ∃ c120a : Nat, ∃ x120b : Int, ∃ x120c : Int, v = (.tuple #[(.slice p120a n120a c120a), (.int .u64 x120b), (.int .i64 x120c)]) ∧ ((x120c : Int) ≠ 0 → R (.returned (.bool false)) σ1) ∧ (¬ ((x120c : Int) ≠ 0) → ((0 : Int) ≤ x19 ∧ x19 < 3) ∧ ∃ x130 : Int, Hp.ld σ1 ⟨b11, (0 + Int.toNat x19 * 1), none⟩ = some (.int .u64 x130) ∧ ((x120b : Int) ≠ x130 → ((x19 : Int) = x12 → ((0 : Int) ≤ x19 ∧ x19 < 3) ∧ ∃ x140 : Int, Hp.ld σ1 ⟨b11, (0 + Int.toNat x19 * 1), none⟩ = some (.int .u64 x140) ∧ ∀ x141 : Int, x141 = IntKind.u64.wrap (x140 + 1) → (¬ ((x120b : Int) = x141) → R (.returned (.bool false)) σ1) ∧ ((x120b : Int) = x141 → ((0 : Int) < x120b → ∀ x152 : Int, x152 = IntKind.u8.wrap x19 → ∀ x154 : Int, x154 = IntKind.u64.wrap (x120b - 1) → ∀ x155 : Int, x155 = IntKind.u8.wrap x154 → ∀ b156 : Nat, σ1 b156 = none → Spec prog 35 #[(.slice p120a n120a c120a), (.slice (some ⟨b156, 0, none⟩) 2 2)] (Hp.set σ1 b156 (.cells #[(.int .u8 x152), (.int .u8 x155)] 5 (0, 0))) (Cont R (fun v_2 σ1_2 => ∃ t157 : Bool, v_2 = (.bool t157) ∧ (t157 = false → R (.returned (.bool false)) σ1_2) ∧ (t157 = true → I64 (x19 + 1) ∧ pt78 R ((some ⟨b118, o118, none⟩)) n10 c10 b11 x12 q17 ((x19 + 1)) σ1_2)))) ∧ (¬ ((0 : Int) < x120b) → I64 (x19 + 1) ∧ pt78 R ((some ⟨b118, o118, none⟩)) n10 c10 b11 x12 q17 ((x19 + 1)) σ1))) ∧ (¬ ((x19 : Int) = x12) → R (.returned (.bool false)) σ1)) ∧ (¬ ((x120b : Int) ≠ x130) → ((0 : Int) < x120b → ∀ x152 : Int, x152 = IntKind.u8.wrap x19 → ∀ x154 : Int, x154 = IntKind.u64.wrap (x120b - 1) → ∀ x155 : Int, x155 = IntKind.u8.wrap x154 → ∀ b156 : Nat, σ1 b156 = none → Spec prog 35 #[(.slice p120a n120a c120a), (.slice (some ⟨b156, 0, none⟩) 2 2)] (Hp.set σ1 b156 (.cells #[(.int .u8 x152), (.int .u8 x155)] 5 (0, 0))) (Cont R (fun v_2 σ1_2 => ∃ t157 : Bool, v_2 = (.bool t157) ∧ (t157 = false → R (.returned (.bool false)) σ1_2) ∧ (t157 = true → I64 (x19 + 1) ∧ pt78 R ((some ⟨b118, o118, none⟩)) n10 c10 b11 x12 q17 ((x19 + 1)) σ1_2)))) ∧ (¬ ((0 : Int) < x120b) → I64 (x19 + 1) ∧ pt78 R ((some ⟨b118, o118, none⟩)) n10 c10 b11 x12 q17 ((x19 + 1)) σ1)))))) ∧ (¬ ((x19 : Int) < 3) → Spec prog 34 #[] σ (Cont R (fun v σ1 => ∃ t160 : Bool, v = (.bool t160) ∧ R (.returned (.bool t160)) σ1)))) : pt78 R p10 n10 c10 b11 x12 q17 x19 σ := by
 intro J
 show At (gl R) _ _ _ _
 refine At.rg 25 [0, 1] ?_
 refine Seq.us [(110, .int .i64 x19), (111, .bool (decide ((x19 : Int) < 3)))] ?_
 refine Seq.done ?_
 cases hb : (decide ((x19 : Int) < 3)) with
 | true =>
  replace h := h.1 (of_decide_eq_true hb)
  refine At.cT 111 K80 K81 ?_
  refine At.skip ?_
  refine At.s K83 K101 ?_
  refine At.b 3 K84 ?_
  refine At.s K85 K86 ?_
  refine At.rg 27 [0, 1, 2, 3, 4, 5, 6, 7, 8, 9, 10, 11, 12] ?_
  refine Seq.us [(115, .pointer q17), (116, .slice p10 n10 c10), (117, .int .i64 x19)] ?_
  obtain ⟨b118, o118, hq, h⟩ := h
  subst hq
  obtain ⟨hi, h⟩ := h
  refine Seq.z 118 (.indexAddr 36 (.tmp 116) (.tmp 117)) 0 (.pointer (some ⟨b118, (o118 + Int.toNat x19 * 1), none⟩)) (Y.idx underlying36 sizeOf9 rfl rfl hi rfl) ?_
  obtain ⟨s119, hl, h⟩ := h
  refine Seq.z 119 (.load 9 (.tmp 118)) 9 (.string s119) (Y.ld isAgg9 rfl hl) ?_
  refine Seq.o ?_
  refine OpTo.cl (some 120) call33 (h.cont fun v σ1 h2 => ?_); replace h := h2; clear h2
  obtain ⟨p120a, n120a, c120a, x120b, x120c, rfl, h⟩ := h
  refine Seq.us [(114, .tuple #[(.slice p120a n120a c120a), (.int .u64 x120b), (.int .i64 x120c)]), (121, .slice p120a n120a c120a), (122, .int .u64 x120b), (123, .int .i64 x120c), (20, .slice p120a n120a c120a), (21, .int .u64 x120b), (22, .int .i64 x120c)] ?_
  refine Seq.done ?_
  refine At.s K87 K94 ?_
  refine At.s K88 K89 ?_
  refine At.rg 28 [0, 1, 2, 3, 4, 5, 6, 7, 8, 9, 10, 11, 12, 13, 14, 15, 16, 17, 18, 19, 20, 21, 22] ?_
  refine Seq.us [(124, .int .i64 x120c), (125, .bool (decide ((x120c : Int) ≠ 0))), (126, .bool (decide ((x120c : Int) ≠ 0)))] ?_
  cases hb : (decide ((x120c : Int) ≠ 0)) with
  | true =>
   replace h := h.1 (of_decide_eq_true hb)
   refine Seq.n 127 ?_
   refine Seq.n 128 ?_
   refine Seq.n 129 ?_
   refine Seq.n 130 ?_
   refine Seq.n 131 ?_
   refine Seq.n 132 ?_
   refine Seq.n 133 ?_
   refine Seq.n 134 ?_
   refine Seq.n 135 ?_
   refine Seq.n 136 ?_
   refine Seq.n 137 ?_
   refine Seq.n 138 ?_
   refine Seq.n 139 ?_
   refine Seq.n 140 ?_
   refine Seq.n 141 ?_
   refine Seq.n 142 ?_
   refine Seq.n 143 ?_
   refine Seq.n 144 ?_
   refine Seq.n 145 ?_
   refine Seq.u 146 (.bool true) ?_
   refine Seq.done ?_
   refine At.cT 146 K90 K93 ?_
   refine At.s K91 K92 ?_
   refine At.rg 29 [0] ?_
   refine Seq.u 6 (.bool false) ?_
   refine Seq.done ?_
   exact At.rt [.tmp 6] [(.bool false)] func10 ⟨_, rfl, rfl⟩ h
  | false =>
   replace h := h.2 (of_decide_eq_false hb)
   refine Seq.us [(127, .int .u64 x120b), (128, .int .i64 x19)] ?_
   obtain ⟨hi, h⟩ := h
   refine Seq.zg 129 (.indexAddr 65 (.tmp 11) (.tmp 128)) 0 (2, false) (.pointer (some ⟨b11, (0 + Int.toNat x19 * 1), none⟩)) (Y.idxA underlying65 sizeOf56 rfl rfl hi rfl) ?_
   obtain ⟨x130, hl, h⟩ := h
   refine Seq.zg 130 (.load 56 (.tmp 129)) 56 (2, false) (.int .u64 x130) (Y.ld isAgg56 rfl hl) ?_
   refine Seq.us [(131, .bool (decide ((x120b : Int) ≠ x130))), (132, .bool (decide ((x120b : Int) ≠ x130)))] ?_
   cases hb : (decide ((x120b : Int) ≠ x130)) with
   | true =>
    replace h := h.1 (of_decide_eq_true hb)
    refine Seq.us [(133, .int .i64 x19), (134, .int .i64 x12), (135, .bool (decide ((x19 : Int) = x12))), (136, .bool (decide ((x19 : Int) = x12)))] ?_
    cases hb : (decide ((x19 : Int) = x12)) with
    | true =>
     replace h := h.1 (of_decide_eq_true hb)
     refine Seq.us [(137, .int .u64 x120b), (138, .int .i64 x19)] ?_
     obtain ⟨hi, h⟩ := h
     refine Seq.zg 139 (.indexAddr 65 (.tmp 11) (.tmp 138)) 0 (12, true) (.pointer (some ⟨b11, (0 + Int.toNat x19 * 1), none⟩)) (Y.idxA underlying65 sizeOf56 rfl rfl hi rfl) ?_
     obtain ⟨x140, hl, h⟩ := h
     refine Seq.zg 140 (.load 56 (.tmp 139)) 56 (12, true) (.int .u64 x140) (Y.ld isAgg56 rfl hl) ?_
     obtain ⟨x141, hwx141⟩ : ∃ y, y = IntKind.u64.wrap (x140 + 1) := ⟨_, rfl⟩
     replace h := h x141 hwx141
     refine Seq.yg (d := (some 141)) (op := (.binOp .add 56 (.tmp 140) (.const (.int .u64 1)) 56)) (ty := 56) (gd := (some (12, true))) (v := (.int .u64 x141)) (by kernel_rfl) rfl rfl (hwx141 ▸ Y.add rfl rfl) ?_
     refine Seq.us [(142, .bool (decide ((x120b : Int) = x141))), (143, .bool (decide ((x120b : Int) = x141))), (144, .bool (!(decide ((x120b : Int) = x141)))), (145, .bool (!(decide ((x120b : Int) = x141)))), (146, .bool (!(decide ((x120b : Int) = x141))))] ?_
     refine Seq.done ?_
     refine At.L [(10, (.slice (some ⟨b118, o118, none⟩) n10 c10)), (11, (.pointer (some ⟨b11, 0, none⟩))), (12, (.int .i64 x12)), (17, (.pointer q17)), (19, (.int .i64 x19)), (20, (.slice p120a n120a c120a)), (21, (.int .u64 x120b)), (146, (.bool (!(decide ((x120b : Int) = x141)))))] fun J => ?_
     cases hb : (!(decide ((x120b : Int) = x141))) with
     | true =>
      replace h := h.1 (of_decide_eq_false (Tw.nt hb))
      refine At.cT 146 K90 K93 ?_
      refine At.s K91 K92 ?_
      refine At.rg 29 [0] ?_
      refine Seq.u 6 (.bool false) ?_
      refine Seq.done ?_
      exact At.rt [.tmp 6] [(.bool false)] func10 ⟨_, rfl, rfl⟩ h
     | false =>
      replace h := h.2 (of_decide_eq_true (Tw.nf hb))
      refine At.cF 146 K90 K93 ?_
      refine At.skip ?_
      refine At.s K95 K96 ?_
      refine At.rg 30 [0, 1, 2, 3, 4, 5, 6, 7, 8, 9, 10, 11, 12] ?_
      refine Seq.us [(147, .int .u64 x120b), (148, .bool (decide ((0 : Int) < x120b))), (149, .bool (decide ((0 : Int) < x120b)))] ?_
      cases hb : (decide ((0 : Int) < x120b)) with
      | true =>
       replace h := h.1 (of_decide_eq_true hb)
       refine Seq.us [(150, .slice p120a n120a c120a), (151, .int .i64 x19)] ?_
       obtain ⟨x152, hwx152⟩ : ∃ y, y = IntKind.u8.wrap x19 := ⟨_, rfl⟩
       replace h := h x152 hwx152
       refine Seq.yg (d := (some 152)) (op := (.convert 3 5 (.tmp 151))) (ty := 5) (gd := (some (2, true))) (v := (.int .u8 x152)) (by kernel_rfl) rfl rfl (hwx152 ▸ Y.conv (by kernel_rfl) underlying5 rfl) ?_
       refine Seq.u 153 (.int .u64 x120b) ?_
       obtain ⟨x154, hwx154⟩ : ∃ y, y = IntKind.u64.wrap (x120b - 1) := ⟨_, rfl⟩
       replace h := h x154 hwx154
       refine Seq.yg (d := (some 154)) (op := (.binOp .sub 56 (.tmp 153) (.const (.int .u64 1)) 56)) (ty := 56) (gd := (some (2, true))) (v := (.int .u64 x154)) (by kernel_rfl) rfl rfl (hwx154 ▸ Y.sub rfl rfl) ?_
       obtain ⟨x155, hwx155⟩ : ∃ y, y = IntKind.u8.wrap x154 := ⟨_, rfl⟩
       replace h := h x155 hwx155
       refine Seq.yg (d := (some 155)) (op := (.convert 56 5 (.tmp 154))) (ty := 5) (gd := (some (2, true))) (v := (.int .u8 x155)) (by kernel_rfl) rfl rfl (hwx155 ▸ Y.conv (by kernel_rfl) underlying5 rfl) ?_
       refine Seq.o ?_
       refine OpTo.bslice (T := 23) (E := 5) (m := 2) (ps := #[(0, (.tmp 152)), (1, (.tmp 155))]) (d := (some 156)) (ty := 23) (gd := (some (2, true))) (vs := [(0, (.int .u8 x152)), (1, (.int .u8 x155))]) (cs := #[(.int .u8 x152), (.int .u8 x155)]) underlying23 (by kernel_rfl) rfl rfl rfl (by kernel_rfl) (fun b156 hn => ?_)
       replace h := h b156 hn
       refine Seq.o ?_
       refine OpTo.cl (some 157) call35 (h.cont fun v_2 σ1_2 h2 => ?_); replace h := h2; clear h2
       obtain ⟨t157, rfl, h⟩ := h
       refine Seq.us [(158, .bool (!t157)), (159, .bool (!t157))] ?_
       refine Seq.done ?_
       cases hb : (!t157) with
       | true =>
        replace h := h.1 (Tw.nt hb)
        refine At.cT 159 K97 K100 ?_
        refine At.s K98 K99 ?_
        refine At.rg 31 [0] ?_
        refine Seq.u 6 (.bool false) ?_
        refine Seq.done ?_
        exact At.rt [.tmp 6] [(.bool false)] func10 ⟨_, rfl, rfl⟩ h
       | false =>
        replace h := h.2 (Tw.nf hb)
        refine At.cF 159 K97 K100 ?_
        refine At.skip ?_
        refine At.inBlock ?_
        refine At.rg 26 [0, 1, 2] ?_
        refine Seq.u 112 (.int .i64 x19) ?_
        obtain ⟨hi, h⟩ := h
        refine Seq.z 113 (.binOp .add 3 (.tmp 112) (.const (.int .i64 1)) 3) 3 (.int .i64 (x19 + 1)) (Y.addI hi rfl rfl) ?_
        refine Seq.u 19 (.int .i64 (x19 + 1)) ?_
        refine Seq.done ?_
        refine At.inLoop ?_
        refine At.s K77 K82 ?_
        refine At.s K78 K79 ?_
        exact At.v [(10, (.slice (some ⟨b118, o118, none⟩) n10 c10)), (11, (.pointer (some ⟨b11, 0, none⟩))), (12, (.int .i64 x12)), (17, (.pointer q17)), (19, (.int .i64 (x19 + 1)))] (h _)
      | false =>
       replace h := h.2 (of_decide_eq_false hb)
       refine Seq.n 150 ?_
       refine Seq.n 151 ?_
       refine Seq.n 152 ?_
       refine Seq.n 153 ?_
       refine Seq.n 154 ?_
       refine Seq.n 155 ?_
       refine Seq.n 156 ?_
       refine Seq.n 157 ?_
       refine Seq.n 158 ?_
       refine Seq.u 159 (.bool false) ?_
       refine Seq.done ?_
       refine At.cF 159 K97 K100 ?_
       refine At.skip ?_
       refine At.inBlock ?_
       refine At.rg 26 [0, 1, 2] ?_
       refine Seq.u 112 (.int .i64 x19) ?_
       obtain ⟨hi, h⟩ := h
       refine Seq.z 113 (.binOp .add 3 (.tmp 112) (.const (.int .i64 1)) 3) 3 (.int .i64 (x19 + 1)) (Y.addI hi rfl rfl) ?_
       refine Seq.u 19 (.int .i64 (x19 + 1)) ?_
       refine Seq.done ?_
       refine At.inLoop ?_
       refine At.s K77 K82 ?_
       refine At.s K78 K79 ?_
       exact At.v [(10, (.slice (some ⟨b118, o118, none⟩) n10 c10)), (11, (.pointer (some ⟨b11, 0, none⟩))), (12, (.int .i64 x12)), (17, (.pointer q17)), (19, (.int .i64 (x19 + 1)))] (h _)
    | false =>
     replace h := h.2 (of_decide_eq_false hb)
     refine Seq.n 137 ?_
     refine Seq.n 138 ?_
     refine Seq.n 139 ?_
     refine Seq.n 140 ?_
     refine Seq.n 141 ?_
     refine Seq.n 142 ?_
     refine Seq.us [(143, .bool false), (144, .bool true), (145, .bool true), (146, .bool true)] ?_
     refine Seq.done ?_
     refine At.L [(10, (.slice (some ⟨b118, o118, none⟩) n10 c10)), (11, (.pointer (some ⟨b11, 0, none⟩))), (12, (.int .i64 x12)), (17, (.pointer q17)), (19, (.int .i64 x19)), (20, (.slice p120a n120a c120a)), (21, (.int .u64 x120b)), (146, (.bool true))] fun J => ?_
     refine At.cT 146 K90 K93 ?_
     refine At.s K91 K92 ?_
     refine At.rg 29 [0] ?_
     refine Seq.u 6 (.bool false) ?_
     refine Seq.done ?_
     exact At.rt [.tmp 6] [(.bool false)] func10 ⟨_, rfl, rfl⟩ h
   | false =>
    replace h := h.2 (of_decide_eq_false hb)
    refine Seq.n 133 ?_
    refine Seq.n 134 ?_
    refine Seq.n 135 ?_
    refine Seq.n 136 ?_
    refine Seq.n 137 ?_
    refine Seq.n 138 ?_
    refine Seq.n 139 ?_
    refine Seq.n 140 ?_
    refine Seq.n 141 ?_
    refine Seq.n 142 ?_
    refine Seq.n 143 ?_
    refine Seq.n 144 ?_
    refine Seq.us [(145, .bool false), (146, .bool false)] ?_
    refine Seq.done ?_
    refine At.cF 146 K90 K93 ?_
    refine At.skip ?_
    refine At.s K95 K96 ?_
    refine At.rg 30 [0, 1, 2, 3, 4, 5, 6, 7, 8, 9, 10, 11, 12] ?_
    refine Seq.us [(147, .int .u64 x120b), (148, .bool (decide ((0 : Int) < x120b))), (149, .bool (decide ((0 : Int) < x120b)))] ?_
    cases hb : (decide ((0 : Int) < x120b)) with
    | true =>
     replace h := h.1 (of_decide_eq_true hb)
     refine Seq.us [(150, .slice p120a n120a c120a), (151, .int .i64 x19)] ?_
     obtain ⟨x152, hwx152⟩ : ∃ y, y = IntKind.u8.wrap x19 := ⟨_, rfl⟩
     replace h := h x152 hwx152
     refine Seq.yg (d := (some 152)) (op := (.convert 3 5 (.tmp 151))) (ty := 5) (gd := (some (2, true))) (v := (.int .u8 x152)) (by kernel_rfl) rfl rfl (hwx152 ▸ Y.conv (by kernel_rfl) underlying5 rfl) ?_
     refine Seq.u 153 (.int .u64 x120b) ?_
     obtain ⟨x154, hwx154⟩ : ∃ y, y = IntKind.u64.wrap (x120b - 1) := ⟨_, rfl⟩
     replace h := h x154 hwx154
     refine Seq.yg (d := (some 154)) (op := (.binOp .sub 56 (.tmp 153) (.const (.int .u64 1)) 56)) (ty := 56) (gd := (some (2, true))) (v := (.int .u64 x154)) (by kernel_rfl) rfl rfl (hwx154 ▸ Y.sub rfl rfl) ?_
     obtain ⟨x155, hwx155⟩ : ∃ y, y = IntKind.u8.wrap x154 := ⟨_, rfl⟩
     replace h := h x155 hwx155
     refine Seq.yg (d := (some 155)) (op := (.convert 56 5 (.tmp 154))) (ty := 5) (gd := (some (2, true))) (v := (.int .u8 x155)) (by kernel_rfl) rfl rfl (hwx155 ▸ Y.conv (by kernel_rfl) underlying5 rfl) ?_
     refine Seq.o ?_
     refine OpTo.bslice (T := 23) (E := 5) (m := 2) (ps := #[(0, (.tmp 152)), (1, (.tmp 155))]) (d := (some 156)) (ty := 23) (gd := (some (2, true))) (vs := [(0, (.int .u8 x152)), (1, (.int .u8 x155))]) (cs := #[(.int .u8 x152), (.int .u8 x155)]) underlying23 (by kernel_rfl) rfl rfl rfl (by kernel_rfl) (fun b156 hn => ?_)
     replace h := h b156 hn
     refine Seq.o ?_
     refine OpTo.cl (some 157) call35 (h.cont fun v_2 σ1_2 h2 => ?_); replace h := h2; clear h2
     obtain ⟨t157, rfl, h⟩ := h
     refine Seq.us [(158, .bool (!t157)), (159, .bool (!t157))] ?_
     refine Seq.done ?_
     cases hb : (!t157) with
     | true =>
      replace h := h.1 (Tw.nt hb)
      refine At.cT 159 K97 K100 ?_
      refine At.s K98 K99 ?_
      refine At.rg 31 [0] ?_
      refine Seq.u 6 (.bool false) ?_
      refine Seq.done ?_
      exact At.rt [.tmp 6] [(.bool false)] func10 ⟨_, rfl, rfl⟩ h
     | false =>
      replace h := h.2 (Tw.nf hb)
      refine At.cF 159 K97 K100 ?_
      refine At.skip ?_
      refine At.inBlock ?_
      refine At.rg 26 [0, 1, 2] ?_
      refine Seq.u 112 (.int .i64 x19) ?_
      obtain ⟨hi, h⟩ := h
      refine Seq.z 113 (.binOp .add 3 (.tmp 112) (.const (.int .i64 1)) 3) 3 (.int .i64 (x19 + 1)) (Y.addI hi rfl rfl) ?_
      refine Seq.u 19 (.int .i64 (x19 + 1)) ?_
      refine Seq.done ?_
      refine At.inLoop ?_
      refine At.s K77 K82 ?_
      refine At.s K78 K79 ?_
      exact At.v [(10, (.slice (some ⟨b118, o118, none⟩) n10 c10)), (11, (.pointer (some ⟨b11, 0, none⟩))), (12, (.int .i64 x12)), (17, (.pointer q17)), (19, (.int .i64 (x19 + 1)))] (h _)
    | false =>
     replace h := h.2 (of_decide_eq_false hb)
     refine Seq.n 150 ?_
     refine Seq.n 151 ?_
     refine Seq.n 152 ?_
     refine Seq.n 153 ?_
     refine Seq.n 154 ?_
     refine Seq.n 155 ?_
     refine Seq.n 156 ?_
     refine Seq.n 157 ?_
     refine Seq.n 158 ?_
     refine Seq.u 159 (.bool false) ?_
     refine Seq.done ?_
     refine At.L [(10, (.slice (some ⟨b118, o118, none⟩) n10 c10)), (11, (.pointer (some ⟨b11, 0, none⟩))), (12, (.int .i64 x12)), (17, (.pointer q17)), (19, (.int .i64 x19)), (159, (.bool false))] fun J => ?_
     refine At.cF 159 K97 K100 ?_
     refine At.skip ?_
     refine At.inBlock ?_
     refine At.rg 26 [0, 1, 2] ?_
     refine Seq.u 112 (.int .i64 x19) ?_
     obtain ⟨hi, h⟩ := h
     refine Seq.z 113 (.binOp .add 3 (.tmp 112) (.const (.int .i64 1)) 3) 3 (.int .i64 (x19 + 1)) (Y.addI hi rfl rfl) ?_
     refine Seq.u 19 (.int .i64 (x19 + 1)) ?_
     refine Seq.done ?_
     refine At.inLoop ?_
     refine At.s K77 K82 ?_
     refine At.s K78 K79 ?_
     exact At.v [(10, (.slice (some ⟨b118, o118, none⟩) n10 c10)), (11, (.pointer (some ⟨b11, 0, none⟩))), (12, (.int .i64 x12)), (17, (.pointer q17)), (19, (.int .i64 (x19 + 1)))] (h _)
 | false =>
  replace h := h.2 (of_decide_eq_false hb)
  refine At.cF 111 K80 K81 ?_
  refine At.x 2 [.code K102] ?_
  refine At.s K103 K104 ?_
  refine At.rg 32 [0, 1] ?_
  refine Seq.o ?_
  refine OpTo.cl (some 160) call34 (h.cont fun v σ1 h2 => ?_); replace h := h2; clear h2
  obtain ⟨t160, rfl, h⟩ := h
  refine Seq.u 6 (.bool t160) ?_
  refine Seq.done ?_
  exact At.rt [.tmp 6] [(.bool t160)] func10 ⟨_, rfl, rfl⟩ h
theorem pt56_of {R : Ending → Hp → Prop} {p0 q7 q8 p10 : Option Addr} {n0 c0 n10 c10 b11 : Nat} {x2 x12 x13 : Int} {σ : Hp} (h : I64 (x13 + 1) ∧ pt29 R p0 n0 c0 x2 q7 q8 p10 n10 c10 b11 x12 ((x13 + 1)) σ) : pt56 R p0 n0 c0 x2 q7 q8 p10 n10 c10 b11 x12 x13 σ := by
 intro J
 show At (gl R) _ _ _ _
 refine At.rg 11 [0, 1, 2] ?_
 refine Seq.u 54 (.int .i64 x13) ?_
 obtain ⟨hi, h⟩ := h
 refine Seq.z 55 (.binOp .add 3 (.tmp 54) (.const (.int .i64 1)) 3) 3 (.int .i64 (x13 + 1)) (Y.addI hi rfl rfl) ?_
 refine Seq.u 13 (.int .i64 (x13 + 1)) ?_
 refine Seq.done ?_
 refine At.inLoop ?_
 refine At.s K28 K33 ?_
 refine At.s K29 K30 ?_
 exact At.v [(0, (.slice p0 n0 c0)), (2, (.int .i64 x2)), (7, (.pointer q7)), (8, (.pointer q8)), (10, (.slice p10 n10 c10)), (11, (.pointer (some ⟨b11, 0, none⟩))), (12, (.int .i64 x12)), (13, (.int .i64 (x13 + 1)))] (h _)
end law12_KvKeeps

end
end TwW
end
section
set_option linter.unusedVariables false
namespace TwW
open Go Tw Go.RowKit Go.Proofs.Tryz
section
variable {σ σ' τ τ' ρ ρ' : Hp} {d b s m clock : Nat} {D : Dk} {W : Wl} {rows : List KRow} {R : Ending → Hp → Prop}
theorem sameTexts_spec {p q : Option Addr} {n c m d : Nat} {xs ys : List ByteArray} (hr : RdC 1 σ p n (xs.map .string)) (hs : RdC 1 σ q m (ys.map .string)) (h : R (.returned (.bool (decide (xs = ys)))) σ) : Spec prog law0_SameTexts.fid #[.slice p n c, .slice q m d] σ R := by
  have hxl : xs.length = n := by have := hr.1; simpa using this
  have hyl : ys.length = m := by have := hs.1; simpa using this
  refine law0_SameTexts.start ⟨fun hne => ?_, fun he => ?_⟩
  · have : xs ≠ ys := fun e => hne (by rw [← hxl, ← hyl, e])
    simpa [this] using h
  · obtain rfl : n = m := by omega
    suffices H : ∀ d' k : Nat, n - k = d' → k ≤ n → xs.take k = ys.take k → law0_SameTexts.pt17 R p n c q n d k σ from H n 0 rfl (Nat.zero_le _) (by simp)
    intro d'
    induction d' with
    | zero =>
      intro k hd hk hno
      refine law0_SameTexts.pt17_of ⟨fun hlt => by omega, fun _ => ?_⟩
      rw [List.take_of_length_le (by omega), List.take_of_length_le (by omega)] at hno
      simpa [hno] using h
    | succ d' ih =>
      intro k hd hk hno
      have hbig := hr.2.1
      obtain ⟨x, hx⟩ : ∃ x, xs[k]? = some x := ⟨_, List.getElem?_eq_getElem (by omega)⟩
      obtain ⟨y, hy⟩ : ∃ y, ys[k]? = some y := ⟨_, List.getElem?_eq_getElem (by omega)⟩
      obtain ⟨b, o, rfl, hl⟩ := RdC.at1 (k := k) (v := .string x) hr (by rw [List.getElem?_map, hx]; rfl)
      obtain ⟨b', o', rfl, hl'⟩ := RdC.at1 (k := k) (v := .string y) hs (by rw [List.getElem?_map, hy]; rfl)
      have key : (ByteArray.toList x == ByteArray.toList y) = decide (x = y) := by
        rw [ByteArray.toList_eq, ByteArray.toList_eq]
        by_cases e : x = y
        · subst e; simp
        · rw [decide_eq_false e]
          simp only [beq_eq_false_iff_ne]
          exact fun e2 => e (ByteArray.ext (Array.toList_inj.1 e2))
      refine law0_SameTexts.pt17_of ⟨fun hlt => ⟨b, o, rfl, by omega, x, by simpa using hl, b', o', rfl, by omega, y, by simpa using hl', fun hne => ?_, fun he => ⟨by unfold I64; omega, ih (k + 1) (by omega) (by omega) (take_eq_of hx hy hno ?_)⟩⟩, fun hge => by omega⟩
      · rw [key] at hne
        have : xs ≠ ys := fun e => by
          rw [decide_eq_false_iff_not] at hne
          exact hne (by rw [e, hy] at hx; cases hx; rfl)
        simpa [this] using h
      · rw [key] at he; simpa using he
theorem keys_pt18 {σ0 : Hp} {i m clock : Nat} {pre : ByteArray} (hm0 : MapAt σ0 m (rows.map KRow.ent) clock) (hrl : rows.length ≤ 1024)
    (hR : ∀ p n c L σ', OwnT (σ0.new σ') p n c L → L.Perm ((kKeys rows).filter (begins · pre)) → Ext σ0 σ' → R (.returned (.slice p n c)) σ') :
    ∀ (k : Nat) (σ : Hp) (L : List MapEntry) (xs : List ByteArray) (p : Option Addr) (c : Nat), L.length = k → Ext σ0 σ → IterAt (σ0.new σ) i m (rows.map KRow.ent) L clock → OwnT (σ0.new σ) p xs.length c xs → (xs ++ hit pre L).Perm ((kKeys rows).filter (begins · pre)) →
      kv_Store_Keys.pt18 R pre p xs.length c (.pointer (some ⟨i, 0, none⟩)) σ := by
  intro k
  induction k using Nat.strongRecOn with
  | _ k ih =>
  intro σ L xs p c hL hx hi ho hp
  have hlen : xs.length ≤ rows.length := by
    have := hp.length_eq
    have h2 := List.length_filter_le (begins · pre) (kKeys rows)
    simp only [List.length_append, kKeys, List.length_map] at this h2; omega
  have hm := hm0.mono hx
  refine kv_Store_Keys.pt18_of (next_eff hm (hi.mono (Ext.of_new _ _)) (fun h0 => .inl ⟨rfl, ?_⟩) fun e hen henl o hit' hent => .inr ?_)
  · subst h0
    simp only [hit, List.map_nil, List.filter_nil, List.append_nil] at hp
    have ho2 : Own 1 σ p xs.length c ((xs.map (·.data.toList)).map vStr) := by
      rw [List.map_map]; exact ho.mono (Ext.of_new _ _)
    refine sortStr_spec ho2 (by simp) (by omega) fun σ' hs hsx => ⟨rfl, ?_⟩
    refine hR p _ c ((sortedL (xs.map (·.data.toList))).map fun l => ⟨l.toArray⟩) σ' ?_ ?_ (ext_new ho.new_none hsx hx)
    · have := Own.to_new hs (σ := σ0) ho.new_none
      unfold OwnT
      rw [List.map_map]
      exact this
    · refine List.Perm.trans ?_ hp
      have h1 := (List.mergeSort_perm (xs.map (·.data.toList)) fun x y => decide (x ≤ y)).map fun l => (⟨l.toArray⟩ : ByteArray)
      rw [List.map_map] at h1
      have h2 : xs.map ((fun l => (⟨l.toArray⟩ : ByteArray)) ∘ fun s : ByteArray => s.data.toList) = xs := by
        conv => rhs; rw [← List.map_id xs]
        exact List.map_congr_left fun a _ => rfl
      rw [h2] at h1
      exact h1
  · obtain ⟨seen, c0, hio, _⟩ := hi
    obtain ⟨hi0, _⟩ := new_some.1 hio
    have hpi : ∀ a, p = some a → a.block ≠ i := fun a ha e => by
      rcases ho.2.2 with ⟨h1, _⟩ | ⟨b, o', arr, T, h1, h2, _⟩
      · rw [h1] at ha; cases ha
      · rw [h1] at ha; cases ha
        simp only at e; subst e
        rw [hio] at h2; cases h2
    have hmi : m ≠ i := fun e => by rw [← e, hm0.1] at hi0; cases hi0
    obtain ⟨l1, l2, hl⟩ := List.append_of_mem henl
    obtain ⟨r1, r, r2, hrows, _, rfl, _⟩ := kents_split hl
    have hx2 : Ext σ0 (σ.set i o) := fun b u hb => by rw [Hp.set_ne fun e => by rw [e, hi0] at hb; cases hb]; exact hx b u hb
    have hi2 : (σ0.new (σ.set i o)) i = some o := new_some.2 ⟨hi0, Hp.set_same _ _ _⟩
    have ho2 : OwnT (σ0.new (σ.set i o)) p xs.length c xs := TwW.Own.loc ho fun b hb => by
      cases p with
      | none => cases hb
      | some a =>
        simp only [blk, List.mem_singleton] at hb
        subst hb
        simp only [Hp.new, Hp.set_ne (hpi a rfl)]
    have hborn : (L.map (·.born)).Nodup := hm0.borns.sublist ((IterAt.sub ⟨seen, c0, hio, by assumption⟩).map _)
    have hpk2 : (hit pre L).Perm (hit pre (r.ent :: L.filter fun x => x.born != r.ent.born)) := ((pick_perm hborn hen).map nm).filter _
    have hcons : ∀ M, hit pre (r.ent :: M) = if begins r.key pre = true then r.key :: hit pre M else hit pre M := fun M => by
      have : nm r.ent = r.key := rfl
      simp only [hit, List.map_cons, List.filter_cons, this]
    rw [hcons] at hpk2
    refine ⟨_, _, _, _, _, rfl, hent _ (Hp.set_same _ _ _) (Hp.set_ne hmi) ⟨_, _, _, _, _, rfl, pref_spec ⟨_, rfl, fun ht b26 hb26 => ?_, fun hf => ?_⟩⟩⟩
    · rw [if_pos ht] at hpk2
      refine app_lit (T := 36) (ys := [.string r.key]) hx2 ho2 rfl (fun u hu => by simp at hu; subst hu; rfl) (by omega) (fun p' c' σ' ho3 hx3 hd3 => ⟨p', _, c', rfl, ?_⟩) hb26
      have hi3 : (σ0.new σ') i = some o := by
        have := hd3 i o (del_some.2 ⟨fun a ha => Ne.symm (hpi a ha), hi2⟩)
        exact (del_some.1 this).2
      have := ih _ (hL ▸ left_lt hen) σ' _ (xs ++ [r.key]) p' c' rfl hx3 (hit' _ hi3) (by simpa [OwnT] using ho3) (by
        rw [List.append_assoc]
        exact (hpk2.append_left xs).symm.trans hp)
      simpa using this
    · rw [if_neg (by rw [hf]; simp)] at hpk2
      exact ih _ (hL ▸ left_lt hen) _ _ xs p c rfl hx2 (hit' _ hi2) ho2 ((hpk2.append_left xs).symm.trans hp)
theorem keys_spec {pre : ByteArray} (h : KvU σ d b s D W rows τ) (hu : D.up = true) (hrl : rows.length ≤ 1024)
    (hR : ∀ p n c L σ', OwnT (σ.new σ') p n c L → L.Perm ((kKeys rows).filter (begins · pre)) → Ext σ σ' → R (.returned (.slice p n c)) σ') : Spec prog kv_Store_Keys.fid #[.pointer (some ⟨s, 0, none⟩), .string pre] σ R := by
  have h' := h
  obtain ⟨ρ, m, cl, h1, h2⟩ := h'
  have hx := h1.ext
  refine kv_Store_Keys.start ⟨s, 0, rfl, _, ld_of (hx _ _ h2.cell) rfl, h.disk.upS ⟨_, rfl, fun hh => (by rw [hu] at hh; cases hh), fun _ => ⟨_, ld_of (hx _ _ h2.cell) rfl, range_eff (h2.map.mono hx) fun i o hi hit => ⟨_, rfl, ?_⟩⟩⟩⟩
  exact keys_pt18 (h2.map.mono hx) hrl hR _ _ _ [] none 0 rfl (.set hi) (hit.loc (by simp [Hp.new, hi])) Own.nil (by simp only [List.nil_append, TwW.hit, List.map_map]; exact List.Perm.of_eq (congrArg _ (List.map_congr_left fun r _ => rfl)))
theorem OwnT.rd {p : Option Addr} {n c : Nat} {L : List ByteArray} (h : OwnT σ p n c L) : RdC 1 σ p n (L.map .string) := Own.rd h
theorem kv_open_new (h : DiskU σ d D τ) (ht : Tb τ) (hup : D.up = true) (harm : D.armed = false) (hc : D.cnt = 0) (hf : ∀ s, D.files s = none)
    (hR : ∀ s b σ' W fs', KvU σ' d b s (dk fs' 0) W [] τ → KvOk (dk fs' 0) W [] [] → (∀ s, fs' s = none) → R (.returned (.tuple #[.pointer (some ⟨s, 0, none⟩), .int .i64 0])) σ') : Spec prog kv_Open.fid #[.pointer (some ⟨d, 0, none⟩)] σ R := by
  refine kv_open_spec (ts := []) (w := true) h ht hup harm (by omega) (OpenOk.none' fun s hs => by rw [hf s] at hs; cases hs) (fun t ht => by cases ht) (by simp) fun s b σ1 W1 rows fs' cnt' h1 hl hk hd hlog hn c1 c2 hsub hw => ?_
  have hrows : rows = [] := by
    cases rows with
    | nil => rfl
    | cons r l => obtain ⟨t, ht, _⟩ := hk r.key (by simp [kKeys]); cases ht
  subst hrows
  have hcnt : cnt' = 0 := (hw rfl).trans hc
  subst hcnt
  have hfn : ∀ x, fs' x = none := fun x => by
    cases hh : fs' x with
    | none => rfl
    | some f => have := hsub x (by rw [hh]; rfl); rw [hf x] at this; cases this
  refine hR s b σ1 W1 fs' h1 ⟨rfl, hd, hlog, fun t ht => (by cases ht), hl, hn, fun x hx => (by rw [show (dk fs' 0).files x = none from hfn x] at hx; cases hx), ?_⟩ hfn
  obtain ⟨rc, sg, hlo, _⟩ := hlog
  have hsg : sg = [] := by
    cases sg with
    | nil => rfl
    | cons x l =>
      obtain ⟨f, hx, _⟩ := hlo.sh.file 0 x rfl
      rw [hfn] at hx; cases hx
  rw [hlo.segs, hsg]; simp
theorem KvSm.nil {K : List ByteArray} : KvSm K [] := ⟨fun x hx => (by cases hx), fun x => by simp [kGet, kLook]⟩
theorem kGet_of {k x : ByteArray} {r : Reg} {rows rows' : List KRow} (h : ∀ k', kLook rows' k' = if k = k' then some r else kLook rows k') : kGet rows' x = if k = x then r else kGet rows x := by
  rw [kGet, h]
  by_cases hkx : k = x <;> simp [hkx, kGet]
theorem single_of {L : List ByteArray} {a : ByteArray} (hn : L.Nodup) (h : ∀ x, x ∈ L ↔ x = a) : L = [a] := by
  cases L with
  | nil => have := (h a).2 rfl; cases this
  | cons x L =>
    obtain rfl := (h x).1 (by simp)
    cases L with
    | nil => rfl
    | cons y L =>
      obtain rfl := (h y).1 (by simp)
      simp at hn
def ka : ByteArray := ⟨#[97]⟩
def kb : ByteArray := ⟨#[98]⟩
theorem two_rd {b : Nat} {x y : Int} {T : TypeId} (h : τ b = some (.cells #[.int .u8 x, .int .u8 y] T (0, 0))) : RdI .u8 τ (some ⟨b, 0, none⟩) 2 [x, y] :=
  RdI.of_rdc ⟨rfl, by omega, .inr ⟨b, 0, rfl, ld_of h rfl, ld_of h rfl, trivial⟩⟩
theorem kv_awake_spec (ht : Tb σ) (hR : ∀ σ', Ext σ σ' → R (.returned (.bool true)) σ') : Spec prog law12_awake.fid #[] σ R := by
  refine law12_awake.start (disk_new_spec fun d σ1 S1 hd1 hx1 => ⟨_, rfl, ?_⟩)
  have h1 : DiskU σ1 d ⟨fun _ => none, true, false, 0⟩ σ := ⟨S1, hd1, hx1⟩
  refine kv_open_new h1 ht rfl rfl rfl (fun _ => rfl) fun s b σ2 W fs' h2 ho2 hfs => ⟨_, _, rfl, fun hh => absurd rfl hh, fun _ => ⟨fun hh => (by cases hh), fun _ b26 hb26 => ?_⟩⟩
  obtain ⟨τ3, h3, x3, t3⟩ := h2.box (o := .cells #[.int .u8 1, .int .u8 2] 5 (0, 0)) hb26
  have ht3 := ht.mono x3
  have h12 : By8 [1, 2] := fun a ha => by simp at ha; omega
  refine set_spec (K := [ka]) (k := ka) (v := 0) h3 ht3 ho2 KvSm.nil (by decide) rfl (by simp) (two_rd t3) h12 (by decide) (by decide) (by show 0 + 1 < _; omega) (fun hh => absurd rfl hh) (fun _ σ4 D4 W4 rows4 ts4 h4 ho4 sm4 hl4 a4 c4 k4 => ⟨_, _, rfl, ?_⟩) (fun hh => by cases hh)
  have hg4 : ∀ x, kGet rows4 x = if ka = x then ([1, 2], 1) else ([], 0) := fun x => by rw [kGet_of hl4]; rfl
  have hc4 : D4.cnt ≤ 2 := c4.1
  have ha4 : D4.armed = false := a4
  refine set_spec (K := [ka]) (k := ka) (v := 0) (dat := []) h4 ht3 ho4 sm4 (by decide) rfl (by simp) RdS.nil (fun a ha => by cases ha) (by decide) (by decide) (by omega) (fun _ σ5 hx5 => ⟨_, _, rfl, ?_⟩) (fun hh => by rw [hg4] at hh; cases hh) (fun hh => by rw [ha4] at hh; cases hh)
  have h5 := h4.mono hx5
  refine get_spec h5 ho4.up (fun hh => by cases hh) fun _ p37 n37 c37 σ6 ho37 hx6 => ⟨_, _, _, _, _, rfl, ?_⟩
  have h6 := h5.mono hx6
  have r37 := OwnI.rd (Own.mono (Ext.of_new _ _) ho37)
  refine get_spec h6 ho4.up (fun hh => by cases hh) fun _ p43 n43 c43 σ7 ho43 hx7 => ⟨_, _, _, _, _, rfl, ?_⟩
  have h7 := h6.mono hx7
  have ea : kGet rows4 ka = ([1, 2], 1) := by rw [hg4]; rfl
  have eb : kGet rows4 kb = ([], 0) := by rw [hg4]; rfl
  have hkk : kKeys rows4 = [ka] := single_of h4.nodup fun x => by rw [k4]; simp [kKeys]
  have hrl : rows4.length ≤ 1024 := by have := congrArg List.length hkk; simp [kKeys] at this; omega
  have er : (.int .u64 ((kGet rows4 ka).2 : Nat) : Value) = .int .u64 1 := by rw [ea]; rfl
  refine ⟨fun _ => ⟨fun _ => ⟨fun _ => ⟨fun _ b63 hb63 => ?_, fun hh => absurd rfl hh⟩, fun hh => absurd (by rw [ea]; rfl) hh⟩, fun hh => absurd rfl hh⟩, fun hh => absurd rfl hh⟩
  obtain ⟨τ8, h8, x8, t8⟩ := h7.box (o := .cells #[.int .u8 1, .int .u8 2] 5 (0, 0)) hb63
  have r37a : RdI .u8 σ6 p37 n37 [1, 2] := by have := r37; rw [show kGet rows4 (ByteArray.mk #[97]) = ([1, 2], 1) from ea] at this; exact this
  have hx8' : Ext σ6 (σ7.set b63 (.cells #[.int .u8 1, .int .u8 2] 5 (0, 0))) := hx7.trans (.set hb63)
  have r37' := r37a.mono hx8'
  refine sameBytes_spec r37' ((two_rd t8).mono h8.ext) ⟨_, rfl, fun _ => ⟨fun _ => ⟨fun _ => ⟨fun _ => ⟨fun _ => ?_, fun hh => absurd rfl hh⟩, fun hh => absurd (by rw [show kGet rows4 (ByteArray.mk #[98]) = ([], 0) from eb]; rfl) hh⟩, fun hh => absurd rfl hh⟩, fun hh => absurd (by rw [show kGet rows4 (ByteArray.mk #[97]) = ([1, 2], 1) from ea]; rfl) hh⟩, fun hh => by simp at hh⟩
  refine keys_spec h8 ho4.up hrl fun p84 n84 c84 L σ9 hoL hpL hx9 => ⟨_, _, _, rfl, fun b85 hb85 => ?_⟩
  obtain ⟨τ10, h10, x10, t10⟩ := (h8.mono hx9).box (o := .cells #[.string (ByteArray.mk #[97])] 9 (0, 0)) hb85
  have hL : L = [ka] := by
    have e : (kKeys rows4).filter (begins · (ByteArray.mk #[])) = [ka] := by rw [hkk]; rfl
    rw [e] at hpL
    exact List.perm_singleton.1 hpL
  subst hL
  have rk0 : RdC 1 τ10 (some ⟨b85, 0, none⟩) 1 ([ka].map Value.string) := ⟨rfl, by omega, .inr ⟨b85, 0, rfl, ld_of t10 rfl, trivial⟩⟩
  have rk := RdC.mono h10.ext rk0
  refine sameTexts_spec (RdC.mono ((Ext.of_new _ _).trans (.set hb85)) hoL.rd) rk ⟨_, rfl, ?_⟩
  have := hR _ (x3.trans (x8.trans (x10.trans h10.ext)))
  simpa using this
end
end TwW
end
section
set_option linter.unusedVariables false
namespace TwW
open Go Tw Go.RowKit Go.Proofs.Tryz
section
variable {σ σ' τ τ' ρ ρ' : Hp} {d b s m clock : Nat} {D : Dk} {W : Wl} {rows : List KRow} {R : Ending → Hp → Prop}
theorem set_nokey {k : ByteArray} {p : Option Addr} {n c : Nat} {v : Int} (h : KvU σ d b s D W rows τ) (hu : D.up = true) (hk : keyOk k = false) (hR : R (.returned (.tuple #[.int .u64 0, .int .i64 120])) σ) : Spec prog kv_Store_Set.fid #[.pointer (some ⟨s, 0, none⟩), .string k, .slice p n c, .int .u64 v] σ R :=
  kv_Store_Set.start (get_spec h hu (fun _ => ⟨_, _, _, _, _, rfl, fun _ => hR, fun hh => absurd (by decide) hh⟩) fun hh => by rw [hk] at hh; cases hh)
variable {p1 p2 : Option Addr} {n1 c1 n2 c2 : Nat} {xa xb : List Int} {key : ByteArray}
theorem two_pt {x3 : Int} (ht : Tb τ) (hk : keyOk key = true) (hra : RdI .u8 τ p1 n1 xa) (h8a : By8 xa) (hna : n1 ≤ 60000) (hrb : RdI .u8 τ p2 n2 xb) (h8b : By8 xb) (hnb : n2 ≤ 60000) (hR : ∀ σ', Ext τ σ' → R (.returned (.bool true)) σ') :
    ∀ (m i : Nat) (σ : Hp) (D : Dk) (W : Wl) (rows : List KRow) (ts : List Rec), 5 - i = m → i ≤ 5 → KvU σ d b s D W rows τ → KvOk D W rows ts → KvSm [key] rows → D.armed = false → D.cnt ≤ 2 * i → (kGet rows key).2 = i → law12_KvTwo.pt39 R key p1 n1 c1 p2 n2 c2 x3 (some ⟨s, 0, none⟩) i σ := by
  have hla : xa.length = n1 := hra.1
  have hlb : xb.length = n2 := hrb.1
  intro m
  induction m with
  | zero =>
    intro i σ D W rows ts hm hi h ho hs ha hc hv
    refine law12_KvTwo.pt39_of (low_spec fun y hy0 hy1 => ⟨y, rfl, by decide, fun x76 hx76 => ?_⟩)
    have hr := tmod_room (x := y) (n := 4) hy0 (by omega)
    rw [show (4 : Int) + 1 = 5 from rfl, ← hx76] at hr
    exact ⟨by unfold I64; omega, fun hh => by omega, fun _ => kv_awake_spec (ht.mono h.ext) fun σ' hx' => ⟨_, rfl, hR σ' (h.ext.trans hx')⟩⟩
  | succ m ih =>
    intro i σ D W rows ts hm hi h ho hs ha hc hv
    refine law12_KvTwo.pt39_of (low_spec fun y hy0 hy1 => ⟨y, rfl, by decide, fun x76 hx76 => ?_⟩)
    have hr := tmod_room (x := y) (n := 4) hy0 (by omega)
    rw [show (4 : Int) + 1 = 5 from rfl, ← hx76] at hr
    refine ⟨by unfold I64; omega, fun _ => ?_, fun _ => kv_awake_spec (ht.mono h.ext) fun σ' hx' => ⟨_, rfl, hR σ' (h.ext.trans hx')⟩⟩
    refine get_spec h ho.up (fun hh => by rw [hk] at hh; cases hh) fun _ p84 n84 c84 σ1 ho1 hx1 => ⟨_, _, _, _, _, rfl, ?_⟩
    rw [hv]
    have h1 := h.mono hx1
    refine copyBytes_spec (hra.mono h1.ext) (by omega) fun p92 c92 σ2 ho2 hx2 => ⟨_, _, _, rfl, ?_⟩
    obtain ⟨τ2, h2, x2, x2n⟩ := h1.grow hx2
    refine set_spec (K := [key]) h2 (ht.mono x2) ho hs (by simp) hk (by simp) ((OwnI.rd ho2).mono x2n) h8a (by omega) (by omega) (by omega) (fun hh => absurd hv hh) (fun _ σ3 D3 W3 rows3 ts3 h3 ho3 hs3 hl3 a3 k3 _ => ⟨_, _, rfl, ?_⟩) (fun hh => by rw [ha] at hh; cases hh)
    have hg3 : kGet rows3 key = (xa, i + 1) := by rw [kGet_of hl3, if_pos rfl]
    refine copyBytes_spec ((hrb.mono x2).mono h3.ext) (by omega) fun p101 c101 σ4 ho4 hx4 => ⟨_, _, _, rfl, ?_⟩
    obtain ⟨τ4, h4, x4, x4n⟩ := h3.grow hx4
    refine set_spec (K := [key]) h4 ((ht.mono x2).mono x4) ho3 hs3 (by simp) hk (by simp) ((OwnI.rd ho4).mono x4n) h8b (by omega) (by omega) (by omega) (fun _ σ5 hx5 => ⟨_, _, rfl, ?_⟩) (fun hh => by rw [hg3] at hh; simp only at hh; omega) (fun hh => by rw [a3, ha] at hh; cases hh)
    have h5 := h4.mono hx5
    refine get_spec h5 ho3.up (fun hh => by rw [hk] at hh; cases hh) fun _ p109 n109 c109 σ6 ho6 hx6 => ⟨_, _, _, _, _, rfl, ?_⟩
    rw [hg3] at ho6 ⊢
    have h6 := h5.mono hx6
    have ew : IntKind.u64.wrap ((i : Int) + 1) = ((i + 1 : Nat) : Int) := by simp [IntKind.wrap, IntKind.bits, IntKind.signed]; omega
    refine ⟨fun hh => absurd rfl hh, fun _ => ⟨fun hh => absurd rfl hh, fun _ => ⟨fun hh => absurd rfl hh, fun _ => ⟨fun hh => absurd rfl hh, fun _ x130 h130 => ⟨fun hh => absurd (by rw [h130, ew]) hh, fun _ x136 h136 => ⟨fun hh => absurd (by rw [h136, ew]) hh, fun _ x142 h142 => ⟨fun hh => absurd (by rw [h142, ew]) hh, fun _ => ?_⟩⟩⟩⟩⟩⟩⟩
    refine sameBytes_spec (OwnI.rd (Own.mono (Ext.of_new _ _) ho6)) (((hra.mono x2).mono x4).mono h6.ext) ⟨_, rfl, fun hh => by simp at hh, fun _ => ⟨by unfold I64; omega, ?_⟩⟩
    exact ih (i + 1) σ6 D3 W3 rows3 ts3 (by omega) (by omega) (h6.weak (x2.trans x4)) ho3 hs3 (a3.trans ha) (by omega) (by rw [hg3])
theorem kvTwo_spec {x3 : Int} (ht : Tb σ) (hra : RdI .u8 σ p1 n1 xa) (h8a : By8 xa) (hrb : RdI .u8 σ p2 n2 xb) (h8b : By8 xb) (hR : ∀ σ', Ext σ σ' → R (.returned (.bool true)) σ') :
    Spec prog law12_KvTwo.fid #[.string key, .slice p1 n1 c1, .slice p2 n2 c2, .int .i64 x3] σ R := by
  refine law12_KvTwo.start (disk_new_spec fun d σ1 S1 hd1 hx1 => ⟨_, rfl, ?_⟩)
  have h1 : DiskU σ1 d ⟨fun _ => none, true, false, 0⟩ σ := ⟨S1, hd1, hx1⟩
  refine kv_open_new h1 ht rfl rfl rfl (fun _ => rfl) fun s b σ2 W fs' h2 ho2 hfs => ⟨_, _, rfl, fun hh => absurd rfl hh, fun _ => ⟨fun hh => (by cases hh), fun _ => ?_⟩⟩
  have aw : ∀ σ', Ext σ σ' → Spec prog 34 #[] σ' (Cont R (fun v_6 σ1_6 => ∃ t62 : Bool, v_6 = (.bool t62) ∧ R (.returned (.bool t62)) σ1_6)) := fun σ' hx' => kv_awake_spec (ht.mono hx') fun σ'' hx'' => ⟨_, rfl, hR σ'' (hx'.trans hx'')⟩
  refine refKey_spec ⟨_, rfl, fun hk => ?_, fun hk => ⟨fun _ => aw _ h2.ext, fun hna => ⟨fun _ => aw _ h2.ext, fun hnb => ?_⟩⟩⟩
  · refine set_nokey h2 rfl hk ⟨_, _, rfl, ?_⟩
    exact get_spec h2 rfl (fun _ => ⟨_, _, _, _, _, rfl, fun _ => ⟨fun _ => aw _ h2.ext, fun hh => absurd rfl hh⟩, fun hh => absurd rfl hh⟩) fun hh => by rw [hk] at hh; cases hh
  · exact two_pt ht hk hra h8a (by omega) hrb h8b (by omega) hR 5 0 σ2 (dk fs' 0) W [] [] rfl (by omega) h2 ho2 KvSm.nil rfl (Nat.le_refl _) rfl
end
end TwW
end
section
set_option linter.unusedVariables false
namespace TwW
open Go Tw Go.RowKit Go.Proofs.Tryz
def kc3 : ByteArray := ⟨#[99]⟩
def keys3 : List ByteArray := [ka, kb, kc3]
def key3 (x : Nat) : ByteArray := keys3.getD x ka
theorem key3_at {x : Nat} (h : x < 3) : (keys3.map Value.string)[x]? = some (.string (key3 x)) := by
  match x, h with
  | 0, _ => rfl
  | 1, _ => rfl
  | 2, _ => rfl
theorem key3_mem (x : Nat) : key3 x ∈ keys3 := by
  match x with
  | 0 => exact .head _
  | 1 => exact .tail _ (.head _)
  | 2 => exact .tail _ (.tail _ (.head _))
  | n + 3 => exact .head _
theorem key3_ok (x : Nat) : keyOk (key3 x) = true := by
  match x with
  | 0 => rfl
  | 1 => rfl
  | 2 => rfl
  | n + 3 => rfl
theorem key3_inj {x y : Nat} (hx : x < 3) (hy : y < 3) (h : key3 x = key3 y) : x = y := by
  match x, y, hx, hy with
  | 0, 0, _, _ => rfl
  | 1, 1, _, _ => rfl
  | 2, 2, _, _ => rfl
  | 0, 1, _, _ => exact absurd h (by decide)
  | 0, 2, _, _ => exact absurd h (by decide)
  | 1, 0, _, _ => exact absurd h (by decide)
  | 1, 2, _, _ => exact absurd h (by decide)
  | 2, 0, _, _ => exact absurd h (by decide)
  | 2, 1, _, _ => exact absurd h (by decide)
def reg3 (x v : Nat) : Reg := if v = 0 then ([], 0) else ([(x : Int), IntKind.u8.wrap ((v - 1 : Nat) : Int)], v)
def Keep3 (f : ByteArray → Option Reg) (v : Nat → Nat) : Prop := ∀ x, x < 3 → (f (key3 x)).getD ([], 0) = reg3 x (v x)
theorem reg3_ver (x v : Nat) : (reg3 x v).2 = v := by
  unfold reg3
  by_cases h : v = 0 <;> simp [h]
def inc3 (v : Nat → Nat) (x : Nat) : Nat → Nat := fun y => if y = x then v y + 1 else v y
theorem Keep3.put {f g : ByteArray → Option Reg} {v : Nat → Nat} {x : Nat} (hx : x < 3) (h : Keep3 f v) (hg : ∀ k', g k' = if key3 x = k' then some ([(x : Int), IntKind.u8.wrap ((v x : Nat) : Int)], v x + 1) else f k') : Keep3 g (inc3 v x) := fun y hy => by
  rw [hg]
  by_cases e : x = y
  · subst e
    rw [if_pos rfl]
    simp [reg3, inc3]
  · rw [if_neg fun e2 => e (key3_inj hx hy e2), h y hy]
    simp [inc3, Ne.symm e]
theorem Keep3.same {f g : ByteArray → Option Reg} {v : Nat → Nat} (h : Keep3 f v) (hg : ∀ k', g k' = f k') : Keep3 g v := fun y hy => by rw [hg]; exact h y hy
theorem set_comm2 {σ : Hp} {a b : Nat} {o u : Obj} (h : a ≠ b) : (σ.set a o).set b u = (σ.set b u).set a o := by
  funext i
  by_cases ha : i = a
  · have hb : i ≠ b := fun e => h (ha.symm.trans e)
    rw [Hp.set_ne hb, ha, Hp.set_same, Hp.set_same]
  · by_cases hb : i = b
    · rw [hb, Hp.set_same, Hp.set_ne (fun e => h e.symm), Hp.set_same]
    · rw [Hp.set_ne hb, Hp.set_ne ha, Hp.set_ne ha, Hp.set_ne hb]
abbrev now3 (v : Nat → Nat) : Obj := .cells #[.int .u64 (v 0), .int .u64 (v 1), .int .u64 (v 2)] 65 (0, 0)
theorem now3_at {σ : Hp} {b : Nat} {v : Nat → Nat} {x : Nat} (hx : x < 3) : Hp.ld (σ.set b (now3 v)) ⟨b, 0 + x * 1, none⟩ = some (.int .u64 (v x)) := by
  refine ld_of (Hp.set_same _ _ _) ?_
  match x, hx with
  | 0, _ => rfl
  | 1, _ => rfl
  | 2, _ => rfl
def kkEnd (R : Ending → Hp → Prop) (x2 x12 : Int) (q7 p10 : Option Addr) (n10 c10 b11 : Nat) (σ : Hp) : Prop :=
  Spec prog 28 #[(.pointer q7), (.int .i64 x2)] σ (Cont R (fun v σ1 => v = (.tuple #[]) ∧ Spec prog 29 #[(.pointer q7)] σ1 (Cont R (fun v_2 σ1_2 => v_2 = (.tuple #[]) ∧ Spec prog 30 #[(.pointer q7)] σ1_2 (Cont R (fun v_3 σ1_3 => ∃ q101a : Option Addr, ∃ x101b : Int, v_3 = (.tuple #[(.pointer q101a), (.int .i64 x101b)]) ∧ ((x101b : Int) ≠ 0 → R (.returned (.bool false)) σ1_3) ∧ (¬ ((x101b : Int) ≠ 0) → ((Option.isNone q101a) = true → R (.returned (.bool false)) σ1_3) ∧ ((Option.isNone q101a) = false → law12_KvKeeps.pt78 R p10 n10 c10 b11 x12 q101a 0 σ1_3))))))))
section
variable {σ σ' τ τ' ρ ρ' : Hp} {d b s m clock : Nat} {D : Dk} {W : Wl} {rows : List KRow} {R : Ending → Hp → Prop} {b11 b45 : Nat} {v : Nat → Nat}
theorem kk_pt78 {x12 : Int} {w : Nat → Nat} (ht : Tb τ) (hnm : RdC 1 τ (some ⟨b45, 0, none⟩) 3 (keys3.map .string)) (hk : Keep3 (kLook rows) w) (hw : ∀ x, x < 3 → w x = v x ∨ ((x : Int) = x12 ∧ w x = v x + 1)) (hwb : ∀ x, w x < 1099511627776) (hu : D.up = true) (hR : ∀ σ', Ext τ σ' → R (.returned (.bool true)) σ') :
    ∀ (m x : Nat) (σ : Hp), 3 - x = m → x ≤ 3 → KvU σ d b s D W rows τ → σ b11 = none → law12_KvKeeps.pt78 R (some ⟨b45, 0, none⟩) 3 3 b11 x12 (some ⟨s, 0, none⟩) x (σ.set b11 (now3 v)) := by
  intro m
  induction m with
  | zero =>
    intro x σ hm hx h hb
    have hx2 := h.ext.trans (Ext.set hb (o := now3 v))
    exact law12_KvKeeps.pt78_of ⟨fun hh => by omega, fun _ => kv_awake_spec (ht.mono hx2) fun σ' hx' => ⟨_, rfl, hR σ' (hx2.trans hx')⟩⟩
  | succ m ih =>
    intro x σ hm hx h hb
    have hx3 : x < 3 := by omega
    obtain ⟨b118, o118, hp, hl⟩ := RdC.at1 hnm (key3_at hx3)
    cases hp
    have hx2 := h.ext.trans (Ext.set hb (o := now3 v))
    have hg : kGet rows (key3 x) = reg3 x (w x) := hk x hx3
    have hgv : (kGet rows (key3 x)).2 = w x := by rw [hg, reg3_ver]
    refine law12_KvKeeps.pt78_of ⟨fun _ => ⟨b45, 0, rfl, by omega, key3 x, by simpa using hx2.ld hl, Spec.frame1 hb ?_⟩, fun hh => by omega⟩
    refine get_spec h hu (fun hh => by rw [key3_ok] at hh; cases hh) fun _ p n c σ4 ho hx4 hb4 => ⟨p, n, c, _, _, rfl, fun hh => absurd rfl hh, fun _ => ⟨by omega, _, by simpa using now3_at hx3, ?_⟩⟩
    have h4 := h.mono hx4
    have hrd := OwnI.rd (Own.mono ((Ext.of_new _ _).trans (Ext.set hb4 (o := now3 v))) ho)
    rw [hg] at hrd
    have nxt : ∀ σ5, Ext σ4 σ5 → σ5 b11 = none → I64 ((x : Int) + 1) ∧ law12_KvKeeps.pt78 R (some ⟨b45, 0, none⟩) 3 3 b11 x12 (some ⟨s, 0, none⟩) ((x : Int) + 1) (σ5.set b11 (now3 v)) := fun σ5 hx5 hb5 => ⟨by unfold I64; omega, ih (x + 1) σ5 (by omega) (by omega) (h4.mono hx5) hb5⟩
    have fin : ((0 : Int) < (((kGet rows (key3 x)).2 : Nat) : Int) → ∀ x152 : Int, x152 = IntKind.u8.wrap x → ∀ x154 : Int, x154 = IntKind.u64.wrap ((((kGet rows (key3 x)).2 : Nat) : Int) - 1) → ∀ x155 : Int, x155 = IntKind.u8.wrap x154 → ∀ b156 : Nat, (σ4.set b11 (now3 v)) b156 = none → Spec prog 35 #[(.slice p n c), (.slice (some ⟨b156, 0, none⟩) 2 2)] (Hp.set (σ4.set b11 (now3 v)) b156 (.cells #[(.int .u8 x152), (.int .u8 x155)] 5 (0, 0))) (Cont R (fun v_2 σ1_2 => ∃ t157 : Bool, v_2 = (.bool t157) ∧ (t157 = false → R (.returned (.bool false)) σ1_2) ∧ (t157 = true → I64 ((x : Int) + 1) ∧ law12_KvKeeps.pt78 R (some ⟨b45, 0, none⟩) 3 3 b11 x12 (some ⟨s, 0, none⟩) ((x : Int) + 1) σ1_2)))) ∧ (¬ ((0 : Int) < (((kGet rows (key3 x)).2 : Nat) : Int)) → I64 ((x : Int) + 1) ∧ law12_KvKeeps.pt78 R (some ⟨b45, 0, none⟩) 3 3 b11 x12 (some ⟨s, 0, none⟩) ((x : Int) + 1) (σ4.set b11 (now3 v))) := by
      rw [hgv]
      refine ⟨fun hpos x152 h152 x154 h154 x155 h155 b156 hb156 => ?_, fun _ => nxt σ4 (Ext.refl _) hb4⟩
      have e152 : x152 = (x : Int) := by rw [h152]; simp [IntKind.wrap, IntKind.bits, IntKind.signed]; omega
      have hwx := hwb x
      have e154 : x154 = ((w x - 1 : Nat) : Int) := by rw [h154]; simp [IntKind.wrap, IntKind.bits, IntKind.signed]; omega
      have hne : b156 ≠ b11 := fun e => by rw [e, Hp.set_same] at hb156; cases hb156
      rw [Hp.set_ne hne] at hb156
      have hcomm : Hp.set (σ4.set b11 (now3 v)) b156 (.cells #[(.int .u8 x152), (.int .u8 x155)] 5 (0, 0)) = (σ4.set b156 (.cells #[(.int .u8 x152), (.int .u8 x155)] 5 (0, 0))).set b11 (now3 v) := set_comm2 hne.symm
      rw [hcomm]
      have hb5 : (σ4.set b156 (.cells #[(.int .u8 x152), (.int .u8 x155)] 5 (0, 0))) b11 = none := by rw [Hp.set_ne hne.symm]; exact hb4
      have r1 := two_rd (τ := (σ4.set b156 (.cells #[(.int .u8 x152), (.int .u8 x155)] 5 (0, 0))).set b11 (now3 v)) (b := b156) (by rw [Hp.set_ne hne, Hp.set_same])
      have r2 : RdI .u8 ((σ4.set b156 (.cells #[(.int .u8 x152), (.int .u8 x155)] 5 (0, 0))).set b11 (now3 v)) p n (reg3 x (w x)).1 := by
        rw [← hcomm]; exact hrd.mono (.set (by rw [Hp.set_ne hne]; exact hb156))
      refine sameBytes_spec r2 r1 ⟨_, rfl, fun hh => ?_, fun _ => nxt _ (.set hb156) hb5⟩
      exfalso
      rw [decide_eq_false_iff_not] at hh
      apply hh
      rw [reg3, if_neg (by omega), h155, e154, e152]
    refine ⟨fun hne => ?_, fun _ => fin⟩
    rw [hgv] at hne
    rcases hw x hx3 with e | ⟨e1, e2⟩
    · exact absurd (by rw [e]) hne
    · refine ⟨fun _ => ⟨by omega, _, by simpa using now3_at hx3, fun x141 h141 => ?_⟩, fun hh => absurd e1 hh⟩
      have hwx := hwb x
      have e141 : x141 = ((w x : Nat) : Int) := by rw [h141, e2]; simp [IntKind.wrap, IntKind.bits, IntKind.signed]; omega
      exact ⟨fun hh => absurd (by rw [hgv, e141]) hh, fun _ => fin⟩
theorem prefix_all' {α : Type} {t l : List α} (h : t <+: l) (hl : l.length ≤ t.length) : t = l := h.eq_of_length (by have := h.length_le; omega)
def Left3 (fs : Fs) (cnt : Nat) (x12 : Int) (v : Nat → Nat) : Prop :=
  ∃ ts w, OpenOk fs dkv cnt (ts.map recR) ∧ GoodT ts ∧ ts.length ≤ 4194304 ∧ Few ⟨fs, true, false, cnt⟩ ∧ Keep3 (lastOf ts) w ∧ (∀ x, x < 3 → w x = v x ∨ ((x : Int) = x12 ∧ w x = v x + 1)) ∧ ∀ x, w x < 1099511627776
theorem kk_end {x2 x12 : Int} (ht : Tb τ) (hnm : RdC 1 τ (some ⟨b45, 0, none⟩) 3 (keys3.map .string)) (h : DiskU σ d D τ) (hb : σ b11 = none) (harm : D.up = false → D.armed = false) (h0 : D.up = false → Left3 D.files D.cnt x12 v) (h1 : D.up = true → ∀ gs, Crash D.files gs → Left3 gs D.cnt x12 v) (hc : D.cnt < 67108863) (hR : ∀ σ', Ext τ σ' → R (.returned (.bool true)) σ') :
    kkEnd R x2 x12 (some ⟨d, 0, none⟩) (some ⟨b45, 0, none⟩) 3 3 b11 (σ.set b11 (now3 v)) := by
  have go : ∀ σ1 fs up, DiskU σ1 d ⟨fs, up, false, D.cnt⟩ τ → σ1 b11 = none → Left3 fs D.cnt x12 v → Spec prog 29 #[(.pointer (some ⟨d, 0, none⟩))] (σ1.set b11 (now3 v)) (Cont R (fun v_2 σ1_2 => v_2 = (.tuple #[]) ∧ Spec prog 30 #[(.pointer (some ⟨d, 0, none⟩))] σ1_2 (Cont R (fun v_3 σ1_3 => ∃ q101a : Option Addr, ∃ x101b : Int, v_3 = (.tuple #[(.pointer q101a), (.int .i64 x101b)]) ∧ ((x101b : Int) ≠ 0 → R (.returned (.bool false)) σ1_3) ∧ (¬ ((x101b : Int) ≠ 0) → ((Option.isNone q101a) = true → R (.returned (.bool false)) σ1_3) ∧ ((Option.isNone q101a) = false → law12_KvKeeps.pt78 R (some ⟨b45, 0, none⟩) 3 3 b11 x12 q101a 0 σ1_3)))))) := fun σ1 fs up hd hb1 ⟨ts, w, ho, hg, hbig, hfew, hk, hw, hwb⟩ =>
    Spec.frame1 hb1 (hd.onS fun σ2 h2 hb2 => ⟨rfl, Spec.frame1 hb2 (kv_open_spec (hfew := hfew) h2 ht rfl rfl (by show D.cnt < _; omega) ho hg hbig fun s b σ3 W rows fs' cnt' h3 hl _ _ _ _ _ _ _ _ hb3 => ⟨_, _, rfl, fun hh => absurd rfl hh, fun _ => ⟨fun hh => (by cases hh), fun _ => kk_pt78 ht hnm (hk.same hl) hw hwb rfl hR 3 0 σ3 rfl (by omega) h3 hb3⟩⟩)⟩)
  refine Spec.frame1 hb (h.offS (fun hu hk => ⟨rfl, ?_⟩) fun hu σ1 gs hg _ hd hk => ⟨rfl, go σ1 gs false hd hk (h1 hu gs hg)⟩)
  have ha := harm hu
  have hl := h0 hu
  obtain ⟨fs, up, arm, cnt⟩ := D
  simp only at ha
  subst ha
  exact go σ fs up h hk hl
theorem KvU.armS {x y : Int} (h : KvU σ d b s D W rows τ) (hR : ∀ σ' a, KvU σ' d b s { D with armed := a } W rows τ → R (.returned (.tuple #[])) σ') : Spec prog disk_Disk_Arm.fid #[.pointer (some ⟨d, 0, none⟩), .int .i64 x, .int .i64 y] σ R := by
  obtain ⟨ρ, m, cl, h1, h2⟩ := h
  exact h1.armS fun σ' a h3 => hR σ' a ⟨ρ, m, cl, h3, h2⟩
variable {p0 : Option Addr} {n0 c0 : Nat} {zs : List Int}
theorem kk_left {ts : List Rec} (ho : KvOk D W rows ts) (hk : Keep3 (kLook rows) v) (hl : ts.length ≤ 4194304) (hv : ∀ x, v x < 1099511627776) (x12 : Int) : ∀ gs, Crash D.files gs → Left3 gs D.cnt x12 v := fun gs hg => by
  obtain ⟨rc, sg, hlog, htold⟩ := ho.log
  obtain ⟨t, g1, g2, g3⟩ := hlog.crash hg
  rw [htold] at g2
  have e : t = ts.map recR := prefix_all' g2 (by simpa using g3)
  rw [e, ho.dir] at g1
  exact ⟨ts, v, g1, ho.good, hl, (kvF_few (D := D) ho.ex (by have := ho.sml; omega)).sub (Nat.le_refl _) fun s hs => hg.isS hs, hk.same fun k => (ho.look k).symm, fun x _ => .inl rfl, hv⟩
theorem now3_wrt {x : Nat} (hx : x < 3) (v : Nat → Nat) : wrt #[.int .u64 (v 0), .int .u64 (v 1), .int .u64 (v 2)] (0 + x * 1) [.int .u64 ((v x + 1 : Nat) : Int)] = #[.int .u64 (inc3 v x 0), .int .u64 (inc3 v x 1), .int .u64 (inc3 v x 2)] := by
  match x, hx with
  | 0, _ => rfl
  | 1, _ => rfl
  | 2, _ => rfl
theorem inc3_same (v : Nat → Nat) (x : Nat) : inc3 v x x = v x + 1 := by simp [inc3]
theorem inc3_le {v : Nat → Nat} {x m : Nat} (h : ∀ y, v y ≤ m) (y : Nat) : inc3 v x y ≤ m + 1 := by
  have := h y
  unfold inc3; split <;> omega
theorem kk_pt29 {x2 : Int} (ht : Tb τ) (hnm : RdC 1 τ (some ⟨b45, 0, none⟩) 3 (keys3.map .string)) (hz : RdI .i64 τ p0 n0 zs) (hn : n0 ≤ 1048576) (hR : ∀ σ', Ext τ σ' → R (.returned (.bool true)) σ') :
    ∀ (m i : Nat) (σ : Hp) (D : Dk) (W : Wl) (rows : List KRow) (ts : List Rec) (v : Nat → Nat), n0 - i = m → i ≤ n0 → KvU σ d b s D W rows τ → KvOk D W rows ts → KvSm keys3 rows → Keep3 (kLook rows) v → (∀ x, v x ≤ i) → D.cnt ≤ 2 * i → ts.length ≤ i + 9 → σ b11 = none → law12_KvKeeps.pt29 R p0 n0 c0 x2 (some ⟨d, 0, none⟩) (some ⟨s, 0, none⟩) (some ⟨b45, 0, none⟩) 3 3 b11 (-1) i (σ.set b11 (now3 v)) := by
  have hzl : zs.length = n0 := hz.1
  intro m
  induction m with
  | zero =>
    intro i σ D W rows ts v hm hi h ho hs hk hv hc hl hb
    have hvb : ∀ x, v x < 1099511627776 := fun x => by have := hv x; omega
    exact law12_KvKeeps.pt29_of ⟨fun hh => by omega, fun _ => kk_end ht hnm h.disk hb (fun hh => by rw [ho.up] at hh; cases hh) (fun hh => by rw [ho.up] at hh; cases hh) (fun _ => kk_left ho hk (by omega) hvb _) (by omega) hR⟩
  | succ m ih =>
    intro i σ D W rows ts v hm hi h ho hs hk hv hc hl hb
    have hvb : ∀ x, v x < 1099511627776 := fun x => by have := hv x; omega
    obtain ⟨b58, o58, hp, hld⟩ := RdI.at hz (List.getElem?_eq_getElem (by omega : i < zs.length))
    cases hp
    have hx0 := h.ext.trans (Ext.set hb (o := now3 v))
    refine law12_KvKeeps.pt29_of ⟨fun _ => ⟨fun _ => ⟨b58, o58, rfl, by omega, _, by simpa using hx0.ld hld, low_spec fun y hy0 hy1 => ⟨y, rfl, by decide, fun x61 hx61 => ?_⟩⟩, fun hh => by omega⟩, fun hh => by omega⟩
    have hr := tmod_room (x := y) (n := 2) hy0 (by omega)
    rw [show (2 : Int) + 1 = 3 from rfl, ← hx61] at hr
    obtain ⟨k, rfl⟩ : ∃ k : Nat, x61 = k := ⟨x61.toNat, by omega⟩
    have hk3 : k < 3 := by omega
    obtain ⟨b66, o66, hp, hlk⟩ := RdC.at1 hnm (key3_at hk3)
    cases hp
    have hvk := hv k
    refine ⟨b45, 0, rfl, by omega, key3 k, by simpa using hx0.ld hlk, fun x69 h69 => ⟨by omega, _, by simpa using now3_at hk3, fun x73 h73 => ⟨by omega, _, by simpa using now3_at hk3, fun b74 hb74 => ?_⟩⟩⟩
    have e69 : x69 = (k : Int) := by rw [h69]; simp [IntKind.wrap, IntKind.bits, IntKind.signed]; omega
    have h73r : 0 ≤ x73 ∧ x73 < 256 := by rw [h73]; simp [IntKind.wrap, IntKind.bits, IntKind.signed]; omega
    have hne : b74 ≠ b11 := fun e => by rw [e, Hp.set_same] at hb74; cases hb74
    rw [Hp.set_ne hne] at hb74
    rw [set_comm2 hne.symm]
    have hb1 : (σ.set b74 (.cells #[(.int .u8 x69), (.int .u8 x73)] 5 (0, 0))) b11 = none := by rw [Hp.set_ne hne.symm]; exact hb
    obtain ⟨τ1, h1, x1, t1⟩ := h.box (o := .cells #[(.int .u8 x69), (.int .u8 x73)] 5 (0, 0)) hb74
    have hg : (kGet rows (key3 k)).2 = v k := by rw [show kGet rows (key3 k) = reg3 k (v k) from hk k hk3, reg3_ver]
    have nxt : ∀ (x12 : Int) σ', I64 ((i : Int) + 1) → law12_KvKeeps.pt29 R (some ⟨b58, o58, none⟩) n0 c0 x2 (some ⟨d, 0, none⟩) (some ⟨s, 0, none⟩) (some ⟨b45, 0, none⟩) 3 3 b11 x12 ((i : Int) + 1) σ' → law12_KvKeeps.pt56 R (some ⟨b58, o58, none⟩) n0 c0 x2 (some ⟨d, 0, none⟩) (some ⟨s, 0, none⟩) (some ⟨b45, 0, none⟩) 3 3 b11 x12 i σ' := fun x12 σ' h0 h1 => law12_KvKeeps.pt56_of ⟨h0, h1⟩
    have hI : I64 ((i : Int) + 1) := by unfold I64; omega
    refine Spec.frame1 hb1 (set_spec (K := keys3) (k := key3 k) (v := v k) h1 (ht.mono x1) ho hs (by decide) (key3_ok k) (key3_mem k) (two_rd t1) (fun a ha => by simp at ha; omega) (by simp) (by omega) (by omega) (fun hh => absurd hg hh) (fun _ σ3 D3 W3 rows3 ts3 h3 ho3 hs3 hl3 a3 k3 _ hb3 => ⟨_, _, rfl, fun hh => absurd rfl hh, fun _ => ⟨by omega, _, by simpa using now3_at hk3, fun x87 h87 => ⟨by omega, Eff.store size56 (Hp.set_same _ _ _) rfl (by simp; omega) (by simp [Value.cells, Value.oneCell']) ?_⟩⟩⟩) (fun harm σ3 D3 ts3 h3 u3 a3 c3 f3 o3 g3 l3 w3 hb3 => ⟨_, _, rfl, fun _ => nxt _ _ hI ?_, fun hh => absurd (by decide) hh⟩))
    · have e87 : x87 = ((v k + 1 : Nat) : Int) := by rw [h87]; simp [IntKind.wrap, IntKind.bits, IntKind.signed]; omega
      rw [e87]
      simp only [Value.cells, Int.toNat_natCast]
      rw [now3_wrt hk3, Hp.set_set]
      refine ⟨by omega, _, by simpa using now3_at (v := inc3 v k) hk3, fun hh => absurd (by rw [inc3_same]) hh, fun _ => nxt _ _ hI ?_⟩
      have := ih (i + 1) σ3 D3 W3 rows3 ts3 (inc3 v k) (by omega) (by omega) (h3.weak x1) ho3 hs3 (hk.put hk3 fun k' => by rw [hl3, e69, h73]) (fun x => inc3_le hv x) (by omega) (by omega) hb3
      simpa using this
    · have hgo : Left3 D3.files D3.cnt (k : Int) v := by
        rcases w3 with hw | hw
        · exact ⟨ts3, v, o3, g3, by omega, by simpa [Few, u3, a3] using f3, hk.same hw, fun x _ => .inl rfl, hvb⟩
        · refine ⟨ts3, inc3 v k, o3, g3, by omega, by simpa [Few, u3, a3] using f3, hk.put hk3 fun k' => by rw [hw, e69, h73], fun x _ => ?_, fun x => by have := inc3_le (x := k) hv x; omega⟩
          by_cases e : x = k
          · subst e; exact .inr ⟨rfl, inc3_same _ _⟩
          · exact .inl (by simp [inc3, e])
      refine law12_KvKeeps.pt29_of ⟨fun _ => ⟨fun hh => by omega, fun _ => ?_⟩, fun _ => ?_⟩ <;>
      exact kk_end ht hnm (h3.weak x1) hb3 (fun _ => a3) (fun _ => hgo) (fun hh => by rw [u3] at hh; cases hh) (by omega) hR
theorem kvKeeps_spec {x1 x2 : Int} (ht : Tb σ) (hz : RdI .i64 σ p0 n0 zs) (hn : n0 ≤ 1048576) (hR : ∀ σ', Ext σ σ' → R (.returned (.bool true)) σ') :
    Spec prog law12_KvKeeps.fid #[.slice p0 n0 c0, .int .i64 x1, .int .i64 x2] σ R := by
  refine law12_KvKeeps.start (disk_new_spec fun d σ1 S1 hd1 hx1 => ⟨_, rfl, ?_⟩)
  have h1 : DiskU σ1 d ⟨fun _ => none, true, false, 0⟩ σ := ⟨S1, hd1, hx1⟩
  refine kv_open_new h1 ht rfl rfl rfl (fun _ => rfl) fun s b σ2 W fs' h2 ho2 hfs => ⟨_, _, rfl, fun hh => absurd rfl hh, fun _ => ⟨fun hh => (by cases hh), fun _ => ?_⟩⟩
  refine low_spec fun y hy0 hy1 => ⟨y, rfl, by unfold I64; omega, by unfold I64; omega, by omega, fun x42 _ => ?_⟩
  refine h2.armS fun σ3 a h3 => ⟨rfl, fun b45 hb45 b11 hb11 => ?_⟩
  obtain ⟨τ4, h4, x4, t4⟩ := h3.box (o := .cells #[.string ka, .string kb, .string kc3] 9 (0, 0)) hb45
  have hnm : RdC 1 τ4 (some ⟨b45, 0, none⟩) 3 (keys3.map .string) := ⟨rfl, by omega, .inr ⟨b45, 0, rfl, ld_of t4 rfl, ld_of t4 rfl, ld_of t4 rfl, trivial⟩⟩
  have ho3 : KvOk { dk fs' 0 with armed := a } W [] [] := ⟨ho2.up, ho2.dir, ho2.log, ho2.good, ho2.look, ho2.new, ho2.ex, ho2.sml⟩
  have := kk_pt29 (R := R) (c0 := c0) (x2 := x2) (b11 := b11) (ht.mono x4) hnm (hz.mono x4) hn (fun σ' hx => hR σ' (x4.trans hx)) n0 0 _ _ W [] [] (fun _ => 0) rfl (by omega) h4 ho3 KvSm.nil (fun x hx => by rfl) (fun x => Nat.le_refl _) (by show 0 ≤ _; omega) (by simp) hb11
  exact this
end
end TwW
end
