/-
  Part 6 of the proof that the law KvManyUptoCardSaid of the given program answers true for every input of the given statement; the input reads behind the call as it did. (The texts: HT KI.)
-/
import Derived.Test.YtchjlpgaanjafaaGreatDoorA5
set_option linter.all false
section
/- written by gen.py: program points and what leads to them -/
set_option linter.unusedVariables false
set_option maxRecDepth 100000
namespace TwW
open Go Tw Go.Proofs.Tryz
noncomputable section
namespace law12_KvMany
abbrev fid : Nat := 9
noncomputable def K0 := f9.body.getD .skip
def K1 := cl K0
def K2 := cr K0
def K3 := cl K2
def K4 := cr K2
def K5 := cl K4
def K6 := cr K4
def K7 := cl K6
def K8 := cl K7
def K9 := cr K7
def K10 := cl K9
def K11 := cl K10
def K12 := cr K10
def K13 := cr K9
def K14 := cr K6
def K15 := cl K14
def K16 := cr K14
def K17 := cl K16
def K18 := cl K17
def K19 := cr K17
def K20 := cl K19
def K21 := cl K20
def K22 := cl K21
def K23 := cl K22
def K24 := cr K22
def K25 := cl K24
def K26 := cr K24
def K27 := cr K21
def K28 := cl K27
def K29 := cl K28
def K30 := cl K29
def K31 := cr K29
def K32 := cl K31
def K33 := cr K31
def K34 := cl K33
def K35 := cl K34
def K36 := cr K34
def K37 := cr K33
def K38 := cr K27
def K39 := cr K16
def K40 := cl K39
def K41 := cr K39
def K42 := cl K41
def K43 := cr K41
def K44 := cl K43
def K45 := cl K44
def K46 := cr K44
def K47 := cl K46
def K48 := cl K47
def K49 := cr K47
def K50 := cr K46
def K51 := cr K43
def K52 := cl K51
def K53 := cl K52
def K54 := cr K52
def K55 := cl K54
def K56 := cl K55
def K57 := cl K56
def K58 := cl K57
def K59 := cr K57
def K60 := cl K59
def K61 := cr K59
def K62 := cr K56
def K63 := cl K62
def K64 := cl K63
def K65 := cl K64
def K66 := cr K64
def K67 := cl K66
def K68 := cl K67
def K69 := cr K67
def K70 := cl K69
def K71 := cr K69
def K72 := cr K66
def K73 := cl K72
def K74 := cr K72
def K75 := cl K74
def K76 := cr K74
def K77 := cl K76
def K78 := cl K77
def K79 := cr K77
def K80 := cr K76
def K81 := cr K62
def K82 := cr K51
def K83 := cl K82
def K84 := cr K82
abbrev gl (R : Ending → Hp → Prop) : Gl := Gl.fn prog 9 138 R
def pt23 (R : Ending → Hp → Prop) (p1 : Option Addr) (n1 c1 : Nat) (q5 q6 : Option Addr) (x8 x9 : Int) (σ : Hp) : Prop := ∀ (J : Env), At (gl R) [.code K23, .code K24, .code K27, .inLoop K21, .inBlock 0, .code K39] (upds J [(1, (.slice p1 n1 c1)), (5, (.pointer q5)), (6, (.pointer q6)), (8, (.int .i64 x8)), (9, (.int .i64 x9))]) [] σ
def pt58 (R : Ending → Hp → Prop) (p1 : Option Addr) (n1 c1 : Nat) (x8 : Int) (q13 : Option Addr) (x15 : Int) (σ : Hp) : Prop := ∀ (J : Env), At (gl R) [.code K58, .code K59, .code K62, .inLoop K56, .inBlock 2, .code K82] (upds J [(1, (.slice p1 n1 c1)), (8, (.int .i64 x8)), (13, (.pointer q13)), (15, (.int .i64 x15))]) [] σ
def pt73 (R : Ending → Hp → Prop) (p1 : Option Addr) (n1 c1 : Nat) (x8 : Int) (q13 : Option Addr) (x15 x16 : Int) (σ : Hp) : Prop := ∀ (J : Env), At (gl R) [.code K73, .code K74, .inBlock 3, .code K81, .inLoop K56, .inBlock 2, .code K82] (upds J [(1, (.slice p1 n1 c1)), (8, (.int .i64 x8)), (13, (.pointer q13)), (15, (.int .i64 x15)), (16, (.int .i64 x16))]) [] σ
theorem start {R : Ending → Hp → Prop} {x0 : Int} {p1 : Option Addr} {n1 c1 : Nat} {σ : Hp} (h : Spec prog 11 #[] σ (Cont R (fun v σ1 => ∃ q20 : Option Addr, v = (.pointer q20) ∧ Spec prog 30 #[(.pointer q20)] σ1 (Cont R (fun v_2 σ1_2 => ∃ q23a : Option Addr, ∃ x23b : Int, v_2 = (.tuple #[(.pointer q23a), (.int .i64 x23b)]) ∧ ((x23b : Int) ≠ 0 → ((Option.isSome q23a) = true → Spec prog 34 #[] σ1_2 (Cont R (fun v_3 σ1_3 => ∃ t40 : Bool, v_3 = (.bool t40) ∧ R (.returned (.bool t40)) σ1_3))) ∧ ((Option.isSome q23a) = false → R (.returned (.bool false)) σ1_2)) ∧ (¬ ((x23b : Int) ≠ 0) → ((Option.isNone q23a) = true → ((Option.isSome q23a) = true → Spec prog 34 #[] σ1_2 (Cont R (fun v_3 σ1_3 => ∃ t40 : Bool, v_3 = (.bool t40) ∧ R (.returned (.bool t40)) σ1_3))) ∧ ((Option.isSome q23a) = false → R (.returned (.bool false)) σ1_2)) ∧ ((Option.isNone q23a) = false → ((2000 : Int) < (n1 : Int) → ((Option.isSome q23a) = true → Spec prog 34 #[] σ1_2 (Cont R (fun v_3 σ1_3 => ∃ t40 : Bool, v_3 = (.bool t40) ∧ R (.returned (.bool t40)) σ1_3))) ∧ ((Option.isSome q23a) = false → R (.returned (.bool false)) σ1_2)) ∧ (¬ ((2000 : Int) < (n1 : Int)) → Spec prog 20 #[(.int .i64 x0)] σ1_2 (Cont R (fun v_3 σ1_3 => ∃ x43 : Int, v_3 = (.int .i64 x43) ∧ 400 ≠ (0 : Int) ∧ ∀ x44 : Int, x44 = Int.tmod x43 400 → pt23 R p1 n1 c1 q20 q23a x44 0 σ1_3)))))))))) : Spec prog 9 #[(.int .i64 x0), (.slice p1 n1 c1)] σ R := by
 refine Spec.of_at (fn := f9) (c := K0) func9 (by kernel_rfl) (Nat.le_of_ble_eq_true (by kernel_rfl)) (fun e he => ?_)
 refine At.ofL (l := [(0, (.int .i64 x0)), (1, (.slice p1 n1 c1))]) ⟨he 0, he 1, trivial⟩ (fun J => ?_)
 show At (gl R) _ _ _ _
 refine At.s K1 K2 ?_
 refine At.rg 0 [0] ?_
 refine Seq.u 4 (.bool false) ?_
 refine Seq.done ?_
 refine At.s K3 K4 ?_
 refine At.rg 1 [0, 1] ?_
 refine Seq.o ?_
 refine OpTo.cl (some 20) call11 (h.cont fun v σ1 h2 => ?_); replace h := h2; clear h2
 obtain ⟨q20, rfl, h⟩ := h
 refine Seq.u 5 (.pointer q20) ?_
 refine Seq.done ?_
 refine At.s K5 K6 ?_
 refine At.rg 2 [0, 1, 2, 3, 4, 5, 6] ?_
 refine Seq.u 22 (.pointer q20) ?_
 refine Seq.o ?_
 refine OpTo.cl (some 23) call30 (h.cont fun v_2 σ1_2 h2 => ?_); replace h := h2; clear h2
 obtain ⟨q23a, x23b, rfl, h⟩ := h
 refine Seq.us [(21, .tuple #[(.pointer q23a), (.int .i64 x23b)]), (24, .pointer q23a), (25, .int .i64 x23b), (6, .pointer q23a), (7, .int .i64 x23b)] ?_
 refine Seq.done ?_
 refine At.s K7 K14 ?_
 refine At.s K8 K9 ?_
 refine At.rg 3 [0, 1, 2, 3, 4, 5, 6, 7, 8, 9, 10] ?_
 refine Seq.us [(26, .int .i64 x23b), (27, .bool (decide ((x23b : Int) ≠ 0))), (28, .bool (decide ((x23b : Int) ≠ 0)))] ?_
 cases hb : (decide ((x23b : Int) ≠ 0)) with
 | true =>
  replace h := h.1 (of_decide_eq_true hb)
  refine Seq.n 29 ?_
  refine Seq.n 30 ?_
  refine Seq.us [(31, .bool true), (32, .bool true)] ?_
  refine Seq.n 33 ?_
  refine Seq.n 34 ?_
  refine Seq.n 35 ?_
  refine Seq.u 36 (.bool true) ?_
  refine Seq.done ?_
  refine At.cT 36 K10 K13 ?_
  refine At.s K11 K12 ?_
  refine At.rg 4 [0, 1, 2, 3, 4, 5] ?_
  refine Seq.u 37 (.pointer q23a) ?_
  refine Seq.z 38 (.binOp .neq 53 (.tmp 37) (.const (.pointer none)) 53) 4 (.bool (Option.isSome q23a)) (Y.neqNil underlying53 rfl rfl) ?_
  refine Seq.u 39 (.bool (Option.isSome q23a)) ?_
  cases hb : (Option.isSome q23a) with
  | true =>
   replace h := h.1 hb
   refine Seq.o ?_
   refine OpTo.cl (some 40) call34 (h.cont fun v_3 σ1_3 h2 => ?_); replace h := h2; clear h2
   obtain ⟨t40, rfl, h⟩ := h
   refine Seq.us [(41, .bool t40), (4, .bool t40)] ?_
   refine Seq.done ?_
   exact At.rt [.tmp 4] [(.bool t40)] func9 ⟨_, rfl, rfl⟩ h
  | false =>
   replace h := h.2 hb
   refine Seq.n 40 ?_
   refine Seq.us [(41, .bool false), (4, .bool false)] ?_
   refine Seq.done ?_
   exact At.rt [.tmp 4] [(.bool false)] func9 ⟨_, rfl, rfl⟩ h
 | false =>
  replace h := h.2 (of_decide_eq_false hb)
  refine Seq.u 29 (.pointer q23a) ?_
  refine Seq.zg 30 (.binOp .eql 53 (.tmp 29) (.const (.pointer none)) 53) 4 (2, false) (.bool (Option.isNone q23a)) (Y.eqlNil underlying53 rfl rfl) ?_
  refine Seq.us [(31, .bool (Option.isNone q23a)), (32, .bool (Option.isNone q23a))] ?_
  cases hb : (Option.isNone q23a) with
  | true =>
   replace h := h.1 hb
   refine Seq.n 33 ?_
   refine Seq.n 34 ?_
   refine Seq.n 35 ?_
   refine Seq.u 36 (.bool true) ?_
   refine Seq.done ?_
   refine At.L [(0, (.int .i64 x0)), (1, (.slice p1 n1 c1)), (5, (.pointer q20)), (6, (.pointer q23a)), (36, (.bool true))] fun J => ?_
   refine At.cT 36 K10 K13 ?_
   refine At.s K11 K12 ?_
   refine At.rg 4 [0, 1, 2, 3, 4, 5] ?_
   refine Seq.u 37 (.pointer q23a) ?_
   refine Seq.z 38 (.binOp .neq 53 (.tmp 37) (.const (.pointer none)) 53) 4 (.bool (Option.isSome q23a)) (Y.neqNil underlying53 rfl rfl) ?_
   refine Seq.u 39 (.bool (Option.isSome q23a)) ?_
   cases hb : (Option.isSome q23a) with
   | true =>
    replace h := h.1 hb
    refine Seq.o ?_
    refine OpTo.cl (some 40) call34 (h.cont fun v_3 σ1_3 h2 => ?_); replace h := h2; clear h2
    obtain ⟨t40, rfl, h⟩ := h
    refine Seq.us [(41, .bool t40), (4, .bool t40)] ?_
    refine Seq.done ?_
    exact At.rt [.tmp 4] [(.bool t40)] func9 ⟨_, rfl, rfl⟩ h
   | false =>
    replace h := h.2 hb
    refine Seq.n 40 ?_
    refine Seq.us [(41, .bool false), (4, .bool false)] ?_
    refine Seq.done ?_
    exact At.rt [.tmp 4] [(.bool false)] func9 ⟨_, rfl, rfl⟩ h
  | false =>
   replace h := h.2 hb
   refine Seq.u 33 (.slice p1 n1 c1) ?_
   refine Seq.zg 34 (.call { callee := .builtin .len, args := #[(.tmp 33)], argTypes := #[23] }) 3 (6, false) (.int .i64 (n1 : Int)) (Y.lenS underlying23 rfl rfl) ?_
   refine Seq.us [(35, .bool (decide ((2000 : Int) < (n1 : Int)))), (36, .bool (decide ((2000 : Int) < (n1 : Int))))] ?_
   refine Seq.done ?_
   cases hb : (decide ((2000 : Int) < (n1 : Int))) with
   | true =>
    replace h := h.1 (of_decide_eq_true hb)
    refine At.cT 36 K10 K13 ?_
    refine At.s K11 K12 ?_
    refine At.rg 4 [0, 1, 2, 3, 4, 5] ?_
    refine Seq.u 37 (.pointer q23a) ?_
    refine Seq.z 38 (.binOp .neq 53 (.tmp 37) (.const (.pointer none)) 53) 4 (.bool (Option.isSome q23a)) (Y.neqNil underlying53 rfl rfl) ?_
    refine Seq.u 39 (.bool (Option.isSome q23a)) ?_
    cases hb : (Option.isSome q23a) with
    | true =>
     replace h := h.1 hb
     refine Seq.o ?_
     refine OpTo.cl (some 40) call34 (h.cont fun v_3 σ1_3 h2 => ?_); replace h := h2; clear h2
     obtain ⟨t40, rfl, h⟩ := h
     refine Seq.us [(41, .bool t40), (4, .bool t40)] ?_
     refine Seq.done ?_
     exact At.rt [.tmp 4] [(.bool t40)] func9 ⟨_, rfl, rfl⟩ h
    | false =>
     replace h := h.2 hb
     refine Seq.n 40 ?_
     refine Seq.us [(41, .bool false), (4, .bool false)] ?_
     refine Seq.done ?_
     exact At.rt [.tmp 4] [(.bool false)] func9 ⟨_, rfl, rfl⟩ h
   | false =>
    replace h := h.2 (of_decide_eq_false hb)
    refine At.cF 36 K10 K13 ?_
    refine At.skip ?_
    refine At.s K15 K16 ?_
    refine At.rg 5 [0, 1, 2, 3] ?_
    refine Seq.u 42 (.int .i64 x0) ?_
    refine Seq.o ?_
    refine OpTo.cl (some 43) call20 (h.cont fun v_3 σ1_3 h2 => ?_); replace h := h2; clear h2
    obtain ⟨x43, rfl, h⟩ := h
    obtain ⟨hc, h⟩ := h
    obtain ⟨x44, hwx44⟩ : ∃ y, y = Int.tmod x43 400 := ⟨_, rfl⟩
    replace h := h x44 hwx44
    refine Seq.y (d := (some 44)) (op := (.binOp .rem 3 (.tmp 43) (.const (.int .i64 400)) 3)) (ty := 3) (v := (.int .i64 x44)) (by kernel_rfl) rfl (hwx44 ▸ Y.rem hc rfl rfl) ?_
    refine Seq.u 8 (.int .i64 x44) ?_
    refine Seq.done ?_
    refine At.s K17 K39 ?_
    refine At.s K18 K19 ?_
    refine At.rg 6 [0] ?_
    refine Seq.u 9 (.int .i64 0) ?_
    refine Seq.done ?_
    refine At.b 0 K20 ?_
    refine At.loop (x := K21) (by kernel_rfl) ?_
    refine At.s K22 K27 ?_
    refine At.s K23 K24 ?_
    exact At.v [(1, (.slice p1 n1 c1)), (5, (.pointer q20)), (6, (.pointer q23a)), (8, (.int .i64 x44)), (9, (.int .i64 0))] (h _)
theorem pt23_of {R : Ending → Hp → Prop} {p1 q5 q6 : Option Addr} {n1 c1 : Nat} {x8 x9 : Int} {σ : Hp} (h : ((x9 : Int) < x8 → 2 ≠ (0 : Int) ∧ ∀ x54 : Int, x54 = Int.tmod x9 2 → ∀ x60 : Int, x60 = IntKind.u8.wrap x9 → 2 ≠ (0 : Int) ∧ ∀ x64 : Int, x64 = IntKind.i64.wrap (Int.tdiv x9 2) → ∀ x65 : Int, x65 = IntKind.u64.wrap x64 → (∀ b52 : Nat, σ b52 = none → ((0 : Int) ≤ x54 ∧ x54 < 2) ∧ ∃ s56 : ByteArray, Hp.ld (Hp.set σ b52 (.cells #[(.string (ByteArray.mk #[97])), (.string (ByteArray.mk #[98]))] 9 (0, 0))) ⟨b52, (0 + Int.toNat x54 * 1), none⟩ = some (.string s56) ∧ (Spec prog 14 #[(.slice p1 n1 c1)] (Hp.set σ b52 (.cells #[(.string (ByteArray.mk #[97])), (.string (ByteArray.mk #[98]))] 9 (0, 0))) (Cont R (fun v σ1 => ∃ p58 : Option Addr, ∃ n58 : Nat, ∃ c58 : Nat, v = (.slice p58 n58 c58) ∧ Kp [b52] (Hp.set σ b52 (.cells #[(.string (ByteArray.mk #[97])), (.string (ByteArray.mk #[98]))] 9 (0, 0))) σ1 ∧ ∀ b61 : Nat, σ1 b61 = none → Eff prog (Builtin.append_ #[23, 23] 23 #[(.slice p58 n58 c58), (.slice (some ⟨b61, 0, none⟩) 1 1)]) (Hp.set σ1 b61 (.cells #[(.int .u8 x60)] 5 (0, 0))) (fun v_2 σ1_2 => ∃ p62 : Option Addr, ∃ n62 : Nat, ∃ c62 : Nat, v_2 = (.slice p62 n62 c62) ∧ Kp [b52] (Hp.set σ1 b61 (.cells #[(.int .u8 x60)] 5 (0, 0))) σ1_2 ∧ Spec prog 32 #[(.pointer q6), (.string s56), (.slice p62 n62 c62), (.int .u64 x65)] σ1_2 (Cont R (fun v_3 σ1_3 => ∃ x66a : Int, ∃ x66b : Int, v_3 = (.tuple #[(.int .u64 x66a), (.int .i64 x66b)]) ∧ ((x66b : Int) ≠ 0 → R (.returned (.bool false)) σ1_3) ∧ (¬ ((x66b : Int) ≠ 0) → I64 (x9 + 1) ∧ pt23 R p1 n1 c1 q5 q6 x8 ((x9 + 1)) σ1_3))))))) ∧ (∀ b61 : Nat, (Hp.set σ b52 (.cells #[(.string (ByteArray.mk #[97])), (.string (ByteArray.mk #[98]))] 9 (0, 0))) b61 = none → Spec prog 14 #[(.slice p1 n1 c1)] (Hp.set (Hp.set σ b52 (.cells #[(.string (ByteArray.mk #[97])), (.string (ByteArray.mk #[98]))] 9 (0, 0))) b61 (.cells #[(.int .u8 x60)] 5 (0, 0))) (Cont R (fun v σ1 => ∃ p58 : Option Addr, ∃ n58 : Nat, ∃ c58 : Nat, v = (.slice p58 n58 c58) ∧ Kp [b52] (Hp.set (Hp.set σ b52 (.cells #[(.string (ByteArray.mk #[97])), (.string (ByteArray.mk #[98]))] 9 (0, 0))) b61 (.cells #[(.int .u8 x60)] 5 (0, 0))) σ1 ∧ Eff prog (Builtin.append_ #[23, 23] 23 #[(.slice p58 n58 c58), (.slice (some ⟨b61, 0, none⟩) 1 1)]) σ1 (fun v_2 σ1_2 => ∃ p62 : Option Addr, ∃ n62 : Nat, ∃ c62 : Nat, v_2 = (.slice p62 n62 c62) ∧ Kp [b52] σ1 σ1_2 ∧ Spec prog 32 #[(.pointer q6), (.string s56), (.slice p62 n62 c62), (.int .u64 x65)] σ1_2 (Cont R (fun v_3 σ1_3 => ∃ x66a : Int, ∃ x66b : Int, v_3 = (.tuple #[(.int .u64 x66a), (.int .i64 x66b)]) ∧ ((x66b : Int) ≠ 0 → R (.returned (.bool false)) σ1_3) ∧ (¬ ((x66b : Int) ≠ 0) → I64 (x9 + 1) ∧ pt23 R p1 n1 c1 q5 q6 x8 ((x9 + 1)) σ1_3)))))))) ∧ (Spec prog 14 #[(.slice p1 n1 c1)] σ (Cont R (fun v σ1 => ∃ p58 : Option Addr, ∃ n58 : Nat, ∃ c58 : Nat, v = (.slice p58 n58 c58) ∧ (∀ b52 : Nat, σ1 b52 = none → ((0 : Int) ≤ x54 ∧ x54 < 2) ∧ ∃ s56 : ByteArray, Hp.ld (Hp.set σ1 b52 (.cells #[(.string (ByteArray.mk #[97])), (.string (ByteArray.mk #[98]))] 9 (0, 0))) ⟨b52, (0 + Int.toNat x54 * 1), none⟩ = some (.string s56) ∧ ∀ b61 : Nat, (Hp.set σ1 b52 (.cells #[(.string (ByteArray.mk #[97])), (.string (ByteArray.mk #[98]))] 9 (0, 0))) b61 = none → Eff prog (Builtin.append_ #[23, 23] 23 #[(.slice p58 n58 c58), (.slice (some ⟨b61, 0, none⟩) 1 1)]) (Hp.set (Hp.set σ1 b52 (.cells #[(.string (ByteArray.mk #[97])), (.string (ByteArray.mk #[98]))] 9 (0, 0))) b61 (.cells #[(.int .u8 x60)] 5 (0, 0))) (fun v_2 σ1_2 => ∃ p62 : Option Addr, ∃ n62 : Nat, ∃ c62 : Nat, v_2 = (.slice p62 n62 c62) ∧ Kp [b52] (Hp.set (Hp.set σ1 b52 (.cells #[(.string (ByteArray.mk #[97])), (.string (ByteArray.mk #[98]))] 9 (0, 0))) b61 (.cells #[(.int .u8 x60)] 5 (0, 0))) σ1_2 ∧ Spec prog 32 #[(.pointer q6), (.string s56), (.slice p62 n62 c62), (.int .u64 x65)] σ1_2 (Cont R (fun v_3 σ1_3 => ∃ x66a : Int, ∃ x66b : Int, v_3 = (.tuple #[(.int .u64 x66a), (.int .i64 x66b)]) ∧ ((x66b : Int) ≠ 0 → R (.returned (.bool false)) σ1_3) ∧ (¬ ((x66b : Int) ≠ 0) → I64 (x9 + 1) ∧ pt23 R p1 n1 c1 q5 q6 x8 ((x9 + 1)) σ1_3))))) ∧ (∀ b61 : Nat, σ1 b61 = none → (∀ b52 : Nat, (Hp.set σ1 b61 (.cells #[(.int .u8 x60)] 5 (0, 0))) b52 = none → ((0 : Int) ≤ x54 ∧ x54 < 2) ∧ ∃ s56 : ByteArray, Hp.ld (Hp.set (Hp.set σ1 b61 (.cells #[(.int .u8 x60)] 5 (0, 0))) b52 (.cells #[(.string (ByteArray.mk #[97])), (.string (ByteArray.mk #[98]))] 9 (0, 0))) ⟨b52, (0 + Int.toNat x54 * 1), none⟩ = some (.string s56) ∧ Eff prog (Builtin.append_ #[23, 23] 23 #[(.slice p58 n58 c58), (.slice (some ⟨b61, 0, none⟩) 1 1)]) (Hp.set (Hp.set σ1 b61 (.cells #[(.int .u8 x60)] 5 (0, 0))) b52 (.cells #[(.string (ByteArray.mk #[97])), (.string (ByteArray.mk #[98]))] 9 (0, 0))) (fun v_2 σ1_2 => ∃ p62 : Option Addr, ∃ n62 : Nat, ∃ c62 : Nat, v_2 = (.slice p62 n62 c62) ∧ Kp [b52] (Hp.set (Hp.set σ1 b61 (.cells #[(.int .u8 x60)] 5 (0, 0))) b52 (.cells #[(.string (ByteArray.mk #[97])), (.string (ByteArray.mk #[98]))] 9 (0, 0))) σ1_2 ∧ Spec prog 32 #[(.pointer q6), (.string s56), (.slice p62 n62 c62), (.int .u64 x65)] σ1_2 (Cont R (fun v_3 σ1_3 => ∃ x66a : Int, ∃ x66b : Int, v_3 = (.tuple #[(.int .u64 x66a), (.int .i64 x66b)]) ∧ ((x66b : Int) ≠ 0 → R (.returned (.bool false)) σ1_3) ∧ (¬ ((x66b : Int) ≠ 0) → I64 (x9 + 1) ∧ pt23 R p1 n1 c1 q5 q6 x8 ((x9 + 1)) σ1_3))))) ∧ (Eff prog (Builtin.append_ #[23, 23] 23 #[(.slice p58 n58 c58), (.slice (some ⟨b61, 0, none⟩) 1 1)]) (Hp.set σ1 b61 (.cells #[(.int .u8 x60)] 5 (0, 0))) (fun v_2 σ1_2 => ∃ p62 : Option Addr, ∃ n62 : Nat, ∃ c62 : Nat, v_2 = (.slice p62 n62 c62) ∧ ∀ b52 : Nat, σ1_2 b52 = none → ((0 : Int) ≤ x54 ∧ x54 < 2) ∧ ∃ s56 : ByteArray, Hp.ld (Hp.set σ1_2 b52 (.cells #[(.string (ByteArray.mk #[97])), (.string (ByteArray.mk #[98]))] 9 (0, 0))) ⟨b52, (0 + Int.toNat x54 * 1), none⟩ = some (.string s56) ∧ Spec prog 32 #[(.pointer q6), (.string s56), (.slice p62 n62 c62), (.int .u64 x65)] (Hp.set σ1_2 b52 (.cells #[(.string (ByteArray.mk #[97])), (.string (ByteArray.mk #[98]))] 9 (0, 0))) (Cont R (fun v_3 σ1_3 => ∃ x66a : Int, ∃ x66b : Int, v_3 = (.tuple #[(.int .u64 x66a), (.int .i64 x66b)]) ∧ ((x66b : Int) ≠ 0 → R (.returned (.bool false)) σ1_3) ∧ (¬ ((x66b : Int) ≠ 0) → I64 (x9 + 1) ∧ pt23 R p1 n1 c1 q5 q6 x8 ((x9 + 1)) σ1_3))))))))) ∧ (∀ b61 : Nat, σ b61 = none → (∀ b52 : Nat, (Hp.set σ b61 (.cells #[(.int .u8 x60)] 5 (0, 0))) b52 = none → ((0 : Int) ≤ x54 ∧ x54 < 2) ∧ ∃ s56 : ByteArray, Hp.ld (Hp.set (Hp.set σ b61 (.cells #[(.int .u8 x60)] 5 (0, 0))) b52 (.cells #[(.string (ByteArray.mk #[97])), (.string (ByteArray.mk #[98]))] 9 (0, 0))) ⟨b52, (0 + Int.toNat x54 * 1), none⟩ = some (.string s56) ∧ Spec prog 14 #[(.slice p1 n1 c1)] (Hp.set (Hp.set σ b61 (.cells #[(.int .u8 x60)] 5 (0, 0))) b52 (.cells #[(.string (ByteArray.mk #[97])), (.string (ByteArray.mk #[98]))] 9 (0, 0))) (Cont R (fun v σ1 => ∃ p58 : Option Addr, ∃ n58 : Nat, ∃ c58 : Nat, v = (.slice p58 n58 c58) ∧ Kp [b52] (Hp.set (Hp.set σ b61 (.cells #[(.int .u8 x60)] 5 (0, 0))) b52 (.cells #[(.string (ByteArray.mk #[97])), (.string (ByteArray.mk #[98]))] 9 (0, 0))) σ1 ∧ Eff prog (Builtin.append_ #[23, 23] 23 #[(.slice p58 n58 c58), (.slice (some ⟨b61, 0, none⟩) 1 1)]) σ1 (fun v_2 σ1_2 => ∃ p62 : Option Addr, ∃ n62 : Nat, ∃ c62 : Nat, v_2 = (.slice p62 n62 c62) ∧ Kp [b52] σ1 σ1_2 ∧ Spec prog 32 #[(.pointer q6), (.string s56), (.slice p62 n62 c62), (.int .u64 x65)] σ1_2 (Cont R (fun v_3 σ1_3 => ∃ x66a : Int, ∃ x66b : Int, v_3 = (.tuple #[(.int .u64 x66a), (.int .i64 x66b)]) ∧ ((x66b : Int) ≠ 0 → R (.returned (.bool false)) σ1_3) ∧ (¬ ((x66b : Int) ≠ 0) → I64 (x9 + 1) ∧ pt23 R p1 n1 c1 q5 q6 x8 ((x9 + 1)) σ1_3))))))) ∧ (Spec prog 14 #[(.slice p1 n1 c1)] (Hp.set σ b61 (.cells #[(.int .u8 x60)] 5 (0, 0))) (Cont R (fun v σ1 => ∃ p58 : Option Addr, ∃ n58 : Nat, ∃ c58 : Nat, v = (.slice p58 n58 c58) ∧ (∀ b52 : Nat, σ1 b52 = none → ((0 : Int) ≤ x54 ∧ x54 < 2) ∧ ∃ s56 : ByteArray, Hp.ld (Hp.set σ1 b52 (.cells #[(.string (ByteArray.mk #[97])), (.string (ByteArray.mk #[98]))] 9 (0, 0))) ⟨b52, (0 + Int.toNat x54 * 1), none⟩ = some (.string s56) ∧ Eff prog (Builtin.append_ #[23, 23] 23 #[(.slice p58 n58 c58), (.slice (some ⟨b61, 0, none⟩) 1 1)]) (Hp.set σ1 b52 (.cells #[(.string (ByteArray.mk #[97])), (.string (ByteArray.mk #[98]))] 9 (0, 0))) (fun v_2 σ1_2 => ∃ p62 : Option Addr, ∃ n62 : Nat, ∃ c62 : Nat, v_2 = (.slice p62 n62 c62) ∧ Kp [b52] (Hp.set σ1 b52 (.cells #[(.string (ByteArray.mk #[97])), (.string (ByteArray.mk #[98]))] 9 (0, 0))) σ1_2 ∧ Spec prog 32 #[(.pointer q6), (.string s56), (.slice p62 n62 c62), (.int .u64 x65)] σ1_2 (Cont R (fun v_3 σ1_3 => ∃ x66a : Int, ∃ x66b : Int, v_3 = (.tuple #[(.int .u64 x66a), (.int .i64 x66b)]) ∧ ((x66b : Int) ≠ 0 → R (.returned (.bool false)) σ1_3) ∧ (¬ ((x66b : Int) ≠ 0) → I64 (x9 + 1) ∧ pt23 R p1 n1 c1 q5 q6 x8 ((x9 + 1)) σ1_3))))) ∧ (Eff prog (Builtin.append_ #[23, 23] 23 #[(.slice p58 n58 c58), (.slice (some ⟨b61, 0, none⟩) 1 1)]) σ1 (fun v_2 σ1_2 => ∃ p62 : Option Addr, ∃ n62 : Nat, ∃ c62 : Nat, v_2 = (.slice p62 n62 c62) ∧ ∀ b52 : Nat, σ1_2 b52 = none → ((0 : Int) ≤ x54 ∧ x54 < 2) ∧ ∃ s56 : ByteArray, Hp.ld (Hp.set σ1_2 b52 (.cells #[(.string (ByteArray.mk #[97])), (.string (ByteArray.mk #[98]))] 9 (0, 0))) ⟨b52, (0 + Int.toNat x54 * 1), none⟩ = some (.string s56) ∧ Spec prog 32 #[(.pointer q6), (.string s56), (.slice p62 n62 c62), (.int .u64 x65)] (Hp.set σ1_2 b52 (.cells #[(.string (ByteArray.mk #[97])), (.string (ByteArray.mk #[98]))] 9 (0, 0))) (Cont R (fun v_3 σ1_3 => ∃ x66a : Int, ∃ x66b : Int, v_3 = (.tuple #[(.int .u64 x66a), (.int .i64 x66b)]) ∧ ((x66b : Int) ≠ 0 → R (.returned (.bool false)) σ1_3) ∧ (¬ ((x66b : Int) ≠ 0) → I64 (x9 + 1) ∧ pt23 R p1 n1 c1 q5 q6 x8 ((x9 + 1)) σ1_3)))))))))) ∧ (¬ ((x9 : Int) < x8) → Spec prog 18 #[(.pointer q5), (.string (ByteArray.mk #[107, 118, 47]))] σ (Cont R (fun v σ1 => ∃ p72 : Option Addr, ∃ n72 : Nat, ∃ c72 : Nat, v = (.slice p72 n72 c72) ∧ Spec prog 30 #[(.pointer q5)] σ1 (Cont R (fun v_2 σ1_2 => ∃ q76a : Option Addr, ∃ x76b : Int, v_2 = (.tuple #[(.pointer q76a), (.int .i64 x76b)]) ∧ ((x76b : Int) ≠ 0 → R (.returned (.bool false)) σ1_2) ∧ (¬ ((x76b : Int) ≠ 0) → ((Option.isNone q76a) = true → R (.returned (.bool false)) σ1_2) ∧ ((Option.isNone q76a) = false → ((66 : Int) < (n72 : Int) → R (.returned (.bool false)) σ1_2) ∧ (¬ ((66 : Int) < (n72 : Int)) → pt58 R p1 n1 c1 x8 q76a 0 σ1_2))))))))) : pt23 R p1 n1 c1 q5 q6 x8 x9 σ := by
  intro J
  show At (gl R) _ _ _ _
  refine At.rg 7 [0, 1, 2] ?_
  refine Seq.us [(45, .int .i64 x9), (46, .int .i64 x8), (47, .bool (decide ((x9 : Int) < x8)))] ?_
  refine Seq.done ?_
  cases hb : (decide ((x9 : Int) < x8)) with
  | true =>
    replace h := h.1 (of_decide_eq_true hb)
    refine At.cT 47 K25 K26 ?_
    refine At.skip ?_
    refine At.s K28 K38 ?_
    refine At.b 1 K29 ?_
    refine At.s K30 K31 ?_
    refine At.drawT (id := 9) (ops := cO K30) (n := 21) (q := (some [])) (plan := (.yes 0 (.yes 2 (.yes 3 (.yes 6 (.yes 8 (.yes 9 (.yes 12 (.yes 13 (.yes 14 (.alt 1 (.yes 4 (.yes 5 (.alt 7 (.alt 10 (.alt 11 (.alt 15 (.yes 16 (.yes 17 (.yes 18 (.yes 19 (.yes 20 .done))))) .no) .no) .no) (.alt 10 (.alt 7 (.alt 11 (.alt 15 (.yes 16 (.yes 17 (.yes 18 (.yes 19 (.yes 20 .done))))) .no) .no) .no) .no)))) (.alt 7 (.alt 1 (.yes 4 (.yes 5 (.alt 10 (.alt 11 (.alt 15 (.yes 16 (.yes 17 (.yes 18 (.yes 19 (.yes 20 .done))))) .no) .no) .no))) (.alt 10 (.alt 1 (.yes 4 (.yes 5 (.alt 11 (.alt 15 (.yes 16 (.yes 17 (.yes 18 (.yes 19 (.yes 20 .done))))) .no) .no))) (.alt 11 (.alt 1 (.yes 4 (.yes 5 (.alt 15 (.yes 16 (.yes 17 (.yes 18 (.yes 19 (.yes 20 .done))))) .no))) .no) .no)) .no)) (.alt 10 (.alt 1 (.yes 4 (.yes 5 (.alt 7 (.alt 11 (.alt 15 (.yes 16 (.yes 17 (.yes 18 (.yes 19 (.yes 20 .done))))) .no) .no) .no))) (.alt 7 (.alt 1 (.yes 4 (.yes 5 (.alt 11 (.alt 15 (.yes 16 (.yes 17 (.yes 18 (.yes 19 (.yes 20 .done))))) .no) .no))) (.alt 11 (.alt 1 (.yes 4 (.yes 5 (.alt 15 (.yes 16 (.yes 17 (.yes 18 (.yes 19 (.yes 20 .done))))) .no))) .no) .no)) .no)) .no))))))))))))) (tl := []) mixed (by kernel_rfl) (by kernel_rfl) ?_
    refine HeadT.u 51 (.pointer q6) ?_
    refine HeadT.u 53 (.int .i64 x9) ?_
    obtain ⟨hc, h⟩ := h
    obtain ⟨x54, hwx54⟩ : ∃ y, y = Int.tmod x9 2 := ⟨_, rfl⟩
    replace h := h x54 hwx54
    refine HeadT.y (d := (some 54)) (op := (.binOp .rem 3 (.tmp 53) (.const (.int .i64 2)) 3)) (ty := 3) (v := (.int .i64 x54)) (by kernel_rfl) rfl (hwx54 ▸ Y.rem hc rfl rfl) ?_
    refine HeadT.u 57 (.slice p1 n1 c1) ?_
    refine HeadT.u 59 (.int .i64 x9) ?_
    obtain ⟨x60, hwx60⟩ : ∃ y, y = IntKind.u8.wrap x9 := ⟨_, rfl⟩
    replace h := h x60 hwx60
    refine HeadT.y (d := (some 60)) (op := (.convert 3 5 (.tmp 59))) (ty := 5) (v := (.int .u8 x60)) (by kernel_rfl) rfl (hwx60 ▸ Y.conv (by kernel_rfl) underlying5 rfl) ?_
    refine HeadT.u 63 (.int .i64 x9) ?_
    obtain ⟨hc, h⟩ := h
    obtain ⟨x64, hwx64⟩ : ∃ y, y = IntKind.i64.wrap (Int.tdiv x9 2) := ⟨_, rfl⟩
    replace h := h x64 hwx64
    refine HeadT.y (d := (some 64)) (op := (.binOp .quo 3 (.tmp 63) (.const (.int .i64 2)) 3)) (ty := 3) (v := (.int .i64 x64)) (by kernel_rfl) rfl (hwx64 ▸ Y.quo hc rfl rfl) ?_
    obtain ⟨x65, hwx65⟩ : ∃ y, y = IntKind.u64.wrap x64 := ⟨_, rfl⟩
    replace h := h x65 hwx65
    refine HeadT.y (d := (some 65)) (op := (.convert 3 56 (.tmp 64))) (ty := 56) (v := (.int .u64 x65)) (by kernel_rfl) rfl (hwx65 ▸ Y.conv (by kernel_rfl) underlying56 rfl) ?_
    refine HeadT.two ?_ ?_
    · replace h := h.1
      refine HeadT.o (q' := (some [])) rfl ?_
      refine OpTo.bslice (T := 36) (E := 9) (m := 2) (ps := #[(0, (.const (.string (ByteArray.mk #[97])))), (1, (.const (.string (ByteArray.mk #[98]))))]) (d := (some 52)) (ty := 36) (gd := none) (vs := [(0, (.string (ByteArray.mk #[97]))), (1, (.string (ByteArray.mk #[98])))]) (cs := #[(.string (ByteArray.mk #[97])), (.string (ByteArray.mk #[98]))]) underlying36 (by kernel_rfl) rfl rfl rfl (by kernel_rfl) (fun b52 hn => ?_)
      refine ⟨⟨fun _ h => h, kp_q (Kp.of_ext (Ext.set hn))⟩, ?_⟩
      replace h := h b52 hn
      obtain ⟨hi, h⟩ := h
      refine HeadT.z 55 (.indexAddr 36 (.tmp 52) (.tmp 54)) 0 (.pointer (some ⟨b52, (0 + Int.toNat x54 * 1), none⟩)) (Y.idx underlying36 sizeOf9 rfl rfl hi rfl) ?_
      obtain ⟨s56, hl, h⟩ := h
      refine HeadT.yl b52 [[15]] rfl (by kernel_rfl) (d := (some 56)) (op := (.load 9 (.tmp 55))) (ty := 9) (v := (.string s56)) (by kernel_rfl) rfl (Y.ld isAgg9 rfl (lim_ld hl)) ?_
      refine HeadT.two ?_ ?_
      · replace h := h.1
        refine HeadT.o (q' := (some [(b52, [15])])) rfl ?_
        refine OpTo.cl (some 58) call14 (h.cont fun v σ1 h2 => ?_); replace h := h2; clear h2
        obtain ⟨p58, n58, c58, rfl, hk, h⟩ := h
        refine ⟨⟨fun _ h => h, kp_q (L := [(b52, [15])]) hk⟩, ?_⟩
        refine HeadT.o (q' := (some [(b52, [15])])) rfl ?_
        refine OpTo.bslice (T := 23) (E := 5) (m := 1) (ps := #[(0, (.tmp 60))]) (d := (some 61)) (ty := 23) (gd := none) (vs := [(0, (.int .u8 x60))]) (cs := #[(.int .u8 x60)]) underlying23 (by kernel_rfl) rfl rfl rfl (by kernel_rfl) (fun b61 hn => ?_)
        refine ⟨⟨fun _ h => h, kp_q (Kp.of_ext (Ext.set hn))⟩, ?_⟩
        replace h := h b61 hn
        refine HeadT.o (q' := (some [(b52, [15])])) rfl ?_
        refine OpTo.eff (d := (some 62)) (op := (.call { callee := .builtin .append, args := #[(.tmp 58), (.tmp 61)], argTypes := #[23, 23] })) (ty := 23) (gd := none) (by kernel_rfl) rfl rfl (Builtin.append_ #[23, 23] 23 #[(.slice p58 n58 c58), (.slice (some ⟨b61, 0, none⟩) 1 1)]) (fun o ho ht => exec_b_append rfl rfl o ho ht) (h.mono (fun v_2 σ1_2 h2 => ?_)); replace h := h2; clear h2
        obtain ⟨p62, n62, c62, rfl, hk, h⟩ := h
        refine ⟨⟨fun _ h => h, kp_q (L := [(b52, [15])]) hk⟩, ?_⟩
        refine HeadT.o (q' := (some [])) rfl ?_
        refine OpTo.cl (some 66) call32 (h.cont fun v_3 σ1_3 h2 => ?_); replace h := h2; clear h2
        obtain ⟨x66a, x66b, rfl, h⟩ := h
        refine ⟨⟨fun _ h => h, kp_q (L := []) Kp.nil⟩, ?_⟩
        refine HeadT.u 50 (.tuple #[(.int .u64 x66a), (.int .i64 x66b)]) ?_
        refine HeadT.u 67 (.int .u64 x66a) ?_
        refine HeadT.u 68 (.int .i64 x66b) ?_
        refine HeadT.u 10 (.int .u64 x66a) ?_
        refine HeadT.u 11 (.int .i64 x66b) ?_
        refine HeadT.done ?_
        refine Seq.done ?_
        refine At.s K32 K33 ?_
        refine At.rg 10 [0, 1] ?_
        refine Seq.us [(69, .int .i64 x66b), (70, .bool (decide ((x66b : Int) ≠ 0)))] ?_
        refine Seq.done ?_
        cases hb : (decide ((x66b : Int) ≠ 0)) with
        | true =>
          replace h := h.1 (of_decide_eq_true hb)
          refine At.cT 70 K34 K37 ?_
          refine At.s K35 K36 ?_
          refine At.rg 11 [0] ?_
          refine Seq.u 4 (.bool false) ?_
          refine Seq.done ?_
          exact At.rt [.tmp 4] [(.bool false)] func9 ⟨_, rfl, rfl⟩ h
        | false =>
          replace h := h.2 (of_decide_eq_false hb)
          refine At.cF 70 K34 K37 ?_
          refine At.skip ?_
          refine At.inBlock ?_
          refine At.rg 8 [0, 1, 2] ?_
          refine Seq.u 48 (.int .i64 x9) ?_
          obtain ⟨hi, h⟩ := h
          refine Seq.z 49 (.binOp .add 3 (.tmp 48) (.const (.int .i64 1)) 3) 3 (.int .i64 (x9 + 1)) (Y.addI hi rfl rfl) ?_
          refine Seq.u 9 (.int .i64 (x9 + 1)) ?_
          refine Seq.done ?_
          refine At.inLoop ?_
          refine At.s K22 K27 ?_
          refine At.s K23 K24 ?_
          exact At.v [(1, (.slice p1 n1 c1)), (5, (.pointer q5)), (6, (.pointer q6)), (8, (.int .i64 x8)), (9, (.int .i64 (x9 + 1)))] (h _)
      replace h := h.2
      refine HeadT.o (q' := (some [(b52, [15])])) rfl ?_
      refine OpTo.bslice (T := 23) (E := 5) (m := 1) (ps := #[(0, (.tmp 60))]) (d := (some 61)) (ty := 23) (gd := none) (vs := [(0, (.int .u8 x60))]) (cs := #[(.int .u8 x60)]) underlying23 (by kernel_rfl) rfl rfl rfl (by kernel_rfl) (fun b61 hn => ?_)
      refine ⟨⟨fun _ h => h, kp_q (Kp.of_ext (Ext.set hn))⟩, ?_⟩
      replace h := h b61 hn
      refine HeadT.o (q' := (some [(b52, [15])])) rfl ?_
      refine OpTo.cl (some 58) call14 (h.cont fun v σ1 h2 => ?_); replace h := h2; clear h2
      obtain ⟨p58, n58, c58, rfl, hk, h⟩ := h
      refine ⟨⟨fun _ h => h, kp_q (L := [(b52, [15])]) hk⟩, ?_⟩
      refine HeadT.o (q' := (some [(b52, [15])])) rfl ?_
      refine OpTo.eff (d := (some 62)) (op := (.call { callee := .builtin .append, args := #[(.tmp 58), (.tmp 61)], argTypes := #[23, 23] })) (ty := 23) (gd := none) (by kernel_rfl) rfl rfl (Builtin.append_ #[23, 23] 23 #[(.slice p58 n58 c58), (.slice (some ⟨b61, 0, none⟩) 1 1)]) (fun o ho ht => exec_b_append rfl rfl o ho ht) (h.mono (fun v_2 σ1_2 h2 => ?_)); replace h := h2; clear h2
      obtain ⟨p62, n62, c62, rfl, hk, h⟩ := h
      refine ⟨⟨fun _ h => h, kp_q (L := [(b52, [15])]) hk⟩, ?_⟩
      refine HeadT.o (q' := (some [])) rfl ?_
      refine OpTo.cl (some 66) call32 (h.cont fun v_3 σ1_3 h2 => ?_); replace h := h2; clear h2
      obtain ⟨x66a, x66b, rfl, h⟩ := h
      refine ⟨⟨fun _ h => h, kp_q (L := []) Kp.nil⟩, ?_⟩
      refine HeadT.u 50 (.tuple #[(.int .u64 x66a), (.int .i64 x66b)]) ?_
      refine HeadT.u 67 (.int .u64 x66a) ?_
      refine HeadT.u 68 (.int .i64 x66b) ?_
      refine HeadT.u 10 (.int .u64 x66a) ?_
      refine HeadT.u 11 (.int .i64 x66b) ?_
      refine HeadT.done ?_
      refine Seq.done ?_
      refine At.s K32 K33 ?_
      refine At.rg 10 [0, 1] ?_
      refine Seq.us [(69, .int .i64 x66b), (70, .bool (decide ((x66b : Int) ≠ 0)))] ?_
      refine Seq.done ?_
      cases hb : (decide ((x66b : Int) ≠ 0)) with
      | true =>
        replace h := h.1 (of_decide_eq_true hb)
        refine At.cT 70 K34 K37 ?_
        refine At.s K35 K36 ?_
        refine At.rg 11 [0] ?_
        refine Seq.u 4 (.bool false) ?_
        refine Seq.done ?_
        exact At.rt [.tmp 4] [(.bool false)] func9 ⟨_, rfl, rfl⟩ h
      | false =>
        replace h := h.2 (of_decide_eq_false hb)
        refine At.cF 70 K34 K37 ?_
        refine At.skip ?_
        refine At.inBlock ?_
        refine At.rg 8 [0, 1, 2] ?_
        refine Seq.u 48 (.int .i64 x9) ?_
        obtain ⟨hi, h⟩ := h
        refine Seq.z 49 (.binOp .add 3 (.tmp 48) (.const (.int .i64 1)) 3) 3 (.int .i64 (x9 + 1)) (Y.addI hi rfl rfl) ?_
        refine Seq.u 9 (.int .i64 (x9 + 1)) ?_
        refine Seq.done ?_
        refine At.inLoop ?_
        refine At.s K22 K27 ?_
        refine At.s K23 K24 ?_
        exact At.v [(1, (.slice p1 n1 c1)), (5, (.pointer q5)), (6, (.pointer q6)), (8, (.int .i64 x8)), (9, (.int .i64 (x9 + 1)))] (h _)
    replace h := h.2
    refine HeadT.two ?_ ?_
    · replace h := h.1
      refine HeadT.o (q' := (some [])) rfl ?_
      refine OpTo.cl (some 58) call14 (h.cont fun v σ1 h2 => ?_); replace h := h2; clear h2
      obtain ⟨p58, n58, c58, rfl, h⟩ := h
      refine ⟨⟨fun _ h => h, kp_q (L := []) Kp.nil⟩, ?_⟩
      refine HeadT.two ?_ ?_
      · replace h := h.1
        refine HeadT.o (q' := (some [])) rfl ?_
        refine OpTo.bslice (T := 36) (E := 9) (m := 2) (ps := #[(0, (.const (.string (ByteArray.mk #[97])))), (1, (.const (.string (ByteArray.mk #[98]))))]) (d := (some 52)) (ty := 36) (gd := none) (vs := [(0, (.string (ByteArray.mk #[97]))), (1, (.string (ByteArray.mk #[98])))]) (cs := #[(.string (ByteArray.mk #[97])), (.string (ByteArray.mk #[98]))]) underlying36 (by kernel_rfl) rfl rfl rfl (by kernel_rfl) (fun b52 hn => ?_)
        refine ⟨⟨fun _ h => h, kp_q (Kp.of_ext (Ext.set hn))⟩, ?_⟩
        replace h := h b52 hn
        obtain ⟨hi, h⟩ := h
        refine HeadT.z 55 (.indexAddr 36 (.tmp 52) (.tmp 54)) 0 (.pointer (some ⟨b52, (0 + Int.toNat x54 * 1), none⟩)) (Y.idx underlying36 sizeOf9 rfl rfl hi rfl) ?_
        obtain ⟨s56, hl, h⟩ := h
        refine HeadT.yl b52 [[15]] rfl (by kernel_rfl) (d := (some 56)) (op := (.load 9 (.tmp 55))) (ty := 9) (v := (.string s56)) (by kernel_rfl) rfl (Y.ld isAgg9 rfl (lim_ld hl)) ?_
        refine HeadT.o (q' := (some [(b52, [15])])) rfl ?_
        refine OpTo.bslice (T := 23) (E := 5) (m := 1) (ps := #[(0, (.tmp 60))]) (d := (some 61)) (ty := 23) (gd := none) (vs := [(0, (.int .u8 x60))]) (cs := #[(.int .u8 x60)]) underlying23 (by kernel_rfl) rfl rfl rfl (by kernel_rfl) (fun b61 hn => ?_)
        refine ⟨⟨fun _ h => h, kp_q (Kp.of_ext (Ext.set hn))⟩, ?_⟩
        replace h := h b61 hn
        refine HeadT.o (q' := (some [(b52, [15])])) rfl ?_
        refine OpTo.eff (d := (some 62)) (op := (.call { callee := .builtin .append, args := #[(.tmp 58), (.tmp 61)], argTypes := #[23, 23] })) (ty := 23) (gd := none) (by kernel_rfl) rfl rfl (Builtin.append_ #[23, 23] 23 #[(.slice p58 n58 c58), (.slice (some ⟨b61, 0, none⟩) 1 1)]) (fun o ho ht => exec_b_append rfl rfl o ho ht) (h.mono (fun v_2 σ1_2 h2 => ?_)); replace h := h2; clear h2
        obtain ⟨p62, n62, c62, rfl, hk, h⟩ := h
        refine ⟨⟨fun _ h => h, kp_q (L := [(b52, [15])]) hk⟩, ?_⟩
        refine HeadT.o (q' := (some [])) rfl ?_
        refine OpTo.cl (some 66) call32 (h.cont fun v_3 σ1_3 h2 => ?_); replace h := h2; clear h2
        obtain ⟨x66a, x66b, rfl, h⟩ := h
        refine ⟨⟨fun _ h => h, kp_q (L := []) Kp.nil⟩, ?_⟩
        refine HeadT.u 50 (.tuple #[(.int .u64 x66a), (.int .i64 x66b)]) ?_
        refine HeadT.u 67 (.int .u64 x66a) ?_
        refine HeadT.u 68 (.int .i64 x66b) ?_
        refine HeadT.u 10 (.int .u64 x66a) ?_
        refine HeadT.u 11 (.int .i64 x66b) ?_
        refine HeadT.done ?_
        refine Seq.done ?_
        refine At.s K32 K33 ?_
        refine At.rg 10 [0, 1] ?_
        refine Seq.us [(69, .int .i64 x66b), (70, .bool (decide ((x66b : Int) ≠ 0)))] ?_
        refine Seq.done ?_
        cases hb : (decide ((x66b : Int) ≠ 0)) with
        | true =>
          replace h := h.1 (of_decide_eq_true hb)
          refine At.cT 70 K34 K37 ?_
          refine At.s K35 K36 ?_
          refine At.rg 11 [0] ?_
          refine Seq.u 4 (.bool false) ?_
          refine Seq.done ?_
          exact At.rt [.tmp 4] [(.bool false)] func9 ⟨_, rfl, rfl⟩ h
        | false =>
          replace h := h.2 (of_decide_eq_false hb)
          refine At.cF 70 K34 K37 ?_
          refine At.skip ?_
          refine At.inBlock ?_
          refine At.rg 8 [0, 1, 2] ?_
          refine Seq.u 48 (.int .i64 x9) ?_
          obtain ⟨hi, h⟩ := h
          refine Seq.z 49 (.binOp .add 3 (.tmp 48) (.const (.int .i64 1)) 3) 3 (.int .i64 (x9 + 1)) (Y.addI hi rfl rfl) ?_
          refine Seq.u 9 (.int .i64 (x9 + 1)) ?_
          refine Seq.done ?_
          refine At.inLoop ?_
          refine At.s K22 K27 ?_
          refine At.s K23 K24 ?_
          exact At.v [(1, (.slice p1 n1 c1)), (5, (.pointer q5)), (6, (.pointer q6)), (8, (.int .i64 x8)), (9, (.int .i64 (x9 + 1)))] (h _)
      replace h := h.2
      refine HeadT.o (q' := (some [])) rfl ?_
      refine OpTo.bslice (T := 23) (E := 5) (m := 1) (ps := #[(0, (.tmp 60))]) (d := (some 61)) (ty := 23) (gd := none) (vs := [(0, (.int .u8 x60))]) (cs := #[(.int .u8 x60)]) underlying23 (by kernel_rfl) rfl rfl rfl (by kernel_rfl) (fun b61 hn => ?_)
      refine ⟨⟨fun _ h => h, kp_q (Kp.of_ext (Ext.set hn))⟩, ?_⟩
      replace h := h b61 hn
      refine HeadT.two ?_ ?_
      · replace h := h.1
        refine HeadT.o (q' := (some [])) rfl ?_
        refine OpTo.bslice (T := 36) (E := 9) (m := 2) (ps := #[(0, (.const (.string (ByteArray.mk #[97])))), (1, (.const (.string (ByteArray.mk #[98]))))]) (d := (some 52)) (ty := 36) (gd := none) (vs := [(0, (.string (ByteArray.mk #[97]))), (1, (.string (ByteArray.mk #[98])))]) (cs := #[(.string (ByteArray.mk #[97])), (.string (ByteArray.mk #[98]))]) underlying36 (by kernel_rfl) rfl rfl rfl (by kernel_rfl) (fun b52 hn => ?_)
        refine ⟨⟨fun _ h => h, kp_q (Kp.of_ext (Ext.set hn))⟩, ?_⟩
        replace h := h b52 hn
        obtain ⟨hi, h⟩ := h
        refine HeadT.z 55 (.indexAddr 36 (.tmp 52) (.tmp 54)) 0 (.pointer (some ⟨b52, (0 + Int.toNat x54 * 1), none⟩)) (Y.idx underlying36 sizeOf9 rfl rfl hi rfl) ?_
        obtain ⟨s56, hl, h⟩ := h
        refine HeadT.yl b52 [[15]] rfl (by kernel_rfl) (d := (some 56)) (op := (.load 9 (.tmp 55))) (ty := 9) (v := (.string s56)) (by kernel_rfl) rfl (Y.ld isAgg9 rfl (lim_ld hl)) ?_
        refine HeadT.o (q' := (some [(b52, [15])])) rfl ?_
        refine OpTo.eff (d := (some 62)) (op := (.call { callee := .builtin .append, args := #[(.tmp 58), (.tmp 61)], argTypes := #[23, 23] })) (ty := 23) (gd := none) (by kernel_rfl) rfl rfl (Builtin.append_ #[23, 23] 23 #[(.slice p58 n58 c58), (.slice (some ⟨b61, 0, none⟩) 1 1)]) (fun o ho ht => exec_b_append rfl rfl o ho ht) (h.mono (fun v_2 σ1_2 h2 => ?_)); replace h := h2; clear h2
        obtain ⟨p62, n62, c62, rfl, hk, h⟩ := h
        refine ⟨⟨fun _ h => h, kp_q (L := [(b52, [15])]) hk⟩, ?_⟩
        refine HeadT.o (q' := (some [])) rfl ?_
        refine OpTo.cl (some 66) call32 (h.cont fun v_3 σ1_3 h2 => ?_); replace h := h2; clear h2
        obtain ⟨x66a, x66b, rfl, h⟩ := h
        refine ⟨⟨fun _ h => h, kp_q (L := []) Kp.nil⟩, ?_⟩
        refine HeadT.u 50 (.tuple #[(.int .u64 x66a), (.int .i64 x66b)]) ?_
        refine HeadT.u 67 (.int .u64 x66a) ?_
        refine HeadT.u 68 (.int .i64 x66b) ?_
        refine HeadT.u 10 (.int .u64 x66a) ?_
        refine HeadT.u 11 (.int .i64 x66b) ?_
        refine HeadT.done ?_
        refine Seq.done ?_
        refine At.s K32 K33 ?_
        refine At.rg 10 [0, 1] ?_
        refine Seq.us [(69, .int .i64 x66b), (70, .bool (decide ((x66b : Int) ≠ 0)))] ?_
        refine Seq.done ?_
        cases hb : (decide ((x66b : Int) ≠ 0)) with
        | true =>
          replace h := h.1 (of_decide_eq_true hb)
          refine At.cT 70 K34 K37 ?_
          refine At.s K35 K36 ?_
          refine At.rg 11 [0] ?_
          refine Seq.u 4 (.bool false) ?_
          refine Seq.done ?_
          exact At.rt [.tmp 4] [(.bool false)] func9 ⟨_, rfl, rfl⟩ h
        | false =>
          replace h := h.2 (of_decide_eq_false hb)
          refine At.cF 70 K34 K37 ?_
          refine At.skip ?_
          refine At.inBlock ?_
          refine At.rg 8 [0, 1, 2] ?_
          refine Seq.u 48 (.int .i64 x9) ?_
          obtain ⟨hi, h⟩ := h
          refine Seq.z 49 (.binOp .add 3 (.tmp 48) (.const (.int .i64 1)) 3) 3 (.int .i64 (x9 + 1)) (Y.addI hi rfl rfl) ?_
          refine Seq.u 9 (.int .i64 (x9 + 1)) ?_
          refine Seq.done ?_
          refine At.inLoop ?_
          refine At.s K22 K27 ?_
          refine At.s K23 K24 ?_
          exact At.v [(1, (.slice p1 n1 c1)), (5, (.pointer q5)), (6, (.pointer q6)), (8, (.int .i64 x8)), (9, (.int .i64 (x9 + 1)))] (h _)
      replace h := h.2
      refine HeadT.o (q' := (some [])) rfl ?_
      refine OpTo.eff (d := (some 62)) (op := (.call { callee := .builtin .append, args := #[(.tmp 58), (.tmp 61)], argTypes := #[23, 23] })) (ty := 23) (gd := none) (by kernel_rfl) rfl rfl (Builtin.append_ #[23, 23] 23 #[(.slice p58 n58 c58), (.slice (some ⟨b61, 0, none⟩) 1 1)]) (fun o ho ht => exec_b_append rfl rfl o ho ht) (h.mono (fun v_2 σ1_2 h2 => ?_)); replace h := h2; clear h2
      obtain ⟨p62, n62, c62, rfl, h⟩ := h
      refine ⟨⟨fun _ h => h, kp_q (L := []) Kp.nil⟩, ?_⟩
      refine HeadT.o (q' := (some [])) rfl ?_
      refine OpTo.bslice (T := 36) (E := 9) (m := 2) (ps := #[(0, (.const (.string (ByteArray.mk #[97])))), (1, (.const (.string (ByteArray.mk #[98]))))]) (d := (some 52)) (ty := 36) (gd := none) (vs := [(0, (.string (ByteArray.mk #[97]))), (1, (.string (ByteArray.mk #[98])))]) (cs := #[(.string (ByteArray.mk #[97])), (.string (ByteArray.mk #[98]))]) underlying36 (by kernel_rfl) rfl rfl rfl (by kernel_rfl) (fun b52 hn => ?_)
      refine ⟨⟨fun _ h => h, kp_q (Kp.of_ext (Ext.set hn))⟩, ?_⟩
      replace h := h b52 hn
      obtain ⟨hi, h⟩ := h
      refine HeadT.z 55 (.indexAddr 36 (.tmp 52) (.tmp 54)) 0 (.pointer (some ⟨b52, (0 + Int.toNat x54 * 1), none⟩)) (Y.idx underlying36 sizeOf9 rfl rfl hi rfl) ?_
      obtain ⟨s56, hl, h⟩ := h
      refine HeadT.yl b52 [[15]] rfl (by kernel_rfl) (d := (some 56)) (op := (.load 9 (.tmp 55))) (ty := 9) (v := (.string s56)) (by kernel_rfl) rfl (Y.ld isAgg9 rfl (lim_ld hl)) ?_
      refine HeadT.o (q' := (some [])) rfl ?_
      refine OpTo.cl (some 66) call32 (h.cont fun v_3 σ1_3 h2 => ?_); replace h := h2; clear h2
      obtain ⟨x66a, x66b, rfl, h⟩ := h
      refine ⟨⟨fun _ h => h, kp_q (L := []) Kp.nil⟩, ?_⟩
      refine HeadT.u 50 (.tuple #[(.int .u64 x66a), (.int .i64 x66b)]) ?_
      refine HeadT.u 67 (.int .u64 x66a) ?_
      refine HeadT.u 68 (.int .i64 x66b) ?_
      refine HeadT.u 10 (.int .u64 x66a) ?_
      refine HeadT.u 11 (.int .i64 x66b) ?_
      refine HeadT.done ?_
      refine Seq.done ?_
      refine At.L [(1, (.slice p1 n1 c1)), (5, (.pointer q5)), (6, (.pointer q6)), (8, (.int .i64 x8)), (9, (.int .i64 x9)), (11, (.int .i64 x66b))] fun J => ?_
      refine At.s K32 K33 ?_
      refine At.rg 10 [0, 1] ?_
      refine Seq.us [(69, .int .i64 x66b), (70, .bool (decide ((x66b : Int) ≠ 0)))] ?_
      refine Seq.done ?_
      cases hb : (decide ((x66b : Int) ≠ 0)) with
      | true =>
        replace h := h.1 (of_decide_eq_true hb)
        refine At.cT 70 K34 K37 ?_
        refine At.s K35 K36 ?_
        refine At.rg 11 [0] ?_
        refine Seq.u 4 (.bool false) ?_
        refine Seq.done ?_
        exact At.rt [.tmp 4] [(.bool false)] func9 ⟨_, rfl, rfl⟩ h
      | false =>
        replace h := h.2 (of_decide_eq_false hb)
        refine At.cF 70 K34 K37 ?_
        refine At.skip ?_
        refine At.inBlock ?_
        refine At.rg 8 [0, 1, 2] ?_
        refine Seq.u 48 (.int .i64 x9) ?_
        obtain ⟨hi, h⟩ := h
        refine Seq.z 49 (.binOp .add 3 (.tmp 48) (.const (.int .i64 1)) 3) 3 (.int .i64 (x9 + 1)) (Y.addI hi rfl rfl) ?_
        refine Seq.u 9 (.int .i64 (x9 + 1)) ?_
        refine Seq.done ?_
        refine At.inLoop ?_
        refine At.s K22 K27 ?_
        refine At.s K23 K24 ?_
        exact At.v [(1, (.slice p1 n1 c1)), (5, (.pointer q5)), (6, (.pointer q6)), (8, (.int .i64 x8)), (9, (.int .i64 (x9 + 1)))] (h _)
    replace h := h.2
    refine HeadT.o (q' := (some [])) rfl ?_
    refine OpTo.bslice (T := 23) (E := 5) (m := 1) (ps := #[(0, (.tmp 60))]) (d := (some 61)) (ty := 23) (gd := none) (vs := [(0, (.int .u8 x60))]) (cs := #[(.int .u8 x60)]) underlying23 (by kernel_rfl) rfl rfl rfl (by kernel_rfl) (fun b61 hn => ?_)
    refine ⟨⟨fun _ h => h, kp_q (Kp.of_ext (Ext.set hn))⟩, ?_⟩
    replace h := h b61 hn
    refine HeadT.two ?_ ?_
    · replace h := h.1
      refine HeadT.o (q' := (some [])) rfl ?_
      refine OpTo.bslice (T := 36) (E := 9) (m := 2) (ps := #[(0, (.const (.string (ByteArray.mk #[97])))), (1, (.const (.string (ByteArray.mk #[98]))))]) (d := (some 52)) (ty := 36) (gd := none) (vs := [(0, (.string (ByteArray.mk #[97]))), (1, (.string (ByteArray.mk #[98])))]) (cs := #[(.string (ByteArray.mk #[97])), (.string (ByteArray.mk #[98]))]) underlying36 (by kernel_rfl) rfl rfl rfl (by kernel_rfl) (fun b52 hn => ?_)
      refine ⟨⟨fun _ h => h, kp_q (Kp.of_ext (Ext.set hn))⟩, ?_⟩
      replace h := h b52 hn
      obtain ⟨hi, h⟩ := h
      refine HeadT.z 55 (.indexAddr 36 (.tmp 52) (.tmp 54)) 0 (.pointer (some ⟨b52, (0 + Int.toNat x54 * 1), none⟩)) (Y.idx underlying36 sizeOf9 rfl rfl hi rfl) ?_
      obtain ⟨s56, hl, h⟩ := h
      refine HeadT.yl b52 [[15]] rfl (by kernel_rfl) (d := (some 56)) (op := (.load 9 (.tmp 55))) (ty := 9) (v := (.string s56)) (by kernel_rfl) rfl (Y.ld isAgg9 rfl (lim_ld hl)) ?_
      refine HeadT.o (q' := (some [(b52, [15])])) rfl ?_
      refine OpTo.cl (some 58) call14 (h.cont fun v σ1 h2 => ?_); replace h := h2; clear h2
      obtain ⟨p58, n58, c58, rfl, hk, h⟩ := h
      refine ⟨⟨fun _ h => h, kp_q (L := [(b52, [15])]) hk⟩, ?_⟩
      refine HeadT.o (q' := (some [(b52, [15])])) rfl ?_
      refine OpTo.eff (d := (some 62)) (op := (.call { callee := .builtin .append, args := #[(.tmp 58), (.tmp 61)], argTypes := #[23, 23] })) (ty := 23) (gd := none) (by kernel_rfl) rfl rfl (Builtin.append_ #[23, 23] 23 #[(.slice p58 n58 c58), (.slice (some ⟨b61, 0, none⟩) 1 1)]) (fun o ho ht => exec_b_append rfl rfl o ho ht) (h.mono (fun v_2 σ1_2 h2 => ?_)); replace h := h2; clear h2
      obtain ⟨p62, n62, c62, rfl, hk, h⟩ := h
      refine ⟨⟨fun _ h => h, kp_q (L := [(b52, [15])]) hk⟩, ?_⟩
      refine HeadT.o (q' := (some [])) rfl ?_
      refine OpTo.cl (some 66) call32 (h.cont fun v_3 σ1_3 h2 => ?_); replace h := h2; clear h2
      obtain ⟨x66a, x66b, rfl, h⟩ := h
      refine ⟨⟨fun _ h => h, kp_q (L := []) Kp.nil⟩, ?_⟩
      refine HeadT.u 50 (.tuple #[(.int .u64 x66a), (.int .i64 x66b)]) ?_
      refine HeadT.u 67 (.int .u64 x66a) ?_
      refine HeadT.u 68 (.int .i64 x66b) ?_
      refine HeadT.u 10 (.int .u64 x66a) ?_
      refine HeadT.u 11 (.int .i64 x66b) ?_
      refine HeadT.done ?_
      refine Seq.done ?_
      refine At.s K32 K33 ?_
      refine At.rg 10 [0, 1] ?_
      refine Seq.us [(69, .int .i64 x66b), (70, .bool (decide ((x66b : Int) ≠ 0)))] ?_
      refine Seq.done ?_
      cases hb : (decide ((x66b : Int) ≠ 0)) with
      | true =>
        replace h := h.1 (of_decide_eq_true hb)
        refine At.cT 70 K34 K37 ?_
        refine At.s K35 K36 ?_
        refine At.rg 11 [0] ?_
        refine Seq.u 4 (.bool false) ?_
        refine Seq.done ?_
        exact At.rt [.tmp 4] [(.bool false)] func9 ⟨_, rfl, rfl⟩ h
      | false =>
        replace h := h.2 (of_decide_eq_false hb)
        refine At.cF 70 K34 K37 ?_
        refine At.skip ?_
        refine At.inBlock ?_
        refine At.rg 8 [0, 1, 2] ?_
        refine Seq.u 48 (.int .i64 x9) ?_
        obtain ⟨hi, h⟩ := h
        refine Seq.z 49 (.binOp .add 3 (.tmp 48) (.const (.int .i64 1)) 3) 3 (.int .i64 (x9 + 1)) (Y.addI hi rfl rfl) ?_
        refine Seq.u 9 (.int .i64 (x9 + 1)) ?_
        refine Seq.done ?_
        refine At.inLoop ?_
        refine At.s K22 K27 ?_
        refine At.s K23 K24 ?_
        exact At.v [(1, (.slice p1 n1 c1)), (5, (.pointer q5)), (6, (.pointer q6)), (8, (.int .i64 x8)), (9, (.int .i64 (x9 + 1)))] (h _)
    replace h := h.2
    refine HeadT.o (q' := (some [])) rfl ?_
    refine OpTo.cl (some 58) call14 (h.cont fun v σ1 h2 => ?_); replace h := h2; clear h2
    obtain ⟨p58, n58, c58, rfl, h⟩ := h
    refine ⟨⟨fun _ h => h, kp_q (L := []) Kp.nil⟩, ?_⟩
    refine HeadT.two ?_ ?_
    · replace h := h.1
      refine HeadT.o (q' := (some [])) rfl ?_
      refine OpTo.bslice (T := 36) (E := 9) (m := 2) (ps := #[(0, (.const (.string (ByteArray.mk #[97])))), (1, (.const (.string (ByteArray.mk #[98]))))]) (d := (some 52)) (ty := 36) (gd := none) (vs := [(0, (.string (ByteArray.mk #[97]))), (1, (.string (ByteArray.mk #[98])))]) (cs := #[(.string (ByteArray.mk #[97])), (.string (ByteArray.mk #[98]))]) underlying36 (by kernel_rfl) rfl rfl rfl (by kernel_rfl) (fun b52 hn => ?_)
      refine ⟨⟨fun _ h => h, kp_q (Kp.of_ext (Ext.set hn))⟩, ?_⟩
      replace h := h b52 hn
      obtain ⟨hi, h⟩ := h
      refine HeadT.z 55 (.indexAddr 36 (.tmp 52) (.tmp 54)) 0 (.pointer (some ⟨b52, (0 + Int.toNat x54 * 1), none⟩)) (Y.idx underlying36 sizeOf9 rfl rfl hi rfl) ?_
      obtain ⟨s56, hl, h⟩ := h
      refine HeadT.yl b52 [[15]] rfl (by kernel_rfl) (d := (some 56)) (op := (.load 9 (.tmp 55))) (ty := 9) (v := (.string s56)) (by kernel_rfl) rfl (Y.ld isAgg9 rfl (lim_ld hl)) ?_
      refine HeadT.o (q' := (some [(b52, [15])])) rfl ?_
      refine OpTo.eff (d := (some 62)) (op := (.call { callee := .builtin .append, args := #[(.tmp 58), (.tmp 61)], argTypes := #[23, 23] })) (ty := 23) (gd := none) (by kernel_rfl) rfl rfl (Builtin.append_ #[23, 23] 23 #[(.slice p58 n58 c58), (.slice (some ⟨b61, 0, none⟩) 1 1)]) (fun o ho ht => exec_b_append rfl rfl o ho ht) (h.mono (fun v_2 σ1_2 h2 => ?_)); replace h := h2; clear h2
      obtain ⟨p62, n62, c62, rfl, hk, h⟩ := h
      refine ⟨⟨fun _ h => h, kp_q (L := [(b52, [15])]) hk⟩, ?_⟩
      refine HeadT.o (q' := (some [])) rfl ?_
      refine OpTo.cl (some 66) call32 (h.cont fun v_3 σ1_3 h2 => ?_); replace h := h2; clear h2
      obtain ⟨x66a, x66b, rfl, h⟩ := h
      refine ⟨⟨fun _ h => h, kp_q (L := []) Kp.nil⟩, ?_⟩
      refine HeadT.u 50 (.tuple #[(.int .u64 x66a), (.int .i64 x66b)]) ?_
      refine HeadT.u 67 (.int .u64 x66a) ?_
      refine HeadT.u 68 (.int .i64 x66b) ?_
      refine HeadT.u 10 (.int .u64 x66a) ?_
      refine HeadT.u 11 (.int .i64 x66b) ?_
      refine HeadT.done ?_
      refine Seq.done ?_
      refine At.s K32 K33 ?_
      refine At.rg 10 [0, 1] ?_
      refine Seq.us [(69, .int .i64 x66b), (70, .bool (decide ((x66b : Int) ≠ 0)))] ?_
      refine Seq.done ?_
      cases hb : (decide ((x66b : Int) ≠ 0)) with
      | true =>
        replace h := h.1 (of_decide_eq_true hb)
        refine At.cT 70 K34 K37 ?_
        refine At.s K35 K36 ?_
        refine At.rg 11 [0] ?_
        refine Seq.u 4 (.bool false) ?_
        refine Seq.done ?_
        exact At.rt [.tmp 4] [(.bool false)] func9 ⟨_, rfl, rfl⟩ h
      | false =>
        replace h := h.2 (of_decide_eq_false hb)
        refine At.cF 70 K34 K37 ?_
        refine At.skip ?_
        refine At.inBlock ?_
        refine At.rg 8 [0, 1, 2] ?_
        refine Seq.u 48 (.int .i64 x9) ?_
        obtain ⟨hi, h⟩ := h
        refine Seq.z 49 (.binOp .add 3 (.tmp 48) (.const (.int .i64 1)) 3) 3 (.int .i64 (x9 + 1)) (Y.addI hi rfl rfl) ?_
        refine Seq.u 9 (.int .i64 (x9 + 1)) ?_
        refine Seq.done ?_
        refine At.inLoop ?_
        refine At.s K22 K27 ?_
        refine At.s K23 K24 ?_
        exact At.v [(1, (.slice p1 n1 c1)), (5, (.pointer q5)), (6, (.pointer q6)), (8, (.int .i64 x8)), (9, (.int .i64 (x9 + 1)))] (h _)
    replace h := h.2
    refine HeadT.o (q' := (some [])) rfl ?_
    refine OpTo.eff (d := (some 62)) (op := (.call { callee := .builtin .append, args := #[(.tmp 58), (.tmp 61)], argTypes := #[23, 23] })) (ty := 23) (gd := none) (by kernel_rfl) rfl rfl (Builtin.append_ #[23, 23] 23 #[(.slice p58 n58 c58), (.slice (some ⟨b61, 0, none⟩) 1 1)]) (fun o ho ht => exec_b_append rfl rfl o ho ht) (h.mono (fun v_2 σ1_2 h2 => ?_)); replace h := h2; clear h2
    obtain ⟨p62, n62, c62, rfl, h⟩ := h
    refine ⟨⟨fun _ h => h, kp_q (L := []) Kp.nil⟩, ?_⟩
    refine HeadT.o (q' := (some [])) rfl ?_
    refine OpTo.bslice (T := 36) (E := 9) (m := 2) (ps := #[(0, (.const (.string (ByteArray.mk #[97])))), (1, (.const (.string (ByteArray.mk #[98]))))]) (d := (some 52)) (ty := 36) (gd := none) (vs := [(0, (.string (ByteArray.mk #[97]))), (1, (.string (ByteArray.mk #[98])))]) (cs := #[(.string (ByteArray.mk #[97])), (.string (ByteArray.mk #[98]))]) underlying36 (by kernel_rfl) rfl rfl rfl (by kernel_rfl) (fun b52 hn => ?_)
    refine ⟨⟨fun _ h => h, kp_q (Kp.of_ext (Ext.set hn))⟩, ?_⟩
    replace h := h b52 hn
    obtain ⟨hi, h⟩ := h
    refine HeadT.z 55 (.indexAddr 36 (.tmp 52) (.tmp 54)) 0 (.pointer (some ⟨b52, (0 + Int.toNat x54 * 1), none⟩)) (Y.idx underlying36 sizeOf9 rfl rfl hi rfl) ?_
    obtain ⟨s56, hl, h⟩ := h
    refine HeadT.yl b52 [[15]] rfl (by kernel_rfl) (d := (some 56)) (op := (.load 9 (.tmp 55))) (ty := 9) (v := (.string s56)) (by kernel_rfl) rfl (Y.ld isAgg9 rfl (lim_ld hl)) ?_
    refine HeadT.o (q' := (some [])) rfl ?_
    refine OpTo.cl (some 66) call32 (h.cont fun v_3 σ1_3 h2 => ?_); replace h := h2; clear h2
    obtain ⟨x66a, x66b, rfl, h⟩ := h
    refine ⟨⟨fun _ h => h, kp_q (L := []) Kp.nil⟩, ?_⟩
    refine HeadT.u 50 (.tuple #[(.int .u64 x66a), (.int .i64 x66b)]) ?_
    refine HeadT.u 67 (.int .u64 x66a) ?_
    refine HeadT.u 68 (.int .i64 x66b) ?_
    refine HeadT.u 10 (.int .u64 x66a) ?_
    refine HeadT.u 11 (.int .i64 x66b) ?_
    refine HeadT.done ?_
    refine Seq.done ?_
    refine At.s K32 K33 ?_
    refine At.rg 10 [0, 1] ?_
    refine Seq.us [(69, .int .i64 x66b), (70, .bool (decide ((x66b : Int) ≠ 0)))] ?_
    refine Seq.done ?_
    cases hb : (decide ((x66b : Int) ≠ 0)) with
    | true =>
      replace h := h.1 (of_decide_eq_true hb)
      refine At.cT 70 K34 K37 ?_
      refine At.s K35 K36 ?_
      refine At.rg 11 [0] ?_
      refine Seq.u 4 (.bool false) ?_
      refine Seq.done ?_
      exact At.rt [.tmp 4] [(.bool false)] func9 ⟨_, rfl, rfl⟩ h
    | false =>
      replace h := h.2 (of_decide_eq_false hb)
      refine At.cF 70 K34 K37 ?_
      refine At.skip ?_
      refine At.inBlock ?_
      refine At.rg 8 [0, 1, 2] ?_
      refine Seq.u 48 (.int .i64 x9) ?_
      obtain ⟨hi, h⟩ := h
      refine Seq.z 49 (.binOp .add 3 (.tmp 48) (.const (.int .i64 1)) 3) 3 (.int .i64 (x9 + 1)) (Y.addI hi rfl rfl) ?_
      refine Seq.u 9 (.int .i64 (x9 + 1)) ?_
      refine Seq.done ?_
      refine At.inLoop ?_
      refine At.s K22 K27 ?_
      refine At.s K23 K24 ?_
      exact At.v [(1, (.slice p1 n1 c1)), (5, (.pointer q5)), (6, (.pointer q6)), (8, (.int .i64 x8)), (9, (.int .i64 (x9 + 1)))] (h _)
  | false =>
    replace h := h.2 (of_decide_eq_false hb)
    refine At.cF 47 K25 K26 ?_
    refine At.x 0 [.code K39] ?_
    refine At.s K40 K41 ?_
    refine At.rg 12 [0, 1, 2, 3] ?_
    refine Seq.u 71 (.pointer q5) ?_
    refine Seq.o ?_
    refine OpTo.cl (some 72) call18 (h.cont fun v σ1 h2 => ?_); replace h := h2; clear h2
    obtain ⟨p72, n72, c72, rfl, h⟩ := h
    refine Seq.z 73 (.call { callee := .builtin .len, args := #[(.tmp 72)], argTypes := #[36] }) 3 (.int .i64 (n72 : Int)) (Y.lenS underlying36 rfl rfl) ?_
    refine Seq.u 12 (.int .i64 (n72 : Int)) ?_
    refine Seq.done ?_
    refine At.s K42 K43 ?_
    refine At.rg 13 [0, 1, 2, 3, 4, 5, 6] ?_
    refine Seq.u 75 (.pointer q5) ?_
    refine Seq.o ?_
    refine OpTo.cl (some 76) call30 (h.cont fun v_2 σ1_2 h2 => ?_); replace h := h2; clear h2
    obtain ⟨q76a, x76b, rfl, h⟩ := h
    refine Seq.us [(74, .tuple #[(.pointer q76a), (.int .i64 x76b)]), (77, .pointer q76a), (78, .int .i64 x76b), (13, .pointer q76a), (14, .int .i64 x76b)] ?_
    refine Seq.done ?_
    refine At.L [(1, (.slice p1 n1 c1)), (8, (.int .i64 x8)), (12, (.int .i64 (n72 : Int))), (13, (.pointer q76a)), (14, (.int .i64 x76b))] fun J => ?_
    refine At.s K44 K51 ?_
    refine At.s K45 K46 ?_
    refine At.rg 14 [0, 1, 2, 3, 4, 5, 6, 7, 8, 9] ?_
    refine Seq.us [(79, .int .i64 x76b), (80, .bool (decide ((x76b : Int) ≠ 0))), (81, .bool (decide ((x76b : Int) ≠ 0)))] ?_
    cases hb : (decide ((x76b : Int) ≠ 0)) with
    | true =>
      replace h := h.1 (of_decide_eq_true hb)
      refine Seq.n 82 ?_
      refine Seq.n 83 ?_
      refine Seq.us [(84, .bool true), (85, .bool true)] ?_
      refine Seq.n 86 ?_
      refine Seq.n 87 ?_
      refine Seq.u 88 (.bool true) ?_
      refine Seq.done ?_
      refine At.cT 88 K47 K50 ?_
      refine At.s K48 K49 ?_
      refine At.rg 15 [0] ?_
      refine Seq.u 4 (.bool false) ?_
      refine Seq.done ?_
      exact At.rt [.tmp 4] [(.bool false)] func9 ⟨_, rfl, rfl⟩ h
    | false =>
      replace h := h.2 (of_decide_eq_false hb)
      refine Seq.u 82 (.pointer q76a) ?_
      refine Seq.zg 83 (.binOp .eql 53 (.tmp 82) (.const (.pointer none)) 53) 4 (2, false) (.bool (Option.isNone q76a)) (Y.eqlNil underlying53 rfl rfl) ?_
      refine Seq.us [(84, .bool (Option.isNone q76a)), (85, .bool (Option.isNone q76a))] ?_
      cases hb : (Option.isNone q76a) with
      | true =>
        replace h := h.1 hb
        refine Seq.n 86 ?_
        refine Seq.n 87 ?_
        refine Seq.u 88 (.bool true) ?_
        refine Seq.done ?_
        refine At.cT 88 K47 K50 ?_
        refine At.s K48 K49 ?_
        refine At.rg 15 [0] ?_
        refine Seq.u 4 (.bool false) ?_
        refine Seq.done ?_
        exact At.rt [.tmp 4] [(.bool false)] func9 ⟨_, rfl, rfl⟩ h
      | false =>
        replace h := h.2 hb
        refine Seq.us [(86, .int .i64 (n72 : Int)), (87, .bool (decide ((66 : Int) < (n72 : Int)))), (88, .bool (decide ((66 : Int) < (n72 : Int))))] ?_
        refine Seq.done ?_
        cases hb : (decide ((66 : Int) < (n72 : Int))) with
        | true =>
          replace h := h.1 (of_decide_eq_true hb)
          refine At.cT 88 K47 K50 ?_
          refine At.s K48 K49 ?_
          refine At.rg 15 [0] ?_
          refine Seq.u 4 (.bool false) ?_
          refine Seq.done ?_
          exact At.rt [.tmp 4] [(.bool false)] func9 ⟨_, rfl, rfl⟩ h
        | false =>
          replace h := h.2 (of_decide_eq_false hb)
          refine At.cF 88 K47 K50 ?_
          refine At.skip ?_
          refine At.s K52 K82 ?_
          refine At.s K53 K54 ?_
          refine At.rg 16 [0] ?_
          refine Seq.u 15 (.int .i64 0) ?_
          refine Seq.done ?_
          refine At.b 2 K55 ?_
          refine At.loop (x := K56) (by kernel_rfl) ?_
          refine At.s K57 K62 ?_
          refine At.s K58 K59 ?_
          exact At.v [(1, (.slice p1 n1 c1)), (8, (.int .i64 x8)), (13, (.pointer q76a)), (15, (.int .i64 0))] (h _)
theorem pt58_of {R : Ending → Hp → Prop} {p1 q13 : Option Addr} {n1 c1 : Nat} {x8 x15 : Int} {σ : Hp} (h : ((x15 : Int) < 2 → ((x15 : Int) < x8 → I64 (x8 - 1) ∧ 2 ≠ (0 : Int) ∧ ∀ x101 : Int, x101 = Int.tmod (x8 - 1) 2 → ((x101 : Int) ≠ x15 → I64 ((x8 - 1) - 1) ∧ pt73 R p1 n1 c1 x8 q13 x15 (((x8 - 1) - 1)) σ) ∧ (¬ ((x101 : Int) ≠ x15) → pt73 R p1 n1 c1 x8 q13 x15 ((x8 - 1)) σ)) ∧ (¬ ((x15 : Int) < x8) → Spec prog 34 #[] σ (Cont R (fun v σ1 => ∃ t137 : Bool, v = (.bool t137) ∧ R (.returned (.bool t137)) σ1)))) ∧ (¬ ((x15 : Int) < 2) → Spec prog 34 #[] σ (Cont R (fun v σ1 => ∃ t137 : Bool, v = (.bool t137) ∧ R (.returned (.bool t137)) σ1)))) : pt58 R p1 n1 c1 x8 q13 x15 σ := by
 intro J
 show At (gl R) _ _ _ _
 refine At.rg 17 [0, 1, 2, 3, 4, 5, 6] ?_
 refine Seq.us [(89, .int .i64 x15), (90, .bool (decide ((x15 : Int) < 2))), (91, .bool (decide ((x15 : Int) < 2)))] ?_
 cases hb : (decide ((x15 : Int) < 2)) with
 | true =>
  replace h := h.1 (of_decide_eq_true hb)
  refine Seq.us [(92, .int .i64 x15), (93, .int .i64 x8), (94, .bool (decide ((x15 : Int) < x8))), (95, .bool (decide ((x15 : Int) < x8)))] ?_
  refine Seq.done ?_
  cases hb : (decide ((x15 : Int) < x8)) with
  | true =>
   replace h := h.1 (of_decide_eq_true hb)
   refine At.cT 95 K60 K61 ?_
   refine At.skip ?_
   refine At.s K63 K81 ?_
   refine At.b 3 K64 ?_
   refine At.s K65 K66 ?_
   refine At.rg 19 [0, 1, 2] ?_
   refine Seq.u 98 (.int .i64 x8) ?_
   obtain ⟨hi, h⟩ := h
   refine Seq.z 99 (.binOp .sub 3 (.tmp 98) (.const (.int .i64 1)) 3) 3 (.int .i64 (x8 - 1)) (Y.subI hi rfl rfl) ?_
   refine Seq.u 16 (.int .i64 (x8 - 1)) ?_
   refine Seq.done ?_
   refine At.s K67 K72 ?_
   refine At.s K68 K69 ?_
   refine At.rg 20 [0, 1, 2, 3] ?_
   refine Seq.u 100 (.int .i64 (x8 - 1)) ?_
   obtain ⟨hc, h⟩ := h
   obtain ⟨x101, hwx101⟩ : ∃ y, y = Int.tmod (x8 - 1) 2 := ⟨_, rfl⟩
   replace h := h x101 hwx101
   refine Seq.y (d := (some 101)) (op := (.binOp .rem 3 (.tmp 100) (.const (.int .i64 2)) 3)) (ty := 3) (v := (.int .i64 x101)) (by kernel_rfl) rfl (hwx101 ▸ Y.rem hc rfl rfl) ?_
   refine Seq.us [(102, .int .i64 x15), (103, .bool (decide ((x101 : Int) ≠ x15)))] ?_
   refine Seq.done ?_
   cases hb : (decide ((x101 : Int) ≠ x15)) with
   | true =>
    replace h := h.1 (of_decide_eq_true hb)
    refine At.cT 103 K70 K71 ?_
    refine At.rg 21 [0, 1, 2] ?_
    refine Seq.u 104 (.int .i64 (x8 - 1)) ?_
    obtain ⟨hi, h⟩ := h
    refine Seq.z 105 (.binOp .sub 3 (.tmp 104) (.const (.int .i64 1)) 3) 3 (.int .i64 ((x8 - 1) - 1)) (Y.subI hi rfl rfl) ?_
    refine Seq.u 16 (.int .i64 ((x8 - 1) - 1)) ?_
    refine Seq.done ?_
    refine At.s K73 K74 ?_
    exact At.v [(1, (.slice p1 n1 c1)), (8, (.int .i64 x8)), (13, (.pointer q13)), (15, (.int .i64 x15)), (16, (.int .i64 ((x8 - 1) - 1)))] (h _)
   | false =>
    replace h := h.2 (of_decide_eq_false hb)
    refine At.cF 103 K70 K71 ?_
    refine At.skip ?_
    refine At.s K73 K74 ?_
    exact At.v [(1, (.slice p1 n1 c1)), (8, (.int .i64 x8)), (13, (.pointer q13)), (15, (.int .i64 x15)), (16, (.int .i64 (x8 - 1)))] (h _)
  | false =>
   replace h := h.2 (of_decide_eq_false hb)
   refine At.cF 95 K60 K61 ?_
   refine At.x 2 [.code K82] ?_
   refine At.s K83 K84 ?_
   refine At.rg 25 [0, 1] ?_
   refine Seq.o ?_
   refine OpTo.cl (some 137) call34 (h.cont fun v σ1 h2 => ?_); replace h := h2; clear h2
   obtain ⟨t137, rfl, h⟩ := h
   refine Seq.u 4 (.bool t137) ?_
   refine Seq.done ?_
   exact At.rt [.tmp 4] [(.bool t137)] func9 ⟨_, rfl, rfl⟩ h
 | false =>
  replace h := h.2 (of_decide_eq_false hb)
  refine Seq.n 92 ?_
  refine Seq.n 93 ?_
  refine Seq.n 94 ?_
  refine Seq.u 95 (.bool false) ?_
  refine Seq.done ?_
  refine At.cF 95 K60 K61 ?_
  refine At.x 2 [.code K82] ?_
  refine At.s K83 K84 ?_
  refine At.rg 25 [0, 1] ?_
  refine Seq.o ?_
  refine OpTo.cl (some 137) call34 (h.cont fun v σ1 h2 => ?_); replace h := h2; clear h2
  obtain ⟨t137, rfl, h⟩ := h
  refine Seq.u 4 (.bool t137) ?_
  refine Seq.done ?_
  exact At.rt [.tmp 4] [(.bool t137)] func9 ⟨_, rfl, rfl⟩ h
theorem pt73_of {R : Ending → Hp → Prop} {p1 q13 : Option Addr} {n1 c1 : Nat} {x8 x15 x16 : Int} {σ : Hp} (h : ∀ b108 : Nat, σ b108 = none → ((0 : Int) ≤ x15 ∧ x15 < 2) ∧ ∃ s111 : ByteArray, Hp.ld (Hp.set σ b108 (.cells #[(.string (ByteArray.mk #[97])), (.string (ByteArray.mk #[98]))] 9 (0, 0))) ⟨b108, (0 + Int.toNat x15 * 1), none⟩ = some (.string s111) ∧ Spec prog 33 #[(.pointer q13), (.string s111)] (Hp.set σ b108 (.cells #[(.string (ByteArray.mk #[97])), (.string (ByteArray.mk #[98]))] 9 (0, 0))) (Cont R (fun v σ1 => ∃ p112a : Option Addr, ∃ n112a : Nat, ∃ c112a : Nat, ∃ x112b : Int, ∃ x112c : Int, v = (.tuple #[(.slice p112a n112a c112a), (.int .u64 x112b), (.int .i64 x112c)]) ∧ ((x112c : Int) ≠ 0 → R (.returned (.bool false)) σ1) ∧ (¬ ((x112c : Int) ≠ 0) → 2 ≠ (0 : Int) ∧ ∀ x121 : Int, x121 = IntKind.i64.wrap (Int.tdiv x16 2) → I64 (x121 + 1) ∧ ∀ x123 : Int, x123 = IntKind.u64.wrap (x121 + 1) → ((x112b : Int) ≠ x123 → R (.returned (.bool false)) σ1) ∧ (¬ ((x112b : Int) ≠ x123) → Spec prog 14 #[(.slice p1 n1 c1)] σ1 (Cont R (fun v_2 σ1_2 => ∃ p129 : Option Addr, ∃ n129 : Nat, ∃ c129 : Nat, v_2 = (.slice p129 n129 c129) ∧ ∀ x131 : Int, x131 = IntKind.u8.wrap x16 → ∀ b132 : Nat, σ1_2 b132 = none → Eff prog (Builtin.append_ #[23, 23] 23 #[(.slice p129 n129 c129), (.slice (some ⟨b132, 0, none⟩) 1 1)]) (Hp.set σ1_2 b132 (.cells #[(.int .u8 x131)] 5 (0, 0))) (fun v_3 σ1_3 => ∃ p133 : Option Addr, ∃ n133 : Nat, ∃ c133 : Nat, v_3 = (.slice p133 n133 c133) ∧ Spec prog 35 #[(.slice p112a n112a c112a), (.slice p133 n133 c133)] σ1_3 (Cont R (fun v_4 σ1_4 => ∃ t134 : Bool, v_4 = (.bool t134) ∧ (t134 = false → R (.returned (.bool false)) σ1_4) ∧ (t134 = true → I64 (x15 + 1) ∧ pt58 R p1 n1 c1 x8 q13 ((x15 + 1)) σ1_4))))))))))) : pt73 R p1 n1 c1 x8 q13 x15 x16 σ := by
 intro J
 show At (gl R) _ _ _ _
 refine At.rg 22 [0, 1, 2, 3, 4, 5, 6, 7, 8, 9, 10, 11, 12] ?_
 refine Seq.u 107 (.pointer q13) ?_
 refine Seq.o ?_
 refine OpTo.bslice (T := 36) (E := 9) (m := 2) (ps := #[(0, (.const (.string (ByteArray.mk #[97])))), (1, (.const (.string (ByteArray.mk #[98]))))]) (d := (some 108)) (ty := 36) (gd := none) (vs := [(0, (.string (ByteArray.mk #[97]))), (1, (.string (ByteArray.mk #[98])))]) (cs := #[(.string (ByteArray.mk #[97])), (.string (ByteArray.mk #[98]))]) underlying36 (by kernel_rfl) rfl rfl rfl (by kernel_rfl) (fun b108 hn => ?_)
 replace h := h b108 hn
 refine Seq.u 109 (.int .i64 x15) ?_
 obtain ⟨hi, h⟩ := h
 refine Seq.z 110 (.indexAddr 36 (.tmp 108) (.tmp 109)) 0 (.pointer (some ⟨b108, (0 + Int.toNat x15 * 1), none⟩)) (Y.idx underlying36 sizeOf9 rfl rfl hi rfl) ?_
 obtain ⟨s111, hl, h⟩ := h
 refine Seq.z 111 (.load 9 (.tmp 110)) 9 (.string s111) (Y.ld isAgg9 rfl hl) ?_
 refine Seq.o ?_
 refine OpTo.cl (some 112) call33 (h.cont fun v σ1 h2 => ?_); replace h := h2; clear h2
 obtain ⟨p112a, n112a, c112a, x112b, x112c, rfl, h⟩ := h
 refine Seq.us [(106, .tuple #[(.slice p112a n112a c112a), (.int .u64 x112b), (.int .i64 x112c)]), (113, .slice p112a n112a c112a), (114, .int .u64 x112b), (115, .int .i64 x112c), (17, .slice p112a n112a c112a), (18, .int .u64 x112b), (19, .int .i64 x112c)] ?_
 refine Seq.done ?_
 refine At.s K75 K76 ?_
 refine At.rg 23 [0, 1, 2, 3, 4, 5, 6, 7, 8, 9, 10, 11, 12, 13, 14, 15, 16, 17, 18, 19, 20] ?_
 refine Seq.us [(116, .int .i64 x112c), (117, .bool (decide ((x112c : Int) ≠ 0))), (118, .bool (decide ((x112c : Int) ≠ 0)))] ?_
 cases hb : (decide ((x112c : Int) ≠ 0)) with
 | true =>
  replace h := h.1 (of_decide_eq_true hb)
  refine Seq.n 119 ?_
  refine Seq.n 120 ?_
  refine Seq.n 121 ?_
  refine Seq.n 122 ?_
  refine Seq.n 123 ?_
  refine Seq.n 124 ?_
  refine Seq.us [(125, .bool true), (126, .bool true)] ?_
  refine Seq.n 127 ?_
  refine Seq.n 128 ?_
  refine Seq.n 129 ?_
  refine Seq.n 130 ?_
  refine Seq.n 131 ?_
  refine Seq.n 132 ?_
  refine Seq.n 133 ?_
  refine Seq.n 134 ?_
  refine Seq.n 135 ?_
  refine Seq.u 136 (.bool true) ?_
  refine Seq.done ?_
  refine At.cT 136 K77 K80 ?_
  refine At.s K78 K79 ?_
  refine At.rg 24 [0] ?_
  refine Seq.u 4 (.bool false) ?_
  refine Seq.done ?_
  exact At.rt [.tmp 4] [(.bool false)] func9 ⟨_, rfl, rfl⟩ h
 | false =>
  replace h := h.2 (of_decide_eq_false hb)
  refine Seq.us [(119, .int .u64 x112b), (120, .int .i64 x16)] ?_
  obtain ⟨hc, h⟩ := h
  obtain ⟨x121, hwx121⟩ : ∃ y, y = IntKind.i64.wrap (Int.tdiv x16 2) := ⟨_, rfl⟩
  replace h := h x121 hwx121
  refine Seq.yg (d := (some 121)) (op := (.binOp .quo 3 (.tmp 120) (.const (.int .i64 2)) 3)) (ty := 3) (gd := (some (2, false))) (v := (.int .i64 x121)) (by kernel_rfl) rfl rfl (hwx121 ▸ Y.quo hc rfl rfl) ?_
  obtain ⟨hi, h⟩ := h
  refine Seq.zg 122 (.binOp .add 3 (.tmp 121) (.const (.int .i64 1)) 3) 3 (2, false) (.int .i64 (x121 + 1)) (Y.addI hi rfl rfl) ?_
  obtain ⟨x123, hwx123⟩ : ∃ y, y = IntKind.u64.wrap (x121 + 1) := ⟨_, rfl⟩
  replace h := h x123 hwx123
  refine Seq.yg (d := (some 123)) (op := (.convert 3 56 (.tmp 122))) (ty := 56) (gd := (some (2, false))) (v := (.int .u64 x123)) (by kernel_rfl) rfl rfl (hwx123 ▸ Y.conv (by kernel_rfl) underlying56 rfl) ?_
  refine Seq.us [(124, .bool (decide ((x112b : Int) ≠ x123))), (125, .bool (decide ((x112b : Int) ≠ x123))), (126, .bool (decide ((x112b : Int) ≠ x123)))] ?_
  cases hb : (decide ((x112b : Int) ≠ x123)) with
  | true =>
   replace h := h.1 (of_decide_eq_true hb)
   refine Seq.n 127 ?_
   refine Seq.n 128 ?_
   refine Seq.n 129 ?_
   refine Seq.n 130 ?_
   refine Seq.n 131 ?_
   refine Seq.n 132 ?_
   refine Seq.n 133 ?_
   refine Seq.n 134 ?_
   refine Seq.n 135 ?_
   refine Seq.u 136 (.bool true) ?_
   refine Seq.done ?_
   refine At.L [(1, (.slice p1 n1 c1)), (8, (.int .i64 x8)), (13, (.pointer q13)), (15, (.int .i64 x15)), (136, (.bool true))] fun J => ?_
   refine At.cT 136 K77 K80 ?_
   refine At.s K78 K79 ?_
   refine At.rg 24 [0] ?_
   refine Seq.u 4 (.bool false) ?_
   refine Seq.done ?_
   exact At.rt [.tmp 4] [(.bool false)] func9 ⟨_, rfl, rfl⟩ h
  | false =>
   replace h := h.2 (of_decide_eq_false hb)
   refine Seq.us [(127, .slice p112a n112a c112a), (128, .slice p1 n1 c1)] ?_
   refine Seq.o ?_
   refine OpTo.cl (some 129) call14 (h.cont fun v_2 σ1_2 h2 => ?_); replace h := h2; clear h2
   obtain ⟨p129, n129, c129, rfl, h⟩ := h
   refine Seq.u 130 (.int .i64 x16) ?_
   obtain ⟨x131, hwx131⟩ : ∃ y, y = IntKind.u8.wrap x16 := ⟨_, rfl⟩
   replace h := h x131 hwx131
   refine Seq.yg (d := (some 131)) (op := (.convert 3 5 (.tmp 130))) (ty := 5) (gd := (some (10, false))) (v := (.int .u8 x131)) (by kernel_rfl) rfl rfl (hwx131 ▸ Y.conv (by kernel_rfl) underlying5 rfl) ?_
   refine Seq.o ?_
   refine OpTo.bslice (T := 23) (E := 5) (m := 1) (ps := #[(0, (.tmp 131))]) (d := (some 132)) (ty := 23) (gd := (some (10, false))) (vs := [(0, (.int .u8 x131))]) (cs := #[(.int .u8 x131)]) underlying23 (by kernel_rfl) rfl rfl rfl (by kernel_rfl) (fun b132 hn => ?_)
   replace h := h b132 hn
   refine Seq.o ?_
   refine OpTo.eff (d := (some 133)) (op := (.call { callee := .builtin .append, args := #[(.tmp 129), (.tmp 132)], argTypes := #[23, 23] })) (ty := 23) (gd := (some (10, false))) (by kernel_rfl) rfl rfl (Builtin.append_ #[23, 23] 23 #[(.slice p129 n129 c129), (.slice (some ⟨b132, 0, none⟩) 1 1)]) (fun o ho ht => exec_b_append rfl rfl o ho ht) (h.mono (fun v_3 σ1_3 h2 => ?_)); replace h := h2; clear h2
   obtain ⟨p133, n133, c133, rfl, h⟩ := h
   refine Seq.o ?_
   refine OpTo.cl (some 134) call35 (h.cont fun v_4 σ1_4 h2 => ?_); replace h := h2; clear h2
   obtain ⟨t134, rfl, h⟩ := h
   refine Seq.us [(135, .bool (!t134)), (136, .bool (!t134))] ?_
   refine Seq.done ?_
   cases hb : (!t134) with
   | true =>
    replace h := h.1 (Tw.nt hb)
    refine At.cT 136 K77 K80 ?_
    refine At.s K78 K79 ?_
    refine At.rg 24 [0] ?_
    refine Seq.u 4 (.bool false) ?_
    refine Seq.done ?_
    exact At.rt [.tmp 4] [(.bool false)] func9 ⟨_, rfl, rfl⟩ h
   | false =>
    replace h := h.2 (Tw.nf hb)
    refine At.cF 136 K77 K80 ?_
    refine At.skip ?_
    refine At.inBlock ?_
    refine At.rg 18 [0, 1, 2] ?_
    refine Seq.u 96 (.int .i64 x15) ?_
    obtain ⟨hi, h⟩ := h
    refine Seq.z 97 (.binOp .add 3 (.tmp 96) (.const (.int .i64 1)) 3) 3 (.int .i64 (x15 + 1)) (Y.addI hi rfl rfl) ?_
    refine Seq.u 15 (.int .i64 (x15 + 1)) ?_
    refine Seq.done ?_
    refine At.inLoop ?_
    refine At.s K57 K62 ?_
    refine At.s K58 K59 ?_
    exact At.v [(1, (.slice p1 n1 c1)), (8, (.int .i64 x8)), (13, (.pointer q13)), (15, (.int .i64 (x15 + 1)))] (h _)
end law12_KvMany

end
end TwW
end
section
set_option linter.unusedVariables false
namespace TwW
open Go Tw Go.RowKit Go.Proofs.Tryz
def key2 (k : Nat) : ByteArray := if k = 0 then ka else kb
theorem key2_ok (k : Nat) : keyOk (key2 k) = true := by unfold key2; split <;> rfl
theorem key2_mem (k : Nat) : key2 k ∈ [ka, kb] := by unfold key2; split <;> simp
theorem key2_inj {x y : Nat} (hx : x < 2) (hy : y < 2) (h : key2 x = key2 y) : x = y := by
  match x, y, hx, hy with
  | 0, 0, _, _ => rfl
  | 1, 1, _, _ => rfl
  | 0, 1, _, _ => exact absurd h (by decide)
  | 1, 0, _, _ => exact absurd h (by decide)
def cnt2 (k i : Nat) : Nat := (i + 1 - k) / 2
def reg2 (xs : List Int) (k i : Nat) : Reg := if cnt2 k i = 0 then ([], 0) else (xs ++ [IntKind.u8.wrap ((2 * (cnt2 k i - 1) + k : Nat) : Int)], cnt2 k i)
theorem reg2_ver (xs : List Int) (k i : Nat) : (reg2 xs k i).2 = cnt2 k i := by
  unfold reg2
  by_cases h : cnt2 k i = 0 <;> simp [h]
def Has2 (f : ByteArray → Option Reg) (xs : List Int) (i : Nat) : Prop := ∀ k, k < 2 → (f (key2 k)).getD ([], 0) = reg2 xs k i
theorem Has2.put {f g : ByteArray → Option Reg} {xs : List Int} {i k : Nat} (hk : k = i % 2) (h : Has2 f xs i) (hg : ∀ k', g k' = if key2 k = k' then some (xs ++ [IntKind.u8.wrap (i : Int)], i / 2 + 1) else f k') : Has2 g xs (i + 1) := fun y hy => by
  rw [hg]
  have hk2 : k < 2 := by omega
  by_cases e : k = y
  · subst e
    rw [if_pos rfl]
    have h1 : cnt2 k (i + 1) = i / 2 + 1 := by unfold cnt2; omega
    have h2 : 2 * (i / 2) + k = i := by omega
    simp [reg2, h1, h2]
  · rw [if_neg fun e2 => e (key2_inj hk2 hy e2), h y hy]
    have h1 : cnt2 y (i + 1) = cnt2 y i := by unfold cnt2; omega
    rw [reg2, reg2, h1]
theorem Has2.same {f g : ByteArray → Option Reg} {xs : List Int} {i : Nat} (h : Has2 f xs i) (hg : ∀ k', g k' = f k') : Has2 g xs i := fun y hy => by rw [hg]; exact h y hy
abbrev lit2 : Obj := .cells #[.string (ByteArray.mk #[97]), .string (ByteArray.mk #[98])] 9 (0, 0)
theorem lit2_at {σ : Hp} {b k : Nat} (hk : k < 2) : Hp.ld (σ.set b lit2) ⟨b, 0 + k * 1, none⟩ = some (.string (key2 k)) := by
  refine ld_of (Hp.set_same _ _ _) ?_
  match k, hk with
  | 0, _ => rfl
  | 1, _ => rfl
theorem one_rdc {τ : Hp} {b : Nat} {x : Int} {T : TypeId} (h : τ b = some (.cells #[.int .u8 x] T (0, 0))) : RdC 1 τ (some ⟨b, 0, none⟩) 1 [.int .u8 x] :=
  ⟨rfl, by omega, .inr ⟨b, 0, rfl, ld_of h rfl, trivial⟩⟩
theorem kp_both {σa σ1 σ2 : Hp} {b : Nat} {o : Obj} (h : σa b = some o) (h1 : Ext σa σ1) (h2 : Ext σa σ2) : Kp [b] σ1 σ2 := fun x hx u hu => by
  simp at hx; subst hx
  rw [h1 _ _ h] at hu
  cases hu
  exact h2 _ _ h
theorem kp_new {σ σ1 σa σ2 : Hp} {p p' : Option Addr} {n c b : Nat} {cs : List Value} {o : Obj} (hown : Own 1 (σ.new σ1) p n c cs) (hx : Ext σ σ1) (hb : σ1 b = none) (ha : σa b = some o) (hd : Ext ((σ.new σa).del p) ((σ.new σ2).del p')) : Kp [b] σa σ2 := fun x hx' u hu => by
  simp at hx'; subst hx'
  have h0 : σ x = none := by
    cases h : σ x with
    | none => rfl
    | some o' => rw [hx _ _ h] at hb; cases hb
  have hne : ∀ a, p = some a → x ≠ a.block := fun a ha' e => by
    have := hown.block a ha'
    apply this
    cases hh : (σ.new σ1) a.block with
    | none => rfl
    | some o' => have := (new_some.1 hh).2; rw [← e, hb] at this; cases this
  have := hd x u (del_some.2 ⟨hne, new_some.2 ⟨h0, hu⟩⟩)
  exact (new_some.1 (del_some.1 this).2).2
theorem none_of {σ σ' : Hp} {b : Nat} (hx : Ext σ σ') (h : σ' b = none) : σ b = none := by
  cases hh : σ b with
  | none => rfl
  | some o => rw [hx _ _ hh] at h; cases h
theorem app_one {σ0 σ : Hp} {p : Option Addr} {n c b : Nat} {xs : List Int} {x : Int} {T : TypeId} {Φ : Value → Hp → Prop} (h0 : Ext σ0 σ) (hown : OwnI .u8 (σ0.new σ) p n c xs) (hb : σ b = some (.cells #[.int .u8 x] T (0, 0))) (hn : n ≤ 1048576)
    (hΦ : ∀ p' c' σ', OwnI .u8 (σ0.new σ') p' (n + 1) c' (xs ++ [x]) → Ext σ0 σ' → Ext ((σ0.new σ).del p) ((σ0.new σ').del p') → Φ (.slice p' (n + 1) c') σ') : Eff prog (Builtin.append_ #[23, 23] 23 #[.slice p n c, .slice (some ⟨b, 0, none⟩) 1 1]) σ Φ :=
  app_new h0 hown (one_rdc hb) (fun u hu => by simp at hu; subst hu; rfl) (by omega) fun p' c' σ' ho hx hd => hΦ p' c' σ' (by simpa [OwnI] using ho) hx hd
section
variable {σ σ' τ τ' ρ ρ' : Hp} {d b s m clock : Nat} {D : Dk} {W : Wl} {rows : List KRow} {R : Ending → Hp → Prop}
variable {p1 : Option Addr} {n1 c1 : Nat} {xs : List Int}
theorem many_end {n : Nat} (ht : Tb τ) (hr : RdI .u8 τ p1 n1 xs) (hn1 : n1 ≤ 2000) (hn : n < 400) (hu : D.up = true) (hk : Has2 (kLook rows) xs n) (hR : ∀ σ', Ext τ σ' → R (.returned (.bool true)) σ') :
    ∀ (m k : Nat) (σ : Hp), 2 - k = m → k ≤ 2 → KvU σ d b s D W rows τ → law12_KvMany.pt58 R p1 n1 c1 n (some ⟨s, 0, none⟩) k σ := by
  have aw : ∀ σ', Ext τ σ' → Spec prog 34 #[] σ' (Cont R (fun v σ1 => ∃ t137 : Bool, v = (.bool t137) ∧ R (.returned (.bool t137)) σ1)) := fun σ' hx' => kv_awake_spec (ht.mono hx') fun σ'' hx'' => ⟨_, rfl, hR σ'' (hx'.trans hx'')⟩
  intro m
  induction m with
  | zero => exact fun k σ hm hk2 h => law12_KvMany.pt58_of ⟨fun hh => by omega, fun _ => aw _ h.ext⟩
  | succ m ih =>
    intro k σ hm hk2 h
    have hk3 : k < 2 := by omega
    have mid : (k < n) → ∀ x16 : Int, x16 = ((2 * (cnt2 k n - 1) + k : Nat) : Int) → law12_KvMany.pt73 R p1 n1 c1 n (some ⟨s, 0, none⟩) k x16 σ := fun hkn x16 h16 => by
      refine law12_KvMany.pt73_of fun b108 hb108 => ⟨by omega, key2 k, by simpa using lit2_at hk3, ?_⟩
      obtain ⟨τ1, h1, x1, t1⟩ := h.box (o := lit2) hb108
      refine get_spec h1 hu (fun hh => by rw [key2_ok] at hh; cases hh) fun _ p n' c σ4 ho4 hx4 => ⟨p, n', c, _, _, rfl, fun hh => absurd rfl hh, fun _ => ?_⟩
      have hg : kGet rows (key2 k) = reg2 xs k n := hk k hk3
      have h4 := h1.mono hx4
      have hc0 : cnt2 k n ≠ 0 := by unfold cnt2; omega
      have hcl : cnt2 k n ≤ 1000 := by unfold cnt2; omega
      have hgv : (kGet rows (key2 k)).2 = cnt2 k n := by rw [hg, reg2_ver]
      have hrd := OwnI.rd (Own.mono (Ext.of_new _ _) ho4)
      rw [hg, reg2, if_neg hc0] at hrd
      refine ⟨by decide, fun x121 h121 => ?_⟩
      have e121 : x121 = ((cnt2 k n - 1 : Nat) : Int) := by
        rw [h121, h16]
        have : Int.tdiv (((2 * (cnt2 k n - 1) + k : Nat)) : Int) 2 = (((2 * (cnt2 k n - 1) + k) / 2 : Nat) : Int) := rfl
        rw [this, show (2 * (cnt2 k n - 1) + k) / 2 = cnt2 k n - 1 by omega]
        simp [IntKind.wrap, IntKind.bits, IntKind.signed]; omega
      refine ⟨by unfold I64; omega, fun x123 h123 => ?_⟩
      have e123 : x123 = ((cnt2 k n : Nat) : Int) := by
        rw [h123, e121]; simp [IntKind.wrap, IntKind.bits, IntKind.signed]; omega
      refine ⟨fun hh => absurd (by rw [hgv, e123]) hh, fun _ => ?_⟩
      refine copyBytes_spec ((hr.mono x1).mono h4.ext) (by omega) fun p129 c129 σ5 ho5 hx5 => ⟨_, _, _, rfl, fun x131 h131 b132 hb132 => ?_⟩
      have h5 := h4.mono hx5
      refine app_lit (T := 23) (ys := [.int .u8 x131]) hx5 ho5 rfl (fun u hu => by simp at hu; subst hu; rfl) (by omega) (fun p' c' σ6 ho6 hx6 hd6 => ⟨p', _, c', rfl, ?_⟩) hb132
      have h6 := h4.mono hx6
      have ho6' : OwnI .u8 (σ4.new σ6) p' (n1 + 1) c' (xs ++ [x131]) := by simpa [OwnI] using ho6
      refine sameBytes_spec (hrd.mono hx6) (OwnI.rd (Own.mono (Ext.of_new _ _) ho6')) ⟨_, rfl, fun hh => ?_, fun _ => ⟨by unfold I64; omega, ?_⟩⟩
      · exfalso
        rw [decide_eq_false_iff_not] at hh
        exact hh (by rw [h131, h16])
      · exact ih (k + 1) σ6 (by omega) (by omega) (h6.weak x1)
    refine law12_KvMany.pt58_of ⟨fun _ => ⟨fun hkn => ?_, fun _ => aw _ h.ext⟩, fun _ => aw _ h.ext⟩
    have hkn' : k < n := by omega
    refine ⟨by unfold I64; omega, by decide, fun x101 h101 => ?_⟩
    have e101 : x101 = (((n - 1) % 2 : Nat) : Int) := by
      rw [h101, show ((n : Int) - 1) = ((n - 1 : Nat) : Int) by omega]; rfl
    refine ⟨fun hne => ⟨by unfold I64; omega, mid hkn' _ ?_⟩, fun he => mid hkn' _ ?_⟩
    · unfold cnt2; omega
    · unfold cnt2; omega
theorem many_pt {n : Nat} (ht : Tb τ) (hr : RdI .u8 τ p1 n1 xs) (h8 : By8 xs) (hn1 : n1 ≤ 2000) (hn : n < 400) (hR : ∀ σ', Ext τ σ' → R (.returned (.bool true)) σ') :
    ∀ (m i : Nat) (σ : Hp) (D : Dk) (W : Wl) (rows : List KRow) (ts : List Rec), n - i = m → i ≤ n → KvU σ d b s D W rows τ → KvOk D W rows ts → KvSm [ka, kb] rows → Has2 (kLook rows) xs i → D.armed = false → D.cnt ≤ 2 * i → ts.length ≤ i + 9 → law12_KvMany.pt23 R p1 n1 c1 (some ⟨d, 0, none⟩) (some ⟨s, 0, none⟩) n i σ := by
  have hxl : xs.length = n1 := hr.1
  intro m
  induction m with
  | zero =>
    intro i σ D W rows ts hm hi h ho hs hk ha hc hl
    obtain rfl : i = n := by omega
    refine law12_KvMany.pt23_of ⟨fun hh => by omega, fun _ => ?_⟩
    obtain ⟨S, hda, hxd⟩ := h.disk
    refine list_spec hda ho.up (by omega) fun p72 n72 c72 L σ1 hoL hL hx1 hn72 => ⟨p72, n72, c72, rfl, ?_⟩
    have hLn : L.length = n72 := by have := hoL.1; simpa using this
    have hL66 : n72 ≤ 65 := by
      have h1 : L.length ≤ (kvF W).length := nodup_le hL.nodup fun x hx => kvF_mem (ho.ex x ((hL.mem x).1 hx).1)
      have h2 := ho.sml
      simp [kvF] at h1
      omega
    obtain ⟨rc, sg, hlog, htold⟩ := ho.log
    have hop := hlog.openOk
    rw [htold, ho.dir] at hop
    refine kv_open_spec (hfew := ho.few) (h.mono hx1).disk ht ho.up ha (by omega) hop ho.good (by omega) fun s2 b2 σ2 W2 rows2 fs2 cnt2' h2 hl2 _ _ _ _ _ _ _ _ => ⟨_, _, rfl, fun hh => absurd rfl hh, fun _ => ⟨fun hh => (by cases hh), fun _ => ⟨fun hh => by omega, fun _ => ?_⟩⟩⟩
    exact many_end ht hr hn1 hn rfl (hk.same fun k' => by rw [hl2, ho.look]) hR 2 0 σ2 rfl (by omega) h2
  | succ m ih =>
    intro i σ D W rows ts hm hi h ho hs hk ha hc hl
    refine law12_KvMany.pt23_of ⟨fun _ => ⟨by decide, fun x54 h54 x60 h60 => ⟨by decide, fun x64 h64 x65 h65 => ?_⟩⟩, fun hh => by omega⟩
    obtain ⟨k, hki⟩ : ∃ k, k = i % 2 := ⟨_, rfl⟩
    have hk2 : k < 2 := by omega
    have e54 : x54 = ((k : Nat) : Int) := by rw [h54, hki]; rfl
    have e64 : x64 = ((i / 2 : Nat) : Int) := by
      rw [h64, show Int.tdiv (i : Int) 2 = ((i / 2 : Nat) : Int) from rfl]
      simp [IntKind.wrap, IntKind.bits, IntKind.signed]; omega
    have e65 : x65 = ((i / 2 : Nat) : Int) := by
      rw [h65, e64]; simp [IntKind.wrap, IntKind.bits, IntKind.signed]; omega
    have h60r : 0 ≤ x60 ∧ x60 < 256 := by rw [h60]; simp [IntKind.wrap, IntKind.bits, IntKind.signed]; omega
    clear h64 h65
    subst e54 e65
    have hg : (kGet rows (key2 k)).2 = i / 2 := by
      rw [show kGet rows (key2 k) = reg2 xs k i from hk k hk2, reg2_ver]
      unfold cnt2; omega
    have h8' : By8 (xs ++ [x60]) := fun a ha => by
      rcases List.mem_append.1 ha with ha | ha
      · exact h8 a ha
      · simp at ha; subst ha; exact h60r
    have lk : ∀ {σ' : Hp} {b' : Nat}, Hp.ld (σ'.set b' lit2) ⟨b', 0 + Int.toNat ((k : Nat) : Int) * 1, none⟩ = some (.string (key2 k)) := fun {σ' b'} => by simpa using lit2_at (σ := σ') (b := b') hk2
    have hkr : (0 : Int) ≤ (k : Int) ∧ (k : Int) < 2 := by omega
    have fin : ∀ (σ' : Hp) (p : Option Addr) (c' : Nat), Ext σ σ' → OwnI .u8 (σ.new σ') p (n1 + 1) c' (xs ++ [x60]) → Spec prog 32 #[(.pointer (some ⟨s, 0, none⟩)), (.string (key2 k)), (.slice p (n1 + 1) c'), (.int .u64 ((i / 2 : Nat) : Int))] σ' (Cont R (fun v_3 σ1_3 => ∃ x66a : Int, ∃ x66b : Int, v_3 = (.tuple #[(.int .u64 x66a), (.int .i64 x66b)]) ∧ ((x66b : Int) ≠ 0 → R (.returned (.bool false)) σ1_3) ∧ (¬ ((x66b : Int) ≠ 0) → I64 ((i : Int) + 1) ∧ law12_KvMany.pt23 R p1 n1 c1 (some ⟨d, 0, none⟩) (some ⟨s, 0, none⟩) n ((i : Int) + 1) σ1_3))) := fun σ' p c' hx hown => by
      obtain ⟨τ2, h2, x2, x2n⟩ := h.grow hx
      refine set_spec (K := [ka, kb]) (k := key2 k) (v := i / 2) h2 (ht.mono x2) ho hs (by decide) (key2_ok k) (key2_mem k) ((OwnI.rd hown).mono x2n) h8' (by simp; omega) (by omega) (by omega) (fun hh => absurd hg hh) (fun _ σ3 D3 W3 rows3 ts3 h3 ho3 hs3 hl3 a3 k3 _ => ⟨_, _, rfl, fun hh => absurd rfl hh, fun _ => ⟨by unfold I64; omega, ?_⟩⟩) (fun hh => by rw [ha] at hh; cases hh)
      exact ih (i + 1) σ3 D3 W3 rows3 ts3 (by omega) (by omega) (h3.weak x2) ho3 hs3 (hk.put hki fun k' => by rw [hl3, h60]) (a3.trans ha) (by omega) (by omega)
    have rdx : ∀ {σ' : Hp}, Ext σ σ' → RdI .u8 σ' p1 n1 xs := fun hx => hr.mono (h.ext.trans hx)
    refine ⟨fun b52 hb52 => ⟨hkr, key2 k, lk, ?_, ?_⟩, ?_, fun b61 hb61 => ⟨fun b52 hb52 => ⟨hkr, key2 k, lk, ?_⟩, ?_⟩⟩
    · have hxA : Ext σ (σ.set b52 lit2) := .set hb52
      exact copyBytes_spec (rdx hxA) (by omega) fun p58 c58 σ1 ho1 hx1 => ⟨_, _, _, rfl, Kp.of_ext hx1, fun b61 hb61 => app_one (hx1.trans (.set hb61)) (Own.mono (Ext.new_mono (.set hb61)) ho1) (Hp.set_same _ _ _) (by omega) fun p' c' σ2 ho2 hx2 hd2 => ⟨_, _, _, rfl, kp_both (Hp.set_same σ b52 lit2) (hx1.trans (.set hb61)) hx2, fin σ2 p' c' (hxA.trans hx2) (Own.mono (Ext.new_trans hxA) ho2)⟩⟩
    · have hxA : Ext σ (σ.set b52 lit2) := .set hb52
      exact fun b61 hb61 => copyBytes_spec (rdx (hxA.trans (.set hb61))) (by omega) fun p58 c58 σ1 ho1 hx1 => ⟨_, _, _, rfl, Kp.of_ext hx1, app_one ((Ext.set hb61).trans hx1) (Own.mono (Ext.new_trans (.set hb61)) ho1) (hx1 _ _ (Hp.set_same _ _ _)) (by omega) fun p' c' σ2 ho2 hx2 hd2 => ⟨_, _, _, rfl, kp_both (Hp.set_same σ b52 lit2) ((Ext.set hb61).trans hx1) hx2, fin σ2 p' c' (hxA.trans hx2) (Own.mono (Ext.new_trans hxA) ho2)⟩⟩
    · exact copyBytes_spec (rdx (Ext.refl _)) (by omega) fun p58 c58 σ1 ho1 hx1 => ⟨_, _, _, rfl, fun b52 hb52 => ⟨hkr, key2 k, lk, fun b61 hb61 => app_one (hx1.trans ((Ext.set hb52).trans (.set hb61))) (Own.mono (Ext.new_mono ((Ext.set hb52).trans (.set hb61))) ho1) (Hp.set_same _ _ _) (by omega) fun p' c' σ2 ho2 hx2 hd2 => ⟨_, _, _, rfl, kp_new ho1 hx1 hb52 (Ext.set hb61 _ _ (Hp.set_same _ _ _)) hd2, fin σ2 p' c' hx2 ho2⟩⟩,
        fun b61 hb61 => ⟨fun b52 hb52 => ⟨hkr, key2 k, lk, app_one (hx1.trans ((Ext.set hb61).trans (.set hb52))) (Own.mono (Ext.new_mono ((Ext.set hb61).trans (.set hb52))) ho1) (Ext.set hb52 _ _ (Hp.set_same _ _ _)) (by omega) fun p' c' σ2 ho2 hx2 hd2 => ⟨_, _, _, rfl, kp_new ho1 hx1 (none_of (.set hb61) hb52) (Hp.set_same _ _ _) hd2, fin σ2 p' c' hx2 ho2⟩⟩,
          app_one (hx1.trans (.set hb61)) (Own.mono (Ext.new_mono (.set hb61)) ho1) (Hp.set_same _ _ _) (by omega) fun p' c' σ2 ho2 hx2 hd2 => ⟨_, _, _, rfl, fun b52 hb52 => ⟨hkr, key2 k, lk, fin (σ2.set b52 lit2) p' c' (hx2.trans (.set hb52)) (Own.mono (Ext.new_mono (.set hb52)) ho2)⟩⟩⟩⟩
    · have hxB := (Ext.set (o := .cells #[(.int .u8 x60)] 5 (0, 0)) hb61).trans (Ext.set (o := lit2) hb52)
      exact copyBytes_spec (rdx hxB) (by omega) fun p58 c58 σ1 ho1 hx1 => ⟨_, _, _, rfl, Kp.of_ext hx1, app_one hx1 ho1 (hx1 _ _ (Ext.set hb52 _ _ (Hp.set_same _ _ _))) (by omega) fun p' c' σ2 ho2 hx2 hd2 => ⟨_, _, _, rfl, kp_both (Hp.set_same _ b52 lit2) hx1 hx2, fin σ2 p' c' (hxB.trans hx2) (Own.mono (Ext.new_trans hxB) ho2)⟩⟩
    · have hxC := Ext.set (o := .cells #[(.int .u8 x60)] 5 (0, 0)) hb61
      exact copyBytes_spec (rdx hxC) (by omega) fun p58 c58 σ1 ho1 hx1 => ⟨_, _, _, rfl, fun b52 hb52 => ⟨hkr, key2 k, lk, app_one (hx1.trans (.set hb52)) (Own.mono (Ext.new_mono (.set hb52)) ho1) (Ext.set hb52 _ _ (hx1 _ _ (Hp.set_same _ _ _))) (by omega) fun p' c' σ2 ho2 hx2 hd2 => ⟨_, _, _, rfl, kp_new ho1 hx1 hb52 (Hp.set_same _ _ _) hd2, fin σ2 p' c' (hxC.trans hx2) (Own.mono (Ext.new_trans hxC) ho2)⟩⟩,
        app_one hx1 ho1 (hx1 _ _ (Hp.set_same _ _ _)) (by omega) fun p' c' σ2 ho2 hx2 hd2 => ⟨_, _, _, rfl, fun b52 hb52 => ⟨hkr, key2 k, lk, fin (σ2.set b52 lit2) p' c' (hxC.trans (hx2.trans (.set hb52))) (Own.mono ((Ext.new_trans hxC).trans (Ext.new_mono (.set hb52))) ho2)⟩⟩⟩
theorem kvMany_spec {x0 : Int} (ht : Tb σ) (hr : RdI .u8 σ p1 n1 xs) (h8 : By8 xs) (hR : ∀ σ', Ext σ σ' → R (.returned (.bool true)) σ') :
    Spec prog law12_KvMany.fid #[.int .i64 x0, .slice p1 n1 c1] σ R := by
  refine law12_KvMany.start (disk_new_spec fun d σ1 S1 hd1 hx1 => ⟨_, rfl, ?_⟩)
  have h1 : DiskU σ1 d ⟨fun _ => none, true, false, 0⟩ σ := ⟨S1, hd1, hx1⟩
  refine kv_open_new h1 ht rfl rfl rfl (fun _ => rfl) fun s b σ2 W fs' h2 ho2 hfs => ⟨_, _, rfl, fun hh => absurd rfl hh, fun _ => ⟨fun hh => (by cases hh), fun _ => ⟨fun _ => ⟨fun _ => ?_, fun hh => (by cases hh)⟩, fun hsm => ?_⟩⟩⟩
  · exact kv_awake_spec (ht.mono h2.ext) fun σ'' hx'' => ⟨_, rfl, hR σ'' (h2.ext.trans hx'')⟩
  · refine low_spec fun y hy0 hy1 => ⟨y, rfl, by decide, fun x44 h44 => ?_⟩
    have hr4 := tmod_room (x := y) (n := 399) hy0 (by omega)
    rw [show (399 : Int) + 1 = 400 from rfl, ← h44] at hr4
    obtain ⟨n, rfl⟩ : ∃ n : Nat, x44 = n := ⟨x44.toNat, by omega⟩
    exact many_pt ht hr h8 (by omega) (by omega) hR n 0 σ2 (dk fs' 0) W [] [] rfl (by omega) h2 ho2 KvSm.nil (fun k hk => by
      have : cnt2 k 0 = 0 := by unfold cnt2; omega
      simp [kLook, reg2, this]) rfl (by show 0 ≤ _; omega) (by simp)
end
end TwW
end
