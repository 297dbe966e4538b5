/-
  Part 3 of the proof that the law KvKeepsUptoCardSaid of the given program answers true for every input of the given statement; the input reads behind the call as it did. (The texts: HB HB WG WH HC HC HC.)
-/
import Derived.Test.YtchjlpgaanjafaaGreatDoorA2
import Derived.Laws.Bits64b
set_option linter.all false
section
/- written by gen.py: program points and what leads to them -/
set_option linter.unusedVariables false
set_option maxRecDepth 100000
namespace TwW
open Go Tw Go.Proofs.Tryz
noncomputable section
namespace codec_table
abbrev fid : Nat := 73
noncomputable def K0 := f73.body.getD .skip
def K1 := cl K0
def K2 := cr K0
def K3 := cl K2
def K4 := cr K2
def K5 := cl K4
def K6 := cl K5
def K7 := cr K5
def K8 := cl K7
def K9 := cl K8
def K10 := cl K9
def K11 := cr K9
def K12 := cl K11
def K13 := cl K12
def K14 := cr K12
def K15 := cr K11
def K16 := cl K15
def K17 := cl K16
def K18 := cl K17
def K19 := cr K17
def K20 := cl K19
def K21 := cr K19
def K22 := cl K21
def K23 := cl K22
def K24 := cr K22
def K25 := cl K24
def K26 := cl K25
def K27 := cl K26
def K28 := cl K27
def K29 := cr K27
def K30 := cl K29
def K31 := cr K29
def K32 := cr K26
def K33 := cl K32
def K34 := cl K33
def K35 := cl K34
def K36 := cr K34
def K37 := cl K36
def K38 := cr K36
def K39 := cr K32
def K40 := cr K21
def K41 := cr K15
def K42 := cr K4
def K43 := cl K42
def K44 := cr K42
abbrev gl (R : Ending → Hp → Prop) : Gl := Gl.fn prog 73 27 R
def pt10 (R : Ending → Hp → Prop) (x0a x0b x0c x0d x0e x0f x0g x0h x0i x0j x0k x0l x0m x0n x0o x0p : Int) (b1 : Nat) (x5 : Int) (σ : Hp) : Prop := ∀ (J : Env) (b0 : Nat), At (gl R) [.code K10, .code K11, .inLoop K9, .inBlock 0, .code K42] (upds J [(0, (.pointer (some ⟨b0, 0, none⟩))), (1, (.pointer (some ⟨b1, 0, none⟩))), (5, (.int .i64 x5))]) [(b0, .cells #[(.int .u32 x0a), (.int .u32 x0b), (.int .u32 x0c), (.int .u32 x0d), (.int .u32 x0e), (.int .u32 x0f), (.int .u32 x0g), (.int .u32 x0h), (.int .u32 x0i), (.int .u32 x0j), (.int .u32 x0k), (.int .u32 x0l), (.int .u32 x0m), (.int .u32 x0n), (.int .u32 x0o), (.int .u32 x0p)] 105 (0, 0))] σ
def pt28 (R : Ending → Hp → Prop) (x0a x0b x0c x0d x0e x0f x0g x0h x0i x0j x0k x0l x0m x0n x0o x0p : Int) (b1 : Nat) (x2 x3 x4 x5 : Int) (σ : Hp) : Prop := ∀ (J : Env) (b0 : Nat), At (gl R) [.code K28, .code K29, .code K32, .inLoop K26, .inBlock 2, .code K40, .inBlock 1, .code K41, .inLoop K9, .inBlock 0, .code K42] (upds J [(0, (.pointer (some ⟨b0, 0, none⟩))), (1, (.pointer (some ⟨b1, 0, none⟩))), (2, (.int .i64 x2)), (3, (.int .u32 x3)), (4, (.int .i64 x4)), (5, (.int .i64 x5))]) [(b0, .cells #[(.int .u32 x0a), (.int .u32 x0b), (.int .u32 x0c), (.int .u32 x0d), (.int .u32 x0e), (.int .u32 x0f), (.int .u32 x0g), (.int .u32 x0h), (.int .u32 x0i), (.int .u32 x0j), (.int .u32 x0k), (.int .u32 x0l), (.int .u32 x0m), (.int .u32 x0n), (.int .u32 x0o), (.int .u32 x0p)] 105 (0, 0))] σ
def pt39 (R : Ending → Hp → Prop) (x0a x0b x0c x0d x0e x0f x0g x0h x0i x0j x0k x0l x0m x0n x0o x0p : Int) (b1 : Nat) (x2 x3 x4 x5 : Int) (σ : Hp) : Prop := ∀ (J : Env) (b0 : Nat), At (gl R) [.code K39, .inLoop K26, .inBlock 2, .code K40, .inBlock 1, .code K41, .inLoop K9, .inBlock 0, .code K42] (upds J [(0, (.pointer (some ⟨b0, 0, none⟩))), (1, (.pointer (some ⟨b1, 0, none⟩))), (2, (.int .i64 x2)), (3, (.int .u32 x3)), (4, (.int .i64 x4)), (5, (.int .i64 x5))]) [(b0, .cells #[(.int .u32 x0a), (.int .u32 x0b), (.int .u32 x0c), (.int .u32 x0d), (.int .u32 x0e), (.int .u32 x0f), (.int .u32 x0g), (.int .u32 x0h), (.int .u32 x0i), (.int .u32 x0j), (.int .u32 x0k), (.int .u32 x0l), (.int .u32 x0m), (.int .u32 x0n), (.int .u32 x0o), (.int .u32 x0p)] 105 (0, 0))] σ
theorem start {R : Ending → Hp → Prop} {σ : Hp} (h : ∀ b1 : Nat, σ b1 = none → pt10 R 0 0 0 0 0 0 0 0 0 0 0 0 0 0 0 0 b1 0 (Hp.set σ b1 (.cells #[(.int .u32 0), (.int .u32 0), (.int .u32 0), (.int .u32 0), (.int .u32 0), (.int .u32 0), (.int .u32 0), (.int .u32 0), (.int .u32 0), (.int .u32 0), (.int .u32 0), (.int .u32 0), (.int .u32 0), (.int .u32 0), (.int .u32 0), (.int .u32 0)] 105 (0, 0)))) : Spec prog 73 #[] σ R := by
 refine Spec.of_at (fn := f73) (c := K0) func73 (by kernel_rfl) (Nat.le_of_ble_eq_true (by kernel_rfl)) (fun e he => ?_)
 show At (gl R) _ _ _ _
 refine At.s K1 K2 ?_
 refine At.rg 0 [0] ?_
 refine Seq.o ?_
 refine OpTo.alloc (T := 105) (d := (some 0)) (ty := 0)  (gd := none) (cs := #[(.int .u32 0), (.int .u32 0), (.int .u32 0), (.int .u32 0), (.int .u32 0), (.int .u32 0), (.int .u32 0), (.int .u32 0), (.int .u32 0), (.int .u32 0), (.int .u32 0), (.int .u32 0), (.int .u32 0), (.int .u32 0), (.int .u32 0), (.int .u32 0)]) (by kernel_rfl) rfl rfl zeroValue105 rfl (fun b0 => ?_)
 refine Seq.done ?_
 refine At.s K3 K4 ?_
 refine At.rg 1 [0] ?_
 refine Seq.o ?_
 refine OpTo.allocO (T := 105) (d := (some 1)) (ty := 0)  (gd := none) (cs := #[(.int .u32 0), (.int .u32 0), (.int .u32 0), (.int .u32 0), (.int .u32 0), (.int .u32 0), (.int .u32 0), (.int .u32 0), (.int .u32 0), (.int .u32 0), (.int .u32 0), (.int .u32 0), (.int .u32 0), (.int .u32 0), (.int .u32 0), (.int .u32 0)]) (by kernel_rfl) rfl rfl zeroValue105 rfl (fun b1 hn => ?_)
 replace h := h b1 hn
 refine Seq.done ?_
 refine At.s K5 K42 ?_
 refine At.s K6 K7 ?_
 refine At.rg 2 [0] ?_
 refine Seq.u 5 (.int .i64 0) ?_
 refine Seq.done ?_
 refine At.b 0 K8 ?_
 refine At.loop (x := K9) (by kernel_rfl) ?_
 refine At.s K10 K11 ?_
 exact At.v [(0, (.pointer (some ⟨b0, 0, none⟩))), (1, (.pointer (some ⟨b1, 0, none⟩))), (5, (.int .i64 0))] (h _ b0)
theorem pt10_of {R : Ending → Hp → Prop} {x0a x0b x0c x0d x0e x0f x0g x0h x0i x0j x0k x0l x0m x0n x0o x0p x5 : Int} {b1 : Nat} {σ : Hp} (h : ((x5 : Int) < 16 → ∀ x9 : Int, x9 = IntKind.u32.wrap x5 → pt28 R x0a x0b x0c x0d x0e x0f x0g x0h x0i x0j x0k x0l x0m x0n x0o x0p b1 x5 x9 0 x5 σ) ∧ (¬ ((x5 : Int) < 16) → ∃ x26a : Int, ∃ x26b : Int, ∃ x26c : Int, ∃ x26d : Int, ∃ x26e : Int, ∃ x26f : Int, ∃ x26g : Int, ∃ x26h : Int, ∃ x26i : Int, ∃ x26j : Int, ∃ x26k : Int, ∃ x26l : Int, ∃ x26m : Int, ∃ x26n : Int, ∃ x26o : Int, ∃ x26p : Int, LdL σ b1 0 [(.int .u32 x26a), (.int .u32 x26b), (.int .u32 x26c), (.int .u32 x26d), (.int .u32 x26e), (.int .u32 x26f), (.int .u32 x26g), (.int .u32 x26h), (.int .u32 x26i), (.int .u32 x26j), (.int .u32 x26k), (.int .u32 x26l), (.int .u32 x26m), (.int .u32 x26n), (.int .u32 x26o), (.int .u32 x26p)] ∧ R (.returned (.agg #[(.int .u32 x26a), (.int .u32 x26b), (.int .u32 x26c), (.int .u32 x26d), (.int .u32 x26e), (.int .u32 x26f), (.int .u32 x26g), (.int .u32 x26h), (.int .u32 x26i), (.int .u32 x26j), (.int .u32 x26k), (.int .u32 x26l), (.int .u32 x26m), (.int .u32 x26n), (.int .u32 x26o), (.int .u32 x26p)])) σ)) : pt10 R x0a x0b x0c x0d x0e x0f x0g x0h x0i x0j x0k x0l x0m x0n x0o x0p b1 x5 σ := by
 intro J b0
 show At (gl R) _ _ _ _
 refine At.rg 3 [0] ?_
 refine Seq.u 6 (.bool (decide ((x5 : Int) < 16))) ?_
 refine Seq.done ?_
 refine At.s K12 K15 ?_
 cases hb : (decide ((x5 : Int) < 16)) with
 | true =>
  replace h := h.1 (of_decide_eq_true hb)
  refine At.cT 6 K13 K14 ?_
  refine At.skip ?_
  refine At.s K16 K41 ?_
  refine At.b 1 K17 ?_
  refine At.s K18 K19 ?_
  refine At.rg 4 [0, 1] ?_
  refine Seq.us [(7, .int .i64 x5), (2, .int .i64 x5)] ?_
  refine Seq.done ?_
  refine At.s K20 K21 ?_
  refine At.rg 5 [0, 1, 2] ?_
  refine Seq.u 8 (.int .i64 x5) ?_
  obtain ⟨x9, hwx9⟩ : ∃ y, y = IntKind.u32.wrap x5 := ⟨_, rfl⟩
  replace h := h x9 hwx9
  refine Seq.y (d := (some 9)) (op := (.convert 3 79 (.tmp 8))) (ty := 79) (v := (.int .u32 x9)) (by kernel_rfl) rfl (hwx9 ▸ Y.conv (by kernel_rfl) underlying79 rfl) ?_
  refine Seq.u 3 (.int .u32 x9) ?_
  refine Seq.done ?_
  refine At.s K22 K40 ?_
  refine At.s K23 K24 ?_
  refine At.rg 6 [0] ?_
  refine Seq.u 4 (.int .i64 0) ?_
  refine Seq.done ?_
  refine At.b 2 K25 ?_
  refine At.loop (x := K26) (by kernel_rfl) ?_
  refine At.s K27 K32 ?_
  refine At.s K28 K29 ?_
  exact At.v [(0, (.pointer (some ⟨b0, 0, none⟩))), (1, (.pointer (some ⟨b1, 0, none⟩))), (2, (.int .i64 x5)), (3, (.int .u32 x9)), (4, (.int .i64 0)), (5, (.int .i64 x5))] (h _ b0)
 | false =>
  replace h := h.2 (of_decide_eq_false hb)
  refine At.cF 6 K13 K14 ?_
  refine At.x 0 [.code K42] ?_
  refine At.s K43 K44 ?_
  refine At.rg 14 [0, 1] ?_
  obtain ⟨x26a, x26b, x26c, x26d, x26e, x26f, x26g, x26h, x26i, x26j, x26k, x26l, x26m, x26n, x26o, x26p, hl, h⟩ := h
  refine Seq.z 26 (.load 105 (.tmp 1)) 105 (.agg #[(.int .u32 x26a), (.int .u32 x26b), (.int .u32 x26c), (.int .u32 x26d), (.int .u32 x26e), (.int .u32 x26f), (.int .u32 x26g), (.int .u32 x26h), (.int .u32 x26i), (.int .u32 x26j), (.int .u32 x26k), (.int .u32 x26l), (.int .u32 x26m), (.int .u32 x26n), (.int .u32 x26o), (.int .u32 x26p)]) (Y.lda isAgg105 sizeOf105 rfl rfl hl) ?_
  refine Seq.o ?_
  refine OpTo.storeb (T := 105) (ty := 0) (x := (.tmp 0)) (y := (.tmp 26)) (t := 105) (j := 0) (b := b0) (o := 0) (c' := #[(.int .u32 x26a), (.int .u32 x26b), (.int .u32 x26c), (.int .u32 x26d), (.int .u32 x26e), (.int .u32 x26f), (.int .u32 x26g), (.int .u32 x26h), (.int .u32 x26i), (.int .u32 x26j), (.int .u32 x26k), (.int .u32 x26l), (.int .u32 x26m), (.int .u32 x26n), (.int .u32 x26o), (.int .u32 x26p)]) (v := (.agg #[(.int .u32 x26a), (.int .u32 x26b), (.int .u32 x26c), (.int .u32 x26d), (.int .u32 x26e), (.int .u32 x26f), (.int .u32 x26g), (.int .u32 x26h), (.int .u32 x26i), (.int .u32 x26j), (.int .u32 x26k), (.int .u32 x26l), (.int .u32 x26m), (.int .u32 x26n), (.int .u32 x26o), (.int .u32 x26p)])) (gd := none) (by kernel_rfl) rfl sizeOf105 rfl rfl rfl (by kernel_rfl) (by kernel_rfl) (by kernel_rfl) (by kernel_rfl) ?_
  simp only [List.set]
  refine Seq.done ?_
  exact At.rt [.cell 0 105] [(.agg #[(.int .u32 x26a), (.int .u32 x26b), (.int .u32 x26c), (.int .u32 x26d), (.int .u32 x26e), (.int .u32 x26f), (.int .u32 x26g), (.int .u32 x26h), (.int .u32 x26i), (.int .u32 x26j), (.int .u32 x26k), (.int .u32 x26l), (.int .u32 x26m), (.int .u32 x26n), (.int .u32 x26o), (.int .u32 x26p)])] func73 ⟨_, _, rfl, ⟨_, rfl, ldab_run isAgg105 sizeOf105 rfl (List.mem_cons_self ..)⟩, rfl⟩ h
theorem pt28_of {R : Ending → Hp → Prop} {x0a x0b x0c x0d x0e x0f x0g x0h x0i x0j x0k x0l x0m x0n x0o x0p x2 x3 x4 x5 : Int} {b1 : Nat} {σ : Hp} (h : ((x4 : Int) < 4 → ∀ x15 : Int, x15 = Go.bits .and .u32 x3 1 → ((x15 : Int) = 0 → ((0 : Int) ≤ 1 ∧ 1 ≤ ((IntKind.bits .u32 : Nat) : Int)) ∧ ∀ x18 : Int, x18 = x3 / 2 ^ Int.toNat 1 → pt39 R x0a x0b x0c x0d x0e x0f x0g x0h x0i x0j x0k x0l x0m x0n x0o x0p b1 x2 x18 x4 x5 σ) ∧ (¬ ((x15 : Int) = 0) → ((0 : Int) ≤ 1 ∧ 1 ≤ ((IntKind.bits .u32 : Nat) : Int)) ∧ ∀ x20 : Int, x20 = x3 / 2 ^ Int.toNat 1 → ∀ x21 : Int, x21 = Go.bits .xor .u32 x20 3988292384 → pt39 R x0a x0b x0c x0d x0e x0f x0g x0h x0i x0j x0k x0l x0m x0n x0o x0p b1 x2 x21 x4 x5 σ)) ∧ (¬ ((x4 : Int) < 4) → ((0 : Int) ≤ x2 ∧ x2 < 16) ∧ Eff prog (Instr.storeAt 79 (.pointer (some ⟨b1, (0 + Int.toNat x2 * 1), none⟩)) (.int .u32 x3)) σ (fun _ σ1 => I64 (x5 + 1) ∧ pt10 R x0a x0b x0c x0d x0e x0f x0g x0h x0i x0j x0k x0l x0m x0n x0o x0p b1 ((x5 + 1)) σ1))) : pt28 R x0a x0b x0c x0d x0e x0f x0g x0h x0i x0j x0k x0l x0m x0n x0o x0p b1 x2 x3 x4 x5 σ := by
 intro J b0
 show At (gl R) _ _ _ _
 refine At.rg 7 [0, 1] ?_
 refine Seq.us [(10, .int .i64 x4), (11, .bool (decide ((x4 : Int) < 4)))] ?_
 refine Seq.done ?_
 cases hb : (decide ((x4 : Int) < 4)) with
 | true =>
  replace h := h.1 (of_decide_eq_true hb)
  refine At.cT 11 K30 K31 ?_
  refine At.skip ?_
  refine At.s K33 K39 ?_
  refine At.b 3 K34 ?_
  refine At.s K35 K36 ?_
  refine At.rg 9 [0, 1, 2] ?_
  refine Seq.u 14 (.int .u32 x3) ?_
  obtain ⟨x15, hwx15⟩ : ∃ y, y = Go.bits .and .u32 x3 1 := ⟨_, rfl⟩
  replace h := h x15 hwx15
  refine Seq.y (d := (some 15)) (op := (.binOp .and 79 (.tmp 14) (.const (.int .u32 1)) 79)) (ty := 79) (v := (.int .u32 x15)) (by kernel_rfl) rfl (hwx15 ▸ Y.bits (by simp) rfl rfl) ?_
  refine Seq.u 16 (.bool (decide ((x15 : Int) = 0))) ?_
  refine Seq.done ?_
  cases hb : (decide ((x15 : Int) = 0)) with
  | true =>
   replace h := h.1 (of_decide_eq_true hb)
   refine At.cT 16 K37 K38 ?_
   refine At.rg 10 [0, 1, 2] ?_
   refine Seq.u 17 (.int .u32 x3) ?_
   obtain ⟨hc, h⟩ := h
   obtain ⟨x18, hwx18⟩ : ∃ y, y = x3 / 2 ^ Int.toNat 1 := ⟨_, rfl⟩
   replace h := h x18 hwx18
   refine Seq.y (d := (some 18)) (op := (.binOp .shr 79 (.tmp 17) (.const (.int .u64 1)) 82)) (ty := 79) (v := (.int .u32 x18)) (by kernel_rfl) rfl (hwx18 ▸ Y.shr hc.1 hc.2 rfl rfl) ?_
   refine Seq.u 3 (.int .u32 x18) ?_
   refine Seq.done ?_
   refine At.inBlock ?_
   exact At.v [(0, (.pointer (some ⟨b0, 0, none⟩))), (1, (.pointer (some ⟨b1, 0, none⟩))), (2, (.int .i64 x2)), (3, (.int .u32 x18)), (4, (.int .i64 x4)), (5, (.int .i64 x5))] (h _ b0)
  | false =>
   replace h := h.2 (of_decide_eq_false hb)
   refine At.cF 16 K37 K38 ?_
   refine At.rg 11 [0, 1, 2, 3] ?_
   refine Seq.u 19 (.int .u32 x3) ?_
   obtain ⟨hc, h⟩ := h
   obtain ⟨x20, hwx20⟩ : ∃ y, y = x3 / 2 ^ Int.toNat 1 := ⟨_, rfl⟩
   replace h := h x20 hwx20
   refine Seq.y (d := (some 20)) (op := (.binOp .shr 79 (.tmp 19) (.const (.int .u64 1)) 82)) (ty := 79) (v := (.int .u32 x20)) (by kernel_rfl) rfl (hwx20 ▸ Y.shr hc.1 hc.2 rfl rfl) ?_
   obtain ⟨x21, hwx21⟩ : ∃ y, y = Go.bits .xor .u32 x20 3988292384 := ⟨_, rfl⟩
   replace h := h x21 hwx21
   refine Seq.y (d := (some 21)) (op := (.binOp .xor 79 (.tmp 20) (.const (.int .u32 3988292384)) 79)) (ty := 79) (v := (.int .u32 x21)) (by kernel_rfl) rfl (hwx21 ▸ Y.bits (by simp) rfl rfl) ?_
   refine Seq.u 3 (.int .u32 x21) ?_
   refine Seq.done ?_
   refine At.inBlock ?_
   exact At.v [(0, (.pointer (some ⟨b0, 0, none⟩))), (1, (.pointer (some ⟨b1, 0, none⟩))), (2, (.int .i64 x2)), (3, (.int .u32 x21)), (4, (.int .i64 x4)), (5, (.int .i64 x5))] (h _ b0)
 | false =>
  replace h := h.2 (of_decide_eq_false hb)
  refine At.cF 11 K30 K31 ?_
  refine At.x 2 [.code K40, .inBlock 1, .code K41, .inLoop K9, .inBlock 0, .code K42] ?_
  refine At.rg 12 [0, 1, 2, 3] ?_
  refine Seq.us [(22, .int .i64 x2), (23, .int .u32 x3)] ?_
  obtain ⟨hi, h⟩ := h
  refine Seq.z 24 (.indexAddr 105 (.tmp 1) (.tmp 22)) 0 (.pointer (some ⟨b1, (0 + Int.toNat x2 * 1), none⟩)) (Y.idxA underlying105 sizeOf79 rfl rfl hi rfl) ?_
  refine Seq.o ?_
  refine OpTo.store (T := 79) (ty := 0) (x := (.tmp 24)) (y := (.tmp 23)) (p := (.pointer (some ⟨b1, (0 + Int.toNat x2 * 1), none⟩))) (v := (.int .u32 x3)) (gd := none) (by kernel_rfl) rfl rfl rfl (h.mono (fun _ σ1 h2 => ?_)); replace h := h2; clear h2
  refine Seq.done ?_
  refine At.inBlock ?_
  refine At.rg 13 [0, 1] ?_
  obtain ⟨hi, h⟩ := h
  refine Seq.z 25 (.binOp .add 3 (.tmp 5) (.const (.int .i64 1)) 3) 3 (.int .i64 (x5 + 1)) (Y.addI hi rfl rfl) ?_
  refine Seq.u 5 (.int .i64 (x5 + 1)) ?_
  refine Seq.done ?_
  refine At.inLoop ?_
  refine At.s K10 K11 ?_
  exact At.v [(0, (.pointer (some ⟨b0, 0, none⟩))), (1, (.pointer (some ⟨b1, 0, none⟩))), (5, (.int .i64 (x5 + 1)))] (h _ b0)
theorem pt39_of {R : Ending → Hp → Prop} {x0a x0b x0c x0d x0e x0f x0g x0h x0i x0j x0k x0l x0m x0n x0o x0p x2 x3 x4 x5 : Int} {b1 : Nat} {σ : Hp} (h : I64 (x4 + 1) ∧ pt28 R x0a x0b x0c x0d x0e x0f x0g x0h x0i x0j x0k x0l x0m x0n x0o x0p b1 x2 x3 ((x4 + 1)) x5 σ) : pt39 R x0a x0b x0c x0d x0e x0f x0g x0h x0i x0j x0k x0l x0m x0n x0o x0p b1 x2 x3 x4 x5 σ := by
 intro J b0
 show At (gl R) _ _ _ _
 refine At.rg 8 [0, 1, 2] ?_
 refine Seq.u 12 (.int .i64 x4) ?_
 obtain ⟨hi, h⟩ := h
 refine Seq.z 13 (.binOp .add 3 (.tmp 12) (.const (.int .i64 1)) 3) 3 (.int .i64 (x4 + 1)) (Y.addI hi rfl rfl) ?_
 refine Seq.u 4 (.int .i64 (x4 + 1)) ?_
 refine Seq.done ?_
 refine At.inLoop ?_
 refine At.s K27 K32 ?_
 refine At.s K28 K29 ?_
 exact At.v [(0, (.pointer (some ⟨b0, 0, none⟩))), (1, (.pointer (some ⟨b1, 0, none⟩))), (2, (.int .i64 x2)), (3, (.int .u32 x3)), (4, (.int .i64 (x4 + 1))), (5, (.int .i64 x5))] (h _ b0)
end codec_table
namespace codec_Uint
abbrev fid : Nat := 82
noncomputable def K0 := f82.body.getD .skip
def K1 := cl K0
def K2 := cr K0
def K3 := cl K2
def K4 := cl K3
def K5 := cr K3
def K6 := cl K5
def K7 := cl K6
def K8 := cr K6
def K9 := cr K5
def K10 := cr K2
def K11 := cl K10
def K12 := cr K10
def K13 := cl K12
def K14 := cl K13
def K15 := cr K13
def K16 := cl K15
def K17 := cl K16
def K18 := cl K17
def K19 := cl K18
def K20 := cr K18
def K21 := cl K20
def K22 := cr K20
def K23 := cr K17
def K24 := cl K23
def K25 := cl K24
def K26 := cl K25
def K27 := cr K25
def K28 := cl K27
def K29 := cl K28
def K30 := cr K28
def K31 := cl K30
def K32 := cl K31
def K33 := cr K31
def K34 := cr K30
def K35 := cr K27
def K36 := cl K35
def K37 := cr K35
def K38 := cl K37
def K39 := cr K37
def K40 := cl K39
def K41 := cl K40
def K42 := cr K40
def K43 := cr K39
def K44 := cr K23
def K45 := cr K12
def K46 := cl K45
def K47 := cr K45
abbrev gl (R : Ending → Hp → Prop) : Gl := Gl.fn prog 82 61 R
def pt19 (R : Ending → Hp → Prop) (p0 : Option Addr) (n0 c0 : Nat) (x1 x7 x8 : Int) (σ : Hp) : Prop := ∀ (J : Env), At (gl R) [.code K19, .code K20, .code K23, .inLoop K17, .inBlock 0, .code K45] (upds J [(0, (.slice p0 n0 c0)), (1, (.int .i64 x1)), (7, (.int .u64 x7)), (8, (.int .i64 x8))]) [] σ
theorem start {R : Ending → Hp → Prop} {p0 : Option Addr} {n0 c0 : Nat} {x1 : Int} {σ : Hp} (h : ((x1 : Int) < 0 → R (.returned (.tuple #[(.int .u64 0), (.int .i64 0), (.int .i64 20)])) σ) ∧ (¬ ((x1 : Int) < 0) → (((n0 : Int) : Int) < x1 → R (.returned (.tuple #[(.int .u64 0), (.int .i64 0), (.int .i64 20)])) σ) ∧ (¬ (((n0 : Int) : Int) < x1) → pt19 R p0 n0 c0 x1 0 0 σ))) : Spec prog 82 #[(.slice p0 n0 c0), (.int .i64 x1)] σ R := by
 refine Spec.of_at (fn := f82) (c := K0) func82 (by kernel_rfl) (Nat.le_of_ble_eq_true (by kernel_rfl)) (fun e he => ?_)
 refine At.ofL (l := [(0, (.slice p0 n0 c0)), (1, (.int .i64 x1))]) ⟨he 0, he 1, trivial⟩ (fun J => ?_)
 show At (gl R) _ _ _ _
 refine At.s K1 K2 ?_
 refine At.rg 0 [0, 1, 2] ?_
 refine Seq.us [(4, .int .u64 0), (5, .int .i64 0), (6, .int .i64 0)] ?_
 refine Seq.done ?_
 refine At.s K3 K10 ?_
 refine At.s K4 K5 ?_
 refine At.rg 1 [0, 1, 2, 3, 4, 5, 6, 7] ?_
 refine Seq.us [(10, .int .i64 x1), (11, .bool (decide ((x1 : Int) < 0))), (12, .bool (decide ((x1 : Int) < 0)))] ?_
 cases hb : (decide ((x1 : Int) < 0)) with
 | true =>
  replace h := h.1 (of_decide_eq_true hb)
  refine Seq.n 13 ?_
  refine Seq.n 14 ?_
  refine Seq.n 15 ?_
  refine Seq.n 16 ?_
  refine Seq.u 17 (.bool true) ?_
  refine Seq.done ?_
  refine At.cT 17 K6 K9 ?_
  refine At.s K7 K8 ?_
  refine At.rg 2 [0, 1, 2] ?_
  refine Seq.us [(4, .int .u64 0), (5, .int .i64 0), (6, .int .i64 20)] ?_
  refine Seq.done ?_
  exact At.rt [.tmp 4, .tmp 5, .tmp 6] [(.int .u64 0), (.int .i64 0), (.int .i64 20)] func82 ⟨_, rfl, ⟨_, rfl, ⟨_, rfl, rfl⟩⟩⟩ h
 | false =>
  replace h := h.2 (of_decide_eq_false hb)
  refine Seq.us [(13, .int .i64 x1), (14, .slice p0 n0 c0)] ?_
  refine Seq.zg 15 (.call { callee := .builtin .len, args := #[(.tmp 14)], argTypes := #[23] }) 3 (2, false) (.int .i64 (n0 : Int)) (Y.lenS underlying23 rfl rfl) ?_
  refine Seq.us [(16, .bool (decide (((n0 : Int) : Int) < x1))), (17, .bool (decide (((n0 : Int) : Int) < x1)))] ?_
  refine Seq.done ?_
  cases hb : (decide (((n0 : Int) : Int) < x1)) with
  | true =>
   replace h := h.1 (of_decide_eq_true hb)
   refine At.cT 17 K6 K9 ?_
   refine At.s K7 K8 ?_
   refine At.rg 2 [0, 1, 2] ?_
   refine Seq.us [(4, .int .u64 0), (5, .int .i64 0), (6, .int .i64 20)] ?_
   refine Seq.done ?_
   exact At.rt [.tmp 4, .tmp 5, .tmp 6] [(.int .u64 0), (.int .i64 0), (.int .i64 20)] func82 ⟨_, rfl, ⟨_, rfl, ⟨_, rfl, rfl⟩⟩⟩ h
  | false =>
   replace h := h.2 (of_decide_eq_false hb)
   refine At.cF 17 K6 K9 ?_
   refine At.skip ?_
   refine At.s K11 K12 ?_
   refine At.rg 3 [0] ?_
   refine Seq.u 7 (.int .u64 0) ?_
   refine Seq.done ?_
   refine At.s K13 K45 ?_
   refine At.s K14 K15 ?_
   refine At.rg 4 [0] ?_
   refine Seq.u 8 (.int .i64 0) ?_
   refine Seq.done ?_
   refine At.b 0 K16 ?_
   refine At.loop (x := K17) (by kernel_rfl) ?_
   refine At.s K18 K23 ?_
   refine At.s K19 K20 ?_
   exact At.v [(0, (.slice p0 n0 c0)), (1, (.int .i64 x1)), (7, (.int .u64 0)), (8, (.int .i64 0))] (h _)
theorem pt19_of {R : Ending → Hp → Prop} {p0 : Option Addr} {n0 c0 : Nat} {x1 x7 x8 : Int} {σ : Hp} (h : I64 (x1 + x8) ∧ (((x1 + x8) : Int) < (n0 : Int) → I64 (x1 + x8) ∧ ∃ (b30 o30 : Nat), p0 = some ⟨b30, o30, none⟩ ∧ ((0 : Int) ≤ (x1 + x8) ∧ (x1 + x8) < (n0 : Int)) ∧ ∃ x31 : Int, Hp.ld σ ⟨b30, (o30 + Int.toNat (x1 + x8) * 1), none⟩ = some (.int .u8 x31) ∧ ((x8 : Int) = 9 → ((1 : Int) < x31 → R (.returned (.tuple #[(.int .u64 0), (.int .i64 0), (.int .i64 21)])) σ) ∧ (¬ ((1 : Int) < x31) → ((0 : Int) < x8 → ((x31 : Int) = 0 → R (.returned (.tuple #[(.int .u64 0), (.int .i64 0), (.int .i64 21)])) σ) ∧ (¬ ((x31 : Int) = 0) → ∀ x48 : Int, x48 = Go.bits .and .u8 x31 127 → ∀ x49 : Int, x49 = IntKind.u64.wrap x48 → I64 (7 * x8) ∧ ((0 : Int) ≤ (7 * x8) ∧ (7 * x8) ≤ ((IntKind.bits .u64 : Nat) : Int)) ∧ ∀ x52 : Int, x52 = IntKind.u64.wrap (x49 * 2 ^ Int.toNat (7 * x8)) → ∀ x53 : Int, x53 = Go.bits .or .u64 x7 x52 → ((x31 : Int) < 128 → I64 (x1 + x8) ∧ I64 ((x1 + x8) + 1) ∧ R (.returned (.tuple #[(.int .u64 x53), (.int .i64 ((x1 + x8) + 1)), (.int .i64 0)])) σ) ∧ (¬ ((x31 : Int) < 128) → I64 (x8 + 1) ∧ pt19 R ((some ⟨b30, o30, none⟩)) n0 c0 x1 x53 ((x8 + 1)) σ))) ∧ (¬ ((0 : Int) < x8) → ∀ x48 : Int, x48 = Go.bits .and .u8 x31 127 → ∀ x49 : Int, x49 = IntKind.u64.wrap x48 → I64 (7 * x8) ∧ ((0 : Int) ≤ (7 * x8) ∧ (7 * x8) ≤ ((IntKind.bits .u64 : Nat) : Int)) ∧ ∀ x52 : Int, x52 = IntKind.u64.wrap (x49 * 2 ^ Int.toNat (7 * x8)) → ∀ x53 : Int, x53 = Go.bits .or .u64 x7 x52 → ((x31 : Int) < 128 → I64 (x1 + x8) ∧ I64 ((x1 + x8) + 1) ∧ R (.returned (.tuple #[(.int .u64 x53), (.int .i64 ((x1 + x8) + 1)), (.int .i64 0)])) σ) ∧ (¬ ((x31 : Int) < 128) → I64 (x8 + 1) ∧ pt19 R ((some ⟨b30, o30, none⟩)) n0 c0 x1 x53 ((x8 + 1)) σ)))) ∧ (¬ ((x8 : Int) = 9) → ((0 : Int) < x8 → ((x31 : Int) = 0 → R (.returned (.tuple #[(.int .u64 0), (.int .i64 0), (.int .i64 21)])) σ) ∧ (¬ ((x31 : Int) = 0) → ∀ x48 : Int, x48 = Go.bits .and .u8 x31 127 → ∀ x49 : Int, x49 = IntKind.u64.wrap x48 → I64 (7 * x8) ∧ ((0 : Int) ≤ (7 * x8) ∧ (7 * x8) ≤ ((IntKind.bits .u64 : Nat) : Int)) ∧ ∀ x52 : Int, x52 = IntKind.u64.wrap (x49 * 2 ^ Int.toNat (7 * x8)) → ∀ x53 : Int, x53 = Go.bits .or .u64 x7 x52 → ((x31 : Int) < 128 → I64 (x1 + x8) ∧ I64 ((x1 + x8) + 1) ∧ R (.returned (.tuple #[(.int .u64 x53), (.int .i64 ((x1 + x8) + 1)), (.int .i64 0)])) σ) ∧ (¬ ((x31 : Int) < 128) → I64 (x8 + 1) ∧ pt19 R ((some ⟨b30, o30, none⟩)) n0 c0 x1 x53 ((x8 + 1)) σ))) ∧ (¬ ((0 : Int) < x8) → ∀ x48 : Int, x48 = Go.bits .and .u8 x31 127 → ∀ x49 : Int, x49 = IntKind.u64.wrap x48 → I64 (7 * x8) ∧ ((0 : Int) ≤ (7 * x8) ∧ (7 * x8) ≤ ((IntKind.bits .u64 : Nat) : Int)) ∧ ∀ x52 : Int, x52 = IntKind.u64.wrap (x49 * 2 ^ Int.toNat (7 * x8)) → ∀ x53 : Int, x53 = Go.bits .or .u64 x7 x52 → ((x31 : Int) < 128 → I64 (x1 + x8) ∧ I64 ((x1 + x8) + 1) ∧ R (.returned (.tuple #[(.int .u64 x53), (.int .i64 ((x1 + x8) + 1)), (.int .i64 0)])) σ) ∧ (¬ ((x31 : Int) < 128) → I64 (x8 + 1) ∧ pt19 R ((some ⟨b30, o30, none⟩)) n0 c0 x1 x53 ((x8 + 1)) σ)))) ∧ (¬ (((x1 + x8) : Int) < (n0 : Int)) → R (.returned (.tuple #[(.int .u64 0), (.int .i64 0), (.int .i64 20)])) σ)) : pt19 R p0 n0 c0 x1 x7 x8 σ := by
 intro J
 show At (gl R) _ _ _ _
 refine At.rg 5 [0, 1, 2, 3, 4, 5] ?_
 refine Seq.us [(18, .int .i64 x1), (19, .int .i64 x8)] ?_
 obtain ⟨hi, h⟩ := h
 refine Seq.z 20 (.binOp .add 3 (.tmp 18) (.tmp 19) 3) 3 (.int .i64 (x1 + x8)) (Y.addI hi rfl rfl) ?_
 refine Seq.u 21 (.slice p0 n0 c0) ?_
 refine Seq.z 22 (.call { callee := .builtin .len, args := #[(.tmp 21)], argTypes := #[23] }) 3 (.int .i64 (n0 : Int)) (Y.lenS underlying23 rfl rfl) ?_
 refine Seq.u 23 (.bool (decide (((x1 + x8) : Int) < (n0 : Int)))) ?_
 refine Seq.done ?_
 cases hb : (decide (((x1 + x8) : Int) < (n0 : Int))) with
 | true =>
  replace h := h.1 (of_decide_eq_true hb)
  refine At.cT 23 K21 K22 ?_
  refine At.skip ?_
  refine At.s K24 K44 ?_
  refine At.b 1 K25 ?_
  refine At.s K26 K27 ?_
  refine At.rg 7 [0, 1, 2, 3, 4, 5, 6] ?_
  refine Seq.us [(26, .slice p0 n0 c0), (27, .int .i64 x1), (28, .int .i64 x8)] ?_
  obtain ⟨hi, h⟩ := h
  refine Seq.z 29 (.binOp .add 3 (.tmp 27) (.tmp 28) 3) 3 (.int .i64 (x1 + x8)) (Y.addI hi rfl rfl) ?_
  obtain ⟨b30, o30, hq, h⟩ := h
  subst hq
  obtain ⟨hi, h⟩ := h
  refine Seq.z 30 (.indexAddr 23 (.tmp 26) (.tmp 29)) 0 (.pointer (some ⟨b30, (o30 + Int.toNat (x1 + x8) * 1), none⟩)) (Y.idx underlying23 sizeOf5 rfl rfl hi rfl) ?_
  obtain ⟨x31, hl, h⟩ := h
  refine Seq.z 31 (.load 5 (.tmp 30)) 5 (.int .u8 x31) (Y.ld isAgg5 rfl hl) ?_
  refine Seq.u 9 (.int .u8 x31) ?_
  refine Seq.done ?_
  refine At.s K28 K35 ?_
  refine At.s K29 K30 ?_
  refine At.rg 8 [0, 1, 2, 3, 4, 5, 6, 7, 8, 9, 10, 11, 12, 13] ?_
  refine Seq.us [(32, .int .i64 x8), (33, .bool (decide ((x8 : Int) = 9))), (34, .bool (decide ((x8 : Int) = 9)))] ?_
  cases hb : (decide ((x8 : Int) = 9)) with
  | true =>
   replace h := h.1 (of_decide_eq_true hb)
   refine Seq.us [(35, .int .u8 x31), (36, .bool (decide ((1 : Int) < x31))), (37, .bool (decide ((1 : Int) < x31))), (38, .bool (decide ((1 : Int) < x31)))] ?_
   cases hb : (decide ((1 : Int) < x31)) with
   | true =>
    replace h := h.1 (of_decide_eq_true hb)
    refine Seq.n 39 ?_
    refine Seq.n 40 ?_
    refine Seq.n 41 ?_
    refine Seq.n 42 ?_
    refine Seq.n 43 ?_
    refine Seq.n 44 ?_
    refine Seq.u 45 (.bool true) ?_
    refine Seq.done ?_
    refine At.cT 45 K31 K34 ?_
    refine At.s K32 K33 ?_
    refine At.rg 9 [0, 1, 2] ?_
    refine Seq.us [(4, .int .u64 0), (5, .int .i64 0), (6, .int .i64 21)] ?_
    refine Seq.done ?_
    exact At.rt [.tmp 4, .tmp 5, .tmp 6] [(.int .u64 0), (.int .i64 0), (.int .i64 21)] func82 ⟨_, rfl, ⟨_, rfl, ⟨_, rfl, rfl⟩⟩⟩ h
   | false =>
    replace h := h.2 (of_decide_eq_false hb)
    refine Seq.us [(39, .int .i64 x8), (40, .bool (decide ((0 : Int) < x8))), (41, .bool (decide ((0 : Int) < x8)))] ?_
    cases hb : (decide ((0 : Int) < x8)) with
    | true =>
     replace h := h.1 (of_decide_eq_true hb)
     refine Seq.us [(42, .int .u8 x31), (43, .bool (decide ((x31 : Int) = 0))), (44, .bool (decide ((x31 : Int) = 0))), (45, .bool (decide ((x31 : Int) = 0)))] ?_
     refine Seq.done ?_
     cases hb : (decide ((x31 : Int) = 0)) with
     | true =>
      replace h := h.1 (of_decide_eq_true hb)
      refine At.cT 45 K31 K34 ?_
      refine At.s K32 K33 ?_
      refine At.rg 9 [0, 1, 2] ?_
      refine Seq.us [(4, .int .u64 0), (5, .int .i64 0), (6, .int .i64 21)] ?_
      refine Seq.done ?_
      refine At.L [(4, (.int .u64 0)), (5, (.int .i64 0)), (6, (.int .i64 21))] fun J => ?_
      exact At.rt [.tmp 4, .tmp 5, .tmp 6] [(.int .u64 0), (.int .i64 0), (.int .i64 21)] func82 ⟨_, rfl, ⟨_, rfl, ⟨_, rfl, rfl⟩⟩⟩ h
     | false =>
      replace h := h.2 (of_decide_eq_false hb)
      refine At.cF 45 K31 K34 ?_
      refine At.skip ?_
      refine At.s K36 K37 ?_
      refine At.rg 10 [0, 1, 2, 3, 4, 5, 6, 7, 8] ?_
      refine Seq.us [(46, .int .u64 x7), (47, .int .u8 x31)] ?_
      obtain ⟨x48, hwx48⟩ : ∃ y, y = Go.bits .and .u8 x31 127 := ⟨_, rfl⟩
      replace h := h x48 hwx48
      refine Seq.y (d := (some 48)) (op := (.binOp .and 5 (.tmp 47) (.const (.int .u8 127)) 5)) (ty := 5) (v := (.int .u8 x48)) (by kernel_rfl) rfl (hwx48 ▸ Y.bits (by simp) rfl rfl) ?_
      obtain ⟨x49, hwx49⟩ : ∃ y, y = IntKind.u64.wrap x48 := ⟨_, rfl⟩
      replace h := h x49 hwx49
      refine Seq.y (d := (some 49)) (op := (.convert 5 56 (.tmp 48))) (ty := 56) (v := (.int .u64 x49)) (by kernel_rfl) rfl (hwx49 ▸ Y.conv (by kernel_rfl) underlying56 rfl) ?_
      refine Seq.u 50 (.int .i64 x8) ?_
      obtain ⟨hi, h⟩ := h
      refine Seq.z 51 (.binOp .mul 3 (.const (.int .i64 7)) (.tmp 50) 3) 3 (.int .i64 (7 * x8)) (Y.mulI hi rfl rfl) ?_
      obtain ⟨hc, h⟩ := h
      obtain ⟨x52, hwx52⟩ : ∃ y, y = IntKind.u64.wrap (x49 * 2 ^ Int.toNat (7 * x8)) := ⟨_, rfl⟩
      replace h := h x52 hwx52
      refine Seq.y (d := (some 52)) (op := (.binOp .shl 56 (.tmp 49) (.tmp 51) 3)) (ty := 56) (v := (.int .u64 x52)) (by kernel_rfl) rfl (hwx52 ▸ Y.shl hc.1 hc.2 rfl rfl) ?_
      obtain ⟨x53, hwx53⟩ : ∃ y, y = Go.bits .or .u64 x7 x52 := ⟨_, rfl⟩
      replace h := h x53 hwx53
      refine Seq.y (d := (some 53)) (op := (.binOp .or 56 (.tmp 46) (.tmp 52) 56)) (ty := 56) (v := (.int .u64 x53)) (by kernel_rfl) rfl (hwx53 ▸ Y.bits (by simp) rfl rfl) ?_
      refine Seq.u 7 (.int .u64 x53) ?_
      refine Seq.done ?_
      refine At.s K38 K39 ?_
      refine At.rg 11 [0, 1] ?_
      refine Seq.us [(54, .int .u8 x31), (55, .bool (decide ((x31 : Int) < 128)))] ?_
      refine Seq.done ?_
      cases hb : (decide ((x31 : Int) < 128)) with
      | true =>
       replace h := h.1 (of_decide_eq_true hb)
       refine At.cT 55 K40 K43 ?_
       refine At.s K41 K42 ?_
       refine At.rg 12 [0, 1, 2, 3, 4, 5, 6, 7] ?_
       refine Seq.us [(56, .int .u64 x53), (57, .int .i64 x1), (58, .int .i64 x8)] ?_
       obtain ⟨hi, h⟩ := h
       refine Seq.z 59 (.binOp .add 3 (.tmp 57) (.tmp 58) 3) 3 (.int .i64 (x1 + x8)) (Y.addI hi rfl rfl) ?_
       obtain ⟨hi, h⟩ := h
       refine Seq.z 60 (.binOp .add 3 (.tmp 59) (.const (.int .i64 1)) 3) 3 (.int .i64 ((x1 + x8) + 1)) (Y.addI hi rfl rfl) ?_
       refine Seq.us [(4, .int .u64 x53), (5, .int .i64 ((x1 + x8) + 1)), (6, .int .i64 0)] ?_
       refine Seq.done ?_
       exact At.rt [.tmp 4, .tmp 5, .tmp 6] [(.int .u64 x53), (.int .i64 ((x1 + x8) + 1)), (.int .i64 0)] func82 ⟨_, rfl, ⟨_, rfl, ⟨_, rfl, rfl⟩⟩⟩ h
      | false =>
       replace h := h.2 (of_decide_eq_false hb)
       refine At.cF 55 K40 K43 ?_
       refine At.skip ?_
       refine At.inBlock ?_
       refine At.rg 6 [0, 1, 2] ?_
       refine Seq.u 24 (.int .i64 x8) ?_
       obtain ⟨hi, h⟩ := h
       refine Seq.z 25 (.binOp .add 3 (.tmp 24) (.const (.int .i64 1)) 3) 3 (.int .i64 (x8 + 1)) (Y.addI hi rfl rfl) ?_
       refine Seq.u 8 (.int .i64 (x8 + 1)) ?_
       refine Seq.done ?_
       refine At.inLoop ?_
       refine At.s K18 K23 ?_
       refine At.s K19 K20 ?_
       exact At.v [(0, (.slice (some ⟨b30, o30, none⟩) n0 c0)), (1, (.int .i64 x1)), (7, (.int .u64 x53)), (8, (.int .i64 (x8 + 1)))] (h _)
    | false =>
     replace h := h.2 (of_decide_eq_false hb)
     refine Seq.n 42 ?_
     refine Seq.n 43 ?_
     refine Seq.us [(44, .bool false), (45, .bool false)] ?_
     refine Seq.done ?_
     refine At.cF 45 K31 K34 ?_
     refine At.skip ?_
     refine At.s K36 K37 ?_
     refine At.rg 10 [0, 1, 2, 3, 4, 5, 6, 7, 8] ?_
     refine Seq.us [(46, .int .u64 x7), (47, .int .u8 x31)] ?_
     obtain ⟨x48, hwx48⟩ : ∃ y, y = Go.bits .and .u8 x31 127 := ⟨_, rfl⟩
     replace h := h x48 hwx48
     refine Seq.y (d := (some 48)) (op := (.binOp .and 5 (.tmp 47) (.const (.int .u8 127)) 5)) (ty := 5) (v := (.int .u8 x48)) (by kernel_rfl) rfl (hwx48 ▸ Y.bits (by simp) rfl rfl) ?_
     obtain ⟨x49, hwx49⟩ : ∃ y, y = IntKind.u64.wrap x48 := ⟨_, rfl⟩
     replace h := h x49 hwx49
     refine Seq.y (d := (some 49)) (op := (.convert 5 56 (.tmp 48))) (ty := 56) (v := (.int .u64 x49)) (by kernel_rfl) rfl (hwx49 ▸ Y.conv (by kernel_rfl) underlying56 rfl) ?_
     refine Seq.u 50 (.int .i64 x8) ?_
     obtain ⟨hi, h⟩ := h
     refine Seq.z 51 (.binOp .mul 3 (.const (.int .i64 7)) (.tmp 50) 3) 3 (.int .i64 (7 * x8)) (Y.mulI hi rfl rfl) ?_
     obtain ⟨hc, h⟩ := h
     obtain ⟨x52, hwx52⟩ : ∃ y, y = IntKind.u64.wrap (x49 * 2 ^ Int.toNat (7 * x8)) := ⟨_, rfl⟩
     replace h := h x52 hwx52
     refine Seq.y (d := (some 52)) (op := (.binOp .shl 56 (.tmp 49) (.tmp 51) 3)) (ty := 56) (v := (.int .u64 x52)) (by kernel_rfl) rfl (hwx52 ▸ Y.shl hc.1 hc.2 rfl rfl) ?_
     obtain ⟨x53, hwx53⟩ : ∃ y, y = Go.bits .or .u64 x7 x52 := ⟨_, rfl⟩
     replace h := h x53 hwx53
     refine Seq.y (d := (some 53)) (op := (.binOp .or 56 (.tmp 46) (.tmp 52) 56)) (ty := 56) (v := (.int .u64 x53)) (by kernel_rfl) rfl (hwx53 ▸ Y.bits (by simp) rfl rfl) ?_
     refine Seq.u 7 (.int .u64 x53) ?_
     refine Seq.done ?_
     refine At.s K38 K39 ?_
     refine At.rg 11 [0, 1] ?_
     refine Seq.us [(54, .int .u8 x31), (55, .bool (decide ((x31 : Int) < 128)))] ?_
     refine Seq.done ?_
     cases hb : (decide ((x31 : Int) < 128)) with
     | true =>
      replace h := h.1 (of_decide_eq_true hb)
      refine At.cT 55 K40 K43 ?_
      refine At.s K41 K42 ?_
      refine At.rg 12 [0, 1, 2, 3, 4, 5, 6, 7] ?_
      refine Seq.us [(56, .int .u64 x53), (57, .int .i64 x1), (58, .int .i64 x8)] ?_
      obtain ⟨hi, h⟩ := h
      refine Seq.z 59 (.binOp .add 3 (.tmp 57) (.tmp 58) 3) 3 (.int .i64 (x1 + x8)) (Y.addI hi rfl rfl) ?_
      obtain ⟨hi, h⟩ := h
      refine Seq.z 60 (.binOp .add 3 (.tmp 59) (.const (.int .i64 1)) 3) 3 (.int .i64 ((x1 + x8) + 1)) (Y.addI hi rfl rfl) ?_
      refine Seq.us [(4, .int .u64 x53), (5, .int .i64 ((x1 + x8) + 1)), (6, .int .i64 0)] ?_
      refine Seq.done ?_
      refine At.L [(4, (.int .u64 x53)), (5, (.int .i64 ((x1 + x8) + 1))), (6, (.int .i64 0))] fun J => ?_
      exact At.rt [.tmp 4, .tmp 5, .tmp 6] [(.int .u64 x53), (.int .i64 ((x1 + x8) + 1)), (.int .i64 0)] func82 ⟨_, rfl, ⟨_, rfl, ⟨_, rfl, rfl⟩⟩⟩ h
     | false =>
      replace h := h.2 (of_decide_eq_false hb)
      refine At.cF 55 K40 K43 ?_
      refine At.skip ?_
      refine At.inBlock ?_
      refine At.rg 6 [0, 1, 2] ?_
      refine Seq.u 24 (.int .i64 x8) ?_
      obtain ⟨hi, h⟩ := h
      refine Seq.z 25 (.binOp .add 3 (.tmp 24) (.const (.int .i64 1)) 3) 3 (.int .i64 (x8 + 1)) (Y.addI hi rfl rfl) ?_
      refine Seq.u 8 (.int .i64 (x8 + 1)) ?_
      refine Seq.done ?_
      refine At.inLoop ?_
      refine At.s K18 K23 ?_
      refine At.s K19 K20 ?_
      exact At.v [(0, (.slice (some ⟨b30, o30, none⟩) n0 c0)), (1, (.int .i64 x1)), (7, (.int .u64 x53)), (8, (.int .i64 (x8 + 1)))] (h _)
  | false =>
   replace h := h.2 (of_decide_eq_false hb)
   refine Seq.n 35 ?_
   refine Seq.n 36 ?_
   refine Seq.us [(37, .bool false), (38, .bool false), (39, .int .i64 x8), (40, .bool (decide ((0 : Int) < x8))), (41, .bool (decide ((0 : Int) < x8)))] ?_
   cases hb : (decide ((0 : Int) < x8)) with
   | true =>
    replace h := h.1 (of_decide_eq_true hb)
    refine Seq.us [(42, .int .u8 x31), (43, .bool (decide ((x31 : Int) = 0))), (44, .bool (decide ((x31 : Int) = 0))), (45, .bool (decide ((x31 : Int) = 0)))] ?_
    refine Seq.done ?_
    cases hb : (decide ((x31 : Int) = 0)) with
    | true =>
     replace h := h.1 (of_decide_eq_true hb)
     refine At.cT 45 K31 K34 ?_
     refine At.s K32 K33 ?_
     refine At.rg 9 [0, 1, 2] ?_
     refine Seq.us [(4, .int .u64 0), (5, .int .i64 0), (6, .int .i64 21)] ?_
     refine Seq.done ?_
     exact At.rt [.tmp 4, .tmp 5, .tmp 6] [(.int .u64 0), (.int .i64 0), (.int .i64 21)] func82 ⟨_, rfl, ⟨_, rfl, ⟨_, rfl, rfl⟩⟩⟩ h
    | false =>
     replace h := h.2 (of_decide_eq_false hb)
     refine At.cF 45 K31 K34 ?_
     refine At.skip ?_
     refine At.s K36 K37 ?_
     refine At.rg 10 [0, 1, 2, 3, 4, 5, 6, 7, 8] ?_
     refine Seq.us [(46, .int .u64 x7), (47, .int .u8 x31)] ?_
     obtain ⟨x48, hwx48⟩ : ∃ y, y = Go.bits .and .u8 x31 127 := ⟨_, rfl⟩
     replace h := h x48 hwx48
     refine Seq.y (d := (some 48)) (op := (.binOp .and 5 (.tmp 47) (.const (.int .u8 127)) 5)) (ty := 5) (v := (.int .u8 x48)) (by kernel_rfl) rfl (hwx48 ▸ Y.bits (by simp) rfl rfl) ?_
     obtain ⟨x49, hwx49⟩ : ∃ y, y = IntKind.u64.wrap x48 := ⟨_, rfl⟩
     replace h := h x49 hwx49
     refine Seq.y (d := (some 49)) (op := (.convert 5 56 (.tmp 48))) (ty := 56) (v := (.int .u64 x49)) (by kernel_rfl) rfl (hwx49 ▸ Y.conv (by kernel_rfl) underlying56 rfl) ?_
     refine Seq.u 50 (.int .i64 x8) ?_
     obtain ⟨hi, h⟩ := h
     refine Seq.z 51 (.binOp .mul 3 (.const (.int .i64 7)) (.tmp 50) 3) 3 (.int .i64 (7 * x8)) (Y.mulI hi rfl rfl) ?_
     obtain ⟨hc, h⟩ := h
     obtain ⟨x52, hwx52⟩ : ∃ y, y = IntKind.u64.wrap (x49 * 2 ^ Int.toNat (7 * x8)) := ⟨_, rfl⟩
     replace h := h x52 hwx52
     refine Seq.y (d := (some 52)) (op := (.binOp .shl 56 (.tmp 49) (.tmp 51) 3)) (ty := 56) (v := (.int .u64 x52)) (by kernel_rfl) rfl (hwx52 ▸ Y.shl hc.1 hc.2 rfl rfl) ?_
     obtain ⟨x53, hwx53⟩ : ∃ y, y = Go.bits .or .u64 x7 x52 := ⟨_, rfl⟩
     replace h := h x53 hwx53
     refine Seq.y (d := (some 53)) (op := (.binOp .or 56 (.tmp 46) (.tmp 52) 56)) (ty := 56) (v := (.int .u64 x53)) (by kernel_rfl) rfl (hwx53 ▸ Y.bits (by simp) rfl rfl) ?_
     refine Seq.u 7 (.int .u64 x53) ?_
     refine Seq.done ?_
     refine At.s K38 K39 ?_
     refine At.rg 11 [0, 1] ?_
     refine Seq.us [(54, .int .u8 x31), (55, .bool (decide ((x31 : Int) < 128)))] ?_
     refine Seq.done ?_
     cases hb : (decide ((x31 : Int) < 128)) with
     | true =>
      replace h := h.1 (of_decide_eq_true hb)
      refine At.cT 55 K40 K43 ?_
      refine At.s K41 K42 ?_
      refine At.rg 12 [0, 1, 2, 3, 4, 5, 6, 7] ?_
      refine Seq.us [(56, .int .u64 x53), (57, .int .i64 x1), (58, .int .i64 x8)] ?_
      obtain ⟨hi, h⟩ := h
      refine Seq.z 59 (.binOp .add 3 (.tmp 57) (.tmp 58) 3) 3 (.int .i64 (x1 + x8)) (Y.addI hi rfl rfl) ?_
      obtain ⟨hi, h⟩ := h
      refine Seq.z 60 (.binOp .add 3 (.tmp 59) (.const (.int .i64 1)) 3) 3 (.int .i64 ((x1 + x8) + 1)) (Y.addI hi rfl rfl) ?_
      refine Seq.us [(4, .int .u64 x53), (5, .int .i64 ((x1 + x8) + 1)), (6, .int .i64 0)] ?_
      refine Seq.done ?_
      exact At.rt [.tmp 4, .tmp 5, .tmp 6] [(.int .u64 x53), (.int .i64 ((x1 + x8) + 1)), (.int .i64 0)] func82 ⟨_, rfl, ⟨_, rfl, ⟨_, rfl, rfl⟩⟩⟩ h
     | false =>
      replace h := h.2 (of_decide_eq_false hb)
      refine At.cF 55 K40 K43 ?_
      refine At.skip ?_
      refine At.inBlock ?_
      refine At.rg 6 [0, 1, 2] ?_
      refine Seq.u 24 (.int .i64 x8) ?_
      obtain ⟨hi, h⟩ := h
      refine Seq.z 25 (.binOp .add 3 (.tmp 24) (.const (.int .i64 1)) 3) 3 (.int .i64 (x8 + 1)) (Y.addI hi rfl rfl) ?_
      refine Seq.u 8 (.int .i64 (x8 + 1)) ?_
      refine Seq.done ?_
      refine At.L [(0, (.slice (some ⟨b30, o30, none⟩) n0 c0)), (1, (.int .i64 x1)), (7, (.int .u64 x53)), (8, (.int .i64 (x8 + 1)))] fun J => ?_
      refine At.inLoop ?_
      refine At.s K18 K23 ?_
      refine At.s K19 K20 ?_
      exact At.v [(0, (.slice (some ⟨b30, o30, none⟩) n0 c0)), (1, (.int .i64 x1)), (7, (.int .u64 x53)), (8, (.int .i64 (x8 + 1)))] (h _)
   | false =>
    replace h := h.2 (of_decide_eq_false hb)
    refine Seq.n 42 ?_
    refine Seq.n 43 ?_
    refine Seq.us [(44, .bool false), (45, .bool false)] ?_
    refine Seq.done ?_
    refine At.cF 45 K31 K34 ?_
    refine At.skip ?_
    refine At.s K36 K37 ?_
    refine At.rg 10 [0, 1, 2, 3, 4, 5, 6, 7, 8] ?_
    refine Seq.us [(46, .int .u64 x7), (47, .int .u8 x31)] ?_
    obtain ⟨x48, hwx48⟩ : ∃ y, y = Go.bits .and .u8 x31 127 := ⟨_, rfl⟩
    replace h := h x48 hwx48
    refine Seq.y (d := (some 48)) (op := (.binOp .and 5 (.tmp 47) (.const (.int .u8 127)) 5)) (ty := 5) (v := (.int .u8 x48)) (by kernel_rfl) rfl (hwx48 ▸ Y.bits (by simp) rfl rfl) ?_
    obtain ⟨x49, hwx49⟩ : ∃ y, y = IntKind.u64.wrap x48 := ⟨_, rfl⟩
    replace h := h x49 hwx49
    refine Seq.y (d := (some 49)) (op := (.convert 5 56 (.tmp 48))) (ty := 56) (v := (.int .u64 x49)) (by kernel_rfl) rfl (hwx49 ▸ Y.conv (by kernel_rfl) underlying56 rfl) ?_
    refine Seq.u 50 (.int .i64 x8) ?_
    obtain ⟨hi, h⟩ := h
    refine Seq.z 51 (.binOp .mul 3 (.const (.int .i64 7)) (.tmp 50) 3) 3 (.int .i64 (7 * x8)) (Y.mulI hi rfl rfl) ?_
    obtain ⟨hc, h⟩ := h
    obtain ⟨x52, hwx52⟩ : ∃ y, y = IntKind.u64.wrap (x49 * 2 ^ Int.toNat (7 * x8)) := ⟨_, rfl⟩
    replace h := h x52 hwx52
    refine Seq.y (d := (some 52)) (op := (.binOp .shl 56 (.tmp 49) (.tmp 51) 3)) (ty := 56) (v := (.int .u64 x52)) (by kernel_rfl) rfl (hwx52 ▸ Y.shl hc.1 hc.2 rfl rfl) ?_
    obtain ⟨x53, hwx53⟩ : ∃ y, y = Go.bits .or .u64 x7 x52 := ⟨_, rfl⟩
    replace h := h x53 hwx53
    refine Seq.y (d := (some 53)) (op := (.binOp .or 56 (.tmp 46) (.tmp 52) 56)) (ty := 56) (v := (.int .u64 x53)) (by kernel_rfl) rfl (hwx53 ▸ Y.bits (by simp) rfl rfl) ?_
    refine Seq.u 7 (.int .u64 x53) ?_
    refine Seq.done ?_
    refine At.s K38 K39 ?_
    refine At.rg 11 [0, 1] ?_
    refine Seq.us [(54, .int .u8 x31), (55, .bool (decide ((x31 : Int) < 128)))] ?_
    refine Seq.done ?_
    cases hb : (decide ((x31 : Int) < 128)) with
    | true =>
     replace h := h.1 (of_decide_eq_true hb)
     refine At.cT 55 K40 K43 ?_
     refine At.s K41 K42 ?_
     refine At.rg 12 [0, 1, 2, 3, 4, 5, 6, 7] ?_
     refine Seq.us [(56, .int .u64 x53), (57, .int .i64 x1), (58, .int .i64 x8)] ?_
     obtain ⟨hi, h⟩ := h
     refine Seq.z 59 (.binOp .add 3 (.tmp 57) (.tmp 58) 3) 3 (.int .i64 (x1 + x8)) (Y.addI hi rfl rfl) ?_
     obtain ⟨hi, h⟩ := h
     refine Seq.z 60 (.binOp .add 3 (.tmp 59) (.const (.int .i64 1)) 3) 3 (.int .i64 ((x1 + x8) + 1)) (Y.addI hi rfl rfl) ?_
     refine Seq.us [(4, .int .u64 x53), (5, .int .i64 ((x1 + x8) + 1)), (6, .int .i64 0)] ?_
     refine Seq.done ?_
     exact At.rt [.tmp 4, .tmp 5, .tmp 6] [(.int .u64 x53), (.int .i64 ((x1 + x8) + 1)), (.int .i64 0)] func82 ⟨_, rfl, ⟨_, rfl, ⟨_, rfl, rfl⟩⟩⟩ h
    | false =>
     replace h := h.2 (of_decide_eq_false hb)
     refine At.cF 55 K40 K43 ?_
     refine At.skip ?_
     refine At.inBlock ?_
     refine At.rg 6 [0, 1, 2] ?_
     refine Seq.u 24 (.int .i64 x8) ?_
     obtain ⟨hi, h⟩ := h
     refine Seq.z 25 (.binOp .add 3 (.tmp 24) (.const (.int .i64 1)) 3) 3 (.int .i64 (x8 + 1)) (Y.addI hi rfl rfl) ?_
     refine Seq.u 8 (.int .i64 (x8 + 1)) ?_
     refine Seq.done ?_
     refine At.inLoop ?_
     refine At.s K18 K23 ?_
     refine At.s K19 K20 ?_
     exact At.v [(0, (.slice (some ⟨b30, o30, none⟩) n0 c0)), (1, (.int .i64 x1)), (7, (.int .u64 x53)), (8, (.int .i64 (x8 + 1)))] (h _)
 | false =>
  replace h := h.2 (of_decide_eq_false hb)
  refine At.cF 23 K21 K22 ?_
  refine At.x 0 [.code K45] ?_
  refine At.s K46 K47 ?_
  refine At.rg 13 [0, 1, 2] ?_
  refine Seq.us [(4, .int .u64 0), (5, .int .i64 0), (6, .int .i64 20)] ?_
  refine Seq.done ?_
  exact At.rt [.tmp 4, .tmp 5, .tmp 6] [(.int .u64 0), (.int .i64 0), (.int .i64 20)] func82 ⟨_, rfl, ⟨_, rfl, ⟨_, rfl, rfl⟩⟩⟩ h
end codec_Uint
namespace codec_Unframe
abbrev fid : Nat := 105
noncomputable def K0 := f105.body.getD .skip
def K1 := cl K0
def K2 := cr K0
def K3 := cl K2
def K4 := cr K2
def K5 := cl K4
def K6 := cr K4
def K7 := cl K6
def K8 := cl K7
def K9 := cr K7
def K10 := cl K9
def K11 := cl K10
def K12 := cr K10
def K13 := cr K9
def K14 := cr K6
def K15 := cl K14
def K16 := cr K14
abbrev gl (R : Ending → Hp → Prop) : Gl := Gl.fn prog 105 30 R
theorem start {R : Ending → Hp → Prop} {p0 : Option Addr} {n0 c0 : Nat} {x1 : Int} {σ : Hp} (h : ∀ b13 : Nat, σ b13 = none → Spec prog 119 #[(.func (.func 120) #[(.pointer (some ⟨b13, 0, none⟩))] #[]), (.func (.func 121) #[(.pointer (some ⟨b13, 0, none⟩))] #[])] (Hp.set σ b13 (.cells #[(.slice p0 n0 c0), (.int .i64 x1)] 150 (0, 0))) (Cont R (fun v σ1 => ∃ p19a : Option Addr, ∃ n19a : Nat, ∃ c19a : Nat, ∃ x19b : Int, v = (.tuple #[(.slice p19a n19a c19a), (.int .i64 x19b)]) ∧ ((x19b : Int) ≠ 0 → R (.returned (.tuple #[(.slice none 0 0), (.int .i64 0), (.int .i64 x19b)])) σ1) ∧ (¬ ((x19b : Int) ≠ 0) → ∃ x29 : Int, Hp.ld σ1 ⟨b13, 1, none⟩ = some (.int .i64 x29) ∧ R (.returned (.tuple #[(.slice p19a n19a c19a), (.int .i64 x29), (.int .i64 0)])) σ1)))) : Spec prog 105 #[(.slice p0 n0 c0), (.int .i64 x1)] σ R := by
 refine Spec.of_at (fn := f105) (c := K0) func105 (by kernel_rfl) (Nat.le_of_ble_eq_true (by kernel_rfl)) (fun e he => ?_)
 refine At.ofL (l := [(0, (.slice p0 n0 c0)), (1, (.int .i64 x1))]) ⟨he 0, he 1, trivial⟩ (fun J => ?_)
 show At (gl R) _ _ _ _
 refine At.s K1 K2 ?_
 refine At.rg 0 [0, 1, 2] ?_
 refine Seq.us [(4, .slice none 0 0), (5, .int .i64 0), (6, .int .i64 0)] ?_
 refine Seq.done ?_
 refine At.s K3 K4 ?_
 refine At.rg 1 [0, 1, 2, 3, 4] ?_
 refine Seq.us [(10, .slice p0 n0 c0), (11, .int .i64 x1)] ?_
 refine Seq.z 12 (.build 150 #[(0, (.tmp 10)), (1, (.tmp 11))]) 150 (.agg #[(.slice p0 n0 c0), (.int .i64 x1)]) (Y.build (vs := [(0, (.slice p0 n0 c0)), (1, (.int .i64 x1))]) rfl (by kernel_rfl)) ?_
 refine Seq.o ?_
 refine OpTo.boxO (T := 150) (d := (some 13)) (ty := 148) (x := (.tmp 12)) (gd := none) (cs := #[(.slice p0 n0 c0), (.int .i64 x1)]) (by kernel_rfl) rfl rfl rfl (fun b13 hn => ?_)
 replace h := h b13 hn
 refine Seq.u 7 (.pointer (some ⟨b13, 0, none⟩)) ?_
 refine Seq.done ?_
 refine At.s K5 K6 ?_
 refine At.rg 2 [0, 1, 2, 3, 4, 5, 6, 7, 8, 9] ?_
 refine Seq.u 15 (.pointer (some ⟨b13, 0, none⟩)) ?_
 refine Seq.z 16 (.makeFunc (.func 120) #[(.tmp 15)] #[]) 152 (.func (.func 120) #[(.pointer (some ⟨b13, 0, none⟩))] #[]) (Y.makeFunc rfl rfl) ?_
 refine Seq.u 17 (.pointer (some ⟨b13, 0, none⟩)) ?_
 refine Seq.z 18 (.makeFunc (.func 121) #[(.tmp 17)] #[]) 153 (.func (.func 121) #[(.pointer (some ⟨b13, 0, none⟩))] #[]) (Y.makeFunc rfl rfl) ?_
 refine Seq.o ?_
 refine OpTo.cl (some 19) call119 (h.cont fun v σ1 h2 => ?_); replace h := h2; clear h2
 obtain ⟨p19a, n19a, c19a, x19b, rfl, h⟩ := h
 refine Seq.us [(14, .tuple #[(.slice p19a n19a c19a), (.int .i64 x19b)]), (20, .slice p19a n19a c19a), (21, .int .i64 x19b), (8, .slice p19a n19a c19a), (9, .int .i64 x19b)] ?_
 refine Seq.done ?_
 refine At.s K7 K14 ?_
 refine At.s K8 K9 ?_
 refine At.rg 3 [0, 1] ?_
 refine Seq.us [(22, .int .i64 x19b), (23, .bool (decide ((x19b : Int) ≠ 0)))] ?_
 refine Seq.done ?_
 cases hb : (decide ((x19b : Int) ≠ 0)) with
 | true =>
  replace h := h.1 (of_decide_eq_true hb)
  refine At.cT 23 K10 K13 ?_
  refine At.s K11 K12 ?_
  refine At.rg 4 [0, 1, 2, 3] ?_
  refine Seq.us [(24, .int .i64 x19b), (4, .slice none 0 0), (5, .int .i64 0), (6, .int .i64 x19b)] ?_
  refine Seq.done ?_
  exact At.rt [.tmp 4, .tmp 5, .tmp 6] [(.slice none 0 0), (.int .i64 0), (.int .i64 x19b)] func105 ⟨_, rfl, ⟨_, rfl, ⟨_, rfl, rfl⟩⟩⟩ h
 | false =>
  replace h := h.2 (of_decide_eq_false hb)
  refine At.cF 23 K10 K13 ?_
  refine At.skip ?_
  refine At.s K15 K16 ?_
  refine At.draw (id := 5) (ops := cO K15) (n := 8) (q := none) (plan := [(0, true), (1, true), (2, true), (3, true), (4, true), (5, true), (6, true), (7, true)]) (tl := []) mixed (by kernel_rfl) (by kernel_rfl) ?_
  refine Head.u 25 (.slice p19a n19a c19a) ?_
  refine Head.u 26 (.pointer (some ⟨b13, 0, none⟩)) ?_
  refine Head.z 27 (.nilCheck (.tmp 26)) 0 (.pointer (some ⟨b13, 0, none⟩)) (Y.nilCheck rfl) ?_
  refine Head.z 28 (.fieldAddr 150 (.tmp 27) 1) 0 (.pointer (some ⟨b13, 1, none⟩)) (Y.fieldAddr (fd := (fieldOf prog 150 1)) underlying150 (by kernel_rfl) sizeOf3 rfl rfl) ?_
  obtain ⟨x29, hl, h⟩ := h
  refine Head.z 29 (.load 3 (.tmp 28)) 3 (.int .i64 x29) (Y.ld isAgg3 rfl hl) ?_
  refine Head.u 4 (.slice p19a n19a c19a) ?_
  refine Head.u 5 (.int .i64 x29) ?_
  refine Head.u 6 (.int .i64 0) ?_
  refine Head.done ?_
  refine Seq.done ?_
  exact At.rt [.tmp 4, .tmp 5, .tmp 6] [(.slice p19a n19a c19a), (.int .i64 x29), (.int .i64 0)] func105 ⟨_, rfl, ⟨_, rfl, ⟨_, rfl, rfl⟩⟩⟩ h
end codec_Unframe
namespace codec_both
abbrev fid : Nat := 119
noncomputable def K0 := f119.body.getD .skip
def K1 := cl K0
def K2 := cr K0
def K3 := cl K2
def K4 := cr K2
def K5 := cl K4
def K6 := cl K5
def K7 := cr K5
def K8 := cl K7
def K9 := cl K8
def K10 := cr K8
def K11 := cr K7
def K12 := cr K4
def K13 := cl K12
def K14 := cr K12
abbrev gl (R : Ending → Hp → Prop) : Gl := Gl.fn prog 119 21 R
theorem start {R : Ending → Hp → Prop} {v0 v1 : Value} {σ : Hp} (h : ∃ (f10 : Nat) (fst10 cap10 : Array Value), v0 = .func (.func f10) fst10 cap10 ∧ Enters prog f10 ∧ Spec prog f10 (fst10 ++ #[] ++ cap10) σ (Cont R (fun v σ1 => ∃ x10a : Int, ∃ x10b : Int, v = (.tuple #[(.int .i64 x10a), (.int .i64 x10b)]) ∧ ((x10b : Int) ≠ 0 → R (.returned (.tuple #[(.slice none 0 0), (.int .i64 x10b)])) σ1) ∧ (¬ ((x10b : Int) ≠ 0) → ∃ (f18 : Nat) (fst18 cap18 : Array Value), v1 = .func (.func f18) fst18 cap18 ∧ Enters prog f18 ∧ Spec prog f18 (fst18 ++ #[(.int .i64 x10a)] ++ cap18) σ1 (Cont R (fun v_2 σ1_2 => ∃ p18a : Option Addr, ∃ n18a : Nat, ∃ c18a : Nat, ∃ x18b : Int, v_2 = (.tuple #[(.slice p18a n18a c18a), (.int .i64 x18b)]) ∧ R (.returned (.tuple #[(.slice p18a n18a c18a), (.int .i64 x18b)])) σ1_2)))))) : Spec prog 119 #[v0, v1] σ R := by
 refine Spec.of_at (fn := f119) (c := K0) func119 (by kernel_rfl) (Nat.le_of_ble_eq_true (by kernel_rfl)) (fun e he => ?_)
 refine At.ofL (l := [(0, v0), (1, v1)]) ⟨he 0, he 1, trivial⟩ (fun J => ?_)
 show At (gl R) _ _ _ _
 refine At.s K1 K2 ?_
 refine At.rg 0 [0, 1] ?_
 refine Seq.us [(4, .slice none 0 0), (5, .int .i64 0)] ?_
 refine Seq.done ?_
 refine At.s K3 K4 ?_
 refine At.rg 1 [0, 1, 2, 3, 4, 5, 6] ?_
 refine Seq.u 9 v0 ?_
 obtain ⟨f10, fst10, cap10, hfv, hen, h⟩ := h
 refine Seq.o ?_
 refine OpTo.callE (g := (gl R)) (f := f10) (fst := fst10) (cap := cap10) (vs := #[]) (u := v0) (d := (some 10)) (x := (.tmp 9)) (xs := #[]) (ts := #[]) (ty := 173) (gd := none) (by kernel_rfl) rfl rfl rfl rfl hfv hen (h.cont (fun v σ1 h2 => ?_)); replace h := h2; clear h2
 obtain ⟨x10a, x10b, rfl, h⟩ := h
 refine Seq.us [(8, .tuple #[(.int .i64 x10a), (.int .i64 x10b)]), (11, .int .i64 x10a), (12, .int .i64 x10b), (6, .int .i64 x10a), (7, .int .i64 x10b)] ?_
 refine Seq.done ?_
 refine At.s K5 K12 ?_
 refine At.s K6 K7 ?_
 refine At.rg 2 [0, 1] ?_
 refine Seq.us [(13, .int .i64 x10b), (14, .bool (decide ((x10b : Int) ≠ 0)))] ?_
 refine Seq.done ?_
 cases hb : (decide ((x10b : Int) ≠ 0)) with
 | true =>
  replace h := h.1 (of_decide_eq_true hb)
  refine At.cT 14 K8 K11 ?_
  refine At.s K9 K10 ?_
  refine At.rg 3 [0, 1, 2] ?_
  refine Seq.us [(15, .int .i64 x10b), (4, .slice none 0 0), (5, .int .i64 x10b)] ?_
  refine Seq.done ?_
  exact At.rt [.tmp 4, .tmp 5] [(.slice none 0 0), (.int .i64 x10b)] func119 ⟨_, rfl, ⟨_, rfl, rfl⟩⟩ h
 | false =>
  replace h := h.2 (of_decide_eq_false hb)
  refine At.cF 14 K8 K11 ?_
  refine At.skip ?_
  refine At.s K13 K14 ?_
  refine At.rg 4 [0, 1, 2, 3, 4, 5, 6] ?_
  refine Seq.us [(16, v1), (17, .int .i64 x10a)] ?_
  obtain ⟨f18, fst18, cap18, hfv, hen, h⟩ := h
  refine Seq.o ?_
  refine OpTo.callE (g := (gl R)) (f := f18) (fst := fst18) (cap := cap18) (vs := #[(.int .i64 x10a)]) (u := v1) (d := (some 18)) (x := (.tmp 16)) (xs := #[(.tmp 17)]) (ts := #[3]) (ty := 34) (gd := none) (by kernel_rfl) rfl rfl rfl rfl hfv hen (h.cont (fun v_2 σ1_2 h2 => ?_)); replace h := h2; clear h2
  obtain ⟨p18a, n18a, c18a, x18b, rfl, h⟩ := h
  refine Seq.us [(19, .slice p18a n18a c18a), (20, .int .i64 x18b), (4, .slice p18a n18a c18a), (5, .int .i64 x18b)] ?_
  refine Seq.done ?_
  exact At.rt [.tmp 4, .tmp 5] [(.slice p18a n18a c18a), (.int .i64 x18b)] func119 ⟨_, rfl, ⟨_, rfl, rfl⟩⟩ h
end codec_both
namespace codec_reader_length
abbrev fid : Nat := 120
noncomputable def K0 := f120.body.getD .skip
def K1 := cl K0
def K2 := cr K0
def K3 := cl K2
def K4 := cr K2
def K5 := cl K4
def K6 := cr K4
def K7 := cl K6
def K8 := cl K7
def K9 := cl K8
def K10 := cr K8
def K11 := cl K10
def K12 := cl K11
def K13 := cr K11
def K14 := cr K10
def K15 := cl K14
def K16 := cr K14
def K17 := cl K16
def K18 := cl K17
def K19 := cr K17
def K20 := cr K16
def K21 := cr K6
def K22 := cl K21
def K23 := cr K21
abbrev gl (R : Ending → Hp → Prop) : Gl := Gl.fn prog 120 33 R
theorem start {R : Ending → Hp → Prop} {q0 : Option Addr} {σ : Hp} (h : ∃ (b9 o9 : Nat), q0 = some ⟨b9, o9, none⟩ ∧ ∃ p11 : Option Addr, ∃ n11 : Nat, ∃ c11 : Nat, Hp.ld σ ⟨b9, o9, none⟩ = some (.slice p11 n11 c11) ∧ ∃ x15 : Int, Hp.ld σ ⟨b9, (o9 + 1), none⟩ = some (.int .i64 x15) ∧ Spec prog 82 #[(.slice p11 n11 c11), (.int .i64 x15)] σ (Cont R (fun v σ1 => ∃ x16a : Int, ∃ x16b : Int, ∃ x16c : Int, v = (.tuple #[(.int .u64 x16a), (.int .i64 x16b), (.int .i64 x16c)]) ∧ Eff prog (Instr.storeAt 3 (.pointer (some ⟨b9, (o9 + 1), none⟩)) (.int .i64 x16b)) σ1 (fun _ σ1_2 => ((x16c : Int) ≠ 0 → R (.returned (.tuple #[(.int .i64 0), (.int .i64 x16c)])) σ1_2) ∧ (¬ ((x16c : Int) ≠ 0) → ((65536 : Int) < x16a → R (.returned (.tuple #[(.int .i64 0), (.int .i64 23)])) σ1_2) ∧ (¬ ((65536 : Int) < x16a) → ∀ x32 : Int, x32 = IntKind.i64.wrap x16a → R (.returned (.tuple #[(.int .i64 x32), (.int .i64 0)])) σ1_2)))))) : Spec prog 120 #[(.pointer q0)] σ R := by
 refine Spec.of_at (fn := f120) (c := K0) func120 (by kernel_rfl) (Nat.le_of_ble_eq_true (by kernel_rfl)) (fun e he => ?_)
 refine At.ofL (l := [(0, (.pointer q0))]) ⟨he 0, trivial⟩ (fun J => ?_)
 show At (gl R) _ _ _ _
 refine At.s K1 K2 ?_
 refine At.rg 0 [0, 1] ?_
 refine Seq.us [(2, .int .i64 0), (3, .int .i64 0)] ?_
 refine Seq.done ?_
 refine At.s K3 K4 ?_
 refine At.draw (id := 1) (ops := cO K3) (n := 16) (q := (some [])) (plan := [(0, true), (1, true), (2, true), (3, true), (4, true), (5, true), (6, true), (7, true), (8, false), (9, true), (10, true), (11, true), (12, true), (13, true), (14, true), (15, true)]) (tl := []) mixed (by kernel_rfl) (by kernel_rfl) ?_
 refine Head.u 8 (.pointer q0) ?_
 obtain ⟨b9, o9, hq, h⟩ := h
 subst hq
 refine Head.z 9 (.nilCheck (.tmp 8)) 0 (.pointer (some ⟨b9, o9, none⟩)) (Y.nilCheck rfl) ?_
 refine Head.z 10 (.fieldAddr 150 (.tmp 9) 0) 0 (.pointer (some ⟨b9, o9, none⟩)) (Y.fieldAddr (fd := (fieldOf prog 150 0)) underlying150 (by kernel_rfl) sizeOf23 rfl rfl) ?_
 obtain ⟨p11, n11, c11, hl, h⟩ := h
 refine Head.yl b9 [[8]] rfl (by kernel_rfl) (d := (some 11)) (op := (.load 23 (.tmp 10))) (ty := 23) (v := (.slice p11 n11 c11)) (by kernel_rfl) rfl (Y.ld isAgg23 rfl (lim_ld hl)) ?_
 refine Head.u 12 (.pointer (some ⟨b9, o9, none⟩)) ?_
 refine Head.z 13 (.nilCheck (.tmp 12)) 0 (.pointer (some ⟨b9, o9, none⟩)) (Y.nilCheck rfl) ?_
 refine Head.z 14 (.fieldAddr 150 (.tmp 13) 1) 0 (.pointer (some ⟨b9, (o9 + 1), none⟩)) (Y.fieldAddr (fd := (fieldOf prog 150 1)) underlying150 (by kernel_rfl) sizeOf3 rfl rfl) ?_
 obtain ⟨x15, hl, h⟩ := h
 refine Head.yl b9 [[8]] rfl (by kernel_rfl) (d := (some 15)) (op := (.load 3 (.tmp 14))) (ty := 3) (v := (.int .i64 x15)) (by kernel_rfl) rfl (Y.ld isAgg3 rfl (lim_ld hl)) ?_
 refine Head.o (q' := (some [])) rfl ?_
 refine OpTo.cl (some 16) call82 (h.cont fun v σ1 h2 => ?_); replace h := h2; clear h2
 obtain ⟨x16a, x16b, x16c, rfl, h⟩ := h
 refine ⟨⟨fun _ h => h, kp_q (L := []) Kp.nil⟩, ?_⟩
 refine Head.u 7 (.tuple #[(.int .u64 x16a), (.int .i64 x16b), (.int .i64 x16c)]) ?_
 refine Head.u 17 (.int .u64 x16a) ?_
 refine Head.u 18 (.int .i64 x16b) ?_
 refine Head.u 19 (.int .i64 x16c) ?_
 refine Head.u 4 (.int .u64 x16a) ?_
 refine Head.u 5 (.int .i64 x16b) ?_
 refine Head.u 6 (.int .i64 x16c) ?_
 refine Head.done ?_
 refine Seq.done ?_
 refine At.s K5 K6 ?_
 refine At.rg 2 [0, 1, 2, 3, 4] ?_
 refine Seq.us [(20, .pointer (some ⟨b9, o9, none⟩)), (21, .int .i64 x16b)] ?_
 refine Seq.z 22 (.nilCheck (.tmp 20)) 0 (.pointer (some ⟨b9, o9, none⟩)) (Y.nilCheck rfl) ?_
 refine Seq.z 23 (.fieldAddr 150 (.tmp 22) 1) 0 (.pointer (some ⟨b9, (o9 + 1), none⟩)) (Y.fieldAddr (fd := (fieldOf prog 150 1)) underlying150 (by kernel_rfl) sizeOf3 rfl rfl) ?_
 refine Seq.o ?_
 refine OpTo.store (T := 3) (ty := 0) (x := (.tmp 23)) (y := (.tmp 21)) (p := (.pointer (some ⟨b9, (o9 + 1), none⟩))) (v := (.int .i64 x16b)) (gd := none) (by kernel_rfl) rfl rfl rfl (h.mono (fun _ σ1_2 h2 => ?_)); replace h := h2; clear h2
 refine Seq.done ?_
 refine At.s K7 K21 ?_
 refine At.b 0 K8 ?_
 refine At.s K9 K10 ?_
 refine At.rg 3 [0, 1, 2] ?_
 refine Seq.us [(25, .int .i64 x16c), (26, .bool (decide ((x16c : Int) ≠ 0))), (24, .bool (decide ((x16c : Int) ≠ 0)))] ?_
 refine Seq.done ?_
 cases hb : (decide ((x16c : Int) ≠ 0)) with
 | true =>
  replace h := h.1 (of_decide_eq_true hb)
  refine At.cT 24 K11 K14 ?_
  refine At.s K12 K13 ?_
  refine At.rg 4 [0, 1, 2] ?_
  refine Seq.us [(27, .int .i64 x16c), (2, .int .i64 0), (3, .int .i64 x16c)] ?_
  refine Seq.done ?_
  exact At.rt [.tmp 2, .tmp 3] [(.int .i64 0), (.int .i64 x16c)] func120 ⟨_, rfl, ⟨_, rfl, rfl⟩⟩ h
 | false =>
  replace h := h.2 (of_decide_eq_false hb)
  refine At.cF 24 K11 K14 ?_
  refine At.s K15 K16 ?_
  refine At.rg 5 [0, 1, 2] ?_
  refine Seq.us [(29, .int .u64 x16a), (30, .bool (decide ((65536 : Int) < x16a))), (28, .bool (decide ((65536 : Int) < x16a)))] ?_
  refine Seq.done ?_
  cases hb : (decide ((65536 : Int) < x16a)) with
  | true =>
   replace h := h.1 (of_decide_eq_true hb)
   refine At.cT 28 K17 K20 ?_
   refine At.s K18 K19 ?_
   refine At.rg 6 [0, 1] ?_
   refine Seq.us [(2, .int .i64 0), (3, .int .i64 23)] ?_
   refine Seq.done ?_
   exact At.rt [.tmp 2, .tmp 3] [(.int .i64 0), (.int .i64 23)] func120 ⟨_, rfl, ⟨_, rfl, rfl⟩⟩ h
  | false =>
   replace h := h.2 (of_decide_eq_false hb)
   refine At.cF 28 K17 K20 ?_
   refine At.skip ?_
   refine At.inBlock ?_
   refine At.s K22 K23 ?_
   refine At.rg 7 [0, 1, 2, 3] ?_
   refine Seq.u 31 (.int .u64 x16a) ?_
   obtain ⟨x32, hwx32⟩ : ∃ y, y = IntKind.i64.wrap x16a := ⟨_, rfl⟩
   replace h := h x32 hwx32
   refine Seq.y (d := (some 32)) (op := (.convert 56 3 (.tmp 31))) (ty := 3) (v := (.int .i64 x32)) (by kernel_rfl) rfl (hwx32 ▸ Y.conv (by kernel_rfl) underlying3 rfl) ?_
   refine Seq.us [(2, .int .i64 x32), (3, .int .i64 0)] ?_
   refine Seq.done ?_
   refine At.L [(2, (.int .i64 x32)), (3, (.int .i64 0))] fun J => ?_
   exact At.rt [.tmp 2, .tmp 3] [(.int .i64 x32), (.int .i64 0)] func120 ⟨_, rfl, ⟨_, rfl, rfl⟩⟩ h
end codec_reader_length

end
end TwW
end
section
/- written by gen.py: program points and what leads to them -/
set_option linter.unusedVariables false
set_option maxRecDepth 100000
namespace TwW
open Go Tw Go.Proofs.Tryz
noncomputable section
namespace codec_reader_record
abbrev fid : Nat := 121
noncomputable def K0 := f121.body.getD .skip
def K1 := cl K0
def K2 := cr K0
def K3 := cl K2
def K4 := cl K3
def K5 := cr K3
def K6 := cl K5
def K7 := cl K6
def K8 := cr K6
def K9 := cr K5
def K10 := cr K2
def K11 := cl K10
def K12 := cr K10
def K13 := cl K12
def K14 := cl K13
def K15 := cr K13
def K16 := cl K15
def K17 := cl K16
def K18 := cl K17
def K19 := cr K17
def K20 := cl K19
def K21 := cl K20
def K22 := cr K20
def K23 := cr K19
def K24 := cl K23
def K25 := cl K24
def K26 := cl K25
def K27 := cr K25
def K28 := cr K23
def K29 := cr K12
def K30 := cl K29
def K31 := cr K29
def K32 := cl K31
def K33 := cr K31
def K34 := cl K33
def K35 := cl K34
def K36 := cr K34
def K37 := cl K36
def K38 := cl K37
def K39 := cr K37
def K40 := cr K36
def K41 := cr K33
def K42 := cl K41
def K43 := cr K41
abbrev gl (R : Ending → Hp → Prop) : Gl := Gl.fn prog 121 81 R
def pt18 (R : Ending → Hp → Prop) (q0 : Option Addr) (x1 x6 : Int) (p36 : Option Addr) (n36 c36 : Nat) (x37 x38 : Int) (σ : Hp) : Prop := ∀ (J : Env), At (gl R) [.code K18, .code K19, .inLoop K17, .inBlock 0, .code K29] (upds J [(0, (.pointer q0)), (1, (.int .i64 x1)), (6, (.int .u32 x6)), (36, (.slice p36 n36 c36)), (37, (.int .i64 x37)), (38, (.int .i64 x38))]) [] σ
theorem start {R : Ending → Hp → Prop} {q0 : Option Addr} {x1 : Int} {σ : Hp} (h : ∃ (b11 o11 : Nat), q0 = some ⟨b11, o11, none⟩ ∧ ∃ p13 : Option Addr, ∃ n13 : Nat, ∃ c13 : Nat, Hp.ld σ ⟨b11, o11, none⟩ = some (.slice p13 n13 c13) ∧ ∃ x18 : Int, Hp.ld σ ⟨b11, (o11 + 1), none⟩ = some (.int .i64 x18) ∧ I64 ((n13 : Int) - x18) ∧ I64 (4 + x1) ∧ ((((n13 : Int) - x18) : Int) < (4 + x1) → R (.returned (.tuple #[(.slice none 0 0), (.int .i64 20)])) σ) ∧ (¬ ((((n13 : Int) - x18) : Int) < (4 + x1)) → ∃ p26 : Option Addr, ∃ n26 : Nat, ∃ c26 : Nat, Hp.ld σ ⟨b11, o11, none⟩ = some (.slice p26 n26 c26) ∧ ∃ x30 : Int, Hp.ld σ ⟨b11, (o11 + 1), none⟩ = some (.int .i64 x30) ∧ ∃ x34 : Int, Hp.ld σ ⟨b11, (o11 + 1), none⟩ = some (.int .i64 x34) ∧ I64 (x34 + 4) ∧ ((0 : Int) ≤ x30 ∧ x30 ≤ (x34 + 4) ∧ (x34 + 4) ≤ (c26 : Int)) ∧ pt18 R ((some ⟨b11, o11, none⟩)) x1 0 ((slP p26 (Int.toNat x30) c26 1)) ((Int.toNat (x34 + 4) - Int.toNat x30)) ((c26 - Int.toNat x30)) ((((Int.toNat (x34 + 4) - Int.toNat x30) : Nat) : Int)) 0 σ)) : Spec prog 121 #[(.pointer q0), (.int .i64 x1)] σ R := by
 refine Spec.of_at (fn := f121) (c := K0) func121 (by kernel_rfl) (Nat.le_of_ble_eq_true (by kernel_rfl)) (fun e he => ?_)
 refine At.ofL (l := [(0, (.pointer q0)), (1, (.int .i64 x1))]) ⟨he 0, he 1, trivial⟩ (fun J => ?_)
 show At (gl R) _ _ _ _
 refine At.s K1 K2 ?_
 refine At.rg 0 [0, 1] ?_
 refine Seq.us [(4, .slice none 0 0), (5, .int .i64 0)] ?_
 refine Seq.done ?_
 refine At.s K3 K10 ?_
 refine At.s K4 K5 ?_
 refine At.draw (id := 1) (ops := cO K4) (n := 13) (q := none) (plan := [(0, true), (1, true), (2, true), (3, true), (4, true), (5, true), (6, true), (7, true), (8, true), (9, true), (10, true), (11, true), (12, true)]) (tl := []) mixed (by kernel_rfl) (by kernel_rfl) ?_
 refine Head.u 10 (.pointer q0) ?_
 obtain ⟨b11, o11, hq, h⟩ := h
 subst hq
 refine Head.z 11 (.nilCheck (.tmp 10)) 0 (.pointer (some ⟨b11, o11, none⟩)) (Y.nilCheck rfl) ?_
 refine Head.z 12 (.fieldAddr 150 (.tmp 11) 0) 0 (.pointer (some ⟨b11, o11, none⟩)) (Y.fieldAddr (fd := (fieldOf prog 150 0)) underlying150 (by kernel_rfl) sizeOf23 rfl rfl) ?_
 obtain ⟨p13, n13, c13, hl, h⟩ := h
 refine Head.z 13 (.load 23 (.tmp 12)) 23 (.slice p13 n13 c13) (Y.ld isAgg23 rfl hl) ?_
 refine Head.z 14 (.call { callee := .builtin .len, args := #[(.tmp 13)], argTypes := #[23] }) 3 (.int .i64 (n13 : Int)) (Y.lenS underlying23 rfl rfl) ?_
 refine Head.u 15 (.pointer (some ⟨b11, o11, none⟩)) ?_
 refine Head.z 16 (.nilCheck (.tmp 15)) 0 (.pointer (some ⟨b11, o11, none⟩)) (Y.nilCheck rfl) ?_
 refine Head.z 17 (.fieldAddr 150 (.tmp 16) 1) 0 (.pointer (some ⟨b11, (o11 + 1), none⟩)) (Y.fieldAddr (fd := (fieldOf prog 150 1)) underlying150 (by kernel_rfl) sizeOf3 rfl rfl) ?_
 obtain ⟨x18, hl, h⟩ := h
 refine Head.z 18 (.load 3 (.tmp 17)) 3 (.int .i64 x18) (Y.ld isAgg3 rfl hl) ?_
 obtain ⟨hi, h⟩ := h
 refine Head.z 19 (.binOp .sub 3 (.tmp 14) (.tmp 18) 3) 3 (.int .i64 ((n13 : Int) - x18)) (Y.subI hi rfl rfl) ?_
 refine Head.u 20 (.int .i64 x1) ?_
 obtain ⟨hi, h⟩ := h
 refine Head.z 21 (.binOp .add 3 (.const (.int .i64 4)) (.tmp 20) 3) 3 (.int .i64 (4 + x1)) (Y.addI hi rfl rfl) ?_
 refine Head.u 22 (.bool (decide ((((n13 : Int) - x18) : Int) < (4 + x1)))) ?_
 refine Head.done ?_
 refine Seq.done ?_
 cases hb : (decide ((((n13 : Int) - x18) : Int) < (4 + x1))) with
 | true =>
  replace h := h.1 (of_decide_eq_true hb)
  refine At.cT 22 K6 K9 ?_
  refine At.s K7 K8 ?_
  refine At.rg 2 [0, 1] ?_
  refine Seq.us [(4, .slice none 0 0), (5, .int .i64 20)] ?_
  refine Seq.done ?_
  exact At.rt [.tmp 4, .tmp 5] [(.slice none 0 0), (.int .i64 20)] func121 ⟨_, rfl, ⟨_, rfl, rfl⟩⟩ h
 | false =>
  replace h := h.2 (of_decide_eq_false hb)
  refine At.cF 22 K6 K9 ?_
  refine At.skip ?_
  refine At.s K11 K12 ?_
  refine At.rg 3 [0] ?_
  refine Seq.u 6 (.int .u32 0) ?_
  refine Seq.done ?_
  refine At.s K13 K29 ?_
  refine At.s K14 K15 ?_
  refine At.draw (id := 4) (ops := cO K14) (n := 16) (q := none) (plan := [(0, true), (1, true), (2, true), (3, true), (4, true), (5, true), (6, true), (7, true), (8, true), (9, true), (10, true), (11, true), (12, true), (13, true), (14, true), (15, true)]) (tl := []) mixed (by kernel_rfl) (by kernel_rfl) ?_
  refine Head.u 23 (.pointer (some ⟨b11, o11, none⟩)) ?_
  refine Head.z 24 (.nilCheck (.tmp 23)) 0 (.pointer (some ⟨b11, o11, none⟩)) (Y.nilCheck rfl) ?_
  refine Head.z 25 (.fieldAddr 150 (.tmp 24) 0) 0 (.pointer (some ⟨b11, o11, none⟩)) (Y.fieldAddr (fd := (fieldOf prog 150 0)) underlying150 (by kernel_rfl) sizeOf23 rfl rfl) ?_
  obtain ⟨p26, n26, c26, hl, h⟩ := h
  refine Head.z 26 (.load 23 (.tmp 25)) 23 (.slice p26 n26 c26) (Y.ld isAgg23 rfl hl) ?_
  refine Head.u 27 (.pointer (some ⟨b11, o11, none⟩)) ?_
  refine Head.z 28 (.nilCheck (.tmp 27)) 0 (.pointer (some ⟨b11, o11, none⟩)) (Y.nilCheck rfl) ?_
  refine Head.z 29 (.fieldAddr 150 (.tmp 28) 1) 0 (.pointer (some ⟨b11, (o11 + 1), none⟩)) (Y.fieldAddr (fd := (fieldOf prog 150 1)) underlying150 (by kernel_rfl) sizeOf3 rfl rfl) ?_
  obtain ⟨x30, hl, h⟩ := h
  refine Head.z 30 (.load 3 (.tmp 29)) 3 (.int .i64 x30) (Y.ld isAgg3 rfl hl) ?_
  refine Head.u 31 (.pointer (some ⟨b11, o11, none⟩)) ?_
  refine Head.z 32 (.nilCheck (.tmp 31)) 0 (.pointer (some ⟨b11, o11, none⟩)) (Y.nilCheck rfl) ?_
  refine Head.z 33 (.fieldAddr 150 (.tmp 32) 1) 0 (.pointer (some ⟨b11, (o11 + 1), none⟩)) (Y.fieldAddr (fd := (fieldOf prog 150 1)) underlying150 (by kernel_rfl) sizeOf3 rfl rfl) ?_
  obtain ⟨x34, hl, h⟩ := h
  refine Head.z 34 (.load 3 (.tmp 33)) 3 (.int .i64 x34) (Y.ld isAgg3 rfl hl) ?_
  obtain ⟨hi, h⟩ := h
  refine Head.z 35 (.binOp .add 3 (.tmp 34) (.const (.int .i64 4)) 3) 3 (.int .i64 (x34 + 4)) (Y.addI hi rfl rfl) ?_
  obtain ⟨hs, h⟩ := h
  refine Head.z 36 (.slice 23 (.tmp 26) (some (.tmp 30)) (some (.tmp 35)) none) 23 (.slice (slP p26 (Int.toNat x30) c26 1) (Int.toNat (x34 + 4) - Int.toNat x30) (c26 - Int.toNat x30)) (Y.sllh underlying23 sizeOf5 rfl rfl rfl hs) ?_
  refine Head.z 37 (.call { callee := .builtin .len, args := #[(.tmp 36)], argTypes := #[23] }) 3 (.int .i64 (((Int.toNat (x34 + 4) - Int.toNat x30) : Nat) : Int)) (Y.lenS underlying23 rfl rfl) ?_
  refine Head.u 38 (.int .i64 0) ?_
  refine Head.done ?_
  refine Seq.done ?_
  refine At.b 0 K16 ?_
  refine At.loop (x := K17) (by kernel_rfl) ?_
  refine At.s K18 K19 ?_
  exact At.v [(0, (.pointer (some ⟨b11, o11, none⟩))), (1, (.int .i64 x1)), (6, (.int .u32 0)), (36, (.slice (slP p26 (Int.toNat x30) c26 1) (Int.toNat (x34 + 4) - Int.toNat x30) (c26 - Int.toNat x30))), (37, (.int .i64 (((Int.toNat (x34 + 4) - Int.toNat x30) : Nat) : Int))), (38, (.int .i64 0))] (h _)
theorem pt18_of {R : Ending → Hp → Prop} {q0 p36 : Option Addr} {x1 x6 x37 x38 : Int} {n36 c36 : Nat} {σ : Hp} (h : ((x38 : Int) < x37 → ∃ (b40 o40 : Nat), p36 = some ⟨b40, o40, none⟩ ∧ ((0 : Int) ≤ x38 ∧ x38 < (n36 : Int)) ∧ ∃ x41 : Int, Hp.ld σ ⟨b40, (o40 + Int.toNat x38 * 1), none⟩ = some (.int .u8 x41) ∧ ((0 : Int) ≤ 8 ∧ 8 ≤ ((IntKind.bits .u32 : Nat) : Int)) ∧ ∀ x43 : Int, x43 = IntKind.u32.wrap (x6 * 2 ^ Int.toNat 8) → ∀ x45 : Int, x45 = IntKind.u32.wrap x41 → ∀ x46 : Int, x46 = Go.bits .or .u32 x43 x45 → I64 (x38 + 1) ∧ pt18 R q0 x1 x46 ((some ⟨b40, o40, none⟩)) n36 c36 x37 ((x38 + 1)) σ) ∧ (¬ ((x38 : Int) < x37) → ∃ (b49 o49 : Nat), q0 = some ⟨b49, o49, none⟩ ∧ ∃ p51 : Option Addr, ∃ n51 : Nat, ∃ c51 : Nat, Hp.ld σ ⟨b49, o49, none⟩ = some (.slice p51 n51 c51) ∧ ∃ x55 : Int, Hp.ld σ ⟨b49, (o49 + 1), none⟩ = some (.int .i64 x55) ∧ I64 (x55 + 4) ∧ ∃ x60 : Int, Hp.ld σ ⟨b49, (o49 + 1), none⟩ = some (.int .i64 x60) ∧ I64 (x60 + 4) ∧ I64 ((x60 + 4) + x1) ∧ ((0 : Int) ≤ (x55 + 4) ∧ (x55 + 4) ≤ ((x60 + 4) + x1) ∧ ((x60 + 4) + x1) ≤ (c51 : Int)) ∧ ∃ x68 : Int, Hp.ld σ ⟨b49, (o49 + 1), none⟩ = some (.int .i64 x68) ∧ I64 (4 + x1) ∧ I64 (x68 + (4 + x1)) ∧ Eff prog (Instr.storeAt 3 (.pointer (some ⟨b49, (o49 + 1), none⟩)) (.int .i64 (x68 + (4 + x1)))) σ (fun _ σ1 => Spec prog 47 #[(.slice (slP p51 (Int.toNat (x55 + 4)) c51 1) (Int.toNat ((x60 + 4) + x1) - Int.toNat (x55 + 4)) (c51 - Int.toNat (x55 + 4)))] σ1 (Cont R (fun v σ1_2 => ∃ x75 : Int, v = (.int .u32 x75) ∧ ((x75 : Int) ≠ x6 → R (.returned (.tuple #[(.slice none 0 0), (.int .i64 22)])) σ1_2) ∧ (¬ ((x75 : Int) ≠ x6) → ∀ b78 : Nat, σ1_2 b78 = none → Eff prog (Builtin.append_ #[23, 23] 23 #[(.slice (some ⟨b78, 0, none⟩) 0 0), (.slice (slP p51 (Int.toNat (x55 + 4)) c51 1) (Int.toNat ((x60 + 4) + x1) - Int.toNat (x55 + 4)) (c51 - Int.toNat (x55 + 4)))]) (Hp.set σ1_2 b78 (.cells #[] 5 (0, 0))) (fun v_2 σ1_3 => ∃ p80 : Option Addr, ∃ n80 : Nat, ∃ c80 : Nat, v_2 = (.slice p80 n80 c80) ∧ R (.returned (.tuple #[(.slice p80 n80 c80), (.int .i64 0)])) σ1_3))))))) : pt18 R q0 x1 x6 p36 n36 c36 x37 x38 σ := by
 intro J
 show At (gl R) _ _ _ _
 refine At.rg 5 [0] ?_
 refine Seq.u 39 (.bool (decide ((x38 : Int) < x37))) ?_
 refine Seq.done ?_
 refine At.s K20 K23 ?_
 cases hb : (decide ((x38 : Int) < x37)) with
 | true =>
  replace h := h.1 (of_decide_eq_true hb)
  refine At.cT 39 K21 K22 ?_
  refine At.skip ?_
  refine At.s K24 K28 ?_
  refine At.b 1 K25 ?_
  refine At.s K26 K27 ?_
  refine At.rg 6 [0, 1, 2] ?_
  obtain ⟨b40, o40, hq, h⟩ := h
  subst hq
  obtain ⟨hi, h⟩ := h
  refine Seq.z 40 (.indexAddr 23 (.tmp 36) (.tmp 38)) 0 (.pointer (some ⟨b40, (o40 + Int.toNat x38 * 1), none⟩)) (Y.idx underlying23 sizeOf5 rfl rfl hi rfl) ?_
  obtain ⟨x41, hl, h⟩ := h
  refine Seq.z 41 (.load 5 (.tmp 40)) 5 (.int .u8 x41) (Y.ld isAgg5 rfl hl) ?_
  refine Seq.u 8 (.int .u8 x41) ?_
  refine Seq.done ?_
  refine At.rg 7 [0, 1, 2, 3, 4, 5] ?_
  refine Seq.u 42 (.int .u32 x6) ?_
  obtain ⟨hc, h⟩ := h
  obtain ⟨x43, hwx43⟩ : ∃ y, y = IntKind.u32.wrap (x6 * 2 ^ Int.toNat 8) := ⟨_, rfl⟩
  replace h := h x43 hwx43
  refine Seq.y (d := (some 43)) (op := (.binOp .shl 79 (.tmp 42) (.const (.int .u64 8)) 82)) (ty := 79) (v := (.int .u32 x43)) (by kernel_rfl) rfl (hwx43 ▸ Y.shl hc.1 hc.2 rfl rfl) ?_
  refine Seq.u 44 (.int .u8 x41) ?_
  obtain ⟨x45, hwx45⟩ : ∃ y, y = IntKind.u32.wrap x41 := ⟨_, rfl⟩
  replace h := h x45 hwx45
  refine Seq.y (d := (some 45)) (op := (.convert 5 79 (.tmp 44))) (ty := 79) (v := (.int .u32 x45)) (by kernel_rfl) rfl (hwx45 ▸ Y.conv (by kernel_rfl) underlying79 rfl) ?_
  obtain ⟨x46, hwx46⟩ : ∃ y, y = Go.bits .or .u32 x43 x45 := ⟨_, rfl⟩
  replace h := h x46 hwx46
  refine Seq.y (d := (some 46)) (op := (.binOp .or 79 (.tmp 43) (.tmp 45) 79)) (ty := 79) (v := (.int .u32 x46)) (by kernel_rfl) rfl (hwx46 ▸ Y.bits (by simp) rfl rfl) ?_
  refine Seq.u 6 (.int .u32 x46) ?_
  refine Seq.done ?_
  refine At.inBlock ?_
  refine At.rg 8 [0, 1] ?_
  obtain ⟨hi, h⟩ := h
  refine Seq.z 47 (.binOp .add 3 (.tmp 38) (.const (.int .i64 1)) 3) 3 (.int .i64 (x38 + 1)) (Y.addI hi rfl rfl) ?_
  refine Seq.u 38 (.int .i64 (x38 + 1)) ?_
  refine Seq.done ?_
  refine At.inLoop ?_
  refine At.s K18 K19 ?_
  exact At.v [(0, (.pointer q0)), (1, (.int .i64 x1)), (6, (.int .u32 x46)), (36, (.slice (some ⟨b40, o40, none⟩) n36 c36)), (37, (.int .i64 x37)), (38, (.int .i64 (x38 + 1)))] (h _)
 | false =>
  replace h := h.2 (of_decide_eq_false hb)
  refine At.cF 39 K21 K22 ?_
  refine At.x 0 [.code K29] ?_
  refine At.s K30 K31 ?_
  refine At.draw (id := 9) (ops := cO K30) (n := 18) (q := none) (plan := [(0, true), (1, true), (2, true), (3, true), (4, true), (5, true), (6, true), (7, true), (8, true), (9, true), (10, true), (11, true), (12, true), (13, true), (14, true), (15, true), (16, true), (17, true)]) (tl := []) mixed (by kernel_rfl) (by kernel_rfl) ?_
  refine Head.u 48 (.pointer q0) ?_
  obtain ⟨b49, o49, hq, h⟩ := h
  subst hq
  refine Head.z 49 (.nilCheck (.tmp 48)) 0 (.pointer (some ⟨b49, o49, none⟩)) (Y.nilCheck rfl) ?_
  refine Head.z 50 (.fieldAddr 150 (.tmp 49) 0) 0 (.pointer (some ⟨b49, o49, none⟩)) (Y.fieldAddr (fd := (fieldOf prog 150 0)) underlying150 (by kernel_rfl) sizeOf23 rfl rfl) ?_
  obtain ⟨p51, n51, c51, hl, h⟩ := h
  refine Head.z 51 (.load 23 (.tmp 50)) 23 (.slice p51 n51 c51) (Y.ld isAgg23 rfl hl) ?_
  refine Head.u 52 (.pointer (some ⟨b49, o49, none⟩)) ?_
  refine Head.z 53 (.nilCheck (.tmp 52)) 0 (.pointer (some ⟨b49, o49, none⟩)) (Y.nilCheck rfl) ?_
  refine Head.z 54 (.fieldAddr 150 (.tmp 53) 1) 0 (.pointer (some ⟨b49, (o49 + 1), none⟩)) (Y.fieldAddr (fd := (fieldOf prog 150 1)) underlying150 (by kernel_rfl) sizeOf3 rfl rfl) ?_
  obtain ⟨x55, hl, h⟩ := h
  refine Head.z 55 (.load 3 (.tmp 54)) 3 (.int .i64 x55) (Y.ld isAgg3 rfl hl) ?_
  obtain ⟨hi, h⟩ := h
  refine Head.z 56 (.binOp .add 3 (.tmp 55) (.const (.int .i64 4)) 3) 3 (.int .i64 (x55 + 4)) (Y.addI hi rfl rfl) ?_
  refine Head.u 57 (.pointer (some ⟨b49, o49, none⟩)) ?_
  refine Head.z 58 (.nilCheck (.tmp 57)) 0 (.pointer (some ⟨b49, o49, none⟩)) (Y.nilCheck rfl) ?_
  refine Head.z 59 (.fieldAddr 150 (.tmp 58) 1) 0 (.pointer (some ⟨b49, (o49 + 1), none⟩)) (Y.fieldAddr (fd := (fieldOf prog 150 1)) underlying150 (by kernel_rfl) sizeOf3 rfl rfl) ?_
  obtain ⟨x60, hl, h⟩ := h
  refine Head.z 60 (.load 3 (.tmp 59)) 3 (.int .i64 x60) (Y.ld isAgg3 rfl hl) ?_
  obtain ⟨hi, h⟩ := h
  refine Head.z 61 (.binOp .add 3 (.tmp 60) (.const (.int .i64 4)) 3) 3 (.int .i64 (x60 + 4)) (Y.addI hi rfl rfl) ?_
  refine Head.u 62 (.int .i64 x1) ?_
  obtain ⟨hi, h⟩ := h
  refine Head.z 63 (.binOp .add 3 (.tmp 61) (.tmp 62) 3) 3 (.int .i64 ((x60 + 4) + x1)) (Y.addI hi rfl rfl) ?_
  obtain ⟨hs, h⟩ := h
  refine Head.z 64 (.slice 23 (.tmp 51) (some (.tmp 56)) (some (.tmp 63)) none) 23 (.slice (slP p51 (Int.toNat (x55 + 4)) c51 1) (Int.toNat ((x60 + 4) + x1) - Int.toNat (x55 + 4)) (c51 - Int.toNat (x55 + 4))) (Y.sllh underlying23 sizeOf5 rfl rfl rfl hs) ?_
  refine Head.u 9 (.slice (slP p51 (Int.toNat (x55 + 4)) c51 1) (Int.toNat ((x60 + 4) + x1) - Int.toNat (x55 + 4)) (c51 - Int.toNat (x55 + 4))) ?_
  refine Head.done ?_
  refine Seq.done ?_
  refine At.s K32 K33 ?_
  refine At.rg 10 [0, 1, 2, 3, 4, 5, 6, 7, 8, 9] ?_
  refine Seq.u 65 (.pointer (some ⟨b49, o49, none⟩)) ?_
  refine Seq.z 66 (.nilCheck (.tmp 65)) 0 (.pointer (some ⟨b49, o49, none⟩)) (Y.nilCheck rfl) ?_
  refine Seq.z 67 (.fieldAddr 150 (.tmp 66) 1) 0 (.pointer (some ⟨b49, (o49 + 1), none⟩)) (Y.fieldAddr (fd := (fieldOf prog 150 1)) underlying150 (by kernel_rfl) sizeOf3 rfl rfl) ?_
  obtain ⟨x68, hl, h⟩ := h
  refine Seq.z 68 (.load 3 (.tmp 67)) 3 (.int .i64 x68) (Y.ld isAgg3 rfl hl) ?_
  refine Seq.u 69 (.int .i64 x1) ?_
  obtain ⟨hi, h⟩ := h
  refine Seq.z 70 (.binOp .add 3 (.const (.int .i64 4)) (.tmp 69) 3) 3 (.int .i64 (4 + x1)) (Y.addI hi rfl rfl) ?_
  obtain ⟨hi, h⟩ := h
  refine Seq.z 71 (.binOp .add 3 (.tmp 68) (.tmp 70) 3) 3 (.int .i64 (x68 + (4 + x1))) (Y.addI hi rfl rfl) ?_
  refine Seq.z 72 (.nilCheck (.tmp 65)) 0 (.pointer (some ⟨b49, o49, none⟩)) (Y.nilCheck rfl) ?_
  refine Seq.z 73 (.fieldAddr 150 (.tmp 72) 1) 0 (.pointer (some ⟨b49, (o49 + 1), none⟩)) (Y.fieldAddr (fd := (fieldOf prog 150 1)) underlying150 (by kernel_rfl) sizeOf3 rfl rfl) ?_
  refine Seq.o ?_
  refine OpTo.store (T := 3) (ty := 0) (x := (.tmp 73)) (y := (.tmp 71)) (p := (.pointer (some ⟨b49, (o49 + 1), none⟩))) (v := (.int .i64 (x68 + (4 + x1)))) (gd := none) (by kernel_rfl) rfl rfl rfl (h.mono (fun _ σ1 h2 => ?_)); replace h := h2; clear h2
  refine Seq.done ?_
  refine At.L [(6, (.int .u32 x6)), (9, (.slice (slP p51 (Int.toNat (x55 + 4)) c51 1) (Int.toNat ((x60 + 4) + x1) - Int.toNat (x55 + 4)) (c51 - Int.toNat (x55 + 4))))] fun J => ?_
  refine At.s K34 K41 ?_
  refine At.s K35 K36 ?_
  refine At.rg 11 [0, 1, 2, 3] ?_
  refine Seq.u 74 (.slice (slP p51 (Int.toNat (x55 + 4)) c51 1) (Int.toNat ((x60 + 4) + x1) - Int.toNat (x55 + 4)) (c51 - Int.toNat (x55 + 4))) ?_
  refine Seq.o ?_
  refine OpTo.cl (some 75) call47 (h.cont fun v σ1_2 h2 => ?_); replace h := h2; clear h2
  obtain ⟨x75, rfl, h⟩ := h
  refine Seq.us [(76, .int .u32 x6), (77, .bool (decide ((x75 : Int) ≠ x6)))] ?_
  refine Seq.done ?_
  cases hb : (decide ((x75 : Int) ≠ x6)) with
  | true =>
   replace h := h.1 (of_decide_eq_true hb)
   refine At.cT 77 K37 K40 ?_
   refine At.s K38 K39 ?_
   refine At.rg 12 [0, 1] ?_
   refine Seq.us [(4, .slice none 0 0), (5, .int .i64 22)] ?_
   refine Seq.done ?_
   exact At.rt [.tmp 4, .tmp 5] [(.slice none 0 0), (.int .i64 22)] func121 ⟨_, rfl, ⟨_, rfl, rfl⟩⟩ h
  | false =>
   replace h := h.2 (of_decide_eq_false hb)
   refine At.cF 77 K37 K40 ?_
   refine At.skip ?_
   refine At.s K42 K43 ?_
   refine At.rg 13 [0, 1, 2, 3, 4] ?_
   refine Seq.o ?_
   refine OpTo.bslice (T := 23) (E := 5) (m := 0) (ps := #[]) (d := (some 78)) (ty := 23) (gd := none) (vs := []) (cs := #[]) underlying23 (by kernel_rfl) rfl rfl rfl (by kernel_rfl) (fun b78 hn => ?_)
   replace h := h b78 hn
   refine Seq.u 79 (.slice (slP p51 (Int.toNat (x55 + 4)) c51 1) (Int.toNat ((x60 + 4) + x1) - Int.toNat (x55 + 4)) (c51 - Int.toNat (x55 + 4))) ?_
   refine Seq.o ?_
   refine OpTo.eff (d := (some 80)) (op := (.call { callee := .builtin .append, args := #[(.tmp 78), (.tmp 79)], argTypes := #[23, 23] })) (ty := 23) (gd := none) (by kernel_rfl) rfl rfl (Builtin.append_ #[23, 23] 23 #[(.slice (some ⟨b78, 0, none⟩) 0 0), (.slice (slP p51 (Int.toNat (x55 + 4)) c51 1) (Int.toNat ((x60 + 4) + x1) - Int.toNat (x55 + 4)) (c51 - Int.toNat (x55 + 4)))]) (fun o ho ht => exec_b_append rfl rfl o ho ht) (h.mono (fun v_2 σ1_3 h2 => ?_)); replace h := h2; clear h2
   obtain ⟨p80, n80, c80, rfl, h⟩ := h
   refine Seq.us [(4, .slice p80 n80 c80), (5, .int .i64 0)] ?_
   refine Seq.done ?_
   exact At.rt [.tmp 4, .tmp 5] [(.slice p80 n80 c80), (.int .i64 0)] func121 ⟨_, rfl, ⟨_, rfl, rfl⟩⟩ h
end codec_reader_record
namespace codec_Text
abbrev fid : Nat := 81
noncomputable def K0 := f81.body.getD .skip
def K1 := cl K0
def K2 := cr K0
def K3 := cl K2
def K4 := cr K2
def K5 := cl K4
def K6 := cl K5
def K7 := cr K5
def K8 := cl K7
def K9 := cl K8
def K10 := cr K8
def K11 := cr K7
def K12 := cr K4
def K13 := cl K12
def K14 := cl K13
def K15 := cr K13
def K16 := cl K15
def K17 := cl K16
def K18 := cr K16
def K19 := cr K15
def K20 := cr K12
def K21 := cl K20
def K22 := cr K20
abbrev gl (R : Ending → Hp → Prop) : Gl := Gl.fn prog 81 39 R
theorem start {R : Ending → Hp → Prop} {p0 : Option Addr} {n0 c0 : Nat} {x1 : Int} {σ : Hp} (h : Spec prog 82 #[(.slice p0 n0 c0), (.int .i64 x1)] σ (Cont R (fun v σ1 => ∃ x13a : Int, ∃ x13b : Int, ∃ x13c : Int, v = (.tuple #[(.int .u64 x13a), (.int .i64 x13b), (.int .i64 x13c)]) ∧ ((x13c : Int) ≠ 0 → R (.returned (.tuple #[(.string (ByteArray.mk #[])), (.int .i64 0), (.int .i64 x13c)])) σ1) ∧ (¬ ((x13c : Int) ≠ 0) → I64 ((n0 : Int) - x13b) ∧ ∀ x25 : Int, x25 = IntKind.u64.wrap ((n0 : Int) - x13b) → ((x25 : Int) < x13a → R (.returned (.tuple #[(.string (ByteArray.mk #[])), (.int .i64 0), (.int .i64 20)])) σ1) ∧ (¬ ((x25 : Int) < x13a) → ∀ x31 : Int, x31 = IntKind.i64.wrap x13a → I64 (x13b + x31) ∧ ((0 : Int) ≤ x13b ∧ x13b ≤ (x13b + x31) ∧ (x13b + x31) ≤ (c0 : Int)) ∧ Eff prog (convert 23 9 (.slice (slP p0 (Int.toNat x13b) c0 1) (Int.toNat (x13b + x31) - Int.toNat x13b) (c0 - Int.toNat x13b))) σ1 (fun v_2 σ1_2 => ∃ s34 : ByteArray, v_2 = (.string s34) ∧ ∀ x37 : Int, x37 = IntKind.i64.wrap x13a → I64 (x13b + x37) ∧ R (.returned (.tuple #[(.string s34), (.int .i64 (x13b + x37)), (.int .i64 0)])) σ1_2)))))) : Spec prog 81 #[(.slice p0 n0 c0), (.int .i64 x1)] σ R := by
 refine Spec.of_at (fn := f81) (c := K0) func81 (by kernel_rfl) (Nat.le_of_ble_eq_true (by kernel_rfl)) (fun e he => ?_)
 refine At.ofL (l := [(0, (.slice p0 n0 c0)), (1, (.int .i64 x1))]) ⟨he 0, he 1, trivial⟩ (fun J => ?_)
 show At (gl R) _ _ _ _
 refine At.s K1 K2 ?_
 refine At.rg 0 [0, 1, 2] ?_
 refine Seq.us [(4, .string (ByteArray.mk #[])), (5, .int .i64 0), (6, .int .i64 0)] ?_
 refine Seq.done ?_
 refine At.s K3 K4 ?_
 refine At.rg 1 [0, 1, 2, 3, 4, 5, 6, 7, 8, 9] ?_
 refine Seq.us [(11, .slice p0 n0 c0), (12, .int .i64 x1)] ?_
 refine Seq.o ?_
 refine OpTo.cl (some 13) call82 (h.cont fun v σ1 h2 => ?_); replace h := h2; clear h2
 obtain ⟨x13a, x13b, x13c, rfl, h⟩ := h
 refine Seq.us [(10, .tuple #[(.int .u64 x13a), (.int .i64 x13b), (.int .i64 x13c)]), (14, .int .u64 x13a), (15, .int .i64 x13b), (16, .int .i64 x13c), (7, .int .u64 x13a), (8, .int .i64 x13b), (9, .int .i64 x13c)] ?_
 refine Seq.done ?_
 refine At.s K5 K12 ?_
 refine At.s K6 K7 ?_
 refine At.rg 2 [0, 1] ?_
 refine Seq.us [(17, .int .i64 x13c), (18, .bool (decide ((x13c : Int) ≠ 0)))] ?_
 refine Seq.done ?_
 cases hb : (decide ((x13c : Int) ≠ 0)) with
 | true =>
  replace h := h.1 (of_decide_eq_true hb)
  refine At.cT 18 K8 K11 ?_
  refine At.s K9 K10 ?_
  refine At.rg 3 [0, 1, 2, 3] ?_
  refine Seq.us [(19, .int .i64 x13c), (4, .string (ByteArray.mk #[])), (5, .int .i64 0), (6, .int .i64 x13c)] ?_
  refine Seq.done ?_
  exact At.rt [.tmp 4, .tmp 5, .tmp 6] [(.string (ByteArray.mk #[])), (.int .i64 0), (.int .i64 x13c)] func81 ⟨_, rfl, ⟨_, rfl, ⟨_, rfl, rfl⟩⟩⟩ h
 | false =>
  replace h := h.2 (of_decide_eq_false hb)
  refine At.cF 18 K8 K11 ?_
  refine At.skip ?_
  refine At.s K13 K20 ?_
  refine At.s K14 K15 ?_
  refine At.rg 4 [0, 1, 2, 3, 4, 5, 6] ?_
  refine Seq.us [(20, .int .u64 x13a), (21, .slice p0 n0 c0)] ?_
  refine Seq.z 22 (.call { callee := .builtin .len, args := #[(.tmp 21)], argTypes := #[23] }) 3 (.int .i64 (n0 : Int)) (Y.lenS underlying23 rfl rfl) ?_
  refine Seq.u 23 (.int .i64 x13b) ?_
  obtain ⟨hi, h⟩ := h
  refine Seq.z 24 (.binOp .sub 3 (.tmp 22) (.tmp 23) 3) 3 (.int .i64 ((n0 : Int) - x13b)) (Y.subI hi rfl rfl) ?_
  obtain ⟨x25, hwx25⟩ : ∃ y, y = IntKind.u64.wrap ((n0 : Int) - x13b) := ⟨_, rfl⟩
  replace h := h x25 hwx25
  refine Seq.y (d := (some 25)) (op := (.convert 3 56 (.tmp 24))) (ty := 56) (v := (.int .u64 x25)) (by kernel_rfl) rfl (hwx25 ▸ Y.conv (by kernel_rfl) underlying56 rfl) ?_
  refine Seq.u 26 (.bool (decide ((x25 : Int) < x13a))) ?_
  refine Seq.done ?_
  cases hb : (decide ((x25 : Int) < x13a)) with
  | true =>
   replace h := h.1 (of_decide_eq_true hb)
   refine At.cT 26 K16 K19 ?_
   refine At.s K17 K18 ?_
   refine At.rg 5 [0, 1, 2] ?_
   refine Seq.us [(4, .string (ByteArray.mk #[])), (5, .int .i64 0), (6, .int .i64 20)] ?_
   refine Seq.done ?_
   exact At.rt [.tmp 4, .tmp 5, .tmp 6] [(.string (ByteArray.mk #[])), (.int .i64 0), (.int .i64 20)] func81 ⟨_, rfl, ⟨_, rfl, ⟨_, rfl, rfl⟩⟩⟩ h
  | false =>
   replace h := h.2 (of_decide_eq_false hb)
   refine At.cF 26 K16 K19 ?_
   refine At.skip ?_
   refine At.s K21 K22 ?_
   refine At.rg 6 [0, 1, 2, 3, 4, 5, 6, 7, 8, 9, 10, 11, 12, 13, 14] ?_
   refine Seq.us [(27, .slice p0 n0 c0), (28, .int .i64 x13b), (29, .int .i64 x13b), (30, .int .u64 x13a)] ?_
   obtain ⟨x31, hwx31⟩ : ∃ y, y = IntKind.i64.wrap x13a := ⟨_, rfl⟩
   replace h := h x31 hwx31
   refine Seq.y (d := (some 31)) (op := (.convert 56 3 (.tmp 30))) (ty := 3) (v := (.int .i64 x31)) (by kernel_rfl) rfl (hwx31 ▸ Y.conv (by kernel_rfl) underlying3 rfl) ?_
   obtain ⟨hi, h⟩ := h
   refine Seq.z 32 (.binOp .add 3 (.tmp 29) (.tmp 31) 3) 3 (.int .i64 (x13b + x31)) (Y.addI hi rfl rfl) ?_
   obtain ⟨hs, h⟩ := h
   refine Seq.z 33 (.slice 23 (.tmp 27) (some (.tmp 28)) (some (.tmp 32)) none) 23 (.slice (slP p0 (Int.toNat x13b) c0 1) (Int.toNat (x13b + x31) - Int.toNat x13b) (c0 - Int.toNat x13b)) (Y.sllh underlying23 sizeOf5 rfl rfl rfl hs) ?_
   refine Seq.o ?_
   refine OpTo.eff (d := (some 34)) (op := (.convert 23 9 (.tmp 33))) (ty := 9) (gd := none) (by kernel_rfl) rfl rfl (convert 23 9 (.slice (slP p0 (Int.toNat x13b) c0 1) (Int.toNat (x13b + x31) - Int.toNat x13b) (c0 - Int.toNat x13b))) (fun o ho ht => by simp only [execOp, ho]; rfl) (h.mono (fun v_2 σ1_2 h2 => ?_)); replace h := h2; clear h2
   obtain ⟨s34, rfl, h⟩ := h
   refine Seq.us [(35, .int .i64 x13b), (36, .int .u64 x13a)] ?_
   obtain ⟨x37, hwx37⟩ : ∃ y, y = IntKind.i64.wrap x13a := ⟨_, rfl⟩
   replace h := h x37 hwx37
   refine Seq.y (d := (some 37)) (op := (.convert 56 3 (.tmp 36))) (ty := 3) (v := (.int .i64 x37)) (by kernel_rfl) rfl (hwx37 ▸ Y.conv (by kernel_rfl) underlying3 rfl) ?_
   obtain ⟨hi, h⟩ := h
   refine Seq.z 38 (.binOp .add 3 (.tmp 35) (.tmp 37) 3) 3 (.int .i64 (x13b + x37)) (Y.addI hi rfl rfl) ?_
   refine Seq.us [(4, .string s34), (5, .int .i64 (x13b + x37)), (6, .int .i64 0)] ?_
   refine Seq.done ?_
   refine At.L [(4, (.string s34)), (5, (.int .i64 (x13b + x37))), (6, (.int .i64 0))] fun J => ?_
   exact At.rt [.tmp 4, .tmp 5, .tmp 6] [(.string s34), (.int .i64 (x13b + x37)), (.int .i64 0)] func81 ⟨_, rfl, ⟨_, rfl, ⟨_, rfl, rfl⟩⟩⟩ h
end codec_Text
namespace codec_PutText
abbrev fid : Nat := 83
noncomputable def K0 := f83.body.getD .skip
def K1 := cl K0
def K2 := cr K0
def K3 := cl K2
def K4 := cr K2
abbrev gl (R : Ending → Hp → Prop) : Gl := Gl.fn prog 83 12 R
theorem start {R : Ending → Hp → Prop} {p0 : Option Addr} {n0 c0 : Nat} {s1 : ByteArray} {σ : Hp} (h : ∀ x8 : Int, x8 = IntKind.u64.wrap ((ByteArray.size s1 : Nat) : Int) → Spec prog 48 #[(.slice p0 n0 c0), (.int .u64 x8)] σ (Cont R (fun v σ1 => ∃ p9 : Option Addr, ∃ n9 : Nat, ∃ c9 : Nat, v = (.slice p9 n9 c9) ∧ Eff prog (Builtin.append_ #[23, 9] 23 #[(.slice p9 n9 c9), (.string s1)]) σ1 (fun v_2 σ1_2 => ∃ p11 : Option Addr, ∃ n11 : Nat, ∃ c11 : Nat, v_2 = (.slice p11 n11 c11) ∧ R (.returned (.slice p11 n11 c11)) σ1_2)))) : Spec prog 83 #[(.slice p0 n0 c0), (.string s1)] σ R := by
 refine Spec.of_at (fn := f83) (c := K0) func83 (by kernel_rfl) (Nat.le_of_ble_eq_true (by kernel_rfl)) (fun e he => ?_)
 refine At.ofL (l := [(0, (.slice p0 n0 c0)), (1, (.string s1))]) ⟨he 0, he 1, trivial⟩ (fun J => ?_)
 show At (gl R) _ _ _ _
 refine At.s K1 K2 ?_
 refine At.rg 0 [0] ?_
 refine Seq.u 4 (.slice none 0 0) ?_
 refine Seq.done ?_
 refine At.s K3 K4 ?_
 refine At.rg 1 [0, 1, 2, 3, 4, 5, 6, 7] ?_
 refine Seq.us [(5, .slice p0 n0 c0), (6, .string s1)] ?_
 refine Seq.z 7 (.call { callee := .builtin .len, args := #[(.tmp 6)], argTypes := #[9] }) 3 (.int .i64 ((ByteArray.size s1 : Nat) : Int)) (Y.lenStr underlying9 rfl rfl) ?_
 obtain ⟨x8, hwx8⟩ : ∃ y, y = IntKind.u64.wrap ((ByteArray.size s1 : Nat) : Int) := ⟨_, rfl⟩
 replace h := h x8 hwx8
 refine Seq.y (d := (some 8)) (op := (.convert 3 56 (.tmp 7))) (ty := 56) (v := (.int .u64 x8)) (by kernel_rfl) rfl (hwx8 ▸ Y.conv (by kernel_rfl) underlying56 rfl) ?_
 refine Seq.o ?_
 refine OpTo.cl (some 9) call48 (h.cont fun v σ1 h2 => ?_); replace h := h2; clear h2
 obtain ⟨p9, n9, c9, rfl, h⟩ := h
 refine Seq.u 10 (.string s1) ?_
 refine Seq.o ?_
 refine OpTo.eff (d := (some 11)) (op := (.call { callee := .builtin .append, args := #[(.tmp 9), (.tmp 10)], argTypes := #[23, 9] })) (ty := 23) (gd := none) (by kernel_rfl) rfl rfl (Builtin.append_ #[23, 9] 23 #[(.slice p9 n9 c9), (.string s1)]) (fun o ho ht => exec_b_append rfl rfl o ho ht) (h.mono (fun v_2 σ1_2 h2 => ?_)); replace h := h2; clear h2
 obtain ⟨p11, n11, c11, rfl, h⟩ := h
 refine Seq.u 4 (.slice p11 n11 c11) ?_
 refine Seq.done ?_
 exact At.rt [.tmp 4] [(.slice p11 n11 c11)] func83 ⟨_, rfl, rfl⟩ h
end codec_PutText

end
end TwW
end
section
set_option linter.unusedVariables false
namespace TwW
open Go Tw Go.Proofs.Tryz
def uv (x : Nat) : List Int := if h : 128 ≤ x then ((x % 128 + 128 : Nat) : Int) :: uv (x / 128) else [(x : Int)]
termination_by x
decreasing_by omega
theorem uv_big {x : Nat} (h : 128 ≤ x) : uv x = ((x % 128 + 128 : Nat) : Int) :: uv (x / 128) := by rw [uv, dif_pos h]
theorem uv_small {x : Nat} (h : ¬ 128 ≤ x) : uv x = [(x : Int)] := by rw [uv, dif_neg h]
theorem uv_len : ∀ (k x : Nat), x < 128 ^ (k + 1) → (uv x).length ≤ k + 1
  | 0, x, h => by rw [uv_small (by simpa using h)]; simp
  | k + 1, x, h => by
    by_cases hx : 128 ≤ x
    · rw [uv_big hx]
      have := uv_len k (x / 128) (by rw [Nat.div_lt_iff_lt_mul (by decide)]; rw [Nat.pow_succ] at h; exact h)
      simp; omega
    · rw [uv_small hx]; simp
theorem uv_len10 {x : Nat} (h : x < 18446744073709551616) : (uv x).length ≤ 10 := uv_len 9 x (by omega)
set_option maxRecDepth 100000 in
theorem or_u8 : ∀ y : Fin 256, Go.bits .or .u8 (y.1 : Int) 128 = ((y.1 % 128 + 128 : Nat) : Int) := by decide
set_option maxRecDepth 100000 in
theorem or_128 : ∀ y : Fin 128, (y.1 ||| 128) = y.1 + 128 := by decide
theorem putUint_spec {R : Ending → Hp → Prop} {σ : Hp} {p : Option Addr} {n c x : Nat} {xs : List Int} (hr : RdI .u8 σ p n xs) (hn : n ≤ 70368744177664) (hx : x < 18446744073709551616)
    (h : ∀ p' n' c' σ', OwnI .u8 (σ.new σ') p' n' c' (xs ++ uv x) → Ext σ σ' → R (.returned (.slice p' n' c')) σ') : Spec prog codec_PutUint.fid #[.slice p n c, .int .u64 x] σ R := by
  refine codec_PutUint.start fun b hb => ?_
  refine app_eff Own.empty ((RdC.of_map hr).mono (.set hb)) OneC.map_int (by omega) fun p' c' σ' hown hext => ?_
  have hq : ∀ a : Addr, (some (⟨b, 0, none⟩ : Addr)) = some a → σ a.block = none := fun a ha => by cases ha; exact hb
  have ho := Own.to_new hown (new_block hq hext (.set hb))
  have he := ext_new hq hext (.set hb)
  refine ⟨p', 0 + n, c', rfl, ?_⟩
  rw [Nat.zero_add] at ho ⊢
  have hlen := hr.1
  suffices H : ∀ (k x n' : Nat) p' c' σ' ys, x < 128 ^ (k + 1) → n' + k ≤ n + 9 → OwnI .u8 (σ.new σ') p' n' c' ys → Ext σ σ' → (∀ p' n' c' σ', OwnI .u8 (σ.new σ') p' n' c' (ys ++ uv x) → Ext σ σ' → R (.returned (.slice p' n' c')) σ') → codec_PutUint.pt9 R x p' n' c' σ' from
    H 9 x n p' c' σ' xs (by omega) (by omega) ho he h
  intro k
  induction k with
  | zero =>
    intro x n' p' c' σ' ys hx hn' ho he h
    refine codec_PutUint.pt9_of ⟨fun hlt => by omega, fun _ x21 hx21 b2 hb2 => ?_⟩
    have hxx : x21 = (x : Int) := by rw [hx21]; simp [IntKind.wrap, IntKind.bits, IntKind.signed]; omega
    subst hxx
    refine OwnI.app1 he ho (by omega) (fun p2 c2 σ2 ho2 he2 _ => ⟨p2, n' + 1, c2, rfl, h _ _ _ _ ?_ he2⟩) hb2
    rw [uv_small (by omega)]; exact ho2
  | succ k ih =>
    intro x n' p' c' σ' ys hx hn' ho he h
    refine codec_PutUint.pt9_of ⟨fun hlt x15 hx15 x16 hx16 b2 hb2 => ?_, fun hge x21 hx21 b2 hb2 => ?_⟩
    · have h15 : x15 = ((x % 256 : Nat) : Int) := by rw [hx15]; simp [IntKind.wrap, IntKind.bits, IntKind.signed]
      have h16 : x16 = ((x % 128 + 128 : Nat) : Int) := by
        rw [hx16, h15, or_u8 ⟨x % 256, Nat.mod_lt _ (by decide)⟩]
        have : x % 256 % 128 = x % 128 := by omega
        rw [this]
      subst h16
      refine OwnI.app1 he ho (by omega) (fun p2 c2 σ2 ho2 he2 _ => ⟨p2, n' + 1, c2, rfl, by simp [IntKind.bits], fun x12 hx12 => ?_⟩) hb2
      have h12 : x12 = ((x / 128 : Nat) : Int) := by rw [hx12]; simp
      subst h12
      refine ih (x / 128) (n' + 1) p2 c2 σ2 _ (by rw [Nat.div_lt_iff_lt_mul (by decide)]; rw [Nat.pow_succ] at hx; exact hx) (by omega) ho2 he2 fun p3 n3 c3 σ3 ho3 he3 => h p3 n3 c3 σ3 ?_ he3
      rw [uv_big (by omega)]
      simpa using ho3
    · have hxx : x21 = (x : Int) := by rw [hx21]; simp [IntKind.wrap, IntKind.bits, IntKind.signed]; omega
      subst hxx
      refine OwnI.app1 he ho (by omega) (fun p2 c2 σ2 ho2 he2 _ => ⟨p2, n' + 1, c2, rfl, h _ _ _ _ ?_ he2⟩) hb2
      rw [uv_small (by omega)]; exact ho2
def By8 (bs : List Int) : Prop := ∀ x ∈ bs, 0 ≤ x ∧ x < 256
def UvAt (bs : List Int) (i w : Nat) : Prop := w < 18446744073709551616 ∧ ∃ rest, bs.drop i = uv w ++ rest
theorem uv_cons (x : Nat) : ∃ c t, uv x = c :: t ∧ (128 ≤ x → c = ((x % 128 + 128 : Nat) : Int) ∧ t = uv (x / 128)) ∧ (x < 128 → c = (x : Int) ∧ t = []) := by
  by_cases h : 128 ≤ x
  · exact ⟨_, _, uv_big h, fun _ => ⟨rfl, rfl⟩, fun h2 => by omega⟩
  · exact ⟨_, _, uv_small h, fun h2 => by omega, fun _ => ⟨rfl, rfl⟩⟩
theorem uv_by8 : ∀ (k x : Nat), x < 128 ^ (k + 1) → By8 (uv x)
  | 0, x, h => by
    rw [uv_small (by simpa using h)]
    intro y hy; simp at hy; subst hy; simp at h; omega
  | k + 1, x, h => by
    by_cases hx : 128 ≤ x
    · rw [uv_big hx]
      intro y hy
      rcases List.mem_cons.1 hy with rfl | hy
      · omega
      · exact uv_by8 k (x / 128) (by rw [Nat.div_lt_iff_lt_mul (by decide)]; rw [Nat.pow_succ] at h; exact h) y hy
    · rw [uv_small hx]
      intro y hy; simp at hy; subst hy; omega
theorem uv_pos (x : Nat) : 0 < (uv x).length := by
  obtain ⟨c, t, h, _⟩ := uv_cons x; rw [h]; simp
set_option maxRecDepth 100000 in
theorem and_u8 : ∀ y : Fin 256, Go.bits .and .u8 (y.1 : Int) 127 = ((y.1 % 128 : Nat) : Int) := by decide
theorem or_shift {acc c k : Nat} (ha : acc < 2 ^ (7 * k)) (hk : k ≤ 9) (hc : c * 2 ^ (7 * k) < 18446744073709551616) : Go.bits .or .u64 (acc : Int) ((c * 2 ^ (7 * k) : Nat) : Int) = ((acc + c * 2 ^ (7 * k) : Nat) : Int) := by
  have hp : 2 ^ (7 * k) ≤ 2 ^ 63 := Nat.pow_le_pow_right (by decide) (by omega)
  rw [bits_or_u64_nat acc _ (by omega) hc]
  congr 1
  rw [Nat.or_comm, Nat.mul_comm, ← Nat.two_pow_add_eq_or_of_lt ha, Nat.add_comm]
def So (bs : List Int) (i k acc : Nat) : Prop := ∀ w, UvAt bs i w → acc = w % 2 ^ (7 * k) ∧ (∃ rest, bs.drop (i + k) = uv (w / 2 ^ (7 * k)) ++ rest) ∧ (0 < k → 0 < w / 2 ^ (7 * k)) ∧ (uv w).length = k + (uv (w / 2 ^ (7 * k))).length
theorem So.zero {bs : List Int} {i : Nat} : So bs i 0 0 := fun w ⟨hw, rest, hr⟩ => by
  refine ⟨by simp [Nat.mod_one], ⟨rest, by simpa using hr⟩, fun h => by omega, by simp⟩
theorem So.byte {bs : List Int} {i k acc w : Nat} {c : Int} (h : So bs i k acc) (hw : UvAt bs i w) (hc : bs[i + k]? = some c) :
    (128 ≤ w / 2 ^ (7 * k) → c = ((w / 2 ^ (7 * k) % 128 + 128 : Nat) : Int)) ∧ (w / 2 ^ (7 * k) < 128 → c = ((w / 2 ^ (7 * k) : Nat) : Int)) := by
  obtain ⟨_, ⟨rest, hr⟩, _, _⟩ := h w hw
  obtain ⟨c', t, he, h1, h2⟩ := uv_cons (w / 2 ^ (7 * k))
  have : (bs.drop (i + k))[0]? = some c := by rw [List.getElem?_drop]; simpa using hc
  rw [hr, he] at this
  simp at this
  subst this
  exact ⟨fun h => (h1 h).1, fun h => (h2 h).1⟩
theorem So.next {bs : List Int} {i k acc a' : Nat} {c : Nat} (h : So bs i k acc) (hc : bs[i + k]? = some (c : Int)) (hge : 128 ≤ c) (ha' : acc < 2 ^ (7 * k) → a' = acc + (c % 128) * 2 ^ (7 * k)) : So bs i (k + 1) a' := fun w hw => by
  obtain ⟨h1, ⟨rest, hr⟩, h3, h4⟩ := h w hw
  obtain ⟨g1, g2⟩ := h.byte hw hc
  have hp : 0 < 2 ^ (7 * k) := Nat.two_pow_pos _
  have hbig : 128 ≤ w / 2 ^ (7 * k) := by
    rcases Nat.lt_or_ge (w / 2 ^ (7 * k)) 128 with hlt | hge'
    · have := g2 hlt; omega
    · exact hge'
  have hcv : c = w / 2 ^ (7 * k) % 128 + 128 := by have := g1 hbig; omega
  have e1 : 2 ^ (7 * (k + 1)) = 2 ^ (7 * k) * 128 := by rw [Nat.mul_succ, Nat.pow_add]
  have e2 : w / 2 ^ (7 * (k + 1)) = w / 2 ^ (7 * k) / 128 := by rw [e1, Nat.div_div_eq_div_mul]
  rw [e2]
  rw [uv_big hbig] at hr h4
  refine ⟨?_, ⟨rest, ?_⟩, fun _ => by omega, by simp at h4; omega⟩
  · rw [ha' (by rw [h1]; exact Nat.mod_lt _ hp), e1, Nat.mod_mul, ← h1, show c % 128 = w / 2 ^ (7 * k) % 128 by omega, Nat.mul_comm (2 ^ (7 * k))]
  · rw [show i + (k + 1) = (i + k) + 1 by omega, ← List.drop_drop, hr]; rfl
theorem So.last {bs : List Int} {i k acc c w : Nat} (h : So bs i k acc) (hc : bs[i + k]? = some (c : Int)) (hlt : c < 128) (hw : UvAt bs i w) : acc + c * 2 ^ (7 * k) = w ∧ (uv w).length = k + 1 := by
  obtain ⟨h1, ⟨rest, hr⟩, h3, h4⟩ := h w hw
  obtain ⟨g1, g2⟩ := h.byte hw hc
  have hsm : w / 2 ^ (7 * k) < 128 := by
    rcases Nat.lt_or_ge (w / 2 ^ (7 * k)) 128 with hlt | hge'
    · exact hlt
    · have := g1 hge'; omega
  have hcv : c = w / 2 ^ (7 * k) := by have := g2 hsm; omega
  rw [uv_small (x := w / 2 ^ (7 * k)) (by omega)] at h4
  refine ⟨?_, by simpa using h4⟩
  rw [hcv, h1, Nat.mul_comm (w / 2 ^ (7 * k))]
  exact Nat.mod_add_div w (2 ^ (7 * k))
theorem uv_inj : ∀ (v w : Nat) (r s : List Int), uv v ++ r = uv w ++ s → v = w ∧ r = s := by
  intro v
  induction v using Nat.strongRecOn with
  | _ v ih =>
  intro w r s h
  by_cases hv : 128 ≤ v <;> by_cases hw : 128 ≤ w
  · rw [uv_big hv, uv_big hw] at h
    simp only [List.cons_append, List.cons.injEq] at h
    have := ih (v / 128) (by omega) (w / 128) r s h.2
    exact ⟨by omega, this.2⟩
  · rw [uv_big hv, uv_small hw] at h
    simp only [List.cons_append, List.cons.injEq] at h
    omega
  · rw [uv_small hv, uv_big hw] at h
    simp only [List.cons_append, List.cons.injEq] at h
    omega
  · rw [uv_small hv, uv_small hw] at h
    simp only [List.cons_append, List.nil_append, List.cons.injEq] at h
    exact ⟨by omega, h.2⟩
def Pre (bs : List Int) (i k acc : Nat) : Prop := ∀ hi : Nat, (0 < hi ∨ k = 0) → uv (acc + hi * 2 ^ (7 * k)) = (bs.drop i).take k ++ uv hi
theorem Pre.zero {bs : List Int} {i : Nat} : Pre bs i 0 0 := fun hi _ => by simp
theorem take_more {bs : List Int} {i k : Nat} {c : Int} (hc : bs[i + k]? = some c) : (bs.drop i).take (k + 1) = (bs.drop i).take k ++ [c] := take_succ' (by rw [List.getElem?_drop]; exact hc)
theorem Pre.next {bs : List Int} {i k acc c : Nat} (h : Pre bs i k acc) (hc : bs[i + k]? = some (c : Int)) (hge : 128 ≤ c) (h256 : c < 256) : Pre bs i (k + 1) (acc + c % 128 * 2 ^ (7 * k)) := fun hi hh => by
  have hpos : 0 < hi := hh.resolve_right (by omega)
  have h1 := h (c % 128 + hi * 128) (.inl (by omega))
  have e1 : acc + c % 128 * 2 ^ (7 * k) + hi * 2 ^ (7 * (k + 1)) = acc + (c % 128 + hi * 128) * 2 ^ (7 * k) := by
    rw [show 2 ^ (7 * (k + 1)) = 128 * 2 ^ (7 * k) by rw [Nat.mul_succ, Nat.pow_add, Nat.mul_comm], Nat.add_mul, Nat.mul_assoc, Nat.add_assoc]
  rw [e1, h1, uv_big (by omega), take_more hc]
  have e2 : (c % 128 + hi * 128) % 128 + 128 = c := by omega
  have e3 : (c % 128 + hi * 128) / 128 = hi := by omega
  rw [e2, e3]; simp
theorem Pre.last {bs : List Int} {i k acc c : Nat} (h : Pre bs i k acc) (hc : bs[i + k]? = some (c : Int)) (hlt : c < 128) (hpos : 0 < c ∨ k = 0) : uv (acc + c * 2 ^ (7 * k)) = (bs.drop i).take (k + 1) := by
  rw [h c hpos, uv_small (by omega), take_more hc]
structure UintX (bs : List Int) (i : Nat) (Φ : Int → Int → Int → Prop) : Prop where
  err : (∀ w, ¬ UvAt bs i w) → ∀ code : Int, code ≠ 0 → Φ 0 0 code
  ok : ∀ v : Nat, UvAt bs i v → Φ v ((i + (uv v).length : Nat)) 0
theorem UintX.no9 {bs : List Int} {i acc : Nat} {c : Int} (h : So bs i 9 acc) (hc : bs[i + 9]? = some c) (h1 : 1 < c) : ∀ w, ¬ UvAt bs i w := fun w hw => by
  obtain ⟨g1, g2⟩ := h.byte hw hc
  have : w / 2 ^ (7 * 9) < 2 := by have := hw.1; omega
  have := g2 (by omega)
  omega
theorem UintX.no0 {bs : List Int} {i k acc : Nat} {c : Int} (h : So bs i k acc) (hk : 0 < k) (hc : bs[i + k]? = some c) (h0 : c = 0) : ∀ w, ¬ UvAt bs i w := fun w hw => by
  obtain ⟨g1, g2⟩ := h.byte hw hc
  have := (h w hw).2.2.1 hk
  rcases Nat.lt_or_ge (w / 2 ^ (7 * k)) 128 with hlt | hge'
  · have := g2 hlt; omega
  · have := g1 hge'; omega
theorem UintX.noEnd {bs : List Int} {i k acc : Nat} (h : So bs i k acc) (he : bs.length ≤ i + k) : ∀ w, ¬ UvAt bs i w := fun w hw => by
  obtain ⟨_, ⟨rest, hr⟩, _, _⟩ := h w hw
  rw [List.drop_eq_nil_of_le he] at hr
  have := uv_pos (w / 2 ^ (7 * k))
  have := congrArg List.length hr
  simp at this; omega
theorem uint_core {bs : List Int} {n i k acc c : Nat} (hk : k ≤ 9) (hc256 : c < 256) (h9 : k = 9 → c ≤ 1) (hacc : acc < 2 ^ (7 * k)) :
    IntKind.u64.wrap (IntKind.u64.wrap (Go.bits .and .u8 (c : Int) 127) * 2 ^ Int.toNat (7 * (k : Int))) = ((c % 128 * 2 ^ (7 * k) : Nat) : Int) ∧ c % 128 * 2 ^ (7 * k) < 18446744073709551616 ∧ acc + c % 128 * 2 ^ (7 * k) < 2 ^ (7 * (k + 1)) ∧ acc + c % 128 * 2 ^ (7 * k) < 18446744073709551616 := by
  have e0 : IntKind.u64.wrap (Go.bits .and .u8 (c : Int) 127) = ((c % 128 : Nat) : Int) := by
    rw [and_u8 ⟨c, hc256⟩]; simp [IntKind.wrap, IntKind.bits, IntKind.signed]; omega
  have e1 : Int.toNat (7 * (k : Int)) = 7 * k := by omega
  have hm : c % 128 < 128 := Nat.mod_lt _ (by decide)
  have hlt : c % 128 * 2 ^ (7 * k) < 18446744073709551616 := by
    by_cases h : k = 9
    · subst h
      have := h9 rfl
      have : c % 128 ≤ 1 := by omega
      exact Nat.lt_of_le_of_lt (Nat.mul_le_mul_right (2 ^ (7 * 9)) this) (by decide)
    · have hp : 2 ^ (7 * k) ≤ 2 ^ 56 := Nat.pow_le_pow_right (by decide) (by omega)
      exact Nat.lt_of_le_of_lt (Nat.mul_le_mul (show c % 128 ≤ 127 by omega) hp) (by decide)
  refine ⟨?_, hlt, ?_, ?_⟩
  · rw [e0, e1, show (((c % 128 : Nat) : Int) * 2 ^ (7 * k)) = ((c % 128 * 2 ^ (7 * k) : Nat) : Int) by rw [Int.natCast_mul, Int.natCast_pow]; rfl]
    generalize c % 128 * 2 ^ (7 * k) = y at hlt
    simp [IntKind.wrap, IntKind.bits, IntKind.signed]; omega
  · rw [show 2 ^ (7 * (k + 1)) = 2 ^ (7 * k) * 128 by rw [Nat.mul_succ, Nat.pow_add]]
    have : c % 128 * 2 ^ (7 * k) ≤ 127 * 2 ^ (7 * k) := Nat.mul_le_mul_right _ (by omega)
    omega
  · by_cases h : k = 9
    · subst h
      have := h9 rfl
      have h1 : c % 128 ≤ 1 := by omega
      have h2 : c % 128 * 2 ^ (7 * 9) ≤ 1 * 2 ^ (7 * 9) := Nat.mul_le_mul_right _ h1
      have h3 : acc < 9223372036854775808 := hacc
      have h4 : 1 * 2 ^ (7 * 9) = 9223372036854775808 := by decide
      omega
    · have hp : 2 ^ (7 * k) ≤ 2 ^ 56 := Nat.pow_le_pow_right (by decide) (by omega)
      have h2 : c % 128 * 2 ^ (7 * k) ≤ 127 * 2 ^ 56 := Nat.mul_le_mul (by omega) hp
      have h3 : (2 : Nat) ^ 56 = 72057594037927936 := by decide
      omega
theorem uint_spec {R : Ending → Hp → Prop} {σ : Hp} {p : Option Addr} {n c0 i : Nat} {bs : List Int} (hr : RdI .u8 σ p n bs) (h8 : By8 bs) (hi : i ≤ n)
    (h : UintX bs i fun v t code => R (.returned (.tuple #[.int .u64 v, .int .i64 t, .int .i64 code])) σ) : Spec prog codec_Uint.fid #[.slice p n c0, .int .i64 i] σ R := by
  have hbl : bs.length = n := hr.1
  have hbig := hr.big
  refine codec_Uint.start ⟨fun h0 => by omega, fun _ => ⟨fun h0 => by omega, fun _ => ?_⟩⟩
  suffices H : ∀ d k acc : Nat, 9 - k = d → k ≤ 9 → i + k ≤ n → acc < 2 ^ (7 * k) → So bs i k acc → Pre bs i k acc → codec_Uint.pt19 R p n c0 i acc k σ from H 9 0 0 rfl (by omega) (by omega) (by decide) So.zero Pre.zero
  intro d
  have body : ∀ k acc : Nat, (∀ a', k < 9 → i + (k + 1) ≤ n → a' < 2 ^ (7 * (k + 1)) → So bs i (k + 1) a' → Pre bs i (k + 1) a' → codec_Uint.pt19 R p n c0 i a' (k + 1 : Nat) σ) → k ≤ 9 → i + k ≤ n → acc < 2 ^ (7 * k) → So bs i k acc → Pre bs i k acc → codec_Uint.pt19 R p n c0 i acc k σ := by
    intro k acc rec hk hin hacc hso hpre
    have hp63 : 2 ^ (7 * k) ≤ 2 ^ 63 := Nat.pow_le_pow_right (by decide) (by omega)
    refine codec_Uint.pt19_of ⟨by unfold I64; omega, fun hlt => ?_, fun hge => h.err (UintX.noEnd hso (by omega)) 20 (by decide)⟩
    obtain ⟨x, hx⟩ := hr.ex (k := i + k) (by omega)
    obtain ⟨b, o, rfl, hl⟩ := hr.at hx
    have hx8 := h8 x (List.mem_of_getElem? hx)
    obtain ⟨c, rfl⟩ : ∃ c : Nat, x = c := ⟨x.toNat, by omega⟩
    have e0 : Int.toNat ((i : Int) + (k : Int)) = i + k := by omega
    have core : (k = 9 → c ≤ 1) → ((0 : Int) < (k : Int) → ¬ ((c : Int) = 0)) → ∀ x48 : Int, x48 = Go.bits .and .u8 (c : Int) 127 → ∀ x49 : Int, x49 = IntKind.u64.wrap x48 → I64 (7 * (k : Int)) ∧ ((0 : Int) ≤ (7 * (k : Int)) ∧ (7 * (k : Int)) ≤ ((IntKind.bits .u64 : Nat) : Int)) ∧ ∀ x52 : Int, x52 = IntKind.u64.wrap (x49 * 2 ^ Int.toNat (7 * (k : Int))) → ∀ x53 : Int, x53 = Go.bits .or .u64 (acc : Int) x52 → (((c : Int) : Int) < 128 → I64 ((i : Int) + (k : Int)) ∧ I64 (((i : Int) + (k : Int)) + 1) ∧ R (.returned (.tuple #[(.int .u64 x53), (.int .i64 (((i : Int) + (k : Int)) + 1)), (.int .i64 0)])) σ) ∧ (¬ (((c : Int) : Int) < 128) → I64 ((k : Int) + 1) ∧ codec_Uint.pt19 R (some ⟨b, o, none⟩) n c0 i x53 ((k : Int) + 1) σ) := by
      intro h9 hnz x48 hx48 x49 hx49
      refine ⟨by unfold I64; omega, ⟨by omega, by simp [IntKind.bits]; omega⟩, fun x52 hx52 x53 hx53 => ?_⟩
      obtain ⟨f1, f2, f3, f4⟩ := uint_core (bs := bs) (n := n) (i := i) hk (by omega) h9 hacc
      rw [hx49, hx48, f1] at hx52
      subst hx52
      rw [or_shift hacc hk f2] at hx53
      subst hx53
      refine ⟨fun hc => ⟨by unfold I64; omega, by unfold I64; omega, ?_⟩, fun hc => ⟨by unfold I64; omega, ?_⟩⟩
      · have hc' : c < 128 := by omega
        have e5 : c % 128 = c := Nat.mod_eq_of_lt hc'
        have hz : 0 < c ∨ k = 0 := by
          rcases Nat.eq_zero_or_pos k with h1 | h1
          · exact .inr h1
          · exact .inl (Nat.pos_of_ne_zero fun h2 => hnz (by omega) (by omega))
        have hu := hpre.last hx hc' hz
        have hlk : ((bs.drop i).take (k + 1)).length = k + 1 := by rw [List.length_take, List.length_drop]; omega
        have := h.ok (acc + c * 2 ^ (7 * k)) ⟨by rw [← e5]; omega, (bs.drop i).drop (k + 1), by rw [hu, List.take_append_drop]⟩
        rw [hu, hlk] at this
        have e4 : (((i + (k + 1) : Nat)) : Int) = (i : Int) + k + 1 := by omega
        rw [e4] at this
        rw [e5]; exact this
      · exact rec _ (by rcases Nat.lt_or_ge k 9 with h1 | h1; · exact h1
                        · have := h9 (by omega); omega) (by omega) f3 (hso.next hx (by omega) fun _ => rfl) (hpre.next hx (by omega) (by omega))
    have rest : (k = 9 → c ≤ 1) → ((0 : Int) < (k : Int) → (((c : Int)) = 0 → R (.returned (.tuple #[(.int .u64 0), (.int .i64 0), (.int .i64 21)])) σ) ∧ (¬ (((c : Int)) = 0) → _)) ∧ (¬ ((0 : Int) < (k : Int)) → _) := fun h9 =>
      ⟨fun hk0 => ⟨fun hc0 => h.err (UintX.no0 hso (by omega) hx hc0) 21 (by decide), fun hc0 => core h9 fun _ => hc0⟩, fun hk0 => core h9 fun hk1 => absurd hk1 hk0⟩
    refine ⟨by unfold I64; omega, b, o, rfl, by omega, c, by rw [e0]; simpa using hl, fun hk9 => ⟨fun hc1 => ?_, fun hc1 => rest fun _ => by omega⟩, fun hk9 => rest fun h => by omega⟩
    have : k = 9 := by omega
    subst this
    exact h.err (UintX.no9 hso hx hc1) 21 (by decide)
  induction d with
  | zero =>
    intro k acc hd hk hin hacc hso hpre
    exact body k acc (fun a' h1 => by omega) hk hin hacc hso hpre
  | succ d ih =>
    intro k acc hd hk hin hacc hso hpre
    exact body k acc (fun a' h1 h2 h3 h4 h5 => ih (k + 1) a' (by omega) (by omega) h2 h3 h4 h5) hk hin hacc hso hpre
end TwW
end
section
set_option linter.unusedVariables false
namespace TwW
open Go Tw Go.Proofs.Tryz
def tstep (x : Int) : Int := if Go.bits .and .u32 x 1 = 0 then x / 2 else Go.bits .xor .u32 (x / 2) 3988292384
def tab (i : Nat) : Int := tstep (tstep (tstep (tstep i)))
def cstep (c : Int) (t : Int) : Int := Go.bits .xor .u32 (c / 16) t
def nib (c : Int) : Nat := (Go.bits .and .u32 c 15).toNat
def cbyte (c x : Int) : Int := let a := Go.bits .xor .u32 c (IntKind.u32.wrap x); let b := cstep a (tab (nib a)); cstep b (tab (nib b))
def crc (xs : List Int) : Int := Go.bits .xor .u32 4294967295 (xs.foldl cbyte 4294967295)
theorem bits32 (op : BinOp) (a b : Int) : 0 ≤ Go.bits op .u32 a b ∧ Go.bits op .u32 a b < 4294967296 := by
  have h := bits_within op .u32 a b
  have e1 : IntKind.min .u32 = 0 := rfl
  have e2 : IntKind.max .u32 = 4294967295 := rfl
  rw [e1, e2] at h; omega
theorem crc_range (xs : List Int) : 0 ≤ crc xs ∧ crc xs < 4294967296 := bits32 _ _ _
theorem nib_lt (c : Int) : (0 : Int) ≤ Go.bits .and .u32 c 15 ∧ Go.bits .and .u32 c 15 < 16 := by
  refine ⟨(bits32 _ _ _).1, ?_⟩
  have h2 : (BitVec.ofInt 32 15).toNat = 15 := rfl
  have : Go.bits .and .u32 c 15 = IntKind.u32.wrap (((BitVec.ofInt 32 c) &&& (BitVec.ofInt 32 15)).toNat : Int) := rfl
  rw [this, BitVec.toNat_and, h2]
  have hle : (BitVec.ofInt 32 c).toNat &&& 15 ≤ 15 := Nat.and_le_right
  generalize (BitVec.ofInt 32 c).toNat &&& 15 = y at hle
  simp [IntKind.wrap, IntKind.bits, IntKind.signed]; omega
theorem nib_lt' (c : Int) : nib c < 16 := by have := nib_lt c; unfold nib; omega
def tabV : List Value := (List.range 16).map fun j => .int .u32 (tab j)
section
variable {σ : Hp} {R : Ending → Hp → Prop}
theorem size79 : ∀ w, (Go.sizeOf 79).run prog w = .ok 1 w := fun w => by
  have h : prog.info? 79 = some t79 := by kernel_rfl
  simp [Go.sizeOf, typeInfo, h, show t79.size = 1 from rfl]
theorem size105 : ∀ w, (Go.sizeOf 105).run prog w = .ok 16 w := fun w => by
  have h : prog.info? 105 = some t105 := by kernel_rfl
  simp [Go.sizeOf, typeInfo, h, show t105.size = 16 from rfl]
theorem rep_succ : ∀ (n : Nat) (x : Int), Nat.repeat tstep n (tstep x) = Nat.repeat tstep (n + 1) x
  | 0, _ => rfl
  | n + 1, x => by
    show tstep (Nat.repeat tstep n (tstep x)) = tstep (Nat.repeat tstep (n + 1) x)
    rw [rep_succ n x]
theorem table_in {b1 : Nat} {i : Nat} {x5 : Int} : ∀ (n : Nat) (x3 : Int) (j : Int), j = 4 - (n : Int) → n ≤ 4 → (∀ y, y = (Nat.repeat tstep n x3) → codec_table.pt28 R 0 0 0 0 0 0 0 0 0 0 0 0 0 0 0 0 b1 i y 4 x5 σ) → codec_table.pt28 R 0 0 0 0 0 0 0 0 0 0 0 0 0 0 0 0 b1 i x3 j x5 σ
  | 0, x3, j, hj, _, h => by
    have : j = 4 := by simpa using hj
    subst this; exact h x3 rfl
  | n + 1, x3, j, hj, hn, h => by
    have step : codec_table.pt39 R 0 0 0 0 0 0 0 0 0 0 0 0 0 0 0 0 b1 i (tstep x3) j x5 σ := by
      refine codec_table.pt39_of ⟨by unfold I64; omega, table_in n (tstep x3) (j + 1) (by omega) (by omega) fun y hy => h y ?_⟩
      rw [hy, rep_succ]
    refine codec_table.pt28_of ⟨fun _ x15 hx15 => ⟨fun h0 => ⟨by simp [IntKind.bits], fun x18 hx18 => ?_⟩, fun h0 => ⟨by simp [IntKind.bits], fun x20 hx20 x21 hx21 => ?_⟩⟩, fun hh => by omega⟩
    · have : x18 = tstep x3 := by rw [tstep, if_pos (by rw [← hx15]; exact h0), hx18]; rfl
      rw [this]; exact step
    · have : x21 = tstep x3 := by rw [tstep, if_neg (by rw [← hx15]; exact h0), hx21, hx20]; rfl
      rw [this]; exact step
theorem wrt1 {A : Array Value} {i j : Nat} {v : Value} (hi : i < A.size) : (wrt A i [v])[j]? = if j = i then some v else A[j]? := by
  simp only [wrt]
  by_cases h : j = i
  · subst h; simp [hi]
  · simp [h, Ne.symm h]
theorem table_spec (h : ∀ σ', Ext σ σ' → R (.returned (.agg tabV.toArray)) σ') : Spec prog codec_table.fid #[] σ R := by
  refine codec_table.start fun b1 hb1 => ?_
  suffices H : ∀ (d i : Nat) (A : Array Value), 16 - i = d → i ≤ 16 → A.size = 16 → (∀ j, j < i → A[j]? = some (.int .u32 (tab j))) → codec_table.pt10 R 0 0 0 0 0 0 0 0 0 0 0 0 0 0 0 0 b1 i (σ.set b1 (.cells A 105 (0, 0))) from
    H 16 0 _ rfl (by omega) rfl (fun j hj => by omega)
  intro d
  induction d with
  | zero =>
    intro i A hd hi hA hj
    have : i = 16 := by omega
    subst this
    refine codec_table.pt10_of ⟨fun hh => by omega, fun _ => ⟨tab 0, tab 1, tab 2, tab 3, tab 4, tab 5, tab 6, tab 7, tab 8, tab 9, tab 10, tab 11, tab 12, tab 13, tab 14, tab 15, LdL.of fun j v hv => ?_, h _ (.set hb1)⟩⟩
    have hv' : tabV[j]? = some v := hv
    have hlt : j < 16 := by
      have := (List.getElem?_eq_some_iff.1 hv').1
      simpa [tabV] using this
    have : tabV[j]? = some (.int .u32 (tab j)) := by simp [tabV, hlt]
    rw [this] at hv'
    cases hv'
    rw [Nat.zero_add]
    exact ld_of (Hp.set_same _ _ _) (hj j hlt)
  | succ d ih =>
    intro i A hd hi hA hj
    refine codec_table.pt10_of ⟨fun _ x9 hx9 => ?_, fun hh => by omega⟩
    have h9 : x9 = (i : Int) := by rw [hx9]; simp [IntKind.wrap, IntKind.bits, IntKind.signed]; omega
    subst h9
    refine table_in 4 (i : Int) 0 rfl (Nat.le_refl _) fun y hy => ?_
    refine codec_table.pt28_of ⟨fun hh => by omega, fun _ => ⟨by omega, ?_⟩⟩
    refine Eff.store (v := .int .u32 y) size79 (Hp.set_same _ _ _) rfl (by omega) (by simp [Value.cells, Value.oneCell']) ⟨by unfold I64; omega, ?_⟩
    rw [Hp.set_set]
    have e0 : 0 + Int.toNat (i : Int) * 1 = i := by omega
    rw [e0]
    have e1 : (Value.int .u32 y).cells.toList = [.int .u32 y] := rfl
    rw [e1]
    refine ih (i + 1) _ (by omega) (by omega) (by rw [wrt_size]; exact hA) fun j hj' => ?_
    rw [wrt1 (by omega)]
    by_cases hji : j = i
    · subst hji; rw [if_pos rfl, hy]; rfl
    · rw [if_neg hji]; exact hj j (by omega)
theorem sum_spec {p : Option Addr} {n c : Nat} {xs : List Int} (hr : RdI .u8 σ p n xs) (h : ∀ σ', Ext σ σ' → R (.returned (.int .u32 (crc xs))) σ') : Spec prog codec_Sum.fid #[.slice p n c] σ R := by
  refine codec_Sum.start (table_spec fun σ1 hx => ⟨tab 0, tab 1, tab 2, tab 3, tab 4, tab 5, tab 6, tab 7, tab 8, tab 9, tab 10, tab 11, tab 12, tab 13, tab 14, tab 15, rfl, fun b3 hb3 => ?_⟩)
  refine Eff.store (v := .agg tabV.toArray) (c := (List.replicate 16 (Value.int .u32 0)).toArray) size105 (Hp.set_same _ _ _) (by simp [Value.cells, tabV]) (by simp) (by simp [Value.cells, tabV, Value.oneCell']) ?_
  rw [Hp.set_set]
  have hw : wrt (List.replicate 16 (Value.int .u32 0)).toArray 0 (Value.agg tabV.toArray).cells.toList = tabV.toArray := by kernel_rfl
  rw [hw]
  have hx2 : Ext σ (σ1.set b3 (.cells tabV.toArray 105 (0, 0))) := hx.trans (.set hb3)
  have hr2 := hr.mono hx2
  have ht : ∀ k : Nat, k < 16 → (σ1.set b3 (.cells tabV.toArray 105 (0, 0))).ld ⟨b3, k, none⟩ = some (.int .u32 (tab k)) := fun k hk => ld_of (Hp.set_same _ _ _) (by simp [tabV, hk])
  generalize (σ1.set b3 (.cells tabV.toArray 105 (0, 0))) = τ at hx2 hr2 ht
  suffices H : ∀ (d k : Nat) (acc : Int), n - k = d → k ≤ n → acc = (xs.take k).foldl cbyte 4294967295 → codec_Sum.pt12 R b3 acc p n c n k τ from H n 0 _ rfl (by omega) rfl
  intro d
  induction d with
  | zero =>
    intro k acc hd hk ha
    refine codec_Sum.pt12_of ⟨fun hh => by omega, fun _ => ⟨crc xs, fun w _ => ?_, h τ hx2⟩⟩
    rw [List.take_of_length_le (by rw [hr.1]; omega)] at ha
    subst ha
    simp [Op.unary, intBits_xor, crc, IntKind.signed, IntKind.max, IntKind.bits]
  | succ d ih =>
    intro k acc hd hk ha
    refine codec_Sum.pt12_of ⟨fun _ => ?_, fun hh => by omega⟩
    obtain ⟨y, hy⟩ := hr2.ex (k := k) (by omega)
    obtain ⟨b, o, rfl, hl⟩ := hr2.at hy
    refine ⟨b, o, rfl, by omega, y, by simpa using hl, fun x16 h16 x17 h17 => ⟨by simp [IntKind.bits], fun x19 h19 x21 h21 => ?_⟩⟩
    subst h16 h17 h19 h21
    refine ⟨nib_lt _, tab (nib (Go.bits .xor .u32 acc (IntKind.u32.wrap y))), ?_, fun x24 h24 => ⟨by simp [IntKind.bits], fun x26 h26 x28 h28 => ?_⟩⟩
    · rw [Nat.zero_add, Nat.mul_one]; exact ht (nib _) (nib_lt' _)
    subst h24 h26 h28
    refine ⟨nib_lt _, tab (nib (Go.bits .xor .u32 (Go.bits .xor .u32 acc (IntKind.u32.wrap y) / 2 ^ Int.toNat 4) (tab (nib (Go.bits .xor .u32 acc (IntKind.u32.wrap y)))))), ?_, fun x31 h31 => ⟨i64_succ (by omega) hr.big, ?_⟩⟩
    · rw [Nat.zero_add, Nat.mul_one]; exact ht (nib _) (nib_lt' _)
    subst h31
    refine ih (k + 1) _ (by omega) (by omega) ?_
    rw [take_succ' hy, List.foldl_append, ← ha]
    rfl
def be4 (x : Int) : List Int := [x / 16777216 % 256, x / 65536 % 256, x / 256 % 256, x % 256]
def frame (r : List Int) : List Int := uv r.length ++ be4 (crc r) ++ r
theorem frame_len (r : List Int) : (frame r).length = (uv r.length).length + 4 + r.length := by simp [frame, be4]; omega
theorem frame_small {r : List Int} (h : r.length ≤ 65536) : (frame r).length ≤ r.length + 7 := by
  have := uv_len 2 r.length (by omega)
  rw [frame_len]; omega
theorem frame_spec {p : Option Addr} {n c : Nat} {xs : List Int} (hr : RdI .u8 σ p n xs) (h0 : 65536 < n → R (.returned (.tuple #[.slice none 0 0, .int .i64 23])) σ)
    (h1 : n ≤ 65536 → ∀ p' n' c' σ', OwnI .u8 (σ.new σ') p' n' c' (frame xs) → Ext σ σ' → R (.returned (.tuple #[.slice p' n' c', .int .i64 0])) σ') : Spec prog codec_Frame.fid #[.slice p n c] σ R := by
  have hn : xs.length = n := hr.1
  refine codec_Frame.start ⟨fun h => h0 (by omega), fun hle => sum_spec hr fun σ1 hx1 => ⟨_, rfl, fun x13 h13 => ?_⟩⟩
  have e13 : x13 = (n : Int) := by rw [h13]; simp [IntKind.wrap, IntKind.bits, IntKind.signed]; omega
  subst e13
  have hnil : RdI .u8 σ1 none 0 [] := RdS.nil
  refine putUint_spec hnil (by omega) (by omega) fun p' n' c' σ2 ho hx2 => ⟨p', n', c', rfl, by simp [IntKind.bits], fun x16 h16 x17 h17 => ⟨by simp [IntKind.bits], fun x19 h19 x20 h20 => ⟨by simp [IntKind.bits], fun x22 h22 x23 h23 x25 h25 b26 hb26 => ?_⟩⟩⟩
  rw [List.nil_append] at ho
  have hcr := crc_range xs
  have ec : [Value.int .u8 x17, .int .u8 x20, .int .u8 x23, .int .u8 x25] = (be4 (crc xs)).map (.int .u8) := by
    subst h16 h17 h19 h20 h22 h23 h25
    simp [be4, IntKind.wrap, IntKind.bits, IntKind.signed]
  have hnl : n' ≤ 10 := by have := ho.1; have h2 := uv_len10 (x := n) (by omega); simp at this; omega
  have hx12 := hx1.trans hx2
  have ho2 : Own 1 (σ.new σ2) p' n' c' ((uv n).map (.int .u8)) := ho.mono (Ext.new_trans hx1)
  refine app_lit (T := 23) hx12 ho2 (m := 4) rfl (fun u hu => by simp at hu; rcases hu with rfl | rfl | rfl | rfl <;> rfl) (by omega) (fun p3 c3 σ3 ho3 hx3 _ => ⟨p3, _, c3, rfl, ?_⟩) hb26
  refine app_new (T := 23) hx3 ho3 (RdC.of_map (hr.mono hx3)) OneC.map_int (by omega) fun p4 c4 σ4 ho4 hx4 _ => ⟨p4, _, c4, rfl, h1 (by omega) p4 _ c4 σ4 ?_ hx4⟩
  rw [ec] at ho4
  unfold OwnI frame
  rw [List.map_append, List.map_append, hn]
  exact ho4
end
end TwW
end
section
/- written by gen.py: program points and what leads to them -/
set_option linter.unusedVariables false
set_option maxRecDepth 100000
namespace TwW
open Go Tw Go.Proofs.Tryz
noncomputable section
namespace wal_Open
abbrev fid : Nat := 12
noncomputable def K0 := f12.body.getD .skip
def K1 := cl K0
def K2 := cr K0
def K3 := cl K2
def K4 := cl K3
def K5 := cr K3
def K6 := cl K5
def K7 := cl K6
def K8 := cr K6
def K9 := cr K5
def K10 := cr K2
def K11 := cl K10
def K12 := cl K11
def K13 := cr K11
def K14 := cl K13
def K15 := cl K14
def K16 := cr K14
def K17 := cr K13
def K18 := cr K10
def K19 := cl K18
def K20 := cr K18
def K21 := cl K20
def K22 := cr K20
def K23 := cl K22
def K24 := cr K22
def K25 := cl K24
def K26 := cl K25
def K27 := cr K25
def K28 := cl K27
def K29 := cl K28
def K30 := cr K28
def K31 := cr K27
def K32 := cr K24
def K33 := cl K32
def K34 := cr K32
abbrev gl (R : Ending → Hp → Prop) : Gl := Gl.fn prog 12 32 R
theorem start {R : Ending → Hp → Prop} {q0 : Option Addr} {s1 : ByteArray} {σ : Hp} (h : ∀ b2 : Nat, σ b2 = none → ∀ b3 : Nat, (Hp.set σ b2 (.cells #[(.pointer q0)] 24 (0, 0))) b3 = none → ∃ s10 : ByteArray, Hp.ld (Hp.set (Hp.set σ b2 (.cells #[(.pointer q0)] 24 (0, 0))) b3 (.cells #[(.string s1)] 9 (0, 0))) ⟨b3, 0, none⟩ = some (.string s10) ∧ ((32 : Int) < ((ByteArray.size s10 : Nat) : Int) → R (.returned (.tuple #[(.pointer none), (.slice none 0 0), (.int .i64 71)])) (Hp.set (Hp.set σ b2 (.cells #[(.pointer q0)] 24 (0, 0))) b3 (.cells #[(.string s1)] 9 (0, 0)))) ∧ (¬ ((32 : Int) < ((ByteArray.size s10 : Nat) : Int)) → ∃ s14 : ByteArray, Hp.ld (Hp.set (Hp.set σ b2 (.cells #[(.pointer q0)] 24 (0, 0))) b3 (.cells #[(.string s1)] 9 (0, 0))) ⟨b3, 0, none⟩ = some (.string s14) ∧ Spec prog 36 #[(.string s14)] (Hp.set (Hp.set σ b2 (.cells #[(.pointer q0)] 24 (0, 0))) b3 (.cells #[(.string s1)] 9 (0, 0))) (Cont R (fun v σ1 => ∃ t15 : Bool, v = (.bool t15) ∧ (t15 = false → R (.returned (.tuple #[(.pointer none), (.slice none 0 0), (.int .i64 71)])) σ1) ∧ (t15 = true → ∃ q18 : Option Addr, Hp.ld σ1 ⟨b2, 0, none⟩ = some (.pointer q18) ∧ Spec prog 27 #[(.pointer q18)] σ1 (Cont R (fun v_2 σ1_2 => ∃ t19 : Bool, v_2 = (.bool t19) ∧ (t19 = false → R (.returned (.tuple #[(.pointer none), (.slice none 0 0), (.int .i64 60)])) σ1_2) ∧ (t19 = true → ∃ q21 : Option Addr, Hp.ld σ1_2 ⟨b2, 0, none⟩ = some (.pointer q21) ∧ ∃ s22 : ByteArray, Hp.ld σ1_2 ⟨b3, 0, none⟩ = some (.string s22) ∧ ∀ b24 : Nat, σ1_2 b24 = none → ∀ b7 : Nat, (Hp.set σ1_2 b24 (.cells #[(.pointer q21), (.string s22), (.int .i64 0), (.slice none 0 0), (.int .i64 0), (.int .i64 0)] 71 (0, 0))) b7 = none → Eff prog (Instr.storeAt 26 (.pointer (some ⟨b7, 0, none⟩)) (.pointer (some ⟨b24, 0, none⟩))) (Hp.set (Hp.set σ1_2 b24 (.cells #[(.pointer q21), (.string s22), (.int .i64 0), (.slice none 0 0), (.int .i64 0), (.int .i64 0)] 71 (0, 0))) b7 (.cells #[(.pointer none)] 26 (0, 0))) (fun _ σ1_3 => ∀ b8 : Nat, σ1_3 b8 = none → Spec prog 37 #[(.func (.func 38) #[] #[(.pointer (some ⟨b7, 0, none⟩)), (.pointer (some ⟨b2, 0, none⟩)), (.pointer (some ⟨b3, 0, none⟩)), (.pointer (some ⟨b8, 0, none⟩))])] (Hp.set σ1_3 b8 (.cells #[(.slice none 0 0)] 22 (0, 0))) (Cont R (fun v_3 σ1_4 => ∃ x26 : Int, v_3 = (.int .i64 x26) ∧ ((x26 : Int) ≠ 0 → R (.returned (.tuple #[(.pointer none), (.slice none 0 0), (.int .i64 x26)])) σ1_4) ∧ (¬ ((x26 : Int) ≠ 0) → ∃ q30 : Option Addr, Hp.ld σ1_4 ⟨b7, 0, none⟩ = some (.pointer q30) ∧ ∃ p31 : Option Addr, ∃ n31 : Nat, ∃ c31 : Nat, Hp.ld σ1_4 ⟨b8, 0, none⟩ = some (.slice p31 n31 c31) ∧ R (.returned (.tuple #[(.pointer q30), (.slice p31 n31 c31), (.int .i64 0)])) σ1_4)))))))))))) : Spec prog 12 #[(.pointer q0), (.string s1)] σ R := by
 refine Spec.of_at (fn := f12) (c := K0) func12 (by kernel_rfl) (Nat.le_of_ble_eq_true (by kernel_rfl)) (fun e he => ?_)
 refine At.ofL (l := [(0, (.pointer q0)), (1, (.string s1))]) ⟨he 0, he 1, trivial⟩ (fun J => ?_)
 show At (gl R) _ _ _ _
 refine At.s K1 K2 ?_
 refine At.rg 0 [0, 1, 2, 3, 4] ?_
 refine Seq.o ?_
 refine OpTo.boxO (T := 24) (d := (some 2)) (ty := 0) (x := (.tmp 0)) (gd := none) (cs := #[(.pointer q0)]) (by kernel_rfl) rfl rfl rfl (fun b2 hn => ?_)
 replace h := h b2 hn
 refine Seq.o ?_
 refine OpTo.boxO (T := 9) (d := (some 3)) (ty := 0) (x := (.tmp 1)) (gd := none) (cs := #[(.string s1)]) (by kernel_rfl) rfl rfl rfl (fun b3 hn => ?_)
 replace h := h b3 hn
 refine Seq.us [(4, .pointer none), (5, .slice none 0 0), (6, .int .i64 0)] ?_
 refine Seq.done ?_
 refine At.s K3 K10 ?_
 refine At.s K4 K5 ?_
 refine At.rg 1 [0, 1, 2, 3, 4, 5, 6, 7] ?_
 obtain ⟨s10, hl, h⟩ := h
 refine Seq.z 10 (.load 9 (.tmp 3)) 9 (.string s10) (Y.ld isAgg9 rfl hl) ?_
 refine Seq.z 11 (.call { callee := .builtin .len, args := #[(.tmp 10)], argTypes := #[9] }) 3 (.int .i64 ((ByteArray.size s10 : Nat) : Int)) (Y.lenStr underlying9 rfl rfl) ?_
 refine Seq.us [(12, .bool (decide ((32 : Int) < ((ByteArray.size s10 : Nat) : Int)))), (13, .bool (decide ((32 : Int) < ((ByteArray.size s10 : Nat) : Int))))] ?_
 cases hb : (decide ((32 : Int) < ((ByteArray.size s10 : Nat) : Int))) with
 | true =>
  replace h := h.1 (of_decide_eq_true hb)
  refine Seq.n 14 ?_
  refine Seq.n 15 ?_
  refine Seq.n 16 ?_
  refine Seq.u 17 (.bool true) ?_
  refine Seq.done ?_
  refine At.cT 17 K6 K9 ?_
  refine At.s K7 K8 ?_
  refine At.rg 2 [0, 1, 2] ?_
  refine Seq.us [(4, .pointer none), (5, .slice none 0 0), (6, .int .i64 71)] ?_
  refine Seq.done ?_
  exact At.rt [.tmp 4, .tmp 5, .tmp 6] [(.pointer none), (.slice none 0 0), (.int .i64 71)] func12 ⟨_, rfl, ⟨_, rfl, ⟨_, rfl, rfl⟩⟩⟩ h
 | false =>
  replace h := h.2 (of_decide_eq_false hb)
  obtain ⟨s14, hl, h⟩ := h
  refine Seq.zg 14 (.load 9 (.tmp 3)) 9 (3, false) (.string s14) (Y.ld isAgg9 rfl hl) ?_
  refine Seq.o ?_
  refine OpTo.cl (some 15) call36 (h.cont fun v σ1 h2 => ?_); replace h := h2; clear h2
  obtain ⟨t15, rfl, h⟩ := h
  refine Seq.us [(16, .bool (!t15)), (17, .bool (!t15))] ?_
  refine Seq.done ?_
  cases hb : (!t15) with
  | true =>
   replace h := h.1 (Tw.nt hb)
   refine At.cT 17 K6 K9 ?_
   refine At.s K7 K8 ?_
   refine At.rg 2 [0, 1, 2] ?_
   refine Seq.us [(4, .pointer none), (5, .slice none 0 0), (6, .int .i64 71)] ?_
   refine Seq.done ?_
   exact At.rt [.tmp 4, .tmp 5, .tmp 6] [(.pointer none), (.slice none 0 0), (.int .i64 71)] func12 ⟨_, rfl, ⟨_, rfl, ⟨_, rfl, rfl⟩⟩⟩ h
  | false =>
   replace h := h.2 (Tw.nf hb)
   refine At.cF 17 K6 K9 ?_
   refine At.skip ?_
   refine At.s K11 K18 ?_
   refine At.s K12 K13 ?_
   refine At.rg 3 [0, 1, 2] ?_
   obtain ⟨q18, hl, h⟩ := h
   refine Seq.z 18 (.load 24 (.tmp 2)) 24 (.pointer q18) (Y.ld isAgg24 rfl hl) ?_
   refine Seq.o ?_
   refine OpTo.cl (some 19) call27 (h.cont fun v_2 σ1_2 h2 => ?_); replace h := h2; clear h2
   obtain ⟨t19, rfl, h⟩ := h
   refine Seq.u 20 (.bool (!t19)) ?_
   refine Seq.done ?_
   cases hb : (!t19) with
   | true =>
    replace h := h.1 (Tw.nt hb)
    refine At.cT 20 K14 K17 ?_
    refine At.s K15 K16 ?_
    refine At.rg 4 [0, 1, 2] ?_
    refine Seq.us [(4, .pointer none), (5, .slice none 0 0), (6, .int .i64 60)] ?_
    refine Seq.done ?_
    exact At.rt [.tmp 4, .tmp 5, .tmp 6] [(.pointer none), (.slice none 0 0), (.int .i64 60)] func12 ⟨_, rfl, ⟨_, rfl, ⟨_, rfl, rfl⟩⟩⟩ h
   | false =>
    replace h := h.2 (Tw.nf hb)
    refine At.cF 20 K14 K17 ?_
    refine At.skip ?_
    refine At.s K19 K20 ?_
    refine At.rg 5 [0, 1, 2, 3, 4, 5] ?_
    obtain ⟨q21, hl, h⟩ := h
    refine Seq.z 21 (.load 24 (.tmp 2)) 24 (.pointer q21) (Y.ld isAgg24 rfl hl) ?_
    obtain ⟨s22, hl, h⟩ := h
    refine Seq.z 22 (.load 9 (.tmp 3)) 9 (.string s22) (Y.ld isAgg9 rfl hl) ?_
    refine Seq.z 23 (.build 71 #[(0, (.tmp 21)), (1, (.tmp 22))]) 71 (.agg #[(.pointer q21), (.string s22), (.int .i64 0), (.slice none 0 0), (.int .i64 0), (.int .i64 0)]) (Y.build (vs := [(0, (.pointer q21)), (1, (.string s22))]) rfl (by kernel_rfl)) ?_
    refine Seq.o ?_
    refine OpTo.boxO (T := 71) (d := (some 24)) (ty := 26) (x := (.tmp 23)) (gd := none) (cs := #[(.pointer q21), (.string s22), (.int .i64 0), (.slice none 0 0), (.int .i64 0), (.int .i64 0)]) (by kernel_rfl) rfl rfl rfl (fun b24 hn => ?_)
    replace h := h b24 hn
    refine Seq.o ?_
    refine OpTo.allocO (T := 26) (d := (some 7)) (ty := 0)  (gd := none) (cs := #[(.pointer none)]) (by kernel_rfl) rfl rfl zeroValue26 rfl (fun b7 hn => ?_)
    replace h := h b7 hn
    refine Seq.o ?_
    refine OpTo.store (T := 26) (ty := 0) (x := (.tmp 7)) (y := (.tmp 24)) (p := (.pointer (some ⟨b7, 0, none⟩))) (v := (.pointer (some ⟨b24, 0, none⟩))) (gd := none) (by kernel_rfl) rfl rfl rfl (h.mono (fun _ σ1_3 h2 => ?_)); replace h := h2; clear h2
    refine Seq.done ?_
    refine At.s K21 K22 ?_
    refine At.rg 6 [0] ?_
    refine Seq.o ?_
    refine OpTo.allocO (T := 22) (d := (some 8)) (ty := 0)  (gd := none) (cs := #[(.slice none 0 0)]) (by kernel_rfl) rfl rfl zeroValue22 rfl (fun b8 hn => ?_)
    replace h := h b8 hn
    refine Seq.done ?_
    refine At.L [(2, (.pointer (some ⟨b2, 0, none⟩))), (3, (.pointer (some ⟨b3, 0, none⟩))), (7, (.pointer (some ⟨b7, 0, none⟩))), (8, (.pointer (some ⟨b8, 0, none⟩)))] fun J => ?_
    refine At.s K23 K24 ?_
    refine At.rg 7 [0, 1, 2] ?_
    refine Seq.z 25 (.makeFunc (.func 38) #[] #[(.tmp 7), (.tmp 2), (.tmp 3), (.tmp 8)]) 1 (.func (.func 38) #[] #[(.pointer (some ⟨b7, 0, none⟩)), (.pointer (some ⟨b2, 0, none⟩)), (.pointer (some ⟨b3, 0, none⟩)), (.pointer (some ⟨b8, 0, none⟩))]) (Y.makeFunc rfl rfl) ?_
    refine Seq.o ?_
    refine OpTo.cl (some 26) call37 (h.cont fun v_3 σ1_4 h2 => ?_); replace h := h2; clear h2
    obtain ⟨x26, rfl, h⟩ := h
    refine Seq.u 9 (.int .i64 x26) ?_
    refine Seq.done ?_
    refine At.s K25 K32 ?_
    refine At.s K26 K27 ?_
    refine At.rg 8 [0, 1] ?_
    refine Seq.us [(27, .int .i64 x26), (28, .bool (decide ((x26 : Int) ≠ 0)))] ?_
    refine Seq.done ?_
    cases hb : (decide ((x26 : Int) ≠ 0)) with
    | true =>
     replace h := h.1 (of_decide_eq_true hb)
     refine At.cT 28 K28 K31 ?_
     refine At.s K29 K30 ?_
     refine At.rg 9 [0, 1, 2, 3] ?_
     refine Seq.us [(29, .int .i64 x26), (4, .pointer none), (5, .slice none 0 0), (6, .int .i64 x26)] ?_
     refine Seq.done ?_
     exact At.rt [.tmp 4, .tmp 5, .tmp 6] [(.pointer none), (.slice none 0 0), (.int .i64 x26)] func12 ⟨_, rfl, ⟨_, rfl, ⟨_, rfl, rfl⟩⟩⟩ h
    | false =>
     replace h := h.2 (of_decide_eq_false hb)
     refine At.cF 28 K28 K31 ?_
     refine At.skip ?_
     refine At.s K33 K34 ?_
     refine At.draw (id := 10) (ops := cO K33) (n := 5) (q := none) (plan := [(0, true), (1, true), (2, true), (3, true), (4, true)]) (tl := []) mixed (by kernel_rfl) (by kernel_rfl) ?_
     obtain ⟨q30, hl, h⟩ := h
     refine Head.z 30 (.load 26 (.tmp 7)) 26 (.pointer q30) (Y.ld isAgg26 rfl hl) ?_
     obtain ⟨p31, n31, c31, hl, h⟩ := h
     refine Head.z 31 (.load 22 (.tmp 8)) 22 (.slice p31 n31 c31) (Y.ld isAgg22 rfl hl) ?_
     refine Head.u 4 (.pointer q30) ?_
     refine Head.u 5 (.slice p31 n31 c31) ?_
     refine Head.u 6 (.int .i64 0) ?_
     refine Head.done ?_
     refine Seq.done ?_
     exact At.rt [.tmp 4, .tmp 5, .tmp 6] [(.pointer q30), (.slice p31 n31 c31), (.int .i64 0)] func12 ⟨_, rfl, ⟨_, rfl, ⟨_, rfl, rfl⟩⟩⟩ h
end wal_Open
namespace wal_Wal_Append
abbrev fid : Nat := 13
noncomputable def K0 := f13.body.getD .skip
def K1 := cl K0
def K2 := cr K0
def K3 := cl K2
def K4 := cr K2
def K5 := cl K4
def K6 := cl K5
def K7 := cr K5
def K8 := cl K7
def K9 := cl K8
def K10 := cr K8
def K11 := cr K7
def K12 := cr K4
def K13 := cl K12
def K14 := cr K12
abbrev gl (R : Ending → Hp → Prop) : Gl := Gl.fn prog 13 16 R
theorem start {R : Ending → Hp → Prop} {q0 p1 : Option Addr} {n1 c1 : Nat} {σ : Hp} (h : ∀ b2 : Nat, σ b2 = none → Spec prog 17 #[(.slice p1 n1 c1)] (Hp.set σ b2 (.cells #[(.pointer q0)] 26 (0, 0))) (Cont R (fun v σ1 => ∃ p9a : Option Addr, ∃ n9a : Nat, ∃ c9a : Nat, ∃ x9b : Int, v = (.tuple #[(.slice p9a n9a c9a), (.int .i64 x9b)]) ∧ ∀ b5 : Nat, σ1 b5 = none → Eff prog (Instr.storeAt 23 (.pointer (some ⟨b5, 0, none⟩)) (.slice p9a n9a c9a)) (Hp.set σ1 b5 (.cells #[(.slice none 0 0)] 23 (0, 0))) (fun _ σ1_2 => ((x9b : Int) ≠ 0 → R (.returned (.int .i64 70)) σ1_2) ∧ (¬ ((x9b : Int) ≠ 0) → Spec prog 37 #[(.func (.func 44) #[] #[(.pointer (some ⟨b2, 0, none⟩)), (.pointer (some ⟨b5, 0, none⟩))])] σ1_2 (Cont R (fun v_2 σ1_3 => ∃ x15 : Int, v_2 = (.int .i64 x15) ∧ R (.returned (.int .i64 x15)) σ1_3))))))) : Spec prog 13 #[(.pointer q0), (.slice p1 n1 c1)] σ R := by
 refine Spec.of_at (fn := f13) (c := K0) func13 (by kernel_rfl) (Nat.le_of_ble_eq_true (by kernel_rfl)) (fun e he => ?_)
 refine At.ofL (l := [(0, (.pointer q0)), (1, (.slice p1 n1 c1))]) ⟨he 0, he 1, trivial⟩ (fun J => ?_)
 show At (gl R) _ _ _ _
 refine At.s K1 K2 ?_
 refine At.rg 0 [0, 1] ?_
 refine Seq.o ?_
 refine OpTo.boxO (T := 26) (d := (some 2)) (ty := 0) (x := (.tmp 0)) (gd := none) (cs := #[(.pointer q0)]) (by kernel_rfl) rfl rfl rfl (fun b2 hn => ?_)
 replace h := h b2 hn
 refine Seq.u 4 (.int .i64 0) ?_
 refine Seq.done ?_
 refine At.s K3 K4 ?_
 refine At.rg 1 [0, 1, 2, 3, 4, 5, 6, 7] ?_
 refine Seq.u 8 (.slice p1 n1 c1) ?_
 refine Seq.o ?_
 refine OpTo.cl (some 9) call17 (h.cont fun v σ1 h2 => ?_); replace h := h2; clear h2
 obtain ⟨p9a, n9a, c9a, x9b, rfl, h⟩ := h
 refine Seq.us [(7, .tuple #[(.slice p9a n9a c9a), (.int .i64 x9b)]), (10, .slice p9a n9a c9a), (11, .int .i64 x9b)] ?_
 refine Seq.o ?_
 refine OpTo.allocO (T := 23) (d := (some 5)) (ty := 0)  (gd := none) (cs := #[(.slice none 0 0)]) (by kernel_rfl) rfl rfl zeroValue23 rfl (fun b5 hn => ?_)
 replace h := h b5 hn
 refine Seq.o ?_
 refine OpTo.store (T := 23) (ty := 0) (x := (.tmp 5)) (y := (.tmp 10)) (p := (.pointer (some ⟨b5, 0, none⟩))) (v := (.slice p9a n9a c9a)) (gd := none) (by kernel_rfl) rfl rfl rfl (h.mono (fun _ σ1_2 h2 => ?_)); replace h := h2; clear h2
 refine Seq.u 6 (.int .i64 x9b) ?_
 refine Seq.done ?_
 refine At.s K5 K12 ?_
 refine At.s K6 K7 ?_
 refine At.rg 2 [0, 1] ?_
 refine Seq.us [(12, .int .i64 x9b), (13, .bool (decide ((x9b : Int) ≠ 0)))] ?_
 refine Seq.done ?_
 cases hb : (decide ((x9b : Int) ≠ 0)) with
 | true =>
  replace h := h.1 (of_decide_eq_true hb)
  refine At.cT 13 K8 K11 ?_
  refine At.s K9 K10 ?_
  refine At.rg 3 [0] ?_
  refine Seq.u 4 (.int .i64 70) ?_
  refine Seq.done ?_
  exact At.rt [.tmp 4] [(.int .i64 70)] func13 ⟨_, rfl, rfl⟩ h
 | false =>
  replace h := h.2 (of_decide_eq_false hb)
  refine At.cF 13 K8 K11 ?_
  refine At.skip ?_
  refine At.s K13 K14 ?_
  refine At.rg 4 [0, 1, 2] ?_
  refine Seq.z 14 (.makeFunc (.func 44) #[] #[(.tmp 2), (.tmp 5)]) 1 (.func (.func 44) #[] #[(.pointer (some ⟨b2, 0, none⟩)), (.pointer (some ⟨b5, 0, none⟩))]) (Y.makeFunc rfl rfl) ?_
  refine Seq.o ?_
  refine OpTo.cl (some 15) call37 (h.cont fun v_2 σ1_3 h2 => ?_); replace h := h2; clear h2
  obtain ⟨x15, rfl, h⟩ := h
  refine Seq.u 4 (.int .i64 x15) ?_
  refine Seq.done ?_
  exact At.rt [.tmp 4] [(.int .i64 x15)] func13 ⟨_, rfl, rfl⟩ h
end wal_Wal_Append
namespace wal_Wal_Sync
abbrev fid : Nat := 16
noncomputable def K0 := f16.body.getD .skip
def K1 := cl K0
def K2 := cr K0
def K3 := cl K2
def K4 := cl K3
def K5 := cr K3
def K6 := cl K5
def K7 := cl K6
def K8 := cr K6
def K9 := cr K5
def K10 := cr K2
def K11 := cl K10
def K12 := cr K10
abbrev gl (R : Ending → Hp → Prop) : Gl := Gl.fn prog 16 17 R
theorem start {R : Ending → Hp → Prop} {q0 : Option Addr} {σ : Hp} (h : Spec prog 45 #[(.pointer q0)] σ (Cont R (fun v σ1 => ∃ t4 : Bool, v = (.bool t4) ∧ (t4 = false → R (.returned (.int .i64 0)) σ1) ∧ (t4 = true → ∃ (b7 o7 : Nat), q0 = some ⟨b7, o7, none⟩ ∧ ∃ q9 : Option Addr, Hp.ld σ1 ⟨b7, o7, none⟩ = some (.pointer q9) ∧ ∃ x14 : Int, Hp.ld σ1 ⟨b7, (o7 + 4), none⟩ = some (.int .i64 x14) ∧ Spec prog 42 #[(.pointer (some ⟨b7, o7, none⟩)), (.string (ByteArray.mk #[115])), (.int .i64 x14)] σ1 (Cont R (fun v_2 σ1_2 => ∃ s15 : ByteArray, v_2 = (.string s15) ∧ Kp [b7] σ1 σ1_2 ∧ Spec prog 46 #[(.pointer q9), (.string s15)] σ1_2 (Cont R (fun v_3 σ1_3 => ∃ x16 : Int, v_3 = (.int .i64 x16) ∧ R (.returned (.int .i64 x16)) σ1_3)))))))) : Spec prog 16 #[(.pointer q0)] σ R := by
 refine Spec.of_at (fn := f16) (c := K0) func16 (by kernel_rfl) (Nat.le_of_ble_eq_true (by kernel_rfl)) (fun e he => ?_)
 refine At.ofL (l := [(0, (.pointer q0))]) ⟨he 0, trivial⟩ (fun J => ?_)
 show At (gl R) _ _ _ _
 refine At.s K1 K2 ?_
 refine At.rg 0 [0] ?_
 refine Seq.u 2 (.int .i64 0) ?_
 refine Seq.done ?_
 refine At.s K3 K10 ?_
 refine At.s K4 K5 ?_
 refine At.rg 1 [0, 1, 2] ?_
 refine Seq.u 3 (.pointer q0) ?_
 refine Seq.o ?_
 refine OpTo.cl (some 4) call45 (h.cont fun v σ1 h2 => ?_); replace h := h2; clear h2
 obtain ⟨t4, rfl, h⟩ := h
 refine Seq.u 5 (.bool (!t4)) ?_
 refine Seq.done ?_
 cases hb : (!t4) with
 | true =>
  replace h := h.1 (Tw.nt hb)
  refine At.cT 5 K6 K9 ?_
  refine At.s K7 K8 ?_
  refine At.rg 2 [0] ?_
  refine Seq.u 2 (.int .i64 0) ?_
  refine Seq.done ?_
  exact At.rt [.tmp 2] [(.int .i64 0)] func16 ⟨_, rfl, rfl⟩ h
 | false =>
  replace h := h.2 (Tw.nf hb)
  refine At.cF 5 K6 K9 ?_
  refine At.skip ?_
  refine At.s K11 K12 ?_
  refine At.draw (id := 3) (ops := cO K11) (n := 12) (q := (some [])) (plan := [(0, true), (1, true), (2, true), (3, true), (4, true), (5, true), (6, true), (7, true), (8, true), (9, false), (10, false), (11, true)]) (tl := []) mixed (by kernel_rfl) (by kernel_rfl) ?_
  refine Head.u 6 (.pointer q0) ?_
  obtain ⟨b7, o7, hq, h⟩ := h
  subst hq
  refine Head.z 7 (.nilCheck (.tmp 6)) 0 (.pointer (some ⟨b7, o7, none⟩)) (Y.nilCheck rfl) ?_
  refine Head.z 8 (.fieldAddr 71 (.tmp 7) 0) 0 (.pointer (some ⟨b7, o7, none⟩)) (Y.fieldAddr (fd := (fieldOf prog 71 0)) underlying71 (by kernel_rfl) sizeOf24 rfl rfl) ?_
  obtain ⟨q9, hl, h⟩ := h
  refine Head.yl b7 [[10]] rfl (by kernel_rfl) (d := (some 9)) (op := (.load 24 (.tmp 8))) (ty := 24) (v := (.pointer q9)) (by kernel_rfl) rfl (Y.ld isAgg24 rfl (lim_ld hl)) ?_
  refine Head.u 10 (.pointer (some ⟨b7, o7, none⟩)) ?_
  refine Head.u 11 (.pointer (some ⟨b7, o7, none⟩)) ?_
  refine Head.z 12 (.nilCheck (.tmp 11)) 0 (.pointer (some ⟨b7, o7, none⟩)) (Y.nilCheck rfl) ?_
  refine Head.z 13 (.fieldAddr 71 (.tmp 12) 4) 0 (.pointer (some ⟨b7, (o7 + 4), none⟩)) (Y.fieldAddr (fd := (fieldOf prog 71 4)) underlying71 (by kernel_rfl) sizeOf3 rfl rfl) ?_
  obtain ⟨x14, hl, h⟩ := h
  refine Head.yl b7 [[9], [10, 9]] rfl (by kernel_rfl) (d := (some 14)) (op := (.load 3 (.tmp 13))) (ty := 3) (v := (.int .i64 x14)) (by kernel_rfl) rfl (Y.ld isAgg3 rfl (lim_ld hl)) ?_
  refine Head.o (q' := (some [(b7, [10])])) rfl ?_
  refine OpTo.cl (some 15) call42 (h.cont fun v_2 σ1_2 h2 => ?_); replace h := h2; clear h2
  obtain ⟨s15, rfl, hk, h⟩ := h
  refine ⟨⟨fun _ h => h, kp_q (L := [(b7, [10])]) hk⟩, ?_⟩
  refine Head.o (q' := (some [])) rfl ?_
  refine OpTo.cl (some 16) call46 (h.cont fun v_3 σ1_3 h2 => ?_); replace h := h2; clear h2
  obtain ⟨x16, rfl, h⟩ := h
  refine ⟨⟨fun _ h => h, kp_q (L := []) Kp.nil⟩, ?_⟩
  refine Head.u 2 (.int .i64 x16) ?_
  refine Head.done ?_
  refine Seq.done ?_
  exact At.rt [.tmp 2] [(.int .i64 x16)] func16 ⟨_, rfl, rfl⟩ h
end wal_Wal_Sync
namespace wal_Wal_Cut
abbrev fid : Nat := 22
noncomputable def K0 := f22.body.getD .skip
def K1 := cl K0
def K2 := cr K0
def K3 := cl K2
def K4 := cl K3
def K5 := cr K3
def K6 := cl K5
def K7 := cl K6
def K8 := cl K7
def K9 := cr K7
def K10 := cl K9
def K11 := cl K10
def K12 := cr K10
def K13 := cr K9
def K14 := cl K13
def K15 := cl K14
def K16 := cl K15
def K17 := cr K15
def K18 := cl K17
def K19 := cr K17
def K20 := cl K19
def K21 := cl K20
def K22 := cr K20
def K23 := cr K19
def K24 := cr K13
def K25 := cr K2
def K26 := cl K25
def K27 := cr K25
abbrev gl (R : Ending → Hp → Prop) : Gl := Gl.fn prog 22 19 R
def pt8 (R : Ending → Hp → Prop) (b2 b3 : Nat) (p7 : Option Addr) (n7 c7 : Nat) (x8 x9 : Int) (σ : Hp) : Prop := ∀ (J : Env), At (gl R) [.code K8, .code K9, .inLoop K7, .inBlock 0, .code K25] (upds J [(2, (.pointer (some ⟨b2, 0, none⟩))), (3, (.pointer (some ⟨b3, 0, none⟩))), (7, (.slice p7 n7 c7)), (8, (.int .i64 x8)), (9, (.int .i64 x9))]) [] σ
theorem start {R : Ending → Hp → Prop} {q0 p1 : Option Addr} {n1 c1 : Nat} {σ : Hp} (h : ∀ b2 : Nat, σ b2 = none → ∀ b3 : Nat, (Hp.set σ b2 (.cells #[(.pointer q0)] 26 (0, 0))) b3 = none → ∃ p7 : Option Addr, ∃ n7 : Nat, ∃ c7 : Nat, Hp.ld (Hp.set (Hp.set σ b2 (.cells #[(.pointer q0)] 26 (0, 0))) b3 (.cells #[(.slice p1 n1 c1)] 22 (0, 0))) ⟨b3, 0, none⟩ = some (.slice p7 n7 c7) ∧ pt8 R b2 b3 p7 n7 c7 ((n7 : Int)) 0 (Hp.set (Hp.set σ b2 (.cells #[(.pointer q0)] 26 (0, 0))) b3 (.cells #[(.slice p1 n1 c1)] 22 (0, 0)))) : Spec prog 22 #[(.pointer q0), (.slice p1 n1 c1)] σ R := by
 refine Spec.of_at (fn := f22) (c := K0) func22 (by kernel_rfl) (Nat.le_of_ble_eq_true (by kernel_rfl)) (fun e he => ?_)
 refine At.ofL (l := [(0, (.pointer q0)), (1, (.slice p1 n1 c1))]) ⟨he 0, he 1, trivial⟩ (fun J => ?_)
 show At (gl R) _ _ _ _
 refine At.s K1 K2 ?_
 refine At.rg 0 [0, 1, 2] ?_
 refine Seq.o ?_
 refine OpTo.boxO (T := 26) (d := (some 2)) (ty := 0) (x := (.tmp 0)) (gd := none) (cs := #[(.pointer q0)]) (by kernel_rfl) rfl rfl rfl (fun b2 hn => ?_)
 replace h := h b2 hn
 refine Seq.o ?_
 refine OpTo.boxO (T := 22) (d := (some 3)) (ty := 0) (x := (.tmp 1)) (gd := none) (cs := #[(.slice p1 n1 c1)]) (by kernel_rfl) rfl rfl rfl (fun b3 hn => ?_)
 replace h := h b3 hn
 refine Seq.u 4 (.int .i64 0) ?_
 refine Seq.done ?_
 refine At.s K3 K25 ?_
 refine At.s K4 K5 ?_
 refine At.rg 1 [0, 1, 2] ?_
 obtain ⟨p7, n7, c7, hl, h⟩ := h
 refine Seq.z 7 (.load 22 (.tmp 3)) 22 (.slice p7 n7 c7) (Y.ld isAgg22 rfl hl) ?_
 refine Seq.z 8 (.call { callee := .builtin .len, args := #[(.tmp 7)], argTypes := #[22] }) 3 (.int .i64 (n7 : Int)) (Y.lenS underlying22 rfl rfl) ?_
 refine Seq.u 9 (.int .i64 0) ?_
 refine Seq.done ?_
 refine At.b 0 K6 ?_
 refine At.loop (x := K7) (by kernel_rfl) ?_
 refine At.s K8 K9 ?_
 exact At.v [(2, (.pointer (some ⟨b2, 0, none⟩))), (3, (.pointer (some ⟨b3, 0, none⟩))), (7, (.slice p7 n7 c7)), (8, (.int .i64 (n7 : Int))), (9, (.int .i64 0))] (h _)
theorem pt8_of {R : Ending → Hp → Prop} {b2 b3 n7 c7 : Nat} {p7 : Option Addr} {x8 x9 : Int} {σ : Hp} (h : ((x9 : Int) < x8 → ∃ (b11 o11 : Nat), p7 = some ⟨b11, o11, none⟩ ∧ ((0 : Int) ≤ x9 ∧ x9 < (n7 : Int)) ∧ ∃ p12 : Option Addr, ∃ n12 : Nat, ∃ c12 : Nat, Hp.ld σ ⟨b11, (o11 + Int.toNat x9 * 1), none⟩ = some (.slice p12 n12 c12) ∧ ((65536 : Int) < (n12 : Int) → R (.returned (.int .i64 70)) σ) ∧ (¬ ((65536 : Int) < (n12 : Int)) → I64 (x9 + 1) ∧ pt8 R b2 b3 ((some ⟨b11, o11, none⟩)) n7 c7 x8 ((x9 + 1)) σ)) ∧ (¬ ((x9 : Int) < x8) → Spec prog 37 #[(.func (.func 54) #[] #[(.pointer (some ⟨b2, 0, none⟩)), (.pointer (some ⟨b3, 0, none⟩))])] σ (Cont R (fun v σ1 => ∃ x18 : Int, v = (.int .i64 x18) ∧ R (.returned (.int .i64 x18)) σ1)))) : pt8 R b2 b3 p7 n7 c7 x8 x9 σ := by
 intro J
 show At (gl R) _ _ _ _
 refine At.rg 2 [0] ?_
 refine Seq.u 10 (.bool (decide ((x9 : Int) < x8))) ?_
 refine Seq.done ?_
 refine At.s K10 K13 ?_
 cases hb : (decide ((x9 : Int) < x8)) with
 | true =>
  replace h := h.1 (of_decide_eq_true hb)
  refine At.cT 10 K11 K12 ?_
  refine At.skip ?_
  refine At.s K14 K24 ?_
  refine At.b 1 K15 ?_
  refine At.s K16 K17 ?_
  refine At.rg 3 [0, 1, 2] ?_
  obtain ⟨b11, o11, hq, h⟩ := h
  subst hq
  obtain ⟨hi, h⟩ := h
  refine Seq.z 11 (.indexAddr 22 (.tmp 7) (.tmp 9)) 0 (.pointer (some ⟨b11, (o11 + Int.toNat x9 * 1), none⟩)) (Y.idx underlying22 sizeOf23 rfl rfl hi rfl) ?_
  obtain ⟨p12, n12, c12, hl, h⟩ := h
  refine Seq.z 12 (.load 23 (.tmp 11)) 23 (.slice p12 n12 c12) (Y.ld isAgg23 rfl hl) ?_
  refine Seq.u 6 (.slice p12 n12 c12) ?_
  refine Seq.done ?_
  refine At.s K18 K19 ?_
  refine At.rg 4 [0, 1, 2] ?_
  refine Seq.u 13 (.slice p12 n12 c12) ?_
  refine Seq.z 14 (.call { callee := .builtin .len, args := #[(.tmp 13)], argTypes := #[23] }) 3 (.int .i64 (n12 : Int)) (Y.lenS underlying23 rfl rfl) ?_
  refine Seq.u 15 (.bool (decide ((65536 : Int) < (n12 : Int)))) ?_
  refine Seq.done ?_
  cases hb : (decide ((65536 : Int) < (n12 : Int))) with
  | true =>
   replace h := h.1 (of_decide_eq_true hb)
   refine At.cT 15 K20 K23 ?_
   refine At.s K21 K22 ?_
   refine At.rg 5 [0] ?_
   refine Seq.u 4 (.int .i64 70) ?_
   refine Seq.done ?_
   exact At.rt [.tmp 4] [(.int .i64 70)] func22 ⟨_, rfl, rfl⟩ h
  | false =>
   replace h := h.2 (of_decide_eq_false hb)
   refine At.cF 15 K20 K23 ?_
   refine At.skip ?_
   refine At.inBlock ?_
   refine At.rg 6 [0, 1] ?_
   obtain ⟨hi, h⟩ := h
   refine Seq.z 16 (.binOp .add 3 (.tmp 9) (.const (.int .i64 1)) 3) 3 (.int .i64 (x9 + 1)) (Y.addI hi rfl rfl) ?_
   refine Seq.u 9 (.int .i64 (x9 + 1)) ?_
   refine Seq.done ?_
   refine At.inLoop ?_
   refine At.s K8 K9 ?_
   exact At.v [(2, (.pointer (some ⟨b2, 0, none⟩))), (3, (.pointer (some ⟨b3, 0, none⟩))), (7, (.slice (some ⟨b11, o11, none⟩) n7 c7)), (8, (.int .i64 x8)), (9, (.int .i64 (x9 + 1)))] (h _)
 | false =>
  replace h := h.2 (of_decide_eq_false hb)
  refine At.cF 10 K11 K12 ?_
  refine At.x 0 [.code K25] ?_
  refine At.s K26 K27 ?_
  refine At.rg 7 [0, 1, 2] ?_
  refine Seq.z 17 (.makeFunc (.func 54) #[] #[(.tmp 2), (.tmp 3)]) 1 (.func (.func 54) #[] #[(.pointer (some ⟨b2, 0, none⟩)), (.pointer (some ⟨b3, 0, none⟩))]) (Y.makeFunc rfl rfl) ?_
  refine Seq.o ?_
  refine OpTo.cl (some 18) call37 (h.cont fun v σ1 h2 => ?_); replace h := h2; clear h2
  obtain ⟨x18, rfl, h⟩ := h
  refine Seq.u 4 (.int .i64 x18) ?_
  refine Seq.done ?_
  exact At.rt [.tmp 4] [(.int .i64 x18)] func22 ⟨_, rfl, rfl⟩ h
end wal_Wal_Cut
namespace wal_Wal_Segments
abbrev fid : Nat := 25
noncomputable def K0 := f25.body.getD .skip
def K1 := cl K0
def K2 := cr K0
def K3 := cl K2
def K4 := cr K2
abbrev gl (R : Ending → Hp → Prop) : Gl := Gl.fn prog 25 8 R
theorem start {R : Ending → Hp → Prop} {q0 : Option Addr} {σ : Hp} (h : ∃ (b4 o4 : Nat), q0 = some ⟨b4, o4, none⟩ ∧ ∃ p6 : Option Addr, ∃ n6 : Nat, ∃ c6 : Nat, Hp.ld σ ⟨b4, (o4 + 3), none⟩ = some (.slice p6 n6 c6) ∧ R (.returned (.int .i64 (n6 : Int))) σ) : Spec prog 25 #[(.pointer q0)] σ R := by
 refine Spec.of_at (fn := f25) (c := K0) func25 (by kernel_rfl) (Nat.le_of_ble_eq_true (by kernel_rfl)) (fun e he => ?_)
 refine At.ofL (l := [(0, (.pointer q0))]) ⟨he 0, trivial⟩ (fun J => ?_)
 show At (gl R) _ _ _ _
 refine At.s K1 K2 ?_
 refine At.rg 0 [0] ?_
 refine Seq.u 2 (.int .i64 0) ?_
 refine Seq.done ?_
 refine At.s K3 K4 ?_
 refine At.rg 1 [0, 1, 2, 3, 4, 5] ?_
 refine Seq.u 3 (.pointer q0) ?_
 obtain ⟨b4, o4, hq, h⟩ := h
 subst hq
 refine Seq.z 4 (.nilCheck (.tmp 3)) 0 (.pointer (some ⟨b4, o4, none⟩)) (Y.nilCheck rfl) ?_
 refine Seq.z 5 (.fieldAddr 71 (.tmp 4) 3) 0 (.pointer (some ⟨b4, (o4 + 3), none⟩)) (Y.fieldAddr (fd := (fieldOf prog 71 3)) underlying71 (by kernel_rfl) sizeOf64 rfl rfl) ?_
 obtain ⟨p6, n6, c6, hl, h⟩ := h
 refine Seq.z 6 (.load 64 (.tmp 5)) 64 (.slice p6 n6 c6) (Y.ld isAgg64 rfl hl) ?_
 refine Seq.z 7 (.call { callee := .builtin .len, args := #[(.tmp 6)], argTypes := #[64] }) 3 (.int .i64 (n6 : Int)) (Y.lenS underlying64 rfl rfl) ?_
 refine Seq.u 2 (.int .i64 (n6 : Int)) ?_
 refine Seq.done ?_
 exact At.rt [.tmp 2] [(.int .i64 (n6 : Int))] func25 ⟨_, rfl, rfl⟩ h
end wal_Wal_Segments
namespace wal_Open_1
abbrev fid : Nat := 38
noncomputable def K0 := f38.body.getD .skip
def K1 := cl K0
def K2 := cr K0
def K3 := cl K2
def K4 := cr K2
def K5 := cl K4
def K6 := cr K4
def K7 := cl K6
def K8 := cr K6
def K9 := cl K8
def K10 := cr K8
def K11 := cl K10
def K12 := cl K11
def K13 := cr K11
def K14 := cl K13
def K15 := cr K13
def K16 := cl K15
def K17 := cr K15
def K18 := cr K10
abbrev gl (R : Ending → Hp → Prop) : Gl := Gl.fn prog 38 59 R
theorem start {R : Ending → Hp → Prop} {b0 b1 b2 b3 : Nat} {σ : Hp} (h : ∃ q7 : Option Addr, Hp.ld σ ⟨b0, 0, none⟩ = some (.pointer q7) ∧ ∃ q8 : Option Addr, Hp.ld σ ⟨b1, 0, none⟩ = some (.pointer q8) ∧ ∃ s9 : ByteArray, Hp.ld σ ⟨b2, 0, none⟩ = some (.string s9) ∧ (ByteArray.size s9 + ByteArray.size (ByteArray.mk #[47]) ≤ 9223372036854775807) ∧ Spec prog 18 #[(.pointer q8), (.string (s9 ++ (ByteArray.mk #[47])))] σ (Cont R (fun v σ1 => ∃ p11 : Option Addr, ∃ n11 : Nat, ∃ c11 : Nat, v = (.slice p11 n11 c11) ∧ Kp [b0] σ σ1 ∧ Spec prog 39 #[(.pointer q7), (.slice p11 n11 c11)] σ1 (Cont R (fun v_2 σ1_2 => v_2 = (.tuple #[]) ∧ ∃ q13 : Option Addr, Hp.ld σ1_2 ⟨b0, 0, none⟩ = some (.pointer q13) ∧ ∃ q14 : Option Addr, Hp.ld σ1_2 ⟨b0, 0, none⟩ = some (.pointer q14) ∧ ∃ (b15 o15 : Nat), q14 = some ⟨b15, o15, none⟩ ∧ ∃ x17 : Int, Hp.ld σ1_2 ⟨b15, (o15 + 2), none⟩ = some (.int .i64 x17) ∧ I64 (x17 + 1) ∧ ∃ (b19 o19 : Nat), q13 = some ⟨b19, o19, none⟩ ∧ Eff prog (Instr.storeAt 3 (.pointer (some ⟨b19, (o19 + 4), none⟩)) (.int .i64 (x17 + 1))) σ1_2 (fun _ σ1_3 => ∃ q21 : Option Addr, Hp.ld σ1_3 ⟨b0, 0, none⟩ = some (.pointer q21) ∧ Spec prog 40 #[(.pointer q21)] σ1_3 (Cont R (fun v_3 σ1_4 => ∃ p22 : Option Addr, ∃ n22 : Nat, ∃ c22 : Nat, v_3 = (.slice p22 n22 c22) ∧ Eff prog (Instr.storeAt 22 (.pointer (some ⟨b3, 0, none⟩)) (.slice p22 n22 c22)) σ1_4 (fun _ σ1_5 => ∃ q23 : Option Addr, Hp.ld σ1_5 ⟨b0, 0, none⟩ = some (.pointer q23) ∧ ∃ (b24 o24 : Nat), q23 = some ⟨b24, o24, none⟩ ∧ ∃ p26 : Option Addr, ∃ n26 : Nat, ∃ c26 : Nat, Hp.ld σ1_5 ⟨b24, (o24 + 3), none⟩ = some (.slice p26 n26 c26) ∧ ((0 : Int) < (n26 : Int) → ∃ q30 : Option Addr, Hp.ld σ1_5 ⟨b0, 0, none⟩ = some (.pointer q30) ∧ ∃ q31 : Option Addr, Hp.ld σ1_5 ⟨b0, 0, none⟩ = some (.pointer q31) ∧ ∃ (b32 o32 : Nat), q31 = some ⟨b32, o32, none⟩ ∧ ∃ p34 : Option Addr, ∃ n34 : Nat, ∃ c34 : Nat, Hp.ld σ1_5 ⟨b32, (o32 + 3), none⟩ = some (.slice p34 n34 c34) ∧ I64 ((n26 : Int) - 1) ∧ ∃ (b37 o37 : Nat), p34 = some ⟨b37, o37, none⟩ ∧ ((0 : Int) ≤ ((n26 : Int) - 1) ∧ ((n26 : Int) - 1) < (n34 : Int)) ∧ ∃ x38 : Int, Hp.ld σ1_5 ⟨b37, (o37 + Int.toNat ((n26 : Int) - 1) * 1), none⟩ = some (.int .i64 x38) ∧ ∃ (b39 o39 : Nat), q30 = some ⟨b39, o39, none⟩ ∧ Eff prog (Instr.storeAt 3 (.pointer (some ⟨b39, (o39 + 4), none⟩)) (.int .i64 x38)) σ1_5 (fun _ σ1_6 => ∃ q42 : Option Addr, Hp.ld σ1_6 ⟨b1, 0, none⟩ = some (.pointer q42) ∧ ∃ q43 : Option Addr, Hp.ld σ1_6 ⟨b0, 0, none⟩ = some (.pointer q43) ∧ ∃ q44 : Option Addr, Hp.ld σ1_6 ⟨b0, 0, none⟩ = some (.pointer q44) ∧ ∃ (b45 o45 : Nat), q44 = some ⟨b45, o45, none⟩ ∧ ∃ x47 : Int, Hp.ld σ1_6 ⟨b45, (o45 + 4), none⟩ = some (.int .i64 x47) ∧ Spec prog 42 #[(.pointer q43), (.string (ByteArray.mk #[115])), (.int .i64 x47)] σ1_6 (Cont R (fun v_4 σ1_7 => ∃ s48 : ByteArray, v_4 = (.string s48) ∧ Kp [b1] σ1_6 σ1_7 ∧ Spec prog 41 #[(.pointer q42), (.string s48)] σ1_7 (Cont R (fun v_5 σ1_8 => ∃ p49a : Option Addr, ∃ n49a : Nat, ∃ c49a : Nat, ∃ x49b : Int, v_5 = (.tuple #[(.slice p49a n49a c49a), (.int .i64 x49b)]) ∧ Spec prog 43 #[(.int .i64 x49b)] σ1_8 (Cont R (fun v_6 σ1_9 => v_6 = (.tuple #[]) ∧ ∃ q54 : Option Addr, Hp.ld σ1_9 ⟨b0, 0, none⟩ = some (.pointer q54) ∧ ∃ (b57 o57 : Nat), q54 = some ⟨b57, o57, none⟩ ∧ Eff prog (Instr.storeAt 3 (.pointer (some ⟨b57, (o57 + 5), none⟩)) (.int .i64 (n49a : Int))) σ1_9 (fun _ σ1_10 => R (.returned (.tuple #[])) σ1_10))))))))) ∧ (¬ ((0 : Int) < (n26 : Int)) → R (.returned (.tuple #[])) σ1_5)))))))))) : Spec prog 38 #[(.pointer (some ⟨b0, 0, none⟩)), (.pointer (some ⟨b1, 0, none⟩)), (.pointer (some ⟨b2, 0, none⟩)), (.pointer (some ⟨b3, 0, none⟩))] σ R := by
 refine Spec.of_at (fn := f38) (c := K0) func38 (by kernel_rfl) (Nat.le_of_ble_eq_true (by kernel_rfl)) (fun e he => ?_)
 refine At.ofL (l := [(0, (.pointer (some ⟨b0, 0, none⟩))), (1, (.pointer (some ⟨b1, 0, none⟩))), (2, (.pointer (some ⟨b2, 0, none⟩))), (3, (.pointer (some ⟨b3, 0, none⟩)))]) ⟨he 0, he 1, he 2, he 3, trivial⟩ (fun J => ?_)
 show At (gl R) _ _ _ _
 refine At.s K1 K2 ?_
 refine At.draw (id := 0) (ops := cO K1) (n := 5) (q := (some [])) (plan := [(0, true), (1, true), (2, true), (3, true), (4, false)]) (tl := [5]) mixed (by kernel_rfl) (by kernel_rfl) ?_
 obtain ⟨q7, hl, h⟩ := h
 refine Head.yl b0 [] rfl (by kernel_rfl) (d := (some 7)) (op := (.load 26 (.tmp 0))) (ty := 26) (v := (.pointer q7)) (by kernel_rfl) rfl (Y.ld isAgg26 rfl (lim_ld hl)) ?_
 obtain ⟨q8, hl, h⟩ := h
 refine Head.yl b1 [[4]] rfl (by kernel_rfl) (d := (some 8)) (op := (.load 24 (.tmp 1))) (ty := 24) (v := (.pointer q8)) (by kernel_rfl) rfl (Y.ld isAgg24 rfl (lim_ld hl)) ?_
 obtain ⟨s9, hl, h⟩ := h
 refine Head.yl b2 [[4, 3]] rfl (by kernel_rfl) (d := (some 9)) (op := (.load 9 (.tmp 2))) (ty := 9) (v := (.string s9)) (by kernel_rfl) rfl (Y.ld isAgg9 rfl (lim_ld hl)) ?_
 obtain ⟨hi, h⟩ := h
 refine Head.z 10 (.binOp .add 9 (.tmp 9) (.const (.string (ByteArray.mk #[47]))) 9) 9 (.string (s9 ++ (ByteArray.mk #[47]))) (Y.addS underlying9 rfl rfl hi) ?_
 refine Head.o (q' := (some [(b0, [])])) rfl ?_
 refine OpTo.cl (some 11) call18 (h.cont fun v σ1 h2 => ?_); replace h := h2; clear h2
 obtain ⟨p11, n11, c11, rfl, hk, h⟩ := h
 refine ⟨⟨fun _ h => h, kp_q (L := [(b0, [])]) hk⟩, ?_⟩
 refine Head.done ?_
 refine Seq.o ?_
 refine OpTo.cl (some 12) call39 (h.cont fun v_2 σ1_2 h2 => ?_); replace h := h2; clear h2
 obtain ⟨rfl, h⟩ := h
 refine Seq.done ?_
 refine At.s K3 K4 ?_
 refine At.draw (id := 1) (ops := cO K3) (n := 8) (q := none) (plan := [(0, true), (1, true), (2, true), (3, true), (4, true), (5, true), (6, true), (7, true)]) (tl := [8]) mixed (by kernel_rfl) (by kernel_rfl) ?_
 obtain ⟨q13, hl, h⟩ := h
 refine Head.z 13 (.load 26 (.tmp 0)) 26 (.pointer q13) (Y.ld isAgg26 rfl hl) ?_
 obtain ⟨q14, hl, h⟩ := h
 refine Head.z 14 (.load 26 (.tmp 0)) 26 (.pointer q14) (Y.ld isAgg26 rfl hl) ?_
 obtain ⟨b15, o15, hq, h⟩ := h
 subst hq
 refine Head.z 15 (.nilCheck (.tmp 14)) 0 (.pointer (some ⟨b15, o15, none⟩)) (Y.nilCheck rfl) ?_
 refine Head.z 16 (.fieldAddr 71 (.tmp 15) 2) 0 (.pointer (some ⟨b15, (o15 + 2), none⟩)) (Y.fieldAddr (fd := (fieldOf prog 71 2)) underlying71 (by kernel_rfl) sizeOf3 rfl rfl) ?_
 obtain ⟨x17, hl, h⟩ := h
 refine Head.z 17 (.load 3 (.tmp 16)) 3 (.int .i64 x17) (Y.ld isAgg3 rfl hl) ?_
 obtain ⟨hi, h⟩ := h
 refine Head.z 18 (.binOp .add 3 (.tmp 17) (.const (.int .i64 1)) 3) 3 (.int .i64 (x17 + 1)) (Y.addI hi rfl rfl) ?_
 obtain ⟨b19, o19, hq, h⟩ := h
 subst hq
 refine Head.z 19 (.nilCheck (.tmp 13)) 0 (.pointer (some ⟨b19, o19, none⟩)) (Y.nilCheck rfl) ?_
 refine Head.z 20 (.fieldAddr 71 (.tmp 19) 4) 0 (.pointer (some ⟨b19, (o19 + 4), none⟩)) (Y.fieldAddr (fd := (fieldOf prog 71 4)) underlying71 (by kernel_rfl) sizeOf3 rfl rfl) ?_
 refine Head.done ?_
 refine Seq.o ?_
 refine OpTo.store (T := 3) (ty := 0) (x := (.tmp 20)) (y := (.tmp 18)) (p := (.pointer (some ⟨b19, (o19 + 4), none⟩))) (v := (.int .i64 (x17 + 1))) (gd := none) (by kernel_rfl) rfl rfl rfl (h.mono (fun _ σ1_3 h2 => ?_)); replace h := h2; clear h2
 refine Seq.done ?_
 refine At.s K5 K6 ?_
 refine At.rg 2 [0, 1, 2] ?_
 obtain ⟨q21, hl, h⟩ := h
 refine Seq.z 21 (.load 26 (.tmp 0)) 26 (.pointer q21) (Y.ld isAgg26 rfl hl) ?_
 refine Seq.o ?_
 refine OpTo.cl (some 22) call40 (h.cont fun v_3 σ1_4 h2 => ?_); replace h := h2; clear h2
 obtain ⟨p22, n22, c22, rfl, h⟩ := h
 refine Seq.o ?_
 refine OpTo.store (T := 22) (ty := 0) (x := (.tmp 3)) (y := (.tmp 22)) (p := (.pointer (some ⟨b3, 0, none⟩))) (v := (.slice p22 n22 c22)) (gd := none) (by kernel_rfl) rfl rfl rfl (h.mono (fun _ σ1_5 h2 => ?_)); replace h := h2; clear h2
 refine Seq.done ?_
 refine At.s K7 K8 ?_
 refine At.rg 3 [0, 1, 2, 3, 4, 5] ?_
 obtain ⟨q23, hl, h⟩ := h
 refine Seq.z 23 (.load 26 (.tmp 0)) 26 (.pointer q23) (Y.ld isAgg26 rfl hl) ?_
 obtain ⟨b24, o24, hq, h⟩ := h
 subst hq
 refine Seq.z 24 (.nilCheck (.tmp 23)) 0 (.pointer (some ⟨b24, o24, none⟩)) (Y.nilCheck rfl) ?_
 refine Seq.z 25 (.fieldAddr 71 (.tmp 24) 3) 0 (.pointer (some ⟨b24, (o24 + 3), none⟩)) (Y.fieldAddr (fd := (fieldOf prog 71 3)) underlying71 (by kernel_rfl) sizeOf64 rfl rfl) ?_
 obtain ⟨p26, n26, c26, hl, h⟩ := h
 refine Seq.z 26 (.load 64 (.tmp 25)) 64 (.slice p26 n26 c26) (Y.ld isAgg64 rfl hl) ?_
 refine Seq.z 27 (.call { callee := .builtin .len, args := #[(.tmp 26)], argTypes := #[64] }) 3 (.int .i64 (n26 : Int)) (Y.lenS underlying64 rfl rfl) ?_
 refine Seq.u 4 (.int .i64 (n26 : Int)) ?_
 refine Seq.done ?_
 refine At.s K9 K10 ?_
 refine At.rg 4 [0, 1] ?_
 refine Seq.us [(28, .int .i64 (n26 : Int)), (29, .bool (decide ((0 : Int) < (n26 : Int))))] ?_
 refine Seq.done ?_
 cases hb : (decide ((0 : Int) < (n26 : Int))) with
 | true =>
  replace h := h.1 (of_decide_eq_true hb)
  refine At.cT 29 K11 K18 ?_
  refine At.s K12 K13 ?_
  refine At.draw (id := 5) (ops := cO K12) (n := 11) (q := none) (plan := [(0, true), (1, true), (2, true), (3, true), (4, true), (5, true), (6, true), (7, true), (8, true), (9, true), (10, true)]) (tl := [11]) mixed (by kernel_rfl) (by kernel_rfl) ?_
  obtain ⟨q30, hl, h⟩ := h
  refine Head.z 30 (.load 26 (.tmp 0)) 26 (.pointer q30) (Y.ld isAgg26 rfl hl) ?_
  obtain ⟨q31, hl, h⟩ := h
  refine Head.z 31 (.load 26 (.tmp 0)) 26 (.pointer q31) (Y.ld isAgg26 rfl hl) ?_
  obtain ⟨b32, o32, hq, h⟩ := h
  subst hq
  refine Head.z 32 (.nilCheck (.tmp 31)) 0 (.pointer (some ⟨b32, o32, none⟩)) (Y.nilCheck rfl) ?_
  refine Head.z 33 (.fieldAddr 71 (.tmp 32) 3) 0 (.pointer (some ⟨b32, (o32 + 3), none⟩)) (Y.fieldAddr (fd := (fieldOf prog 71 3)) underlying71 (by kernel_rfl) sizeOf64 rfl rfl) ?_
  obtain ⟨p34, n34, c34, hl, h⟩ := h
  refine Head.z 34 (.load 64 (.tmp 33)) 64 (.slice p34 n34 c34) (Y.ld isAgg64 rfl hl) ?_
  refine Head.u 35 (.int .i64 (n26 : Int)) ?_
  obtain ⟨hi, h⟩ := h
  refine Head.z 36 (.binOp .sub 3 (.tmp 35) (.const (.int .i64 1)) 3) 3 (.int .i64 ((n26 : Int) - 1)) (Y.subI hi rfl rfl) ?_
  obtain ⟨b37, o37, hq, h⟩ := h
  subst hq
  obtain ⟨hi, h⟩ := h
  refine Head.z 37 (.indexAddr 64 (.tmp 34) (.tmp 36)) 0 (.pointer (some ⟨b37, (o37 + Int.toNat ((n26 : Int) - 1) * 1), none⟩)) (Y.idx underlying64 sizeOf3 rfl rfl hi rfl) ?_
  obtain ⟨x38, hl, h⟩ := h
  refine Head.z 38 (.load 3 (.tmp 37)) 3 (.int .i64 x38) (Y.ld isAgg3 rfl hl) ?_
  obtain ⟨b39, o39, hq, h⟩ := h
  subst hq
  refine Head.z 39 (.nilCheck (.tmp 30)) 0 (.pointer (some ⟨b39, o39, none⟩)) (Y.nilCheck rfl) ?_
  refine Head.z 40 (.fieldAddr 71 (.tmp 39) 4) 0 (.pointer (some ⟨b39, (o39 + 4), none⟩)) (Y.fieldAddr (fd := (fieldOf prog 71 4)) underlying71 (by kernel_rfl) sizeOf3 rfl rfl) ?_
  refine Head.done ?_
  refine Seq.o ?_
  refine OpTo.store (T := 3) (ty := 0) (x := (.tmp 40)) (y := (.tmp 38)) (p := (.pointer (some ⟨b39, (o39 + 4), none⟩))) (v := (.int .i64 x38)) (gd := none) (by kernel_rfl) rfl rfl rfl (h.mono (fun _ σ1_6 h2 => ?_)); replace h := h2; clear h2
  refine Seq.done ?_
  refine At.L [(0, (.pointer (some ⟨b0, 0, none⟩))), (1, (.pointer (some ⟨b1, 0, none⟩)))] fun J => ?_
  refine At.s K14 K15 ?_
  refine At.draw (id := 6) (ops := cO K14) (n := 13) (q := (some [])) (plan := [(0, true), (1, true), (2, true), (3, true), (4, true), (5, true), (6, false), (7, false), (8, true), (9, true), (10, true), (11, true), (12, true)]) (tl := []) mixed (by kernel_rfl) (by kernel_rfl) ?_
  obtain ⟨q42, hl, h⟩ := h
  refine Head.yl b1 [[7]] rfl (by kernel_rfl) (d := (some 42)) (op := (.load 24 (.tmp 1))) (ty := 24) (v := (.pointer q42)) (by kernel_rfl) rfl (Y.ld isAgg24 rfl (lim_ld hl)) ?_
  obtain ⟨q43, hl, h⟩ := h
  refine Head.yl b0 [[6], [7, 6]] rfl (by kernel_rfl) (d := (some 43)) (op := (.load 26 (.tmp 0))) (ty := 26) (v := (.pointer q43)) (by kernel_rfl) rfl (Y.ld isAgg26 rfl (lim_ld hl)) ?_
  obtain ⟨q44, hl, h⟩ := h
  refine Head.yl b0 [[6, 5, 4, 3], [7, 6, 5, 4, 3]] rfl (by kernel_rfl) (d := (some 44)) (op := (.load 26 (.tmp 0))) (ty := 26) (v := (.pointer q44)) (by kernel_rfl) rfl (Y.ld isAgg26 rfl (lim_ld hl)) ?_
  obtain ⟨b45, o45, hq, h⟩ := h
  subst hq
  refine Head.z 45 (.nilCheck (.tmp 44)) 0 (.pointer (some ⟨b45, o45, none⟩)) (Y.nilCheck rfl) ?_
  refine Head.z 46 (.fieldAddr 71 (.tmp 45) 4) 0 (.pointer (some ⟨b45, (o45 + 4), none⟩)) (Y.fieldAddr (fd := (fieldOf prog 71 4)) underlying71 (by kernel_rfl) sizeOf3 rfl rfl) ?_
  obtain ⟨x47, hl, h⟩ := h
  refine Head.yl b45 [[6], [7, 6]] rfl (by kernel_rfl) (d := (some 47)) (op := (.load 3 (.tmp 46))) (ty := 3) (v := (.int .i64 x47)) (by kernel_rfl) rfl (Y.ld isAgg3 rfl (lim_ld hl)) ?_
  refine Head.o (q' := (some [(b1, [7])])) rfl ?_
  refine OpTo.cl (some 48) call42 (h.cont fun v_4 σ1_7 h2 => ?_); replace h := h2; clear h2
  obtain ⟨s48, rfl, hk, h⟩ := h
  refine ⟨⟨fun _ h => h, kp_q (L := [(b1, [7])]) hk⟩, ?_⟩
  refine Head.o (q' := (some [])) rfl ?_
  refine OpTo.cl (some 49) call41 (h.cont fun v_5 σ1_8 h2 => ?_); replace h := h2; clear h2
  obtain ⟨p49a, n49a, c49a, x49b, rfl, h⟩ := h
  refine ⟨⟨fun _ h => h, kp_q (L := []) Kp.nil⟩, ?_⟩
  refine Head.u 41 (.tuple #[(.slice p49a n49a c49a), (.int .i64 x49b)]) ?_
  refine Head.u 50 (.slice p49a n49a c49a) ?_
  refine Head.u 51 (.int .i64 x49b) ?_
  refine Head.u 5 (.slice p49a n49a c49a) ?_
  refine Head.u 6 (.int .i64 x49b) ?_
  refine Head.done ?_
  refine Seq.done ?_
  refine At.s K16 K17 ?_
  refine At.rg 7 [0, 1] ?_
  refine Seq.u 52 (.int .i64 x49b) ?_
  refine Seq.o ?_
  refine OpTo.cl (some 53) call43 (h.cont fun v_6 σ1_9 h2 => ?_); replace h := h2; clear h2
  obtain ⟨rfl, h⟩ := h
  refine Seq.done ?_
  refine At.rg 8 [0, 1, 2, 3, 4, 5] ?_
  obtain ⟨q54, hl, h⟩ := h
  refine Seq.z 54 (.load 26 (.tmp 0)) 26 (.pointer q54) (Y.ld isAgg26 rfl hl) ?_
  refine Seq.u 55 (.slice p49a n49a c49a) ?_
  refine Seq.z 56 (.call { callee := .builtin .len, args := #[(.tmp 55)], argTypes := #[23] }) 3 (.int .i64 (n49a : Int)) (Y.lenS underlying23 rfl rfl) ?_
  obtain ⟨b57, o57, hq, h⟩ := h
  subst hq
  refine Seq.z 57 (.nilCheck (.tmp 54)) 0 (.pointer (some ⟨b57, o57, none⟩)) (Y.nilCheck rfl) ?_
  refine Seq.z 58 (.fieldAddr 71 (.tmp 57) 5) 0 (.pointer (some ⟨b57, (o57 + 5), none⟩)) (Y.fieldAddr (fd := (fieldOf prog 71 5)) underlying71 (by kernel_rfl) sizeOf3 rfl rfl) ?_
  refine Seq.o ?_
  refine OpTo.store (T := 3) (ty := 0) (x := (.tmp 58)) (y := (.tmp 56)) (p := (.pointer (some ⟨b57, (o57 + 5), none⟩))) (v := (.int .i64 (n49a : Int))) (gd := none) (by kernel_rfl) rfl rfl rfl (h.mono (fun _ σ1_10 h2 => ?_)); replace h := h2; clear h2
  refine Seq.done ?_
  exact At.doneV (rs := []) (vs := []) func38 (by kernel_rfl) rfl h
 | false =>
  replace h := h.2 (of_decide_eq_false hb)
  refine At.cF 29 K11 K18 ?_
  refine At.skip ?_
  exact At.doneV (rs := []) (vs := []) func38 (by kernel_rfl) rfl h
end wal_Open_1

end
end TwW
end
section
/- written by gen.py: program points and what leads to them -/
set_option linter.unusedVariables false
set_option maxRecDepth 100000
namespace TwW
open Go Tw Go.Proofs.Tryz
noncomputable section
namespace wal_Wal_sweep
abbrev fid : Nat := 39
noncomputable def K0 := f39.body.getD .skip
def K1 := cl K0
def K2 := cl K1
def K3 := cr K1
def K4 := cl K3
def K5 := cl K4
def K6 := cl K5
def K7 := cr K5
def K8 := cl K7
def K9 := cl K8
def K10 := cr K8
def K11 := cr K7
def K12 := cl K11
def K13 := cl K12
def K14 := cl K13
def K15 := cr K13
def K16 := cl K15
def K17 := cl K16
def K18 := cr K16
def K19 := cl K18
def K20 := cr K18
def K21 := cr K15
def K22 := cr K11
def K23 := cr K0
def K24 := cl K23
def K25 := cr K23
def K26 := cl K25
def K27 := cl K26
def K28 := cl K27
def K29 := cr K27
def K30 := cl K29
def K31 := cl K30
def K32 := cr K30
def K33 := cr K29
def K34 := cl K33
def K35 := cl K34
def K36 := cl K35
def K37 := cr K35
def K38 := cl K37
def K39 := cr K37
def K40 := cl K39
def K41 := cl K40
def K42 := cr K40
def K43 := cl K42
def K44 := cr K42
def K45 := cl K44
def K46 := cr K44
def K47 := cl K46
def K48 := cr K46
def K49 := cr K33
abbrev gl (R : Ending → Hp → Prop) : Gl := Gl.fn prog 39 95 R
def pt6 (R : Ending → Hp → Prop) (q0 p1 : Option Addr) (n1 c1 : Nat) (p10 : Option Addr) (n10 c10 : Nat) (x11 x12 : Int) (σ : Hp) : Prop := ∀ (J : Env), At (gl R) [.code K6, .code K7, .inLoop K5, .inBlock 0, .code K23] (upds J [(0, (.pointer q0)), (1, (.slice p1 n1 c1)), (10, (.slice p10 n10 c10)), (11, (.int .i64 x11)), (12, (.int .i64 x12))]) [] σ
def pt28 (R : Ending → Hp → Prop) (q0 p39 : Option Addr) (n39 c39 : Nat) (x40 x41 : Int) (σ : Hp) : Prop := ∀ (J : Env), At (gl R) [.code K28, .code K29, .inLoop K27, .inBlock 2] (upds J [(0, (.pointer q0)), (39, (.slice p39 n39 c39)), (40, (.int .i64 x40)), (41, (.int .i64 x41))]) [] σ
def pt49 (R : Ending → Hp → Prop) (q0 p39 : Option Addr) (n39 c39 : Nat) (x40 x41 : Int) (σ : Hp) : Prop := ∀ (J : Env), At (gl R) [.code K49, .inLoop K27, .inBlock 2] (upds J [(0, (.pointer q0)), (39, (.slice p39 n39 c39)), (40, (.int .i64 x40)), (41, (.int .i64 x41))]) [] σ
def pt21 (R : Ending → Hp → Prop) (q0 p1 : Option Addr) (n1 c1 : Nat) (s5 : ByteArray) (p10 : Option Addr) (n10 c10 : Nat) (x11 x12 : Int) (σ : Hp) : Prop := ∀ (J : Env), At (gl R) [.code K21, .inBlock 1, .code K22, .inLoop K5, .inBlock 0, .code K23] (upds J [(0, (.pointer q0)), (1, (.slice p1 n1 c1)), (5, (.string s5)), (10, (.slice p10 n10 c10)), (11, (.int .i64 x11)), (12, (.int .i64 x12))]) [] σ
theorem start {R : Ending → Hp → Prop} {q0 p1 : Option Addr} {n1 c1 : Nat} {σ : Hp} (h : pt6 R q0 p1 n1 c1 p1 n1 c1 ((n1 : Int)) 0 σ) : Spec prog 39 #[(.pointer q0), (.slice p1 n1 c1)] σ R := by
 refine Spec.of_at (fn := f39) (c := K0) func39 (by kernel_rfl) (Nat.le_of_ble_eq_true (by kernel_rfl)) (fun e he => ?_)
 refine At.ofL (l := [(0, (.pointer q0)), (1, (.slice p1 n1 c1))]) ⟨he 0, he 1, trivial⟩ (fun J => ?_)
 show At (gl R) _ _ _ _
 refine At.s K1 K23 ?_
 refine At.s K2 K3 ?_
 refine At.rg 0 [0, 1, 2] ?_
 refine Seq.u 10 (.slice p1 n1 c1) ?_
 refine Seq.z 11 (.call { callee := .builtin .len, args := #[(.tmp 10)], argTypes := #[36] }) 3 (.int .i64 (n1 : Int)) (Y.lenS underlying36 rfl rfl) ?_
 refine Seq.u 12 (.int .i64 0) ?_
 refine Seq.done ?_
 refine At.b 0 K4 ?_
 refine At.loop (x := K5) (by kernel_rfl) ?_
 refine At.s K6 K7 ?_
 exact At.v [(0, (.pointer q0)), (1, (.slice p1 n1 c1)), (10, (.slice p1 n1 c1)), (11, (.int .i64 (n1 : Int))), (12, (.int .i64 0))] (h _)
theorem pt6_of {R : Ending → Hp → Prop} {q0 p1 p10 : Option Addr} {n1 c1 n10 c10 : Nat} {x11 x12 : Int} {σ : Hp} (h : ((x12 : Int) < x11 → ∃ (b14 o14 : Nat), p10 = some ⟨b14, o14, none⟩ ∧ ((0 : Int) ≤ x12 ∧ x12 < (n10 : Int)) ∧ ∃ s15 : ByteArray, Hp.ld σ ⟨b14, (o14 + Int.toNat x12 * 1), none⟩ = some (.string s15) ∧ Spec prog 65 #[(.pointer q0)] σ (Cont R (fun v σ1 => ∃ s18 : ByteArray, v = (.string s18) ∧ ((ByteArray.toList s15 == ByteArray.toList s18) = true → ∃ (b21 o21 : Nat), q0 = some ⟨b21, o21, none⟩ ∧ ∃ q23 : Option Addr, Hp.ld σ1 ⟨b21, o21, none⟩ = some (.pointer q23) ∧ Spec prog 56 #[(.pointer q23), (.string s15)] σ1 (Cont R (fun v_2 σ1_2 => ∃ x25 : Int, v_2 = (.int .i64 x25) ∧ Spec prog 43 #[(.int .i64 x25)] σ1_2 (Cont R (fun v_3 σ1_3 => v_3 = (.tuple #[]) ∧ pt21 R ((some ⟨b21, o21, none⟩)) p1 n1 c1 s15 ((some ⟨b14, o14, none⟩)) n10 c10 x11 x12 σ1_3))))) ∧ ((ByteArray.toList s15 == ByteArray.toList s18) = false → pt21 R q0 p1 n1 c1 s15 ((some ⟨b14, o14, none⟩)) n10 c10 x11 x12 σ1)))) ∧ (¬ ((x12 : Int) < x11) → pt28 R q0 p1 n1 c1 ((n1 : Int)) 0 σ)) : pt6 R q0 p1 n1 c1 p10 n10 c10 x11 x12 σ := by
 intro J
 show At (gl R) _ _ _ _
 refine At.rg 1 [0] ?_
 refine Seq.u 13 (.bool (decide ((x12 : Int) < x11))) ?_
 refine Seq.done ?_
 refine At.s K8 K11 ?_
 cases hb : (decide ((x12 : Int) < x11)) with
 | true =>
  replace h := h.1 (of_decide_eq_true hb)
  refine At.cT 13 K9 K10 ?_
  refine At.skip ?_
  refine At.s K12 K22 ?_
  refine At.b 1 K13 ?_
  refine At.s K14 K15 ?_
  refine At.rg 2 [0, 1, 2] ?_
  obtain ⟨b14, o14, hq, h⟩ := h
  subst hq
  obtain ⟨hi, h⟩ := h
  refine Seq.z 14 (.indexAddr 36 (.tmp 10) (.tmp 12)) 0 (.pointer (some ⟨b14, (o14 + Int.toNat x12 * 1), none⟩)) (Y.idx underlying36 sizeOf9 rfl rfl hi rfl) ?_
  obtain ⟨s15, hl, h⟩ := h
  refine Seq.z 15 (.load 9 (.tmp 14)) 9 (.string s15) (Y.ld isAgg9 rfl hl) ?_
  refine Seq.u 5 (.string s15) ?_
  refine Seq.done ?_
  refine At.s K16 K21 ?_
  refine At.s K17 K18 ?_
  refine At.rg 3 [0, 1, 2, 3] ?_
  refine Seq.us [(16, .string s15), (17, .pointer q0)] ?_
  refine Seq.o ?_
  refine OpTo.cl (some 18) call65 (h.cont fun v σ1 h2 => ?_); replace h := h2; clear h2
  obtain ⟨s18, rfl, h⟩ := h
  refine Seq.z 19 (.binOp .eql 9 (.tmp 16) (.tmp 18) 9) 4 (.bool (ByteArray.toList s15 == ByteArray.toList s18)) (Y.eqlS underlying9 rfl rfl) ?_
  refine Seq.done ?_
  cases hb : (ByteArray.toList s15 == ByteArray.toList s18) with
  | true =>
   replace h := h.1 hb
   refine At.cT 19 K19 K20 ?_
   refine At.rg 4 [0, 1, 2, 3, 4, 5, 6] ?_
   refine Seq.u 20 (.pointer q0) ?_
   obtain ⟨b21, o21, hq, h⟩ := h
   subst hq
   refine Seq.z 21 (.nilCheck (.tmp 20)) 0 (.pointer (some ⟨b21, o21, none⟩)) (Y.nilCheck rfl) ?_
   refine Seq.z 22 (.fieldAddr 71 (.tmp 21) 0) 0 (.pointer (some ⟨b21, o21, none⟩)) (Y.fieldAddr (fd := (fieldOf prog 71 0)) underlying71 (by kernel_rfl) sizeOf24 rfl rfl) ?_
   obtain ⟨q23, hl, h⟩ := h
   refine Seq.z 23 (.load 24 (.tmp 22)) 24 (.pointer q23) (Y.ld isAgg24 rfl hl) ?_
   refine Seq.u 24 (.string s15) ?_
   refine Seq.o ?_
   refine OpTo.cl (some 25) call56 (h.cont fun v_2 σ1_2 h2 => ?_); replace h := h2; clear h2
   obtain ⟨x25, rfl, h⟩ := h
   refine Seq.o ?_
   refine OpTo.cl (some 26) call43 (h.cont fun v_3 σ1_3 h2 => ?_); replace h := h2; clear h2
   obtain ⟨rfl, h⟩ := h
   refine Seq.done ?_
   exact At.v [(0, (.pointer (some ⟨b21, o21, none⟩))), (1, (.slice p1 n1 c1)), (5, (.string s15)), (10, (.slice (some ⟨b14, o14, none⟩) n10 c10)), (11, (.int .i64 x11)), (12, (.int .i64 x12))] (h _)
  | false =>
   replace h := h.2 hb
   refine At.cF 19 K19 K20 ?_
   refine At.skip ?_
   exact At.v [(0, (.pointer q0)), (1, (.slice p1 n1 c1)), (5, (.string s15)), (10, (.slice (some ⟨b14, o14, none⟩) n10 c10)), (11, (.int .i64 x11)), (12, (.int .i64 x12))] (h _)
 | false =>
  replace h := h.2 (of_decide_eq_false hb)
  refine At.cF 13 K9 K10 ?_
  refine At.x 0 [.code K23] ?_
  refine At.s K24 K25 ?_
  refine At.rg 7 [0, 1, 2] ?_
  refine Seq.u 39 (.slice p1 n1 c1) ?_
  refine Seq.z 40 (.call { callee := .builtin .len, args := #[(.tmp 39)], argTypes := #[36] }) 3 (.int .i64 (n1 : Int)) (Y.lenS underlying36 rfl rfl) ?_
  refine Seq.u 41 (.int .i64 0) ?_
  refine Seq.done ?_
  refine At.b 2 K26 ?_
  refine At.loop (x := K27) (by kernel_rfl) ?_
  refine At.s K28 K29 ?_
  exact At.v [(0, (.pointer q0)), (39, (.slice p1 n1 c1)), (40, (.int .i64 (n1 : Int))), (41, (.int .i64 0))] (h _)
theorem pt28_of {R : Ending → Hp → Prop} {q0 p39 : Option Addr} {n39 c39 : Nat} {x40 x41 : Int} {σ : Hp} (h : ((x41 : Int) < x40 → ∃ (b43 o43 : Nat), p39 = some ⟨b43, o43, none⟩ ∧ ((0 : Int) ≤ x41 ∧ x41 < (n39 : Int)) ∧ ∃ s44 : ByteArray, Hp.ld σ ⟨b43, (o43 + Int.toNat x41 * 1), none⟩ = some (.string s44) ∧ Spec prog 66 #[(.pointer q0), (.string (ByteArray.mk #[99])), (.string s44)] σ (Cont R (fun v σ1 => ∃ x47 : Int, v = (.int .i64 x47) ∧ Spec prog 66 #[(.pointer q0), (.string (ByteArray.mk #[115])), (.string s44)] σ1 (Cont R (fun v_2 σ1_2 => ∃ x50 : Int, v_2 = (.int .i64 x50) ∧ ((0 : Int) < x47 → ∃ (b57 o57 : Nat), q0 = some ⟨b57, o57, none⟩ ∧ ∃ x59 : Int, Hp.ld σ1_2 ⟨b57, (o57 + 2), none⟩ = some (.int .i64 x59) ∧ ((x47 : Int) < x59 → ∃ q77 : Option Addr, Hp.ld σ1_2 ⟨b57, o57, none⟩ = some (.pointer q77) ∧ Spec prog 56 #[(.pointer q77), (.string s44)] σ1_2 (Cont R (fun v_3 σ1_3 => ∃ x79 : Int, v_3 = (.int .i64 x79) ∧ Spec prog 43 #[(.int .i64 x79)] σ1_3 (Cont R (fun v_4 σ1_4 => v_4 = (.tuple #[]) ∧ pt49 R ((some ⟨b57, o57, none⟩)) ((some ⟨b43, o43, none⟩)) n39 c39 x40 x41 σ1_4))))) ∧ (¬ ((x47 : Int) < x59) → ((0 : Int) < x50 → ∃ x70 : Int, Hp.ld σ1_2 ⟨b57, (o57 + 2), none⟩ = some (.int .i64 x70) ∧ ((x50 : Int) ≤ x70 → ∃ q77 : Option Addr, Hp.ld σ1_2 ⟨b57, o57, none⟩ = some (.pointer q77) ∧ Spec prog 56 #[(.pointer q77), (.string s44)] σ1_2 (Cont R (fun v_3 σ1_3 => ∃ x79 : Int, v_3 = (.int .i64 x79) ∧ Spec prog 43 #[(.int .i64 x79)] σ1_3 (Cont R (fun v_4 σ1_4 => v_4 = (.tuple #[]) ∧ pt49 R ((some ⟨b57, o57, none⟩)) ((some ⟨b43, o43, none⟩)) n39 c39 x40 x41 σ1_4))))) ∧ (¬ ((x50 : Int) ≤ x70) → ((0 : Int) < x50 → ∃ p88 : Option Addr, ∃ n88 : Nat, ∃ c88 : Nat, Hp.ld σ1_2 ⟨b57, (o57 + 3), none⟩ = some (.slice p88 n88 c88) ∧ ∀ b90 : Nat, σ1_2 b90 = none → Eff prog (Builtin.append_ #[64, 64] 64 #[(.slice p88 n88 c88), (.slice (some ⟨b90, 0, none⟩) 1 1)]) (Hp.set σ1_2 b90 (.cells #[(.int .i64 x50)] 3 (0, 0))) (fun v_3 σ1_3 => ∃ p91 : Option Addr, ∃ n91 : Nat, ∃ c91 : Nat, v_3 = (.slice p91 n91 c91) ∧ Eff prog (Instr.storeAt 64 (.pointer (some ⟨b57, (o57 + 3), none⟩)) (.slice p91 n91 c91)) σ1_3 (fun _ σ1_4 => pt49 R ((some ⟨b57, o57, none⟩)) ((some ⟨b43, o43, none⟩)) n39 c39 x40 x41 σ1_4))) ∧ (¬ ((0 : Int) < x50) → pt49 R ((some ⟨b57, o57, none⟩)) ((some ⟨b43, o43, none⟩)) n39 c39 x40 x41 σ1_2))) ∧ (¬ ((0 : Int) < x50) → ((0 : Int) < x50 → ∃ p88 : Option Addr, ∃ n88 : Nat, ∃ c88 : Nat, Hp.ld σ1_2 ⟨b57, (o57 + 3), none⟩ = some (.slice p88 n88 c88) ∧ ∀ b90 : Nat, σ1_2 b90 = none → Eff prog (Builtin.append_ #[64, 64] 64 #[(.slice p88 n88 c88), (.slice (some ⟨b90, 0, none⟩) 1 1)]) (Hp.set σ1_2 b90 (.cells #[(.int .i64 x50)] 3 (0, 0))) (fun v_3 σ1_3 => ∃ p91 : Option Addr, ∃ n91 : Nat, ∃ c91 : Nat, v_3 = (.slice p91 n91 c91) ∧ Eff prog (Instr.storeAt 64 (.pointer (some ⟨b57, (o57 + 3), none⟩)) (.slice p91 n91 c91)) σ1_3 (fun _ σ1_4 => pt49 R ((some ⟨b57, o57, none⟩)) ((some ⟨b43, o43, none⟩)) n39 c39 x40 x41 σ1_4))) ∧ (¬ ((0 : Int) < x50) → pt49 R ((some ⟨b57, o57, none⟩)) ((some ⟨b43, o43, none⟩)) n39 c39 x40 x41 σ1_2)))) ∧ (¬ ((0 : Int) < x47) → ((0 : Int) < x50 → ∃ (b68 o68 : Nat), q0 = some ⟨b68, o68, none⟩ ∧ ∃ x70 : Int, Hp.ld σ1_2 ⟨b68, (o68 + 2), none⟩ = some (.int .i64 x70) ∧ ((x50 : Int) ≤ x70 → ∃ q77 : Option Addr, Hp.ld σ1_2 ⟨b68, o68, none⟩ = some (.pointer q77) ∧ Spec prog 56 #[(.pointer q77), (.string s44)] σ1_2 (Cont R (fun v_3 σ1_3 => ∃ x79 : Int, v_3 = (.int .i64 x79) ∧ Spec prog 43 #[(.int .i64 x79)] σ1_3 (Cont R (fun v_4 σ1_4 => v_4 = (.tuple #[]) ∧ pt49 R ((some ⟨b68, o68, none⟩)) ((some ⟨b43, o43, none⟩)) n39 c39 x40 x41 σ1_4))))) ∧ (¬ ((x50 : Int) ≤ x70) → ((0 : Int) < x50 → ∃ p88 : Option Addr, ∃ n88 : Nat, ∃ c88 : Nat, Hp.ld σ1_2 ⟨b68, (o68 + 3), none⟩ = some (.slice p88 n88 c88) ∧ ∀ b90 : Nat, σ1_2 b90 = none → Eff prog (Builtin.append_ #[64, 64] 64 #[(.slice p88 n88 c88), (.slice (some ⟨b90, 0, none⟩) 1 1)]) (Hp.set σ1_2 b90 (.cells #[(.int .i64 x50)] 3 (0, 0))) (fun v_3 σ1_3 => ∃ p91 : Option Addr, ∃ n91 : Nat, ∃ c91 : Nat, v_3 = (.slice p91 n91 c91) ∧ Eff prog (Instr.storeAt 64 (.pointer (some ⟨b68, (o68 + 3), none⟩)) (.slice p91 n91 c91)) σ1_3 (fun _ σ1_4 => pt49 R ((some ⟨b68, o68, none⟩)) ((some ⟨b43, o43, none⟩)) n39 c39 x40 x41 σ1_4))) ∧ (¬ ((0 : Int) < x50) → pt49 R ((some ⟨b68, o68, none⟩)) ((some ⟨b43, o43, none⟩)) n39 c39 x40 x41 σ1_2))) ∧ (¬ ((0 : Int) < x50) → ((0 : Int) < x50 → ∃ (b86 o86 : Nat), q0 = some ⟨b86, o86, none⟩ ∧ ∃ p88 : Option Addr, ∃ n88 : Nat, ∃ c88 : Nat, Hp.ld σ1_2 ⟨b86, (o86 + 3), none⟩ = some (.slice p88 n88 c88) ∧ ∀ b90 : Nat, σ1_2 b90 = none → Eff prog (Builtin.append_ #[64, 64] 64 #[(.slice p88 n88 c88), (.slice (some ⟨b90, 0, none⟩) 1 1)]) (Hp.set σ1_2 b90 (.cells #[(.int .i64 x50)] 3 (0, 0))) (fun v_3 σ1_3 => ∃ p91 : Option Addr, ∃ n91 : Nat, ∃ c91 : Nat, v_3 = (.slice p91 n91 c91) ∧ Eff prog (Instr.storeAt 64 (.pointer (some ⟨b86, (o86 + 3), none⟩)) (.slice p91 n91 c91)) σ1_3 (fun _ σ1_4 => pt49 R ((some ⟨b86, o86, none⟩)) ((some ⟨b43, o43, none⟩)) n39 c39 x40 x41 σ1_4))) ∧ (¬ ((0 : Int) < x50) → pt49 R q0 ((some ⟨b43, o43, none⟩)) n39 c39 x40 x41 σ1_2)))))))) ∧ (¬ ((x41 : Int) < x40) → R (.returned (.tuple #[])) σ)) : pt28 R q0 p39 n39 c39 x40 x41 σ := by
 intro J
 show At (gl R) _ _ _ _
 refine At.rg 8 [0] ?_
 refine Seq.u 42 (.bool (decide ((x41 : Int) < x40))) ?_
 refine Seq.done ?_
 refine At.s K30 K33 ?_
 cases hb : (decide ((x41 : Int) < x40)) with
 | true =>
  replace h := h.1 (of_decide_eq_true hb)
  refine At.cT 42 K31 K32 ?_
  refine At.skip ?_
  refine At.s K34 K49 ?_
  refine At.b 3 K35 ?_
  refine At.s K36 K37 ?_
  refine At.rg 9 [0, 1, 2] ?_
  obtain ⟨b43, o43, hq, h⟩ := h
  subst hq
  obtain ⟨hi, h⟩ := h
  refine Seq.z 43 (.indexAddr 36 (.tmp 39) (.tmp 41)) 0 (.pointer (some ⟨b43, (o43 + Int.toNat x41 * 1), none⟩)) (Y.idx underlying36 sizeOf9 rfl rfl hi rfl) ?_
  obtain ⟨s44, hl, h⟩ := h
  refine Seq.z 44 (.load 9 (.tmp 43)) 9 (.string s44) (Y.ld isAgg9 rfl hl) ?_
  refine Seq.u 7 (.string s44) ?_
  refine Seq.done ?_
  refine At.s K38 K39 ?_
  refine At.rg 10 [0, 1, 2, 3, 4, 5, 6, 7] ?_
  refine Seq.us [(45, .pointer q0), (46, .string s44)] ?_
  refine Seq.o ?_
  refine OpTo.cl (some 47) call66 (h.cont fun v σ1 h2 => ?_); replace h := h2; clear h2
  obtain ⟨x47, rfl, h⟩ := h
  refine Seq.us [(48, .pointer q0), (49, .string s44)] ?_
  refine Seq.o ?_
  refine OpTo.cl (some 50) call66 (h.cont fun v_2 σ1_2 h2 => ?_); replace h := h2; clear h2
  obtain ⟨x50, rfl, h⟩ := h
  refine Seq.us [(8, .int .i64 x47), (9, .int .i64 x50)] ?_
  refine Seq.done ?_
  refine At.b 4 K40 ?_
  refine At.s K41 K42 ?_
  refine At.rg 11 [0, 1, 2, 3, 4, 5, 6, 7, 8, 9, 10, 11, 12, 13, 14, 15, 16, 17, 18, 19, 20, 21, 22] ?_
  refine Seq.us [(52, .int .i64 x47), (53, .bool (decide ((0 : Int) < x47))), (54, .bool (decide ((0 : Int) < x47)))] ?_
  cases hb : (decide ((0 : Int) < x47)) with
  | true =>
   replace h := h.1 (of_decide_eq_true hb)
   refine Seq.us [(55, .int .i64 x47), (56, .pointer q0)] ?_
   obtain ⟨b57, o57, hq, h⟩ := h
   subst hq
   refine Seq.zg 57 (.nilCheck (.tmp 56)) 0 (2, true) (.pointer (some ⟨b57, o57, none⟩)) (Y.nilCheck rfl) ?_
   refine Seq.zg 58 (.fieldAddr 71 (.tmp 57) 2) 0 (2, true) (.pointer (some ⟨b57, (o57 + 2), none⟩)) (Y.fieldAddr (fd := (fieldOf prog 71 2)) underlying71 (by kernel_rfl) sizeOf3 rfl rfl) ?_
   obtain ⟨x59, hl, h⟩ := h
   refine Seq.zg 59 (.load 3 (.tmp 58)) 3 (2, true) (.int .i64 x59) (Y.ld isAgg3 rfl hl) ?_
   refine Seq.us [(60, .bool (decide ((x47 : Int) < x59))), (61, .bool (decide ((x47 : Int) < x59))), (62, .bool (decide ((x47 : Int) < x59)))] ?_
   cases hb : (decide ((x47 : Int) < x59)) with
   | true =>
    replace h := h.1 (of_decide_eq_true hb)
    refine Seq.n 63 ?_
    refine Seq.n 64 ?_
    refine Seq.n 65 ?_
    refine Seq.n 66 ?_
    refine Seq.n 67 ?_
    refine Seq.n 68 ?_
    refine Seq.n 69 ?_
    refine Seq.n 70 ?_
    refine Seq.n 71 ?_
    refine Seq.n 72 ?_
    refine Seq.us [(73, .bool true), (51, .bool true)] ?_
    refine Seq.done ?_
    refine At.cT 51 K43 K44 ?_
    refine At.rg 12 [0, 1, 2, 3, 4, 5, 6] ?_
    refine Seq.u 74 (.pointer (some ⟨b57, o57, none⟩)) ?_
    refine Seq.z 75 (.nilCheck (.tmp 74)) 0 (.pointer (some ⟨b57, o57, none⟩)) (Y.nilCheck rfl) ?_
    refine Seq.z 76 (.fieldAddr 71 (.tmp 75) 0) 0 (.pointer (some ⟨b57, o57, none⟩)) (Y.fieldAddr (fd := (fieldOf prog 71 0)) underlying71 (by kernel_rfl) sizeOf24 rfl rfl) ?_
    obtain ⟨q77, hl, h⟩ := h
    refine Seq.z 77 (.load 24 (.tmp 76)) 24 (.pointer q77) (Y.ld isAgg24 rfl hl) ?_
    refine Seq.u 78 (.string s44) ?_
    refine Seq.o ?_
    refine OpTo.cl (some 79) call56 (h.cont fun v_3 σ1_3 h2 => ?_); replace h := h2; clear h2
    obtain ⟨x79, rfl, h⟩ := h
    refine Seq.o ?_
    refine OpTo.cl (some 80) call43 (h.cont fun v_4 σ1_4 h2 => ?_); replace h := h2; clear h2
    obtain ⟨rfl, h⟩ := h
    refine Seq.done ?_
    refine At.L [(0, (.pointer (some ⟨b57, o57, none⟩))), (39, (.slice (some ⟨b43, o43, none⟩) n39 c39)), (40, (.int .i64 x40)), (41, (.int .i64 x41))] fun J => ?_
    refine At.inBlock ?_
    refine At.inBlock ?_
    exact At.v [(0, (.pointer (some ⟨b57, o57, none⟩))), (39, (.slice (some ⟨b43, o43, none⟩) n39 c39)), (40, (.int .i64 x40)), (41, (.int .i64 x41))] (h _)
   | false =>
    replace h := h.2 (of_decide_eq_false hb)
    refine Seq.us [(63, .int .i64 x50), (64, .bool (decide ((0 : Int) < x50))), (65, .bool (decide ((0 : Int) < x50)))] ?_
    cases hb : (decide ((0 : Int) < x50)) with
    | true =>
     replace h := h.1 (of_decide_eq_true hb)
     refine Seq.us [(66, .int .i64 x50), (67, .pointer (some ⟨b57, o57, none⟩))] ?_
     refine Seq.zg 68 (.nilCheck (.tmp 67)) 0 (13, true) (.pointer (some ⟨b57, o57, none⟩)) (Y.nilCheck rfl) ?_
     refine Seq.zg 69 (.fieldAddr 71 (.tmp 68) 2) 0 (13, true) (.pointer (some ⟨b57, (o57 + 2), none⟩)) (Y.fieldAddr (fd := (fieldOf prog 71 2)) underlying71 (by kernel_rfl) sizeOf3 rfl rfl) ?_
     obtain ⟨x70, hl, h⟩ := h
     refine Seq.zg 70 (.load 3 (.tmp 69)) 3 (13, true) (.int .i64 x70) (Y.ld isAgg3 rfl hl) ?_
     refine Seq.us [(71, .bool (decide ((x50 : Int) ≤ x70))), (72, .bool (decide ((x50 : Int) ≤ x70))), (73, .bool (decide ((x50 : Int) ≤ x70))), (51, .bool (decide ((x50 : Int) ≤ x70)))] ?_
     refine Seq.done ?_
     cases hb : (decide ((x50 : Int) ≤ x70)) with
     | true =>
      replace h := h.1 (of_decide_eq_true hb)
      refine At.cT 51 K43 K44 ?_
      refine At.rg 12 [0, 1, 2, 3, 4, 5, 6] ?_
      refine Seq.u 74 (.pointer (some ⟨b57, o57, none⟩)) ?_
      refine Seq.z 75 (.nilCheck (.tmp 74)) 0 (.pointer (some ⟨b57, o57, none⟩)) (Y.nilCheck rfl) ?_
      refine Seq.z 76 (.fieldAddr 71 (.tmp 75) 0) 0 (.pointer (some ⟨b57, o57, none⟩)) (Y.fieldAddr (fd := (fieldOf prog 71 0)) underlying71 (by kernel_rfl) sizeOf24 rfl rfl) ?_
      obtain ⟨q77, hl, h⟩ := h
      refine Seq.z 77 (.load 24 (.tmp 76)) 24 (.pointer q77) (Y.ld isAgg24 rfl hl) ?_
      refine Seq.u 78 (.string s44) ?_
      refine Seq.o ?_
      refine OpTo.cl (some 79) call56 (h.cont fun v_3 σ1_3 h2 => ?_); replace h := h2; clear h2
      obtain ⟨x79, rfl, h⟩ := h
      refine Seq.o ?_
      refine OpTo.cl (some 80) call43 (h.cont fun v_4 σ1_4 h2 => ?_); replace h := h2; clear h2
      obtain ⟨rfl, h⟩ := h
      refine Seq.done ?_
      refine At.inBlock ?_
      refine At.inBlock ?_
      exact At.v [(0, (.pointer (some ⟨b57, o57, none⟩))), (39, (.slice (some ⟨b43, o43, none⟩) n39 c39)), (40, (.int .i64 x40)), (41, (.int .i64 x41))] (h _)
     | false =>
      replace h := h.2 (of_decide_eq_false hb)
      refine At.cF 51 K43 K44 ?_
      refine At.s K45 K46 ?_
      refine At.rg 13 [0, 1, 2] ?_
      refine Seq.us [(82, .int .i64 x50), (83, .bool (decide ((0 : Int) < x50))), (81, .bool (decide ((0 : Int) < x50)))] ?_
      refine Seq.done ?_
      cases hb : (decide ((0 : Int) < x50)) with
      | true =>
       replace h := h.1 (of_decide_eq_true hb)
       refine At.cT 81 K47 K48 ?_
       refine At.rg 14 [0, 1, 2, 3, 4, 5, 6, 7, 8, 9, 10] ?_
       refine Seq.us [(84, .pointer (some ⟨b57, o57, none⟩)), (85, .pointer (some ⟨b57, o57, none⟩))] ?_
       refine Seq.z 86 (.nilCheck (.tmp 85)) 0 (.pointer (some ⟨b57, o57, none⟩)) (Y.nilCheck rfl) ?_
       refine Seq.z 87 (.fieldAddr 71 (.tmp 86) 3) 0 (.pointer (some ⟨b57, (o57 + 3), none⟩)) (Y.fieldAddr (fd := (fieldOf prog 71 3)) underlying71 (by kernel_rfl) sizeOf64 rfl rfl) ?_
       obtain ⟨p88, n88, c88, hl, h⟩ := h
       refine Seq.z 88 (.load 64 (.tmp 87)) 64 (.slice p88 n88 c88) (Y.ld isAgg64 rfl hl) ?_
       refine Seq.u 89 (.int .i64 x50) ?_
       refine Seq.o ?_
       refine OpTo.bslice (T := 64) (E := 3) (m := 1) (ps := #[(0, (.tmp 89))]) (d := (some 90)) (ty := 64) (gd := none) (vs := [(0, (.int .i64 x50))]) (cs := #[(.int .i64 x50)]) underlying64 (by kernel_rfl) rfl rfl rfl (by kernel_rfl) (fun b90 hn => ?_)
       replace h := h b90 hn
       refine Seq.o ?_
       refine OpTo.eff (d := (some 91)) (op := (.call { callee := .builtin .append, args := #[(.tmp 88), (.tmp 90)], argTypes := #[64, 64] })) (ty := 64) (gd := none) (by kernel_rfl) rfl rfl (Builtin.append_ #[64, 64] 64 #[(.slice p88 n88 c88), (.slice (some ⟨b90, 0, none⟩) 1 1)]) (fun o ho ht => exec_b_append rfl rfl o ho ht) (h.mono (fun v_3 σ1_3 h2 => ?_)); replace h := h2; clear h2
       obtain ⟨p91, n91, c91, rfl, h⟩ := h
       refine Seq.z 92 (.nilCheck (.tmp 84)) 0 (.pointer (some ⟨b57, o57, none⟩)) (Y.nilCheck rfl) ?_
       refine Seq.z 93 (.fieldAddr 71 (.tmp 92) 3) 0 (.pointer (some ⟨b57, (o57 + 3), none⟩)) (Y.fieldAddr (fd := (fieldOf prog 71 3)) underlying71 (by kernel_rfl) sizeOf64 rfl rfl) ?_
       refine Seq.o ?_
       refine OpTo.store (T := 64) (ty := 0) (x := (.tmp 93)) (y := (.tmp 91)) (p := (.pointer (some ⟨b57, (o57 + 3), none⟩))) (v := (.slice p91 n91 c91)) (gd := none) (by kernel_rfl) rfl rfl rfl (h.mono (fun _ σ1_4 h2 => ?_)); replace h := h2; clear h2
       refine Seq.done ?_
       refine At.inBlock ?_
       refine At.inBlock ?_
       exact At.v [(0, (.pointer (some ⟨b57, o57, none⟩))), (39, (.slice (some ⟨b43, o43, none⟩) n39 c39)), (40, (.int .i64 x40)), (41, (.int .i64 x41))] (h _)
      | false =>
       replace h := h.2 (of_decide_eq_false hb)
       refine At.cF 81 K47 K48 ?_
       refine At.skip ?_
       refine At.inBlock ?_
       refine At.inBlock ?_
       exact At.v [(0, (.pointer (some ⟨b57, o57, none⟩))), (39, (.slice (some ⟨b43, o43, none⟩) n39 c39)), (40, (.int .i64 x40)), (41, (.int .i64 x41))] (h _)
    | false =>
     replace h := h.2 (of_decide_eq_false hb)
     refine Seq.n 66 ?_
     refine Seq.n 67 ?_
     refine Seq.n 68 ?_
     refine Seq.n 69 ?_
     refine Seq.n 70 ?_
     refine Seq.n 71 ?_
     refine Seq.us [(72, .bool false), (73, .bool false), (51, .bool false)] ?_
     refine Seq.done ?_
     refine At.L [(0, (.pointer (some ⟨b57, o57, none⟩))), (7, (.string s44)), (9, (.int .i64 x50)), (39, (.slice (some ⟨b43, o43, none⟩) n39 c39)), (40, (.int .i64 x40)), (41, (.int .i64 x41)), (51, (.bool false))] fun J => ?_
     refine At.cF 51 K43 K44 ?_
     refine At.s K45 K46 ?_
     refine At.rg 13 [0, 1, 2] ?_
     refine Seq.us [(82, .int .i64 x50), (83, .bool (decide ((0 : Int) < x50))), (81, .bool (decide ((0 : Int) < x50)))] ?_
     refine Seq.done ?_
     cases hb : (decide ((0 : Int) < x50)) with
     | true =>
      replace h := h.1 (of_decide_eq_true hb)
      refine At.cT 81 K47 K48 ?_
      refine At.rg 14 [0, 1, 2, 3, 4, 5, 6, 7, 8, 9, 10] ?_
      refine Seq.us [(84, .pointer (some ⟨b57, o57, none⟩)), (85, .pointer (some ⟨b57, o57, none⟩))] ?_
      refine Seq.z 86 (.nilCheck (.tmp 85)) 0 (.pointer (some ⟨b57, o57, none⟩)) (Y.nilCheck rfl) ?_
      refine Seq.z 87 (.fieldAddr 71 (.tmp 86) 3) 0 (.pointer (some ⟨b57, (o57 + 3), none⟩)) (Y.fieldAddr (fd := (fieldOf prog 71 3)) underlying71 (by kernel_rfl) sizeOf64 rfl rfl) ?_
      obtain ⟨p88, n88, c88, hl, h⟩ := h
      refine Seq.z 88 (.load 64 (.tmp 87)) 64 (.slice p88 n88 c88) (Y.ld isAgg64 rfl hl) ?_
      refine Seq.u 89 (.int .i64 x50) ?_
      refine Seq.o ?_
      refine OpTo.bslice (T := 64) (E := 3) (m := 1) (ps := #[(0, (.tmp 89))]) (d := (some 90)) (ty := 64) (gd := none) (vs := [(0, (.int .i64 x50))]) (cs := #[(.int .i64 x50)]) underlying64 (by kernel_rfl) rfl rfl rfl (by kernel_rfl) (fun b90 hn => ?_)
      replace h := h b90 hn
      refine Seq.o ?_
      refine OpTo.eff (d := (some 91)) (op := (.call { callee := .builtin .append, args := #[(.tmp 88), (.tmp 90)], argTypes := #[64, 64] })) (ty := 64) (gd := none) (by kernel_rfl) rfl rfl (Builtin.append_ #[64, 64] 64 #[(.slice p88 n88 c88), (.slice (some ⟨b90, 0, none⟩) 1 1)]) (fun o ho ht => exec_b_append rfl rfl o ho ht) (h.mono (fun v_3 σ1_3 h2 => ?_)); replace h := h2; clear h2
      obtain ⟨p91, n91, c91, rfl, h⟩ := h
      refine Seq.z 92 (.nilCheck (.tmp 84)) 0 (.pointer (some ⟨b57, o57, none⟩)) (Y.nilCheck rfl) ?_
      refine Seq.z 93 (.fieldAddr 71 (.tmp 92) 3) 0 (.pointer (some ⟨b57, (o57 + 3), none⟩)) (Y.fieldAddr (fd := (fieldOf prog 71 3)) underlying71 (by kernel_rfl) sizeOf64 rfl rfl) ?_
      refine Seq.o ?_
      refine OpTo.store (T := 64) (ty := 0) (x := (.tmp 93)) (y := (.tmp 91)) (p := (.pointer (some ⟨b57, (o57 + 3), none⟩))) (v := (.slice p91 n91 c91)) (gd := none) (by kernel_rfl) rfl rfl rfl (h.mono (fun _ σ1_4 h2 => ?_)); replace h := h2; clear h2
      refine Seq.done ?_
      refine At.inBlock ?_
      refine At.inBlock ?_
      exact At.v [(0, (.pointer (some ⟨b57, o57, none⟩))), (39, (.slice (some ⟨b43, o43, none⟩) n39 c39)), (40, (.int .i64 x40)), (41, (.int .i64 x41))] (h _)
     | false =>
      replace h := h.2 (of_decide_eq_false hb)
      refine At.cF 81 K47 K48 ?_
      refine At.skip ?_
      refine At.inBlock ?_
      refine At.inBlock ?_
      exact At.v [(0, (.pointer (some ⟨b57, o57, none⟩))), (39, (.slice (some ⟨b43, o43, none⟩) n39 c39)), (40, (.int .i64 x40)), (41, (.int .i64 x41))] (h _)
  | false =>
   replace h := h.2 (of_decide_eq_false hb)
   refine Seq.n 55 ?_
   refine Seq.n 56 ?_
   refine Seq.n 57 ?_
   refine Seq.n 58 ?_
   refine Seq.n 59 ?_
   refine Seq.n 60 ?_
   refine Seq.us [(61, .bool false), (62, .bool false), (63, .int .i64 x50), (64, .bool (decide ((0 : Int) < x50))), (65, .bool (decide ((0 : Int) < x50)))] ?_
   cases hb : (decide ((0 : Int) < x50)) with
   | true =>
    replace h := h.1 (of_decide_eq_true hb)
    refine Seq.us [(66, .int .i64 x50), (67, .pointer q0)] ?_
    obtain ⟨b68, o68, hq, h⟩ := h
    subst hq
    refine Seq.zg 68 (.nilCheck (.tmp 67)) 0 (13, true) (.pointer (some ⟨b68, o68, none⟩)) (Y.nilCheck rfl) ?_
    refine Seq.zg 69 (.fieldAddr 71 (.tmp 68) 2) 0 (13, true) (.pointer (some ⟨b68, (o68 + 2), none⟩)) (Y.fieldAddr (fd := (fieldOf prog 71 2)) underlying71 (by kernel_rfl) sizeOf3 rfl rfl) ?_
    obtain ⟨x70, hl, h⟩ := h
    refine Seq.zg 70 (.load 3 (.tmp 69)) 3 (13, true) (.int .i64 x70) (Y.ld isAgg3 rfl hl) ?_
    refine Seq.us [(71, .bool (decide ((x50 : Int) ≤ x70))), (72, .bool (decide ((x50 : Int) ≤ x70))), (73, .bool (decide ((x50 : Int) ≤ x70))), (51, .bool (decide ((x50 : Int) ≤ x70)))] ?_
    refine Seq.done ?_
    cases hb : (decide ((x50 : Int) ≤ x70)) with
    | true =>
     replace h := h.1 (of_decide_eq_true hb)
     refine At.cT 51 K43 K44 ?_
     refine At.rg 12 [0, 1, 2, 3, 4, 5, 6] ?_
     refine Seq.u 74 (.pointer (some ⟨b68, o68, none⟩)) ?_
     refine Seq.z 75 (.nilCheck (.tmp 74)) 0 (.pointer (some ⟨b68, o68, none⟩)) (Y.nilCheck rfl) ?_
     refine Seq.z 76 (.fieldAddr 71 (.tmp 75) 0) 0 (.pointer (some ⟨b68, o68, none⟩)) (Y.fieldAddr (fd := (fieldOf prog 71 0)) underlying71 (by kernel_rfl) sizeOf24 rfl rfl) ?_
     obtain ⟨q77, hl, h⟩ := h
     refine Seq.z 77 (.load 24 (.tmp 76)) 24 (.pointer q77) (Y.ld isAgg24 rfl hl) ?_
     refine Seq.u 78 (.string s44) ?_
     refine Seq.o ?_
     refine OpTo.cl (some 79) call56 (h.cont fun v_3 σ1_3 h2 => ?_); replace h := h2; clear h2
     obtain ⟨x79, rfl, h⟩ := h
     refine Seq.o ?_
     refine OpTo.cl (some 80) call43 (h.cont fun v_4 σ1_4 h2 => ?_); replace h := h2; clear h2
     obtain ⟨rfl, h⟩ := h
     refine Seq.done ?_
     refine At.L [(0, (.pointer (some ⟨b68, o68, none⟩))), (39, (.slice (some ⟨b43, o43, none⟩) n39 c39)), (40, (.int .i64 x40)), (41, (.int .i64 x41))] fun J => ?_
     refine At.inBlock ?_
     refine At.inBlock ?_
     exact At.v [(0, (.pointer (some ⟨b68, o68, none⟩))), (39, (.slice (some ⟨b43, o43, none⟩) n39 c39)), (40, (.int .i64 x40)), (41, (.int .i64 x41))] (h _)
    | false =>
     replace h := h.2 (of_decide_eq_false hb)
     refine At.cF 51 K43 K44 ?_
     refine At.s K45 K46 ?_
     refine At.rg 13 [0, 1, 2] ?_
     refine Seq.us [(82, .int .i64 x50), (83, .bool (decide ((0 : Int) < x50))), (81, .bool (decide ((0 : Int) < x50)))] ?_
     refine Seq.done ?_
     cases hb : (decide ((0 : Int) < x50)) with
     | true =>
      replace h := h.1 (of_decide_eq_true hb)
      refine At.cT 81 K47 K48 ?_
      refine At.rg 14 [0, 1, 2, 3, 4, 5, 6, 7, 8, 9, 10] ?_
      refine Seq.us [(84, .pointer (some ⟨b68, o68, none⟩)), (85, .pointer (some ⟨b68, o68, none⟩))] ?_
      refine Seq.z 86 (.nilCheck (.tmp 85)) 0 (.pointer (some ⟨b68, o68, none⟩)) (Y.nilCheck rfl) ?_
      refine Seq.z 87 (.fieldAddr 71 (.tmp 86) 3) 0 (.pointer (some ⟨b68, (o68 + 3), none⟩)) (Y.fieldAddr (fd := (fieldOf prog 71 3)) underlying71 (by kernel_rfl) sizeOf64 rfl rfl) ?_
      obtain ⟨p88, n88, c88, hl, h⟩ := h
      refine Seq.z 88 (.load 64 (.tmp 87)) 64 (.slice p88 n88 c88) (Y.ld isAgg64 rfl hl) ?_
      refine Seq.u 89 (.int .i64 x50) ?_
      refine Seq.o ?_
      refine OpTo.bslice (T := 64) (E := 3) (m := 1) (ps := #[(0, (.tmp 89))]) (d := (some 90)) (ty := 64) (gd := none) (vs := [(0, (.int .i64 x50))]) (cs := #[(.int .i64 x50)]) underlying64 (by kernel_rfl) rfl rfl rfl (by kernel_rfl) (fun b90 hn => ?_)
      replace h := h b90 hn
      refine Seq.o ?_
      refine OpTo.eff (d := (some 91)) (op := (.call { callee := .builtin .append, args := #[(.tmp 88), (.tmp 90)], argTypes := #[64, 64] })) (ty := 64) (gd := none) (by kernel_rfl) rfl rfl (Builtin.append_ #[64, 64] 64 #[(.slice p88 n88 c88), (.slice (some ⟨b90, 0, none⟩) 1 1)]) (fun o ho ht => exec_b_append rfl rfl o ho ht) (h.mono (fun v_3 σ1_3 h2 => ?_)); replace h := h2; clear h2
      obtain ⟨p91, n91, c91, rfl, h⟩ := h
      refine Seq.z 92 (.nilCheck (.tmp 84)) 0 (.pointer (some ⟨b68, o68, none⟩)) (Y.nilCheck rfl) ?_
      refine Seq.z 93 (.fieldAddr 71 (.tmp 92) 3) 0 (.pointer (some ⟨b68, (o68 + 3), none⟩)) (Y.fieldAddr (fd := (fieldOf prog 71 3)) underlying71 (by kernel_rfl) sizeOf64 rfl rfl) ?_
      refine Seq.o ?_
      refine OpTo.store (T := 64) (ty := 0) (x := (.tmp 93)) (y := (.tmp 91)) (p := (.pointer (some ⟨b68, (o68 + 3), none⟩))) (v := (.slice p91 n91 c91)) (gd := none) (by kernel_rfl) rfl rfl rfl (h.mono (fun _ σ1_4 h2 => ?_)); replace h := h2; clear h2
      refine Seq.done ?_
      refine At.inBlock ?_
      refine At.inBlock ?_
      exact At.v [(0, (.pointer (some ⟨b68, o68, none⟩))), (39, (.slice (some ⟨b43, o43, none⟩) n39 c39)), (40, (.int .i64 x40)), (41, (.int .i64 x41))] (h _)
     | false =>
      replace h := h.2 (of_decide_eq_false hb)
      refine At.cF 81 K47 K48 ?_
      refine At.skip ?_
      refine At.inBlock ?_
      refine At.inBlock ?_
      exact At.v [(0, (.pointer (some ⟨b68, o68, none⟩))), (39, (.slice (some ⟨b43, o43, none⟩) n39 c39)), (40, (.int .i64 x40)), (41, (.int .i64 x41))] (h _)
   | false =>
    replace h := h.2 (of_decide_eq_false hb)
    refine Seq.n 66 ?_
    refine Seq.n 67 ?_
    refine Seq.n 68 ?_
    refine Seq.n 69 ?_
    refine Seq.n 70 ?_
    refine Seq.n 71 ?_
    refine Seq.us [(72, .bool false), (73, .bool false), (51, .bool false)] ?_
    refine Seq.done ?_
    refine At.cF 51 K43 K44 ?_
    refine At.s K45 K46 ?_
    refine At.rg 13 [0, 1, 2] ?_
    refine Seq.us [(82, .int .i64 x50), (83, .bool (decide ((0 : Int) < x50))), (81, .bool (decide ((0 : Int) < x50)))] ?_
    refine Seq.done ?_
    cases hb : (decide ((0 : Int) < x50)) with
    | true =>
     replace h := h.1 (of_decide_eq_true hb)
     refine At.cT 81 K47 K48 ?_
     refine At.rg 14 [0, 1, 2, 3, 4, 5, 6, 7, 8, 9, 10] ?_
     refine Seq.us [(84, .pointer q0), (85, .pointer q0)] ?_
     obtain ⟨b86, o86, hq, h⟩ := h
     subst hq
     refine Seq.z 86 (.nilCheck (.tmp 85)) 0 (.pointer (some ⟨b86, o86, none⟩)) (Y.nilCheck rfl) ?_
     refine Seq.z 87 (.fieldAddr 71 (.tmp 86) 3) 0 (.pointer (some ⟨b86, (o86 + 3), none⟩)) (Y.fieldAddr (fd := (fieldOf prog 71 3)) underlying71 (by kernel_rfl) sizeOf64 rfl rfl) ?_
     obtain ⟨p88, n88, c88, hl, h⟩ := h
     refine Seq.z 88 (.load 64 (.tmp 87)) 64 (.slice p88 n88 c88) (Y.ld isAgg64 rfl hl) ?_
     refine Seq.u 89 (.int .i64 x50) ?_
     refine Seq.o ?_
     refine OpTo.bslice (T := 64) (E := 3) (m := 1) (ps := #[(0, (.tmp 89))]) (d := (some 90)) (ty := 64) (gd := none) (vs := [(0, (.int .i64 x50))]) (cs := #[(.int .i64 x50)]) underlying64 (by kernel_rfl) rfl rfl rfl (by kernel_rfl) (fun b90 hn => ?_)
     replace h := h b90 hn
     refine Seq.o ?_
     refine OpTo.eff (d := (some 91)) (op := (.call { callee := .builtin .append, args := #[(.tmp 88), (.tmp 90)], argTypes := #[64, 64] })) (ty := 64) (gd := none) (by kernel_rfl) rfl rfl (Builtin.append_ #[64, 64] 64 #[(.slice p88 n88 c88), (.slice (some ⟨b90, 0, none⟩) 1 1)]) (fun o ho ht => exec_b_append rfl rfl o ho ht) (h.mono (fun v_3 σ1_3 h2 => ?_)); replace h := h2; clear h2
     obtain ⟨p91, n91, c91, rfl, h⟩ := h
     refine Seq.z 92 (.nilCheck (.tmp 84)) 0 (.pointer (some ⟨b86, o86, none⟩)) (Y.nilCheck rfl) ?_
     refine Seq.z 93 (.fieldAddr 71 (.tmp 92) 3) 0 (.pointer (some ⟨b86, (o86 + 3), none⟩)) (Y.fieldAddr (fd := (fieldOf prog 71 3)) underlying71 (by kernel_rfl) sizeOf64 rfl rfl) ?_
     refine Seq.o ?_
     refine OpTo.store (T := 64) (ty := 0) (x := (.tmp 93)) (y := (.tmp 91)) (p := (.pointer (some ⟨b86, (o86 + 3), none⟩))) (v := (.slice p91 n91 c91)) (gd := none) (by kernel_rfl) rfl rfl rfl (h.mono (fun _ σ1_4 h2 => ?_)); replace h := h2; clear h2
     refine Seq.done ?_
     refine At.inBlock ?_
     refine At.inBlock ?_
     exact At.v [(0, (.pointer (some ⟨b86, o86, none⟩))), (39, (.slice (some ⟨b43, o43, none⟩) n39 c39)), (40, (.int .i64 x40)), (41, (.int .i64 x41))] (h _)
    | false =>
     replace h := h.2 (of_decide_eq_false hb)
     refine At.cF 81 K47 K48 ?_
     refine At.skip ?_
     refine At.inBlock ?_
     refine At.inBlock ?_
     exact At.v [(0, (.pointer q0)), (39, (.slice (some ⟨b43, o43, none⟩) n39 c39)), (40, (.int .i64 x40)), (41, (.int .i64 x41))] (h _)
 | false =>
  replace h := h.2 (of_decide_eq_false hb)
  refine At.cF 42 K31 K32 ?_
  refine At.x 2 [] ?_
  exact At.doneV (rs := []) (vs := []) func39 (by kernel_rfl) rfl h
theorem pt49_of {R : Ending → Hp → Prop} {q0 p39 : Option Addr} {n39 c39 : Nat} {x40 x41 : Int} {σ : Hp} (h : I64 (x41 + 1) ∧ pt28 R q0 p39 n39 c39 x40 ((x41 + 1)) σ) : pt49 R q0 p39 n39 c39 x40 x41 σ := by
 intro J
 show At (gl R) _ _ _ _
 refine At.rg 15 [0, 1] ?_
 obtain ⟨hi, h⟩ := h
 refine Seq.z 94 (.binOp .add 3 (.tmp 41) (.const (.int .i64 1)) 3) 3 (.int .i64 (x41 + 1)) (Y.addI hi rfl rfl) ?_
 refine Seq.u 41 (.int .i64 (x41 + 1)) ?_
 refine Seq.done ?_
 refine At.inLoop ?_
 refine At.s K28 K29 ?_
 exact At.v [(0, (.pointer q0)), (39, (.slice p39 n39 c39)), (40, (.int .i64 x40)), (41, (.int .i64 (x41 + 1)))] (h _)
theorem pt21_of {R : Ending → Hp → Prop} {q0 p1 p10 : Option Addr} {n1 c1 n10 c10 : Nat} {s5 : ByteArray} {x11 x12 : Int} {σ : Hp} (h : ∃ (b29 o29 : Nat), q0 = some ⟨b29, o29, none⟩ ∧ ∃ x31 : Int, Hp.ld σ ⟨b29, (o29 + 2), none⟩ = some (.int .i64 x31) ∧ Spec prog 66 #[(.pointer (some ⟨b29, o29, none⟩)), (.string (ByteArray.mk #[99])), (.string s5)] σ (Cont R (fun v σ1 => ∃ x34 : Int, v = (.int .i64 x34) ∧ Kp [b29] σ σ1 ∧ Eff prog (Instr.storeAt 3 (.pointer (some ⟨b29, (o29 + 2), none⟩)) (.int .i64 (if (x31 : Int) < x34 then x34 else x31))) σ1 (fun _ σ1_2 => I64 (x12 + 1) ∧ pt6 R ((some ⟨b29, o29, none⟩)) p1 n1 c1 p10 n10 c10 x11 ((x12 + 1)) σ1_2)))) : pt21 R q0 p1 n1 c1 s5 p10 n10 c10 x11 x12 σ := by
 intro J
 show At (gl R) _ _ _ _
 refine At.draw (id := 5) (ops := cO K21) (n := 11) (q := (some [])) (plan := [(0, true), (1, true), (2, true), (3, true), (4, true), (5, true), (6, true), (7, false), (8, true), (9, true), (10, true)]) (tl := [11]) mixed (by kernel_rfl) (by kernel_rfl) ?_
 refine Head.u 27 (.pointer q0) ?_
 refine Head.u 28 (.pointer q0) ?_
 obtain ⟨b29, o29, hq, h⟩ := h
 subst hq
 refine Head.z 29 (.nilCheck (.tmp 28)) 0 (.pointer (some ⟨b29, o29, none⟩)) (Y.nilCheck rfl) ?_
 refine Head.z 30 (.fieldAddr 71 (.tmp 29) 2) 0 (.pointer (some ⟨b29, (o29 + 2), none⟩)) (Y.fieldAddr (fd := (fieldOf prog 71 2)) underlying71 (by kernel_rfl) sizeOf3 rfl rfl) ?_
 obtain ⟨x31, hl, h⟩ := h
 refine Head.yl b29 [] rfl (by kernel_rfl) (d := (some 31)) (op := (.load 3 (.tmp 30))) (ty := 3) (v := (.int .i64 x31)) (by kernel_rfl) rfl (Y.ld isAgg3 rfl (lim_ld hl)) ?_
 refine Head.u 32 (.pointer (some ⟨b29, o29, none⟩)) ?_
 refine Head.u 33 (.string s5) ?_
 refine Head.o (q' := (some [(b29, [])])) rfl ?_
 refine OpTo.cl (some 34) call66 (h.cont fun v σ1 h2 => ?_); replace h := h2; clear h2
 obtain ⟨x34, rfl, hk, h⟩ := h
 refine ⟨⟨fun _ h => h, kp_q (L := [(b29, [])]) hk⟩, ?_⟩
 refine Head.z 35 (.call { callee := .builtin .max, args := #[(.tmp 31), (.tmp 34)], argTypes := #[3, 3] }) 3 (.int .i64 (if (x31 : Int) < x34 then x34 else x31)) (Y.max2 rfl rfl) ?_
 refine Head.z 36 (.nilCheck (.tmp 27)) 0 (.pointer (some ⟨b29, o29, none⟩)) (Y.nilCheck rfl) ?_
 refine Head.z 37 (.fieldAddr 71 (.tmp 36) 2) 0 (.pointer (some ⟨b29, (o29 + 2), none⟩)) (Y.fieldAddr (fd := (fieldOf prog 71 2)) underlying71 (by kernel_rfl) sizeOf3 rfl rfl) ?_
 refine Head.done ?_
 refine Seq.o ?_
 refine OpTo.store (T := 3) (ty := 0) (x := (.tmp 37)) (y := (.tmp 35)) (p := (.pointer (some ⟨b29, (o29 + 2), none⟩))) (v := (.int .i64 (if (x31 : Int) < x34 then x34 else x31))) (gd := none) (by kernel_rfl) rfl rfl rfl (h.mono (fun _ σ1_2 h2 => ?_)); replace h := h2; clear h2
 refine Seq.done ?_
 refine At.inBlock ?_
 refine At.rg 6 [0, 1] ?_
 obtain ⟨hi, h⟩ := h
 refine Seq.z 38 (.binOp .add 3 (.tmp 12) (.const (.int .i64 1)) 3) 3 (.int .i64 (x12 + 1)) (Y.addI hi rfl rfl) ?_
 refine Seq.u 12 (.int .i64 (x12 + 1)) ?_
 refine Seq.done ?_
 refine At.inLoop ?_
 refine At.s K6 K7 ?_
 exact At.v [(0, (.pointer (some ⟨b29, o29, none⟩))), (1, (.slice p1 n1 c1)), (10, (.slice p10 n10 c10)), (11, (.int .i64 x11)), (12, (.int .i64 (x12 + 1)))] (h _)
end wal_Wal_sweep

end
end TwW
end
section
/- written by gen.py: program points and what leads to them -/
set_option linter.unusedVariables false
set_option maxRecDepth 100000
namespace TwW
open Go Tw Go.Proofs.Tryz
noncomputable section
namespace wal_Wal_replay
abbrev fid : Nat := 40
noncomputable def K0 := f40.body.getD .skip
def K1 := cl K0
def K2 := cr K0
def K3 := cl K2
def K4 := cr K2
def K5 := cl K4
def K6 := cl K5
def K7 := cr K5
def K8 := cl K7
def K9 := cl K8
def K10 := cr K8
def K11 := cl K10
def K12 := cr K10
def K13 := cl K12
def K14 := cr K12
def K15 := cl K14
def K16 := cl K15
def K17 := cr K15
def K18 := cl K17
def K19 := cl K18
def K20 := cr K18
def K21 := cl K20
def K22 := cr K20
def K23 := cr K17
def K24 := cl K23
def K25 := cr K23
def K26 := cr K14
def K27 := cr K7
def K28 := cr K4
def K29 := cl K28
def K30 := cl K29
def K31 := cr K29
def K32 := cl K31
def K33 := cl K32
def K34 := cl K33
def K35 := cr K33
def K36 := cl K35
def K37 := cl K36
def K38 := cr K36
def K39 := cr K35
def K40 := cl K39
def K41 := cl K40
def K42 := cl K41
def K43 := cr K41
def K44 := cl K43
def K45 := cr K43
def K46 := cl K45
def K47 := cr K45
def K48 := cl K47
def K49 := cl K48
def K50 := cr K48
def K51 := cl K50
def K52 := cr K50
def K53 := cr K47
def K54 := cl K53
def K55 := cr K53
def K56 := cl K55
def K57 := cl K56
def K58 := cr K56
def K59 := cl K58
def K60 := cr K58
def K61 := cr K55
def K62 := cr K39
def K63 := cr K28
def K64 := cl K63
def K65 := cr K63
abbrev gl (R : Ending → Hp → Prop) : Gl := Gl.fn prog 40 96 R
def pt30 (R : Ending → Hp → Prop) (q0 p3 : Option Addr) (n3 c3 : Nat) (σ : Hp) : Prop := ∀ (J : Env), At (gl R) [.code K30, .code K31, .code K63] (upds J [(0, (.pointer q0)), (3, (.slice p3 n3 c3))]) [] σ
def pt34 (R : Ending → Hp → Prop) (q0 p3 : Option Addr) (n3 c3 : Nat) (p46 : Option Addr) (n46 c46 : Nat) (x47 x48 : Int) (σ : Hp) : Prop := ∀ (J : Env), At (gl R) [.code K34, .code K35, .inLoop K33, .inBlock 0, .code K63] (upds J [(0, (.pointer q0)), (3, (.slice p3 n3 c3)), (46, (.slice p46 n46 c46)), (47, (.int .i64 x47)), (48, (.int .i64 x48))]) [] σ
def pt64 (R : Ending → Hp → Prop) (p3 : Option Addr) (n3 c3 : Nat) (σ : Hp) : Prop := ∀ (J : Env), At (gl R) [.code K64, .code K65] (upds J [(3, (.slice p3 n3 c3))]) [] σ
def pt24 (R : Ending → Hp → Prop) (p3 : Option Addr) (n3 c3 : Nat) (σ : Hp) : Prop := ∀ (J : Env), At (gl R) [.code K24, .code K25, .code K28] (upds J [(3, (.slice p3 n3 c3))]) [] σ
theorem start {R : Ending → Hp → Prop} {q0 : Option Addr} {σ : Hp} (h : ∃ (b11 o11 : Nat), q0 = some ⟨b11, o11, none⟩ ∧ ∃ x13 : Int, Hp.ld σ ⟨b11, (o11 + 2), none⟩ = some (.int .i64 x13) ∧ ((0 : Int) < x13 → ∃ x21 : Int, Hp.ld σ ⟨b11, (o11 + 2), none⟩ = some (.int .i64 x21) ∧ ∃ p26 : Option Addr, ∃ n26 : Nat, ∃ c26 : Nat, Hp.ld σ ⟨b11, (o11 + 3), none⟩ = some (.slice p26 n26 c26) ∧ Spec prog 42 #[(.pointer (some ⟨b11, o11, none⟩)), (.string (ByteArray.mk #[99])), (.int .i64 x21)] σ (Cont R (fun v σ1 => ∃ s22 : ByteArray, v = (.string s22) ∧ Kp [b11] σ σ1 ∧ Spec prog 67 #[(.pointer (some ⟨b11, o11, none⟩)), (.string s22), (.slice p26 n26 c26)] σ1 (Cont R (fun v_2 σ1_2 => ∃ p27a : Option Addr, ∃ n27a : Nat, ∃ c27a : Nat, ∃ t27b : Bool, v_2 = (.tuple #[(.slice p27a n27a c27a), (.bool t27b)]) ∧ (t27b = false → Eff prog (Instr.storeAt 64 (.pointer (some ⟨b11, (o11 + 3), none⟩)) (.slice none 0 0)) σ1_2 (fun _ σ1_3 => (((n27a : Int) : Int) = 0 → Eff prog (Instr.storeAt 3 (.pointer (some ⟨b11, (o11 + 2), none⟩)) (.int .i64 0)) σ1_3 (fun _ σ1_4 => pt24 R p27a n27a c27a σ1_4)) ∧ (¬ (((n27a : Int) : Int) = 0) → pt24 R p27a n27a c27a σ1_3))) ∧ (t27b = true → pt30 R ((some ⟨b11, o11, none⟩)) p27a n27a c27a σ1_2)))))) ∧ (¬ ((0 : Int) < x13) → pt30 R ((some ⟨b11, o11, none⟩)) none 0 0 σ)) : Spec prog 40 #[(.pointer q0)] σ R := by
 refine Spec.of_at (fn := f40) (c := K0) func40 (by kernel_rfl) (Nat.le_of_ble_eq_true (by kernel_rfl)) (fun e he => ?_)
 refine At.ofL (l := [(0, (.pointer q0))]) ⟨he 0, trivial⟩ (fun J => ?_)
 show At (gl R) _ _ _ _
 refine At.s K1 K2 ?_
 refine At.rg 0 [0] ?_
 refine Seq.u 2 (.slice none 0 0) ?_
 refine Seq.done ?_
 refine At.s K3 K4 ?_
 refine At.rg 1 [0] ?_
 refine Seq.u 3 (.slice none 0 0) ?_
 refine Seq.done ?_
 refine At.s K5 K28 ?_
 refine At.s K6 K7 ?_
 refine At.rg 2 [0, 1, 2, 3, 4] ?_
 refine Seq.u 10 (.pointer q0) ?_
 obtain ⟨b11, o11, hq, h⟩ := h
 subst hq
 refine Seq.z 11 (.nilCheck (.tmp 10)) 0 (.pointer (some ⟨b11, o11, none⟩)) (Y.nilCheck rfl) ?_
 refine Seq.z 12 (.fieldAddr 71 (.tmp 11) 2) 0 (.pointer (some ⟨b11, (o11 + 2), none⟩)) (Y.fieldAddr (fd := (fieldOf prog 71 2)) underlying71 (by kernel_rfl) sizeOf3 rfl rfl) ?_
 obtain ⟨x13, hl, h⟩ := h
 refine Seq.z 13 (.load 3 (.tmp 12)) 3 (.int .i64 x13) (Y.ld isAgg3 rfl hl) ?_
 refine Seq.u 14 (.bool (decide ((0 : Int) < x13))) ?_
 refine Seq.done ?_
 cases hb : (decide ((0 : Int) < x13)) with
 | true =>
  replace h := h.1 (of_decide_eq_true hb)
  refine At.cT 14 K8 K27 ?_
  refine At.s K9 K10 ?_
  refine At.draw (id := 3) (ops := cO K9) (n := 17) (q := (some [])) (plan := [(0, true), (1, true), (2, true), (3, true), (4, true), (5, true), (7, true), (8, true), (9, true), (10, true), (6, false), (11, false), (12, true), (13, true), (14, true), (15, true), (16, true)]) (tl := []) mixed (by kernel_rfl) (by kernel_rfl) ?_
  refine Head.u 16 (.pointer (some ⟨b11, o11, none⟩)) ?_
  refine Head.u 17 (.pointer (some ⟨b11, o11, none⟩)) ?_
  refine Head.u 18 (.pointer (some ⟨b11, o11, none⟩)) ?_
  refine Head.z 19 (.nilCheck (.tmp 18)) 0 (.pointer (some ⟨b11, o11, none⟩)) (Y.nilCheck rfl) ?_
  refine Head.z 20 (.fieldAddr 71 (.tmp 19) 2) 0 (.pointer (some ⟨b11, (o11 + 2), none⟩)) (Y.fieldAddr (fd := (fieldOf prog 71 2)) underlying71 (by kernel_rfl) sizeOf3 rfl rfl) ?_
  obtain ⟨x21, hl, h⟩ := h
  refine Head.yl b11 [[6], [11, 6]] rfl (by kernel_rfl) (d := (some 21)) (op := (.load 3 (.tmp 20))) (ty := 3) (v := (.int .i64 x21)) (by kernel_rfl) rfl (Y.ld isAgg3 rfl (lim_ld hl)) ?_
  refine Head.u 23 (.pointer (some ⟨b11, o11, none⟩)) ?_
  refine Head.z 24 (.nilCheck (.tmp 23)) 0 (.pointer (some ⟨b11, o11, none⟩)) (Y.nilCheck rfl) ?_
  refine Head.z 25 (.fieldAddr 71 (.tmp 24) 3) 0 (.pointer (some ⟨b11, (o11 + 3), none⟩)) (Y.fieldAddr (fd := (fieldOf prog 71 3)) underlying71 (by kernel_rfl) sizeOf64 rfl rfl) ?_
  obtain ⟨p26, n26, c26, hl, h⟩ := h
  refine Head.yl b11 [[11]] rfl (by kernel_rfl) (d := (some 26)) (op := (.load 64 (.tmp 25))) (ty := 64) (v := (.slice p26 n26 c26)) (by kernel_rfl) rfl (Y.ld isAgg64 rfl (lim_ld hl)) ?_
  refine Head.o (q' := (some [(b11, [11])])) rfl ?_
  refine OpTo.cl (some 22) call42 (h.cont fun v σ1 h2 => ?_); replace h := h2; clear h2
  obtain ⟨s22, rfl, hk, h⟩ := h
  refine ⟨⟨fun _ h => h, kp_q (L := [(b11, [11])]) hk⟩, ?_⟩
  refine Head.o (q' := (some [])) rfl ?_
  refine OpTo.cl (some 27) call67 (h.cont fun v_2 σ1_2 h2 => ?_); replace h := h2; clear h2
  obtain ⟨p27a, n27a, c27a, t27b, rfl, h⟩ := h
  refine ⟨⟨fun _ h => h, kp_q (L := []) Kp.nil⟩, ?_⟩
  refine Head.u 15 (.tuple #[(.slice p27a n27a c27a), (.bool t27b)]) ?_
  refine Head.u 28 (.slice p27a n27a c27a) ?_
  refine Head.u 29 (.bool t27b) ?_
  refine Head.u 4 (.slice p27a n27a c27a) ?_
  refine Head.u 5 (.bool t27b) ?_
  refine Head.done ?_
  refine Seq.done ?_
  refine At.s K11 K12 ?_
  refine At.rg 4 [0, 1] ?_
  refine Seq.us [(30, .slice p27a n27a c27a), (3, .slice p27a n27a c27a)] ?_
  refine Seq.done ?_
  refine At.s K13 K14 ?_
  refine At.rg 5 [0, 1] ?_
  refine Seq.us [(31, .bool t27b), (32, .bool (!t27b))] ?_
  refine Seq.done ?_
  cases hb : (!t27b) with
  | true =>
   replace h := h.1 (Tw.nt hb)
   refine At.cT 32 K15 K26 ?_
   refine At.s K16 K17 ?_
   refine At.rg 6 [0, 1, 2, 3] ?_
   refine Seq.u 33 (.pointer (some ⟨b11, o11, none⟩)) ?_
   refine Seq.z 34 (.nilCheck (.tmp 33)) 0 (.pointer (some ⟨b11, o11, none⟩)) (Y.nilCheck rfl) ?_
   refine Seq.z 35 (.fieldAddr 71 (.tmp 34) 3) 0 (.pointer (some ⟨b11, (o11 + 3), none⟩)) (Y.fieldAddr (fd := (fieldOf prog 71 3)) underlying71 (by kernel_rfl) sizeOf64 rfl rfl) ?_
   refine Seq.o ?_
   refine OpTo.store (T := 64) (ty := 0) (x := (.tmp 35)) (y := (.const (.slice none 0 0))) (p := (.pointer (some ⟨b11, (o11 + 3), none⟩))) (v := (.slice none 0 0)) (gd := none) (by kernel_rfl) rfl rfl rfl (h.mono (fun _ σ1_3 h2 => ?_)); replace h := h2; clear h2
   refine Seq.done ?_
   refine At.s K18 K23 ?_
   refine At.s K19 K20 ?_
   refine At.rg 7 [0, 1, 2] ?_
   refine Seq.u 36 (.slice p27a n27a c27a) ?_
   refine Seq.z 37 (.call { callee := .builtin .len, args := #[(.tmp 36)], argTypes := #[22] }) 3 (.int .i64 (n27a : Int)) (Y.lenS underlying22 rfl rfl) ?_
   refine Seq.u 38 (.bool (decide (((n27a : Int) : Int) = 0))) ?_
   refine Seq.done ?_
   cases hb : (decide (((n27a : Int) : Int) = 0)) with
   | true =>
    replace h := h.1 (of_decide_eq_true hb)
    refine At.cT 38 K21 K22 ?_
    refine At.rg 8 [0, 1, 2, 3] ?_
    refine Seq.u 39 (.pointer (some ⟨b11, o11, none⟩)) ?_
    refine Seq.z 40 (.nilCheck (.tmp 39)) 0 (.pointer (some ⟨b11, o11, none⟩)) (Y.nilCheck rfl) ?_
    refine Seq.z 41 (.fieldAddr 71 (.tmp 40) 2) 0 (.pointer (some ⟨b11, (o11 + 2), none⟩)) (Y.fieldAddr (fd := (fieldOf prog 71 2)) underlying71 (by kernel_rfl) sizeOf3 rfl rfl) ?_
    refine Seq.o ?_
    refine OpTo.store (T := 3) (ty := 0) (x := (.tmp 41)) (y := (.const (.int .i64 0))) (p := (.pointer (some ⟨b11, (o11 + 2), none⟩))) (v := (.int .i64 0)) (gd := none) (by kernel_rfl) rfl rfl rfl (h.mono (fun _ σ1_4 h2 => ?_)); replace h := h2; clear h2
    refine Seq.done ?_
    refine At.L [(3, (.slice p27a n27a c27a))] fun J => ?_
    refine At.s K24 K25 ?_
    exact At.v [(3, (.slice p27a n27a c27a))] (h _)
   | false =>
    replace h := h.2 (of_decide_eq_false hb)
    refine At.cF 38 K21 K22 ?_
    refine At.skip ?_
    refine At.s K24 K25 ?_
    exact At.v [(3, (.slice p27a n27a c27a))] (h _)
  | false =>
   replace h := h.2 (Tw.nf hb)
   refine At.cF 32 K15 K26 ?_
   refine At.skip ?_
   refine At.s K29 K63 ?_
   refine At.s K30 K31 ?_
   exact At.v [(0, (.pointer (some ⟨b11, o11, none⟩))), (3, (.slice p27a n27a c27a))] (h _)
 | false =>
  replace h := h.2 (of_decide_eq_false hb)
  refine At.cF 14 K8 K27 ?_
  refine At.skip ?_
  refine At.s K29 K63 ?_
  refine At.s K30 K31 ?_
  exact At.v [(0, (.pointer (some ⟨b11, o11, none⟩))), (3, (.slice none 0 0))] (h _)
theorem pt30_of {R : Ending → Hp → Prop} {q0 p3 : Option Addr} {n3 c3 : Nat} {σ : Hp} (h : ∃ (b44 o44 : Nat), q0 = some ⟨b44, o44, none⟩ ∧ ∃ p46 : Option Addr, ∃ n46 : Nat, ∃ c46 : Nat, Hp.ld σ ⟨b44, (o44 + 3), none⟩ = some (.slice p46 n46 c46) ∧ pt34 R ((some ⟨b44, o44, none⟩)) p3 n3 c3 p46 n46 c46 ((n46 : Int)) 0 σ) : pt30 R q0 p3 n3 c3 σ := by
 intro J
 show At (gl R) _ _ _ _
 refine At.rg 10 [0, 1, 2, 3, 4, 5] ?_
 refine Seq.u 43 (.pointer q0) ?_
 obtain ⟨b44, o44, hq, h⟩ := h
 subst hq
 refine Seq.z 44 (.nilCheck (.tmp 43)) 0 (.pointer (some ⟨b44, o44, none⟩)) (Y.nilCheck rfl) ?_
 refine Seq.z 45 (.fieldAddr 71 (.tmp 44) 3) 0 (.pointer (some ⟨b44, (o44 + 3), none⟩)) (Y.fieldAddr (fd := (fieldOf prog 71 3)) underlying71 (by kernel_rfl) sizeOf64 rfl rfl) ?_
 obtain ⟨p46, n46, c46, hl, h⟩ := h
 refine Seq.z 46 (.load 64 (.tmp 45)) 64 (.slice p46 n46 c46) (Y.ld isAgg64 rfl hl) ?_
 refine Seq.z 47 (.call { callee := .builtin .len, args := #[(.tmp 46)], argTypes := #[64] }) 3 (.int .i64 (n46 : Int)) (Y.lenS underlying64 rfl rfl) ?_
 refine Seq.u 48 (.int .i64 0) ?_
 refine Seq.done ?_
 refine At.b 0 K32 ?_
 refine At.loop (x := K33) (by kernel_rfl) ?_
 refine At.s K34 K35 ?_
 exact At.v [(0, (.pointer (some ⟨b44, o44, none⟩))), (3, (.slice p3 n3 c3)), (46, (.slice p46 n46 c46)), (47, (.int .i64 (n46 : Int))), (48, (.int .i64 0))] (h _)
theorem pt34_of {R : Ending → Hp → Prop} {q0 p3 p46 : Option Addr} {n3 c3 n46 c46 : Nat} {x47 x48 : Int} {σ : Hp} (h : ((x48 : Int) < x47 → ∃ (b51 o51 : Nat), p46 = some ⟨b51, o51, none⟩ ∧ ((0 : Int) ≤ x48 ∧ x48 < (n46 : Int)) ∧ ∃ x52 : Int, Hp.ld σ ⟨b51, (o51 + Int.toNat x48 * 1), none⟩ = some (.int .i64 x52) ∧ ∃ (b59 o59 : Nat), q0 = some ⟨b59, o59, none⟩ ∧ ∃ p61 : Option Addr, ∃ n61 : Nat, ∃ c61 : Nat, Hp.ld σ ⟨b59, (o59 + 3), none⟩ = some (.slice p61 n61 c61) ∧ I64 (x48 + 1) ∧ ((0 : Int) ≤ (x48 + 1) ∧ (x48 + 1) ≤ (n61 : Int)) ∧ Spec prog 42 #[(.pointer (some ⟨b59, o59, none⟩)), (.string (ByteArray.mk #[115])), (.int .i64 x52)] σ (Cont R (fun v σ1 => ∃ s57 : ByteArray, v = (.string s57) ∧ Kp [b59] σ σ1 ∧ Spec prog 67 #[(.pointer (some ⟨b59, o59, none⟩)), (.string s57), (.slice (slP p61 (Int.toNat (x48 + 1)) c61 1) (n61 - Int.toNat (x48 + 1)) (c61 - Int.toNat (x48 + 1)))] σ1 (Cont R (fun v_2 σ1_2 => ∃ p65a : Option Addr, ∃ n65a : Nat, ∃ c65a : Nat, ∃ t65b : Bool, v_2 = (.tuple #[(.slice p65a n65a c65a), (.bool t65b)]) ∧ Eff prog (Builtin.append_ #[22, 22] 22 #[(.slice p3 n3 c3), (.slice p65a n65a c65a)]) σ1_2 (fun v_3 σ1_3 => ∃ p70 : Option Addr, ∃ n70 : Nat, ∃ c70 : Nat, v_3 = (.slice p70 n70 c70) ∧ (t65b = true → I64 (x48 + 1) ∧ pt34 R ((some ⟨b59, o59, none⟩)) p70 n70 c70 ((some ⟨b51, o51, none⟩)) n46 c46 x47 ((x48 + 1)) σ1_3) ∧ (t65b = false → ∃ p76 : Option Addr, ∃ n76 : Nat, ∃ c76 : Nat, Hp.ld σ1_3 ⟨b59, (o59 + 3), none⟩ = some (.slice p76 n76 c76) ∧ I64 (x48 + 1) ∧ ((0 : Int) ≤ (x48 + 1) ∧ (x48 + 1) ≤ (c76 : Int)) ∧ Eff prog (Instr.storeAt 64 (.pointer (some ⟨b59, (o59 + 3), none⟩)) (.slice p76 (Int.toNat (x48 + 1)) c76)) σ1_3 (fun _ σ1_4 => (((n65a : Int) : Int) = 0 → ∃ p89 : Option Addr, ∃ n89 : Nat, ∃ c89 : Nat, Hp.ld σ1_4 ⟨b59, (o59 + 3), none⟩ = some (.slice p89 n89 c89) ∧ ((0 : Int) ≤ x48 ∧ x48 ≤ (c89 : Int)) ∧ Eff prog (Instr.storeAt 64 (.pointer (some ⟨b59, (o59 + 3), none⟩)) (.slice p89 (Int.toNat x48) c89)) σ1_4 (fun _ σ1_5 => pt64 R p70 n70 c70 σ1_5)) ∧ (¬ (((n65a : Int) : Int) = 0) → pt64 R p70 n70 c70 σ1_4))))))))) ∧ (¬ ((x48 : Int) < x47) → pt64 R p3 n3 c3 σ)) : pt34 R q0 p3 n3 c3 p46 n46 c46 x47 x48 σ := by
 intro J
 show At (gl R) _ _ _ _
 refine At.rg 11 [0] ?_
 refine Seq.u 49 (.bool (decide ((x48 : Int) < x47))) ?_
 refine Seq.done ?_
 refine At.s K36 K39 ?_
 cases hb : (decide ((x48 : Int) < x47)) with
 | true =>
  replace h := h.1 (of_decide_eq_true hb)
  refine At.cT 49 K37 K38 ?_
  refine At.skip ?_
  refine At.s K40 K62 ?_
  refine At.b 1 K41 ?_
  refine At.s K42 K43 ?_
  refine At.rg 12 [0, 1, 2, 3, 4] ?_
  refine Seq.u 50 (.int .i64 x48) ?_
  obtain ⟨b51, o51, hq, h⟩ := h
  subst hq
  obtain ⟨hi, h⟩ := h
  refine Seq.z 51 (.indexAddr 64 (.tmp 46) (.tmp 48)) 0 (.pointer (some ⟨b51, (o51 + Int.toNat x48 * 1), none⟩)) (Y.idx underlying64 sizeOf3 rfl rfl hi rfl) ?_
  obtain ⟨x52, hl, h⟩ := h
  refine Seq.z 52 (.load 3 (.tmp 51)) 3 (.int .i64 x52) (Y.ld isAgg3 rfl hl) ?_
  refine Seq.us [(6, .int .i64 x48), (7, .int .i64 x52)] ?_
  refine Seq.done ?_
  refine At.s K44 K45 ?_
  refine At.draw (id := 13) (ops := cO K44) (n := 17) (q := (some [])) (plan := [(0, true), (1, true), (2, true), (4, true), (5, true), (6, true), (7, true), (8, true), (9, true), (10, true), (3, false), (11, false), (12, true), (13, true), (14, true), (15, true), (16, true)]) (tl := []) mixed (by kernel_rfl) (by kernel_rfl) ?_
  refine Head.u 54 (.pointer q0) ?_
  refine Head.u 55 (.pointer q0) ?_
  refine Head.u 56 (.int .i64 x52) ?_
  refine Head.u 58 (.pointer q0) ?_
  obtain ⟨b59, o59, hq, h⟩ := h
  subst hq
  refine Head.z 59 (.nilCheck (.tmp 58)) 0 (.pointer (some ⟨b59, o59, none⟩)) (Y.nilCheck rfl) ?_
  refine Head.z 60 (.fieldAddr 71 (.tmp 59) 3) 0 (.pointer (some ⟨b59, (o59 + 3), none⟩)) (Y.fieldAddr (fd := (fieldOf prog 71 3)) underlying71 (by kernel_rfl) sizeOf64 rfl rfl) ?_
  obtain ⟨p61, n61, c61, hl, h⟩ := h
  refine Head.yl b59 [[11, 10]] rfl (by kernel_rfl) (d := (some 61)) (op := (.load 64 (.tmp 60))) (ty := 64) (v := (.slice p61 n61 c61)) (by kernel_rfl) rfl (Y.ld isAgg64 rfl (lim_ld hl)) ?_
  refine Head.u 62 (.int .i64 x48) ?_
  obtain ⟨hi, h⟩ := h
  refine Head.z 63 (.binOp .add 3 (.tmp 62) (.const (.int .i64 1)) 3) 3 (.int .i64 (x48 + 1)) (Y.addI hi rfl rfl) ?_
  obtain ⟨hs, h⟩ := h
  refine Head.z 64 (.slice 64 (.tmp 61) (some (.tmp 63)) none none) 64 (.slice (slP p61 (Int.toNat (x48 + 1)) c61 1) (n61 - Int.toNat (x48 + 1)) (c61 - Int.toNat (x48 + 1))) (Y.sll underlying64 sizeOf3 rfl rfl hs) ?_
  refine Head.o (q' := (some [(b59, [11])])) rfl ?_
  refine OpTo.cl (some 57) call42 (h.cont fun v σ1 h2 => ?_); replace h := h2; clear h2
  obtain ⟨s57, rfl, hk, h⟩ := h
  refine ⟨⟨fun _ h => h, kp_q (L := [(b59, [11])]) hk⟩, ?_⟩
  refine Head.o (q' := (some [])) rfl ?_
  refine OpTo.cl (some 65) call67 (h.cont fun v_2 σ1_2 h2 => ?_); replace h := h2; clear h2
  obtain ⟨p65a, n65a, c65a, t65b, rfl, h⟩ := h
  refine ⟨⟨fun _ h => h, kp_q (L := []) Kp.nil⟩, ?_⟩
  refine Head.u 53 (.tuple #[(.slice p65a n65a c65a), (.bool t65b)]) ?_
  refine Head.u 66 (.slice p65a n65a c65a) ?_
  refine Head.u 67 (.bool t65b) ?_
  refine Head.u 8 (.slice p65a n65a c65a) ?_
  refine Head.u 9 (.bool t65b) ?_
  refine Head.done ?_
  refine Seq.done ?_
  refine At.s K46 K47 ?_
  refine At.rg 14 [0, 1, 2, 3] ?_
  refine Seq.us [(68, .slice p3 n3 c3), (69, .slice p65a n65a c65a)] ?_
  refine Seq.o ?_
  refine OpTo.eff (d := (some 70)) (op := (.call { callee := .builtin .append, args := #[(.tmp 68), (.tmp 69)], argTypes := #[22, 22] })) (ty := 22) (gd := none) (by kernel_rfl) rfl rfl (Builtin.append_ #[22, 22] 22 #[(.slice p3 n3 c3), (.slice p65a n65a c65a)]) (fun o ho ht => exec_b_append rfl rfl o ho ht) (h.mono (fun v_3 σ1_3 h2 => ?_)); replace h := h2; clear h2
  obtain ⟨p70, n70, c70, rfl, h⟩ := h
  refine Seq.u 3 (.slice p70 n70 c70) ?_
  refine Seq.done ?_
  refine At.s K48 K53 ?_
  refine At.s K49 K50 ?_
  refine At.rg 15 [0] ?_
  refine Seq.u 71 (.bool t65b) ?_
  refine Seq.done ?_
  cases hb : t65b with
  | true =>
   replace h := h.1 hb
   refine At.cT 71 K51 K52 ?_
   refine At.x 1 [.code K62, .inLoop K33, .inBlock 0, .code K63] ?_
   refine At.rg 19 [0, 1] ?_
   obtain ⟨hi, h⟩ := h
   refine Seq.z 94 (.binOp .add 3 (.tmp 48) (.const (.int .i64 1)) 3) 3 (.int .i64 (x48 + 1)) (Y.addI hi rfl rfl) ?_
   refine Seq.u 48 (.int .i64 (x48 + 1)) ?_
   refine Seq.done ?_
   refine At.inLoop ?_
   refine At.s K34 K35 ?_
   exact At.v [(0, (.pointer (some ⟨b59, o59, none⟩))), (3, (.slice p70 n70 c70)), (46, (.slice (some ⟨b51, o51, none⟩) n46 c46)), (47, (.int .i64 x47)), (48, (.int .i64 (x48 + 1)))] (h _)
  | false =>
   replace h := h.2 hb
   refine At.cF 71 K51 K52 ?_
   refine At.skip ?_
   refine At.s K54 K55 ?_
   refine At.rg 16 [0, 1, 2, 3, 4, 5, 6, 7, 8, 9, 10] ?_
   refine Seq.us [(72, .pointer (some ⟨b59, o59, none⟩)), (73, .pointer (some ⟨b59, o59, none⟩))] ?_
   refine Seq.z 74 (.nilCheck (.tmp 73)) 0 (.pointer (some ⟨b59, o59, none⟩)) (Y.nilCheck rfl) ?_
   refine Seq.z 75 (.fieldAddr 71 (.tmp 74) 3) 0 (.pointer (some ⟨b59, (o59 + 3), none⟩)) (Y.fieldAddr (fd := (fieldOf prog 71 3)) underlying71 (by kernel_rfl) sizeOf64 rfl rfl) ?_
   obtain ⟨p76, n76, c76, hl, h⟩ := h
   refine Seq.z 76 (.load 64 (.tmp 75)) 64 (.slice p76 n76 c76) (Y.ld isAgg64 rfl hl) ?_
   refine Seq.u 77 (.int .i64 x48) ?_
   obtain ⟨hi, h⟩ := h
   refine Seq.z 78 (.binOp .add 3 (.tmp 77) (.const (.int .i64 1)) 3) 3 (.int .i64 (x48 + 1)) (Y.addI hi rfl rfl) ?_
   obtain ⟨hs, h⟩ := h
   refine Seq.z 79 (.slice 64 (.tmp 76) none (some (.tmp 78)) none) 64 (.slice p76 (Int.toNat (x48 + 1)) c76) (Y.slh underlying64 sizeOf3 rfl rfl hs) ?_
   refine Seq.z 80 (.nilCheck (.tmp 72)) 0 (.pointer (some ⟨b59, o59, none⟩)) (Y.nilCheck rfl) ?_
   refine Seq.z 81 (.fieldAddr 71 (.tmp 80) 3) 0 (.pointer (some ⟨b59, (o59 + 3), none⟩)) (Y.fieldAddr (fd := (fieldOf prog 71 3)) underlying71 (by kernel_rfl) sizeOf64 rfl rfl) ?_
   refine Seq.o ?_
   refine OpTo.store (T := 64) (ty := 0) (x := (.tmp 81)) (y := (.tmp 79)) (p := (.pointer (some ⟨b59, (o59 + 3), none⟩))) (v := (.slice p76 (Int.toNat (x48 + 1)) c76)) (gd := none) (by kernel_rfl) rfl rfl rfl (h.mono (fun _ σ1_4 h2 => ?_)); replace h := h2; clear h2
   refine Seq.done ?_
   refine At.L [(0, (.pointer (some ⟨b59, o59, none⟩))), (3, (.slice p70 n70 c70)), (6, (.int .i64 x48)), (8, (.slice p65a n65a c65a))] fun J => ?_
   refine At.s K56 K61 ?_
   refine At.s K57 K58 ?_
   refine At.rg 17 [0, 1, 2] ?_
   refine Seq.u 82 (.slice p65a n65a c65a) ?_
   refine Seq.z 83 (.call { callee := .builtin .len, args := #[(.tmp 82)], argTypes := #[22] }) 3 (.int .i64 (n65a : Int)) (Y.lenS underlying22 rfl rfl) ?_
   refine Seq.u 84 (.bool (decide (((n65a : Int) : Int) = 0))) ?_
   refine Seq.done ?_
   cases hb : (decide (((n65a : Int) : Int) = 0)) with
   | true =>
    replace h := h.1 (of_decide_eq_true hb)
    refine At.cT 84 K59 K60 ?_
    refine At.rg 18 [0, 1, 2, 3, 4, 5, 6, 7, 8, 9] ?_
    refine Seq.us [(85, .pointer (some ⟨b59, o59, none⟩)), (86, .pointer (some ⟨b59, o59, none⟩))] ?_
    refine Seq.z 87 (.nilCheck (.tmp 86)) 0 (.pointer (some ⟨b59, o59, none⟩)) (Y.nilCheck rfl) ?_
    refine Seq.z 88 (.fieldAddr 71 (.tmp 87) 3) 0 (.pointer (some ⟨b59, (o59 + 3), none⟩)) (Y.fieldAddr (fd := (fieldOf prog 71 3)) underlying71 (by kernel_rfl) sizeOf64 rfl rfl) ?_
    obtain ⟨p89, n89, c89, hl, h⟩ := h
    refine Seq.z 89 (.load 64 (.tmp 88)) 64 (.slice p89 n89 c89) (Y.ld isAgg64 rfl hl) ?_
    refine Seq.u 90 (.int .i64 x48) ?_
    obtain ⟨hs, h⟩ := h
    refine Seq.z 91 (.slice 64 (.tmp 89) none (some (.tmp 90)) none) 64 (.slice p89 (Int.toNat x48) c89) (Y.slh underlying64 sizeOf3 rfl rfl hs) ?_
    refine Seq.z 92 (.nilCheck (.tmp 85)) 0 (.pointer (some ⟨b59, o59, none⟩)) (Y.nilCheck rfl) ?_
    refine Seq.z 93 (.fieldAddr 71 (.tmp 92) 3) 0 (.pointer (some ⟨b59, (o59 + 3), none⟩)) (Y.fieldAddr (fd := (fieldOf prog 71 3)) underlying71 (by kernel_rfl) sizeOf64 rfl rfl) ?_
    refine Seq.o ?_
    refine OpTo.store (T := 64) (ty := 0) (x := (.tmp 93)) (y := (.tmp 91)) (p := (.pointer (some ⟨b59, (o59 + 3), none⟩))) (v := (.slice p89 (Int.toNat x48) c89)) (gd := none) (by kernel_rfl) rfl rfl rfl (h.mono (fun _ σ1_5 h2 => ?_)); replace h := h2; clear h2
    refine Seq.done ?_
    refine At.x 0 [.code K63] ?_
    refine At.s K64 K65 ?_
    exact At.v [(3, (.slice p70 n70 c70))] (h _)
   | false =>
    replace h := h.2 (of_decide_eq_false hb)
    refine At.cF 84 K59 K60 ?_
    refine At.skip ?_
    refine At.x 0 [.code K63] ?_
    refine At.s K64 K65 ?_
    exact At.v [(3, (.slice p70 n70 c70))] (h _)
 | false =>
  replace h := h.2 (of_decide_eq_false hb)
  refine At.cF 49 K37 K38 ?_
  refine At.x 0 [.code K63] ?_
  refine At.s K64 K65 ?_
  exact At.v [(3, (.slice p3 n3 c3))] (h _)
theorem pt64_of {R : Ending → Hp → Prop} {p3 : Option Addr} {n3 c3 : Nat} {σ : Hp} (h : R (.returned (.slice p3 n3 c3)) σ) : pt64 R p3 n3 c3 σ := by
 intro J
 show At (gl R) _ _ _ _
 refine At.rg 20 [0, 1] ?_
 refine Seq.us [(95, .slice p3 n3 c3), (2, .slice p3 n3 c3)] ?_
 refine Seq.done ?_
 exact At.rt [.tmp 2] [(.slice p3 n3 c3)] func40 ⟨_, rfl, rfl⟩ h
theorem pt24_of {R : Ending → Hp → Prop} {p3 : Option Addr} {n3 c3 : Nat} {σ : Hp} (h : R (.returned (.slice p3 n3 c3)) σ) : pt24 R p3 n3 c3 σ := by
 intro J
 show At (gl R) _ _ _ _
 refine At.rg 9 [0, 1] ?_
 refine Seq.us [(42, .slice p3 n3 c3), (2, .slice p3 n3 c3)] ?_
 refine Seq.done ?_
 exact At.rt [.tmp 2] [(.slice p3 n3 c3)] func40 ⟨_, rfl, rfl⟩ h
end wal_Wal_replay
namespace wal_Wal_file
abbrev fid : Nat := 42
noncomputable def K0 := f42.body.getD .skip
def K1 := cl K0
def K2 := cr K0
def K3 := cl K2
def K4 := cr K2
abbrev gl (R : Ending → Hp → Prop) : Gl := Gl.fn prog 42 18 R
theorem start {R : Ending → Hp → Prop} {q0 : Option Addr} {s1 : ByteArray} {x2 : Int} {σ : Hp} (h : ∃ (b8 o8 : Nat), q0 = some ⟨b8, o8, none⟩ ∧ ∃ s10 : ByteArray, Hp.ld σ ⟨b8, (o8 + 1), none⟩ = some (.string s10) ∧ (ByteArray.size s10 + ByteArray.size (ByteArray.mk #[47]) ≤ 9223372036854775807) ∧ (ByteArray.size (s10 ++ (ByteArray.mk #[47])) + ByteArray.size s1 ≤ 9223372036854775807) ∧ ∀ x15 : Int, x15 = IntKind.u64.wrap x2 → Spec prog 69 #[(.int .u64 x15), (.int .i64 8)] σ (Cont R (fun v σ1 => ∃ s16 : ByteArray, v = (.string s16) ∧ Kp [b8] σ σ1 ∧ (ByteArray.size ((s10 ++ (ByteArray.mk #[47])) ++ s1) + ByteArray.size s16 ≤ 9223372036854775807) ∧ R (.returned (.string (((s10 ++ (ByteArray.mk #[47])) ++ s1) ++ s16))) σ1))) : Spec prog 42 #[(.pointer q0), (.string s1), (.int .i64 x2)] σ R := by
 refine Spec.of_at (fn := f42) (c := K0) func42 (by kernel_rfl) (Nat.le_of_ble_eq_true (by kernel_rfl)) (fun e he => ?_)
 refine At.ofL (l := [(0, (.pointer q0)), (1, (.string s1)), (2, (.int .i64 x2))]) ⟨he 0, he 1, he 2, trivial⟩ (fun J => ?_)
 show At (gl R) _ _ _ _
 refine At.s K1 K2 ?_
 refine At.rg 0 [0] ?_
 refine Seq.u 6 (.string (ByteArray.mk #[])) ?_
 refine Seq.done ?_
 refine At.s K3 K4 ?_
 refine At.draw (id := 1) (ops := cO K3) (n := 12) (q := (some [])) (plan := [(0, true), (1, true), (2, true), (3, true), (4, true), (5, true), (6, true), (7, true), (8, true), (9, false), (10, true), (11, true)]) (tl := []) mixed (by kernel_rfl) (by kernel_rfl) ?_
 refine Head.u 7 (.pointer q0) ?_
 obtain ⟨b8, o8, hq, h⟩ := h
 subst hq
 refine Head.z 8 (.nilCheck (.tmp 7)) 0 (.pointer (some ⟨b8, o8, none⟩)) (Y.nilCheck rfl) ?_
 refine Head.z 9 (.fieldAddr 71 (.tmp 8) 1) 0 (.pointer (some ⟨b8, (o8 + 1), none⟩)) (Y.fieldAddr (fd := (fieldOf prog 71 1)) underlying71 (by kernel_rfl) sizeOf9 rfl rfl) ?_
 obtain ⟨s10, hl, h⟩ := h
 refine Head.yl b8 [] rfl (by kernel_rfl) (d := (some 10)) (op := (.load 9 (.tmp 9))) (ty := 9) (v := (.string s10)) (by kernel_rfl) rfl (Y.ld isAgg9 rfl (lim_ld hl)) ?_
 obtain ⟨hi, h⟩ := h
 refine Head.z 11 (.binOp .add 9 (.tmp 10) (.const (.string (ByteArray.mk #[47]))) 9) 9 (.string (s10 ++ (ByteArray.mk #[47]))) (Y.addS underlying9 rfl rfl hi) ?_
 refine Head.u 12 (.string s1) ?_
 obtain ⟨hi, h⟩ := h
 refine Head.z 13 (.binOp .add 9 (.tmp 11) (.tmp 12) 9) 9 (.string ((s10 ++ (ByteArray.mk #[47])) ++ s1)) (Y.addS underlying9 rfl rfl hi) ?_
 refine Head.u 14 (.int .i64 x2) ?_
 obtain ⟨x15, hwx15⟩ : ∃ y, y = IntKind.u64.wrap x2 := ⟨_, rfl⟩
 replace h := h x15 hwx15
 refine Head.y (d := (some 15)) (op := (.convert 3 56 (.tmp 14))) (ty := 56) (v := (.int .u64 x15)) (by kernel_rfl) rfl (hwx15 ▸ Y.conv (by kernel_rfl) underlying56 rfl) ?_
 refine Head.o (q' := (some [(b8, [])])) rfl ?_
 refine OpTo.cl (some 16) call69 (h.cont fun v σ1 h2 => ?_); replace h := h2; clear h2
 obtain ⟨s16, rfl, hk, h⟩ := h
 refine ⟨⟨fun _ h => h, kp_q (L := [(b8, [])]) hk⟩, ?_⟩
 obtain ⟨hi, h⟩ := h
 refine Head.z 17 (.binOp .add 9 (.tmp 13) (.tmp 16) 9) 9 (.string (((s10 ++ (ByteArray.mk #[47])) ++ s1) ++ s16)) (Y.addS underlying9 rfl rfl hi) ?_
 refine Head.u 6 (.string (((s10 ++ (ByteArray.mk #[47])) ++ s1) ++ s16)) ?_
 refine Head.done ?_
 refine Seq.done ?_
 exact At.rt [.tmp 6] [(.string (((s10 ++ (ByteArray.mk #[47])) ++ s1) ++ s16))] func42 ⟨_, rfl, rfl⟩ h
end wal_Wal_file
namespace wal_must
abbrev fid : Nat := 43
noncomputable def K0 := f43.body.getD .skip
def K1 := cl K0
def K2 := cr K0
def K3 := cl K2
def K4 := cr K2
abbrev gl (R : Ending → Hp → Prop) : Gl := Gl.fn prog 43 7 R
theorem start {R : Ending → Hp → Prop} {x0 : Int} {σ : Hp} (h : ((x0 : Int) ≠ 0 → R (.panicked [{ v := (.iface 98 (.agg #[(.int .i64 x0)])), recovered := false }]) σ) ∧ (¬ ((x0 : Int) ≠ 0) → R (.returned (.tuple #[])) σ)) : Spec prog 43 #[(.int .i64 x0)] σ R := by
 refine Spec.of_at (fn := f43) (c := K0) func43 (by kernel_rfl) (Nat.le_of_ble_eq_true (by kernel_rfl)) (fun e he => ?_)
 refine At.ofL (l := [(0, (.int .i64 x0))]) ⟨he 0, trivial⟩ (fun J => ?_)
 show At (gl R) _ _ _ _
 refine At.s K1 K2 ?_
 refine At.rg 0 [0, 1] ?_
 refine Seq.us [(2, .int .i64 x0), (3, .bool (decide ((x0 : Int) ≠ 0)))] ?_
 refine Seq.done ?_
 cases hb : (decide ((x0 : Int) ≠ 0)) with
 | true =>
  replace h := h.1 (of_decide_eq_true hb)
  refine At.cT 3 K3 K4 ?_
  refine At.rg 1 [0, 1, 2, 3] ?_
  refine Seq.u 4 (.int .i64 x0) ?_
  refine Seq.z 5 (.build 98 #[(0, (.tmp 4))]) 98 (.agg #[(.int .i64 x0)]) (Y.build (vs := [(0, (.int .i64 x0))]) rfl (by kernel_rfl)) ?_
  refine Seq.z 6 (.makeInterface 98 (.tmp 5)) 20 (.iface 98 (.agg #[(.int .i64 x0)])) (Y.iface underlying98 rfl rfl) ?_
  refine Seq.o ?_
  exact OpTo.panic (x := (.tmp 6)) (d := none) (ty := 0) (gd := none) (by kernel_rfl) rfl rfl rfl rfl h
 | false =>
  replace h := h.2 (of_decide_eq_false hb)
  refine At.cF 3 K3 K4 ?_
  refine At.skip ?_
  exact At.doneV (rs := []) (vs := []) func43 (by kernel_rfl) rfl h
end wal_must
namespace wal_Wal_Append_1
abbrev fid : Nat := 44
noncomputable def K0 := f44.body.getD .skip
def K1 := cl K0
def K2 := cl K1
def K3 := cr K1
def K4 := cl K3
def K5 := cl K4
def K6 := cr K4
def K7 := cl K6
def K8 := cr K6
def K9 := cr K3
def K10 := cr K0
def K11 := cl K10
def K12 := cr K10
def K13 := cl K12
def K14 := cl K13
def K15 := cr K13
def K16 := cl K15
def K17 := cr K15
def K18 := cr K12
abbrev gl (R : Ending → Hp → Prop) : Gl := Gl.fn prog 44 71 R
def pt11 (R : Ending → Hp → Prop) (b0 b1 : Nat) (σ : Hp) : Prop := ∀ (J : Env), At (gl R) [.code K11, .code K12] (upds J [(0, (.pointer (some ⟨b0, 0, none⟩))), (1, (.pointer (some ⟨b1, 0, none⟩)))]) [] σ
def pt18 (R : Ending → Hp → Prop) (b0 b1 : Nat) (σ : Hp) : Prop := ∀ (J : Env), At (gl R) [.code K18] (upds J [(0, (.pointer (some ⟨b0, 0, none⟩))), (1, (.pointer (some ⟨b1, 0, none⟩)))]) [] σ
theorem start {R : Ending → Hp → Prop} {b0 b1 : Nat} {σ : Hp} (h : ∃ q2 : Option Addr, Hp.ld σ ⟨b0, 0, none⟩ = some (.pointer q2) ∧ Spec prog 45 #[(.pointer q2)] σ (Cont R (fun v σ1 => ∃ t3 : Bool, v = (.bool t3) ∧ (t3 = true → ∃ q5 : Option Addr, Hp.ld σ1 ⟨b0, 0, none⟩ = some (.pointer q5) ∧ ∃ (b6 o6 : Nat), q5 = some ⟨b6, o6, none⟩ ∧ ∃ x8 : Int, Hp.ld σ1 ⟨b6, (o6 + 5), none⟩ = some (.int .i64 x8) ∧ ((4096 : Int) ≤ x8 → ∃ q11 : Option Addr, Hp.ld σ1 ⟨b0, 0, none⟩ = some (.pointer q11) ∧ ∃ (b12 o12 : Nat), q11 = some ⟨b12, o12, none⟩ ∧ ∃ q14 : Option Addr, Hp.ld σ1 ⟨b12, o12, none⟩ = some (.pointer q14) ∧ ∃ q15 : Option Addr, Hp.ld σ1 ⟨b0, 0, none⟩ = some (.pointer q15) ∧ ∃ q16 : Option Addr, Hp.ld σ1 ⟨b0, 0, none⟩ = some (.pointer q16) ∧ ∃ (b17 o17 : Nat), q16 = some ⟨b17, o17, none⟩ ∧ ∃ x19 : Int, Hp.ld σ1 ⟨b17, (o17 + 4), none⟩ = some (.int .i64 x19) ∧ Spec prog 42 #[(.pointer q15), (.string (ByteArray.mk #[115])), (.int .i64 x19)] σ1 (Cont R (fun v_2 σ1_2 => ∃ s20 : ByteArray, v_2 = (.string s20) ∧ Kp [b12, b0] σ1 σ1_2 ∧ Spec prog 46 #[(.pointer q14), (.string s20)] σ1_2 (Cont R (fun v_3 σ1_3 => ∃ x21 : Int, v_3 = (.int .i64 x21) ∧ Spec prog 43 #[(.int .i64 x21)] σ1_3 (Cont R (fun v_4 σ1_4 => v_4 = (.tuple #[]) ∧ ∃ q23 : Option Addr, Hp.ld σ1_4 ⟨b0, 0, none⟩ = some (.pointer q23) ∧ ∃ (b24 o24 : Nat), q23 = some ⟨b24, o24, none⟩ ∧ ∃ x26 : Int, Hp.ld σ1_4 ⟨b24, (o24 + 4), none⟩ = some (.int .i64 x26) ∧ I64 (x26 + 1) ∧ Eff prog (Instr.storeAt 3 (.pointer (some ⟨b24, (o24 + 4), none⟩)) (.int .i64 (x26 + 1))) σ1_4 (fun _ σ1_5 => ∃ q30 : Option Addr, Hp.ld σ1_5 ⟨b0, 0, none⟩ = some (.pointer q30) ∧ ∃ (b31 o31 : Nat), q30 = some ⟨b31, o31, none⟩ ∧ Eff prog (Instr.storeAt 3 (.pointer (some ⟨b31, (o31 + 5), none⟩)) (.int .i64 0)) σ1_5 (fun _ σ1_6 => pt11 R b0 b1 σ1_6))))))))) ∧ (¬ ((4096 : Int) ≤ x8) → pt11 R b0 b1 σ1)) ∧ (t3 = false → pt11 R b0 b1 σ1)))) : Spec prog 44 #[(.pointer (some ⟨b0, 0, none⟩)), (.pointer (some ⟨b1, 0, none⟩))] σ R := by
 refine Spec.of_at (fn := f44) (c := K0) func44 (by kernel_rfl) (Nat.le_of_ble_eq_true (by kernel_rfl)) (fun e he => ?_)
 refine At.ofL (l := [(0, (.pointer (some ⟨b0, 0, none⟩))), (1, (.pointer (some ⟨b1, 0, none⟩)))]) ⟨he 0, he 1, trivial⟩ (fun J => ?_)
 show At (gl R) _ _ _ _
 refine At.s K1 K10 ?_
 refine At.s K2 K3 ?_
 refine At.rg 0 [0, 1, 2, 3, 4, 5, 6, 7, 8] ?_
 obtain ⟨q2, hl, h⟩ := h
 refine Seq.z 2 (.load 26 (.tmp 0)) 26 (.pointer q2) (Y.ld isAgg26 rfl hl) ?_
 refine Seq.o ?_
 refine OpTo.cl (some 3) call45 (h.cont fun v σ1 h2 => ?_); replace h := h2; clear h2
 obtain ⟨t3, rfl, h⟩ := h
 refine Seq.u 4 (.bool t3) ?_
 cases hb : t3 with
 | true =>
  replace h := h.1 hb
  obtain ⟨q5, hl, h⟩ := h
  refine Seq.zg 5 (.load 26 (.tmp 0)) 26 (2, true) (.pointer q5) (Y.ld isAgg26 rfl hl) ?_
  obtain ⟨b6, o6, hq, h⟩ := h
  subst hq
  refine Seq.zg 6 (.nilCheck (.tmp 5)) 0 (2, true) (.pointer (some ⟨b6, o6, none⟩)) (Y.nilCheck rfl) ?_
  refine Seq.zg 7 (.fieldAddr 71 (.tmp 6) 5) 0 (2, true) (.pointer (some ⟨b6, (o6 + 5), none⟩)) (Y.fieldAddr (fd := (fieldOf prog 71 5)) underlying71 (by kernel_rfl) sizeOf3 rfl rfl) ?_
  obtain ⟨x8, hl, h⟩ := h
  refine Seq.zg 8 (.load 3 (.tmp 7)) 3 (2, true) (.int .i64 x8) (Y.ld isAgg3 rfl hl) ?_
  refine Seq.us [(9, .bool (decide ((4096 : Int) ≤ x8))), (10, .bool (decide ((4096 : Int) ≤ x8)))] ?_
  refine Seq.done ?_
  cases hb : (decide ((4096 : Int) ≤ x8)) with
  | true =>
   replace h := h.1 (of_decide_eq_true hb)
   refine At.cT 10 K4 K9 ?_
   refine At.s K5 K6 ?_
   refine At.draw (id := 1) (ops := cO K5) (n := 10) (q := (some [])) (plan := [(0, true), (1, true), (2, true), (3, true), (4, true), (5, true), (6, true), (7, true), (8, true), (9, false)]) (tl := [10, 11]) mixed (by kernel_rfl) (by kernel_rfl) ?_
   obtain ⟨q11, hl, h⟩ := h
   refine Head.yl b0 [] rfl (by kernel_rfl) (d := (some 11)) (op := (.load 26 (.tmp 0))) (ty := 26) (v := (.pointer q11)) (by kernel_rfl) rfl (Y.ld isAgg26 rfl (lim_ld hl)) ?_
   obtain ⟨b12, o12, hq, h⟩ := h
   subst hq
   refine Head.z 12 (.nilCheck (.tmp 11)) 0 (.pointer (some ⟨b12, o12, none⟩)) (Y.nilCheck rfl) ?_
   refine Head.z 13 (.fieldAddr 71 (.tmp 12) 0) 0 (.pointer (some ⟨b12, o12, none⟩)) (Y.fieldAddr (fd := (fieldOf prog 71 0)) underlying71 (by kernel_rfl) sizeOf24 rfl rfl) ?_
   obtain ⟨q14, hl, h⟩ := h
   refine Head.yl b12 [] rfl (by kernel_rfl) (d := (some 14)) (op := (.load 24 (.tmp 13))) (ty := 24) (v := (.pointer q14)) (by kernel_rfl) rfl (Y.ld isAgg24 rfl (lim_ld hl)) ?_
   obtain ⟨q15, hl, h⟩ := h
   refine Head.yl b0 [[9]] rfl (by kernel_rfl) (d := (some 15)) (op := (.load 26 (.tmp 0))) (ty := 26) (v := (.pointer q15)) (by kernel_rfl) rfl (Y.ld isAgg26 rfl (lim_ld hl)) ?_
   obtain ⟨q16, hl, h⟩ := h
   refine Head.yl b0 [[9, 8, 7, 6]] rfl (by kernel_rfl) (d := (some 16)) (op := (.load 26 (.tmp 0))) (ty := 26) (v := (.pointer q16)) (by kernel_rfl) rfl (Y.ld isAgg26 rfl (lim_ld hl)) ?_
   obtain ⟨b17, o17, hq, h⟩ := h
   subst hq
   refine Head.z 17 (.nilCheck (.tmp 16)) 0 (.pointer (some ⟨b17, o17, none⟩)) (Y.nilCheck rfl) ?_
   refine Head.z 18 (.fieldAddr 71 (.tmp 17) 4) 0 (.pointer (some ⟨b17, (o17 + 4), none⟩)) (Y.fieldAddr (fd := (fieldOf prog 71 4)) underlying71 (by kernel_rfl) sizeOf3 rfl rfl) ?_
   obtain ⟨x19, hl, h⟩ := h
   refine Head.yl b17 [[9]] rfl (by kernel_rfl) (d := (some 19)) (op := (.load 3 (.tmp 18))) (ty := 3) (v := (.int .i64 x19)) (by kernel_rfl) rfl (Y.ld isAgg3 rfl (lim_ld hl)) ?_
   refine Head.o (q' := (some [(b12, []), (b0, [])])) rfl ?_
   refine OpTo.cl (some 20) call42 (h.cont fun v_2 σ1_2 h2 => ?_); replace h := h2; clear h2
   obtain ⟨s20, rfl, hk, h⟩ := h
   refine ⟨⟨fun _ h => h, kp_q (L := [(b12, []), (b0, [])]) hk⟩, ?_⟩
   refine Head.done ?_
   refine Seq.o ?_
   refine OpTo.cl (some 21) call46 (h.cont fun v_3 σ1_3 h2 => ?_); replace h := h2; clear h2
   obtain ⟨x21, rfl, h⟩ := h
   refine Seq.o ?_
   refine OpTo.cl (some 22) call43 (h.cont fun v_4 σ1_4 h2 => ?_); replace h := h2; clear h2
   obtain ⟨rfl, h⟩ := h
   refine Seq.done ?_
   refine At.s K7 K8 ?_
   refine At.rg 2 [0, 1, 2, 3, 4, 5, 6, 7] ?_
   obtain ⟨q23, hl, h⟩ := h
   refine Seq.z 23 (.load 26 (.tmp 0)) 26 (.pointer q23) (Y.ld isAgg26 rfl hl) ?_
   obtain ⟨b24, o24, hq, h⟩ := h
   subst hq
   refine Seq.z 24 (.nilCheck (.tmp 23)) 0 (.pointer (some ⟨b24, o24, none⟩)) (Y.nilCheck rfl) ?_
   refine Seq.z 25 (.fieldAddr 71 (.tmp 24) 4) 0 (.pointer (some ⟨b24, (o24 + 4), none⟩)) (Y.fieldAddr (fd := (fieldOf prog 71 4)) underlying71 (by kernel_rfl) sizeOf3 rfl rfl) ?_
   obtain ⟨x26, hl, h⟩ := h
   refine Seq.z 26 (.load 3 (.tmp 25)) 3 (.int .i64 x26) (Y.ld isAgg3 rfl hl) ?_
   obtain ⟨hi, h⟩ := h
   refine Seq.z 27 (.binOp .add 3 (.tmp 26) (.const (.int .i64 1)) 3) 3 (.int .i64 (x26 + 1)) (Y.addI hi rfl rfl) ?_
   refine Seq.z 28 (.nilCheck (.tmp 23)) 0 (.pointer (some ⟨b24, o24, none⟩)) (Y.nilCheck rfl) ?_
   refine Seq.z 29 (.fieldAddr 71 (.tmp 28) 4) 0 (.pointer (some ⟨b24, (o24 + 4), none⟩)) (Y.fieldAddr (fd := (fieldOf prog 71 4)) underlying71 (by kernel_rfl) sizeOf3 rfl rfl) ?_
   refine Seq.o ?_
   refine OpTo.store (T := 3) (ty := 0) (x := (.tmp 29)) (y := (.tmp 27)) (p := (.pointer (some ⟨b24, (o24 + 4), none⟩))) (v := (.int .i64 (x26 + 1))) (gd := none) (by kernel_rfl) rfl rfl rfl (h.mono (fun _ σ1_5 h2 => ?_)); replace h := h2; clear h2
   refine Seq.done ?_
   refine At.rg 3 [0, 1, 2, 3] ?_
   obtain ⟨q30, hl, h⟩ := h
   refine Seq.z 30 (.load 26 (.tmp 0)) 26 (.pointer q30) (Y.ld isAgg26 rfl hl) ?_
   obtain ⟨b31, o31, hq, h⟩ := h
   subst hq
   refine Seq.z 31 (.nilCheck (.tmp 30)) 0 (.pointer (some ⟨b31, o31, none⟩)) (Y.nilCheck rfl) ?_
   refine Seq.z 32 (.fieldAddr 71 (.tmp 31) 5) 0 (.pointer (some ⟨b31, (o31 + 5), none⟩)) (Y.fieldAddr (fd := (fieldOf prog 71 5)) underlying71 (by kernel_rfl) sizeOf3 rfl rfl) ?_
   refine Seq.o ?_
   refine OpTo.store (T := 3) (ty := 0) (x := (.tmp 32)) (y := (.const (.int .i64 0))) (p := (.pointer (some ⟨b31, (o31 + 5), none⟩))) (v := (.int .i64 0)) (gd := none) (by kernel_rfl) rfl rfl rfl (h.mono (fun _ σ1_6 h2 => ?_)); replace h := h2; clear h2
   refine Seq.done ?_
   refine At.s K11 K12 ?_
   exact At.v [(0, (.pointer (some ⟨b0, 0, none⟩))), (1, (.pointer (some ⟨b1, 0, none⟩)))] (h _)
  | false =>
   replace h := h.2 (of_decide_eq_false hb)
   refine At.cF 10 K4 K9 ?_
   refine At.skip ?_
   refine At.s K11 K12 ?_
   exact At.v [(0, (.pointer (some ⟨b0, 0, none⟩))), (1, (.pointer (some ⟨b1, 0, none⟩)))] (h _)
 | false =>
  replace h := h.2 hb
  refine Seq.n 5 ?_
  refine Seq.n 6 ?_
  refine Seq.n 7 ?_
  refine Seq.n 8 ?_
  refine Seq.n 9 ?_
  refine Seq.u 10 (.bool false) ?_
  refine Seq.done ?_
  refine At.L [(0, (.pointer (some ⟨b0, 0, none⟩))), (1, (.pointer (some ⟨b1, 0, none⟩))), (10, (.bool false))] fun J => ?_
  refine At.cF 10 K4 K9 ?_
  refine At.skip ?_
  refine At.s K11 K12 ?_
  exact At.v [(0, (.pointer (some ⟨b0, 0, none⟩))), (1, (.pointer (some ⟨b1, 0, none⟩)))] (h _)
theorem pt11_of {R : Ending → Hp → Prop} {b0 b1 : Nat} {σ : Hp} (h : ∃ q33 : Option Addr, Hp.ld σ ⟨b0, 0, none⟩ = some (.pointer q33) ∧ ∃ (b34 o34 : Nat), q33 = some ⟨b34, o34, none⟩ ∧ ∃ q36 : Option Addr, Hp.ld σ ⟨b34, o34, none⟩ = some (.pointer q36) ∧ ∃ q37 : Option Addr, Hp.ld σ ⟨b0, 0, none⟩ = some (.pointer q37) ∧ ∃ q38 : Option Addr, Hp.ld σ ⟨b0, 0, none⟩ = some (.pointer q38) ∧ ∃ (b39 o39 : Nat), q38 = some ⟨b39, o39, none⟩ ∧ ∃ x41 : Int, Hp.ld σ ⟨b39, (o39 + 4), none⟩ = some (.int .i64 x41) ∧ ∃ p43 : Option Addr, ∃ n43 : Nat, ∃ c43 : Nat, Hp.ld σ ⟨b1, 0, none⟩ = some (.slice p43 n43 c43) ∧ Spec prog 42 #[(.pointer q37), (.string (ByteArray.mk #[115])), (.int .i64 x41)] σ (Cont R (fun v σ1 => ∃ s42 : ByteArray, v = (.string s42) ∧ Kp [b1, b34, b0] σ σ1 ∧ Spec prog 19 #[(.pointer q36), (.string s42), (.slice p43 n43 c43)] σ1 (Cont R (fun v_2 σ1_2 => ∃ x44 : Int, v_2 = (.int .i64 x44) ∧ Spec prog 43 #[(.int .i64 x44)] σ1_2 (Cont R (fun v_3 σ1_3 => v_3 = (.tuple #[]) ∧ ∃ q46 : Option Addr, Hp.ld σ1_3 ⟨b0, 0, none⟩ = some (.pointer q46) ∧ Spec prog 45 #[(.pointer q46)] σ1_3 (Cont R (fun v_4 σ1_4 => ∃ t47 : Bool, v_4 = (.bool t47) ∧ (t47 = false → ∃ q49 : Option Addr, Hp.ld σ1_4 ⟨b0, 0, none⟩ = some (.pointer q49) ∧ ∃ q50 : Option Addr, Hp.ld σ1_4 ⟨b0, 0, none⟩ = some (.pointer q50) ∧ ∃ (b51 o51 : Nat), q50 = some ⟨b51, o51, none⟩ ∧ ∃ p53 : Option Addr, ∃ n53 : Nat, ∃ c53 : Nat, Hp.ld σ1_4 ⟨b51, (o51 + 3), none⟩ = some (.slice p53 n53 c53) ∧ ∃ q54 : Option Addr, Hp.ld σ1_4 ⟨b0, 0, none⟩ = some (.pointer q54) ∧ ∃ (b55 o55 : Nat), q54 = some ⟨b55, o55, none⟩ ∧ ∃ x57 : Int, Hp.ld σ1_4 ⟨b55, (o55 + 4), none⟩ = some (.int .i64 x57) ∧ ∀ b58 : Nat, σ1_4 b58 = none → Eff prog (Builtin.append_ #[64, 64] 64 #[(.slice p53 n53 c53), (.slice (some ⟨b58, 0, none⟩) 1 1)]) (Hp.set σ1_4 b58 (.cells #[(.int .i64 x57)] 3 (0, 0))) (fun v_5 σ1_5 => ∃ p59 : Option Addr, ∃ n59 : Nat, ∃ c59 : Nat, v_5 = (.slice p59 n59 c59) ∧ Kp [b0] (Hp.set σ1_4 b58 (.cells #[(.int .i64 x57)] 3 (0, 0))) σ1_5 ∧ ∃ (b60 o60 : Nat), q49 = some ⟨b60, o60, none⟩ ∧ Eff prog (Instr.storeAt 64 (.pointer (some ⟨b60, (o60 + 3), none⟩)) (.slice p59 n59 c59)) σ1_5 (fun _ σ1_6 => pt18 R b0 b1 σ1_6))) ∧ (t47 = true → pt18 R b0 b1 σ1_4)))))))))) : pt11 R b0 b1 σ := by
 intro J
 show At (gl R) _ _ _ _
 refine At.draw (id := 4) (ops := cO K11) (n := 11) (q := (some [])) (plan := [(0, true), (1, true), (2, true), (3, true), (4, true), (5, true), (6, true), (7, true), (8, true), (10, true), (9, false)]) (tl := [11, 12]) mixed (by kernel_rfl) (by kernel_rfl) ?_
 obtain ⟨q33, hl, h⟩ := h
 refine Head.yl b0 [] rfl (by kernel_rfl) (d := (some 33)) (op := (.load 26 (.tmp 0))) (ty := 26) (v := (.pointer q33)) (by kernel_rfl) rfl (Y.ld isAgg26 rfl (lim_ld hl)) ?_
 obtain ⟨b34, o34, hq, h⟩ := h
 subst hq
 refine Head.z 34 (.nilCheck (.tmp 33)) 0 (.pointer (some ⟨b34, o34, none⟩)) (Y.nilCheck rfl) ?_
 refine Head.z 35 (.fieldAddr 71 (.tmp 34) 0) 0 (.pointer (some ⟨b34, o34, none⟩)) (Y.fieldAddr (fd := (fieldOf prog 71 0)) underlying71 (by kernel_rfl) sizeOf24 rfl rfl) ?_
 obtain ⟨q36, hl, h⟩ := h
 refine Head.yl b34 [] rfl (by kernel_rfl) (d := (some 36)) (op := (.load 24 (.tmp 35))) (ty := 24) (v := (.pointer q36)) (by kernel_rfl) rfl (Y.ld isAgg24 rfl (lim_ld hl)) ?_
 obtain ⟨q37, hl, h⟩ := h
 refine Head.yl b0 [[9]] rfl (by kernel_rfl) (d := (some 37)) (op := (.load 26 (.tmp 0))) (ty := 26) (v := (.pointer q37)) (by kernel_rfl) rfl (Y.ld isAgg26 rfl (lim_ld hl)) ?_
 obtain ⟨q38, hl, h⟩ := h
 refine Head.yl b0 [[9, 8, 7, 6]] rfl (by kernel_rfl) (d := (some 38)) (op := (.load 26 (.tmp 0))) (ty := 26) (v := (.pointer q38)) (by kernel_rfl) rfl (Y.ld isAgg26 rfl (lim_ld hl)) ?_
 obtain ⟨b39, o39, hq, h⟩ := h
 subst hq
 refine Head.z 39 (.nilCheck (.tmp 38)) 0 (.pointer (some ⟨b39, o39, none⟩)) (Y.nilCheck rfl) ?_
 refine Head.z 40 (.fieldAddr 71 (.tmp 39) 4) 0 (.pointer (some ⟨b39, (o39 + 4), none⟩)) (Y.fieldAddr (fd := (fieldOf prog 71 4)) underlying71 (by kernel_rfl) sizeOf3 rfl rfl) ?_
 obtain ⟨x41, hl, h⟩ := h
 refine Head.yl b39 [[9]] rfl (by kernel_rfl) (d := (some 41)) (op := (.load 3 (.tmp 40))) (ty := 3) (v := (.int .i64 x41)) (by kernel_rfl) rfl (Y.ld isAgg3 rfl (lim_ld hl)) ?_
 obtain ⟨p43, n43, c43, hl, h⟩ := h
 refine Head.yl b1 [] rfl (by kernel_rfl) (d := (some 43)) (op := (.load 23 (.tmp 1))) (ty := 23) (v := (.slice p43 n43 c43)) (by kernel_rfl) rfl (Y.ld isAgg23 rfl (lim_ld hl)) ?_
 refine Head.o (q' := (some [(b1, []), (b34, []), (b0, [])])) rfl ?_
 refine OpTo.cl (some 42) call42 (h.cont fun v σ1 h2 => ?_); replace h := h2; clear h2
 obtain ⟨s42, rfl, hk, h⟩ := h
 refine ⟨⟨fun _ h => h, kp_q (L := [(b1, []), (b34, []), (b0, [])]) hk⟩, ?_⟩
 refine Head.done ?_
 refine Seq.o ?_
 refine OpTo.cl (some 44) call19 (h.cont fun v_2 σ1_2 h2 => ?_); replace h := h2; clear h2
 obtain ⟨x44, rfl, h⟩ := h
 refine Seq.o ?_
 refine OpTo.cl (some 45) call43 (h.cont fun v_3 σ1_3 h2 => ?_); replace h := h2; clear h2
 obtain ⟨rfl, h⟩ := h
 refine Seq.done ?_
 refine At.s K13 K18 ?_
 refine At.s K14 K15 ?_
 refine At.rg 5 [0, 1, 2] ?_
 obtain ⟨q46, hl, h⟩ := h
 refine Seq.z 46 (.load 26 (.tmp 0)) 26 (.pointer q46) (Y.ld isAgg26 rfl hl) ?_
 refine Seq.o ?_
 refine OpTo.cl (some 47) call45 (h.cont fun v_4 σ1_4 h2 => ?_); replace h := h2; clear h2
 obtain ⟨t47, rfl, h⟩ := h
 refine Seq.u 48 (.bool (!t47)) ?_
 refine Seq.done ?_
 cases hb : (!t47) with
 | true =>
  replace h := h.1 (Tw.nt hb)
  refine At.cT 48 K16 K17 ?_
  refine At.draw (id := 6) (ops := cO K16) (n := 13) (q := (some [])) (plan := [(0, true), (1, true), (2, true), (3, true), (4, true), (5, true), (6, true), (7, true), (8, true), (9, false), (10, false), (11, true), (12, true)]) (tl := [13]) mixed (by kernel_rfl) (by kernel_rfl) ?_
  obtain ⟨q49, hl, h⟩ := h
  refine Head.yl b0 [] rfl (by kernel_rfl) (d := (some 49)) (op := (.load 26 (.tmp 0))) (ty := 26) (v := (.pointer q49)) (by kernel_rfl) rfl (Y.ld isAgg26 rfl (lim_ld hl)) ?_
  obtain ⟨q50, hl, h⟩ := h
  refine Head.yl b0 [[10, 4, 3, 2]] rfl (by kernel_rfl) (d := (some 50)) (op := (.load 26 (.tmp 0))) (ty := 26) (v := (.pointer q50)) (by kernel_rfl) rfl (Y.ld isAgg26 rfl (lim_ld hl)) ?_
  obtain ⟨b51, o51, hq, h⟩ := h
  subst hq
  refine Head.z 51 (.nilCheck (.tmp 50)) 0 (.pointer (some ⟨b51, o51, none⟩)) (Y.nilCheck rfl) ?_
  refine Head.z 52 (.fieldAddr 71 (.tmp 51) 3) 0 (.pointer (some ⟨b51, (o51 + 3), none⟩)) (Y.fieldAddr (fd := (fieldOf prog 71 3)) underlying71 (by kernel_rfl) sizeOf64 rfl rfl) ?_
  obtain ⟨p53, n53, c53, hl, h⟩ := h
  refine Head.yl b51 [[10]] rfl (by kernel_rfl) (d := (some 53)) (op := (.load 64 (.tmp 52))) (ty := 64) (v := (.slice p53 n53 c53)) (by kernel_rfl) rfl (Y.ld isAgg64 rfl (lim_ld hl)) ?_
  obtain ⟨q54, hl, h⟩ := h
  refine Head.yl b0 [[9, 8, 7, 6], [10, 9, 8, 7, 6]] rfl (by kernel_rfl) (d := (some 54)) (op := (.load 26 (.tmp 0))) (ty := 26) (v := (.pointer q54)) (by kernel_rfl) rfl (Y.ld isAgg26 rfl (lim_ld hl)) ?_
  obtain ⟨b55, o55, hq, h⟩ := h
  subst hq
  refine Head.z 55 (.nilCheck (.tmp 54)) 0 (.pointer (some ⟨b55, o55, none⟩)) (Y.nilCheck rfl) ?_
  refine Head.z 56 (.fieldAddr 71 (.tmp 55) 4) 0 (.pointer (some ⟨b55, (o55 + 4), none⟩)) (Y.fieldAddr (fd := (fieldOf prog 71 4)) underlying71 (by kernel_rfl) sizeOf3 rfl rfl) ?_
  obtain ⟨x57, hl, h⟩ := h
  refine Head.yl b55 [[9], [10, 9]] rfl (by kernel_rfl) (d := (some 57)) (op := (.load 3 (.tmp 56))) (ty := 3) (v := (.int .i64 x57)) (by kernel_rfl) rfl (Y.ld isAgg3 rfl (lim_ld hl)) ?_
  refine Head.o (q' := (some [(b51, [10]), (b0, [10]), (b0, [])])) rfl ?_
  refine OpTo.bslice (T := 64) (E := 3) (m := 1) (ps := #[(0, (.tmp 57))]) (d := (some 58)) (ty := 64) (gd := none) (vs := [(0, (.int .i64 x57))]) (cs := #[(.int .i64 x57)]) underlying64 (by kernel_rfl) rfl rfl rfl (by kernel_rfl) (fun b58 hn => ?_)
  refine ⟨⟨fun _ h => h, kp_q (Kp.of_ext (Ext.set hn))⟩, ?_⟩
  replace h := h b58 hn
  refine Head.o (q' := (some [(b0, [])])) rfl ?_
  refine OpTo.eff (d := (some 59)) (op := (.call { callee := .builtin .append, args := #[(.tmp 53), (.tmp 58)], argTypes := #[64, 64] })) (ty := 64) (gd := none) (by kernel_rfl) rfl rfl (Builtin.append_ #[64, 64] 64 #[(.slice p53 n53 c53), (.slice (some ⟨b58, 0, none⟩) 1 1)]) (fun o ho ht => exec_b_append rfl rfl o ho ht) (h.mono (fun v_5 σ1_5 h2 => ?_)); replace h := h2; clear h2
  obtain ⟨p59, n59, c59, rfl, hk, h⟩ := h
  refine ⟨⟨fun _ h => h, kp_q (L := [(b0, [])]) hk⟩, ?_⟩
  obtain ⟨b60, o60, hq, h⟩ := h
  subst hq
  refine Head.z 60 (.nilCheck (.tmp 49)) 0 (.pointer (some ⟨b60, o60, none⟩)) (Y.nilCheck rfl) ?_
  refine Head.z 61 (.fieldAddr 71 (.tmp 60) 3) 0 (.pointer (some ⟨b60, (o60 + 3), none⟩)) (Y.fieldAddr (fd := (fieldOf prog 71 3)) underlying71 (by kernel_rfl) sizeOf64 rfl rfl) ?_
  refine Head.done ?_
  refine Seq.o ?_
  refine OpTo.store (T := 64) (ty := 0) (x := (.tmp 61)) (y := (.tmp 59)) (p := (.pointer (some ⟨b60, (o60 + 3), none⟩))) (v := (.slice p59 n59 c59)) (gd := none) (by kernel_rfl) rfl rfl rfl (h.mono (fun _ σ1_6 h2 => ?_)); replace h := h2; clear h2
  refine Seq.done ?_
  exact At.v [(0, (.pointer (some ⟨b0, 0, none⟩))), (1, (.pointer (some ⟨b1, 0, none⟩)))] (h _)
 | false =>
  replace h := h.2 (Tw.nf hb)
  refine At.cF 48 K16 K17 ?_
  refine At.skip ?_
  exact At.v [(0, (.pointer (some ⟨b0, 0, none⟩))), (1, (.pointer (some ⟨b1, 0, none⟩)))] (h _)
theorem pt18_of {R : Ending → Hp → Prop} {b0 b1 : Nat} {σ : Hp} (h : ∃ q62 : Option Addr, Hp.ld σ ⟨b0, 0, none⟩ = some (.pointer q62) ∧ ∃ (b63 o63 : Nat), q62 = some ⟨b63, o63, none⟩ ∧ ∃ x65 : Int, Hp.ld σ ⟨b63, (o63 + 5), none⟩ = some (.int .i64 x65) ∧ ∃ p66 : Option Addr, ∃ n66 : Nat, ∃ c66 : Nat, Hp.ld σ ⟨b1, 0, none⟩ = some (.slice p66 n66 c66) ∧ I64 (x65 + (n66 : Int)) ∧ Eff prog (Instr.storeAt 3 (.pointer (some ⟨b63, (o63 + 5), none⟩)) (.int .i64 (x65 + (n66 : Int)))) σ (fun _ σ1 => R (.returned (.tuple #[])) σ1)) : pt18 R b0 b1 σ := by
 intro J
 show At (gl R) _ _ _ _
 refine At.draw (id := 7) (ops := cO K18) (n := 9) (q := none) (plan := [(0, true), (1, true), (2, true), (3, true), (4, true), (5, true), (6, true), (7, true), (8, true)]) (tl := [9]) mixed (by kernel_rfl) (by kernel_rfl) ?_
 obtain ⟨q62, hl, h⟩ := h
 refine Head.z 62 (.load 26 (.tmp 0)) 26 (.pointer q62) (Y.ld isAgg26 rfl hl) ?_
 obtain ⟨b63, o63, hq, h⟩ := h
 subst hq
 refine Head.z 63 (.nilCheck (.tmp 62)) 0 (.pointer (some ⟨b63, o63, none⟩)) (Y.nilCheck rfl) ?_
 refine Head.z 64 (.fieldAddr 71 (.tmp 63) 5) 0 (.pointer (some ⟨b63, (o63 + 5), none⟩)) (Y.fieldAddr (fd := (fieldOf prog 71 5)) underlying71 (by kernel_rfl) sizeOf3 rfl rfl) ?_
 obtain ⟨x65, hl, h⟩ := h
 refine Head.z 65 (.load 3 (.tmp 64)) 3 (.int .i64 x65) (Y.ld isAgg3 rfl hl) ?_
 obtain ⟨p66, n66, c66, hl, h⟩ := h
 refine Head.z 66 (.load 23 (.tmp 1)) 23 (.slice p66 n66 c66) (Y.ld isAgg23 rfl hl) ?_
 refine Head.z 67 (.call { callee := .builtin .len, args := #[(.tmp 66)], argTypes := #[23] }) 3 (.int .i64 (n66 : Int)) (Y.lenS underlying23 rfl rfl) ?_
 obtain ⟨hi, h⟩ := h
 refine Head.z 68 (.binOp .add 3 (.tmp 65) (.tmp 67) 3) 3 (.int .i64 (x65 + (n66 : Int))) (Y.addI hi rfl rfl) ?_
 refine Head.z 69 (.nilCheck (.tmp 62)) 0 (.pointer (some ⟨b63, o63, none⟩)) (Y.nilCheck rfl) ?_
 refine Head.z 70 (.fieldAddr 71 (.tmp 69) 5) 0 (.pointer (some ⟨b63, (o63 + 5), none⟩)) (Y.fieldAddr (fd := (fieldOf prog 71 5)) underlying71 (by kernel_rfl) sizeOf3 rfl rfl) ?_
 refine Head.done ?_
 refine Seq.o ?_
 refine OpTo.store (T := 3) (ty := 0) (x := (.tmp 70)) (y := (.tmp 68)) (p := (.pointer (some ⟨b63, (o63 + 5), none⟩))) (v := (.int .i64 (x65 + (n66 : Int)))) (gd := none) (by kernel_rfl) rfl rfl rfl (h.mono (fun _ σ1 h2 => ?_)); replace h := h2; clear h2
 refine Seq.done ?_
 exact At.doneV (rs := []) (vs := []) func44 (by kernel_rfl) rfl h
end wal_Wal_Append_1
namespace wal_Wal_has
abbrev fid : Nat := 45
noncomputable def K0 := f45.body.getD .skip
def K1 := cl K0
def K2 := cr K0
def K3 := cl K2
def K4 := cr K2
abbrev gl (R : Ending → Hp → Prop) : Gl := Gl.fn prog 45 28 R
theorem start {R : Ending → Hp → Prop} {q0 : Option Addr} {σ : Hp} (h : ∃ (b4 o4 : Nat), q0 = some ⟨b4, o4, none⟩ ∧ ∃ p6 : Option Addr, ∃ n6 : Nat, ∃ c6 : Nat, Hp.ld σ ⟨b4, (o4 + 3), none⟩ = some (.slice p6 n6 c6) ∧ ((0 : Int) < (n6 : Int) → ∃ p13 : Option Addr, ∃ n13 : Nat, ∃ c13 : Nat, Hp.ld σ ⟨b4, (o4 + 3), none⟩ = some (.slice p13 n13 c13) ∧ ∃ p17 : Option Addr, ∃ n17 : Nat, ∃ c17 : Nat, Hp.ld σ ⟨b4, (o4 + 3), none⟩ = some (.slice p17 n17 c17) ∧ I64 ((n17 : Int) - 1) ∧ ∃ (b20 o20 : Nat), p13 = some ⟨b20, o20, none⟩ ∧ ((0 : Int) ≤ ((n17 : Int) - 1) ∧ ((n17 : Int) - 1) < (n13 : Int)) ∧ ∃ x21 : Int, Hp.ld σ ⟨b20, (o20 + Int.toNat ((n17 : Int) - 1) * 1), none⟩ = some (.int .i64 x21) ∧ ∃ x25 : Int, Hp.ld σ ⟨b4, (o4 + 4), none⟩ = some (.int .i64 x25) ∧ R (.returned (.bool (decide ((x21 : Int) = x25)))) σ) ∧ (¬ ((0 : Int) < (n6 : Int)) → R (.returned (.bool false)) σ)) : Spec prog 45 #[(.pointer q0)] σ R := by
 refine Spec.of_at (fn := f45) (c := K0) func45 (by kernel_rfl) (Nat.le_of_ble_eq_true (by kernel_rfl)) (fun e he => ?_)
 refine At.ofL (l := [(0, (.pointer q0))]) ⟨he 0, trivial⟩ (fun J => ?_)
 show At (gl R) _ _ _ _
 refine At.s K1 K2 ?_
 refine At.rg 0 [0] ?_
 refine Seq.u 2 (.bool false) ?_
 refine Seq.done ?_
 refine At.s K3 K4 ?_
 refine At.draw (id := 1) (ops := cO K3) (n := 26) (q := none) (plan := [(0, true), (1, true), (2, true), (3, true), (4, true), (5, true), (6, true), (7, true), (8, true), (9, true), (10, true), (11, true), (12, true), (13, true), (14, true), (15, true), (16, true), (17, true), (18, true), (19, true), (20, true), (21, true), (22, true), (23, true), (24, true), (25, true)]) (tl := []) mixed (by kernel_rfl) (by kernel_rfl) ?_
 refine Head.u 3 (.pointer q0) ?_
 obtain ⟨b4, o4, hq, h⟩ := h
 subst hq
 refine Head.z 4 (.nilCheck (.tmp 3)) 0 (.pointer (some ⟨b4, o4, none⟩)) (Y.nilCheck rfl) ?_
 refine Head.z 5 (.fieldAddr 71 (.tmp 4) 3) 0 (.pointer (some ⟨b4, (o4 + 3), none⟩)) (Y.fieldAddr (fd := (fieldOf prog 71 3)) underlying71 (by kernel_rfl) sizeOf64 rfl rfl) ?_
 obtain ⟨p6, n6, c6, hl, h⟩ := h
 refine Head.z 6 (.load 64 (.tmp 5)) 64 (.slice p6 n6 c6) (Y.ld isAgg64 rfl hl) ?_
 refine Head.z 7 (.call { callee := .builtin .len, args := #[(.tmp 6)], argTypes := #[64] }) 3 (.int .i64 (n6 : Int)) (Y.lenS underlying64 rfl rfl) ?_
 refine Head.u 8 (.bool (decide ((0 : Int) < (n6 : Int)))) ?_
 refine Head.u 9 (.bool (decide ((0 : Int) < (n6 : Int)))) ?_
 cases hb : (decide ((0 : Int) < (n6 : Int))) with
 | true =>
  replace h := h.1 (of_decide_eq_true hb)
  refine Head.u 10 (.pointer (some ⟨b4, o4, none⟩)) ?_
  refine Head.zg 11 (.nilCheck (.tmp 10)) 0 (6, true) (.pointer (some ⟨b4, o4, none⟩)) (Y.nilCheck rfl) ?_
  refine Head.zg 12 (.fieldAddr 71 (.tmp 11) 3) 0 (6, true) (.pointer (some ⟨b4, (o4 + 3), none⟩)) (Y.fieldAddr (fd := (fieldOf prog 71 3)) underlying71 (by kernel_rfl) sizeOf64 rfl rfl) ?_
  obtain ⟨p13, n13, c13, hl, h⟩ := h
  refine Head.zg 13 (.load 64 (.tmp 12)) 64 (6, true) (.slice p13 n13 c13) (Y.ld isAgg64 rfl hl) ?_
  refine Head.u 14 (.pointer (some ⟨b4, o4, none⟩)) ?_
  refine Head.zg 15 (.nilCheck (.tmp 14)) 0 (6, true) (.pointer (some ⟨b4, o4, none⟩)) (Y.nilCheck rfl) ?_
  refine Head.zg 16 (.fieldAddr 71 (.tmp 15) 3) 0 (6, true) (.pointer (some ⟨b4, (o4 + 3), none⟩)) (Y.fieldAddr (fd := (fieldOf prog 71 3)) underlying71 (by kernel_rfl) sizeOf64 rfl rfl) ?_
  obtain ⟨p17, n17, c17, hl, h⟩ := h
  refine Head.zg 17 (.load 64 (.tmp 16)) 64 (6, true) (.slice p17 n17 c17) (Y.ld isAgg64 rfl hl) ?_
  refine Head.zg 18 (.call { callee := .builtin .len, args := #[(.tmp 17)], argTypes := #[64] }) 3 (6, true) (.int .i64 (n17 : Int)) (Y.lenS underlying64 rfl rfl) ?_
  obtain ⟨hi, h⟩ := h
  refine Head.zg 19 (.binOp .sub 3 (.tmp 18) (.const (.int .i64 1)) 3) 3 (6, true) (.int .i64 ((n17 : Int) - 1)) (Y.subI hi rfl rfl) ?_
  obtain ⟨b20, o20, hq, h⟩ := h
  subst hq
  obtain ⟨hi, h⟩ := h
  refine Head.zg 20 (.indexAddr 64 (.tmp 13) (.tmp 19)) 0 (6, true) (.pointer (some ⟨b20, (o20 + Int.toNat ((n17 : Int) - 1) * 1), none⟩)) (Y.idx underlying64 sizeOf3 rfl rfl hi rfl) ?_
  obtain ⟨x21, hl, h⟩ := h
  refine Head.zg 21 (.load 3 (.tmp 20)) 3 (6, true) (.int .i64 x21) (Y.ld isAgg3 rfl hl) ?_
  refine Head.u 22 (.pointer (some ⟨b4, o4, none⟩)) ?_
  refine Head.zg 23 (.nilCheck (.tmp 22)) 0 (6, true) (.pointer (some ⟨b4, o4, none⟩)) (Y.nilCheck rfl) ?_
  refine Head.zg 24 (.fieldAddr 71 (.tmp 23) 4) 0 (6, true) (.pointer (some ⟨b4, (o4 + 4), none⟩)) (Y.fieldAddr (fd := (fieldOf prog 71 4)) underlying71 (by kernel_rfl) sizeOf3 rfl rfl) ?_
  obtain ⟨x25, hl, h⟩ := h
  refine Head.zg 25 (.load 3 (.tmp 24)) 3 (6, true) (.int .i64 x25) (Y.ld isAgg3 rfl hl) ?_
  refine Head.u 26 (.bool (decide ((x21 : Int) = x25))) ?_
  refine Head.u 27 (.bool (decide ((x21 : Int) = x25))) ?_
  refine Head.u 2 (.bool (decide ((x21 : Int) = x25))) ?_
  refine Head.done ?_
  refine Seq.done ?_
  exact At.rt [.tmp 2] [(.bool (decide ((x21 : Int) = x25)))] func45 ⟨_, rfl, rfl⟩ h
 | false =>
  replace h := h.2 (of_decide_eq_false hb)
  refine Head.n 10 ?_
  refine Head.n 11 ?_
  refine Head.n 12 ?_
  refine Head.n 13 ?_
  refine Head.n 14 ?_
  refine Head.n 15 ?_
  refine Head.n 16 ?_
  refine Head.n 17 ?_
  refine Head.n 18 ?_
  refine Head.n 19 ?_
  refine Head.n 20 ?_
  refine Head.n 21 ?_
  refine Head.n 22 ?_
  refine Head.n 23 ?_
  refine Head.n 24 ?_
  refine Head.n 25 ?_
  refine Head.n 26 ?_
  refine Head.u 27 (.bool false) ?_
  refine Head.u 2 (.bool false) ?_
  refine Head.done ?_
  refine Seq.done ?_
  refine At.L [(2, (.bool false))] fun J => ?_
  exact At.rt [.tmp 2] [(.bool false)] func45 ⟨_, rfl, rfl⟩ h
end wal_Wal_has

end
end TwW
end
