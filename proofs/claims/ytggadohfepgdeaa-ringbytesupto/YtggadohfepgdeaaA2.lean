/-
  Part 2 of the proof that the law RingBytesUptoSaid of the given program answers true for every input of the given statement; the input reads behind the call as it did. (The texts: GB GB GA GA GA.)
-/
import Derived.Test.YtggadohfepgdeaaA1
set_option linter.all false
section
/- written by gen.py: program points and what leads to them -/
set_option linter.unusedVariables false
set_option maxRecDepth 100000
namespace TwR
open Go Tw Go.Proofs.Try
namespace ring_circle
abbrev fid : Nat := 33
noncomputable def K0 : Code := f33.body.getD .skip
noncomputable def K1 := Tw.cl K0
noncomputable def K2 := Tw.cr K0
noncomputable def K3 := Tw.cl K2
noncomputable def K4 := Tw.cr K2
noncomputable def K5 := Tw.cl K4
noncomputable def K6 := Tw.cl K5
noncomputable def K7 := Tw.cr K5
noncomputable def K8 := Tw.cl K7
noncomputable def K9 := Tw.cl K8
noncomputable def K10 := Tw.cl K9
noncomputable def K11 := Tw.cr K9
noncomputable def K12 := Tw.cl K11
noncomputable def K13 := Tw.cl K12
noncomputable def K14 := Tw.cr K12
noncomputable def K15 := Tw.cr K11
noncomputable def K16 := Tw.cl K15
noncomputable def K17 := Tw.cl K16
noncomputable def K18 := Tw.cl K17
noncomputable def K19 := Tw.cr K17
noncomputable def K20 := Tw.cl K19
noncomputable def K21 := Tw.cr K19
noncomputable def K22 := Tw.cl K21
noncomputable def K23 := Tw.cl K22
noncomputable def K24 := Tw.cl K23
noncomputable def K25 := Tw.cr K23
noncomputable def K26 := Tw.cl K25
noncomputable def K27 := Tw.cl K26
noncomputable def K28 := Tw.cr K26
noncomputable def K29 := Tw.cr K25
noncomputable def K30 := Tw.cl K29
noncomputable def K31 := Tw.cl K30
noncomputable def K32 := Tw.cl K31
noncomputable def K33 := Tw.cr K31
noncomputable def K34 := Tw.cl K33
noncomputable def K35 := Tw.cr K33
noncomputable def K36 := Tw.cl K35
noncomputable def K37 := Tw.cr K35
noncomputable def K38 := Tw.cr K29
noncomputable def K39 := Tw.cr K15
noncomputable def K40 := Tw.cr K4
noncomputable def K41 := Tw.cl K40
noncomputable def K42 := Tw.cr K40
noncomputable def K43 := Tw.cl K42
noncomputable def K44 := Tw.cr K42
noncomputable def K45 := Tw.cl K44
noncomputable def K46 := Tw.cl K45
noncomputable def K47 := Tw.cl K46
noncomputable def K48 := Tw.cl K47
noncomputable def K49 := Tw.cl K48
noncomputable def K50 := Tw.cr K48
noncomputable def K51 := Tw.cl K50
noncomputable def K52 := Tw.cr K50
noncomputable def K53 := Tw.cr K47
noncomputable def K54 := Tw.cl K53
noncomputable def K55 := Tw.cr K44
noncomputable def K56 := Tw.cl K55
noncomputable def K57 := Tw.cr K55
noncomputable abbrev gl (R : Ending → Hp → Prop) : Gl := Gl.fn prog 33 55 R
def pt10 (R : Ending → Hp → Prop) (x1 : Int) (b5 : Nat) (p12 : Option Addr) (n12 : Nat) (c12 : Nat) (x13 : Int) (x14 : Int) (σ : Hp) : Prop := ∀ (J : Env), At (gl R) [.code K10, .code K11, .inLoop K9, .inBlock 0, .code K40] (upds J [(1, (.int .u32 x1)), (5, (.pointer (some ⟨b5, 0, none⟩))), (12, (.slice p12 n12 c12)), (13, (.int .i64 x13)), (14, (.int .i64 x14))]) [] σ
def pt49 (R : Ending → Hp → Prop) (x1 : Int) (b5 : Nat) (b10 : Nat) (σ : Hp) : Prop := ∀ (J : Env), At (gl R) [.code K49, .code K50, .code K53, .inLoop K47, .inBlock 4, .code K55] (upds J [(1, (.int .u32 x1)), (5, (.pointer (some ⟨b5, 0, none⟩))), (10, (.pointer (some ⟨b10, 0, none⟩)))]) [] σ
def pt24 (R : Ending → Hp → Prop) (x1 : Int) (b5 : Nat) (x7a : Int) (x7b : Int) (p7c : Option Addr) (n7c : Nat) (c7c : Nat) (p12 : Option Addr) (n12 : Nat) (c12 : Nat) (x13 : Int) (x14 : Int) (p19 : Option Addr) (n19 : Nat) (c19 : Nat) (x20 : Int) (x21 : Int) (σ : Hp) : Prop := ∀ (J : Env) (b7 : Nat), At (gl R) [.code K24, .code K25, .inLoop K23, .inBlock 2, .inBlock 1, .code K39, .inLoop K9, .inBlock 0, .code K40] (upds J [(1, (.int .u32 x1)), (5, (.pointer (some ⟨b5, 0, none⟩))), (7, (.pointer (some ⟨b7, 0, none⟩))), (12, (.slice p12 n12 c12)), (13, (.int .i64 x13)), (14, (.int .i64 x14)), (19, (.slice p19 n19 c19)), (20, (.int .i64 x20)), (21, (.int .i64 x21))]) [(b7, .cells #[(.int .i64 x7a), (.int .i64 x7b), (.slice p7c n7c c7c)] 55 (0, 0))] σ
def pt38 (R : Ending → Hp → Prop) (x1 : Int) (b5 : Nat) (x7a : Int) (x7b : Int) (p7c : Option Addr) (n7c : Nat) (c7c : Nat) (p12 : Option Addr) (n12 : Nat) (c12 : Nat) (x13 : Int) (x14 : Int) (p19 : Option Addr) (n19 : Nat) (c19 : Nat) (x20 : Int) (x21 : Int) (σ : Hp) : Prop := ∀ (J : Env) (b7 : Nat), At (gl R) [.code K38, .inLoop K23, .inBlock 2, .inBlock 1, .code K39, .inLoop K9, .inBlock 0, .code K40] (upds J [(1, (.int .u32 x1)), (5, (.pointer (some ⟨b5, 0, none⟩))), (7, (.pointer (some ⟨b7, 0, none⟩))), (12, (.slice p12 n12 c12)), (13, (.int .i64 x13)), (14, (.int .i64 x14)), (19, (.slice p19 n19 c19)), (20, (.int .i64 x20)), (21, (.int .i64 x21))]) [(b7, .cells #[(.int .i64 x7a), (.int .i64 x7b), (.slice p7c n7c c7c)] 55 (0, 0))] σ
theorem start {R : Ending → Hp → Prop} {x0a : Int} {p0b : Option Addr} {n0b : Nat} {c0b : Nat} {x1 : Int} {σ : Hp} (h : ∀ b5 : Nat, σ b5 = none → pt10 R x1 b5 p0b n0b c0b ((n0b : Int)) 0 (Hp.set σ b5 (.cells #[(.slice none 0 0)] 79 (0, 0)))) : Spec prog 33 #[(.agg #[(.int .u64 x0a), (.slice p0b n0b c0b)]), (.int .u32 x1)] σ R := by
 refine Spec.of_at (fn := f33) (c := K0) func33 (by kernel_rfl) (Nat.le_of_ble_eq_true (by kernel_rfl)) (fun e he => ?_)
 refine At.ofL (l := [(0, (.agg #[(.int .u64 x0a), (.slice p0b n0b c0b)])), (1, (.int .u32 x1))]) ⟨he 0, he 1, trivial⟩ (fun J => ?_)
 show At (gl R) _ _ _ _
 refine At.s K1 K2 ?_
 refine At.rg 0 [0, 1] ?_
 refine Seq.o ?_
 refine OpTo.box (T := 25) (d := (some 2)) (ty := 0) (x := (.tmp 0)) (gd := none) (cs := #[(.int .u64 x0a), (.slice p0b n0b c0b)]) (by kernel_rfl) rfl rfl rfl (fun b2 => ?_)
 refine Seq.u 4 .nilFunc ?_
 refine Seq.done ?_
 refine At.L [(1, (.int .u32 x1)), (2, (.pointer (some ⟨b2, 0, none⟩)))] fun J => ?_
 refine At.s K3 K4 ?_
 refine At.rg 1 [0] ?_
 refine Seq.o ?_
 refine OpTo.allocO (T := 79) (d := (some 5)) (ty := 0)  (gd := none) (cs := #[(.slice none 0 0)]) (by kernel_rfl) rfl rfl zeroValue79 rfl (fun b5 hn => ?_)
 replace h := h b5 hn
 refine Seq.done ?_
 refine At.L [(1, (.int .u32 x1)), (2, (.pointer (some ⟨b2, 0, none⟩))), (5, (.pointer (some ⟨b5, 0, none⟩)))] fun J => ?_
 refine At.s K5 K40 ?_
 refine At.s K6 K7 ?_
 refine At.rg 2 [0, 1, 2, 3] ?_
 refine Seq.z 11 (.fieldAddr 25 (.tmp 2) 1) 0 (.pointer (some ⟨b2, 1, none⟩)) (Y.fieldAddr (fd := (fieldOf prog 25 1)) underlying25 (by kernel_rfl) sizeOf23 rfl rfl) ?_
 refine Seq.z 12 (.load 23 (.tmp 11)) 23 (.slice p0b n0b c0b) (Y.ldb isAgg23 rfl (List.mem_cons_self ..) rfl) ?_
 refine Seq.z 13 (.call { callee := .builtin .len, args := #[(.tmp 12)], argTypes := #[23] }) 3 (.int .i64 (n0b : Int)) (Y.lenS underlying23 rfl rfl) ?_
 refine Seq.u 14 (.int .i64 0) ?_
 refine Seq.done ?_
 refine At.L [(1, (.int .u32 x1)), (5, (.pointer (some ⟨b5, 0, none⟩))), (12, (.slice p0b n0b c0b)), (13, (.int .i64 (n0b : Int))), (14, (.int .i64 0))] fun J => ?_
 refine At.b 0 K8 ?_
 refine At.loop (x := K9) (by kernel_rfl) ?_
 refine At.s K10 K11 ?_
 refine At.sub (bx' := []) (.cons _ .slnil) ?_
 exact At.v [(1, (.int .u32 x1)), (5, (.pointer (some ⟨b5, 0, none⟩))), (12, (.slice p0b n0b c0b)), (13, (.int .i64 (n0b : Int))), (14, (.int .i64 0))] (h _)
theorem pt10_of {R : Ending → Hp → Prop} {x1 : Int} {b5 : Nat} {p12 : Option Addr} {n12 : Nat} {c12 : Nat} {x13 : Int} {x14 : Int} {σ : Hp} (h : ((x14 : Int) < x13 → ∃ (b16 o16 : Nat), p12 = some ⟨b16, o16, none⟩ ∧ ((0 : Int) ≤ x14 ∧ x14 < (n12 : Int)) ∧ ∃ x17a : Int, ∃ x17b : Int, ∃ p17c : Option Addr, ∃ n17c : Nat, ∃ c17c : Nat, LdL σ b16 (o16 + Int.toNat x14 * 3) [(.int .i64 x17a), (.int .i64 x17b), (.slice p17c n17c c17c)] ∧ pt24 R x1 b5 x17a x17b p17c n17c c17c ((some ⟨b16, o16, none⟩)) n12 c12 x13 x14 p17c n17c c17c ((n17c : Int)) 0 σ) ∧ (¬ ((x14 : Int) < x13) → ∃ p37 : Option Addr, ∃ n37 : Nat, ∃ c37 : Nat, Hp.ld σ ⟨b5, 0, none⟩ = some (.slice p37 n37 c37) ∧ Spec prog 54 #[(.slice p37 n37 c37), (.func (.func 55) #[] #[])] σ (Cont R (fun v σ1 => v = (.tuple #[]) ∧ ∀ b10 : Nat, σ1 b10 = none → Eff prog (Instr.storeAt 3 (.pointer (some ⟨b10, 0, none⟩)) (.int .i64 0)) (Hp.set σ1 b10 (.cells #[(.int .i64 0)] 3 (0, 0))) (fun _ σ1_2 => pt49 R x1 b5 b10 σ1_2))))) : pt10 R x1 b5 p12 n12 c12 x13 x14 σ := by
 intro J
 show At (gl R) _ _ _ _
 refine At.rg 3 [0] ?_
 refine Seq.u 15 (.bool (decide ((x14 : Int) < x13))) ?_
 refine Seq.done ?_
 refine At.L [(1, (.int .u32 x1)), (5, (.pointer (some ⟨b5, 0, none⟩))), (12, (.slice p12 n12 c12)), (13, (.int .i64 x13)), (14, (.int .i64 x14)), (15, (.bool (decide ((x14 : Int) < x13))))] fun J => ?_
 refine At.s K12 K15 ?_
 cases hb : (decide ((x14 : Int) < x13)) with
 | true =>
  replace h := h.1 (of_decide_eq_true hb)
  refine At.cT 15 K13 K14 ?_
  refine At.skip ?_
  refine At.s K16 K39 ?_
  refine At.b 1 K17 ?_
  refine At.s K18 K19 ?_
  refine At.rg 4 [0, 1, 2, 3] ?_
  obtain ⟨b16, o16, hq, h⟩ := h
  subst hq
  obtain ⟨hi, h⟩ := h
  refine Seq.z 16 (.indexAddr 23 (.tmp 12) (.tmp 14)) 0 (.pointer (some ⟨b16, (o16 + Int.toNat x14 * 3), none⟩)) (Y.idx underlying23 sizeOf55 rfl rfl hi rfl) ?_
  obtain ⟨x17a, x17b, p17c, n17c, c17c, hl, h⟩ := h
  refine Seq.z 17 (.load 55 (.tmp 16)) 55 (.agg #[(.int .i64 x17a), (.int .i64 x17b), (.slice p17c n17c c17c)]) (Y.lda isAgg55 sizeOf55 rfl rfl hl) ?_
  refine Seq.o ?_
  refine OpTo.alloc (T := 55) (d := (some 7)) (ty := 0)  (gd := none) (cs := #[(.int .i64 0), (.int .i64 0), (.slice none 0 0)]) (by kernel_rfl) rfl rfl zeroValue55 rfl (fun b7 => ?_)
  refine Seq.o ?_
  refine OpTo.storeb (T := 55) (ty := 0) (x := (.tmp 7)) (y := (.tmp 17)) (t := 55) (j := 0) (b := b7) (o := 0) (c' := #[(.int .i64 x17a), (.int .i64 x17b), (.slice p17c n17c c17c)]) (v := (.agg #[(.int .i64 x17a), (.int .i64 x17b), (.slice p17c n17c c17c)])) (gd := none) (by kernel_rfl) rfl sizeOf55 rfl rfl rfl rfl rfl rfl rfl ?_
  simp only [List.set]
  refine Seq.done ?_
  refine At.L [(1, (.int .u32 x1)), (5, (.pointer (some ⟨b5, 0, none⟩))), (7, (.pointer (some ⟨b7, 0, none⟩))), (12, (.slice (some ⟨b16, o16, none⟩) n12 c12)), (13, (.int .i64 x13)), (14, (.int .i64 x14))] fun J => ?_
  refine At.s K20 K21 ?_
  refine At.rg 5 [0, 1, 2, 3] ?_
  refine Seq.z 18 (.fieldAddr 55 (.tmp 7) 2) 0 (.pointer (some ⟨b7, 2, none⟩)) (Y.fieldAddr (fd := (fieldOf prog 55 2)) underlying55 (by kernel_rfl) sizeOf53 rfl rfl) ?_
  refine Seq.z 19 (.load 53 (.tmp 18)) 53 (.slice p17c n17c c17c) (Y.ldb isAgg53 rfl (List.mem_cons_self ..) rfl) ?_
  refine Seq.z 20 (.call { callee := .builtin .len, args := #[(.tmp 19)], argTypes := #[53] }) 3 (.int .i64 (n17c : Int)) (Y.lenS underlying53 rfl rfl) ?_
  refine Seq.u 21 (.int .i64 0) ?_
  refine Seq.done ?_
  refine At.L [(1, (.int .u32 x1)), (5, (.pointer (some ⟨b5, 0, none⟩))), (7, (.pointer (some ⟨b7, 0, none⟩))), (12, (.slice (some ⟨b16, o16, none⟩) n12 c12)), (13, (.int .i64 x13)), (14, (.int .i64 x14)), (19, (.slice p17c n17c c17c)), (20, (.int .i64 (n17c : Int))), (21, (.int .i64 0))] fun J => ?_
  refine At.b 2 K22 ?_
  refine At.loop (x := K23) (by kernel_rfl) ?_
  refine At.s K24 K25 ?_
  exact At.v [(1, (.int .u32 x1)), (5, (.pointer (some ⟨b5, 0, none⟩))), (7, (.pointer (some ⟨b7, 0, none⟩))), (12, (.slice (some ⟨b16, o16, none⟩) n12 c12)), (13, (.int .i64 x13)), (14, (.int .i64 x14)), (19, (.slice p17c n17c c17c)), (20, (.int .i64 (n17c : Int))), (21, (.int .i64 0))] (h _ b7)
 | false =>
  replace h := h.2 (of_decide_eq_false hb)
  refine At.cF 15 K13 K14 ?_
  refine At.x 0 [.code K40] ?_
  refine At.s K41 K42 ?_
  refine At.rg 12 [0, 1] ?_
  obtain ⟨p37, n37, c37, hl, h⟩ := h
  refine Seq.z 37 (.load 79 (.tmp 5)) 79 (.slice p37 n37 c37) (Y.ld isAgg79 rfl hl) ?_
  refine Seq.o ?_
  refine OpTo.cl (some 38) call54 (h.cont fun v σ1 h2 => ?_); replace h := h2; clear h2
  obtain ⟨rfl, h⟩ := h
  refine Seq.done ?_
  refine At.L [(1, (.int .u32 x1)), (5, (.pointer (some ⟨b5, 0, none⟩)))] fun J => ?_
  refine At.s K43 K44 ?_
  refine At.rg 13 [0, 1] ?_
  refine Seq.o ?_
  refine OpTo.allocO (T := 3) (d := (some 10)) (ty := 0)  (gd := none) (cs := #[(.int .i64 0)]) (by kernel_rfl) rfl rfl zeroValue3 rfl (fun b10 hn => ?_)
  replace h := h b10 hn
  refine Seq.o ?_
  refine OpTo.store (T := 3) (ty := 0) (x := (.tmp 10)) (y := (.const (.int .i64 0))) (p := (.pointer (some ⟨b10, 0, none⟩))) (v := (.int .i64 0)) (gd := none) (by kernel_rfl) rfl rfl rfl (h.mono (fun _ σ1_2 h2 => ?_)); replace h := h2; clear h2
  refine Seq.done ?_
  refine At.L [(1, (.int .u32 x1)), (5, (.pointer (some ⟨b5, 0, none⟩))), (10, (.pointer (some ⟨b10, 0, none⟩)))] fun J => ?_
  refine At.s K45 K55 ?_
  refine At.b 4 K46 ?_
  refine At.loop (x := K47) (by kernel_rfl) ?_
  refine At.s K48 K53 ?_
  refine At.s K49 K50 ?_
  exact At.v [(1, (.int .u32 x1)), (5, (.pointer (some ⟨b5, 0, none⟩))), (10, (.pointer (some ⟨b10, 0, none⟩)))] (h _)
theorem pt49_of {R : Ending → Hp → Prop} {x1 : Int} {b5 : Nat} {b10 : Nat} {σ : Hp} (h : ∃ x39 : Int, Hp.ld σ ⟨b10, 0, none⟩ = some (.int .i64 x39) ∧ ∃ p40 : Option Addr, ∃ n40 : Nat, ∃ c40 : Nat, Hp.ld σ ⟨b5, 0, none⟩ = some (.slice p40 n40 c40) ∧ ((x39 : Int) < (n40 : Int) → ∃ p44 : Option Addr, ∃ n44 : Nat, ∃ c44 : Nat, Hp.ld σ ⟨b5, 0, none⟩ = some (.slice p44 n44 c44) ∧ ∃ x45 : Int, Hp.ld σ ⟨b10, 0, none⟩ = some (.int .i64 x45) ∧ ∃ (b46 o46 : Nat), p44 = some ⟨b46, o46, none⟩ ∧ ((0 : Int) ≤ x45 ∧ x45 < (n44 : Int)) ∧ ∃ x48 : Int, Hp.ld σ ⟨b46, (o46 + Int.toNat x45 * 2), none⟩ = some (.int .u32 x48) ∧ ((x48 : Int) < x1 → ∃ x52 : Int, Hp.ld σ ⟨b10, 0, none⟩ = some (.int .i64 x52) ∧ I64 (x52 + 1) ∧ Eff prog (Instr.storeAt 3 (.pointer (some ⟨b10, 0, none⟩)) (.int .i64 (x52 + 1))) σ (fun _ σ1 => pt49 R x1 b5 b10 σ1)) ∧ (¬ ((x48 : Int) < x1) → R (.returned (.func (.func 59) #[] #[(.pointer (some ⟨b5, 0, none⟩)), (.pointer (some ⟨b10, 0, none⟩))])) σ)) ∧ (¬ ((x39 : Int) < (n40 : Int)) → R (.returned (.func (.func 59) #[] #[(.pointer (some ⟨b5, 0, none⟩)), (.pointer (some ⟨b10, 0, none⟩))])) σ)) : pt49 R x1 b5 b10 σ := by
 intro J
 show At (gl R) _ _ _ _
 refine At.rg 14 [0, 1, 2, 3, 4, 5, 6, 7, 8, 9, 10, 11, 12] ?_
 obtain ⟨x39, hl, h⟩ := h
 refine Seq.z 39 (.load 3 (.tmp 10)) 3 (.int .i64 x39) (Y.ld isAgg3 rfl hl) ?_
 obtain ⟨p40, n40, c40, hl, h⟩ := h
 refine Seq.z 40 (.load 79 (.tmp 5)) 79 (.slice p40 n40 c40) (Y.ld isAgg79 rfl hl) ?_
 refine Seq.z 41 (.call { callee := .builtin .len, args := #[(.tmp 40)], argTypes := #[79] }) 3 (.int .i64 (n40 : Int)) (Y.lenS underlying79 rfl rfl) ?_
 refine Seq.u 42 (.bool (decide ((x39 : Int) < (n40 : Int)))) ?_
 refine Seq.u 43 (.bool (decide ((x39 : Int) < (n40 : Int)))) ?_
 cases hb : (decide ((x39 : Int) < (n40 : Int))) with
 | true =>
  replace h := h.1 (of_decide_eq_true hb)
  obtain ⟨p44, n44, c44, hl, h⟩ := h
  refine Seq.zg 44 (.load 79 (.tmp 5)) 79 (4, true) (.slice p44 n44 c44) (Y.ld isAgg79 rfl hl) ?_
  obtain ⟨x45, hl, h⟩ := h
  refine Seq.zg 45 (.load 3 (.tmp 10)) 3 (4, true) (.int .i64 x45) (Y.ld isAgg3 rfl hl) ?_
  obtain ⟨b46, o46, hq, h⟩ := h
  subst hq
  obtain ⟨hi, h⟩ := h
  refine Seq.zg 46 (.indexAddr 79 (.tmp 44) (.tmp 45)) 0 (4, true) (.pointer (some ⟨b46, (o46 + Int.toNat x45 * 2), none⟩)) (Y.idx underlying79 sizeOf81 rfl rfl hi rfl) ?_
  refine Seq.zg 47 (.fieldAddr 81 (.tmp 46) 0) 0 (4, true) (.pointer (some ⟨b46, (o46 + Int.toNat x45 * 2), none⟩)) (Y.fieldAddr (fd := (fieldOf prog 81 0)) underlying81 (by kernel_rfl) sizeOf26 rfl rfl) ?_
  obtain ⟨x48, hl, h⟩ := h
  refine Seq.zg 48 (.load 26 (.tmp 47)) 26 (4, true) (.int .u32 x48) (Y.ld isAgg26 rfl hl) ?_
  refine Seq.u 49 (.int .u32 x1) ?_
  refine Seq.u 50 (.bool (decide ((x48 : Int) < x1))) ?_
  refine Seq.u 51 (.bool (decide ((x48 : Int) < x1))) ?_
  refine Seq.done ?_
  refine At.L [(1, (.int .u32 x1)), (5, (.pointer (some ⟨b5, 0, none⟩))), (10, (.pointer (some ⟨b10, 0, none⟩))), (51, (.bool (decide ((x48 : Int) < x1))))] fun J => ?_
  cases hb : (decide ((x48 : Int) < x1)) with
  | true =>
   replace h := h.1 (of_decide_eq_true hb)
   refine At.cT 51 K51 K52 ?_
   refine At.skip ?_
   refine At.b 5 K54 ?_
   refine At.rg 15 [0, 1, 2] ?_
   obtain ⟨x52, hl, h⟩ := h
   refine Seq.z 52 (.load 3 (.tmp 10)) 3 (.int .i64 x52) (Y.ld isAgg3 rfl hl) ?_
   obtain ⟨hi, h⟩ := h
   refine Seq.z 53 (.binOp .add 3 (.tmp 52) (.const (.int .i64 1)) 3) 3 (.int .i64 (x52 + 1)) (Y.addI hi rfl rfl) ?_
   refine Seq.o ?_
   refine OpTo.store (T := 3) (ty := 0) (x := (.tmp 10)) (y := (.tmp 53)) (p := (.pointer (some ⟨b10, 0, none⟩))) (v := (.int .i64 (x52 + 1))) (gd := none) (by kernel_rfl) rfl rfl rfl (h.mono (fun _ σ1 h2 => ?_)); replace h := h2; clear h2
   refine Seq.done ?_
   refine At.L [(1, (.int .u32 x1)), (5, (.pointer (some ⟨b5, 0, none⟩))), (10, (.pointer (some ⟨b10, 0, none⟩)))] fun J => ?_
   refine At.inBlock ?_
   refine At.inLoop ?_
   refine At.s K48 K53 ?_
   refine At.s K49 K50 ?_
   exact At.v [(1, (.int .u32 x1)), (5, (.pointer (some ⟨b5, 0, none⟩))), (10, (.pointer (some ⟨b10, 0, none⟩)))] (h _)
  | false =>
   replace h := h.2 (of_decide_eq_false hb)
   refine At.cF 51 K51 K52 ?_
   refine At.x 4 [.code K55] ?_
   refine At.s K56 K57 ?_
   refine At.rg 16 [0, 1] ?_
   refine Seq.z 54 (.makeFunc (.func 59) #[] #[(.tmp 5), (.tmp 10)]) 58 (.func (.func 59) #[] #[(.pointer (some ⟨b5, 0, none⟩)), (.pointer (some ⟨b10, 0, none⟩))]) (Y.makeFunc rfl rfl) ?_
   refine Seq.u 4 (.func (.func 59) #[] #[(.pointer (some ⟨b5, 0, none⟩)), (.pointer (some ⟨b10, 0, none⟩))]) ?_
   refine Seq.done ?_
   refine At.L [(4, (.func (.func 59) #[] #[(.pointer (some ⟨b5, 0, none⟩)), (.pointer (some ⟨b10, 0, none⟩))]))] fun J => ?_
   exact At.rt [.tmp 4] [(.func (.func 59) #[] #[(.pointer (some ⟨b5, 0, none⟩)), (.pointer (some ⟨b10, 0, none⟩))])] func33 ⟨_, rfl, rfl⟩ h
 | false =>
  replace h := h.2 (of_decide_eq_false hb)
  refine Seq.n 44 ?_
  refine Seq.n 45 ?_
  refine Seq.n 46 ?_
  refine Seq.n 47 ?_
  refine Seq.n 48 ?_
  refine Seq.n 49 ?_
  refine Seq.n 50 ?_
  refine Seq.u 51 (.bool false) ?_
  refine Seq.done ?_
  refine At.L [(1, (.int .u32 x1)), (5, (.pointer (some ⟨b5, 0, none⟩))), (10, (.pointer (some ⟨b10, 0, none⟩))), (51, (.bool false))] fun J => ?_
  refine At.cF 51 K51 K52 ?_
  refine At.x 4 [.code K55] ?_
  refine At.s K56 K57 ?_
  refine At.rg 16 [0, 1] ?_
  refine Seq.z 54 (.makeFunc (.func 59) #[] #[(.tmp 5), (.tmp 10)]) 58 (.func (.func 59) #[] #[(.pointer (some ⟨b5, 0, none⟩)), (.pointer (some ⟨b10, 0, none⟩))]) (Y.makeFunc rfl rfl) ?_
  refine Seq.u 4 (.func (.func 59) #[] #[(.pointer (some ⟨b5, 0, none⟩)), (.pointer (some ⟨b10, 0, none⟩))]) ?_
  refine Seq.done ?_
  refine At.L [(4, (.func (.func 59) #[] #[(.pointer (some ⟨b5, 0, none⟩)), (.pointer (some ⟨b10, 0, none⟩))]))] fun J => ?_
  exact At.rt [.tmp 4] [(.func (.func 59) #[] #[(.pointer (some ⟨b5, 0, none⟩)), (.pointer (some ⟨b10, 0, none⟩))])] func33 ⟨_, rfl, rfl⟩ h
theorem pt24_of {R : Ending → Hp → Prop} {x1 : Int} {b5 : Nat} {x7a : Int} {x7b : Int} {p7c : Option Addr} {n7c : Nat} {c7c : Nat} {p12 : Option Addr} {n12 : Nat} {c12 : Nat} {x13 : Int} {x14 : Int} {p19 : Option Addr} {n19 : Nat} {c19 : Nat} {x20 : Int} {x21 : Int} {σ : Hp} (h : ((x21 : Int) < x20 → ∃ (b23 o23 : Nat), p19 = some ⟨b23, o23, none⟩ ∧ ((0 : Int) ≤ x21 ∧ x21 < (n19 : Int)) ∧ ∃ x24 : Int, Hp.ld σ ⟨b23, (o23 + Int.toNat x21 * 1), none⟩ = some (.int .u32 x24) ∧ ((x7b : Int) = 2 → ∃ p28 : Option Addr, ∃ n28 : Nat, ∃ c28 : Nat, Hp.ld σ ⟨b5, 0, none⟩ = some (.slice p28 n28 c28) ∧ ∀ b33 : Nat, σ b33 = none → Eff prog (Builtin.append_ #[79, 79] 79 #[(.slice p28 n28 c28), (.slice (some ⟨b33, 0, none⟩) 1 1)]) (Hp.set σ b33 (.cells #[(.int .u32 x24), (.int .i64 x7a)] 81 (0, 0))) (fun v σ1 => ∃ p34 : Option Addr, ∃ n34 : Nat, ∃ c34 : Nat, v = (.slice p34 n34 c34) ∧ Eff prog (Instr.storeAt 79 (.pointer (some ⟨b5, 0, none⟩)) (.slice p34 n34 c34)) σ1 (fun _ σ1_2 => pt38 R x1 b5 x7a x7b p7c n7c c7c p12 n12 c12 x13 x14 ((some ⟨b23, o23, none⟩)) n19 c19 x20 x21 σ1_2))) ∧ (¬ ((x7b : Int) = 2) → pt38 R x1 b5 x7a x7b p7c n7c c7c p12 n12 c12 x13 x14 ((some ⟨b23, o23, none⟩)) n19 c19 x20 x21 σ)) ∧ (¬ ((x21 : Int) < x20) → I64 (x14 + 1) ∧ pt10 R x1 b5 p12 n12 c12 x13 ((x14 + 1)) σ)) : pt24 R x1 b5 x7a x7b p7c n7c c7c p12 n12 c12 x13 x14 p19 n19 c19 x20 x21 σ := by
 intro J b7
 show At (gl R) _ _ _ _
 refine At.rg 6 [0] ?_
 refine Seq.u 22 (.bool (decide ((x21 : Int) < x20))) ?_
 refine Seq.done ?_
 refine At.L [(1, (.int .u32 x1)), (5, (.pointer (some ⟨b5, 0, none⟩))), (7, (.pointer (some ⟨b7, 0, none⟩))), (12, (.slice p12 n12 c12)), (13, (.int .i64 x13)), (14, (.int .i64 x14)), (19, (.slice p19 n19 c19)), (20, (.int .i64 x20)), (21, (.int .i64 x21)), (22, (.bool (decide ((x21 : Int) < x20))))] fun J => ?_
 refine At.s K26 K29 ?_
 cases hb : (decide ((x21 : Int) < x20)) with
 | true =>
  replace h := h.1 (of_decide_eq_true hb)
  refine At.cT 22 K27 K28 ?_
  refine At.skip ?_
  refine At.s K30 K38 ?_
  refine At.b 3 K31 ?_
  refine At.s K32 K33 ?_
  refine At.rg 7 [0, 1, 2] ?_
  obtain ⟨b23, o23, hq, h⟩ := h
  subst hq
  obtain ⟨hi, h⟩ := h
  refine Seq.z 23 (.indexAddr 53 (.tmp 19) (.tmp 21)) 0 (.pointer (some ⟨b23, (o23 + Int.toNat x21 * 1), none⟩)) (Y.idx underlying53 sizeOf26 rfl rfl hi rfl) ?_
  obtain ⟨x24, hl, h⟩ := h
  refine Seq.z 24 (.load 26 (.tmp 23)) 26 (.int .u32 x24) (Y.ld isAgg26 rfl hl) ?_
  refine Seq.u 9 (.int .u32 x24) ?_
  refine Seq.done ?_
  refine At.L [(1, (.int .u32 x1)), (5, (.pointer (some ⟨b5, 0, none⟩))), (7, (.pointer (some ⟨b7, 0, none⟩))), (9, (.int .u32 x24)), (12, (.slice p12 n12 c12)), (13, (.int .i64 x13)), (14, (.int .i64 x14)), (19, (.slice (some ⟨b23, o23, none⟩) n19 c19)), (20, (.int .i64 x20)), (21, (.int .i64 x21))] fun J => ?_
  refine At.s K34 K35 ?_
  refine At.rg 8 [0, 1, 2] ?_
  refine Seq.z 25 (.fieldAddr 55 (.tmp 7) 1) 0 (.pointer (some ⟨b7, 1, none⟩)) (Y.fieldAddr (fd := (fieldOf prog 55 1)) underlying55 (by kernel_rfl) sizeOf3 rfl rfl) ?_
  refine Seq.z 26 (.load 3 (.tmp 25)) 3 (.int .i64 x7b) (Y.ldb isAgg3 rfl (List.mem_cons_self ..) rfl) ?_
  refine Seq.u 27 (.bool (decide ((x7b : Int) = 2))) ?_
  refine Seq.done ?_
  refine At.L [(1, (.int .u32 x1)), (5, (.pointer (some ⟨b5, 0, none⟩))), (7, (.pointer (some ⟨b7, 0, none⟩))), (9, (.int .u32 x24)), (12, (.slice p12 n12 c12)), (13, (.int .i64 x13)), (14, (.int .i64 x14)), (19, (.slice (some ⟨b23, o23, none⟩) n19 c19)), (20, (.int .i64 x20)), (21, (.int .i64 x21)), (27, (.bool (decide ((x7b : Int) = 2))))] fun J => ?_
  cases hb : (decide ((x7b : Int) = 2)) with
  | true =>
   replace h := h.1 (of_decide_eq_true hb)
   refine At.cT 27 K36 K37 ?_
   refine At.rg 9 [0, 1, 2, 3, 4, 5, 6, 7] ?_
   obtain ⟨p28, n28, c28, hl, h⟩ := h
   refine Seq.z 28 (.load 79 (.tmp 5)) 79 (.slice p28 n28 c28) (Y.ld isAgg79 rfl hl) ?_
   refine Seq.u 29 (.int .u32 x24) ?_
   refine Seq.z 30 (.fieldAddr 55 (.tmp 7) 0) 0 (.pointer (some ⟨b7, 0, none⟩)) (Y.fieldAddr (fd := (fieldOf prog 55 0)) underlying55 (by kernel_rfl) sizeOf3 rfl rfl) ?_
   refine Seq.z 31 (.load 3 (.tmp 30)) 3 (.int .i64 x7a) (Y.ldb isAgg3 rfl (List.mem_cons_self ..) rfl) ?_
   refine Seq.z 32 (.build 81 #[(0, (.tmp 29)), (1, (.tmp 31))]) 81 (.agg #[(.int .u32 x24), (.int .i64 x7a)]) (Y.build (vs := [(0, (.int .u32 x24)), (1, (.int .i64 x7a))]) rfl (by kernel_rfl)) ?_
   refine Seq.o ?_
   refine OpTo.bslice (T := 79) (E := 81) (m := 1) (ps := #[(0, (.tmp 32))]) (d := (some 33)) (ty := 79) (gd := none) (vs := [(0, (.agg #[(.int .u32 x24), (.int .i64 x7a)]))]) (cs := #[(.int .u32 x24), (.int .i64 x7a)]) underlying79 (by kernel_rfl) rfl rfl rfl (by kernel_rfl) (fun b33 hn => ?_)
   replace h := h b33 hn
   refine Seq.o ?_
   refine OpTo.eff (d := (some 34)) (op := (.call { callee := .builtin .append, args := #[(.tmp 28), (.tmp 33)], argTypes := #[79, 79] })) (ty := 79) (gd := none) (by kernel_rfl) rfl rfl (Builtin.append_ #[79, 79] 79 #[(.slice p28 n28 c28), (.slice (some ⟨b33, 0, none⟩) 1 1)]) (fun o ho ht => exec_b_append rfl rfl o ho ht) (h.mono (fun v σ1 h2 => ?_)); replace h := h2; clear h2
   obtain ⟨p34, n34, c34, rfl, h⟩ := h
   refine Seq.o ?_
   refine OpTo.store (T := 79) (ty := 0) (x := (.tmp 5)) (y := (.tmp 34)) (p := (.pointer (some ⟨b5, 0, none⟩))) (v := (.slice p34 n34 c34)) (gd := none) (by kernel_rfl) rfl rfl rfl (h.mono (fun _ σ1_2 h2 => ?_)); replace h := h2; clear h2
   refine Seq.done ?_
   refine At.L [(1, (.int .u32 x1)), (5, (.pointer (some ⟨b5, 0, none⟩))), (7, (.pointer (some ⟨b7, 0, none⟩))), (12, (.slice p12 n12 c12)), (13, (.int .i64 x13)), (14, (.int .i64 x14)), (19, (.slice (some ⟨b23, o23, none⟩) n19 c19)), (20, (.int .i64 x20)), (21, (.int .i64 x21))] fun J => ?_
   refine At.inBlock ?_
   exact At.v [(1, (.int .u32 x1)), (5, (.pointer (some ⟨b5, 0, none⟩))), (7, (.pointer (some ⟨b7, 0, none⟩))), (12, (.slice p12 n12 c12)), (13, (.int .i64 x13)), (14, (.int .i64 x14)), (19, (.slice (some ⟨b23, o23, none⟩) n19 c19)), (20, (.int .i64 x20)), (21, (.int .i64 x21))] (h _ b7)
  | false =>
   replace h := h.2 (of_decide_eq_false hb)
   refine At.cF 27 K36 K37 ?_
   refine At.skip ?_
   refine At.inBlock ?_
   exact At.v [(1, (.int .u32 x1)), (5, (.pointer (some ⟨b5, 0, none⟩))), (7, (.pointer (some ⟨b7, 0, none⟩))), (12, (.slice p12 n12 c12)), (13, (.int .i64 x13)), (14, (.int .i64 x14)), (19, (.slice (some ⟨b23, o23, none⟩) n19 c19)), (20, (.int .i64 x20)), (21, (.int .i64 x21))] (h _ b7)
 | false =>
  replace h := h.2 (of_decide_eq_false hb)
  refine At.cF 22 K27 K28 ?_
  refine At.x 2 [.inBlock 1, .code K39, .inLoop K9, .inBlock 0, .code K40] ?_
  refine At.inBlock ?_
  refine At.rg 11 [0, 1] ?_
  obtain ⟨hi, h⟩ := h
  refine Seq.z 36 (.binOp .add 3 (.tmp 14) (.const (.int .i64 1)) 3) 3 (.int .i64 (x14 + 1)) (Y.addI hi rfl rfl) ?_
  refine Seq.u 14 (.int .i64 (x14 + 1)) ?_
  refine Seq.done ?_
  refine At.L [(1, (.int .u32 x1)), (5, (.pointer (some ⟨b5, 0, none⟩))), (12, (.slice p12 n12 c12)), (13, (.int .i64 x13)), (14, (.int .i64 (x14 + 1)))] fun J => ?_
  refine At.inLoop ?_
  refine At.s K10 K11 ?_
  refine At.sub (bx' := []) (.cons _ .slnil) ?_
  exact At.v [(1, (.int .u32 x1)), (5, (.pointer (some ⟨b5, 0, none⟩))), (12, (.slice p12 n12 c12)), (13, (.int .i64 x13)), (14, (.int .i64 (x14 + 1)))] (h _)
theorem pt38_of {R : Ending → Hp → Prop} {x1 : Int} {b5 : Nat} {x7a : Int} {x7b : Int} {p7c : Option Addr} {n7c : Nat} {c7c : Nat} {p12 : Option Addr} {n12 : Nat} {c12 : Nat} {x13 : Int} {x14 : Int} {p19 : Option Addr} {n19 : Nat} {c19 : Nat} {x20 : Int} {x21 : Int} {σ : Hp} (h : I64 (x21 + 1) ∧ pt24 R x1 b5 x7a x7b p7c n7c c7c p12 n12 c12 x13 x14 p19 n19 c19 x20 ((x21 + 1)) σ) : pt38 R x1 b5 x7a x7b p7c n7c c7c p12 n12 c12 x13 x14 p19 n19 c19 x20 x21 σ := by
 intro J b7
 show At (gl R) _ _ _ _
 refine At.rg 10 [0, 1] ?_
 obtain ⟨hi, h⟩ := h
 refine Seq.z 35 (.binOp .add 3 (.tmp 21) (.const (.int .i64 1)) 3) 3 (.int .i64 (x21 + 1)) (Y.addI hi rfl rfl) ?_
 refine Seq.u 21 (.int .i64 (x21 + 1)) ?_
 refine Seq.done ?_
 refine At.L [(1, (.int .u32 x1)), (5, (.pointer (some ⟨b5, 0, none⟩))), (7, (.pointer (some ⟨b7, 0, none⟩))), (12, (.slice p12 n12 c12)), (13, (.int .i64 x13)), (14, (.int .i64 x14)), (19, (.slice p19 n19 c19)), (20, (.int .i64 x20)), (21, (.int .i64 (x21 + 1)))] fun J => ?_
 refine At.inLoop ?_
 refine At.s K24 K25 ?_
 exact At.v [(1, (.int .u32 x1)), (5, (.pointer (some ⟨b5, 0, none⟩))), (7, (.pointer (some ⟨b7, 0, none⟩))), (12, (.slice p12 n12 c12)), (13, (.int .i64 x13)), (14, (.int .i64 x14)), (19, (.slice p19 n19 c19)), (20, (.int .i64 x20)), (21, (.int .i64 (x21 + 1)))] (h _ b7)
end ring_circle
namespace slices_Contains_int
abbrev fid : Nat := 34
noncomputable def K0 : Code := f34.body.getD .skip
noncomputable def K1 := Tw.cl K0
noncomputable def K2 := Tw.cr K0
noncomputable def K3 := Tw.cl K2
noncomputable def K4 := Tw.cr K2
noncomputable abbrev gl (R : Ending → Hp → Prop) : Gl := Gl.fn prog 34 9 R
theorem start {R : Ending → Hp → Prop} {p0 : Option Addr} {n0 : Nat} {c0 : Nat} {x1 : Int} {σ : Hp} (h : Spec prog 60 #[(.slice p0 n0 c0), (.int .i64 x1)] σ (Cont R (fun v σ1 => ∃ x7 : Int, v = (.int .i64 x7) ∧ R (.returned (.bool (decide ((0 : Int) ≤ x7)))) σ1))) : Spec prog 34 #[(.slice p0 n0 c0), (.int .i64 x1)] σ R := by
 refine Spec.of_at (fn := f34) (c := K0) func34 (by kernel_rfl) (Nat.le_of_ble_eq_true (by kernel_rfl)) (fun e he => ?_)
 refine At.ofL (l := [(0, (.slice p0 n0 c0)), (1, (.int .i64 x1))]) ⟨he 0, he 1, trivial⟩ (fun J => ?_)
 show At (gl R) _ _ _ _
 refine At.s K1 K2 ?_
 refine At.rg 0 [0] ?_
 refine Seq.u 4 (.bool false) ?_
 refine Seq.done ?_
 refine At.L [(0, (.slice p0 n0 c0)), (1, (.int .i64 x1))] fun J => ?_
 refine At.s K3 K4 ?_
 refine At.rg 1 [0, 1, 2, 3, 4] ?_
 refine Seq.u 5 (.slice p0 n0 c0) ?_
 refine Seq.u 6 (.int .i64 x1) ?_
 refine Seq.o ?_
 refine OpTo.cl (some 7) call60 (h.cont fun v σ1 h2 => ?_); replace h := h2; clear h2
 obtain ⟨x7, rfl, h⟩ := h
 refine Seq.u 8 (.bool (decide ((0 : Int) ≤ x7))) ?_
 refine Seq.u 4 (.bool (decide ((0 : Int) ≤ x7))) ?_
 refine Seq.done ?_
 refine At.L [(4, (.bool (decide ((0 : Int) ≤ x7))))] fun J => ?_
 exact At.rt [.tmp 4] [(.bool (decide ((0 : Int) ≤ x7)))] func34 ⟨_, rfl, rfl⟩ h
end slices_Contains_int
namespace slices_Index_int
abbrev fid : Nat := 60
noncomputable def K0 : Code := f60.body.getD .skip
noncomputable def K1 := Tw.cl K0
noncomputable def K2 := Tw.cr K0
noncomputable def K3 := Tw.cl K2
noncomputable def K4 := Tw.cl K3
noncomputable def K5 := Tw.cr K3
noncomputable def K6 := Tw.cl K5
noncomputable def K7 := Tw.cl K6
noncomputable def K8 := Tw.cl K7
noncomputable def K9 := Tw.cr K7
noncomputable def K10 := Tw.cl K9
noncomputable def K11 := Tw.cl K10
noncomputable def K12 := Tw.cr K10
noncomputable def K13 := Tw.cr K9
noncomputable def K14 := Tw.cl K13
noncomputable def K15 := Tw.cl K14
noncomputable def K16 := Tw.cl K15
noncomputable def K17 := Tw.cr K15
noncomputable def K18 := Tw.cl K17
noncomputable def K19 := Tw.cr K17
noncomputable def K20 := Tw.cl K19
noncomputable def K21 := Tw.cl K20
noncomputable def K22 := Tw.cr K20
noncomputable def K23 := Tw.cr K19
noncomputable def K24 := Tw.cr K13
noncomputable def K25 := Tw.cr K2
noncomputable def K26 := Tw.cl K25
noncomputable def K27 := Tw.cr K25
noncomputable abbrev gl (R : Ending → Hp → Prop) : Gl := Gl.fn prog 60 19 R
def pt8 (R : Ending → Hp → Prop) (p0 : Option Addr) (n0 : Nat) (c0 : Nat) (x1 : Int) (x7 : Int) (x8 : Int) (σ : Hp) : Prop := ∀ (J : Env), At (gl R) [.code K8, .code K9, .inLoop K7, .inBlock 0, .code K25] (upds J [(0, (.slice p0 n0 c0)), (1, (.int .i64 x1)), (7, (.int .i64 x7)), (8, (.int .i64 x8))]) [] σ
theorem start {R : Ending → Hp → Prop} {p0 : Option Addr} {n0 : Nat} {c0 : Nat} {x1 : Int} {σ : Hp} (h : pt8 R p0 n0 c0 x1 ((n0 : Int)) 0 σ) : Spec prog 60 #[(.slice p0 n0 c0), (.int .i64 x1)] σ R := by
 refine Spec.of_at (fn := f60) (c := K0) func60 (by kernel_rfl) (Nat.le_of_ble_eq_true (by kernel_rfl)) (fun e he => ?_)
 refine At.ofL (l := [(0, (.slice p0 n0 c0)), (1, (.int .i64 x1))]) ⟨he 0, he 1, trivial⟩ (fun J => ?_)
 show At (gl R) _ _ _ _
 refine At.s K1 K2 ?_
 refine At.rg 0 [0] ?_
 refine Seq.u 4 (.int .i64 0) ?_
 refine Seq.done ?_
 refine At.L [(0, (.slice p0 n0 c0)), (1, (.int .i64 x1))] fun J => ?_
 refine At.s K3 K25 ?_
 refine At.s K4 K5 ?_
 refine At.rg 1 [0, 1, 2] ?_
 refine Seq.u 6 (.slice p0 n0 c0) ?_
 refine Seq.z 7 (.call { callee := .builtin .len, args := #[(.tmp 6)], argTypes := #[27] }) 3 (.int .i64 (n0 : Int)) (Y.lenS underlying27 rfl rfl) ?_
 refine Seq.u 8 (.int .i64 0) ?_
 refine Seq.done ?_
 refine At.L [(0, (.slice p0 n0 c0)), (1, (.int .i64 x1)), (7, (.int .i64 (n0 : Int))), (8, (.int .i64 0))] fun J => ?_
 refine At.b 0 K6 ?_
 refine At.loop (x := K7) (by kernel_rfl) ?_
 refine At.s K8 K9 ?_
 exact At.v [(0, (.slice p0 n0 c0)), (1, (.int .i64 x1)), (7, (.int .i64 (n0 : Int))), (8, (.int .i64 0))] (h _)
theorem pt8_of {R : Ending → Hp → Prop} {p0 : Option Addr} {n0 : Nat} {c0 : Nat} {x1 : Int} {x7 : Int} {x8 : Int} {σ : Hp} (h : ((x8 : Int) < x7 → ∃ (b14 o14 : Nat), p0 = some ⟨b14, o14, none⟩ ∧ ((0 : Int) ≤ x8 ∧ x8 < (n0 : Int)) ∧ ∃ x15 : Int, Hp.ld σ ⟨b14, (o14 + Int.toNat x8 * 1), none⟩ = some (.int .i64 x15) ∧ ((x1 : Int) = x15 → R (.returned (.int .i64 x8)) σ) ∧ (¬ ((x1 : Int) = x15) → I64 (x8 + 1) ∧ pt8 R ((some ⟨b14, o14, none⟩)) n0 c0 x1 x7 ((x8 + 1)) σ)) ∧ (¬ ((x8 : Int) < x7) → R (.returned (.int .i64 (-1))) σ)) : pt8 R p0 n0 c0 x1 x7 x8 σ := by
 intro J
 show At (gl R) _ _ _ _
 refine At.rg 2 [0] ?_
 refine Seq.u 9 (.bool (decide ((x8 : Int) < x7))) ?_
 refine Seq.done ?_
 refine At.L [(0, (.slice p0 n0 c0)), (1, (.int .i64 x1)), (7, (.int .i64 x7)), (8, (.int .i64 x8)), (9, (.bool (decide ((x8 : Int) < x7))))] fun J => ?_
 refine At.s K10 K13 ?_
 cases hb : (decide ((x8 : Int) < x7)) with
 | true =>
  replace h := h.1 (of_decide_eq_true hb)
  refine At.cT 9 K11 K12 ?_
  refine At.skip ?_
  refine At.s K14 K24 ?_
  refine At.b 1 K15 ?_
  refine At.s K16 K17 ?_
  refine At.rg 3 [0, 1] ?_
  refine Seq.u 10 (.int .i64 x8) ?_
  refine Seq.u 5 (.int .i64 x8) ?_
  refine Seq.done ?_
  refine At.L [(0, (.slice p0 n0 c0)), (1, (.int .i64 x1)), (5, (.int .i64 x8)), (7, (.int .i64 x7)), (8, (.int .i64 x8))] fun J => ?_
  refine At.s K18 K19 ?_
  refine At.rg 4 [0, 1, 2, 3, 4, 5] ?_
  refine Seq.u 11 (.int .i64 x1) ?_
  refine Seq.u 12 (.slice p0 n0 c0) ?_
  refine Seq.u 13 (.int .i64 x8) ?_
  obtain ⟨b14, o14, hq, h⟩ := h
  subst hq
  obtain ⟨hi, h⟩ := h
  refine Seq.z 14 (.indexAddr 27 (.tmp 12) (.tmp 13)) 0 (.pointer (some ⟨b14, (o14 + Int.toNat x8 * 1), none⟩)) (Y.idx underlying27 sizeOf3 rfl rfl hi rfl) ?_
  obtain ⟨x15, hl, h⟩ := h
  refine Seq.z 15 (.load 3 (.tmp 14)) 3 (.int .i64 x15) (Y.ld isAgg3 rfl hl) ?_
  refine Seq.u 16 (.bool (decide ((x1 : Int) = x15))) ?_
  refine Seq.done ?_
  refine At.L [(0, (.slice (some ⟨b14, o14, none⟩) n0 c0)), (1, (.int .i64 x1)), (5, (.int .i64 x8)), (7, (.int .i64 x7)), (8, (.int .i64 x8)), (16, (.bool (decide ((x1 : Int) = x15))))] fun J => ?_
  cases hb : (decide ((x1 : Int) = x15)) with
  | true =>
   replace h := h.1 (of_decide_eq_true hb)
   refine At.cT 16 K20 K23 ?_
   refine At.s K21 K22 ?_
   refine At.rg 5 [0, 1] ?_
   refine Seq.u 17 (.int .i64 x8) ?_
   refine Seq.u 4 (.int .i64 x8) ?_
   refine Seq.done ?_
   refine At.L [(4, (.int .i64 x8))] fun J => ?_
   exact At.rt [.tmp 4] [(.int .i64 x8)] func60 ⟨_, rfl, rfl⟩ h
  | false =>
   replace h := h.2 (of_decide_eq_false hb)
   refine At.cF 16 K20 K23 ?_
   refine At.skip ?_
   refine At.inBlock ?_
   refine At.rg 6 [0, 1] ?_
   obtain ⟨hi, h⟩ := h
   refine Seq.z 18 (.binOp .add 3 (.tmp 8) (.const (.int .i64 1)) 3) 3 (.int .i64 (x8 + 1)) (Y.addI hi rfl rfl) ?_
   refine Seq.u 8 (.int .i64 (x8 + 1)) ?_
   refine Seq.done ?_
   refine At.L [(0, (.slice (some ⟨b14, o14, none⟩) n0 c0)), (1, (.int .i64 x1)), (7, (.int .i64 x7)), (8, (.int .i64 (x8 + 1)))] fun J => ?_
   refine At.inLoop ?_
   refine At.s K8 K9 ?_
   exact At.v [(0, (.slice (some ⟨b14, o14, none⟩) n0 c0)), (1, (.int .i64 x1)), (7, (.int .i64 x7)), (8, (.int .i64 (x8 + 1)))] (h _)
 | false =>
  replace h := h.2 (of_decide_eq_false hb)
  refine At.cF 9 K11 K12 ?_
  refine At.x 0 [.code K25] ?_
  refine At.s K26 K27 ?_
  refine At.rg 7 [0] ?_
  refine Seq.u 4 (.int .i64 (-1)) ?_
  refine Seq.done ?_
  refine At.L [(4, (.int .i64 (-1)))] fun J => ?_
  exact At.rt [.tmp 4] [(.int .i64 (-1))] func60 ⟨_, rfl, rfl⟩ h
end slices_Index_int
namespace bytes_Equal
abbrev fid : Nat := 43
noncomputable def K0 : Code := f43.body.getD .skip
noncomputable def K1 := Tw.cl K0
noncomputable def K2 := Tw.cr K0
noncomputable def K3 := Tw.cl K2
noncomputable def K4 := Tw.cr K2
noncomputable abbrev gl (R : Ending → Hp → Prop) : Gl := Gl.fn prog 43 10 R
theorem start {R : Ending → Hp → Prop} {p0 : Option Addr} {n0 : Nat} {c0 : Nat} {p1 : Option Addr} {n1 : Nat} {c1 : Nat} {σ : Hp} (h : Eff prog (convert 37 9 (.slice p0 n0 c0)) σ (fun v σ1 => ∃ s6 : ByteArray, v = (.string s6) ∧ Eff prog (convert 37 9 (.slice p1 n1 c1)) σ1 (fun v_2 σ1_2 => ∃ s8 : ByteArray, v_2 = (.string s8) ∧ R (.returned (.bool (ByteArray.toList s6 == ByteArray.toList s8))) σ1_2))) : Spec prog 43 #[(.slice p0 n0 c0), (.slice p1 n1 c1)] σ R := by
 refine Spec.of_at (fn := f43) (c := K0) func43 (by kernel_rfl) (Nat.le_of_ble_eq_true (by kernel_rfl)) (fun e he => ?_)
 refine At.ofL (l := [(0, (.slice p0 n0 c0)), (1, (.slice p1 n1 c1))]) ⟨he 0, he 1, trivial⟩ (fun J => ?_)
 show At (gl R) _ _ _ _
 refine At.s K1 K2 ?_
 refine At.rg 0 [0] ?_
 refine Seq.u 4 (.bool false) ?_
 refine Seq.done ?_
 refine At.L [(0, (.slice p0 n0 c0)), (1, (.slice p1 n1 c1))] fun J => ?_
 refine At.s K3 K4 ?_
 refine At.rg 1 [0, 1, 2, 3, 4, 5] ?_
 refine Seq.u 5 (.slice p0 n0 c0) ?_
 refine Seq.o ?_
 refine OpTo.eff (d := (some 6)) (op := (.convert 37 9 (.tmp 5))) (ty := 9) (gd := none) (by kernel_rfl) rfl rfl (convert 37 9 (.slice p0 n0 c0)) (fun o ho ht => by simp only [execOp, ho]; rfl) (h.mono (fun v σ1 h2 => ?_)); replace h := h2; clear h2
 obtain ⟨s6, rfl, h⟩ := h
 refine Seq.u 7 (.slice p1 n1 c1) ?_
 refine Seq.o ?_
 refine OpTo.eff (d := (some 8)) (op := (.convert 37 9 (.tmp 7))) (ty := 9) (gd := none) (by kernel_rfl) rfl rfl (convert 37 9 (.slice p1 n1 c1)) (fun o ho ht => by simp only [execOp, ho]; rfl) (h.mono (fun v_2 σ1_2 h2 => ?_)); replace h := h2; clear h2
 obtain ⟨s8, rfl, h⟩ := h
 refine Seq.z 9 (.binOp .eql 9 (.tmp 6) (.tmp 8) 9) 4 (.bool (ByteArray.toList s6 == ByteArray.toList s8)) (Y.eqlS underlying9 rfl rfl) ?_
 refine Seq.u 4 (.bool (ByteArray.toList s6 == ByteArray.toList s8)) ?_
 refine Seq.done ?_
 refine At.L [(4, (.bool (ByteArray.toList s6 == ByteArray.toList s8)))] fun J => ?_
 exact At.rt [.tmp 4] [(.bool (ByteArray.toList s6 == ByteArray.toList s8))] func43 ⟨_, rfl, rfl⟩ h
end bytes_Equal
namespace ring_member
abbrev fid : Nat := 44
noncomputable def K0 : Code := f44.body.getD .skip
noncomputable def K1 := Tw.cl K0
noncomputable def K2 := Tw.cr K0
noncomputable def K3 := Tw.cl K2
noncomputable def K4 := Tw.cr K2
noncomputable abbrev gl (R : Ending → Hp → Prop) : Gl := Gl.fn prog 44 9 R
theorem start {R : Ending → Hp → Prop} {x0a : Int} {p0b : Option Addr} {n0b : Nat} {c0b : Nat} {x1 : Int} {σ : Hp} (h : ∀ b3 : Nat, σ b3 = none → Spec prog 65 #[(.slice p0b n0b c0b), (.func (.func 66) #[] #[(.pointer (some ⟨b3, 0, none⟩))])] (Hp.set σ b3 (.cells #[(.int .i64 x1)] 3 (0, 0))) (Cont R (fun v σ1 => ∃ x8 : Int, v = (.int .i64 x8) ∧ R (.returned (.int .i64 x8)) σ1))) : Spec prog 44 #[(.agg #[(.int .u64 x0a), (.slice p0b n0b c0b)]), (.int .i64 x1)] σ R := by
 refine Spec.of_at (fn := f44) (c := K0) func44 (by kernel_rfl) (Nat.le_of_ble_eq_true (by kernel_rfl)) (fun e he => ?_)
 refine At.ofL (l := [(0, (.agg #[(.int .u64 x0a), (.slice p0b n0b c0b)])), (1, (.int .i64 x1))]) ⟨he 0, he 1, trivial⟩ (fun J => ?_)
 show At (gl R) _ _ _ _
 refine At.s K1 K2 ?_
 refine At.rg 0 [0, 1, 2] ?_
 refine Seq.o ?_
 refine OpTo.box (T := 25) (d := (some 2)) (ty := 0) (x := (.tmp 0)) (gd := none) (cs := #[(.int .u64 x0a), (.slice p0b n0b c0b)]) (by kernel_rfl) rfl rfl rfl (fun b2 => ?_)
 refine Seq.o ?_
 refine OpTo.boxO (T := 3) (d := (some 3)) (ty := 0) (x := (.tmp 1)) (gd := none) (cs := #[(.int .i64 x1)]) (by kernel_rfl) rfl rfl rfl (fun b3 hn => ?_)
 replace h := h b3 hn
 refine Seq.u 4 (.int .i64 0) ?_
 refine Seq.done ?_
 refine At.L [(2, (.pointer (some ⟨b2, 0, none⟩))), (3, (.pointer (some ⟨b3, 0, none⟩)))] fun J => ?_
 refine At.s K3 K4 ?_
 refine At.rg 1 [0, 1, 2, 3, 4] ?_
 refine Seq.z 5 (.fieldAddr 25 (.tmp 2) 1) 0 (.pointer (some ⟨b2, 1, none⟩)) (Y.fieldAddr (fd := (fieldOf prog 25 1)) underlying25 (by kernel_rfl) sizeOf23 rfl rfl) ?_
 refine Seq.z 6 (.load 23 (.tmp 5)) 23 (.slice p0b n0b c0b) (Y.ldb isAgg23 rfl (List.mem_cons_self ..) rfl) ?_
 refine Seq.z 7 (.makeFunc (.func 66) #[] #[(.tmp 3)]) 92 (.func (.func 66) #[] #[(.pointer (some ⟨b3, 0, none⟩))]) (Y.makeFunc rfl rfl) ?_
 refine Seq.o ?_
 refine OpTo.cl (some 8) call65 (h.cont fun v σ1 h2 => ?_); replace h := h2; clear h2
 obtain ⟨x8, rfl, h⟩ := h
 refine Seq.u 4 (.int .i64 x8) ?_
 refine Seq.done ?_
 refine At.L [(4, (.int .i64 x8))] fun J => ?_
 exact At.rt [.tmp 4] [(.int .i64 x8)] func44 ⟨_, rfl, rfl⟩ h
end ring_member
namespace ring_State
abbrev fid : Nat := 23
noncomputable def K0 : Code := f23.body.getD .skip
noncomputable def K1 := Tw.cl K0
noncomputable def K2 := Tw.cr K0
noncomputable def K3 := Tw.cl K2
noncomputable def K4 := Tw.cr K2
noncomputable def K5 := Tw.cl K4
noncomputable def K6 := Tw.cl K5
noncomputable def K7 := Tw.cr K5
noncomputable def K8 := Tw.cl K7
noncomputable def K9 := Tw.cl K8
noncomputable def K10 := Tw.cr K8
noncomputable def K11 := Tw.cr K7
noncomputable def K12 := Tw.cr K4
noncomputable def K13 := Tw.cl K12
noncomputable def K14 := Tw.cr K12
noncomputable abbrev gl (R : Ending → Hp → Prop) : Gl := Gl.fn prog 23 22 R
theorem start {R : Ending → Hp → Prop} {x0a : Int} {p0b : Option Addr} {n0b : Nat} {c0b : Nat} {x1 : Int} {σ : Hp} (h : Spec prog 44 #[(.agg #[(.int .u64 x0a), (.slice p0b n0b c0b)]), (.int .i64 x1)] σ (Cont R (fun v σ1 => ∃ x8 : Int, v = (.int .i64 x8) ∧ Spec prog 32 #[(.agg #[(.int .u64 x0a), (.slice p0b n0b c0b)])] σ1 (Cont R (fun v_2 σ1_2 => ∃ x10 : Int, v_2 = (.int .i64 x10) ∧ ((x10 : Int) ≠ 0 → R (.returned (.int .i64 0)) σ1_2) ∧ (¬ ((x10 : Int) ≠ 0) → ((x8 : Int) < 0 → R (.returned (.int .i64 0)) σ1_2) ∧ (¬ ((x8 : Int) < 0) → ∃ (b19 o19 : Nat), p0b = some ⟨b19, o19, none⟩ ∧ ((0 : Int) ≤ x8 ∧ x8 < (n0b : Int)) ∧ ∃ x21 : Int, Hp.ld σ1_2 ⟨b19, ((o19 + Int.toNat x8 * 3) + 1), none⟩ = some (.int .i64 x21) ∧ R (.returned (.int .i64 x21)) σ1_2))))))) : Spec prog 23 #[(.agg #[(.int .u64 x0a), (.slice p0b n0b c0b)]), (.int .i64 x1)] σ R := by
 refine Spec.of_at (fn := f23) (c := K0) func23 (by kernel_rfl) (Nat.le_of_ble_eq_true (by kernel_rfl)) (fun e he => ?_)
 refine At.ofL (l := [(0, (.agg #[(.int .u64 x0a), (.slice p0b n0b c0b)])), (1, (.int .i64 x1))]) ⟨he 0, he 1, trivial⟩ (fun J => ?_)
 show At (gl R) _ _ _ _
 refine At.s K1 K2 ?_
 refine At.rg 0 [0, 1] ?_
 refine Seq.o ?_
 refine OpTo.box (T := 25) (d := (some 2)) (ty := 0) (x := (.tmp 0)) (gd := none) (cs := #[(.int .u64 x0a), (.slice p0b n0b c0b)]) (by kernel_rfl) rfl rfl rfl (fun b2 => ?_)
 refine Seq.u 4 (.int .i64 0) ?_
 refine Seq.done ?_
 refine At.L [(1, (.int .i64 x1)), (2, (.pointer (some ⟨b2, 0, none⟩)))] fun J => ?_
 refine At.s K3 K4 ?_
 refine At.rg 1 [0, 1, 2, 3] ?_
 refine Seq.z 6 (.load 25 (.tmp 2)) 25 (.agg #[(.int .u64 x0a), (.slice p0b n0b c0b)]) (Y.ldab (vs := [(.int .u64 x0a), (.slice p0b n0b c0b)]) isAgg25 sizeOf25 rfl rfl (List.mem_cons_self ..) rfl) ?_
 refine Seq.u 7 (.int .i64 x1) ?_
 refine Seq.o ?_
 refine OpTo.cl (some 8) call44 (h.cont fun v σ1 h2 => ?_); replace h := h2; clear h2
 obtain ⟨x8, rfl, h⟩ := h
 refine Seq.u 5 (.int .i64 x8) ?_
 refine Seq.done ?_
 refine At.L [(2, (.pointer (some ⟨b2, 0, none⟩))), (5, (.int .i64 x8))] fun J => ?_
 refine At.s K5 K12 ?_
 refine At.s K6 K7 ?_
 refine At.rg 2 [0, 1, 2, 3, 4, 5, 6] ?_
 refine Seq.z 9 (.load 25 (.tmp 2)) 25 (.agg #[(.int .u64 x0a), (.slice p0b n0b c0b)]) (Y.ldab (vs := [(.int .u64 x0a), (.slice p0b n0b c0b)]) isAgg25 sizeOf25 rfl rfl (List.mem_cons_self ..) rfl) ?_
 refine Seq.o ?_
 refine OpTo.cl (some 10) call32 (h.cont fun v_2 σ1_2 h2 => ?_); replace h := h2; clear h2
 obtain ⟨x10, rfl, h⟩ := h
 refine Seq.u 11 (.bool (decide ((x10 : Int) ≠ 0))) ?_
 refine Seq.u 12 (.bool (decide ((x10 : Int) ≠ 0))) ?_
 cases hb : (decide ((x10 : Int) ≠ 0)) with
 | true =>
  replace h := h.1 (of_decide_eq_true hb)
  refine Seq.n 13 ?_
  refine Seq.n 14 ?_
  refine Seq.u 15 (.bool true) ?_
  refine Seq.done ?_
  refine At.L [(2, (.pointer (some ⟨b2, 0, none⟩))), (5, (.int .i64 x8)), (15, (.bool true))] fun J => ?_
  refine At.cT 15 K8 K11 ?_
  refine At.s K9 K10 ?_
  refine At.rg 3 [0] ?_
  refine Seq.u 4 (.int .i64 0) ?_
  refine Seq.done ?_
  refine At.L [(4, (.int .i64 0))] fun J => ?_
  exact At.rt [.tmp 4] [(.int .i64 0)] func23 ⟨_, rfl, rfl⟩ h
 | false =>
  replace h := h.2 (of_decide_eq_false hb)
  refine Seq.u 13 (.int .i64 x8) ?_
  refine Seq.u 14 (.bool (decide ((x8 : Int) < 0))) ?_
  refine Seq.u 15 (.bool (decide ((x8 : Int) < 0))) ?_
  refine Seq.done ?_
  refine At.L [(2, (.pointer (some ⟨b2, 0, none⟩))), (5, (.int .i64 x8)), (15, (.bool (decide ((x8 : Int) < 0))))] fun J => ?_
  cases hb : (decide ((x8 : Int) < 0)) with
  | true =>
   replace h := h.1 (of_decide_eq_true hb)
   refine At.cT 15 K8 K11 ?_
   refine At.s K9 K10 ?_
   refine At.rg 3 [0] ?_
   refine Seq.u 4 (.int .i64 0) ?_
   refine Seq.done ?_
   refine At.L [(4, (.int .i64 0))] fun J => ?_
   exact At.rt [.tmp 4] [(.int .i64 0)] func23 ⟨_, rfl, rfl⟩ h
  | false =>
   replace h := h.2 (of_decide_eq_false hb)
   refine At.cF 15 K8 K11 ?_
   refine At.skip ?_
   refine At.s K13 K14 ?_
   refine At.rg 4 [0, 1, 2, 3, 4, 5, 6] ?_
   refine Seq.z 16 (.fieldAddr 25 (.tmp 2) 1) 0 (.pointer (some ⟨b2, 1, none⟩)) (Y.fieldAddr (fd := (fieldOf prog 25 1)) underlying25 (by kernel_rfl) sizeOf23 rfl rfl) ?_
   refine Seq.z 17 (.load 23 (.tmp 16)) 23 (.slice p0b n0b c0b) (Y.ldb isAgg23 rfl (List.mem_cons_self ..) rfl) ?_
   refine Seq.u 18 (.int .i64 x8) ?_
   obtain ⟨b19, o19, hq, h⟩ := h
   subst hq
   obtain ⟨hi, h⟩ := h
   refine Seq.z 19 (.indexAddr 23 (.tmp 17) (.tmp 18)) 0 (.pointer (some ⟨b19, (o19 + Int.toNat x8 * 3), none⟩)) (Y.idx underlying23 sizeOf55 rfl rfl hi rfl) ?_
   refine Seq.z 20 (.fieldAddr 55 (.tmp 19) 1) 0 (.pointer (some ⟨b19, ((o19 + Int.toNat x8 * 3) + 1), none⟩)) (Y.fieldAddr (fd := (fieldOf prog 55 1)) underlying55 (by kernel_rfl) sizeOf3 rfl rfl) ?_
   obtain ⟨x21, hl, h⟩ := h
   refine Seq.z 21 (.load 3 (.tmp 20)) 3 (.int .i64 x21) (Y.ld isAgg3 rfl hl) ?_
   refine Seq.u 4 (.int .i64 x21) ?_
   refine Seq.done ?_
   refine At.L [(4, (.int .i64 x21))] fun J => ?_
   exact At.rt [.tmp 4] [(.int .i64 x21)] func23 ⟨_, rfl, rfl⟩ h
end ring_State
namespace ring_Join
abbrev fid : Nat := 25
noncomputable def K0 : Code := f25.body.getD .skip
noncomputable def K1 := Tw.cl K0
noncomputable def K2 := Tw.cr K0
noncomputable def K3 := Tw.cl K2
noncomputable def K4 := Tw.cr K2
noncomputable abbrev gl (R : Ending → Hp → Prop) : Gl := Gl.fn prog 25 11 R
theorem start {R : Ending → Hp → Prop} {x0a : Int} {p0b : Option Addr} {n0b : Nat} {c0b : Nat} {x1 : Int} {σ : Hp} (h : Spec prog 45 #[(.agg #[(.int .u64 x0a), (.slice p0b n0b c0b)]), (.int .i64 x1), (.func (.func 46) #[] #[])] σ (Cont R (fun v σ1 => ∃ x8aa : Int, ∃ p8ab : Option Addr, ∃ n8ab : Nat, ∃ c8ab : Nat, ∃ x8b : Int, v = (.tuple #[(.agg #[(.int .u64 x8aa), (.slice p8ab n8ab c8ab)]), (.int .i64 x8b)]) ∧ R (.returned (.tuple #[(.agg #[(.int .u64 x8aa), (.slice p8ab n8ab c8ab)]), (.int .i64 x8b)])) σ1))) : Spec prog 25 #[(.agg #[(.int .u64 x0a), (.slice p0b n0b c0b)]), (.int .i64 x1)] σ R := by
 refine Spec.of_at (fn := f25) (c := K0) func25 (by kernel_rfl) (Nat.le_of_ble_eq_true (by kernel_rfl)) (fun e he => ?_)
 refine At.ofL (l := [(0, (.agg #[(.int .u64 x0a), (.slice p0b n0b c0b)])), (1, (.int .i64 x1))]) ⟨he 0, he 1, trivial⟩ (fun J => ?_)
 show At (gl R) _ _ _ _
 refine At.s K1 K2 ?_
 refine At.rg 0 [0, 1, 2] ?_
 refine Seq.o ?_
 refine OpTo.box (T := 25) (d := (some 2)) (ty := 0) (x := (.tmp 0)) (gd := none) (cs := #[(.int .u64 x0a), (.slice p0b n0b c0b)]) (by kernel_rfl) rfl rfl rfl (fun b2 => ?_)
 refine Seq.o ?_
 refine OpTo.alloc (T := 25) (d := (some 4)) (ty := 0)  (gd := none) (cs := #[(.int .u64 0), (.slice none 0 0)]) (by kernel_rfl) rfl rfl zeroValue25 rfl (fun b4 => ?_)
 refine Seq.u 5 (.int .i64 0) ?_
 refine Seq.done ?_
 refine At.L [(1, (.int .i64 x1)), (2, (.pointer (some ⟨b2, 0, none⟩))), (4, (.pointer (some ⟨b4, 0, none⟩)))] fun J => ?_
 refine At.s K3 K4 ?_
 refine At.rg 1 [0, 1, 2, 3, 4, 5, 6] ?_
 refine Seq.z 6 (.load 25 (.tmp 2)) 25 (.agg #[(.int .u64 x0a), (.slice p0b n0b c0b)]) (Y.ldab (vs := [(.int .u64 x0a), (.slice p0b n0b c0b)]) isAgg25 sizeOf25 rfl rfl (.tail _ (List.mem_cons_self ..)) rfl) ?_
 refine Seq.u 7 (.int .i64 x1) ?_
 refine Seq.o ?_
 refine OpTo.cl (some 8) call45 (h.cont fun v σ1 h2 => ?_); replace h := h2; clear h2
 obtain ⟨x8aa, p8ab, n8ab, c8ab, x8b, rfl, h⟩ := h
 refine Seq.u 9 (.agg #[(.int .u64 x8aa), (.slice p8ab n8ab c8ab)]) ?_
 refine Seq.u 10 (.int .i64 x8b) ?_
 refine Seq.o ?_
 refine OpTo.storeb (T := 25) (ty := 0) (x := (.tmp 4)) (y := (.tmp 9)) (t := 25) (j := 0) (b := b4) (o := 0) (c' := #[(.int .u64 x8aa), (.slice p8ab n8ab c8ab)]) (v := (.agg #[(.int .u64 x8aa), (.slice p8ab n8ab c8ab)])) (gd := none) (by kernel_rfl) rfl sizeOf25 rfl rfl rfl rfl rfl rfl rfl ?_
 simp only [List.set]
 refine Seq.u 5 (.int .i64 x8b) ?_
 refine Seq.done ?_
 refine At.L [(4, (.pointer (some ⟨b4, 0, none⟩))), (5, (.int .i64 x8b))] fun J => ?_
 exact At.rt [.cell 4 25, .tmp 5] [(.agg #[(.int .u64 x8aa), (.slice p8ab n8ab c8ab)]), (.int .i64 x8b)] func25 ⟨_, _, rfl, ⟨_, rfl, ldab_run isAgg25 sizeOf25 rfl (List.mem_cons_self ..)⟩, ⟨_, rfl, rfl⟩⟩ h
end ring_Join
namespace ring_Activate
abbrev fid : Nat := 26
noncomputable def K0 : Code := f26.body.getD .skip
noncomputable def K1 := Tw.cl K0
noncomputable def K2 := Tw.cr K0
noncomputable def K3 := Tw.cl K2
noncomputable def K4 := Tw.cr K2
noncomputable abbrev gl (R : Ending → Hp → Prop) : Gl := Gl.fn prog 26 11 R
theorem start {R : Ending → Hp → Prop} {x0a : Int} {p0b : Option Addr} {n0b : Nat} {c0b : Nat} {x1 : Int} {σ : Hp} (h : Spec prog 45 #[(.agg #[(.int .u64 x0a), (.slice p0b n0b c0b)]), (.int .i64 x1), (.func (.func 47) #[] #[])] σ (Cont R (fun v σ1 => ∃ x8aa : Int, ∃ p8ab : Option Addr, ∃ n8ab : Nat, ∃ c8ab : Nat, ∃ x8b : Int, v = (.tuple #[(.agg #[(.int .u64 x8aa), (.slice p8ab n8ab c8ab)]), (.int .i64 x8b)]) ∧ R (.returned (.tuple #[(.agg #[(.int .u64 x8aa), (.slice p8ab n8ab c8ab)]), (.int .i64 x8b)])) σ1))) : Spec prog 26 #[(.agg #[(.int .u64 x0a), (.slice p0b n0b c0b)]), (.int .i64 x1)] σ R := by
 refine Spec.of_at (fn := f26) (c := K0) func26 (by kernel_rfl) (Nat.le_of_ble_eq_true (by kernel_rfl)) (fun e he => ?_)
 refine At.ofL (l := [(0, (.agg #[(.int .u64 x0a), (.slice p0b n0b c0b)])), (1, (.int .i64 x1))]) ⟨he 0, he 1, trivial⟩ (fun J => ?_)
 show At (gl R) _ _ _ _
 refine At.s K1 K2 ?_
 refine At.rg 0 [0, 1, 2] ?_
 refine Seq.o ?_
 refine OpTo.box (T := 25) (d := (some 2)) (ty := 0) (x := (.tmp 0)) (gd := none) (cs := #[(.int .u64 x0a), (.slice p0b n0b c0b)]) (by kernel_rfl) rfl rfl rfl (fun b2 => ?_)
 refine Seq.o ?_
 refine OpTo.alloc (T := 25) (d := (some 4)) (ty := 0)  (gd := none) (cs := #[(.int .u64 0), (.slice none 0 0)]) (by kernel_rfl) rfl rfl zeroValue25 rfl (fun b4 => ?_)
 refine Seq.u 5 (.int .i64 0) ?_
 refine Seq.done ?_
 refine At.L [(1, (.int .i64 x1)), (2, (.pointer (some ⟨b2, 0, none⟩))), (4, (.pointer (some ⟨b4, 0, none⟩)))] fun J => ?_
 refine At.s K3 K4 ?_
 refine At.rg 1 [0, 1, 2, 3, 4, 5, 6] ?_
 refine Seq.z 6 (.load 25 (.tmp 2)) 25 (.agg #[(.int .u64 x0a), (.slice p0b n0b c0b)]) (Y.ldab (vs := [(.int .u64 x0a), (.slice p0b n0b c0b)]) isAgg25 sizeOf25 rfl rfl (.tail _ (List.mem_cons_self ..)) rfl) ?_
 refine Seq.u 7 (.int .i64 x1) ?_
 refine Seq.o ?_
 refine OpTo.cl (some 8) call45 (h.cont fun v σ1 h2 => ?_); replace h := h2; clear h2
 obtain ⟨x8aa, p8ab, n8ab, c8ab, x8b, rfl, h⟩ := h
 refine Seq.u 9 (.agg #[(.int .u64 x8aa), (.slice p8ab n8ab c8ab)]) ?_
 refine Seq.u 10 (.int .i64 x8b) ?_
 refine Seq.o ?_
 refine OpTo.storeb (T := 25) (ty := 0) (x := (.tmp 4)) (y := (.tmp 9)) (t := 25) (j := 0) (b := b4) (o := 0) (c' := #[(.int .u64 x8aa), (.slice p8ab n8ab c8ab)]) (v := (.agg #[(.int .u64 x8aa), (.slice p8ab n8ab c8ab)])) (gd := none) (by kernel_rfl) rfl sizeOf25 rfl rfl rfl rfl rfl rfl rfl ?_
 simp only [List.set]
 refine Seq.u 5 (.int .i64 x8b) ?_
 refine Seq.done ?_
 refine At.L [(4, (.pointer (some ⟨b4, 0, none⟩))), (5, (.int .i64 x8b))] fun J => ?_
 exact At.rt [.cell 4 25, .tmp 5] [(.agg #[(.int .u64 x8aa), (.slice p8ab n8ab c8ab)]), (.int .i64 x8b)] func26 ⟨_, _, rfl, ⟨_, rfl, ldab_run isAgg25 sizeOf25 rfl (List.mem_cons_self ..)⟩, ⟨_, rfl, rfl⟩⟩ h
end ring_Activate
namespace ring_Leave
abbrev fid : Nat := 27
noncomputable def K0 : Code := f27.body.getD .skip
noncomputable def K1 := Tw.cl K0
noncomputable def K2 := Tw.cr K0
noncomputable def K3 := Tw.cl K2
noncomputable def K4 := Tw.cr K2
noncomputable abbrev gl (R : Ending → Hp → Prop) : Gl := Gl.fn prog 27 11 R
theorem start {R : Ending → Hp → Prop} {x0a : Int} {p0b : Option Addr} {n0b : Nat} {c0b : Nat} {x1 : Int} {σ : Hp} (h : Spec prog 45 #[(.agg #[(.int .u64 x0a), (.slice p0b n0b c0b)]), (.int .i64 x1), (.func (.func 48) #[] #[])] σ (Cont R (fun v σ1 => ∃ x8aa : Int, ∃ p8ab : Option Addr, ∃ n8ab : Nat, ∃ c8ab : Nat, ∃ x8b : Int, v = (.tuple #[(.agg #[(.int .u64 x8aa), (.slice p8ab n8ab c8ab)]), (.int .i64 x8b)]) ∧ R (.returned (.tuple #[(.agg #[(.int .u64 x8aa), (.slice p8ab n8ab c8ab)]), (.int .i64 x8b)])) σ1))) : Spec prog 27 #[(.agg #[(.int .u64 x0a), (.slice p0b n0b c0b)]), (.int .i64 x1)] σ R := by
 refine Spec.of_at (fn := f27) (c := K0) func27 (by kernel_rfl) (Nat.le_of_ble_eq_true (by kernel_rfl)) (fun e he => ?_)
 refine At.ofL (l := [(0, (.agg #[(.int .u64 x0a), (.slice p0b n0b c0b)])), (1, (.int .i64 x1))]) ⟨he 0, he 1, trivial⟩ (fun J => ?_)
 show At (gl R) _ _ _ _
 refine At.s K1 K2 ?_
 refine At.rg 0 [0, 1, 2] ?_
 refine Seq.o ?_
 refine OpTo.box (T := 25) (d := (some 2)) (ty := 0) (x := (.tmp 0)) (gd := none) (cs := #[(.int .u64 x0a), (.slice p0b n0b c0b)]) (by kernel_rfl) rfl rfl rfl (fun b2 => ?_)
 refine Seq.o ?_
 refine OpTo.alloc (T := 25) (d := (some 4)) (ty := 0)  (gd := none) (cs := #[(.int .u64 0), (.slice none 0 0)]) (by kernel_rfl) rfl rfl zeroValue25 rfl (fun b4 => ?_)
 refine Seq.u 5 (.int .i64 0) ?_
 refine Seq.done ?_
 refine At.L [(1, (.int .i64 x1)), (2, (.pointer (some ⟨b2, 0, none⟩))), (4, (.pointer (some ⟨b4, 0, none⟩)))] fun J => ?_
 refine At.s K3 K4 ?_
 refine At.rg 1 [0, 1, 2, 3, 4, 5, 6] ?_
 refine Seq.z 6 (.load 25 (.tmp 2)) 25 (.agg #[(.int .u64 x0a), (.slice p0b n0b c0b)]) (Y.ldab (vs := [(.int .u64 x0a), (.slice p0b n0b c0b)]) isAgg25 sizeOf25 rfl rfl (.tail _ (List.mem_cons_self ..)) rfl) ?_
 refine Seq.u 7 (.int .i64 x1) ?_
 refine Seq.o ?_
 refine OpTo.cl (some 8) call45 (h.cont fun v σ1 h2 => ?_); replace h := h2; clear h2
 obtain ⟨x8aa, p8ab, n8ab, c8ab, x8b, rfl, h⟩ := h
 refine Seq.u 9 (.agg #[(.int .u64 x8aa), (.slice p8ab n8ab c8ab)]) ?_
 refine Seq.u 10 (.int .i64 x8b) ?_
 refine Seq.o ?_
 refine OpTo.storeb (T := 25) (ty := 0) (x := (.tmp 4)) (y := (.tmp 9)) (t := 25) (j := 0) (b := b4) (o := 0) (c' := #[(.int .u64 x8aa), (.slice p8ab n8ab c8ab)]) (v := (.agg #[(.int .u64 x8aa), (.slice p8ab n8ab c8ab)])) (gd := none) (by kernel_rfl) rfl sizeOf25 rfl rfl rfl rfl rfl rfl rfl ?_
 simp only [List.set]
 refine Seq.u 5 (.int .i64 x8b) ?_
 refine Seq.done ?_
 refine At.L [(4, (.pointer (some ⟨b4, 0, none⟩))), (5, (.int .i64 x8b))] fun J => ?_
 exact At.rt [.cell 4 25, .tmp 5] [(.agg #[(.int .u64 x8aa), (.slice p8ab n8ab c8ab)]), (.int .i64 x8b)] func27 ⟨_, _, rfl, ⟨_, rfl, ldab_run isAgg25 sizeOf25 rfl (List.mem_cons_self ..)⟩, ⟨_, rfl, rfl⟩⟩ h
end ring_Leave
namespace ring_Gone
abbrev fid : Nat := 28
noncomputable def K0 : Code := f28.body.getD .skip
noncomputable def K1 := Tw.cl K0
noncomputable def K2 := Tw.cr K0
noncomputable def K3 := Tw.cl K2
noncomputable def K4 := Tw.cr K2
noncomputable abbrev gl (R : Ending → Hp → Prop) : Gl := Gl.fn prog 28 11 R
theorem start {R : Ending → Hp → Prop} {x0a : Int} {p0b : Option Addr} {n0b : Nat} {c0b : Nat} {x1 : Int} {σ : Hp} (h : Spec prog 45 #[(.agg #[(.int .u64 x0a), (.slice p0b n0b c0b)]), (.int .i64 x1), (.func (.func 49) #[] #[])] σ (Cont R (fun v σ1 => ∃ x8aa : Int, ∃ p8ab : Option Addr, ∃ n8ab : Nat, ∃ c8ab : Nat, ∃ x8b : Int, v = (.tuple #[(.agg #[(.int .u64 x8aa), (.slice p8ab n8ab c8ab)]), (.int .i64 x8b)]) ∧ R (.returned (.tuple #[(.agg #[(.int .u64 x8aa), (.slice p8ab n8ab c8ab)]), (.int .i64 x8b)])) σ1))) : Spec prog 28 #[(.agg #[(.int .u64 x0a), (.slice p0b n0b c0b)]), (.int .i64 x1)] σ R := by
 refine Spec.of_at (fn := f28) (c := K0) func28 (by kernel_rfl) (Nat.le_of_ble_eq_true (by kernel_rfl)) (fun e he => ?_)
 refine At.ofL (l := [(0, (.agg #[(.int .u64 x0a), (.slice p0b n0b c0b)])), (1, (.int .i64 x1))]) ⟨he 0, he 1, trivial⟩ (fun J => ?_)
 show At (gl R) _ _ _ _
 refine At.s K1 K2 ?_
 refine At.rg 0 [0, 1, 2] ?_
 refine Seq.o ?_
 refine OpTo.box (T := 25) (d := (some 2)) (ty := 0) (x := (.tmp 0)) (gd := none) (cs := #[(.int .u64 x0a), (.slice p0b n0b c0b)]) (by kernel_rfl) rfl rfl rfl (fun b2 => ?_)
 refine Seq.o ?_
 refine OpTo.alloc (T := 25) (d := (some 4)) (ty := 0)  (gd := none) (cs := #[(.int .u64 0), (.slice none 0 0)]) (by kernel_rfl) rfl rfl zeroValue25 rfl (fun b4 => ?_)
 refine Seq.u 5 (.int .i64 0) ?_
 refine Seq.done ?_
 refine At.L [(1, (.int .i64 x1)), (2, (.pointer (some ⟨b2, 0, none⟩))), (4, (.pointer (some ⟨b4, 0, none⟩)))] fun J => ?_
 refine At.s K3 K4 ?_
 refine At.rg 1 [0, 1, 2, 3, 4, 5, 6] ?_
 refine Seq.z 6 (.load 25 (.tmp 2)) 25 (.agg #[(.int .u64 x0a), (.slice p0b n0b c0b)]) (Y.ldab (vs := [(.int .u64 x0a), (.slice p0b n0b c0b)]) isAgg25 sizeOf25 rfl rfl (.tail _ (List.mem_cons_self ..)) rfl) ?_
 refine Seq.u 7 (.int .i64 x1) ?_
 refine Seq.o ?_
 refine OpTo.cl (some 8) call45 (h.cont fun v σ1 h2 => ?_); replace h := h2; clear h2
 obtain ⟨x8aa, p8ab, n8ab, c8ab, x8b, rfl, h⟩ := h
 refine Seq.u 9 (.agg #[(.int .u64 x8aa), (.slice p8ab n8ab c8ab)]) ?_
 refine Seq.u 10 (.int .i64 x8b) ?_
 refine Seq.o ?_
 refine OpTo.storeb (T := 25) (ty := 0) (x := (.tmp 4)) (y := (.tmp 9)) (t := 25) (j := 0) (b := b4) (o := 0) (c' := #[(.int .u64 x8aa), (.slice p8ab n8ab c8ab)]) (v := (.agg #[(.int .u64 x8aa), (.slice p8ab n8ab c8ab)])) (gd := none) (by kernel_rfl) rfl sizeOf25 rfl rfl rfl rfl rfl rfl rfl ?_
 simp only [List.set]
 refine Seq.u 5 (.int .i64 x8b) ?_
 refine Seq.done ?_
 refine At.L [(4, (.pointer (some ⟨b4, 0, none⟩))), (5, (.int .i64 x8b))] fun J => ?_
 exact At.rt [.cell 4 25, .tmp 5] [(.agg #[(.int .u64 x8aa), (.slice p8ab n8ab c8ab)]), (.int .i64 x8b)] func28 ⟨_, _, rfl, ⟨_, rfl, ldab_run isAgg25 sizeOf25 rfl (List.mem_cons_self ..)⟩, ⟨_, rfl, rfl⟩⟩ h
end ring_Gone
end TwR
end
section
/- written by gen.py: program points and what leads to them -/
set_option linter.unusedVariables false
set_option maxRecDepth 100000
namespace TwR
open Go Tw Go.Proofs.Try
namespace ring_change_join
abbrev fid : Nat := 46
noncomputable def K0 : Code := f46.body.getD .skip
noncomputable def K1 := Tw.cl K0
noncomputable def K2 := Tw.cr K0
noncomputable def K3 := Tw.cl K2
noncomputable def K4 := Tw.cl K3
noncomputable def K5 := Tw.cr K3
noncomputable def K6 := Tw.cl K5
noncomputable def K7 := Tw.cl K6
noncomputable def K8 := Tw.cr K6
noncomputable def K9 := Tw.cr K5
noncomputable def K10 := Tw.cr K2
noncomputable def K11 := Tw.cl K10
noncomputable def K12 := Tw.cr K10
noncomputable def K13 := Tw.cl K12
noncomputable def K14 := Tw.cl K13
noncomputable def K15 := Tw.cl K14
noncomputable def K16 := Tw.cl K15
noncomputable def K17 := Tw.cl K16
noncomputable def K18 := Tw.cr K16
noncomputable def K19 := Tw.cl K18
noncomputable def K20 := Tw.cr K18
noncomputable def K21 := Tw.cr K15
noncomputable def K22 := Tw.cl K21
noncomputable def K23 := Tw.cr K12
noncomputable def K24 := Tw.cl K23
noncomputable def K25 := Tw.cr K23
noncomputable def K26 := Tw.cl K25
noncomputable def K27 := Tw.cr K25
noncomputable abbrev gl (R : Ending → Hp → Prop) : Gl := Gl.fn prog 46 49 R
def pt17 (R : Ending → Hp → Prop) (q1a : Option Addr) (x1b : Int) (x1c : Int) (x3 : Int) (σ : Hp) : Prop := ∀ (J : Env) (b1 : Nat), At (gl R) [.code K17, .code K18, .code K21, .inLoop K15, .inBlock 0, .code K23] (upds J [(1, (.pointer (some ⟨b1, 0, none⟩))), (3, (.int .i64 x3))]) [(b1, .cells #[(.pointer q1a), (.int .i64 x1b), (.int .i64 x1c)] 75 (0, 0))] σ
theorem start {R : Ending → Hp → Prop} {q0a : Option Addr} {x0b : Int} {x0c : Int} {σ : Hp} (h : ((0 : Int) ≤ x0c → R (.returned (.int .i64 131)) σ) ∧ (¬ ((0 : Int) ≤ x0c) → pt17 R q0a x0b x0c 0 σ)) : Spec prog 46 #[(.agg #[(.pointer q0a), (.int .i64 x0b), (.int .i64 x0c)])] σ R := by
 refine Spec.of_at (fn := f46) (c := K0) func46 (by kernel_rfl) (Nat.le_of_ble_eq_true (by kernel_rfl)) (fun e he => ?_)
 refine At.ofL (l := [(0, (.agg #[(.pointer q0a), (.int .i64 x0b), (.int .i64 x0c)]))]) ⟨he 0, trivial⟩ (fun J => ?_)
 show At (gl R) _ _ _ _
 refine At.s K1 K2 ?_
 refine At.rg 0 [0, 1] ?_
 refine Seq.o ?_
 refine OpTo.box (T := 75) (d := (some 1)) (ty := 0) (x := (.tmp 0)) (gd := none) (cs := #[(.pointer q0a), (.int .i64 x0b), (.int .i64 x0c)]) (by kernel_rfl) rfl rfl rfl (fun b1 => ?_)
 refine Seq.u 2 (.int .i64 0) ?_
 refine Seq.done ?_
 refine At.L [(1, (.pointer (some ⟨b1, 0, none⟩)))] fun J => ?_
 refine At.s K3 K10 ?_
 refine At.s K4 K5 ?_
 refine At.rg 1 [0, 1, 2] ?_
 refine Seq.z 4 (.fieldAddr 75 (.tmp 1) 2) 0 (.pointer (some ⟨b1, 2, none⟩)) (Y.fieldAddr (fd := (fieldOf prog 75 2)) underlying75 (by kernel_rfl) sizeOf3 rfl rfl) ?_
 refine Seq.z 5 (.load 3 (.tmp 4)) 3 (.int .i64 x0c) (Y.ldb isAgg3 rfl (List.mem_cons_self ..) rfl) ?_
 refine Seq.u 6 (.bool (decide ((0 : Int) ≤ x0c))) ?_
 refine Seq.done ?_
 refine At.L [(1, (.pointer (some ⟨b1, 0, none⟩))), (6, (.bool (decide ((0 : Int) ≤ x0c))))] fun J => ?_
 cases hb : (decide ((0 : Int) ≤ x0c)) with
 | true =>
  replace h := h.1 (of_decide_eq_true hb)
  refine At.cT 6 K6 K9 ?_
  refine At.s K7 K8 ?_
  refine At.rg 2 [0] ?_
  refine Seq.u 2 (.int .i64 131) ?_
  refine Seq.done ?_
  refine At.L [(2, (.int .i64 131))] fun J => ?_
  exact At.rt [.tmp 2] [(.int .i64 131)] func46 ⟨_, rfl, rfl⟩ h
 | false =>
  replace h := h.2 (of_decide_eq_false hb)
  refine At.cF 6 K6 K9 ?_
  refine At.skip ?_
  refine At.s K11 K12 ?_
  refine At.rg 3 [0] ?_
  refine Seq.u 3 (.int .i64 0) ?_
  refine Seq.done ?_
  refine At.L [(1, (.pointer (some ⟨b1, 0, none⟩))), (3, (.int .i64 0))] fun J => ?_
  refine At.s K13 K23 ?_
  refine At.b 0 K14 ?_
  refine At.loop (x := K15) (by kernel_rfl) ?_
  refine At.s K16 K21 ?_
  refine At.s K17 K18 ?_
  exact At.v [(1, (.pointer (some ⟨b1, 0, none⟩))), (3, (.int .i64 0))] (h _ b1)
theorem pt17_of {R : Ending → Hp → Prop} {q1a : Option Addr} {x1b : Int} {x1c : Int} {x3 : Int} {σ : Hp} (h : ∃ (b10 o10 : Nat), q1a = some ⟨b10, o10, none⟩ ∧ ∃ p12 : Option Addr, ∃ n12 : Nat, ∃ c12 : Nat, Hp.ld σ ⟨b10, (o10 + 1), none⟩ = some (.slice p12 n12 c12) ∧ ((x3 : Int) < (n12 : Int) → ∃ p20 : Option Addr, ∃ n20 : Nat, ∃ c20 : Nat, Hp.ld σ ⟨b10, (o10 + 1), none⟩ = some (.slice p20 n20 c20) ∧ ∃ (b22 o22 : Nat), p20 = some ⟨b22, o22, none⟩ ∧ ((0 : Int) ≤ x3 ∧ x3 < (n20 : Int)) ∧ ∃ x24 : Int, Hp.ld σ ⟨b22, (o22 + Int.toNat x3 * 3), none⟩ = some (.int .i64 x24) ∧ ((x24 : Int) < x1b → I64 (x3 + 1) ∧ pt17 R ((some ⟨b10, o10, none⟩)) x1b x1c ((x3 + 1)) σ) ∧ (¬ ((x24 : Int) < x1b) → ∃ p37 : Option Addr, ∃ n37 : Nat, ∃ c37 : Nat, Hp.ld σ ⟨b10, (o10 + 1), none⟩ = some (.slice p37 n37 c37) ∧ Spec prog 36 #[(.int .i64 x1b)] σ (Cont R (fun v σ1 => ∃ p43 : Option Addr, ∃ n43 : Nat, ∃ c43 : Nat, v = (.slice p43 n43 c43) ∧ Kp [b10] σ σ1 ∧ ∀ b45 : Nat, σ1 b45 = none → Spec prog 68 #[(.slice p37 n37 c37), (.int .i64 x3), (.slice (some ⟨b45, 0, none⟩) 1 1)] (Hp.set σ1 b45 (.cells #[(.int .i64 x1b), (.int .i64 1), (.slice p43 n43 c43)] 55 (0, 0))) (Cont R (fun v_2 σ1_2 => ∃ p46 : Option Addr, ∃ n46 : Nat, ∃ c46 : Nat, v_2 = (.slice p46 n46 c46) ∧ Eff prog (Instr.storeAt 23 (.pointer (some ⟨b10, (o10 + 1), none⟩)) (.slice p46 n46 c46)) σ1_2 (fun _ σ1_3 => R (.returned (.int .i64 0)) σ1_3))))))) ∧ (¬ ((x3 : Int) < (n12 : Int)) → ∃ p37 : Option Addr, ∃ n37 : Nat, ∃ c37 : Nat, Hp.ld σ ⟨b10, (o10 + 1), none⟩ = some (.slice p37 n37 c37) ∧ Spec prog 36 #[(.int .i64 x1b)] σ (Cont R (fun v σ1 => ∃ p43 : Option Addr, ∃ n43 : Nat, ∃ c43 : Nat, v = (.slice p43 n43 c43) ∧ Kp [b10] σ σ1 ∧ ∀ b45 : Nat, σ1 b45 = none → Spec prog 68 #[(.slice p37 n37 c37), (.int .i64 x3), (.slice (some ⟨b45, 0, none⟩) 1 1)] (Hp.set σ1 b45 (.cells #[(.int .i64 x1b), (.int .i64 1), (.slice p43 n43 c43)] 55 (0, 0))) (Cont R (fun v_2 σ1_2 => ∃ p46 : Option Addr, ∃ n46 : Nat, ∃ c46 : Nat, v_2 = (.slice p46 n46 c46) ∧ Eff prog (Instr.storeAt 23 (.pointer (some ⟨b10, (o10 + 1), none⟩)) (.slice p46 n46 c46)) σ1_2 (fun _ σ1_3 => R (.returned (.int .i64 0)) σ1_3))))))) : pt17 R q1a x1b x1c x3 σ := by
 intro J b1
 show At (gl R) _ _ _ _
 refine At.draw (id := 4) (ops := cO K17) (n := 22) (q := none) (plan := [(0, true), (1, true), (2, true), (3, true), (4, true), (5, true), (6, true), (7, true), (8, true), (9, true), (10, true), (11, true), (12, true), (13, true), (14, true), (15, true), (16, true), (17, true), (18, true), (19, true), (20, true), (21, true)]) (tl := []) mixed (by kernel_rfl) (by kernel_rfl) ?_
 refine Head.u 7 (.int .i64 x3) ?_
 refine Head.z 8 (.fieldAddr 75 (.tmp 1) 0) 0 (.pointer (some ⟨b1, 0, none⟩)) (Y.fieldAddr (fd := (fieldOf prog 75 0)) underlying75 (by kernel_rfl) sizeOf73 rfl rfl) ?_
 refine Head.z 9 (.load 73 (.tmp 8)) 73 (.pointer q1a) (Y.ldb isAgg73 rfl (List.mem_cons_self ..) rfl) ?_
 obtain ⟨b10, o10, hq, h⟩ := h
 subst hq
 refine Head.z 10 (.nilCheck (.tmp 9)) 0 (.pointer (some ⟨b10, o10, none⟩)) (Y.nilCheck rfl) ?_
 refine Head.z 11 (.fieldAddr 25 (.tmp 10) 1) 0 (.pointer (some ⟨b10, (o10 + 1), none⟩)) (Y.fieldAddr (fd := (fieldOf prog 25 1)) underlying25 (by kernel_rfl) sizeOf23 rfl rfl) ?_
 obtain ⟨p12, n12, c12, hl, h⟩ := h
 refine Head.z 12 (.load 23 (.tmp 11)) 23 (.slice p12 n12 c12) (Y.ld isAgg23 rfl hl) ?_
 refine Head.z 13 (.call { callee := .builtin .len, args := #[(.tmp 12)], argTypes := #[23] }) 3 (.int .i64 (n12 : Int)) (Y.lenS underlying23 rfl rfl) ?_
 refine Head.u 14 (.bool (decide ((x3 : Int) < (n12 : Int)))) ?_
 refine Head.u 15 (.bool (decide ((x3 : Int) < (n12 : Int)))) ?_
 cases hb : (decide ((x3 : Int) < (n12 : Int))) with
 | true =>
  replace h := h.1 (of_decide_eq_true hb)
  refine Head.zg 16 (.fieldAddr 75 (.tmp 1) 0) 0 (8, true) (.pointer (some ⟨b1, 0, none⟩)) (Y.fieldAddr (fd := (fieldOf prog 75 0)) underlying75 (by kernel_rfl) sizeOf73 rfl rfl) ?_
  refine Head.zg 17 (.load 73 (.tmp 16)) 73 (8, true) (.pointer (some ⟨b10, o10, none⟩)) (Y.ldb isAgg73 rfl (List.mem_cons_self ..) rfl) ?_
  refine Head.zg 18 (.nilCheck (.tmp 17)) 0 (8, true) (.pointer (some ⟨b10, o10, none⟩)) (Y.nilCheck rfl) ?_
  refine Head.zg 19 (.fieldAddr 25 (.tmp 18) 1) 0 (8, true) (.pointer (some ⟨b10, (o10 + 1), none⟩)) (Y.fieldAddr (fd := (fieldOf prog 25 1)) underlying25 (by kernel_rfl) sizeOf23 rfl rfl) ?_
  obtain ⟨p20, n20, c20, hl, h⟩ := h
  refine Head.zg 20 (.load 23 (.tmp 19)) 23 (8, true) (.slice p20 n20 c20) (Y.ld isAgg23 rfl hl) ?_
  refine Head.u 21 (.int .i64 x3) ?_
  obtain ⟨b22, o22, hq, h⟩ := h
  subst hq
  obtain ⟨hi, h⟩ := h
  refine Head.zg 22 (.indexAddr 23 (.tmp 20) (.tmp 21)) 0 (8, true) (.pointer (some ⟨b22, (o22 + Int.toNat x3 * 3), none⟩)) (Y.idx underlying23 sizeOf55 rfl rfl hi rfl) ?_
  refine Head.zg 23 (.fieldAddr 55 (.tmp 22) 0) 0 (8, true) (.pointer (some ⟨b22, (o22 + Int.toNat x3 * 3), none⟩)) (Y.fieldAddr (fd := (fieldOf prog 55 0)) underlying55 (by kernel_rfl) sizeOf3 rfl rfl) ?_
  obtain ⟨x24, hl, h⟩ := h
  refine Head.zg 24 (.load 3 (.tmp 23)) 3 (8, true) (.int .i64 x24) (Y.ld isAgg3 rfl hl) ?_
  refine Head.zg 25 (.fieldAddr 75 (.tmp 1) 1) 0 (8, true) (.pointer (some ⟨b1, 1, none⟩)) (Y.fieldAddr (fd := (fieldOf prog 75 1)) underlying75 (by kernel_rfl) sizeOf3 rfl rfl) ?_
  refine Head.zg 26 (.load 3 (.tmp 25)) 3 (8, true) (.int .i64 x1b) (Y.ldb isAgg3 rfl (List.mem_cons_self ..) rfl) ?_
  refine Head.u 27 (.bool (decide ((x24 : Int) < x1b))) ?_
  refine Head.u 28 (.bool (decide ((x24 : Int) < x1b))) ?_
  refine Head.done ?_
  refine Seq.done ?_
  refine At.L [(1, (.pointer (some ⟨b1, 0, none⟩))), (3, (.int .i64 x3)), (28, (.bool (decide ((x24 : Int) < x1b))))] fun J => ?_
  cases hb : (decide ((x24 : Int) < x1b)) with
  | true =>
   replace h := h.1 (of_decide_eq_true hb)
   refine At.cT 28 K19 K20 ?_
   refine At.skip ?_
   refine At.b 1 K22 ?_
   refine At.rg 5 [0, 1, 2] ?_
   refine Seq.u 29 (.int .i64 x3) ?_
   obtain ⟨hi, h⟩ := h
   refine Seq.z 30 (.binOp .add 3 (.tmp 29) (.const (.int .i64 1)) 3) 3 (.int .i64 (x3 + 1)) (Y.addI hi rfl rfl) ?_
   refine Seq.u 3 (.int .i64 (x3 + 1)) ?_
   refine Seq.done ?_
   refine At.L [(1, (.pointer (some ⟨b1, 0, none⟩))), (3, (.int .i64 (x3 + 1)))] fun J => ?_
   refine At.inBlock ?_
   refine At.inLoop ?_
   refine At.s K16 K21 ?_
   refine At.s K17 K18 ?_
   exact At.v [(1, (.pointer (some ⟨b1, 0, none⟩))), (3, (.int .i64 (x3 + 1)))] (h _ b1)
  | false =>
   replace h := h.2 (of_decide_eq_false hb)
   refine At.cF 28 K19 K20 ?_
   refine At.x 0 [.code K23] ?_
   refine At.s K24 K25 ?_
   refine At.draw (id := 6) (ops := cO K24) (n := 18) (q := (some [])) (plan := [(0, true), (1, true), (2, true), (3, true), (4, true), (5, true), (6, true), (7, true), (8, true), (9, true), (10, true), (11, true), (12, false), (13, true), (14, false), (15, false), (16, true), (17, true)]) (tl := [18]) mixed (by kernel_rfl) (by kernel_rfl) ?_
   refine Head.z 31 (.fieldAddr 75 (.tmp 1) 0) 0 (.pointer (some ⟨b1, 0, none⟩)) (Y.fieldAddr (fd := (fieldOf prog 75 0)) underlying75 (by kernel_rfl) sizeOf73 rfl rfl) ?_
   refine Head.z 32 (.load 73 (.tmp 31)) 73 (.pointer (some ⟨b10, o10, none⟩)) (Y.ldb isAgg73 rfl (List.mem_cons_self ..) rfl) ?_
   refine Head.z 33 (.fieldAddr 75 (.tmp 1) 0) 0 (.pointer (some ⟨b1, 0, none⟩)) (Y.fieldAddr (fd := (fieldOf prog 75 0)) underlying75 (by kernel_rfl) sizeOf73 rfl rfl) ?_
   refine Head.z 34 (.load 73 (.tmp 33)) 73 (.pointer (some ⟨b10, o10, none⟩)) (Y.ldb isAgg73 rfl (List.mem_cons_self ..) rfl) ?_
   refine Head.z 35 (.nilCheck (.tmp 34)) 0 (.pointer (some ⟨b10, o10, none⟩)) (Y.nilCheck rfl) ?_
   refine Head.z 36 (.fieldAddr 25 (.tmp 35) 1) 0 (.pointer (some ⟨b10, (o10 + 1), none⟩)) (Y.fieldAddr (fd := (fieldOf prog 25 1)) underlying25 (by kernel_rfl) sizeOf23 rfl rfl) ?_
   obtain ⟨p37, n37, c37, hl, h⟩ := h
   refine Head.yl b10 [[15]] rfl (by kernel_rfl) (d := (some 37)) (op := (.load 23 (.tmp 36))) (ty := 23) (v := (.slice p37 n37 c37)) (by kernel_rfl) rfl (Y.ld isAgg23 rfl (lim_ld hl)) ?_
   refine Head.u 38 (.int .i64 x3) ?_
   refine Head.z 39 (.fieldAddr 75 (.tmp 1) 1) 0 (.pointer (some ⟨b1, 1, none⟩)) (Y.fieldAddr (fd := (fieldOf prog 75 1)) underlying75 (by kernel_rfl) sizeOf3 rfl rfl) ?_
   refine Head.z 40 (.load 3 (.tmp 39)) 3 (.int .i64 x1b) (Y.ldb isAgg3 rfl (List.mem_cons_self ..) rfl) ?_
   refine Head.z 41 (.fieldAddr 75 (.tmp 1) 1) 0 (.pointer (some ⟨b1, 1, none⟩)) (Y.fieldAddr (fd := (fieldOf prog 75 1)) underlying75 (by kernel_rfl) sizeOf3 rfl rfl) ?_
   refine Head.z 42 (.load 3 (.tmp 41)) 3 (.int .i64 x1b) (Y.ldb isAgg3 rfl (List.mem_cons_self ..) rfl) ?_
   refine Head.o (q' := (some [(b10, [15])])) rfl ?_
   refine OpTo.cl (some 43) call36 (h.cont fun v σ1 h2 => ?_); replace h := h2; clear h2
   obtain ⟨p43, n43, c43, rfl, hk, h⟩ := h
   refine ⟨⟨fun _ h => h, kp_q (L := [(b10, [15])]) hk⟩, ?_⟩
   refine Head.z 44 (.build 55 #[(0, (.tmp 40)), (1, (.const (.int .i64 1))), (2, (.tmp 43))]) 55 (.agg #[(.int .i64 x1b), (.int .i64 1), (.slice p43 n43 c43)]) (Y.build (vs := [(0, (.int .i64 x1b)), (1, (.int .i64 1)), (2, (.slice p43 n43 c43))]) rfl (by kernel_rfl)) ?_
   refine Head.o (q' := (some [(b10, [15])])) rfl ?_
   refine OpTo.bslice (T := 23) (E := 55) (m := 1) (ps := #[(0, (.tmp 44))]) (d := (some 45)) (ty := 23) (gd := none) (vs := [(0, (.agg #[(.int .i64 x1b), (.int .i64 1), (.slice p43 n43 c43)]))]) (cs := #[(.int .i64 x1b), (.int .i64 1), (.slice p43 n43 c43)]) underlying23 (by kernel_rfl) rfl rfl rfl (by kernel_rfl) (fun b45 hn => ?_)
   refine ⟨⟨fun _ h => h, kp_q (Kp.of_ext (Ext.set hn))⟩, ?_⟩
   replace h := h b45 hn
   refine Head.o (q' := (some [])) rfl ?_
   refine OpTo.cl (some 46) call68 (h.cont fun v_2 σ1_2 h2 => ?_); replace h := h2; clear h2
   obtain ⟨p46, n46, c46, rfl, h⟩ := h
   refine ⟨⟨fun _ h => h, kp_q (L := []) Kp.nil⟩, ?_⟩
   refine Head.z 47 (.nilCheck (.tmp 32)) 0 (.pointer (some ⟨b10, o10, none⟩)) (Y.nilCheck rfl) ?_
   refine Head.z 48 (.fieldAddr 25 (.tmp 47) 1) 0 (.pointer (some ⟨b10, (o10 + 1), none⟩)) (Y.fieldAddr (fd := (fieldOf prog 25 1)) underlying25 (by kernel_rfl) sizeOf23 rfl rfl) ?_
   refine Head.done ?_
   refine Seq.o ?_
   refine OpTo.store (T := 23) (ty := 0) (x := (.tmp 48)) (y := (.tmp 46)) (p := (.pointer (some ⟨b10, (o10 + 1), none⟩))) (v := (.slice p46 n46 c46)) (gd := none) (by kernel_rfl) rfl rfl rfl (h.mono (fun _ σ1_3 h2 => ?_)); replace h := h2; clear h2
   refine Seq.done ?_
   refine At.L [] fun J => ?_
   refine At.s K26 K27 ?_
   refine At.rg 7 [0] ?_
   refine Seq.u 2 (.int .i64 0) ?_
   refine Seq.done ?_
   refine At.L [(2, (.int .i64 0))] fun J => ?_
   exact At.rt [.tmp 2] [(.int .i64 0)] func46 ⟨_, rfl, rfl⟩ h
 | false =>
  replace h := h.2 (of_decide_eq_false hb)
  refine Head.n 16 ?_
  refine Head.n 17 ?_
  refine Head.n 18 ?_
  refine Head.n 19 ?_
  refine Head.n 20 ?_
  refine Head.n 21 ?_
  refine Head.n 22 ?_
  refine Head.n 23 ?_
  refine Head.n 24 ?_
  refine Head.n 25 ?_
  refine Head.n 26 ?_
  refine Head.n 27 ?_
  refine Head.u 28 (.bool false) ?_
  refine Head.done ?_
  refine Seq.done ?_
  refine At.L [(1, (.pointer (some ⟨b1, 0, none⟩))), (3, (.int .i64 x3)), (28, (.bool false))] fun J => ?_
  refine At.cF 28 K19 K20 ?_
  refine At.x 0 [.code K23] ?_
  refine At.s K24 K25 ?_
  refine At.draw (id := 6) (ops := cO K24) (n := 18) (q := (some [])) (plan := [(0, true), (1, true), (2, true), (3, true), (4, true), (5, true), (6, true), (7, true), (8, true), (9, true), (10, true), (11, true), (12, false), (13, true), (14, false), (15, false), (16, true), (17, true)]) (tl := [18]) mixed (by kernel_rfl) (by kernel_rfl) ?_
  refine Head.z 31 (.fieldAddr 75 (.tmp 1) 0) 0 (.pointer (some ⟨b1, 0, none⟩)) (Y.fieldAddr (fd := (fieldOf prog 75 0)) underlying75 (by kernel_rfl) sizeOf73 rfl rfl) ?_
  refine Head.z 32 (.load 73 (.tmp 31)) 73 (.pointer (some ⟨b10, o10, none⟩)) (Y.ldb isAgg73 rfl (List.mem_cons_self ..) rfl) ?_
  refine Head.z 33 (.fieldAddr 75 (.tmp 1) 0) 0 (.pointer (some ⟨b1, 0, none⟩)) (Y.fieldAddr (fd := (fieldOf prog 75 0)) underlying75 (by kernel_rfl) sizeOf73 rfl rfl) ?_
  refine Head.z 34 (.load 73 (.tmp 33)) 73 (.pointer (some ⟨b10, o10, none⟩)) (Y.ldb isAgg73 rfl (List.mem_cons_self ..) rfl) ?_
  refine Head.z 35 (.nilCheck (.tmp 34)) 0 (.pointer (some ⟨b10, o10, none⟩)) (Y.nilCheck rfl) ?_
  refine Head.z 36 (.fieldAddr 25 (.tmp 35) 1) 0 (.pointer (some ⟨b10, (o10 + 1), none⟩)) (Y.fieldAddr (fd := (fieldOf prog 25 1)) underlying25 (by kernel_rfl) sizeOf23 rfl rfl) ?_
  obtain ⟨p37, n37, c37, hl, h⟩ := h
  refine Head.yl b10 [[15]] rfl (by kernel_rfl) (d := (some 37)) (op := (.load 23 (.tmp 36))) (ty := 23) (v := (.slice p37 n37 c37)) (by kernel_rfl) rfl (Y.ld isAgg23 rfl (lim_ld hl)) ?_
  refine Head.u 38 (.int .i64 x3) ?_
  refine Head.z 39 (.fieldAddr 75 (.tmp 1) 1) 0 (.pointer (some ⟨b1, 1, none⟩)) (Y.fieldAddr (fd := (fieldOf prog 75 1)) underlying75 (by kernel_rfl) sizeOf3 rfl rfl) ?_
  refine Head.z 40 (.load 3 (.tmp 39)) 3 (.int .i64 x1b) (Y.ldb isAgg3 rfl (List.mem_cons_self ..) rfl) ?_
  refine Head.z 41 (.fieldAddr 75 (.tmp 1) 1) 0 (.pointer (some ⟨b1, 1, none⟩)) (Y.fieldAddr (fd := (fieldOf prog 75 1)) underlying75 (by kernel_rfl) sizeOf3 rfl rfl) ?_
  refine Head.z 42 (.load 3 (.tmp 41)) 3 (.int .i64 x1b) (Y.ldb isAgg3 rfl (List.mem_cons_self ..) rfl) ?_
  refine Head.o (q' := (some [(b10, [15])])) rfl ?_
  refine OpTo.cl (some 43) call36 (h.cont fun v σ1 h2 => ?_); replace h := h2; clear h2
  obtain ⟨p43, n43, c43, rfl, hk, h⟩ := h
  refine ⟨⟨fun _ h => h, kp_q (L := [(b10, [15])]) hk⟩, ?_⟩
  refine Head.z 44 (.build 55 #[(0, (.tmp 40)), (1, (.const (.int .i64 1))), (2, (.tmp 43))]) 55 (.agg #[(.int .i64 x1b), (.int .i64 1), (.slice p43 n43 c43)]) (Y.build (vs := [(0, (.int .i64 x1b)), (1, (.int .i64 1)), (2, (.slice p43 n43 c43))]) rfl (by kernel_rfl)) ?_
  refine Head.o (q' := (some [(b10, [15])])) rfl ?_
  refine OpTo.bslice (T := 23) (E := 55) (m := 1) (ps := #[(0, (.tmp 44))]) (d := (some 45)) (ty := 23) (gd := none) (vs := [(0, (.agg #[(.int .i64 x1b), (.int .i64 1), (.slice p43 n43 c43)]))]) (cs := #[(.int .i64 x1b), (.int .i64 1), (.slice p43 n43 c43)]) underlying23 (by kernel_rfl) rfl rfl rfl (by kernel_rfl) (fun b45 hn => ?_)
  refine ⟨⟨fun _ h => h, kp_q (Kp.of_ext (Ext.set hn))⟩, ?_⟩
  replace h := h b45 hn
  refine Head.o (q' := (some [])) rfl ?_
  refine OpTo.cl (some 46) call68 (h.cont fun v_2 σ1_2 h2 => ?_); replace h := h2; clear h2
  obtain ⟨p46, n46, c46, rfl, h⟩ := h
  refine ⟨⟨fun _ h => h, kp_q (L := []) Kp.nil⟩, ?_⟩
  refine Head.z 47 (.nilCheck (.tmp 32)) 0 (.pointer (some ⟨b10, o10, none⟩)) (Y.nilCheck rfl) ?_
  refine Head.z 48 (.fieldAddr 25 (.tmp 47) 1) 0 (.pointer (some ⟨b10, (o10 + 1), none⟩)) (Y.fieldAddr (fd := (fieldOf prog 25 1)) underlying25 (by kernel_rfl) sizeOf23 rfl rfl) ?_
  refine Head.done ?_
  refine Seq.o ?_
  refine OpTo.store (T := 23) (ty := 0) (x := (.tmp 48)) (y := (.tmp 46)) (p := (.pointer (some ⟨b10, (o10 + 1), none⟩))) (v := (.slice p46 n46 c46)) (gd := none) (by kernel_rfl) rfl rfl rfl (h.mono (fun _ σ1_3 h2 => ?_)); replace h := h2; clear h2
  refine Seq.done ?_
  refine At.L [] fun J => ?_
  refine At.s K26 K27 ?_
  refine At.rg 7 [0] ?_
  refine Seq.u 2 (.int .i64 0) ?_
  refine Seq.done ?_
  refine At.L [(2, (.int .i64 0))] fun J => ?_
  exact At.rt [.tmp 2] [(.int .i64 0)] func46 ⟨_, rfl, rfl⟩ h
end ring_change_join
namespace ring_change_activate
abbrev fid : Nat := 47
noncomputable def K0 : Code := f47.body.getD .skip
noncomputable def K1 := Tw.cl K0
noncomputable def K2 := Tw.cr K0
noncomputable def K3 := Tw.cl K2
noncomputable def K4 := Tw.cr K2
noncomputable abbrev gl (R : Ending → Hp → Prop) : Gl := Gl.fn prog 47 5 R
theorem start {R : Ending → Hp → Prop} {q0a : Option Addr} {x0b : Int} {x0c : Int} {σ : Hp} (h : Spec prog 69 #[(.agg #[(.pointer q0a), (.int .i64 x0b), (.int .i64 x0c)]), (.int .i64 1), (.int .i64 2)] σ (Cont R (fun v σ1 => ∃ x4 : Int, v = (.int .i64 x4) ∧ R (.returned (.int .i64 x4)) σ1))) : Spec prog 47 #[(.agg #[(.pointer q0a), (.int .i64 x0b), (.int .i64 x0c)])] σ R := by
 refine Spec.of_at (fn := f47) (c := K0) func47 (by kernel_rfl) (Nat.le_of_ble_eq_true (by kernel_rfl)) (fun e he => ?_)
 refine At.ofL (l := [(0, (.agg #[(.pointer q0a), (.int .i64 x0b), (.int .i64 x0c)]))]) ⟨he 0, trivial⟩ (fun J => ?_)
 show At (gl R) _ _ _ _
 refine At.s K1 K2 ?_
 refine At.rg 0 [0, 1] ?_
 refine Seq.o ?_
 refine OpTo.box (T := 75) (d := (some 1)) (ty := 0) (x := (.tmp 0)) (gd := none) (cs := #[(.pointer q0a), (.int .i64 x0b), (.int .i64 x0c)]) (by kernel_rfl) rfl rfl rfl (fun b1 => ?_)
 refine Seq.u 2 (.int .i64 0) ?_
 refine Seq.done ?_
 refine At.L [(1, (.pointer (some ⟨b1, 0, none⟩)))] fun J => ?_
 refine At.s K3 K4 ?_
 refine At.rg 1 [0, 1, 2] ?_
 refine Seq.z 3 (.load 75 (.tmp 1)) 75 (.agg #[(.pointer q0a), (.int .i64 x0b), (.int .i64 x0c)]) (Y.ldab (vs := [(.pointer q0a), (.int .i64 x0b), (.int .i64 x0c)]) isAgg75 sizeOf75 rfl rfl (List.mem_cons_self ..) rfl) ?_
 refine Seq.o ?_
 refine OpTo.cl (some 4) call69 (h.cont fun v σ1 h2 => ?_); replace h := h2; clear h2
 obtain ⟨x4, rfl, h⟩ := h
 refine Seq.u 2 (.int .i64 x4) ?_
 refine Seq.done ?_
 refine At.L [(2, (.int .i64 x4))] fun J => ?_
 exact At.rt [.tmp 2] [(.int .i64 x4)] func47 ⟨_, rfl, rfl⟩ h
end ring_change_activate
namespace ring_change_leave
abbrev fid : Nat := 48
noncomputable def K0 : Code := f48.body.getD .skip
noncomputable def K1 := Tw.cl K0
noncomputable def K2 := Tw.cr K0
noncomputable def K3 := Tw.cl K2
noncomputable def K4 := Tw.cr K2
noncomputable abbrev gl (R : Ending → Hp → Prop) : Gl := Gl.fn prog 48 5 R
theorem start {R : Ending → Hp → Prop} {q0a : Option Addr} {x0b : Int} {x0c : Int} {σ : Hp} (h : Spec prog 69 #[(.agg #[(.pointer q0a), (.int .i64 x0b), (.int .i64 x0c)]), (.int .i64 2), (.int .i64 3)] σ (Cont R (fun v σ1 => ∃ x4 : Int, v = (.int .i64 x4) ∧ R (.returned (.int .i64 x4)) σ1))) : Spec prog 48 #[(.agg #[(.pointer q0a), (.int .i64 x0b), (.int .i64 x0c)])] σ R := by
 refine Spec.of_at (fn := f48) (c := K0) func48 (by kernel_rfl) (Nat.le_of_ble_eq_true (by kernel_rfl)) (fun e he => ?_)
 refine At.ofL (l := [(0, (.agg #[(.pointer q0a), (.int .i64 x0b), (.int .i64 x0c)]))]) ⟨he 0, trivial⟩ (fun J => ?_)
 show At (gl R) _ _ _ _
 refine At.s K1 K2 ?_
 refine At.rg 0 [0, 1] ?_
 refine Seq.o ?_
 refine OpTo.box (T := 75) (d := (some 1)) (ty := 0) (x := (.tmp 0)) (gd := none) (cs := #[(.pointer q0a), (.int .i64 x0b), (.int .i64 x0c)]) (by kernel_rfl) rfl rfl rfl (fun b1 => ?_)
 refine Seq.u 2 (.int .i64 0) ?_
 refine Seq.done ?_
 refine At.L [(1, (.pointer (some ⟨b1, 0, none⟩)))] fun J => ?_
 refine At.s K3 K4 ?_
 refine At.rg 1 [0, 1, 2] ?_
 refine Seq.z 3 (.load 75 (.tmp 1)) 75 (.agg #[(.pointer q0a), (.int .i64 x0b), (.int .i64 x0c)]) (Y.ldab (vs := [(.pointer q0a), (.int .i64 x0b), (.int .i64 x0c)]) isAgg75 sizeOf75 rfl rfl (List.mem_cons_self ..) rfl) ?_
 refine Seq.o ?_
 refine OpTo.cl (some 4) call69 (h.cont fun v σ1 h2 => ?_); replace h := h2; clear h2
 obtain ⟨x4, rfl, h⟩ := h
 refine Seq.u 2 (.int .i64 x4) ?_
 refine Seq.done ?_
 refine At.L [(2, (.int .i64 x4))] fun J => ?_
 exact At.rt [.tmp 2] [(.int .i64 x4)] func48 ⟨_, rfl, rfl⟩ h
end ring_change_leave
namespace ring_change_gone
abbrev fid : Nat := 49
noncomputable def K0 : Code := f49.body.getD .skip
noncomputable def K1 := Tw.cl K0
noncomputable def K2 := Tw.cr K0
noncomputable def K3 := Tw.cl K2
noncomputable def K4 := Tw.cr K2
noncomputable def K5 := Tw.cl K4
noncomputable def K6 := Tw.cl K5
noncomputable def K7 := Tw.cr K5
noncomputable def K8 := Tw.cl K7
noncomputable def K9 := Tw.cr K7
noncomputable def K10 := Tw.cr K4
noncomputable def K11 := Tw.cl K10
noncomputable def K12 := Tw.cr K10
noncomputable abbrev gl (R : Ending → Hp → Prop) : Gl := Gl.fn prog 49 24 R
def pt11 (R : Ending → Hp → Prop) (x3 : Int) (σ : Hp) : Prop := ∀ (J : Env), At (gl R) [.code K11, .code K12] (upds J [(3, (.int .i64 x3))]) [] σ
theorem start {R : Ending → Hp → Prop} {q0a : Option Addr} {x0b : Int} {x0c : Int} {σ : Hp} (h : Spec prog 69 #[(.agg #[(.pointer q0a), (.int .i64 x0b), (.int .i64 x0c)]), (.int .i64 3), (.int .i64 3)] σ (Cont R (fun v σ1 => ∃ x5 : Int, v = (.int .i64 x5) ∧ ((x5 : Int) = 0 → ∃ (b12 o12 : Nat), q0a = some ⟨b12, o12, none⟩ ∧ ∃ p14 : Option Addr, ∃ n14 : Nat, ∃ c14 : Nat, Hp.ld σ1 ⟨b12, (o12 + 1), none⟩ = some (.slice p14 n14 c14) ∧ I64 (x0c + 1) ∧ Spec prog 70 #[(.slice p14 n14 c14), (.int .i64 x0c), (.int .i64 (x0c + 1))] σ1 (Cont R (fun v_2 σ1_2 => ∃ p20 : Option Addr, ∃ n20 : Nat, ∃ c20 : Nat, v_2 = (.slice p20 n20 c20) ∧ Eff prog (Instr.storeAt 23 (.pointer (some ⟨b12, (o12 + 1), none⟩)) (.slice p20 n20 c20)) σ1_2 (fun _ σ1_3 => pt11 R x5 σ1_3)))) ∧ (¬ ((x5 : Int) = 0) → pt11 R x5 σ1)))) : Spec prog 49 #[(.agg #[(.pointer q0a), (.int .i64 x0b), (.int .i64 x0c)])] σ R := by
 refine Spec.of_at (fn := f49) (c := K0) func49 (by kernel_rfl) (Nat.le_of_ble_eq_true (by kernel_rfl)) (fun e he => ?_)
 refine At.ofL (l := [(0, (.agg #[(.pointer q0a), (.int .i64 x0b), (.int .i64 x0c)]))]) ⟨he 0, trivial⟩ (fun J => ?_)
 show At (gl R) _ _ _ _
 refine At.s K1 K2 ?_
 refine At.rg 0 [0, 1] ?_
 refine Seq.o ?_
 refine OpTo.box (T := 75) (d := (some 1)) (ty := 0) (x := (.tmp 0)) (gd := none) (cs := #[(.pointer q0a), (.int .i64 x0b), (.int .i64 x0c)]) (by kernel_rfl) rfl rfl rfl (fun b1 => ?_)
 refine Seq.u 2 (.int .i64 0) ?_
 refine Seq.done ?_
 refine At.L [(1, (.pointer (some ⟨b1, 0, none⟩)))] fun J => ?_
 refine At.s K3 K4 ?_
 refine At.rg 1 [0, 1, 2] ?_
 refine Seq.z 4 (.load 75 (.tmp 1)) 75 (.agg #[(.pointer q0a), (.int .i64 x0b), (.int .i64 x0c)]) (Y.ldab (vs := [(.pointer q0a), (.int .i64 x0b), (.int .i64 x0c)]) isAgg75 sizeOf75 rfl rfl (List.mem_cons_self ..) rfl) ?_
 refine Seq.o ?_
 refine OpTo.cl (some 5) call69 (h.cont fun v σ1 h2 => ?_); replace h := h2; clear h2
 obtain ⟨x5, rfl, h⟩ := h
 refine Seq.u 3 (.int .i64 x5) ?_
 refine Seq.done ?_
 refine At.L [(1, (.pointer (some ⟨b1, 0, none⟩))), (3, (.int .i64 x5))] fun J => ?_
 refine At.s K5 K10 ?_
 refine At.s K6 K7 ?_
 refine At.rg 2 [0, 1] ?_
 refine Seq.u 6 (.int .i64 x5) ?_
 refine Seq.u 7 (.bool (decide ((x5 : Int) = 0))) ?_
 refine Seq.done ?_
 refine At.L [(1, (.pointer (some ⟨b1, 0, none⟩))), (3, (.int .i64 x5)), (7, (.bool (decide ((x5 : Int) = 0))))] fun J => ?_
 cases hb : (decide ((x5 : Int) = 0)) with
 | true =>
  replace h := h.1 (of_decide_eq_true hb)
  refine At.cT 7 K8 K9 ?_
  refine At.draw (id := 3) (ops := cO K8) (n := 15) (q := (some [])) (plan := [(0, true), (1, true), (2, true), (3, true), (4, true), (5, true), (6, true), (7, true), (8, true), (9, true), (10, true), (11, true), (12, false), (13, true), (14, true)]) (tl := [15]) mixed (by kernel_rfl) (by kernel_rfl) ?_
  refine Head.z 8 (.fieldAddr 75 (.tmp 1) 0) 0 (.pointer (some ⟨b1, 0, none⟩)) (Y.fieldAddr (fd := (fieldOf prog 75 0)) underlying75 (by kernel_rfl) sizeOf73 rfl rfl) ?_
  refine Head.z 9 (.load 73 (.tmp 8)) 73 (.pointer q0a) (Y.ldb isAgg73 rfl (List.mem_cons_self ..) rfl) ?_
  refine Head.z 10 (.fieldAddr 75 (.tmp 1) 0) 0 (.pointer (some ⟨b1, 0, none⟩)) (Y.fieldAddr (fd := (fieldOf prog 75 0)) underlying75 (by kernel_rfl) sizeOf73 rfl rfl) ?_
  refine Head.z 11 (.load 73 (.tmp 10)) 73 (.pointer q0a) (Y.ldb isAgg73 rfl (List.mem_cons_self ..) rfl) ?_
  obtain ⟨b12, o12, hq, h⟩ := h
  subst hq
  refine Head.z 12 (.nilCheck (.tmp 11)) 0 (.pointer (some ⟨b12, o12, none⟩)) (Y.nilCheck rfl) ?_
  refine Head.z 13 (.fieldAddr 25 (.tmp 12) 1) 0 (.pointer (some ⟨b12, (o12 + 1), none⟩)) (Y.fieldAddr (fd := (fieldOf prog 25 1)) underlying25 (by kernel_rfl) sizeOf23 rfl rfl) ?_
  obtain ⟨p14, n14, c14, hl, h⟩ := h
  refine Head.yl b12 [[12]] rfl (by kernel_rfl) (d := (some 14)) (op := (.load 23 (.tmp 13))) (ty := 23) (v := (.slice p14 n14 c14)) (by kernel_rfl) rfl (Y.ld isAgg23 rfl (lim_ld hl)) ?_
  refine Head.z 15 (.fieldAddr 75 (.tmp 1) 2) 0 (.pointer (some ⟨b1, 2, none⟩)) (Y.fieldAddr (fd := (fieldOf prog 75 2)) underlying75 (by kernel_rfl) sizeOf3 rfl rfl) ?_
  refine Head.z 16 (.load 3 (.tmp 15)) 3 (.int .i64 x0c) (Y.ldb isAgg3 rfl (List.mem_cons_self ..) rfl) ?_
  refine Head.z 17 (.fieldAddr 75 (.tmp 1) 2) 0 (.pointer (some ⟨b1, 2, none⟩)) (Y.fieldAddr (fd := (fieldOf prog 75 2)) underlying75 (by kernel_rfl) sizeOf3 rfl rfl) ?_
  refine Head.z 18 (.load 3 (.tmp 17)) 3 (.int .i64 x0c) (Y.ldb isAgg3 rfl (List.mem_cons_self ..) rfl) ?_
  obtain ⟨hi, h⟩ := h
  refine Head.z 19 (.binOp .add 3 (.tmp 18) (.const (.int .i64 1)) 3) 3 (.int .i64 (x0c + 1)) (Y.addI hi rfl rfl) ?_
  refine Head.o (q' := (some [])) rfl ?_
  refine OpTo.cl (some 20) call70 (h.cont fun v_2 σ1_2 h2 => ?_); replace h := h2; clear h2
  obtain ⟨p20, n20, c20, rfl, h⟩ := h
  refine ⟨⟨fun _ h => h, kp_q (L := []) Kp.nil⟩, ?_⟩
  refine Head.z 21 (.nilCheck (.tmp 9)) 0 (.pointer (some ⟨b12, o12, none⟩)) (Y.nilCheck rfl) ?_
  refine Head.z 22 (.fieldAddr 25 (.tmp 21) 1) 0 (.pointer (some ⟨b12, (o12 + 1), none⟩)) (Y.fieldAddr (fd := (fieldOf prog 25 1)) underlying25 (by kernel_rfl) sizeOf23 rfl rfl) ?_
  refine Head.done ?_
  refine Seq.o ?_
  refine OpTo.store (T := 23) (ty := 0) (x := (.tmp 22)) (y := (.tmp 20)) (p := (.pointer (some ⟨b12, (o12 + 1), none⟩))) (v := (.slice p20 n20 c20)) (gd := none) (by kernel_rfl) rfl rfl rfl (h.mono (fun _ σ1_3 h2 => ?_)); replace h := h2; clear h2
  refine Seq.done ?_
  refine At.L [(3, (.int .i64 x5))] fun J => ?_
  refine At.s K11 K12 ?_
  refine At.sub (bx' := []) (.cons _ .slnil) ?_
  exact At.v [(3, (.int .i64 x5))] (h _)
 | false =>
  replace h := h.2 (of_decide_eq_false hb)
  refine At.cF 7 K8 K9 ?_
  refine At.skip ?_
  refine At.s K11 K12 ?_
  refine At.sub (bx' := []) (.cons _ .slnil) ?_
  exact At.v [(3, (.int .i64 x5))] (h _)
theorem pt11_of {R : Ending → Hp → Prop} {x3 : Int} {σ : Hp} (h : R (.returned (.int .i64 x3)) σ) : pt11 R x3 σ := by
 intro J
 show At (gl R) _ _ _ _
 refine At.rg 4 [0, 1] ?_
 refine Seq.u 23 (.int .i64 x3) ?_
 refine Seq.u 2 (.int .i64 x3) ?_
 refine Seq.done ?_
 refine At.L [(2, (.int .i64 x3))] fun J => ?_
 exact At.rt [.tmp 2] [(.int .i64 x3)] func49 ⟨_, rfl, rfl⟩ h
end ring_change_gone
namespace ring_change_turn
abbrev fid : Nat := 69
noncomputable def K0 : Code := f69.body.getD .skip
noncomputable def K1 := Tw.cl K0
noncomputable def K2 := Tw.cr K0
noncomputable def K3 := Tw.cl K2
noncomputable def K4 := Tw.cl K3
noncomputable def K5 := Tw.cl K4
noncomputable def K6 := Tw.cr K4
noncomputable def K7 := Tw.cl K6
noncomputable def K8 := Tw.cl K7
noncomputable def K9 := Tw.cr K7
noncomputable def K10 := Tw.cr K6
noncomputable def K11 := Tw.cl K10
noncomputable def K12 := Tw.cr K10
noncomputable def K13 := Tw.cl K12
noncomputable def K14 := Tw.cl K13
noncomputable def K15 := Tw.cr K13
noncomputable def K16 := Tw.cr K12
noncomputable def K17 := Tw.cr K2
noncomputable def K18 := Tw.cl K17
noncomputable def K19 := Tw.cr K17
noncomputable def K20 := Tw.cl K19
noncomputable def K21 := Tw.cr K19
noncomputable abbrev gl (R : Ending → Hp → Prop) : Gl := Gl.fn prog 69 34 R
theorem start {R : Ending → Hp → Prop} {q0a : Option Addr} {x0b : Int} {x0c : Int} {x1 : Int} {x2 : Int} {σ : Hp} (h : ((x0c : Int) < 0 → R (.returned (.int .i64 131)) σ) ∧ (¬ ((x0c : Int) < 0) → ∃ (b14 o14 : Nat), q0a = some ⟨b14, o14, none⟩ ∧ ∃ p16 : Option Addr, ∃ n16 : Nat, ∃ c16 : Nat, Hp.ld σ ⟨b14, (o14 + 1), none⟩ = some (.slice p16 n16 c16) ∧ ∃ (b19 o19 : Nat), p16 = some ⟨b19, o19, none⟩ ∧ ((0 : Int) ≤ x0c ∧ x0c < (n16 : Int)) ∧ ∃ x21 : Int, Hp.ld σ ⟨b19, ((o19 + Int.toNat x0c * 3) + 1), none⟩ = some (.int .i64 x21) ∧ ((x21 : Int) ≠ x1 → R (.returned (.int .i64 132)) σ) ∧ (¬ ((x21 : Int) ≠ x1) → ∃ p28 : Option Addr, ∃ n28 : Nat, ∃ c28 : Nat, Hp.ld σ ⟨b14, (o14 + 1), none⟩ = some (.slice p28 n28 c28) ∧ ∃ (b32 o32 : Nat), p28 = some ⟨b32, o32, none⟩ ∧ ((0 : Int) ≤ x0c ∧ x0c < (n28 : Int)) ∧ Eff prog (Instr.storeAt 3 (.pointer (some ⟨b32, ((o32 + Int.toNat x0c * 3) + 1), none⟩)) (.int .i64 x2)) σ (fun _ σ1 => R (.returned (.int .i64 0)) σ1)))) : Spec prog 69 #[(.agg #[(.pointer q0a), (.int .i64 x0b), (.int .i64 x0c)]), (.int .i64 x1), (.int .i64 x2)] σ R := by
 refine Spec.of_at (fn := f69) (c := K0) func69 (by kernel_rfl) (Nat.le_of_ble_eq_true (by kernel_rfl)) (fun e he => ?_)
 refine At.ofL (l := [(0, (.agg #[(.pointer q0a), (.int .i64 x0b), (.int .i64 x0c)])), (1, (.int .i64 x1)), (2, (.int .i64 x2))]) ⟨he 0, he 1, he 2, trivial⟩ (fun J => ?_)
 show At (gl R) _ _ _ _
 refine At.s K1 K2 ?_
 refine At.rg 0 [0, 1] ?_
 refine Seq.o ?_
 refine OpTo.box (T := 75) (d := (some 3)) (ty := 0) (x := (.tmp 0)) (gd := none) (cs := #[(.pointer q0a), (.int .i64 x0b), (.int .i64 x0c)]) (by kernel_rfl) rfl rfl rfl (fun b3 => ?_)
 refine Seq.u 6 (.int .i64 0) ?_
 refine Seq.done ?_
 refine At.L [(1, (.int .i64 x1)), (2, (.int .i64 x2)), (3, (.pointer (some ⟨b3, 0, none⟩)))] fun J => ?_
 refine At.s K3 K17 ?_
 refine At.b 0 K4 ?_
 refine At.s K5 K6 ?_
 refine At.rg 1 [0, 1, 2, 3] ?_
 refine Seq.z 8 (.fieldAddr 75 (.tmp 3) 2) 0 (.pointer (some ⟨b3, 2, none⟩)) (Y.fieldAddr (fd := (fieldOf prog 75 2)) underlying75 (by kernel_rfl) sizeOf3 rfl rfl) ?_
 refine Seq.z 9 (.load 3 (.tmp 8)) 3 (.int .i64 x0c) (Y.ldb isAgg3 rfl (List.mem_cons_self ..) rfl) ?_
 refine Seq.u 10 (.bool (decide ((x0c : Int) < 0))) ?_
 refine Seq.u 7 (.bool (decide ((x0c : Int) < 0))) ?_
 refine Seq.done ?_
 refine At.L [(1, (.int .i64 x1)), (2, (.int .i64 x2)), (3, (.pointer (some ⟨b3, 0, none⟩))), (7, (.bool (decide ((x0c : Int) < 0))))] fun J => ?_
 cases hb : (decide ((x0c : Int) < 0)) with
 | true =>
  replace h := h.1 (of_decide_eq_true hb)
  refine At.cT 7 K7 K10 ?_
  refine At.s K8 K9 ?_
  refine At.rg 2 [0] ?_
  refine Seq.u 6 (.int .i64 131) ?_
  refine Seq.done ?_
  refine At.L [(6, (.int .i64 131))] fun J => ?_
  exact At.rt [.tmp 6] [(.int .i64 131)] func69 ⟨_, rfl, rfl⟩ h
 | false =>
  replace h := h.2 (of_decide_eq_false hb)
  refine At.cF 7 K7 K10 ?_
  refine At.s K11 K12 ?_
  refine At.draw (id := 3) (ops := cO K11) (n := 13) (q := none) (plan := [(0, true), (1, true), (2, true), (3, true), (4, true), (5, true), (6, true), (7, true), (8, true), (9, true), (10, true), (11, true), (12, true)]) (tl := []) mixed (by kernel_rfl) (by kernel_rfl) ?_
  refine Head.z 12 (.fieldAddr 75 (.tmp 3) 0) 0 (.pointer (some ⟨b3, 0, none⟩)) (Y.fieldAddr (fd := (fieldOf prog 75 0)) underlying75 (by kernel_rfl) sizeOf73 rfl rfl) ?_
  refine Head.z 13 (.load 73 (.tmp 12)) 73 (.pointer q0a) (Y.ldb isAgg73 rfl (List.mem_cons_self ..) rfl) ?_
  obtain ⟨b14, o14, hq, h⟩ := h
  subst hq
  refine Head.z 14 (.nilCheck (.tmp 13)) 0 (.pointer (some ⟨b14, o14, none⟩)) (Y.nilCheck rfl) ?_
  refine Head.z 15 (.fieldAddr 25 (.tmp 14) 1) 0 (.pointer (some ⟨b14, (o14 + 1), none⟩)) (Y.fieldAddr (fd := (fieldOf prog 25 1)) underlying25 (by kernel_rfl) sizeOf23 rfl rfl) ?_
  obtain ⟨p16, n16, c16, hl, h⟩ := h
  refine Head.z 16 (.load 23 (.tmp 15)) 23 (.slice p16 n16 c16) (Y.ld isAgg23 rfl hl) ?_
  refine Head.z 17 (.fieldAddr 75 (.tmp 3) 2) 0 (.pointer (some ⟨b3, 2, none⟩)) (Y.fieldAddr (fd := (fieldOf prog 75 2)) underlying75 (by kernel_rfl) sizeOf3 rfl rfl) ?_
  refine Head.z 18 (.load 3 (.tmp 17)) 3 (.int .i64 x0c) (Y.ldb isAgg3 rfl (List.mem_cons_self ..) rfl) ?_
  obtain ⟨b19, o19, hq, h⟩ := h
  subst hq
  obtain ⟨hi, h⟩ := h
  refine Head.z 19 (.indexAddr 23 (.tmp 16) (.tmp 18)) 0 (.pointer (some ⟨b19, (o19 + Int.toNat x0c * 3), none⟩)) (Y.idx underlying23 sizeOf55 rfl rfl hi rfl) ?_
  refine Head.z 20 (.fieldAddr 55 (.tmp 19) 1) 0 (.pointer (some ⟨b19, ((o19 + Int.toNat x0c * 3) + 1), none⟩)) (Y.fieldAddr (fd := (fieldOf prog 55 1)) underlying55 (by kernel_rfl) sizeOf3 rfl rfl) ?_
  obtain ⟨x21, hl, h⟩ := h
  refine Head.z 21 (.load 3 (.tmp 20)) 3 (.int .i64 x21) (Y.ld isAgg3 rfl hl) ?_
  refine Head.u 22 (.int .i64 x1) ?_
  refine Head.u 23 (.bool (decide ((x21 : Int) ≠ x1))) ?_
  refine Head.u 11 (.bool (decide ((x21 : Int) ≠ x1))) ?_
  refine Head.done ?_
  refine Seq.done ?_
  refine At.L [(2, (.int .i64 x2)), (3, (.pointer (some ⟨b3, 0, none⟩))), (11, (.bool (decide ((x21 : Int) ≠ x1))))] fun J => ?_
  cases hb : (decide ((x21 : Int) ≠ x1)) with
  | true =>
   replace h := h.1 (of_decide_eq_true hb)
   refine At.cT 11 K13 K16 ?_
   refine At.s K14 K15 ?_
   refine At.rg 4 [0] ?_
   refine Seq.u 6 (.int .i64 132) ?_
   refine Seq.done ?_
   refine At.L [(6, (.int .i64 132))] fun J => ?_
   exact At.rt [.tmp 6] [(.int .i64 132)] func69 ⟨_, rfl, rfl⟩ h
  | false =>
   replace h := h.2 (of_decide_eq_false hb)
   refine At.cF 11 K13 K16 ?_
   refine At.skip ?_
   refine At.inBlock ?_
   refine At.s K18 K19 ?_
   refine At.draw (id := 5) (ops := cO K18) (n := 10) (q := none) (plan := [(0, true), (1, true), (2, true), (3, true), (4, true), (5, true), (6, true), (7, true), (8, true), (9, true)]) (tl := [10]) mixed (by kernel_rfl) (by kernel_rfl) ?_
   refine Head.z 24 (.fieldAddr 75 (.tmp 3) 0) 0 (.pointer (some ⟨b3, 0, none⟩)) (Y.fieldAddr (fd := (fieldOf prog 75 0)) underlying75 (by kernel_rfl) sizeOf73 rfl rfl) ?_
   refine Head.z 25 (.load 73 (.tmp 24)) 73 (.pointer (some ⟨b14, o14, none⟩)) (Y.ldb isAgg73 rfl (List.mem_cons_self ..) rfl) ?_
   refine Head.z 26 (.nilCheck (.tmp 25)) 0 (.pointer (some ⟨b14, o14, none⟩)) (Y.nilCheck rfl) ?_
   refine Head.z 27 (.fieldAddr 25 (.tmp 26) 1) 0 (.pointer (some ⟨b14, (o14 + 1), none⟩)) (Y.fieldAddr (fd := (fieldOf prog 25 1)) underlying25 (by kernel_rfl) sizeOf23 rfl rfl) ?_
   obtain ⟨p28, n28, c28, hl, h⟩ := h
   refine Head.z 28 (.load 23 (.tmp 27)) 23 (.slice p28 n28 c28) (Y.ld isAgg23 rfl hl) ?_
   refine Head.z 29 (.fieldAddr 75 (.tmp 3) 2) 0 (.pointer (some ⟨b3, 2, none⟩)) (Y.fieldAddr (fd := (fieldOf prog 75 2)) underlying75 (by kernel_rfl) sizeOf3 rfl rfl) ?_
   refine Head.z 30 (.load 3 (.tmp 29)) 3 (.int .i64 x0c) (Y.ldb isAgg3 rfl (List.mem_cons_self ..) rfl) ?_
   refine Head.u 31 (.int .i64 x2) ?_
   obtain ⟨b32, o32, hq, h⟩ := h
   subst hq
   obtain ⟨hi, h⟩ := h
   refine Head.z 32 (.indexAddr 23 (.tmp 28) (.tmp 30)) 0 (.pointer (some ⟨b32, (o32 + Int.toNat x0c * 3), none⟩)) (Y.idx underlying23 sizeOf55 rfl rfl hi rfl) ?_
   refine Head.z 33 (.fieldAddr 55 (.tmp 32) 1) 0 (.pointer (some ⟨b32, ((o32 + Int.toNat x0c * 3) + 1), none⟩)) (Y.fieldAddr (fd := (fieldOf prog 55 1)) underlying55 (by kernel_rfl) sizeOf3 rfl rfl) ?_
   refine Head.done ?_
   refine Seq.o ?_
   refine OpTo.store (T := 3) (ty := 0) (x := (.tmp 33)) (y := (.tmp 31)) (p := (.pointer (some ⟨b32, ((o32 + Int.toNat x0c * 3) + 1), none⟩))) (v := (.int .i64 x2)) (gd := none) (by kernel_rfl) rfl rfl rfl (h.mono (fun _ σ1 h2 => ?_)); replace h := h2; clear h2
   refine Seq.done ?_
   refine At.L [] fun J => ?_
   refine At.s K20 K21 ?_
   refine At.rg 6 [0] ?_
   refine Seq.u 6 (.int .i64 0) ?_
   refine Seq.done ?_
   refine At.L [(6, (.int .i64 0))] fun J => ?_
   exact At.rt [.tmp 6] [(.int .i64 0)] func69 ⟨_, rfl, rfl⟩ h
end ring_change_turn
namespace ring_Copy
abbrev fid : Nat := 67
noncomputable def K0 : Code := f67.body.getD .skip
noncomputable def K1 := Tw.cl K0
noncomputable def K2 := Tw.cr K0
noncomputable def K3 := Tw.cl K2
noncomputable def K4 := Tw.cr K2
noncomputable def K5 := Tw.cl K4
noncomputable def K6 := Tw.cl K5
noncomputable def K7 := Tw.cr K5
noncomputable def K8 := Tw.cl K7
noncomputable def K9 := Tw.cl K8
noncomputable def K10 := Tw.cl K9
noncomputable def K11 := Tw.cr K9
noncomputable def K12 := Tw.cl K11
noncomputable def K13 := Tw.cl K12
noncomputable def K14 := Tw.cr K12
noncomputable def K15 := Tw.cr K11
noncomputable def K16 := Tw.cl K15
noncomputable def K17 := Tw.cl K16
noncomputable def K18 := Tw.cl K17
noncomputable def K19 := Tw.cr K17
noncomputable def K20 := Tw.cl K19
noncomputable def K21 := Tw.cr K19
noncomputable def K22 := Tw.cr K15
noncomputable def K23 := Tw.cr K4
noncomputable def K24 := Tw.cl K23
noncomputable def K25 := Tw.cr K23
noncomputable abbrev gl (R : Ending → Hp → Prop) : Gl := Gl.fn prog 67 29 R
def pt10 (R : Ending → Hp → Prop) (x2a : Int) (p2b : Option Addr) (n2b : Nat) (c2b : Nat) (x3a : Int) (p3b : Option Addr) (n3b : Nat) (c3b : Nat) (p10 : Option Addr) (n10 : Nat) (c10 : Nat) (x11 : Int) (x12 : Int) (σ : Hp) : Prop := ∀ (J : Env) (b2 : Nat) (b3 : Nat), At (gl R) [.code K10, .code K11, .inLoop K9, .inBlock 0, .code K23] (upds J [(2, (.pointer (some ⟨b2, 0, none⟩))), (3, (.pointer (some ⟨b3, 0, none⟩))), (10, (.slice p10 n10 c10)), (11, (.int .i64 x11)), (12, (.int .i64 x12))]) [(b3, .cells #[(.int .u64 x3a), (.slice p3b n3b c3b)] 25 (0, 0)), (b2, .cells #[(.int .u64 x2a), (.slice p2b n2b c2b)] 25 (0, 0))] σ
theorem start {R : Ending → Hp → Prop} {x0a : Int} {p0b : Option Addr} {n0b : Nat} {c0b : Nat} {σ : Hp} (h : pt10 R 0 none 0 0 x0a none 0 0 p0b n0b c0b ((n0b : Int)) 0 σ) : Spec prog 67 #[(.agg #[(.int .u64 x0a), (.slice p0b n0b c0b)])] σ R := by
 refine Spec.of_at (fn := f67) (c := K0) func67 (by kernel_rfl) (Nat.le_of_ble_eq_true (by kernel_rfl)) (fun e he => ?_)
 refine At.ofL (l := [(0, (.agg #[(.int .u64 x0a), (.slice p0b n0b c0b)]))]) ⟨he 0, trivial⟩ (fun J => ?_)
 show At (gl R) _ _ _ _
 refine At.s K1 K2 ?_
 refine At.rg 0 [0, 1] ?_
 refine Seq.o ?_
 refine OpTo.box (T := 25) (d := (some 1)) (ty := 0) (x := (.tmp 0)) (gd := none) (cs := #[(.int .u64 x0a), (.slice p0b n0b c0b)]) (by kernel_rfl) rfl rfl rfl (fun b1 => ?_)
 refine Seq.o ?_
 refine OpTo.alloc (T := 25) (d := (some 2)) (ty := 0)  (gd := none) (cs := #[(.int .u64 0), (.slice none 0 0)]) (by kernel_rfl) rfl rfl zeroValue25 rfl (fun b2 => ?_)
 refine Seq.done ?_
 refine At.L [(1, (.pointer (some ⟨b1, 0, none⟩))), (2, (.pointer (some ⟨b2, 0, none⟩)))] fun J => ?_
 refine At.s K3 K4 ?_
 refine At.rg 1 [0, 1, 2, 3, 4] ?_
 refine Seq.z 6 (.fieldAddr 25 (.tmp 1) 0) 0 (.pointer (some ⟨b1, 0, none⟩)) (Y.fieldAddr (fd := (fieldOf prog 25 0)) underlying25 (by kernel_rfl) sizeOf22 rfl rfl) ?_
 refine Seq.z 7 (.load 22 (.tmp 6)) 22 (.int .u64 x0a) (Y.ldb isAgg22 rfl (.tail _ (List.mem_cons_self ..)) rfl) ?_
 refine Seq.z 8 (.build 25 #[(0, (.tmp 7))]) 25 (.agg #[(.int .u64 x0a), (.slice none 0 0)]) (Y.build (vs := [(0, (.int .u64 x0a))]) rfl (by kernel_rfl)) ?_
 refine Seq.o ?_
 refine OpTo.alloc (T := 25) (d := (some 3)) (ty := 0)  (gd := none) (cs := #[(.int .u64 0), (.slice none 0 0)]) (by kernel_rfl) rfl rfl zeroValue25 rfl (fun b3 => ?_)
 refine Seq.o ?_
 refine OpTo.storeb (T := 25) (ty := 0) (x := (.tmp 3)) (y := (.tmp 8)) (t := 25) (j := 0) (b := b3) (o := 0) (c' := #[(.int .u64 x0a), (.slice none 0 0)]) (v := (.agg #[(.int .u64 x0a), (.slice none 0 0)])) (gd := none) (by kernel_rfl) rfl sizeOf25 rfl rfl rfl rfl rfl rfl rfl ?_
 simp only [List.set]
 refine Seq.done ?_
 refine At.L [(1, (.pointer (some ⟨b1, 0, none⟩))), (2, (.pointer (some ⟨b2, 0, none⟩))), (3, (.pointer (some ⟨b3, 0, none⟩)))] fun J => ?_
 refine At.s K5 K23 ?_
 refine At.s K6 K7 ?_
 refine At.rg 2 [0, 1, 2, 3] ?_
 refine Seq.z 9 (.fieldAddr 25 (.tmp 1) 1) 0 (.pointer (some ⟨b1, 1, none⟩)) (Y.fieldAddr (fd := (fieldOf prog 25 1)) underlying25 (by kernel_rfl) sizeOf23 rfl rfl) ?_
 refine Seq.z 10 (.load 23 (.tmp 9)) 23 (.slice p0b n0b c0b) (Y.ldb isAgg23 rfl (.tail _ (.tail _ (List.mem_cons_self ..))) rfl) ?_
 refine Seq.z 11 (.call { callee := .builtin .len, args := #[(.tmp 10)], argTypes := #[23] }) 3 (.int .i64 (n0b : Int)) (Y.lenS underlying23 rfl rfl) ?_
 refine Seq.u 12 (.int .i64 0) ?_
 refine Seq.done ?_
 refine At.L [(2, (.pointer (some ⟨b2, 0, none⟩))), (3, (.pointer (some ⟨b3, 0, none⟩))), (10, (.slice p0b n0b c0b)), (11, (.int .i64 (n0b : Int))), (12, (.int .i64 0))] fun J => ?_
 refine At.b 0 K8 ?_
 refine At.loop (x := K9) (by kernel_rfl) ?_
 refine At.s K10 K11 ?_
 refine At.sub (bx' := [(b3, .cells #[(.int .u64 x0a), (.slice none 0 0)] 25 (0, 0)), (b2, .cells #[(.int .u64 0), (.slice none 0 0)] 25 (0, 0))]) (.cons_cons _ (.cons_cons _ (.cons _ .slnil))) ?_
 exact At.v [(2, (.pointer (some ⟨b2, 0, none⟩))), (3, (.pointer (some ⟨b3, 0, none⟩))), (10, (.slice p0b n0b c0b)), (11, (.int .i64 (n0b : Int))), (12, (.int .i64 0))] (h _ b2 b3)
theorem pt10_of {R : Ending → Hp → Prop} {x2a : Int} {p2b : Option Addr} {n2b : Nat} {c2b : Nat} {x3a : Int} {p3b : Option Addr} {n3b : Nat} {c3b : Nat} {p10 : Option Addr} {n10 : Nat} {c10 : Nat} {x11 : Int} {x12 : Int} {σ : Hp} (h : ((x12 : Int) < x11 → ∃ (b14 o14 : Nat), p10 = some ⟨b14, o14, none⟩ ∧ ((0 : Int) ≤ x12 ∧ x12 < (n10 : Int)) ∧ ∃ x15a : Int, ∃ x15b : Int, ∃ p15c : Option Addr, ∃ n15c : Nat, ∃ c15c : Nat, LdL σ b14 (o14 + Int.toNat x12 * 3) [(.int .i64 x15a), (.int .i64 x15b), (.slice p15c n15c c15c)] ∧ ∀ b16 : Nat, σ b16 = none → Eff prog (Builtin.append_ #[53, 53] 53 #[(.slice (some ⟨b16, 0, none⟩) 0 0), (.slice p15c n15c c15c)]) (Hp.set σ b16 (.cells #[] 26 (0, 0))) (fun v σ1 => ∃ p19 : Option Addr, ∃ n19 : Nat, ∃ c19 : Nat, v = (.slice p19 n19 c19) ∧ ∀ b24 : Nat, σ1 b24 = none → Eff prog (Builtin.append_ #[23, 23] 23 #[(.slice p3b n3b c3b), (.slice (some ⟨b24, 0, none⟩) 1 1)]) (Hp.set σ1 b24 (.cells #[(.int .i64 x15a), (.int .i64 x15b), (.slice p19 n19 c19)] 55 (0, 0))) (fun v_2 σ1_2 => ∃ p25 : Option Addr, ∃ n25 : Nat, ∃ c25 : Nat, v_2 = (.slice p25 n25 c25) ∧ I64 (x12 + 1) ∧ pt10 R x2a p2b n2b c2b x3a p25 n25 c25 ((some ⟨b14, o14, none⟩)) n10 c10 x11 ((x12 + 1)) σ1_2))) ∧ (¬ ((x12 : Int) < x11) → R (.returned (.agg #[(.int .u64 x3a), (.slice p3b n3b c3b)])) σ)) : pt10 R x2a p2b n2b c2b x3a p3b n3b c3b p10 n10 c10 x11 x12 σ := by
 intro J b2 b3
 show At (gl R) _ _ _ _
 refine At.rg 3 [0] ?_
 refine Seq.u 13 (.bool (decide ((x12 : Int) < x11))) ?_
 refine Seq.done ?_
 refine At.L [(2, (.pointer (some ⟨b2, 0, none⟩))), (3, (.pointer (some ⟨b3, 0, none⟩))), (10, (.slice p10 n10 c10)), (11, (.int .i64 x11)), (12, (.int .i64 x12)), (13, (.bool (decide ((x12 : Int) < x11))))] fun J => ?_
 refine At.s K12 K15 ?_
 cases hb : (decide ((x12 : Int) < x11)) with
 | true =>
  replace h := h.1 (of_decide_eq_true hb)
  refine At.cT 13 K13 K14 ?_
  refine At.skip ?_
  refine At.s K16 K22 ?_
  refine At.b 1 K17 ?_
  refine At.s K18 K19 ?_
  refine At.rg 4 [0, 1, 2, 3] ?_
  obtain ⟨b14, o14, hq, h⟩ := h
  subst hq
  obtain ⟨hi, h⟩ := h
  refine Seq.z 14 (.indexAddr 23 (.tmp 10) (.tmp 12)) 0 (.pointer (some ⟨b14, (o14 + Int.toNat x12 * 3), none⟩)) (Y.idx underlying23 sizeOf55 rfl rfl hi rfl) ?_
  obtain ⟨x15a, x15b, p15c, n15c, c15c, hl, h⟩ := h
  refine Seq.z 15 (.load 55 (.tmp 14)) 55 (.agg #[(.int .i64 x15a), (.int .i64 x15b), (.slice p15c n15c c15c)]) (Y.lda isAgg55 sizeOf55 rfl rfl hl) ?_
  refine Seq.o ?_
  refine OpTo.alloc (T := 55) (d := (some 5)) (ty := 0)  (gd := none) (cs := #[(.int .i64 0), (.int .i64 0), (.slice none 0 0)]) (by kernel_rfl) rfl rfl zeroValue55 rfl (fun b5 => ?_)
  refine Seq.o ?_
  refine OpTo.storeb (T := 55) (ty := 0) (x := (.tmp 5)) (y := (.tmp 15)) (t := 55) (j := 0) (b := b5) (o := 0) (c' := #[(.int .i64 x15a), (.int .i64 x15b), (.slice p15c n15c c15c)]) (v := (.agg #[(.int .i64 x15a), (.int .i64 x15b), (.slice p15c n15c c15c)])) (gd := none) (by kernel_rfl) rfl sizeOf55 rfl rfl rfl rfl rfl rfl rfl ?_
  simp only [List.set]
  refine Seq.done ?_
  refine At.L [(2, (.pointer (some ⟨b2, 0, none⟩))), (3, (.pointer (some ⟨b3, 0, none⟩))), (5, (.pointer (some ⟨b5, 0, none⟩))), (10, (.slice (some ⟨b14, o14, none⟩) n10 c10)), (11, (.int .i64 x11)), (12, (.int .i64 x12))] fun J => ?_
  refine At.s K20 K21 ?_
  refine At.rg 5 [0, 1, 2, 3, 4, 5] ?_
  refine Seq.o ?_
  refine OpTo.bslice (T := 53) (E := 26) (m := 0) (ps := #[]) (d := (some 16)) (ty := 53) (gd := none) (vs := []) (cs := #[]) underlying53 (by kernel_rfl) rfl rfl rfl (by kernel_rfl) (fun b16 hn => ?_)
  replace h := h b16 hn
  refine Seq.z 17 (.fieldAddr 55 (.tmp 5) 2) 0 (.pointer (some ⟨b5, 2, none⟩)) (Y.fieldAddr (fd := (fieldOf prog 55 2)) underlying55 (by kernel_rfl) sizeOf53 rfl rfl) ?_
  refine Seq.z 18 (.load 53 (.tmp 17)) 53 (.slice p15c n15c c15c) (Y.ldb isAgg53 rfl (List.mem_cons_self ..) rfl) ?_
  refine Seq.o ?_
  refine OpTo.eff (d := (some 19)) (op := (.call { callee := .builtin .append, args := #[(.tmp 16), (.tmp 18)], argTypes := #[53, 53] })) (ty := 53) (gd := none) (by kernel_rfl) rfl rfl (Builtin.append_ #[53, 53] 53 #[(.slice (some ⟨b16, 0, none⟩) 0 0), (.slice p15c n15c c15c)]) (fun o ho ht => exec_b_append rfl rfl o ho ht) (h.mono (fun v σ1 h2 => ?_)); replace h := h2; clear h2
  obtain ⟨p19, n19, c19, rfl, h⟩ := h
  refine Seq.z 20 (.fieldAddr 55 (.tmp 5) 2) 0 (.pointer (some ⟨b5, 2, none⟩)) (Y.fieldAddr (fd := (fieldOf prog 55 2)) underlying55 (by kernel_rfl) sizeOf53 rfl rfl) ?_
  refine Seq.o ?_
  refine OpTo.storeb (T := 53) (ty := 0) (x := (.tmp 20)) (y := (.tmp 19)) (t := 55) (j := 0) (b := b5) (o := 2) (c' := #[(.int .i64 x15a), (.int .i64 x15b), (.slice p19 n19 c19)]) (v := (.slice p19 n19 c19)) (gd := none) (by kernel_rfl) rfl sizeOf53 rfl rfl rfl rfl rfl rfl rfl ?_
  simp only [List.set]
  refine Seq.done ?_
  refine At.L [(2, (.pointer (some ⟨b2, 0, none⟩))), (3, (.pointer (some ⟨b3, 0, none⟩))), (5, (.pointer (some ⟨b5, 0, none⟩))), (10, (.slice (some ⟨b14, o14, none⟩) n10 c10)), (11, (.int .i64 x11)), (12, (.int .i64 x12))] fun J => ?_
  refine At.rg 6 [0, 1, 2, 3, 4, 5, 6] ?_
  refine Seq.z 21 (.fieldAddr 25 (.tmp 3) 1) 0 (.pointer (some ⟨b3, 1, none⟩)) (Y.fieldAddr (fd := (fieldOf prog 25 1)) underlying25 (by kernel_rfl) sizeOf23 rfl rfl) ?_
  refine Seq.z 22 (.load 23 (.tmp 21)) 23 (.slice p3b n3b c3b) (Y.ldb isAgg23 rfl (.tail _ (List.mem_cons_self ..)) rfl) ?_
  refine Seq.z 23 (.load 55 (.tmp 5)) 55 (.agg #[(.int .i64 x15a), (.int .i64 x15b), (.slice p19 n19 c19)]) (Y.ldab (vs := [(.int .i64 x15a), (.int .i64 x15b), (.slice p19 n19 c19)]) isAgg55 sizeOf55 rfl rfl (List.mem_cons_self ..) rfl) ?_
  refine Seq.o ?_
  refine OpTo.bslice (T := 23) (E := 55) (m := 1) (ps := #[(0, (.tmp 23))]) (d := (some 24)) (ty := 23) (gd := none) (vs := [(0, (.agg #[(.int .i64 x15a), (.int .i64 x15b), (.slice p19 n19 c19)]))]) (cs := #[(.int .i64 x15a), (.int .i64 x15b), (.slice p19 n19 c19)]) underlying23 (by kernel_rfl) rfl rfl rfl (by kernel_rfl) (fun b24 hn => ?_)
  replace h := h b24 hn
  refine Seq.o ?_
  refine OpTo.eff (d := (some 25)) (op := (.call { callee := .builtin .append, args := #[(.tmp 22), (.tmp 24)], argTypes := #[23, 23] })) (ty := 23) (gd := none) (by kernel_rfl) rfl rfl (Builtin.append_ #[23, 23] 23 #[(.slice p3b n3b c3b), (.slice (some ⟨b24, 0, none⟩) 1 1)]) (fun o ho ht => exec_b_append rfl rfl o ho ht) (h.mono (fun v_2 σ1_2 h2 => ?_)); replace h := h2; clear h2
  obtain ⟨p25, n25, c25, rfl, h⟩ := h
  refine Seq.z 26 (.fieldAddr 25 (.tmp 3) 1) 0 (.pointer (some ⟨b3, 1, none⟩)) (Y.fieldAddr (fd := (fieldOf prog 25 1)) underlying25 (by kernel_rfl) sizeOf23 rfl rfl) ?_
  refine Seq.o ?_
  refine OpTo.storeb (T := 23) (ty := 0) (x := (.tmp 26)) (y := (.tmp 25)) (t := 25) (j := 1) (b := b3) (o := 1) (c' := #[(.int .u64 x3a), (.slice p25 n25 c25)]) (v := (.slice p25 n25 c25)) (gd := none) (by kernel_rfl) rfl sizeOf23 rfl rfl rfl rfl rfl rfl rfl ?_
  simp only [List.set]
  refine Seq.done ?_
  refine At.L [(2, (.pointer (some ⟨b2, 0, none⟩))), (3, (.pointer (some ⟨b3, 0, none⟩))), (10, (.slice (some ⟨b14, o14, none⟩) n10 c10)), (11, (.int .i64 x11)), (12, (.int .i64 x12))] fun J => ?_
  refine At.inBlock ?_
  refine At.rg 7 [0, 1] ?_
  obtain ⟨hi, h⟩ := h
  refine Seq.z 27 (.binOp .add 3 (.tmp 12) (.const (.int .i64 1)) 3) 3 (.int .i64 (x12 + 1)) (Y.addI hi rfl rfl) ?_
  refine Seq.u 12 (.int .i64 (x12 + 1)) ?_
  refine Seq.done ?_
  refine At.L [(2, (.pointer (some ⟨b2, 0, none⟩))), (3, (.pointer (some ⟨b3, 0, none⟩))), (10, (.slice (some ⟨b14, o14, none⟩) n10 c10)), (11, (.int .i64 x11)), (12, (.int .i64 (x12 + 1)))] fun J => ?_
  refine At.inLoop ?_
  refine At.s K10 K11 ?_
  refine At.sub (bx' := [(b3, .cells #[(.int .u64 x3a), (.slice p25 n25 c25)] 25 (0, 0)), (b2, .cells #[(.int .u64 x2a), (.slice p2b n2b c2b)] 25 (0, 0))]) (.cons _ (.cons_cons _ (.cons_cons _ .slnil))) ?_
  exact At.v [(2, (.pointer (some ⟨b2, 0, none⟩))), (3, (.pointer (some ⟨b3, 0, none⟩))), (10, (.slice (some ⟨b14, o14, none⟩) n10 c10)), (11, (.int .i64 x11)), (12, (.int .i64 (x12 + 1)))] (h _ b2 b3)
 | false =>
  replace h := h.2 (of_decide_eq_false hb)
  refine At.cF 13 K13 K14 ?_
  refine At.x 0 [.code K23] ?_
  refine At.s K24 K25 ?_
  refine At.rg 8 [0, 1] ?_
  refine Seq.z 28 (.load 25 (.tmp 3)) 25 (.agg #[(.int .u64 x3a), (.slice p3b n3b c3b)]) (Y.ldab (vs := [(.int .u64 x3a), (.slice p3b n3b c3b)]) isAgg25 sizeOf25 rfl rfl (List.mem_cons_self ..) rfl) ?_
  refine Seq.o ?_
  refine OpTo.storeb (T := 25) (ty := 0) (x := (.tmp 2)) (y := (.tmp 28)) (t := 25) (j := 1) (b := b2) (o := 0) (c' := #[(.int .u64 x3a), (.slice p3b n3b c3b)]) (v := (.agg #[(.int .u64 x3a), (.slice p3b n3b c3b)])) (gd := none) (by kernel_rfl) rfl sizeOf25 rfl rfl rfl rfl rfl rfl rfl ?_
  simp only [List.set]
  refine Seq.done ?_
  refine At.L [(2, (.pointer (some ⟨b2, 0, none⟩)))] fun J => ?_
  exact At.rt [.cell 2 25] [(.agg #[(.int .u64 x3a), (.slice p3b n3b c3b)])] func67 ⟨_, _, rfl, ⟨_, rfl, ldab_run isAgg25 sizeOf25 rfl (.tail _ (List.mem_cons_self ..))⟩, rfl⟩ h
end ring_Copy
end TwR
end
section
/- written by gen.py: program points and what leads to them -/
set_option linter.unusedVariables false
set_option maxRecDepth 100000
namespace TwR
open Go Tw Go.Proofs.Try
namespace ref13_has
abbrev fid : Nat := 50
noncomputable def K0 : Code := f50.body.getD .skip
noncomputable def K1 := Tw.cl K0
noncomputable def K2 := Tw.cr K0
noncomputable def K3 := Tw.cl K2
noncomputable def K4 := Tw.cl K3
noncomputable def K5 := Tw.cr K3
noncomputable def K6 := Tw.cl K5
noncomputable def K7 := Tw.cl K6
noncomputable def K8 := Tw.cl K7
noncomputable def K9 := Tw.cl K8
noncomputable def K10 := Tw.cr K8
noncomputable def K11 := Tw.cl K10
noncomputable def K12 := Tw.cr K10
noncomputable def K13 := Tw.cr K7
noncomputable def K14 := Tw.cl K13
noncomputable def K15 := Tw.cl K14
noncomputable def K16 := Tw.cl K15
noncomputable def K17 := Tw.cr K15
noncomputable def K18 := Tw.cl K17
noncomputable def K19 := Tw.cl K18
noncomputable def K20 := Tw.cr K18
noncomputable def K21 := Tw.cr K17
noncomputable def K22 := Tw.cr K13
noncomputable def K23 := Tw.cr K2
noncomputable def K24 := Tw.cl K23
noncomputable def K25 := Tw.cr K23
noncomputable abbrev gl (R : Ending → Hp → Prop) : Gl := Gl.fn prog 50 18 R
def pt9 (R : Ending → Hp → Prop) (p0 : Option Addr) (n0 : Nat) (c0 : Nat) (x1 : Int) (x5 : Int) (σ : Hp) : Prop := ∀ (J : Env), At (gl R) [.code K9, .code K10, .code K13, .inLoop K7, .inBlock 0, .code K23] (upds J [(0, (.slice p0 n0 c0)), (1, (.int .i64 x1)), (5, (.int .i64 x5))]) [] σ
theorem start {R : Ending → Hp → Prop} {p0 : Option Addr} {n0 : Nat} {c0 : Nat} {x1 : Int} {σ : Hp} (h : pt9 R p0 n0 c0 x1 0 σ) : Spec prog 50 #[(.slice p0 n0 c0), (.int .i64 x1)] σ R := by
 refine Spec.of_at (fn := f50) (c := K0) func50 (by kernel_rfl) (Nat.le_of_ble_eq_true (by kernel_rfl)) (fun e he => ?_)
 refine At.ofL (l := [(0, (.slice p0 n0 c0)), (1, (.int .i64 x1))]) ⟨he 0, he 1, trivial⟩ (fun J => ?_)
 show At (gl R) _ _ _ _
 refine At.s K1 K2 ?_
 refine At.rg 0 [0] ?_
 refine Seq.u 4 (.bool false) ?_
 refine Seq.done ?_
 refine At.L [(0, (.slice p0 n0 c0)), (1, (.int .i64 x1))] fun J => ?_
 refine At.s K3 K23 ?_
 refine At.s K4 K5 ?_
 refine At.rg 1 [0] ?_
 refine Seq.u 5 (.int .i64 0) ?_
 refine Seq.done ?_
 refine At.L [(0, (.slice p0 n0 c0)), (1, (.int .i64 x1)), (5, (.int .i64 0))] fun J => ?_
 refine At.b 0 K6 ?_
 refine At.loop (x := K7) (by kernel_rfl) ?_
 refine At.s K8 K13 ?_
 refine At.s K9 K10 ?_
 exact At.v [(0, (.slice p0 n0 c0)), (1, (.int .i64 x1)), (5, (.int .i64 0))] (h _)
theorem pt9_of {R : Ending → Hp → Prop} {p0 : Option Addr} {n0 : Nat} {c0 : Nat} {x1 : Int} {x5 : Int} {σ : Hp} (h : ((x5 : Int) < (n0 : Int) → ∃ (b14 o14 : Nat), p0 = some ⟨b14, o14, none⟩ ∧ ((0 : Int) ≤ x5 ∧ x5 < (n0 : Int)) ∧ ∃ x15 : Int, Hp.ld σ ⟨b14, (o14 + Int.toNat x5 * 1), none⟩ = some (.int .i64 x15) ∧ ((x15 : Int) = x1 → R (.returned (.bool true)) σ) ∧ (¬ ((x15 : Int) = x1) → I64 (x5 + 1) ∧ pt9 R ((some ⟨b14, o14, none⟩)) n0 c0 x1 ((x5 + 1)) σ)) ∧ (¬ ((x5 : Int) < (n0 : Int)) → R (.returned (.bool false)) σ)) : pt9 R p0 n0 c0 x1 x5 σ := by
 intro J
 show At (gl R) _ _ _ _
 refine At.rg 2 [0, 1, 2, 3] ?_
 refine Seq.u 6 (.int .i64 x5) ?_
 refine Seq.u 7 (.slice p0 n0 c0) ?_
 refine Seq.z 8 (.call { callee := .builtin .len, args := #[(.tmp 7)], argTypes := #[27] }) 3 (.int .i64 (n0 : Int)) (Y.lenS underlying27 rfl rfl) ?_
 refine Seq.u 9 (.bool (decide ((x5 : Int) < (n0 : Int)))) ?_
 refine Seq.done ?_
 refine At.L [(0, (.slice p0 n0 c0)), (1, (.int .i64 x1)), (5, (.int .i64 x5)), (9, (.bool (decide ((x5 : Int) < (n0 : Int)))))] fun J => ?_
 cases hb : (decide ((x5 : Int) < (n0 : Int))) with
 | true =>
  replace h := h.1 (of_decide_eq_true hb)
  refine At.cT 9 K11 K12 ?_
  refine At.skip ?_
  refine At.s K14 K22 ?_
  refine At.b 1 K15 ?_
  refine At.s K16 K17 ?_
  refine At.rg 4 [0, 1, 2, 3, 4, 5] ?_
  refine Seq.u 12 (.slice p0 n0 c0) ?_
  refine Seq.u 13 (.int .i64 x5) ?_
  obtain ⟨b14, o14, hq, h⟩ := h
  subst hq
  obtain ⟨hi, h⟩ := h
  refine Seq.z 14 (.indexAddr 27 (.tmp 12) (.tmp 13)) 0 (.pointer (some ⟨b14, (o14 + Int.toNat x5 * 1), none⟩)) (Y.idx underlying27 sizeOf3 rfl rfl hi rfl) ?_
  obtain ⟨x15, hl, h⟩ := h
  refine Seq.z 15 (.load 3 (.tmp 14)) 3 (.int .i64 x15) (Y.ld isAgg3 rfl hl) ?_
  refine Seq.u 16 (.int .i64 x1) ?_
  refine Seq.u 17 (.bool (decide ((x15 : Int) = x1))) ?_
  refine Seq.done ?_
  refine At.L [(0, (.slice (some ⟨b14, o14, none⟩) n0 c0)), (1, (.int .i64 x1)), (5, (.int .i64 x5)), (17, (.bool (decide ((x15 : Int) = x1))))] fun J => ?_
  cases hb : (decide ((x15 : Int) = x1)) with
  | true =>
   replace h := h.1 (of_decide_eq_true hb)
   refine At.cT 17 K18 K21 ?_
   refine At.s K19 K20 ?_
   refine At.rg 5 [0] ?_
   refine Seq.u 4 (.bool true) ?_
   refine Seq.done ?_
   refine At.L [(4, (.bool true))] fun J => ?_
   exact At.rt [.tmp 4] [(.bool true)] func50 ⟨_, rfl, rfl⟩ h
  | false =>
   replace h := h.2 (of_decide_eq_false hb)
   refine At.cF 17 K18 K21 ?_
   refine At.skip ?_
   refine At.inBlock ?_
   refine At.rg 3 [0, 1, 2] ?_
   refine Seq.u 10 (.int .i64 x5) ?_
   obtain ⟨hi, h⟩ := h
   refine Seq.z 11 (.binOp .add 3 (.tmp 10) (.const (.int .i64 1)) 3) 3 (.int .i64 (x5 + 1)) (Y.addI hi rfl rfl) ?_
   refine Seq.u 5 (.int .i64 (x5 + 1)) ?_
   refine Seq.done ?_
   refine At.L [(0, (.slice (some ⟨b14, o14, none⟩) n0 c0)), (1, (.int .i64 x1)), (5, (.int .i64 (x5 + 1)))] fun J => ?_
   refine At.inLoop ?_
   refine At.s K8 K13 ?_
   refine At.s K9 K10 ?_
   exact At.v [(0, (.slice (some ⟨b14, o14, none⟩) n0 c0)), (1, (.int .i64 x1)), (5, (.int .i64 (x5 + 1)))] (h _)
 | false =>
  replace h := h.2 (of_decide_eq_false hb)
  refine At.cF 9 K11 K12 ?_
  refine At.x 0 [.code K23] ?_
  refine At.s K24 K25 ?_
  refine At.rg 6 [0] ?_
  refine Seq.u 4 (.bool false) ?_
  refine Seq.done ?_
  refine At.L [(4, (.bool false))] fun J => ?_
  exact At.rt [.tmp 4] [(.bool false)] func50 ⟨_, rfl, rfl⟩ h
end ref13_has
namespace law13_has
abbrev fid : Nat := 22
noncomputable def K0 : Code := f22.body.getD .skip
noncomputable def K1 := Tw.cl K0
noncomputable def K2 := Tw.cr K0
noncomputable def K3 := Tw.cl K2
noncomputable def K4 := Tw.cl K3
noncomputable def K5 := Tw.cr K3
noncomputable def K6 := Tw.cl K5
noncomputable def K7 := Tw.cl K6
noncomputable def K8 := Tw.cl K7
noncomputable def K9 := Tw.cl K8
noncomputable def K10 := Tw.cr K8
noncomputable def K11 := Tw.cl K10
noncomputable def K12 := Tw.cr K10
noncomputable def K13 := Tw.cr K7
noncomputable def K14 := Tw.cl K13
noncomputable def K15 := Tw.cl K14
noncomputable def K16 := Tw.cl K15
noncomputable def K17 := Tw.cr K15
noncomputable def K18 := Tw.cl K17
noncomputable def K19 := Tw.cl K18
noncomputable def K20 := Tw.cr K18
noncomputable def K21 := Tw.cr K17
noncomputable def K22 := Tw.cr K13
noncomputable def K23 := Tw.cr K2
noncomputable def K24 := Tw.cl K23
noncomputable def K25 := Tw.cr K23
noncomputable abbrev gl (R : Ending → Hp → Prop) : Gl := Gl.fn prog 22 18 R
def pt9 (R : Ending → Hp → Prop) (p0 : Option Addr) (n0 : Nat) (c0 : Nat) (x1 : Int) (x5 : Int) (σ : Hp) : Prop := ∀ (J : Env), At (gl R) [.code K9, .code K10, .code K13, .inLoop K7, .inBlock 0, .code K23] (upds J [(0, (.slice p0 n0 c0)), (1, (.int .i64 x1)), (5, (.int .i64 x5))]) [] σ
theorem start {R : Ending → Hp → Prop} {p0 : Option Addr} {n0 : Nat} {c0 : Nat} {x1 : Int} {σ : Hp} (h : pt9 R p0 n0 c0 x1 0 σ) : Spec prog 22 #[(.slice p0 n0 c0), (.int .i64 x1)] σ R := by
 refine Spec.of_at (fn := f22) (c := K0) func22 (by kernel_rfl) (Nat.le_of_ble_eq_true (by kernel_rfl)) (fun e he => ?_)
 refine At.ofL (l := [(0, (.slice p0 n0 c0)), (1, (.int .i64 x1))]) ⟨he 0, he 1, trivial⟩ (fun J => ?_)
 show At (gl R) _ _ _ _
 refine At.s K1 K2 ?_
 refine At.rg 0 [0] ?_
 refine Seq.u 4 (.bool false) ?_
 refine Seq.done ?_
 refine At.L [(0, (.slice p0 n0 c0)), (1, (.int .i64 x1))] fun J => ?_
 refine At.s K3 K23 ?_
 refine At.s K4 K5 ?_
 refine At.rg 1 [0] ?_
 refine Seq.u 5 (.int .i64 0) ?_
 refine Seq.done ?_
 refine At.L [(0, (.slice p0 n0 c0)), (1, (.int .i64 x1)), (5, (.int .i64 0))] fun J => ?_
 refine At.b 0 K6 ?_
 refine At.loop (x := K7) (by kernel_rfl) ?_
 refine At.s K8 K13 ?_
 refine At.s K9 K10 ?_
 exact At.v [(0, (.slice p0 n0 c0)), (1, (.int .i64 x1)), (5, (.int .i64 0))] (h _)
theorem pt9_of {R : Ending → Hp → Prop} {p0 : Option Addr} {n0 : Nat} {c0 : Nat} {x1 : Int} {x5 : Int} {σ : Hp} (h : ((x5 : Int) < (n0 : Int) → ∃ (b14 o14 : Nat), p0 = some ⟨b14, o14, none⟩ ∧ ((0 : Int) ≤ x5 ∧ x5 < (n0 : Int)) ∧ ∃ x15 : Int, Hp.ld σ ⟨b14, (o14 + Int.toNat x5 * 1), none⟩ = some (.int .i64 x15) ∧ ((x15 : Int) = x1 → R (.returned (.bool true)) σ) ∧ (¬ ((x15 : Int) = x1) → I64 (x5 + 1) ∧ pt9 R ((some ⟨b14, o14, none⟩)) n0 c0 x1 ((x5 + 1)) σ)) ∧ (¬ ((x5 : Int) < (n0 : Int)) → R (.returned (.bool false)) σ)) : pt9 R p0 n0 c0 x1 x5 σ := by
 intro J
 show At (gl R) _ _ _ _
 refine At.rg 2 [0, 1, 2, 3] ?_
 refine Seq.u 6 (.int .i64 x5) ?_
 refine Seq.u 7 (.slice p0 n0 c0) ?_
 refine Seq.z 8 (.call { callee := .builtin .len, args := #[(.tmp 7)], argTypes := #[27] }) 3 (.int .i64 (n0 : Int)) (Y.lenS underlying27 rfl rfl) ?_
 refine Seq.u 9 (.bool (decide ((x5 : Int) < (n0 : Int)))) ?_
 refine Seq.done ?_
 refine At.L [(0, (.slice p0 n0 c0)), (1, (.int .i64 x1)), (5, (.int .i64 x5)), (9, (.bool (decide ((x5 : Int) < (n0 : Int)))))] fun J => ?_
 cases hb : (decide ((x5 : Int) < (n0 : Int))) with
 | true =>
  replace h := h.1 (of_decide_eq_true hb)
  refine At.cT 9 K11 K12 ?_
  refine At.skip ?_
  refine At.s K14 K22 ?_
  refine At.b 1 K15 ?_
  refine At.s K16 K17 ?_
  refine At.rg 4 [0, 1, 2, 3, 4, 5] ?_
  refine Seq.u 12 (.slice p0 n0 c0) ?_
  refine Seq.u 13 (.int .i64 x5) ?_
  obtain ⟨b14, o14, hq, h⟩ := h
  subst hq
  obtain ⟨hi, h⟩ := h
  refine Seq.z 14 (.indexAddr 27 (.tmp 12) (.tmp 13)) 0 (.pointer (some ⟨b14, (o14 + Int.toNat x5 * 1), none⟩)) (Y.idx underlying27 sizeOf3 rfl rfl hi rfl) ?_
  obtain ⟨x15, hl, h⟩ := h
  refine Seq.z 15 (.load 3 (.tmp 14)) 3 (.int .i64 x15) (Y.ld isAgg3 rfl hl) ?_
  refine Seq.u 16 (.int .i64 x1) ?_
  refine Seq.u 17 (.bool (decide ((x15 : Int) = x1))) ?_
  refine Seq.done ?_
  refine At.L [(0, (.slice (some ⟨b14, o14, none⟩) n0 c0)), (1, (.int .i64 x1)), (5, (.int .i64 x5)), (17, (.bool (decide ((x15 : Int) = x1))))] fun J => ?_
  cases hb : (decide ((x15 : Int) = x1)) with
  | true =>
   replace h := h.1 (of_decide_eq_true hb)
   refine At.cT 17 K18 K21 ?_
   refine At.s K19 K20 ?_
   refine At.rg 5 [0] ?_
   refine Seq.u 4 (.bool true) ?_
   refine Seq.done ?_
   refine At.L [(4, (.bool true))] fun J => ?_
   exact At.rt [.tmp 4] [(.bool true)] func22 ⟨_, rfl, rfl⟩ h
  | false =>
   replace h := h.2 (of_decide_eq_false hb)
   refine At.cF 17 K18 K21 ?_
   refine At.skip ?_
   refine At.inBlock ?_
   refine At.rg 3 [0, 1, 2] ?_
   refine Seq.u 10 (.int .i64 x5) ?_
   obtain ⟨hi, h⟩ := h
   refine Seq.z 11 (.binOp .add 3 (.tmp 10) (.const (.int .i64 1)) 3) 3 (.int .i64 (x5 + 1)) (Y.addI hi rfl rfl) ?_
   refine Seq.u 5 (.int .i64 (x5 + 1)) ?_
   refine Seq.done ?_
   refine At.L [(0, (.slice (some ⟨b14, o14, none⟩) n0 c0)), (1, (.int .i64 x1)), (5, (.int .i64 (x5 + 1)))] fun J => ?_
   refine At.inLoop ?_
   refine At.s K8 K13 ?_
   refine At.s K9 K10 ?_
   exact At.v [(0, (.slice (some ⟨b14, o14, none⟩) n0 c0)), (1, (.int .i64 x1)), (5, (.int .i64 (x5 + 1)))] (h _)
 | false =>
  replace h := h.2 (of_decide_eq_false hb)
  refine At.cF 9 K11 K12 ?_
  refine At.x 0 [.code K23] ?_
  refine At.s K24 K25 ?_
  refine At.rg 6 [0] ?_
  refine Seq.u 4 (.bool false) ?_
  refine Seq.done ?_
  refine At.L [(4, (.bool false))] fun J => ?_
  exact At.rt [.tmp 4] [(.bool false)] func22 ⟨_, rfl, rfl⟩ h
end law13_has
namespace law0_SameInts
abbrev fid : Nat := 12
noncomputable def K0 : Code := f12.body.getD .skip
noncomputable def K1 := Tw.cl K0
noncomputable def K2 := Tw.cr K0
noncomputable def K3 := Tw.cl K2
noncomputable def K4 := Tw.cl K3
noncomputable def K5 := Tw.cr K3
noncomputable def K6 := Tw.cl K5
noncomputable def K7 := Tw.cl K6
noncomputable def K8 := Tw.cr K6
noncomputable def K9 := Tw.cr K5
noncomputable def K10 := Tw.cr K2
noncomputable def K11 := Tw.cl K10
noncomputable def K12 := Tw.cl K11
noncomputable def K13 := Tw.cr K11
noncomputable def K14 := Tw.cl K13
noncomputable def K15 := Tw.cl K14
noncomputable def K16 := Tw.cl K15
noncomputable def K17 := Tw.cl K16
noncomputable def K18 := Tw.cr K16
noncomputable def K19 := Tw.cl K18
noncomputable def K20 := Tw.cr K18
noncomputable def K21 := Tw.cr K15
noncomputable def K22 := Tw.cl K21
noncomputable def K23 := Tw.cl K22
noncomputable def K24 := Tw.cl K23
noncomputable def K25 := Tw.cr K23
noncomputable def K26 := Tw.cl K25
noncomputable def K27 := Tw.cl K26
noncomputable def K28 := Tw.cr K26
noncomputable def K29 := Tw.cr K25
noncomputable def K30 := Tw.cr K21
noncomputable def K31 := Tw.cr K10
noncomputable def K32 := Tw.cl K31
noncomputable def K33 := Tw.cr K31
noncomputable abbrev gl (R : Ending → Hp → Prop) : Gl := Gl.fn prog 12 26 R
def pt17 (R : Ending → Hp → Prop) (p0 : Option Addr) (n0 : Nat) (c0 : Nat) (p1 : Option Addr) (n1 : Nat) (c1 : Nat) (x5 : Int) (σ : Hp) : Prop := ∀ (J : Env), At (gl R) [.code K17, .code K18, .code K21, .inLoop K15, .inBlock 0, .code K31] (upds J [(0, (.slice p0 n0 c0)), (1, (.slice p1 n1 c1)), (5, (.int .i64 x5))]) [] σ
theorem start {R : Ending → Hp → Prop} {p0 : Option Addr} {n0 : Nat} {c0 : Nat} {p1 : Option Addr} {n1 : Nat} {c1 : Nat} {σ : Hp} (h : (((n0 : Int) : Int) ≠ (n1 : Int) → R (.returned (.bool false)) σ) ∧ (¬ (((n0 : Int) : Int) ≠ (n1 : Int)) → pt17 R p0 n0 c0 p1 n1 c1 0 σ)) : Spec prog 12 #[(.slice p0 n0 c0), (.slice p1 n1 c1)] σ R := by
 refine Spec.of_at (fn := f12) (c := K0) func12 (by kernel_rfl) (Nat.le_of_ble_eq_true (by kernel_rfl)) (fun e he => ?_)
 refine At.ofL (l := [(0, (.slice p0 n0 c0)), (1, (.slice p1 n1 c1))]) ⟨he 0, he 1, trivial⟩ (fun J => ?_)
 show At (gl R) _ _ _ _
 refine At.s K1 K2 ?_
 refine At.rg 0 [0] ?_
 refine Seq.u 4 (.bool false) ?_
 refine Seq.done ?_
 refine At.L [(0, (.slice p0 n0 c0)), (1, (.slice p1 n1 c1))] fun J => ?_
 refine At.s K3 K10 ?_
 refine At.s K4 K5 ?_
 refine At.rg 1 [0, 1, 2, 3, 4] ?_
 refine Seq.u 6 (.slice p0 n0 c0) ?_
 refine Seq.z 7 (.call { callee := .builtin .len, args := #[(.tmp 6)], argTypes := #[27] }) 3 (.int .i64 (n0 : Int)) (Y.lenS underlying27 rfl rfl) ?_
 refine Seq.u 8 (.slice p1 n1 c1) ?_
 refine Seq.z 9 (.call { callee := .builtin .len, args := #[(.tmp 8)], argTypes := #[27] }) 3 (.int .i64 (n1 : Int)) (Y.lenS underlying27 rfl rfl) ?_
 refine Seq.u 10 (.bool (decide (((n0 : Int) : Int) ≠ (n1 : Int)))) ?_
 refine Seq.done ?_
 refine At.L [(0, (.slice p0 n0 c0)), (1, (.slice p1 n1 c1)), (10, (.bool (decide (((n0 : Int) : Int) ≠ (n1 : Int)))))] fun J => ?_
 cases hb : (decide (((n0 : Int) : Int) ≠ (n1 : Int))) with
 | true =>
  replace h := h.1 (of_decide_eq_true hb)
  refine At.cT 10 K6 K9 ?_
  refine At.s K7 K8 ?_
  refine At.rg 2 [0] ?_
  refine Seq.u 4 (.bool false) ?_
  refine Seq.done ?_
  refine At.L [(4, (.bool false))] fun J => ?_
  exact At.rt [.tmp 4] [(.bool false)] func12 ⟨_, rfl, rfl⟩ h
 | false =>
  replace h := h.2 (of_decide_eq_false hb)
  refine At.cF 10 K6 K9 ?_
  refine At.skip ?_
  refine At.s K11 K31 ?_
  refine At.s K12 K13 ?_
  refine At.rg 3 [0] ?_
  refine Seq.u 5 (.int .i64 0) ?_
  refine Seq.done ?_
  refine At.L [(0, (.slice p0 n0 c0)), (1, (.slice p1 n1 c1)), (5, (.int .i64 0))] fun J => ?_
  refine At.b 0 K14 ?_
  refine At.loop (x := K15) (by kernel_rfl) ?_
  refine At.s K16 K21 ?_
  refine At.s K17 K18 ?_
  exact At.v [(0, (.slice p0 n0 c0)), (1, (.slice p1 n1 c1)), (5, (.int .i64 0))] (h _)
theorem pt17_of {R : Ending → Hp → Prop} {p0 : Option Addr} {n0 : Nat} {c0 : Nat} {p1 : Option Addr} {n1 : Nat} {c1 : Nat} {x5 : Int} {σ : Hp} (h : ((x5 : Int) < (n0 : Int) → ∃ (b19 o19 : Nat), p0 = some ⟨b19, o19, none⟩ ∧ ((0 : Int) ≤ x5 ∧ x5 < (n0 : Int)) ∧ ∃ x20 : Int, Hp.ld σ ⟨b19, (o19 + Int.toNat x5 * 1), none⟩ = some (.int .i64 x20) ∧ ∃ (b23 o23 : Nat), p1 = some ⟨b23, o23, none⟩ ∧ ((0 : Int) ≤ x5 ∧ x5 < (n1 : Int)) ∧ ∃ x24 : Int, Hp.ld σ ⟨b23, (o23 + Int.toNat x5 * 1), none⟩ = some (.int .i64 x24) ∧ ((x20 : Int) ≠ x24 → R (.returned (.bool false)) σ) ∧ (¬ ((x20 : Int) ≠ x24) → I64 (x5 + 1) ∧ pt17 R ((some ⟨b19, o19, none⟩)) n0 c0 ((some ⟨b23, o23, none⟩)) n1 c1 ((x5 + 1)) σ)) ∧ (¬ ((x5 : Int) < (n0 : Int)) → R (.returned (.bool true)) σ)) : pt17 R p0 n0 c0 p1 n1 c1 x5 σ := by
 intro J
 show At (gl R) _ _ _ _
 refine At.rg 4 [0, 1, 2, 3] ?_
 refine Seq.u 11 (.int .i64 x5) ?_
 refine Seq.u 12 (.slice p0 n0 c0) ?_
 refine Seq.z 13 (.call { callee := .builtin .len, args := #[(.tmp 12)], argTypes := #[27] }) 3 (.int .i64 (n0 : Int)) (Y.lenS underlying27 rfl rfl) ?_
 refine Seq.u 14 (.bool (decide ((x5 : Int) < (n0 : Int)))) ?_
 refine Seq.done ?_
 refine At.L [(0, (.slice p0 n0 c0)), (1, (.slice p1 n1 c1)), (5, (.int .i64 x5)), (14, (.bool (decide ((x5 : Int) < (n0 : Int)))))] fun J => ?_
 cases hb : (decide ((x5 : Int) < (n0 : Int))) with
 | true =>
  replace h := h.1 (of_decide_eq_true hb)
  refine At.cT 14 K19 K20 ?_
  refine At.skip ?_
  refine At.s K22 K30 ?_
  refine At.b 1 K23 ?_
  refine At.s K24 K25 ?_
  refine At.draw (id := 6) (ops := cO K24) (n := 9) (q := none) (plan := [(0, true), (1, true), (2, true), (3, true), (4, true), (5, true), (6, true), (7, true), (8, true)]) (tl := []) mixed (by kernel_rfl) (by kernel_rfl) ?_
  refine Head.u 17 (.slice p0 n0 c0) ?_
  refine Head.u 18 (.int .i64 x5) ?_
  obtain ⟨b19, o19, hq, h⟩ := h
  subst hq
  obtain ⟨hi, h⟩ := h
  refine Head.z 19 (.indexAddr 27 (.tmp 17) (.tmp 18)) 0 (.pointer (some ⟨b19, (o19 + Int.toNat x5 * 1), none⟩)) (Y.idx underlying27 sizeOf3 rfl rfl hi rfl) ?_
  obtain ⟨x20, hl, h⟩ := h
  refine Head.z 20 (.load 3 (.tmp 19)) 3 (.int .i64 x20) (Y.ld isAgg3 rfl hl) ?_
  refine Head.u 21 (.slice p1 n1 c1) ?_
  refine Head.u 22 (.int .i64 x5) ?_
  obtain ⟨b23, o23, hq, h⟩ := h
  subst hq
  obtain ⟨hi, h⟩ := h
  refine Head.z 23 (.indexAddr 27 (.tmp 21) (.tmp 22)) 0 (.pointer (some ⟨b23, (o23 + Int.toNat x5 * 1), none⟩)) (Y.idx underlying27 sizeOf3 rfl rfl hi rfl) ?_
  obtain ⟨x24, hl, h⟩ := h
  refine Head.z 24 (.load 3 (.tmp 23)) 3 (.int .i64 x24) (Y.ld isAgg3 rfl hl) ?_
  refine Head.u 25 (.bool (decide ((x20 : Int) ≠ x24))) ?_
  refine Head.done ?_
  refine Seq.done ?_
  refine At.L [(0, (.slice (some ⟨b19, o19, none⟩) n0 c0)), (1, (.slice (some ⟨b23, o23, none⟩) n1 c1)), (5, (.int .i64 x5)), (25, (.bool (decide ((x20 : Int) ≠ x24))))] fun J => ?_
  cases hb : (decide ((x20 : Int) ≠ x24)) with
  | true =>
   replace h := h.1 (of_decide_eq_true hb)
   refine At.cT 25 K26 K29 ?_
   refine At.s K27 K28 ?_
   refine At.rg 7 [0] ?_
   refine Seq.u 4 (.bool false) ?_
   refine Seq.done ?_
   refine At.L [(4, (.bool false))] fun J => ?_
   exact At.rt [.tmp 4] [(.bool false)] func12 ⟨_, rfl, rfl⟩ h
  | false =>
   replace h := h.2 (of_decide_eq_false hb)
   refine At.cF 25 K26 K29 ?_
   refine At.skip ?_
   refine At.inBlock ?_
   refine At.rg 5 [0, 1, 2] ?_
   refine Seq.u 15 (.int .i64 x5) ?_
   obtain ⟨hi, h⟩ := h
   refine Seq.z 16 (.binOp .add 3 (.tmp 15) (.const (.int .i64 1)) 3) 3 (.int .i64 (x5 + 1)) (Y.addI hi rfl rfl) ?_
   refine Seq.u 5 (.int .i64 (x5 + 1)) ?_
   refine Seq.done ?_
   refine At.L [(0, (.slice (some ⟨b19, o19, none⟩) n0 c0)), (1, (.slice (some ⟨b23, o23, none⟩) n1 c1)), (5, (.int .i64 (x5 + 1)))] fun J => ?_
   refine At.inLoop ?_
   refine At.s K16 K21 ?_
   refine At.s K17 K18 ?_
   exact At.v [(0, (.slice (some ⟨b19, o19, none⟩) n0 c0)), (1, (.slice (some ⟨b23, o23, none⟩) n1 c1)), (5, (.int .i64 (x5 + 1)))] (h _)
 | false =>
  replace h := h.2 (of_decide_eq_false hb)
  refine At.cF 14 K19 K20 ?_
  refine At.x 0 [.code K31] ?_
  refine At.s K32 K33 ?_
  refine At.rg 8 [0] ?_
  refine Seq.u 4 (.bool true) ?_
  refine Seq.done ?_
  refine At.L [(4, (.bool true))] fun J => ?_
  exact At.rt [.tmp 4] [(.bool true)] func12 ⟨_, rfl, rfl⟩ h
end law0_SameInts
namespace law0_SameWords
abbrev fid : Nat := 35
noncomputable def K0 : Code := f35.body.getD .skip
noncomputable def K1 := Tw.cl K0
noncomputable def K2 := Tw.cr K0
noncomputable def K3 := Tw.cl K2
noncomputable def K4 := Tw.cl K3
noncomputable def K5 := Tw.cr K3
noncomputable def K6 := Tw.cl K5
noncomputable def K7 := Tw.cl K6
noncomputable def K8 := Tw.cr K6
noncomputable def K9 := Tw.cr K5
noncomputable def K10 := Tw.cr K2
noncomputable def K11 := Tw.cl K10
noncomputable def K12 := Tw.cl K11
noncomputable def K13 := Tw.cr K11
noncomputable def K14 := Tw.cl K13
noncomputable def K15 := Tw.cl K14
noncomputable def K16 := Tw.cl K15
noncomputable def K17 := Tw.cl K16
noncomputable def K18 := Tw.cr K16
noncomputable def K19 := Tw.cl K18
noncomputable def K20 := Tw.cr K18
noncomputable def K21 := Tw.cr K15
noncomputable def K22 := Tw.cl K21
noncomputable def K23 := Tw.cl K22
noncomputable def K24 := Tw.cl K23
noncomputable def K25 := Tw.cr K23
noncomputable def K26 := Tw.cl K25
noncomputable def K27 := Tw.cl K26
noncomputable def K28 := Tw.cr K26
noncomputable def K29 := Tw.cr K25
noncomputable def K30 := Tw.cr K21
noncomputable def K31 := Tw.cr K10
noncomputable def K32 := Tw.cl K31
noncomputable def K33 := Tw.cr K31
noncomputable abbrev gl (R : Ending → Hp → Prop) : Gl := Gl.fn prog 35 26 R
def pt17 (R : Ending → Hp → Prop) (p0 : Option Addr) (n0 : Nat) (c0 : Nat) (p1 : Option Addr) (n1 : Nat) (c1 : Nat) (x5 : Int) (σ : Hp) : Prop := ∀ (J : Env), At (gl R) [.code K17, .code K18, .code K21, .inLoop K15, .inBlock 0, .code K31] (upds J [(0, (.slice p0 n0 c0)), (1, (.slice p1 n1 c1)), (5, (.int .i64 x5))]) [] σ
theorem start {R : Ending → Hp → Prop} {p0 : Option Addr} {n0 : Nat} {c0 : Nat} {p1 : Option Addr} {n1 : Nat} {c1 : Nat} {σ : Hp} (h : (((n0 : Int) : Int) ≠ (n1 : Int) → R (.returned (.bool false)) σ) ∧ (¬ (((n0 : Int) : Int) ≠ (n1 : Int)) → pt17 R p0 n0 c0 p1 n1 c1 0 σ)) : Spec prog 35 #[(.slice p0 n0 c0), (.slice p1 n1 c1)] σ R := by
 refine Spec.of_at (fn := f35) (c := K0) func35 (by kernel_rfl) (Nat.le_of_ble_eq_true (by kernel_rfl)) (fun e he => ?_)
 refine At.ofL (l := [(0, (.slice p0 n0 c0)), (1, (.slice p1 n1 c1))]) ⟨he 0, he 1, trivial⟩ (fun J => ?_)
 show At (gl R) _ _ _ _
 refine At.s K1 K2 ?_
 refine At.rg 0 [0] ?_
 refine Seq.u 4 (.bool false) ?_
 refine Seq.done ?_
 refine At.L [(0, (.slice p0 n0 c0)), (1, (.slice p1 n1 c1))] fun J => ?_
 refine At.s K3 K10 ?_
 refine At.s K4 K5 ?_
 refine At.rg 1 [0, 1, 2, 3, 4] ?_
 refine Seq.u 6 (.slice p0 n0 c0) ?_
 refine Seq.z 7 (.call { callee := .builtin .len, args := #[(.tmp 6)], argTypes := #[53] }) 3 (.int .i64 (n0 : Int)) (Y.lenS underlying53 rfl rfl) ?_
 refine Seq.u 8 (.slice p1 n1 c1) ?_
 refine Seq.z 9 (.call { callee := .builtin .len, args := #[(.tmp 8)], argTypes := #[53] }) 3 (.int .i64 (n1 : Int)) (Y.lenS underlying53 rfl rfl) ?_
 refine Seq.u 10 (.bool (decide (((n0 : Int) : Int) ≠ (n1 : Int)))) ?_
 refine Seq.done ?_
 refine At.L [(0, (.slice p0 n0 c0)), (1, (.slice p1 n1 c1)), (10, (.bool (decide (((n0 : Int) : Int) ≠ (n1 : Int)))))] fun J => ?_
 cases hb : (decide (((n0 : Int) : Int) ≠ (n1 : Int))) with
 | true =>
  replace h := h.1 (of_decide_eq_true hb)
  refine At.cT 10 K6 K9 ?_
  refine At.s K7 K8 ?_
  refine At.rg 2 [0] ?_
  refine Seq.u 4 (.bool false) ?_
  refine Seq.done ?_
  refine At.L [(4, (.bool false))] fun J => ?_
  exact At.rt [.tmp 4] [(.bool false)] func35 ⟨_, rfl, rfl⟩ h
 | false =>
  replace h := h.2 (of_decide_eq_false hb)
  refine At.cF 10 K6 K9 ?_
  refine At.skip ?_
  refine At.s K11 K31 ?_
  refine At.s K12 K13 ?_
  refine At.rg 3 [0] ?_
  refine Seq.u 5 (.int .i64 0) ?_
  refine Seq.done ?_
  refine At.L [(0, (.slice p0 n0 c0)), (1, (.slice p1 n1 c1)), (5, (.int .i64 0))] fun J => ?_
  refine At.b 0 K14 ?_
  refine At.loop (x := K15) (by kernel_rfl) ?_
  refine At.s K16 K21 ?_
  refine At.s K17 K18 ?_
  exact At.v [(0, (.slice p0 n0 c0)), (1, (.slice p1 n1 c1)), (5, (.int .i64 0))] (h _)
theorem pt17_of {R : Ending → Hp → Prop} {p0 : Option Addr} {n0 : Nat} {c0 : Nat} {p1 : Option Addr} {n1 : Nat} {c1 : Nat} {x5 : Int} {σ : Hp} (h : ((x5 : Int) < (n0 : Int) → ∃ (b19 o19 : Nat), p0 = some ⟨b19, o19, none⟩ ∧ ((0 : Int) ≤ x5 ∧ x5 < (n0 : Int)) ∧ ∃ x20 : Int, Hp.ld σ ⟨b19, (o19 + Int.toNat x5 * 1), none⟩ = some (.int .u32 x20) ∧ ∃ (b23 o23 : Nat), p1 = some ⟨b23, o23, none⟩ ∧ ((0 : Int) ≤ x5 ∧ x5 < (n1 : Int)) ∧ ∃ x24 : Int, Hp.ld σ ⟨b23, (o23 + Int.toNat x5 * 1), none⟩ = some (.int .u32 x24) ∧ ((x20 : Int) ≠ x24 → R (.returned (.bool false)) σ) ∧ (¬ ((x20 : Int) ≠ x24) → I64 (x5 + 1) ∧ pt17 R ((some ⟨b19, o19, none⟩)) n0 c0 ((some ⟨b23, o23, none⟩)) n1 c1 ((x5 + 1)) σ)) ∧ (¬ ((x5 : Int) < (n0 : Int)) → R (.returned (.bool true)) σ)) : pt17 R p0 n0 c0 p1 n1 c1 x5 σ := by
 intro J
 show At (gl R) _ _ _ _
 refine At.rg 4 [0, 1, 2, 3] ?_
 refine Seq.u 11 (.int .i64 x5) ?_
 refine Seq.u 12 (.slice p0 n0 c0) ?_
 refine Seq.z 13 (.call { callee := .builtin .len, args := #[(.tmp 12)], argTypes := #[53] }) 3 (.int .i64 (n0 : Int)) (Y.lenS underlying53 rfl rfl) ?_
 refine Seq.u 14 (.bool (decide ((x5 : Int) < (n0 : Int)))) ?_
 refine Seq.done ?_
 refine At.L [(0, (.slice p0 n0 c0)), (1, (.slice p1 n1 c1)), (5, (.int .i64 x5)), (14, (.bool (decide ((x5 : Int) < (n0 : Int)))))] fun J => ?_
 cases hb : (decide ((x5 : Int) < (n0 : Int))) with
 | true =>
  replace h := h.1 (of_decide_eq_true hb)
  refine At.cT 14 K19 K20 ?_
  refine At.skip ?_
  refine At.s K22 K30 ?_
  refine At.b 1 K23 ?_
  refine At.s K24 K25 ?_
  refine At.draw (id := 6) (ops := cO K24) (n := 9) (q := none) (plan := [(0, true), (1, true), (2, true), (3, true), (4, true), (5, true), (6, true), (7, true), (8, true)]) (tl := []) mixed (by kernel_rfl) (by kernel_rfl) ?_
  refine Head.u 17 (.slice p0 n0 c0) ?_
  refine Head.u 18 (.int .i64 x5) ?_
  obtain ⟨b19, o19, hq, h⟩ := h
  subst hq
  obtain ⟨hi, h⟩ := h
  refine Head.z 19 (.indexAddr 53 (.tmp 17) (.tmp 18)) 0 (.pointer (some ⟨b19, (o19 + Int.toNat x5 * 1), none⟩)) (Y.idx underlying53 sizeOf26 rfl rfl hi rfl) ?_
  obtain ⟨x20, hl, h⟩ := h
  refine Head.z 20 (.load 26 (.tmp 19)) 26 (.int .u32 x20) (Y.ld isAgg26 rfl hl) ?_
  refine Head.u 21 (.slice p1 n1 c1) ?_
  refine Head.u 22 (.int .i64 x5) ?_
  obtain ⟨b23, o23, hq, h⟩ := h
  subst hq
  obtain ⟨hi, h⟩ := h
  refine Head.z 23 (.indexAddr 53 (.tmp 21) (.tmp 22)) 0 (.pointer (some ⟨b23, (o23 + Int.toNat x5 * 1), none⟩)) (Y.idx underlying53 sizeOf26 rfl rfl hi rfl) ?_
  obtain ⟨x24, hl, h⟩ := h
  refine Head.z 24 (.load 26 (.tmp 23)) 26 (.int .u32 x24) (Y.ld isAgg26 rfl hl) ?_
  refine Head.u 25 (.bool (decide ((x20 : Int) ≠ x24))) ?_
  refine Head.done ?_
  refine Seq.done ?_
  refine At.L [(0, (.slice (some ⟨b19, o19, none⟩) n0 c0)), (1, (.slice (some ⟨b23, o23, none⟩) n1 c1)), (5, (.int .i64 x5)), (25, (.bool (decide ((x20 : Int) ≠ x24))))] fun J => ?_
  cases hb : (decide ((x20 : Int) ≠ x24)) with
  | true =>
   replace h := h.1 (of_decide_eq_true hb)
   refine At.cT 25 K26 K29 ?_
   refine At.s K27 K28 ?_
   refine At.rg 7 [0] ?_
   refine Seq.u 4 (.bool false) ?_
   refine Seq.done ?_
   refine At.L [(4, (.bool false))] fun J => ?_
   exact At.rt [.tmp 4] [(.bool false)] func35 ⟨_, rfl, rfl⟩ h
  | false =>
   replace h := h.2 (of_decide_eq_false hb)
   refine At.cF 25 K26 K29 ?_
   refine At.skip ?_
   refine At.inBlock ?_
   refine At.rg 5 [0, 1, 2] ?_
   refine Seq.u 15 (.int .i64 x5) ?_
   obtain ⟨hi, h⟩ := h
   refine Seq.z 16 (.binOp .add 3 (.tmp 15) (.const (.int .i64 1)) 3) 3 (.int .i64 (x5 + 1)) (Y.addI hi rfl rfl) ?_
   refine Seq.u 5 (.int .i64 (x5 + 1)) ?_
   refine Seq.done ?_
   refine At.L [(0, (.slice (some ⟨b19, o19, none⟩) n0 c0)), (1, (.slice (some ⟨b23, o23, none⟩) n1 c1)), (5, (.int .i64 (x5 + 1)))] fun J => ?_
   refine At.inLoop ?_
   refine At.s K16 K21 ?_
   refine At.s K17 K18 ?_
   exact At.v [(0, (.slice (some ⟨b19, o19, none⟩) n0 c0)), (1, (.slice (some ⟨b23, o23, none⟩) n1 c1)), (5, (.int .i64 (x5 + 1)))] (h _)
 | false =>
  replace h := h.2 (of_decide_eq_false hb)
  refine At.cF 14 K19 K20 ?_
  refine At.x 0 [.code K31] ?_
  refine At.s K32 K33 ?_
  refine At.rg 8 [0] ?_
  refine Seq.u 4 (.bool true) ?_
  refine Seq.done ?_
  refine At.L [(4, (.bool true))] fun J => ?_
  exact At.rt [.tmp 4] [(.bool true)] func35 ⟨_, rfl, rfl⟩ h
end law0_SameWords
namespace law0_SameBytes
abbrev fid : Nat := 21
noncomputable def K0 : Code := f21.body.getD .skip
noncomputable def K1 := Tw.cl K0
noncomputable def K2 := Tw.cr K0
noncomputable def K3 := Tw.cl K2
noncomputable def K4 := Tw.cl K3
noncomputable def K5 := Tw.cr K3
noncomputable def K6 := Tw.cl K5
noncomputable def K7 := Tw.cl K6
noncomputable def K8 := Tw.cr K6
noncomputable def K9 := Tw.cr K5
noncomputable def K10 := Tw.cr K2
noncomputable def K11 := Tw.cl K10
noncomputable def K12 := Tw.cl K11
noncomputable def K13 := Tw.cr K11
noncomputable def K14 := Tw.cl K13
noncomputable def K15 := Tw.cl K14
noncomputable def K16 := Tw.cl K15
noncomputable def K17 := Tw.cl K16
noncomputable def K18 := Tw.cr K16
noncomputable def K19 := Tw.cl K18
noncomputable def K20 := Tw.cr K18
noncomputable def K21 := Tw.cr K15
noncomputable def K22 := Tw.cl K21
noncomputable def K23 := Tw.cl K22
noncomputable def K24 := Tw.cl K23
noncomputable def K25 := Tw.cr K23
noncomputable def K26 := Tw.cl K25
noncomputable def K27 := Tw.cl K26
noncomputable def K28 := Tw.cr K26
noncomputable def K29 := Tw.cr K25
noncomputable def K30 := Tw.cr K21
noncomputable def K31 := Tw.cr K10
noncomputable def K32 := Tw.cl K31
noncomputable def K33 := Tw.cr K31
noncomputable abbrev gl (R : Ending → Hp → Prop) : Gl := Gl.fn prog 21 26 R
def pt17 (R : Ending → Hp → Prop) (p0 : Option Addr) (n0 : Nat) (c0 : Nat) (p1 : Option Addr) (n1 : Nat) (c1 : Nat) (x5 : Int) (σ : Hp) : Prop := ∀ (J : Env), At (gl R) [.code K17, .code K18, .code K21, .inLoop K15, .inBlock 0, .code K31] (upds J [(0, (.slice p0 n0 c0)), (1, (.slice p1 n1 c1)), (5, (.int .i64 x5))]) [] σ
theorem start {R : Ending → Hp → Prop} {p0 : Option Addr} {n0 : Nat} {c0 : Nat} {p1 : Option Addr} {n1 : Nat} {c1 : Nat} {σ : Hp} (h : (((n0 : Int) : Int) ≠ (n1 : Int) → R (.returned (.bool false)) σ) ∧ (¬ (((n0 : Int) : Int) ≠ (n1 : Int)) → pt17 R p0 n0 c0 p1 n1 c1 0 σ)) : Spec prog 21 #[(.slice p0 n0 c0), (.slice p1 n1 c1)] σ R := by
 refine Spec.of_at (fn := f21) (c := K0) func21 (by kernel_rfl) (Nat.le_of_ble_eq_true (by kernel_rfl)) (fun e he => ?_)
 refine At.ofL (l := [(0, (.slice p0 n0 c0)), (1, (.slice p1 n1 c1))]) ⟨he 0, he 1, trivial⟩ (fun J => ?_)
 show At (gl R) _ _ _ _
 refine At.s K1 K2 ?_
 refine At.rg 0 [0] ?_
 refine Seq.u 4 (.bool false) ?_
 refine Seq.done ?_
 refine At.L [(0, (.slice p0 n0 c0)), (1, (.slice p1 n1 c1))] fun J => ?_
 refine At.s K3 K10 ?_
 refine At.s K4 K5 ?_
 refine At.rg 1 [0, 1, 2, 3, 4] ?_
 refine Seq.u 6 (.slice p0 n0 c0) ?_
 refine Seq.z 7 (.call { callee := .builtin .len, args := #[(.tmp 6)], argTypes := #[37] }) 3 (.int .i64 (n0 : Int)) (Y.lenS underlying37 rfl rfl) ?_
 refine Seq.u 8 (.slice p1 n1 c1) ?_
 refine Seq.z 9 (.call { callee := .builtin .len, args := #[(.tmp 8)], argTypes := #[37] }) 3 (.int .i64 (n1 : Int)) (Y.lenS underlying37 rfl rfl) ?_
 refine Seq.u 10 (.bool (decide (((n0 : Int) : Int) ≠ (n1 : Int)))) ?_
 refine Seq.done ?_
 refine At.L [(0, (.slice p0 n0 c0)), (1, (.slice p1 n1 c1)), (10, (.bool (decide (((n0 : Int) : Int) ≠ (n1 : Int)))))] fun J => ?_
 cases hb : (decide (((n0 : Int) : Int) ≠ (n1 : Int))) with
 | true =>
  replace h := h.1 (of_decide_eq_true hb)
  refine At.cT 10 K6 K9 ?_
  refine At.s K7 K8 ?_
  refine At.rg 2 [0] ?_
  refine Seq.u 4 (.bool false) ?_
  refine Seq.done ?_
  refine At.L [(4, (.bool false))] fun J => ?_
  exact At.rt [.tmp 4] [(.bool false)] func21 ⟨_, rfl, rfl⟩ h
 | false =>
  replace h := h.2 (of_decide_eq_false hb)
  refine At.cF 10 K6 K9 ?_
  refine At.skip ?_
  refine At.s K11 K31 ?_
  refine At.s K12 K13 ?_
  refine At.rg 3 [0] ?_
  refine Seq.u 5 (.int .i64 0) ?_
  refine Seq.done ?_
  refine At.L [(0, (.slice p0 n0 c0)), (1, (.slice p1 n1 c1)), (5, (.int .i64 0))] fun J => ?_
  refine At.b 0 K14 ?_
  refine At.loop (x := K15) (by kernel_rfl) ?_
  refine At.s K16 K21 ?_
  refine At.s K17 K18 ?_
  exact At.v [(0, (.slice p0 n0 c0)), (1, (.slice p1 n1 c1)), (5, (.int .i64 0))] (h _)
theorem pt17_of {R : Ending → Hp → Prop} {p0 : Option Addr} {n0 : Nat} {c0 : Nat} {p1 : Option Addr} {n1 : Nat} {c1 : Nat} {x5 : Int} {σ : Hp} (h : ((x5 : Int) < (n0 : Int) → ∃ (b19 o19 : Nat), p0 = some ⟨b19, o19, none⟩ ∧ ((0 : Int) ≤ x5 ∧ x5 < (n0 : Int)) ∧ ∃ x20 : Int, Hp.ld σ ⟨b19, (o19 + Int.toNat x5 * 1), none⟩ = some (.int .u8 x20) ∧ ∃ (b23 o23 : Nat), p1 = some ⟨b23, o23, none⟩ ∧ ((0 : Int) ≤ x5 ∧ x5 < (n1 : Int)) ∧ ∃ x24 : Int, Hp.ld σ ⟨b23, (o23 + Int.toNat x5 * 1), none⟩ = some (.int .u8 x24) ∧ ((x20 : Int) ≠ x24 → R (.returned (.bool false)) σ) ∧ (¬ ((x20 : Int) ≠ x24) → I64 (x5 + 1) ∧ pt17 R ((some ⟨b19, o19, none⟩)) n0 c0 ((some ⟨b23, o23, none⟩)) n1 c1 ((x5 + 1)) σ)) ∧ (¬ ((x5 : Int) < (n0 : Int)) → R (.returned (.bool true)) σ)) : pt17 R p0 n0 c0 p1 n1 c1 x5 σ := by
 intro J
 show At (gl R) _ _ _ _
 refine At.rg 4 [0, 1, 2, 3] ?_
 refine Seq.u 11 (.int .i64 x5) ?_
 refine Seq.u 12 (.slice p0 n0 c0) ?_
 refine Seq.z 13 (.call { callee := .builtin .len, args := #[(.tmp 12)], argTypes := #[37] }) 3 (.int .i64 (n0 : Int)) (Y.lenS underlying37 rfl rfl) ?_
 refine Seq.u 14 (.bool (decide ((x5 : Int) < (n0 : Int)))) ?_
 refine Seq.done ?_
 refine At.L [(0, (.slice p0 n0 c0)), (1, (.slice p1 n1 c1)), (5, (.int .i64 x5)), (14, (.bool (decide ((x5 : Int) < (n0 : Int)))))] fun J => ?_
 cases hb : (decide ((x5 : Int) < (n0 : Int))) with
 | true =>
  replace h := h.1 (of_decide_eq_true hb)
  refine At.cT 14 K19 K20 ?_
  refine At.skip ?_
  refine At.s K22 K30 ?_
  refine At.b 1 K23 ?_
  refine At.s K24 K25 ?_
  refine At.draw (id := 6) (ops := cO K24) (n := 9) (q := none) (plan := [(0, true), (1, true), (2, true), (3, true), (4, true), (5, true), (6, true), (7, true), (8, true)]) (tl := []) mixed (by kernel_rfl) (by kernel_rfl) ?_
  refine Head.u 17 (.slice p0 n0 c0) ?_
  refine Head.u 18 (.int .i64 x5) ?_
  obtain ⟨b19, o19, hq, h⟩ := h
  subst hq
  obtain ⟨hi, h⟩ := h
  refine Head.z 19 (.indexAddr 37 (.tmp 17) (.tmp 18)) 0 (.pointer (some ⟨b19, (o19 + Int.toNat x5 * 1), none⟩)) (Y.idx underlying37 sizeOf5 rfl rfl hi rfl) ?_
  obtain ⟨x20, hl, h⟩ := h
  refine Head.z 20 (.load 5 (.tmp 19)) 5 (.int .u8 x20) (Y.ld isAgg5 rfl hl) ?_
  refine Head.u 21 (.slice p1 n1 c1) ?_
  refine Head.u 22 (.int .i64 x5) ?_
  obtain ⟨b23, o23, hq, h⟩ := h
  subst hq
  obtain ⟨hi, h⟩ := h
  refine Head.z 23 (.indexAddr 37 (.tmp 21) (.tmp 22)) 0 (.pointer (some ⟨b23, (o23 + Int.toNat x5 * 1), none⟩)) (Y.idx underlying37 sizeOf5 rfl rfl hi rfl) ?_
  obtain ⟨x24, hl, h⟩ := h
  refine Head.z 24 (.load 5 (.tmp 23)) 5 (.int .u8 x24) (Y.ld isAgg5 rfl hl) ?_
  refine Head.u 25 (.bool (decide ((x20 : Int) ≠ x24))) ?_
  refine Head.done ?_
  refine Seq.done ?_
  refine At.L [(0, (.slice (some ⟨b19, o19, none⟩) n0 c0)), (1, (.slice (some ⟨b23, o23, none⟩) n1 c1)), (5, (.int .i64 x5)), (25, (.bool (decide ((x20 : Int) ≠ x24))))] fun J => ?_
  cases hb : (decide ((x20 : Int) ≠ x24)) with
  | true =>
   replace h := h.1 (of_decide_eq_true hb)
   refine At.cT 25 K26 K29 ?_
   refine At.s K27 K28 ?_
   refine At.rg 7 [0] ?_
   refine Seq.u 4 (.bool false) ?_
   refine Seq.done ?_
   refine At.L [(4, (.bool false))] fun J => ?_
   exact At.rt [.tmp 4] [(.bool false)] func21 ⟨_, rfl, rfl⟩ h
  | false =>
   replace h := h.2 (of_decide_eq_false hb)
   refine At.cF 25 K26 K29 ?_
   refine At.skip ?_
   refine At.inBlock ?_
   refine At.rg 5 [0, 1, 2] ?_
   refine Seq.u 15 (.int .i64 x5) ?_
   obtain ⟨hi, h⟩ := h
   refine Seq.z 16 (.binOp .add 3 (.tmp 15) (.const (.int .i64 1)) 3) 3 (.int .i64 (x5 + 1)) (Y.addI hi rfl rfl) ?_
   refine Seq.u 5 (.int .i64 (x5 + 1)) ?_
   refine Seq.done ?_
   refine At.L [(0, (.slice (some ⟨b19, o19, none⟩) n0 c0)), (1, (.slice (some ⟨b23, o23, none⟩) n1 c1)), (5, (.int .i64 (x5 + 1)))] fun J => ?_
   refine At.inLoop ?_
   refine At.s K16 K21 ?_
   refine At.s K17 K18 ?_
   exact At.v [(0, (.slice (some ⟨b19, o19, none⟩) n0 c0)), (1, (.slice (some ⟨b23, o23, none⟩) n1 c1)), (5, (.int .i64 (x5 + 1)))] (h _)
 | false =>
  replace h := h.2 (of_decide_eq_false hb)
  refine At.cF 14 K19 K20 ?_
  refine At.x 0 [.code K31] ?_
  refine At.s K32 K33 ?_
  refine At.rg 8 [0] ?_
  refine Seq.u 4 (.bool true) ?_
  refine Seq.done ?_
  refine At.L [(4, (.bool true))] fun J => ?_
  exact At.rt [.tmp 4] [(.bool true)] func21 ⟨_, rfl, rfl⟩ h
end law0_SameBytes
namespace law0_SpoilInts
abbrev fid : Nat := 13
noncomputable def K0 : Code := f13.body.getD .skip
noncomputable def K1 := Tw.cl K0
noncomputable def K2 := Tw.cr K0
noncomputable def K3 := Tw.cl K2
noncomputable def K4 := Tw.cl K3
noncomputable def K5 := Tw.cr K3
noncomputable def K6 := Tw.cl K5
noncomputable def K7 := Tw.cl K6
noncomputable def K8 := Tw.cl K7
noncomputable def K9 := Tw.cl K8
noncomputable def K10 := Tw.cr K8
noncomputable def K11 := Tw.cl K10
noncomputable def K12 := Tw.cr K10
noncomputable def K13 := Tw.cr K7
noncomputable def K14 := Tw.cl K13
noncomputable def K15 := Tw.cl K14
noncomputable def K16 := Tw.cr K13
noncomputable def K17 := Tw.cr K2
noncomputable def K18 := Tw.cl K17
noncomputable def K19 := Tw.cr K17
noncomputable def K20 := Tw.cl K19
noncomputable def K21 := Tw.cl K20
noncomputable def K22 := Tw.cl K21
noncomputable def K23 := Tw.cl K22
noncomputable def K24 := Tw.cr K22
noncomputable def K25 := Tw.cl K24
noncomputable def K26 := Tw.cr K24
noncomputable def K27 := Tw.cr K21
noncomputable def K28 := Tw.cl K27
noncomputable def K29 := Tw.cl K28
noncomputable def K30 := Tw.cr K27
noncomputable abbrev gl (R : Ending → Hp → Prop) : Gl := Gl.fn prog 13 26 R
def pt9 (R : Ending → Hp → Prop) (p0 : Option Addr) (n0 : Nat) (c0 : Nat) (p2 : Option Addr) (n2 : Nat) (c2 : Nat) (x3 : Int) (σ : Hp) : Prop := ∀ (J : Env), At (gl R) [.code K9, .code K10, .code K13, .inLoop K7, .inBlock 0, .code K17] (upds J [(0, (.slice p0 n0 c0)), (2, (.slice p2 n2 c2)), (3, (.int .i64 x3))]) [] σ
def pt23 (R : Ending → Hp → Prop) (p0 : Option Addr) (n0 : Nat) (c0 : Nat) (x4 : Int) (σ : Hp) : Prop := ∀ (J : Env), At (gl R) [.code K23, .code K24, .code K27, .inLoop K21, .inBlock 2] (upds J [(0, (.slice p0 n0 c0)), (4, (.int .i64 x4))]) [] σ
theorem start {R : Ending → Hp → Prop} {p0 : Option Addr} {n0 : Nat} {c0 : Nat} {σ : Hp} (h : ∀ b6 : Nat, σ b6 = none → Eff prog (Builtin.append_ #[27, 27] 27 #[(.slice p0 n0 c0), (.slice (some ⟨b6, 0, none⟩) 1 1)]) (Hp.set σ b6 (.cells #[(.int .i64 (-77))] 3 (0, 0))) (fun v σ1 => ∃ p7 : Option Addr, ∃ n7 : Nat, ∃ c7 : Nat, v = (.slice p7 n7 c7) ∧ pt9 R p0 n0 c0 p7 n7 c7 0 σ1)) : Spec prog 13 #[(.slice p0 n0 c0)] σ R := by
 refine Spec.of_at (fn := f13) (c := K0) func13 (by kernel_rfl) (Nat.le_of_ble_eq_true (by kernel_rfl)) (fun e he => ?_)
 refine At.ofL (l := [(0, (.slice p0 n0 c0))]) ⟨he 0, trivial⟩ (fun J => ?_)
 show At (gl R) _ _ _ _
 refine At.s K1 K2 ?_
 refine At.rg 0 [0, 1, 2, 3] ?_
 refine Seq.u 5 (.slice p0 n0 c0) ?_
 refine Seq.o ?_
 refine OpTo.bslice (T := 27) (E := 3) (m := 1) (ps := #[(0, (.const (.int .i64 (-77))))]) (d := (some 6)) (ty := 27) (gd := none) (vs := [(0, (.int .i64 (-77)))]) (cs := #[(.int .i64 (-77))]) underlying27 (by kernel_rfl) rfl rfl rfl (by kernel_rfl) (fun b6 hn => ?_)
 replace h := h b6 hn
 refine Seq.o ?_
 refine OpTo.eff (d := (some 7)) (op := (.call { callee := .builtin .append, args := #[(.tmp 5), (.tmp 6)], argTypes := #[27, 27] })) (ty := 27) (gd := none) (by kernel_rfl) rfl rfl (Builtin.append_ #[27, 27] 27 #[(.slice p0 n0 c0), (.slice (some ⟨b6, 0, none⟩) 1 1)]) (fun o ho ht => exec_b_append rfl rfl o ho ht) (h.mono (fun v σ1 h2 => ?_)); replace h := h2; clear h2
 obtain ⟨p7, n7, c7, rfl, h⟩ := h
 refine Seq.u 2 (.slice p7 n7 c7) ?_
 refine Seq.done ?_
 refine At.L [(0, (.slice p0 n0 c0)), (2, (.slice p7 n7 c7))] fun J => ?_
 refine At.s K3 K17 ?_
 refine At.s K4 K5 ?_
 refine At.rg 1 [0] ?_
 refine Seq.u 3 (.int .i64 0) ?_
 refine Seq.done ?_
 refine At.L [(0, (.slice p0 n0 c0)), (2, (.slice p7 n7 c7)), (3, (.int .i64 0))] fun J => ?_
 refine At.b 0 K6 ?_
 refine At.loop (x := K7) (by kernel_rfl) ?_
 refine At.s K8 K13 ?_
 refine At.s K9 K10 ?_
 exact At.v [(0, (.slice p0 n0 c0)), (2, (.slice p7 n7 c7)), (3, (.int .i64 0))] (h _)
theorem pt9_of {R : Ending → Hp → Prop} {p0 : Option Addr} {n0 : Nat} {c0 : Nat} {p2 : Option Addr} {n2 : Nat} {c2 : Nat} {x3 : Int} {σ : Hp} (h : ((x3 : Int) < (n2 : Int) → ∃ (b16 o16 : Nat), p2 = some ⟨b16, o16, none⟩ ∧ ((0 : Int) ≤ x3 ∧ x3 < (n2 : Int)) ∧ Eff prog (Instr.storeAt 3 (.pointer (some ⟨b16, (o16 + Int.toNat x3 * 1), none⟩)) (.int .i64 (-77))) σ (fun _ σ1 => I64 (x3 + 1) ∧ pt9 R p0 n0 c0 ((some ⟨b16, o16, none⟩)) n2 c2 ((x3 + 1)) σ1)) ∧ (¬ ((x3 : Int) < (n2 : Int)) → pt23 R p0 n0 c0 0 σ)) : pt9 R p0 n0 c0 p2 n2 c2 x3 σ := by
 intro J
 show At (gl R) _ _ _ _
 refine At.rg 2 [0, 1, 2, 3] ?_
 refine Seq.u 8 (.int .i64 x3) ?_
 refine Seq.u 9 (.slice p2 n2 c2) ?_
 refine Seq.z 10 (.call { callee := .builtin .len, args := #[(.tmp 9)], argTypes := #[27] }) 3 (.int .i64 (n2 : Int)) (Y.lenS underlying27 rfl rfl) ?_
 refine Seq.u 11 (.bool (decide ((x3 : Int) < (n2 : Int)))) ?_
 refine Seq.done ?_
 refine At.L [(0, (.slice p0 n0 c0)), (2, (.slice p2 n2 c2)), (3, (.int .i64 x3)), (11, (.bool (decide ((x3 : Int) < (n2 : Int)))))] fun J => ?_
 cases hb : (decide ((x3 : Int) < (n2 : Int))) with
 | true =>
  replace h := h.1 (of_decide_eq_true hb)
  refine At.cT 11 K11 K12 ?_
  refine At.skip ?_
  refine At.s K14 K16 ?_
  refine At.b 1 K15 ?_
  refine At.rg 4 [0, 1, 2, 3] ?_
  refine Seq.u 14 (.slice p2 n2 c2) ?_
  refine Seq.u 15 (.int .i64 x3) ?_
  obtain ⟨b16, o16, hq, h⟩ := h
  subst hq
  obtain ⟨hi, h⟩ := h
  refine Seq.z 16 (.indexAddr 27 (.tmp 14) (.tmp 15)) 0 (.pointer (some ⟨b16, (o16 + Int.toNat x3 * 1), none⟩)) (Y.idx underlying27 sizeOf3 rfl rfl hi rfl) ?_
  refine Seq.o ?_
  refine OpTo.store (T := 3) (ty := 0) (x := (.tmp 16)) (y := (.const (.int .i64 (-77)))) (p := (.pointer (some ⟨b16, (o16 + Int.toNat x3 * 1), none⟩))) (v := (.int .i64 (-77))) (gd := none) (by kernel_rfl) rfl rfl rfl (h.mono (fun _ σ1 h2 => ?_)); replace h := h2; clear h2
  refine Seq.done ?_
  refine At.L [(0, (.slice p0 n0 c0)), (2, (.slice (some ⟨b16, o16, none⟩) n2 c2)), (3, (.int .i64 x3))] fun J => ?_
  refine At.inBlock ?_
  refine At.rg 3 [0, 1, 2] ?_
  refine Seq.u 12 (.int .i64 x3) ?_
  obtain ⟨hi, h⟩ := h
  refine Seq.z 13 (.binOp .add 3 (.tmp 12) (.const (.int .i64 1)) 3) 3 (.int .i64 (x3 + 1)) (Y.addI hi rfl rfl) ?_
  refine Seq.u 3 (.int .i64 (x3 + 1)) ?_
  refine Seq.done ?_
  refine At.L [(0, (.slice p0 n0 c0)), (2, (.slice (some ⟨b16, o16, none⟩) n2 c2)), (3, (.int .i64 (x3 + 1)))] fun J => ?_
  refine At.inLoop ?_
  refine At.s K8 K13 ?_
  refine At.s K9 K10 ?_
  exact At.v [(0, (.slice p0 n0 c0)), (2, (.slice (some ⟨b16, o16, none⟩) n2 c2)), (3, (.int .i64 (x3 + 1)))] (h _)
 | false =>
  replace h := h.2 (of_decide_eq_false hb)
  refine At.cF 11 K11 K12 ?_
  refine At.x 0 [.code K17] ?_
  refine At.s K18 K19 ?_
  refine At.rg 5 [0] ?_
  refine Seq.u 4 (.int .i64 0) ?_
  refine Seq.done ?_
  refine At.L [(0, (.slice p0 n0 c0)), (4, (.int .i64 0))] fun J => ?_
  refine At.b 2 K20 ?_
  refine At.loop (x := K21) (by kernel_rfl) ?_
  refine At.s K22 K27 ?_
  refine At.s K23 K24 ?_
  exact At.v [(0, (.slice p0 n0 c0)), (4, (.int .i64 0))] (h _)
theorem pt23_of {R : Ending → Hp → Prop} {p0 : Option Addr} {n0 : Nat} {c0 : Nat} {x4 : Int} {σ : Hp} (h : ((x4 : Int) < (n0 : Int) → ∃ (b25 o25 : Nat), p0 = some ⟨b25, o25, none⟩ ∧ ((0 : Int) ≤ x4 ∧ x4 < (n0 : Int)) ∧ Eff prog (Instr.storeAt 3 (.pointer (some ⟨b25, (o25 + Int.toNat x4 * 1), none⟩)) (.int .i64 (-77))) σ (fun _ σ1 => I64 (x4 + 1) ∧ pt23 R ((some ⟨b25, o25, none⟩)) n0 c0 ((x4 + 1)) σ1)) ∧ (¬ ((x4 : Int) < (n0 : Int)) → R (.returned (.tuple #[])) σ)) : pt23 R p0 n0 c0 x4 σ := by
 intro J
 show At (gl R) _ _ _ _
 refine At.rg 6 [0, 1, 2, 3] ?_
 refine Seq.u 17 (.int .i64 x4) ?_
 refine Seq.u 18 (.slice p0 n0 c0) ?_
 refine Seq.z 19 (.call { callee := .builtin .len, args := #[(.tmp 18)], argTypes := #[27] }) 3 (.int .i64 (n0 : Int)) (Y.lenS underlying27 rfl rfl) ?_
 refine Seq.u 20 (.bool (decide ((x4 : Int) < (n0 : Int)))) ?_
 refine Seq.done ?_
 refine At.L [(0, (.slice p0 n0 c0)), (4, (.int .i64 x4)), (20, (.bool (decide ((x4 : Int) < (n0 : Int)))))] fun J => ?_
 cases hb : (decide ((x4 : Int) < (n0 : Int))) with
 | true =>
  replace h := h.1 (of_decide_eq_true hb)
  refine At.cT 20 K25 K26 ?_
  refine At.skip ?_
  refine At.s K28 K30 ?_
  refine At.b 3 K29 ?_
  refine At.rg 8 [0, 1, 2, 3] ?_
  refine Seq.u 23 (.slice p0 n0 c0) ?_
  refine Seq.u 24 (.int .i64 x4) ?_
  obtain ⟨b25, o25, hq, h⟩ := h
  subst hq
  obtain ⟨hi, h⟩ := h
  refine Seq.z 25 (.indexAddr 27 (.tmp 23) (.tmp 24)) 0 (.pointer (some ⟨b25, (o25 + Int.toNat x4 * 1), none⟩)) (Y.idx underlying27 sizeOf3 rfl rfl hi rfl) ?_
  refine Seq.o ?_
  refine OpTo.store (T := 3) (ty := 0) (x := (.tmp 25)) (y := (.const (.int .i64 (-77)))) (p := (.pointer (some ⟨b25, (o25 + Int.toNat x4 * 1), none⟩))) (v := (.int .i64 (-77))) (gd := none) (by kernel_rfl) rfl rfl rfl (h.mono (fun _ σ1 h2 => ?_)); replace h := h2; clear h2
  refine Seq.done ?_
  refine At.L [(0, (.slice (some ⟨b25, o25, none⟩) n0 c0)), (4, (.int .i64 x4))] fun J => ?_
  refine At.inBlock ?_
  refine At.rg 7 [0, 1, 2] ?_
  refine Seq.u 21 (.int .i64 x4) ?_
  obtain ⟨hi, h⟩ := h
  refine Seq.z 22 (.binOp .add 3 (.tmp 21) (.const (.int .i64 1)) 3) 3 (.int .i64 (x4 + 1)) (Y.addI hi rfl rfl) ?_
  refine Seq.u 4 (.int .i64 (x4 + 1)) ?_
  refine Seq.done ?_
  refine At.L [(0, (.slice (some ⟨b25, o25, none⟩) n0 c0)), (4, (.int .i64 (x4 + 1)))] fun J => ?_
  refine At.inLoop ?_
  refine At.s K22 K27 ?_
  refine At.s K23 K24 ?_
  exact At.v [(0, (.slice (some ⟨b25, o25, none⟩) n0 c0)), (4, (.int .i64 (x4 + 1)))] (h _)
 | false =>
  replace h := h.2 (of_decide_eq_false hb)
  refine At.cF 20 K25 K26 ?_
  refine At.x 2 [] ?_
  exact At.doneV (rs := []) (vs := []) func13 (by kernel_rfl) rfl h
end law0_SpoilInts
end TwR
end
section
/- written by gen.py: program points and what leads to them -/
set_option linter.unusedVariables false
set_option maxRecDepth 100000
namespace TwR
open Go Tw Go.Proofs.Try
namespace law0_CopyRing
abbrev fid : Nat := 9
noncomputable def K0 : Code := f9.body.getD .skip
noncomputable def K1 := Tw.cl K0
noncomputable def K2 := Tw.cr K0
noncomputable def K3 := Tw.cl K2
noncomputable def K4 := Tw.cr K2
noncomputable def K5 := Tw.cl K4
noncomputable def K6 := Tw.cl K5
noncomputable def K7 := Tw.cr K5
noncomputable def K8 := Tw.cl K7
noncomputable def K9 := Tw.cl K8
noncomputable def K10 := Tw.cl K9
noncomputable def K11 := Tw.cl K10
noncomputable def K12 := Tw.cr K10
noncomputable def K13 := Tw.cl K12
noncomputable def K14 := Tw.cr K12
noncomputable def K15 := Tw.cr K9
noncomputable def K16 := Tw.cl K15
noncomputable def K17 := Tw.cl K16
noncomputable def K18 := Tw.cl K17
noncomputable def K19 := Tw.cr K17
noncomputable def K20 := Tw.cl K19
noncomputable def K21 := Tw.cr K19
noncomputable def K22 := Tw.cr K15
noncomputable def K23 := Tw.cr K4
noncomputable def K24 := Tw.cl K23
noncomputable def K25 := Tw.cr K23
noncomputable abbrev gl (R : Ending → Hp → Prop) : Gl := Gl.fn prog 9 32 R
def pt11 (R : Ending → Hp → Prop) (x1a : Int) (p1b : Option Addr) (n1b : Nat) (c1b : Nat) (x2a : Int) (p2b : Option Addr) (n2b : Nat) (c2b : Nat) (x3a : Int) (p3b : Option Addr) (n3b : Nat) (c3b : Nat) (x4 : Int) (σ : Hp) : Prop := ∀ (J : Env) (b1 : Nat) (b2 : Nat) (b3 : Nat), At (gl R) [.code K11, .code K12, .code K15, .inLoop K9, .inBlock 0, .code K23] (upds J [(1, (.pointer (some ⟨b1, 0, none⟩))), (2, (.pointer (some ⟨b2, 0, none⟩))), (3, (.pointer (some ⟨b3, 0, none⟩))), (4, (.int .i64 x4))]) [(b3, .cells #[(.int .u64 x3a), (.slice p3b n3b c3b)] 25 (0, 0)), (b2, .cells #[(.int .u64 x2a), (.slice p2b n2b c2b)] 25 (0, 0)), (b1, .cells #[(.int .u64 x1a), (.slice p1b n1b c1b)] 25 (0, 0))] σ
theorem start {R : Ending → Hp → Prop} {x0a : Int} {p0b : Option Addr} {n0b : Nat} {c0b : Nat} {σ : Hp} (h : pt11 R x0a p0b n0b c0b 0 none 0 0 x0a none 0 0 0 σ) : Spec prog 9 #[(.agg #[(.int .u64 x0a), (.slice p0b n0b c0b)])] σ R := by
 refine Spec.of_at (fn := f9) (c := K0) func9 (by kernel_rfl) (Nat.le_of_ble_eq_true (by kernel_rfl)) (fun e he => ?_)
 refine At.ofL (l := [(0, (.agg #[(.int .u64 x0a), (.slice p0b n0b c0b)]))]) ⟨he 0, trivial⟩ (fun J => ?_)
 show At (gl R) _ _ _ _
 refine At.s K1 K2 ?_
 refine At.rg 0 [0, 1] ?_
 refine Seq.o ?_
 refine OpTo.box (T := 25) (d := (some 1)) (ty := 0) (x := (.tmp 0)) (gd := none) (cs := #[(.int .u64 x0a), (.slice p0b n0b c0b)]) (by kernel_rfl) rfl rfl rfl (fun b1 => ?_)
 refine Seq.o ?_
 refine OpTo.alloc (T := 25) (d := (some 2)) (ty := 0)  (gd := none) (cs := #[(.int .u64 0), (.slice none 0 0)]) (by kernel_rfl) rfl rfl zeroValue25 rfl (fun b2 => ?_)
 refine Seq.done ?_
 refine At.L [(1, (.pointer (some ⟨b1, 0, none⟩))), (2, (.pointer (some ⟨b2, 0, none⟩)))] fun J => ?_
 refine At.s K3 K4 ?_
 refine At.rg 1 [0, 1, 2, 3, 4] ?_
 refine Seq.z 6 (.fieldAddr 25 (.tmp 1) 0) 0 (.pointer (some ⟨b1, 0, none⟩)) (Y.fieldAddr (fd := (fieldOf prog 25 0)) underlying25 (by kernel_rfl) sizeOf22 rfl rfl) ?_
 refine Seq.z 7 (.load 22 (.tmp 6)) 22 (.int .u64 x0a) (Y.ldb isAgg22 rfl (.tail _ (List.mem_cons_self ..)) rfl) ?_
 refine Seq.z 8 (.build 25 #[(0, (.tmp 7))]) 25 (.agg #[(.int .u64 x0a), (.slice none 0 0)]) (Y.build (vs := [(0, (.int .u64 x0a))]) rfl (by kernel_rfl)) ?_
 refine Seq.o ?_
 refine OpTo.alloc (T := 25) (d := (some 3)) (ty := 0)  (gd := none) (cs := #[(.int .u64 0), (.slice none 0 0)]) (by kernel_rfl) rfl rfl zeroValue25 rfl (fun b3 => ?_)
 refine Seq.o ?_
 refine OpTo.storeb (T := 25) (ty := 0) (x := (.tmp 3)) (y := (.tmp 8)) (t := 25) (j := 0) (b := b3) (o := 0) (c' := #[(.int .u64 x0a), (.slice none 0 0)]) (v := (.agg #[(.int .u64 x0a), (.slice none 0 0)])) (gd := none) (by kernel_rfl) rfl sizeOf25 rfl rfl rfl rfl rfl rfl rfl ?_
 simp only [List.set]
 refine Seq.done ?_
 refine At.L [(1, (.pointer (some ⟨b1, 0, none⟩))), (2, (.pointer (some ⟨b2, 0, none⟩))), (3, (.pointer (some ⟨b3, 0, none⟩)))] fun J => ?_
 refine At.s K5 K23 ?_
 refine At.s K6 K7 ?_
 refine At.rg 2 [0] ?_
 refine Seq.u 4 (.int .i64 0) ?_
 refine Seq.done ?_
 refine At.L [(1, (.pointer (some ⟨b1, 0, none⟩))), (2, (.pointer (some ⟨b2, 0, none⟩))), (3, (.pointer (some ⟨b3, 0, none⟩))), (4, (.int .i64 0))] fun J => ?_
 refine At.b 0 K8 ?_
 refine At.loop (x := K9) (by kernel_rfl) ?_
 refine At.s K10 K15 ?_
 refine At.s K11 K12 ?_
 exact At.v [(1, (.pointer (some ⟨b1, 0, none⟩))), (2, (.pointer (some ⟨b2, 0, none⟩))), (3, (.pointer (some ⟨b3, 0, none⟩))), (4, (.int .i64 0))] (h _ b1 b2 b3)
theorem pt11_of {R : Ending → Hp → Prop} {x1a : Int} {p1b : Option Addr} {n1b : Nat} {c1b : Nat} {x2a : Int} {p2b : Option Addr} {n2b : Nat} {c2b : Nat} {x3a : Int} {p3b : Option Addr} {n3b : Nat} {c3b : Nat} {x4 : Int} {σ : Hp} (h : ((x4 : Int) < (n1b : Int) → ∃ (b19 o19 : Nat), p1b = some ⟨b19, o19, none⟩ ∧ ((0 : Int) ≤ x4 ∧ x4 < (n1b : Int)) ∧ ∃ x20a : Int, ∃ x20b : Int, ∃ p20c : Option Addr, ∃ n20c : Nat, ∃ c20c : Nat, LdL σ b19 (o19 + Int.toNat x4 * 3) [(.int .i64 x20a), (.int .i64 x20b), (.slice p20c n20c c20c)] ∧ Spec prog 31 #[(.slice p20c n20c c20c)] σ (Cont R (fun v σ1 => ∃ p23 : Option Addr, ∃ n23 : Nat, ∃ c23 : Nat, v = (.slice p23 n23 c23) ∧ ∀ b28 : Nat, σ1 b28 = none → Eff prog (Builtin.append_ #[23, 23] 23 #[(.slice p3b n3b c3b), (.slice (some ⟨b28, 0, none⟩) 1 1)]) (Hp.set σ1 b28 (.cells #[(.int .i64 x20a), (.int .i64 x20b), (.slice p23 n23 c23)] 55 (0, 0))) (fun v_2 σ1_2 => ∃ p29 : Option Addr, ∃ n29 : Nat, ∃ c29 : Nat, v_2 = (.slice p29 n29 c29) ∧ I64 (x4 + 1) ∧ pt11 R x1a ((some ⟨b19, o19, none⟩)) n1b c1b x2a p2b n2b c2b x3a p29 n29 c29 ((x4 + 1)) σ1_2)))) ∧ (¬ ((x4 : Int) < (n1b : Int)) → R (.returned (.agg #[(.int .u64 x3a), (.slice p3b n3b c3b)])) σ)) : pt11 R x1a p1b n1b c1b x2a p2b n2b c2b x3a p3b n3b c3b x4 σ := by
 intro J b1 b2 b3
 show At (gl R) _ _ _ _
 refine At.rg 3 [0, 1, 2, 3, 4] ?_
 refine Seq.u 9 (.int .i64 x4) ?_
 refine Seq.z 10 (.fieldAddr 25 (.tmp 1) 1) 0 (.pointer (some ⟨b1, 1, none⟩)) (Y.fieldAddr (fd := (fieldOf prog 25 1)) underlying25 (by kernel_rfl) sizeOf23 rfl rfl) ?_
 refine Seq.z 11 (.load 23 (.tmp 10)) 23 (.slice p1b n1b c1b) (Y.ldb isAgg23 rfl (.tail _ (.tail _ (List.mem_cons_self ..))) rfl) ?_
 refine Seq.z 12 (.call { callee := .builtin .len, args := #[(.tmp 11)], argTypes := #[23] }) 3 (.int .i64 (n1b : Int)) (Y.lenS underlying23 rfl rfl) ?_
 refine Seq.u 13 (.bool (decide ((x4 : Int) < (n1b : Int)))) ?_
 refine Seq.done ?_
 refine At.L [(1, (.pointer (some ⟨b1, 0, none⟩))), (2, (.pointer (some ⟨b2, 0, none⟩))), (3, (.pointer (some ⟨b3, 0, none⟩))), (4, (.int .i64 x4)), (13, (.bool (decide ((x4 : Int) < (n1b : Int)))))] fun J => ?_
 cases hb : (decide ((x4 : Int) < (n1b : Int))) with
 | true =>
  replace h := h.1 (of_decide_eq_true hb)
  refine At.cT 13 K13 K14 ?_
  refine At.skip ?_
  refine At.s K16 K22 ?_
  refine At.b 1 K17 ?_
  refine At.s K18 K19 ?_
  refine At.rg 5 [0, 1, 2, 3, 4, 5, 6] ?_
  refine Seq.z 16 (.fieldAddr 25 (.tmp 1) 1) 0 (.pointer (some ⟨b1, 1, none⟩)) (Y.fieldAddr (fd := (fieldOf prog 25 1)) underlying25 (by kernel_rfl) sizeOf23 rfl rfl) ?_
  refine Seq.z 17 (.load 23 (.tmp 16)) 23 (.slice p1b n1b c1b) (Y.ldb isAgg23 rfl (.tail _ (.tail _ (List.mem_cons_self ..))) rfl) ?_
  refine Seq.u 18 (.int .i64 x4) ?_
  obtain ⟨b19, o19, hq, h⟩ := h
  subst hq
  obtain ⟨hi, h⟩ := h
  refine Seq.z 19 (.indexAddr 23 (.tmp 17) (.tmp 18)) 0 (.pointer (some ⟨b19, (o19 + Int.toNat x4 * 3), none⟩)) (Y.idx underlying23 sizeOf55 rfl rfl hi rfl) ?_
  obtain ⟨x20a, x20b, p20c, n20c, c20c, hl, h⟩ := h
  refine Seq.z 20 (.load 55 (.tmp 19)) 55 (.agg #[(.int .i64 x20a), (.int .i64 x20b), (.slice p20c n20c c20c)]) (Y.lda isAgg55 sizeOf55 rfl rfl hl) ?_
  refine Seq.o ?_
  refine OpTo.alloc (T := 55) (d := (some 5)) (ty := 0)  (gd := none) (cs := #[(.int .i64 0), (.int .i64 0), (.slice none 0 0)]) (by kernel_rfl) rfl rfl zeroValue55 rfl (fun b5 => ?_)
  refine Seq.o ?_
  refine OpTo.storeb (T := 55) (ty := 0) (x := (.tmp 5)) (y := (.tmp 20)) (t := 55) (j := 0) (b := b5) (o := 0) (c' := #[(.int .i64 x20a), (.int .i64 x20b), (.slice p20c n20c c20c)]) (v := (.agg #[(.int .i64 x20a), (.int .i64 x20b), (.slice p20c n20c c20c)])) (gd := none) (by kernel_rfl) rfl sizeOf55 rfl rfl rfl rfl rfl rfl rfl ?_
  simp only [List.set]
  refine Seq.done ?_
  refine At.L [(1, (.pointer (some ⟨b1, 0, none⟩))), (2, (.pointer (some ⟨b2, 0, none⟩))), (3, (.pointer (some ⟨b3, 0, none⟩))), (4, (.int .i64 x4)), (5, (.pointer (some ⟨b5, 0, none⟩)))] fun J => ?_
  refine At.s K20 K21 ?_
  refine At.rg 6 [0, 1, 2, 3, 4] ?_
  refine Seq.z 21 (.fieldAddr 55 (.tmp 5) 2) 0 (.pointer (some ⟨b5, 2, none⟩)) (Y.fieldAddr (fd := (fieldOf prog 55 2)) underlying55 (by kernel_rfl) sizeOf53 rfl rfl) ?_
  refine Seq.z 22 (.load 53 (.tmp 21)) 53 (.slice p20c n20c c20c) (Y.ldb isAgg53 rfl (List.mem_cons_self ..) rfl) ?_
  refine Seq.o ?_
  refine OpTo.cl (some 23) call31 (h.cont fun v σ1 h2 => ?_); replace h := h2; clear h2
  obtain ⟨p23, n23, c23, rfl, h⟩ := h
  refine Seq.z 24 (.fieldAddr 55 (.tmp 5) 2) 0 (.pointer (some ⟨b5, 2, none⟩)) (Y.fieldAddr (fd := (fieldOf prog 55 2)) underlying55 (by kernel_rfl) sizeOf53 rfl rfl) ?_
  refine Seq.o ?_
  refine OpTo.storeb (T := 53) (ty := 0) (x := (.tmp 24)) (y := (.tmp 23)) (t := 55) (j := 0) (b := b5) (o := 2) (c' := #[(.int .i64 x20a), (.int .i64 x20b), (.slice p23 n23 c23)]) (v := (.slice p23 n23 c23)) (gd := none) (by kernel_rfl) rfl sizeOf53 rfl rfl rfl rfl rfl rfl rfl ?_
  simp only [List.set]
  refine Seq.done ?_
  refine At.L [(1, (.pointer (some ⟨b1, 0, none⟩))), (2, (.pointer (some ⟨b2, 0, none⟩))), (3, (.pointer (some ⟨b3, 0, none⟩))), (4, (.int .i64 x4)), (5, (.pointer (some ⟨b5, 0, none⟩)))] fun J => ?_
  refine At.rg 7 [0, 1, 2, 3, 4, 5, 6] ?_
  refine Seq.z 25 (.fieldAddr 25 (.tmp 3) 1) 0 (.pointer (some ⟨b3, 1, none⟩)) (Y.fieldAddr (fd := (fieldOf prog 25 1)) underlying25 (by kernel_rfl) sizeOf23 rfl rfl) ?_
  refine Seq.z 26 (.load 23 (.tmp 25)) 23 (.slice p3b n3b c3b) (Y.ldb isAgg23 rfl (.tail _ (List.mem_cons_self ..)) rfl) ?_
  refine Seq.z 27 (.load 55 (.tmp 5)) 55 (.agg #[(.int .i64 x20a), (.int .i64 x20b), (.slice p23 n23 c23)]) (Y.ldab (vs := [(.int .i64 x20a), (.int .i64 x20b), (.slice p23 n23 c23)]) isAgg55 sizeOf55 rfl rfl (List.mem_cons_self ..) rfl) ?_
  refine Seq.o ?_
  refine OpTo.bslice (T := 23) (E := 55) (m := 1) (ps := #[(0, (.tmp 27))]) (d := (some 28)) (ty := 23) (gd := none) (vs := [(0, (.agg #[(.int .i64 x20a), (.int .i64 x20b), (.slice p23 n23 c23)]))]) (cs := #[(.int .i64 x20a), (.int .i64 x20b), (.slice p23 n23 c23)]) underlying23 (by kernel_rfl) rfl rfl rfl (by kernel_rfl) (fun b28 hn => ?_)
  replace h := h b28 hn
  refine Seq.o ?_
  refine OpTo.eff (d := (some 29)) (op := (.call { callee := .builtin .append, args := #[(.tmp 26), (.tmp 28)], argTypes := #[23, 23] })) (ty := 23) (gd := none) (by kernel_rfl) rfl rfl (Builtin.append_ #[23, 23] 23 #[(.slice p3b n3b c3b), (.slice (some ⟨b28, 0, none⟩) 1 1)]) (fun o ho ht => exec_b_append rfl rfl o ho ht) (h.mono (fun v_2 σ1_2 h2 => ?_)); replace h := h2; clear h2
  obtain ⟨p29, n29, c29, rfl, h⟩ := h
  refine Seq.z 30 (.fieldAddr 25 (.tmp 3) 1) 0 (.pointer (some ⟨b3, 1, none⟩)) (Y.fieldAddr (fd := (fieldOf prog 25 1)) underlying25 (by kernel_rfl) sizeOf23 rfl rfl) ?_
  refine Seq.o ?_
  refine OpTo.storeb (T := 23) (ty := 0) (x := (.tmp 30)) (y := (.tmp 29)) (t := 25) (j := 1) (b := b3) (o := 1) (c' := #[(.int .u64 x3a), (.slice p29 n29 c29)]) (v := (.slice p29 n29 c29)) (gd := none) (by kernel_rfl) rfl sizeOf23 rfl rfl rfl rfl rfl rfl rfl ?_
  simp only [List.set]
  refine Seq.done ?_
  refine At.L [(1, (.pointer (some ⟨b1, 0, none⟩))), (2, (.pointer (some ⟨b2, 0, none⟩))), (3, (.pointer (some ⟨b3, 0, none⟩))), (4, (.int .i64 x4))] fun J => ?_
  refine At.inBlock ?_
  refine At.rg 4 [0, 1, 2] ?_
  refine Seq.u 14 (.int .i64 x4) ?_
  obtain ⟨hi, h⟩ := h
  refine Seq.z 15 (.binOp .add 3 (.tmp 14) (.const (.int .i64 1)) 3) 3 (.int .i64 (x4 + 1)) (Y.addI hi rfl rfl) ?_
  refine Seq.u 4 (.int .i64 (x4 + 1)) ?_
  refine Seq.done ?_
  refine At.L [(1, (.pointer (some ⟨b1, 0, none⟩))), (2, (.pointer (some ⟨b2, 0, none⟩))), (3, (.pointer (some ⟨b3, 0, none⟩))), (4, (.int .i64 (x4 + 1)))] fun J => ?_
  refine At.inLoop ?_
  refine At.s K10 K15 ?_
  refine At.s K11 K12 ?_
  refine At.sub (bx' := [(b3, .cells #[(.int .u64 x3a), (.slice p29 n29 c29)] 25 (0, 0)), (b2, .cells #[(.int .u64 x2a), (.slice p2b n2b c2b)] 25 (0, 0)), (b1, .cells #[(.int .u64 x1a), (.slice (some ⟨b19, o19, none⟩) n1b c1b)] 25 (0, 0))]) (.cons _ (.cons_cons _ (.cons_cons _ (.cons_cons _ .slnil)))) ?_
  exact At.v [(1, (.pointer (some ⟨b1, 0, none⟩))), (2, (.pointer (some ⟨b2, 0, none⟩))), (3, (.pointer (some ⟨b3, 0, none⟩))), (4, (.int .i64 (x4 + 1)))] (h _ b1 b2 b3)
 | false =>
  replace h := h.2 (of_decide_eq_false hb)
  refine At.cF 13 K13 K14 ?_
  refine At.x 0 [.code K23] ?_
  refine At.s K24 K25 ?_
  refine At.rg 8 [0, 1] ?_
  refine Seq.z 31 (.load 25 (.tmp 3)) 25 (.agg #[(.int .u64 x3a), (.slice p3b n3b c3b)]) (Y.ldab (vs := [(.int .u64 x3a), (.slice p3b n3b c3b)]) isAgg25 sizeOf25 rfl rfl (List.mem_cons_self ..) rfl) ?_
  refine Seq.o ?_
  refine OpTo.storeb (T := 25) (ty := 0) (x := (.tmp 2)) (y := (.tmp 31)) (t := 25) (j := 1) (b := b2) (o := 0) (c' := #[(.int .u64 x3a), (.slice p3b n3b c3b)]) (v := (.agg #[(.int .u64 x3a), (.slice p3b n3b c3b)])) (gd := none) (by kernel_rfl) rfl sizeOf25 rfl rfl rfl rfl rfl rfl rfl ?_
  simp only [List.set]
  refine Seq.done ?_
  refine At.L [(2, (.pointer (some ⟨b2, 0, none⟩)))] fun J => ?_
  exact At.rt [.cell 2 25] [(.agg #[(.int .u64 x3a), (.slice p3b n3b c3b)])] func9 ⟨_, _, rfl, ⟨_, rfl, ldab_run isAgg25 sizeOf25 rfl (.tail _ (List.mem_cons_self ..))⟩, rfl⟩ h
end law0_CopyRing
namespace law0_CopyWords
abbrev fid : Nat := 31
noncomputable def K0 : Code := f31.body.getD .skip
noncomputable def K1 := Tw.cl K0
noncomputable def K2 := Tw.cr K0
noncomputable def K3 := Tw.cl K2
noncomputable def K4 := Tw.cr K2
noncomputable abbrev gl (R : Ending → Hp → Prop) : Gl := Gl.fn prog 31 6 R
theorem start {R : Ending → Hp → Prop} {p0 : Option Addr} {n0 : Nat} {c0 : Nat} {σ : Hp} (h : ∀ b3 : Nat, σ b3 = none → Eff prog (Builtin.append_ #[53, 53] 53 #[(.slice (some ⟨b3, 0, none⟩) 0 0), (.slice p0 n0 c0)]) (Hp.set σ b3 (.cells #[] 26 (0, 0))) (fun v σ1 => ∃ p5 : Option Addr, ∃ n5 : Nat, ∃ c5 : Nat, v = (.slice p5 n5 c5) ∧ R (.returned (.slice p5 n5 c5)) σ1)) : Spec prog 31 #[(.slice p0 n0 c0)] σ R := by
 refine Spec.of_at (fn := f31) (c := K0) func31 (by kernel_rfl) (Nat.le_of_ble_eq_true (by kernel_rfl)) (fun e he => ?_)
 refine At.ofL (l := [(0, (.slice p0 n0 c0))]) ⟨he 0, trivial⟩ (fun J => ?_)
 show At (gl R) _ _ _ _
 refine At.s K1 K2 ?_
 refine At.rg 0 [0] ?_
 refine Seq.u 2 (.slice none 0 0) ?_
 refine Seq.done ?_
 refine At.L [(0, (.slice p0 n0 c0))] fun J => ?_
 refine At.s K3 K4 ?_
 refine At.rg 1 [0, 1, 2, 3] ?_
 refine Seq.o ?_
 refine OpTo.bslice (T := 53) (E := 26) (m := 0) (ps := #[]) (d := (some 3)) (ty := 53) (gd := none) (vs := []) (cs := #[]) underlying53 (by kernel_rfl) rfl rfl rfl (by kernel_rfl) (fun b3 hn => ?_)
 replace h := h b3 hn
 refine Seq.u 4 (.slice p0 n0 c0) ?_
 refine Seq.o ?_
 refine OpTo.eff (d := (some 5)) (op := (.call { callee := .builtin .append, args := #[(.tmp 3), (.tmp 4)], argTypes := #[53, 53] })) (ty := 53) (gd := none) (by kernel_rfl) rfl rfl (Builtin.append_ #[53, 53] 53 #[(.slice (some ⟨b3, 0, none⟩) 0 0), (.slice p0 n0 c0)]) (fun o ho ht => exec_b_append rfl rfl o ho ht) (h.mono (fun v σ1 h2 => ?_)); replace h := h2; clear h2
 obtain ⟨p5, n5, c5, rfl, h⟩ := h
 refine Seq.u 2 (.slice p5 n5 c5) ?_
 refine Seq.done ?_
 refine At.L [(2, (.slice p5 n5 c5))] fun J => ?_
 exact At.rt [.tmp 2] [(.slice p5 n5 c5)] func31 ⟨_, rfl, rfl⟩ h
end law0_CopyWords
namespace law0_CopyBytes
abbrev fid : Nat := 39
noncomputable def K0 : Code := f39.body.getD .skip
noncomputable def K1 := Tw.cl K0
noncomputable def K2 := Tw.cr K0
noncomputable def K3 := Tw.cl K2
noncomputable def K4 := Tw.cr K2
noncomputable abbrev gl (R : Ending → Hp → Prop) : Gl := Gl.fn prog 39 6 R
theorem start {R : Ending → Hp → Prop} {p0 : Option Addr} {n0 : Nat} {c0 : Nat} {σ : Hp} (h : ∀ b3 : Nat, σ b3 = none → Eff prog (Builtin.append_ #[37, 37] 37 #[(.slice (some ⟨b3, 0, none⟩) 0 0), (.slice p0 n0 c0)]) (Hp.set σ b3 (.cells #[] 5 (0, 0))) (fun v σ1 => ∃ p5 : Option Addr, ∃ n5 : Nat, ∃ c5 : Nat, v = (.slice p5 n5 c5) ∧ R (.returned (.slice p5 n5 c5)) σ1)) : Spec prog 39 #[(.slice p0 n0 c0)] σ R := by
 refine Spec.of_at (fn := f39) (c := K0) func39 (by kernel_rfl) (Nat.le_of_ble_eq_true (by kernel_rfl)) (fun e he => ?_)
 refine At.ofL (l := [(0, (.slice p0 n0 c0))]) ⟨he 0, trivial⟩ (fun J => ?_)
 show At (gl R) _ _ _ _
 refine At.s K1 K2 ?_
 refine At.rg 0 [0] ?_
 refine Seq.u 2 (.slice none 0 0) ?_
 refine Seq.done ?_
 refine At.L [(0, (.slice p0 n0 c0))] fun J => ?_
 refine At.s K3 K4 ?_
 refine At.rg 1 [0, 1, 2, 3] ?_
 refine Seq.o ?_
 refine OpTo.bslice (T := 37) (E := 5) (m := 0) (ps := #[]) (d := (some 3)) (ty := 37) (gd := none) (vs := []) (cs := #[]) underlying37 (by kernel_rfl) rfl rfl rfl (by kernel_rfl) (fun b3 hn => ?_)
 replace h := h b3 hn
 refine Seq.u 4 (.slice p0 n0 c0) ?_
 refine Seq.o ?_
 refine OpTo.eff (d := (some 5)) (op := (.call { callee := .builtin .append, args := #[(.tmp 3), (.tmp 4)], argTypes := #[37, 37] })) (ty := 37) (gd := none) (by kernel_rfl) rfl rfl (Builtin.append_ #[37, 37] 37 #[(.slice (some ⟨b3, 0, none⟩) 0 0), (.slice p0 n0 c0)]) (fun o ho ht => exec_b_append rfl rfl o ho ht) (h.mono (fun v σ1 h2 => ?_)); replace h := h2; clear h2
 obtain ⟨p5, n5, c5, rfl, h⟩ := h
 refine Seq.u 2 (.slice p5 n5 c5) ?_
 refine Seq.done ?_
 refine At.L [(2, (.slice p5 n5 c5))] fun J => ?_
 exact At.rt [.tmp 2] [(.slice p5 n5 c5)] func39 ⟨_, rfl, rfl⟩ h
end law0_CopyBytes
namespace law0_LendBytes
abbrev fid : Nat := 17
noncomputable def K0 : Code := f17.body.getD .skip
noncomputable def K1 := Tw.cl K0
noncomputable def K2 := Tw.cr K0
noncomputable def K3 := Tw.cl K2
noncomputable def K4 := Tw.cr K2
noncomputable def K5 := Tw.cl K4
noncomputable def K6 := Tw.cr K4
noncomputable abbrev gl (R : Ending → Hp → Prop) : Gl := Gl.fn prog 17 12 R
theorem start {R : Ending → Hp → Prop} {p0 : Option Addr} {n0 : Nat} {c0 : Nat} {σ : Hp} (h : Spec prog 39 #[(.slice p0 n0 c0)] σ (Cont R (fun v σ1 => ∃ p5 : Option Addr, ∃ n5 : Nat, ∃ c5 : Nat, v = (.slice p5 n5 c5) ∧ ∀ b6 : Nat, σ1 b6 = none → Eff prog (Builtin.append_ #[37, 37] 37 #[(.slice p5 n5 c5), (.slice (some ⟨b6, 0, none⟩) 2 2)]) (Hp.set σ1 b6 (.cells #[(.int .u8 201), (.int .u8 201)] 5 (0, 0))) (fun v_2 σ1_2 => ∃ p7 : Option Addr, ∃ n7 : Nat, ∃ c7 : Nat, v_2 = (.slice p7 n7 c7) ∧ ((0 : Int) ≤ (n0 : Int) ∧ (n0 : Int) ≤ (c7 : Int)) ∧ R (.returned (.slice p7 (Int.toNat (n0 : Int)) c7)) σ1_2)))) : Spec prog 17 #[(.slice p0 n0 c0)] σ R := by
 refine Spec.of_at (fn := f17) (c := K0) func17 (by kernel_rfl) (Nat.le_of_ble_eq_true (by kernel_rfl)) (fun e he => ?_)
 refine At.ofL (l := [(0, (.slice p0 n0 c0))]) ⟨he 0, trivial⟩ (fun J => ?_)
 show At (gl R) _ _ _ _
 refine At.s K1 K2 ?_
 refine At.rg 0 [0] ?_
 refine Seq.u 2 (.slice none 0 0) ?_
 refine Seq.done ?_
 refine At.L [(0, (.slice p0 n0 c0))] fun J => ?_
 refine At.s K3 K4 ?_
 refine At.rg 1 [0, 1, 2, 3, 4] ?_
 refine Seq.u 4 (.slice p0 n0 c0) ?_
 refine Seq.o ?_
 refine OpTo.cl (some 5) call39 (h.cont fun v σ1 h2 => ?_); replace h := h2; clear h2
 obtain ⟨p5, n5, c5, rfl, h⟩ := h
 refine Seq.o ?_
 refine OpTo.bslice (T := 37) (E := 5) (m := 2) (ps := #[(0, (.const (.int .u8 201))), (1, (.const (.int .u8 201)))]) (d := (some 6)) (ty := 37) (gd := none) (vs := [(0, (.int .u8 201)), (1, (.int .u8 201))]) (cs := #[(.int .u8 201), (.int .u8 201)]) underlying37 (by kernel_rfl) rfl rfl rfl (by kernel_rfl) (fun b6 hn => ?_)
 replace h := h b6 hn
 refine Seq.o ?_
 refine OpTo.eff (d := (some 7)) (op := (.call { callee := .builtin .append, args := #[(.tmp 5), (.tmp 6)], argTypes := #[37, 37] })) (ty := 37) (gd := none) (by kernel_rfl) rfl rfl (Builtin.append_ #[37, 37] 37 #[(.slice p5 n5 c5), (.slice (some ⟨b6, 0, none⟩) 2 2)]) (fun o ho ht => exec_b_append rfl rfl o ho ht) (h.mono (fun v_2 σ1_2 h2 => ?_)); replace h := h2; clear h2
 obtain ⟨p7, n7, c7, rfl, h⟩ := h
 refine Seq.u 3 (.slice p7 n7 c7) ?_
 refine Seq.done ?_
 refine At.L [(0, (.slice p0 n0 c0)), (3, (.slice p7 n7 c7))] fun J => ?_
 refine At.s K5 K6 ?_
 refine At.rg 2 [0, 1, 2, 3, 4] ?_
 refine Seq.u 8 (.slice p7 n7 c7) ?_
 refine Seq.u 9 (.slice p0 n0 c0) ?_
 refine Seq.z 10 (.call { callee := .builtin .len, args := #[(.tmp 9)], argTypes := #[37] }) 3 (.int .i64 (n0 : Int)) (Y.lenS underlying37 rfl rfl) ?_
 obtain ⟨hs, h⟩ := h
 refine Seq.z 11 (.slice 37 (.tmp 8) none (some (.tmp 10)) none) 37 (.slice p7 (Int.toNat (n0 : Int)) c7) (Y.slh underlying37 sizeOf5 rfl rfl hs) ?_
 refine Seq.u 2 (.slice p7 (Int.toNat (n0 : Int)) c7) ?_
 refine Seq.done ?_
 refine At.L [(2, (.slice p7 (Int.toNat (n0 : Int)) c7))] fun J => ?_
 exact At.rt [.tmp 2] [(.slice p7 (Int.toNat (n0 : Int)) c7)] func17 ⟨_, rfl, rfl⟩ h
end law0_LendBytes
namespace law0_KeptBytes
abbrev fid : Nat := 20
noncomputable def K0 : Code := f20.body.getD .skip
noncomputable def K1 := Tw.cl K0
noncomputable def K2 := Tw.cr K0
noncomputable def K3 := Tw.cl K2
noncomputable def K4 := Tw.cr K2
noncomputable def K5 := Tw.cl K4
noncomputable def K6 := Tw.cr K4
noncomputable def K7 := Tw.cl K6
noncomputable def K8 := Tw.cl K7
noncomputable def K9 := Tw.cr K7
noncomputable def K10 := Tw.cl K9
noncomputable def K11 := Tw.cl K10
noncomputable def K12 := Tw.cl K11
noncomputable def K13 := Tw.cl K12
noncomputable def K14 := Tw.cr K12
noncomputable def K15 := Tw.cl K14
noncomputable def K16 := Tw.cr K14
noncomputable def K17 := Tw.cr K11
noncomputable def K18 := Tw.cl K17
noncomputable def K19 := Tw.cl K18
noncomputable def K20 := Tw.cr K17
noncomputable def K21 := Tw.cr K6
noncomputable def K22 := Tw.cl K21
noncomputable def K23 := Tw.cr K21
noncomputable abbrev gl (R : Ending → Hp → Prop) : Gl := Gl.fn prog 20 34 R
def pt13 (R : Ending → Hp → Prop) (p5 : Option Addr) (n5 : Nat) (c5 : Nat) (t6 : Bool) (x7 : Int) (σ : Hp) : Prop := ∀ (J : Env), At (gl R) [.code K13, .code K14, .code K17, .inLoop K11, .inBlock 0, .code K21] (upds J [(5, (.slice p5 n5 c5)), (6, (.bool t6)), (7, (.int .i64 x7))]) [] σ
theorem start {R : Ending → Hp → Prop} {p0 : Option Addr} {n0 : Nat} {c0 : Nat} {p1 : Option Addr} {n1 : Nat} {c1 : Nat} {σ : Hp} (h : I64 ((n0 : Int) + 2) ∧ ((0 : Int) ≤ ((n0 : Int) + 2) ∧ ((n0 : Int) + 2) ≤ (c0 : Int)) ∧ Spec prog 21 #[(.slice p0 n0 c0), (.slice p1 n1 c1)] σ (Cont R (fun v σ1 => ∃ t15 : Bool, v = (.bool t15) ∧ (t15 = true → ((0 : Int) ≤ (n1 : Int) ∧ (n1 : Int) ≤ (((Int.toNat ((n0 : Int) + 2)) : Nat) : Int)) ∧ ∀ b21 : Nat, σ1 b21 = none → Spec prog 21 #[(.slice (slP p0 (Int.toNat (n1 : Int)) c0 1) ((Int.toNat ((n0 : Int) + 2)) - Int.toNat (n1 : Int)) (c0 - Int.toNat (n1 : Int))), (.slice (some ⟨b21, 0, none⟩) 2 2)] (Hp.set σ1 b21 (.cells #[(.int .u8 201), (.int .u8 201)] 5 (0, 0))) (Cont R (fun v_2 σ1_2 => ∃ t22 : Bool, v_2 = (.bool t22) ∧ pt13 R p0 ((Int.toNat ((n0 : Int) + 2))) c0 t22 0 σ1_2))) ∧ (t15 = false → pt13 R p0 ((Int.toNat ((n0 : Int) + 2))) c0 false 0 σ1)))) : Spec prog 20 #[(.slice p0 n0 c0), (.slice p1 n1 c1)] σ R := by
 refine Spec.of_at (fn := f20) (c := K0) func20 (by kernel_rfl) (Nat.le_of_ble_eq_true (by kernel_rfl)) (fun e he => ?_)
 refine At.ofL (l := [(0, (.slice p0 n0 c0)), (1, (.slice p1 n1 c1))]) ⟨he 0, he 1, trivial⟩ (fun J => ?_)
 show At (gl R) _ _ _ _
 refine At.s K1 K2 ?_
 refine At.rg 0 [0] ?_
 refine Seq.u 4 (.bool false) ?_
 refine Seq.done ?_
 refine At.L [(0, (.slice p0 n0 c0)), (1, (.slice p1 n1 c1))] fun J => ?_
 refine At.s K3 K4 ?_
 refine At.rg 1 [0, 1, 2, 3, 4, 5] ?_
 refine Seq.u 8 (.slice p0 n0 c0) ?_
 refine Seq.u 9 (.slice p0 n0 c0) ?_
 refine Seq.z 10 (.call { callee := .builtin .len, args := #[(.tmp 9)], argTypes := #[37] }) 3 (.int .i64 (n0 : Int)) (Y.lenS underlying37 rfl rfl) ?_
 obtain ⟨hi, h⟩ := h
 refine Seq.z 11 (.binOp .add 3 (.tmp 10) (.const (.int .i64 2)) 3) 3 (.int .i64 ((n0 : Int) + 2)) (Y.addI hi rfl rfl) ?_
 obtain ⟨hs, h⟩ := h
 refine Seq.z 12 (.slice 37 (.tmp 8) none (some (.tmp 11)) none) 37 (.slice p0 (Int.toNat ((n0 : Int) + 2)) c0) (Y.slh underlying37 sizeOf5 rfl rfl hs) ?_
 refine Seq.u 5 (.slice p0 (Int.toNat ((n0 : Int) + 2)) c0) ?_
 refine Seq.done ?_
 refine At.L [(0, (.slice p0 n0 c0)), (1, (.slice p1 n1 c1)), (5, (.slice p0 (Int.toNat ((n0 : Int) + 2)) c0))] fun J => ?_
 refine At.s K5 K6 ?_
 refine At.rg 2 [0, 1, 2, 3, 4, 5, 6, 7, 8, 9, 10, 11] ?_
 refine Seq.u 13 (.slice p0 n0 c0) ?_
 refine Seq.u 14 (.slice p1 n1 c1) ?_
 refine Seq.o ?_
 refine OpTo.cl (some 15) call21 (h.cont fun v σ1 h2 => ?_); replace h := h2; clear h2
 obtain ⟨t15, rfl, h⟩ := h
 refine Seq.u 16 (.bool t15) ?_
 cases hb : t15 with
 | true =>
  replace h := h.1 hb
  refine Seq.u 17 (.slice p0 (Int.toNat ((n0 : Int) + 2)) c0) ?_
  refine Seq.u 18 (.slice p1 n1 c1) ?_
  refine Seq.zg 19 (.call { callee := .builtin .len, args := #[(.tmp 18)], argTypes := #[37] }) 3 (3, true) (.int .i64 (n1 : Int)) (Y.lenS underlying37 rfl rfl) ?_
  obtain ⟨hs, h⟩ := h
  refine Seq.zg 20 (.slice 37 (.tmp 17) (some (.tmp 19)) none none) 37 (3, true) (.slice (slP p0 (Int.toNat (n1 : Int)) c0 1) ((Int.toNat ((n0 : Int) + 2)) - Int.toNat (n1 : Int)) (c0 - Int.toNat (n1 : Int))) (Y.sll underlying37 sizeOf5 rfl rfl hs) ?_
  refine Seq.o ?_
  refine OpTo.bslice (T := 37) (E := 5) (m := 2) (ps := #[(0, (.const (.int .u8 201))), (1, (.const (.int .u8 201)))]) (d := (some 21)) (ty := 37) (gd := (some (3, true))) (vs := [(0, (.int .u8 201)), (1, (.int .u8 201))]) (cs := #[(.int .u8 201), (.int .u8 201)]) underlying37 (by kernel_rfl) rfl rfl rfl (by kernel_rfl) (fun b21 hn => ?_)
  replace h := h b21 hn
  refine Seq.o ?_
  refine OpTo.cl (some 22) call21 (h.cont fun v_2 σ1_2 h2 => ?_); replace h := h2; clear h2
  obtain ⟨t22, rfl, h⟩ := h
  refine Seq.u 23 (.bool t22) ?_
  refine Seq.u 6 (.bool t22) ?_
  refine Seq.done ?_
  refine At.L [(5, (.slice p0 (Int.toNat ((n0 : Int) + 2)) c0)), (6, (.bool t22))] fun J => ?_
  refine At.s K7 K21 ?_
  refine At.s K8 K9 ?_
  refine At.rg 3 [0] ?_
  refine Seq.u 7 (.int .i64 0) ?_
  refine Seq.done ?_
  refine At.L [(5, (.slice p0 (Int.toNat ((n0 : Int) + 2)) c0)), (6, (.bool t22)), (7, (.int .i64 0))] fun J => ?_
  refine At.b 0 K10 ?_
  refine At.loop (x := K11) (by kernel_rfl) ?_
  refine At.s K12 K17 ?_
  refine At.s K13 K14 ?_
  exact At.v [(5, (.slice p0 (Int.toNat ((n0 : Int) + 2)) c0)), (6, (.bool t22)), (7, (.int .i64 0))] (h _)
 | false =>
  replace h := h.2 hb
  refine Seq.n 17 ?_
  refine Seq.n 18 ?_
  refine Seq.n 19 ?_
  refine Seq.n 20 ?_
  refine Seq.n 21 ?_
  refine Seq.n 22 ?_
  refine Seq.u 23 (.bool false) ?_
  refine Seq.u 6 (.bool false) ?_
  refine Seq.done ?_
  refine At.L [(5, (.slice p0 (Int.toNat ((n0 : Int) + 2)) c0)), (6, (.bool false))] fun J => ?_
  refine At.s K7 K21 ?_
  refine At.s K8 K9 ?_
  refine At.rg 3 [0] ?_
  refine Seq.u 7 (.int .i64 0) ?_
  refine Seq.done ?_
  refine At.L [(5, (.slice p0 (Int.toNat ((n0 : Int) + 2)) c0)), (6, (.bool false)), (7, (.int .i64 0))] fun J => ?_
  refine At.b 0 K10 ?_
  refine At.loop (x := K11) (by kernel_rfl) ?_
  refine At.s K12 K17 ?_
  refine At.s K13 K14 ?_
  exact At.v [(5, (.slice p0 (Int.toNat ((n0 : Int) + 2)) c0)), (6, (.bool false)), (7, (.int .i64 0))] (h _)
theorem pt13_of {R : Ending → Hp → Prop} {p5 : Option Addr} {n5 : Nat} {c5 : Nat} {t6 : Bool} {x7 : Int} {σ : Hp} (h : ((x7 : Int) < (n5 : Int) → ∃ (b32 o32 : Nat), p5 = some ⟨b32, o32, none⟩ ∧ ((0 : Int) ≤ x7 ∧ x7 < (n5 : Int)) ∧ Eff prog (Instr.storeAt 5 (.pointer (some ⟨b32, (o32 + Int.toNat x7 * 1), none⟩)) (.int .u8 201)) σ (fun _ σ1 => I64 (x7 + 1) ∧ pt13 R ((some ⟨b32, o32, none⟩)) n5 c5 t6 ((x7 + 1)) σ1)) ∧ (¬ ((x7 : Int) < (n5 : Int)) → R (.returned (.bool t6)) σ)) : pt13 R p5 n5 c5 t6 x7 σ := by
 intro J
 show At (gl R) _ _ _ _
 refine At.rg 4 [0, 1, 2, 3] ?_
 refine Seq.u 24 (.int .i64 x7) ?_
 refine Seq.u 25 (.slice p5 n5 c5) ?_
 refine Seq.z 26 (.call { callee := .builtin .len, args := #[(.tmp 25)], argTypes := #[37] }) 3 (.int .i64 (n5 : Int)) (Y.lenS underlying37 rfl rfl) ?_
 refine Seq.u 27 (.bool (decide ((x7 : Int) < (n5 : Int)))) ?_
 refine Seq.done ?_
 refine At.L [(5, (.slice p5 n5 c5)), (6, (.bool t6)), (7, (.int .i64 x7)), (27, (.bool (decide ((x7 : Int) < (n5 : Int)))))] fun J => ?_
 cases hb : (decide ((x7 : Int) < (n5 : Int))) with
 | true =>
  replace h := h.1 (of_decide_eq_true hb)
  refine At.cT 27 K15 K16 ?_
  refine At.skip ?_
  refine At.s K18 K20 ?_
  refine At.b 1 K19 ?_
  refine At.rg 6 [0, 1, 2, 3] ?_
  refine Seq.u 30 (.slice p5 n5 c5) ?_
  refine Seq.u 31 (.int .i64 x7) ?_
  obtain ⟨b32, o32, hq, h⟩ := h
  subst hq
  obtain ⟨hi, h⟩ := h
  refine Seq.z 32 (.indexAddr 37 (.tmp 30) (.tmp 31)) 0 (.pointer (some ⟨b32, (o32 + Int.toNat x7 * 1), none⟩)) (Y.idx underlying37 sizeOf5 rfl rfl hi rfl) ?_
  refine Seq.o ?_
  refine OpTo.store (T := 5) (ty := 0) (x := (.tmp 32)) (y := (.const (.int .u8 201))) (p := (.pointer (some ⟨b32, (o32 + Int.toNat x7 * 1), none⟩))) (v := (.int .u8 201)) (gd := none) (by kernel_rfl) rfl rfl rfl (h.mono (fun _ σ1 h2 => ?_)); replace h := h2; clear h2
  refine Seq.done ?_
  refine At.L [(5, (.slice (some ⟨b32, o32, none⟩) n5 c5)), (6, (.bool t6)), (7, (.int .i64 x7))] fun J => ?_
  refine At.inBlock ?_
  refine At.rg 5 [0, 1, 2] ?_
  refine Seq.u 28 (.int .i64 x7) ?_
  obtain ⟨hi, h⟩ := h
  refine Seq.z 29 (.binOp .add 3 (.tmp 28) (.const (.int .i64 1)) 3) 3 (.int .i64 (x7 + 1)) (Y.addI hi rfl rfl) ?_
  refine Seq.u 7 (.int .i64 (x7 + 1)) ?_
  refine Seq.done ?_
  refine At.L [(5, (.slice (some ⟨b32, o32, none⟩) n5 c5)), (6, (.bool t6)), (7, (.int .i64 (x7 + 1)))] fun J => ?_
  refine At.inLoop ?_
  refine At.s K12 K17 ?_
  refine At.s K13 K14 ?_
  exact At.v [(5, (.slice (some ⟨b32, o32, none⟩) n5 c5)), (6, (.bool t6)), (7, (.int .i64 (x7 + 1)))] (h _)
 | false =>
  replace h := h.2 (of_decide_eq_false hb)
  refine At.cF 27 K15 K16 ?_
  refine At.x 0 [.code K21] ?_
  refine At.s K22 K23 ?_
  refine At.rg 7 [0, 1] ?_
  refine Seq.u 33 (.bool t6) ?_
  refine Seq.u 4 (.bool t6) ?_
  refine Seq.done ?_
  refine At.L [(4, (.bool t6))] fun J => ?_
  exact At.rt [.tmp 4] [(.bool t6)] func20 ⟨_, rfl, rfl⟩ h
end law0_KeptBytes
namespace law0_SameRing
abbrev fid : Nat := 11
noncomputable def K0 : Code := f11.body.getD .skip
noncomputable def K1 := Tw.cl K0
noncomputable def K2 := Tw.cr K0
noncomputable def K3 := Tw.cl K2
noncomputable def K4 := Tw.cl K3
noncomputable def K5 := Tw.cr K3
noncomputable def K6 := Tw.cl K5
noncomputable def K7 := Tw.cl K6
noncomputable def K8 := Tw.cr K6
noncomputable def K9 := Tw.cr K5
noncomputable def K10 := Tw.cr K2
noncomputable def K11 := Tw.cl K10
noncomputable def K12 := Tw.cl K11
noncomputable def K13 := Tw.cr K11
noncomputable def K14 := Tw.cl K13
noncomputable def K15 := Tw.cl K14
noncomputable def K16 := Tw.cl K15
noncomputable def K17 := Tw.cl K16
noncomputable def K18 := Tw.cr K16
noncomputable def K19 := Tw.cl K18
noncomputable def K20 := Tw.cr K18
noncomputable def K21 := Tw.cr K15
noncomputable def K22 := Tw.cl K21
noncomputable def K23 := Tw.cl K22
noncomputable def K24 := Tw.cl K23
noncomputable def K25 := Tw.cr K23
noncomputable def K26 := Tw.cl K25
noncomputable def K27 := Tw.cl K26
noncomputable def K28 := Tw.cr K26
noncomputable def K29 := Tw.cr K25
noncomputable def K30 := Tw.cr K21
noncomputable def K31 := Tw.cr K10
noncomputable def K32 := Tw.cl K31
noncomputable def K33 := Tw.cr K31
noncomputable abbrev gl (R : Ending → Hp → Prop) : Gl := Gl.fn prog 11 71 R
def pt17 (R : Ending → Hp → Prop) (x2a : Int) (p2b : Option Addr) (n2b : Nat) (c2b : Nat) (x3a : Int) (p3b : Option Addr) (n3b : Nat) (c3b : Nat) (x5 : Int) (σ : Hp) : Prop := ∀ (J : Env) (b2 : Nat) (b3 : Nat), At (gl R) [.code K17, .code K18, .code K21, .inLoop K15, .inBlock 0, .code K31] (upds J [(2, (.pointer (some ⟨b2, 0, none⟩))), (3, (.pointer (some ⟨b3, 0, none⟩))), (5, (.int .i64 x5))]) [(b3, .cells #[(.int .u64 x3a), (.slice p3b n3b c3b)] 25 (0, 0)), (b2, .cells #[(.int .u64 x2a), (.slice p2b n2b c2b)] 25 (0, 0))] σ
theorem start {R : Ending → Hp → Prop} {x0a : Int} {p0b : Option Addr} {n0b : Nat} {c0b : Nat} {x1a : Int} {p1b : Option Addr} {n1b : Nat} {c1b : Nat} {σ : Hp} (h : ((x0a : Int) ≠ x1a → R (.returned (.bool false)) σ) ∧ (¬ ((x0a : Int) ≠ x1a) → (((n0b : Int) : Int) ≠ (n1b : Int) → R (.returned (.bool false)) σ) ∧ (¬ (((n0b : Int) : Int) ≠ (n1b : Int)) → pt17 R x0a p0b n0b c0b x1a p1b n1b c1b 0 σ))) : Spec prog 11 #[(.agg #[(.int .u64 x0a), (.slice p0b n0b c0b)]), (.agg #[(.int .u64 x1a), (.slice p1b n1b c1b)])] σ R := by
 refine Spec.of_at (fn := f11) (c := K0) func11 (by kernel_rfl) (Nat.le_of_ble_eq_true (by kernel_rfl)) (fun e he => ?_)
 refine At.ofL (l := [(0, (.agg #[(.int .u64 x0a), (.slice p0b n0b c0b)])), (1, (.agg #[(.int .u64 x1a), (.slice p1b n1b c1b)]))]) ⟨he 0, he 1, trivial⟩ (fun J => ?_)
 show At (gl R) _ _ _ _
 refine At.s K1 K2 ?_
 refine At.rg 0 [0, 1, 2] ?_
 refine Seq.o ?_
 refine OpTo.box (T := 25) (d := (some 2)) (ty := 0) (x := (.tmp 0)) (gd := none) (cs := #[(.int .u64 x0a), (.slice p0b n0b c0b)]) (by kernel_rfl) rfl rfl rfl (fun b2 => ?_)
 refine Seq.o ?_
 refine OpTo.box (T := 25) (d := (some 3)) (ty := 0) (x := (.tmp 1)) (gd := none) (cs := #[(.int .u64 x1a), (.slice p1b n1b c1b)]) (by kernel_rfl) rfl rfl rfl (fun b3 => ?_)
 refine Seq.u 4 (.bool false) ?_
 refine Seq.done ?_
 refine At.L [(2, (.pointer (some ⟨b2, 0, none⟩))), (3, (.pointer (some ⟨b3, 0, none⟩)))] fun J => ?_
 refine At.s K3 K10 ?_
 refine At.s K4 K5 ?_
 refine At.rg 1 [0, 1, 2, 3, 4, 5, 6, 7, 8, 9, 10, 11, 12, 13] ?_
 refine Seq.z 6 (.fieldAddr 25 (.tmp 2) 0) 0 (.pointer (some ⟨b2, 0, none⟩)) (Y.fieldAddr (fd := (fieldOf prog 25 0)) underlying25 (by kernel_rfl) sizeOf22 rfl rfl) ?_
 refine Seq.z 7 (.load 22 (.tmp 6)) 22 (.int .u64 x0a) (Y.ldb isAgg22 rfl (.tail _ (List.mem_cons_self ..)) rfl) ?_
 refine Seq.z 8 (.fieldAddr 25 (.tmp 3) 0) 0 (.pointer (some ⟨b3, 0, none⟩)) (Y.fieldAddr (fd := (fieldOf prog 25 0)) underlying25 (by kernel_rfl) sizeOf22 rfl rfl) ?_
 refine Seq.z 9 (.load 22 (.tmp 8)) 22 (.int .u64 x1a) (Y.ldb isAgg22 rfl (List.mem_cons_self ..) rfl) ?_
 refine Seq.u 10 (.bool (decide ((x0a : Int) ≠ x1a))) ?_
 refine Seq.u 11 (.bool (decide ((x0a : Int) ≠ x1a))) ?_
 cases hb : (decide ((x0a : Int) ≠ x1a)) with
 | true =>
  replace h := h.1 (of_decide_eq_true hb)
  refine Seq.n 12 ?_
  refine Seq.n 13 ?_
  refine Seq.n 14 ?_
  refine Seq.n 15 ?_
  refine Seq.n 16 ?_
  refine Seq.n 17 ?_
  refine Seq.n 18 ?_
  refine Seq.u 19 (.bool true) ?_
  refine Seq.done ?_
  refine At.L [(2, (.pointer (some ⟨b2, 0, none⟩))), (3, (.pointer (some ⟨b3, 0, none⟩))), (19, (.bool true))] fun J => ?_
  refine At.cT 19 K6 K9 ?_
  refine At.s K7 K8 ?_
  refine At.rg 2 [0] ?_
  refine Seq.u 4 (.bool false) ?_
  refine Seq.done ?_
  refine At.L [(4, (.bool false))] fun J => ?_
  exact At.rt [.tmp 4] [(.bool false)] func11 ⟨_, rfl, rfl⟩ h
 | false =>
  replace h := h.2 (of_decide_eq_false hb)
  refine Seq.zg 12 (.fieldAddr 25 (.tmp 2) 1) 0 (5, false) (.pointer (some ⟨b2, 1, none⟩)) (Y.fieldAddr (fd := (fieldOf prog 25 1)) underlying25 (by kernel_rfl) sizeOf23 rfl rfl) ?_
  refine Seq.zg 13 (.load 23 (.tmp 12)) 23 (5, false) (.slice p0b n0b c0b) (Y.ldb isAgg23 rfl (.tail _ (List.mem_cons_self ..)) rfl) ?_
  refine Seq.zg 14 (.call { callee := .builtin .len, args := #[(.tmp 13)], argTypes := #[23] }) 3 (5, false) (.int .i64 (n0b : Int)) (Y.lenS underlying23 rfl rfl) ?_
  refine Seq.zg 15 (.fieldAddr 25 (.tmp 3) 1) 0 (5, false) (.pointer (some ⟨b3, 1, none⟩)) (Y.fieldAddr (fd := (fieldOf prog 25 1)) underlying25 (by kernel_rfl) sizeOf23 rfl rfl) ?_
  refine Seq.zg 16 (.load 23 (.tmp 15)) 23 (5, false) (.slice p1b n1b c1b) (Y.ldb isAgg23 rfl (List.mem_cons_self ..) rfl) ?_
  refine Seq.zg 17 (.call { callee := .builtin .len, args := #[(.tmp 16)], argTypes := #[23] }) 3 (5, false) (.int .i64 (n1b : Int)) (Y.lenS underlying23 rfl rfl) ?_
  refine Seq.u 18 (.bool (decide (((n0b : Int) : Int) ≠ (n1b : Int)))) ?_
  refine Seq.u 19 (.bool (decide (((n0b : Int) : Int) ≠ (n1b : Int)))) ?_
  refine Seq.done ?_
  refine At.L [(2, (.pointer (some ⟨b2, 0, none⟩))), (3, (.pointer (some ⟨b3, 0, none⟩))), (19, (.bool (decide (((n0b : Int) : Int) ≠ (n1b : Int)))))] fun J => ?_
  cases hb : (decide (((n0b : Int) : Int) ≠ (n1b : Int))) with
  | true =>
   replace h := h.1 (of_decide_eq_true hb)
   refine At.cT 19 K6 K9 ?_
   refine At.s K7 K8 ?_
   refine At.rg 2 [0] ?_
   refine Seq.u 4 (.bool false) ?_
   refine Seq.done ?_
   refine At.L [(4, (.bool false))] fun J => ?_
   exact At.rt [.tmp 4] [(.bool false)] func11 ⟨_, rfl, rfl⟩ h
  | false =>
   replace h := h.2 (of_decide_eq_false hb)
   refine At.cF 19 K6 K9 ?_
   refine At.skip ?_
   refine At.s K11 K31 ?_
   refine At.s K12 K13 ?_
   refine At.rg 3 [0] ?_
   refine Seq.u 5 (.int .i64 0) ?_
   refine Seq.done ?_
   refine At.L [(2, (.pointer (some ⟨b2, 0, none⟩))), (3, (.pointer (some ⟨b3, 0, none⟩))), (5, (.int .i64 0))] fun J => ?_
   refine At.b 0 K14 ?_
   refine At.loop (x := K15) (by kernel_rfl) ?_
   refine At.s K16 K21 ?_
   refine At.s K17 K18 ?_
   exact At.v [(2, (.pointer (some ⟨b2, 0, none⟩))), (3, (.pointer (some ⟨b3, 0, none⟩))), (5, (.int .i64 0))] (h _ b2 b3)
theorem pt17_of {R : Ending → Hp → Prop} {x2a : Int} {p2b : Option Addr} {n2b : Nat} {c2b : Nat} {x3a : Int} {p3b : Option Addr} {n3b : Nat} {c3b : Nat} {x5 : Int} {σ : Hp} (h : ((x5 : Int) < (n2b : Int) → ∃ (b30 o30 : Nat), p2b = some ⟨b30, o30, none⟩ ∧ ((0 : Int) ≤ x5 ∧ x5 < (n2b : Int)) ∧ ∃ x32 : Int, Hp.ld σ ⟨b30, (o30 + Int.toNat x5 * 3), none⟩ = some (.int .i64 x32) ∧ ∃ (b36 o36 : Nat), p3b = some ⟨b36, o36, none⟩ ∧ ((0 : Int) ≤ x5 ∧ x5 < (n3b : Int)) ∧ ∃ x38 : Int, Hp.ld σ ⟨b36, (o36 + Int.toNat x5 * 3), none⟩ = some (.int .i64 x38) ∧ ((x32 : Int) ≠ x38 → R (.returned (.bool false)) σ) ∧ (¬ ((x32 : Int) ≠ x38) → ((0 : Int) ≤ x5 ∧ x5 < (n2b : Int)) ∧ ∃ x46 : Int, Hp.ld σ ⟨b30, ((o30 + Int.toNat x5 * 3) + 1), none⟩ = some (.int .i64 x46) ∧ ((0 : Int) ≤ x5 ∧ x5 < (n3b : Int)) ∧ ∃ x52 : Int, Hp.ld σ ⟨b36, ((o36 + Int.toNat x5 * 3) + 1), none⟩ = some (.int .i64 x52) ∧ ((x46 : Int) ≠ x52 → R (.returned (.bool false)) σ) ∧ (¬ ((x46 : Int) ≠ x52) → ((0 : Int) ≤ x5 ∧ x5 < (n2b : Int)) ∧ ∃ p61 : Option Addr, ∃ n61 : Nat, ∃ c61 : Nat, Hp.ld σ ⟨b30, ((o30 + Int.toNat x5 * 3) + 2), none⟩ = some (.slice p61 n61 c61) ∧ ((0 : Int) ≤ x5 ∧ x5 < (n3b : Int)) ∧ ∃ p67 : Option Addr, ∃ n67 : Nat, ∃ c67 : Nat, Hp.ld σ ⟨b36, ((o36 + Int.toNat x5 * 3) + 2), none⟩ = some (.slice p67 n67 c67) ∧ Spec prog 35 #[(.slice p61 n61 c61), (.slice p67 n67 c67)] σ (Cont R (fun v σ1 => ∃ t68 : Bool, v = (.bool t68) ∧ (t68 = false → R (.returned (.bool false)) σ1) ∧ (t68 = true → I64 (x5 + 1) ∧ pt17 R x2a ((some ⟨b30, o30, none⟩)) n2b c2b x3a ((some ⟨b36, o36, none⟩)) n3b c3b ((x5 + 1)) σ1)))))) ∧ (¬ ((x5 : Int) < (n2b : Int)) → R (.returned (.bool true)) σ)) : pt17 R x2a p2b n2b c2b x3a p3b n3b c3b x5 σ := by
 intro J b2 b3
 show At (gl R) _ _ _ _
 refine At.rg 4 [0, 1, 2, 3, 4] ?_
 refine Seq.u 20 (.int .i64 x5) ?_
 refine Seq.z 21 (.fieldAddr 25 (.tmp 2) 1) 0 (.pointer (some ⟨b2, 1, none⟩)) (Y.fieldAddr (fd := (fieldOf prog 25 1)) underlying25 (by kernel_rfl) sizeOf23 rfl rfl) ?_
 refine Seq.z 22 (.load 23 (.tmp 21)) 23 (.slice p2b n2b c2b) (Y.ldb isAgg23 rfl (.tail _ (List.mem_cons_self ..)) rfl) ?_
 refine Seq.z 23 (.call { callee := .builtin .len, args := #[(.tmp 22)], argTypes := #[23] }) 3 (.int .i64 (n2b : Int)) (Y.lenS underlying23 rfl rfl) ?_
 refine Seq.u 24 (.bool (decide ((x5 : Int) < (n2b : Int)))) ?_
 refine Seq.done ?_
 refine At.L [(2, (.pointer (some ⟨b2, 0, none⟩))), (3, (.pointer (some ⟨b3, 0, none⟩))), (5, (.int .i64 x5)), (24, (.bool (decide ((x5 : Int) < (n2b : Int)))))] fun J => ?_
 cases hb : (decide ((x5 : Int) < (n2b : Int))) with
 | true =>
  replace h := h.1 (of_decide_eq_true hb)
  refine At.cT 24 K19 K20 ?_
  refine At.skip ?_
  refine At.s K22 K30 ?_
  refine At.b 1 K23 ?_
  refine At.s K24 K25 ?_
  refine At.draw (id := 6) (ops := cO K24) (n := 44) (q := (some [])) (plan := [(0, true), (1, true), (2, true), (3, true), (4, true), (5, true), (6, true), (7, true), (8, true), (9, true), (10, true), (11, true), (12, true), (13, true), (14, true), (15, true), (16, true), (17, true), (18, true), (19, true), (20, true), (21, true), (22, true), (23, true), (24, true), (25, true), (26, true), (27, true), (28, true), (29, true), (30, true), (31, true), (32, true), (33, true), (34, true), (35, true), (36, true), (37, true), (38, true), (39, true), (40, true), (41, false), (42, true), (43, true)]) (tl := []) mixed (by kernel_rfl) (by kernel_rfl) ?_
  refine Head.z 27 (.fieldAddr 25 (.tmp 2) 1) 0 (.pointer (some ⟨b2, 1, none⟩)) (Y.fieldAddr (fd := (fieldOf prog 25 1)) underlying25 (by kernel_rfl) sizeOf23 rfl rfl) ?_
  refine Head.z 28 (.load 23 (.tmp 27)) 23 (.slice p2b n2b c2b) (Y.ldb isAgg23 rfl (.tail _ (List.mem_cons_self ..)) rfl) ?_
  refine Head.u 29 (.int .i64 x5) ?_
  obtain ⟨b30, o30, hq, h⟩ := h
  subst hq
  obtain ⟨hi, h⟩ := h
  refine Head.z 30 (.indexAddr 23 (.tmp 28) (.tmp 29)) 0 (.pointer (some ⟨b30, (o30 + Int.toNat x5 * 3), none⟩)) (Y.idx underlying23 sizeOf55 rfl rfl hi rfl) ?_
  refine Head.z 31 (.fieldAddr 55 (.tmp 30) 0) 0 (.pointer (some ⟨b30, (o30 + Int.toNat x5 * 3), none⟩)) (Y.fieldAddr (fd := (fieldOf prog 55 0)) underlying55 (by kernel_rfl) sizeOf3 rfl rfl) ?_
  obtain ⟨x32, hl, h⟩ := h
  refine Head.yl b30 [[41, 28, 13, 12]] rfl (by kernel_rfl) (d := (some 32)) (op := (.load 3 (.tmp 31))) (ty := 3) (v := (.int .i64 x32)) (by kernel_rfl) rfl (Y.ld isAgg3 rfl (lim_ld hl)) ?_
  refine Head.z 33 (.fieldAddr 25 (.tmp 3) 1) 0 (.pointer (some ⟨b3, 1, none⟩)) (Y.fieldAddr (fd := (fieldOf prog 25 1)) underlying25 (by kernel_rfl) sizeOf23 rfl rfl) ?_
  refine Head.z 34 (.load 23 (.tmp 33)) 23 (.slice p3b n3b c3b) (Y.ldb isAgg23 rfl (List.mem_cons_self ..) rfl) ?_
  refine Head.u 35 (.int .i64 x5) ?_
  obtain ⟨b36, o36, hq, h⟩ := h
  subst hq
  obtain ⟨hi, h⟩ := h
  refine Head.z 36 (.indexAddr 23 (.tmp 34) (.tmp 35)) 0 (.pointer (some ⟨b36, (o36 + Int.toNat x5 * 3), none⟩)) (Y.idx underlying23 sizeOf55 rfl rfl hi rfl) ?_
  refine Head.z 37 (.fieldAddr 55 (.tmp 36) 0) 0 (.pointer (some ⟨b36, (o36 + Int.toNat x5 * 3), none⟩)) (Y.fieldAddr (fd := (fieldOf prog 55 0)) underlying55 (by kernel_rfl) sizeOf3 rfl rfl) ?_
  obtain ⟨x38, hl, h⟩ := h
  refine Head.yl b36 [[41, 28, 13, 12]] rfl (by kernel_rfl) (d := (some 38)) (op := (.load 3 (.tmp 37))) (ty := 3) (v := (.int .i64 x38)) (by kernel_rfl) rfl (Y.ld isAgg3 rfl (lim_ld hl)) ?_
  refine Head.u 39 (.bool (decide ((x32 : Int) ≠ x38))) ?_
  refine Head.u 40 (.bool (decide ((x32 : Int) ≠ x38))) ?_
  cases hb : (decide ((x32 : Int) ≠ x38)) with
  | true =>
   replace h := h.1 (of_decide_eq_true hb)
   refine Head.n 41 ?_
   refine Head.n 42 ?_
   refine Head.n 43 ?_
   refine Head.n 44 ?_
   refine Head.n 45 ?_
   refine Head.n 46 ?_
   refine Head.n 47 ?_
   refine Head.n 48 ?_
   refine Head.n 49 ?_
   refine Head.n 50 ?_
   refine Head.n 51 ?_
   refine Head.n 52 ?_
   refine Head.n 53 ?_
   refine Head.u 54 (.bool true) ?_
   refine Head.u 55 (.bool true) ?_
   refine Head.n 56 ?_
   refine Head.n 57 ?_
   refine Head.n 58 ?_
   refine Head.n 59 ?_
   refine Head.n 60 ?_
   refine Head.n 61 ?_
   refine Head.n 62 ?_
   refine Head.n 63 ?_
   refine Head.n 64 ?_
   refine Head.n 65 ?_
   refine Head.n 66 ?_
   refine Head.n 67 ?_
   refine Head.o rfl ?_
   refine OpTo.no (d := (some 68)) (op := (.call { callee := .value (.func 35), args := #[(.tmp 61), (.tmp 67)], argTypes := #[53, 53] })) (ty := 4) (gd := some (28, false)) (by kernel_rfl) rfl rfl ?_
   refine ⟨KeepQ.refl _ _ _, ?_⟩
   refine Head.n 69 ?_
   refine Head.u 70 (.bool true) ?_
   refine Head.done ?_
   refine Seq.done ?_
   refine At.L [(2, (.pointer (some ⟨b2, 0, none⟩))), (3, (.pointer (some ⟨b3, 0, none⟩))), (5, (.int .i64 x5)), (70, (.bool true))] fun J => ?_
   refine At.cT 70 K26 K29 ?_
   refine At.s K27 K28 ?_
   refine At.rg 7 [0] ?_
   refine Seq.u 4 (.bool false) ?_
   refine Seq.done ?_
   refine At.L [(4, (.bool false))] fun J => ?_
   exact At.rt [.tmp 4] [(.bool false)] func11 ⟨_, rfl, rfl⟩ h
  | false =>
   replace h := h.2 (of_decide_eq_false hb)
   refine Head.zg 41 (.fieldAddr 25 (.tmp 2) 1) 0 (13, false) (.pointer (some ⟨b2, 1, none⟩)) (Y.fieldAddr (fd := (fieldOf prog 25 1)) underlying25 (by kernel_rfl) sizeOf23 rfl rfl) ?_
   refine Head.zg 42 (.load 23 (.tmp 41)) 23 (13, false) (.slice (some ⟨b30, o30, none⟩) n2b c2b) (Y.ldb isAgg23 rfl (.tail _ (List.mem_cons_self ..)) rfl) ?_
   refine Head.u 43 (.int .i64 x5) ?_
   obtain ⟨hi, h⟩ := h
   refine Head.zg 44 (.indexAddr 23 (.tmp 42) (.tmp 43)) 0 (13, false) (.pointer (some ⟨b30, (o30 + Int.toNat x5 * 3), none⟩)) (Y.idx underlying23 sizeOf55 rfl rfl hi rfl) ?_
   refine Head.zg 45 (.fieldAddr 55 (.tmp 44) 1) 0 (13, false) (.pointer (some ⟨b30, ((o30 + Int.toNat x5 * 3) + 1), none⟩)) (Y.fieldAddr (fd := (fieldOf prog 55 1)) underlying55 (by kernel_rfl) sizeOf3 rfl rfl) ?_
   obtain ⟨x46, hl, h⟩ := h
   refine Head.ygl b30 [[41, 28, 27, 26]] rfl (by kernel_rfl) (d := (some 46)) (op := (.load 3 (.tmp 45))) (ty := 3) (gd := (some (13, false))) (v := (.int .i64 x46)) (by kernel_rfl) rfl rfl (Y.ld isAgg3 rfl (lim_ld hl)) ?_
   refine Head.zg 47 (.fieldAddr 25 (.tmp 3) 1) 0 (13, false) (.pointer (some ⟨b3, 1, none⟩)) (Y.fieldAddr (fd := (fieldOf prog 25 1)) underlying25 (by kernel_rfl) sizeOf23 rfl rfl) ?_
   refine Head.zg 48 (.load 23 (.tmp 47)) 23 (13, false) (.slice (some ⟨b36, o36, none⟩) n3b c3b) (Y.ldb isAgg23 rfl (List.mem_cons_self ..) rfl) ?_
   refine Head.u 49 (.int .i64 x5) ?_
   obtain ⟨hi, h⟩ := h
   refine Head.zg 50 (.indexAddr 23 (.tmp 48) (.tmp 49)) 0 (13, false) (.pointer (some ⟨b36, (o36 + Int.toNat x5 * 3), none⟩)) (Y.idx underlying23 sizeOf55 rfl rfl hi rfl) ?_
   refine Head.zg 51 (.fieldAddr 55 (.tmp 50) 1) 0 (13, false) (.pointer (some ⟨b36, ((o36 + Int.toNat x5 * 3) + 1), none⟩)) (Y.fieldAddr (fd := (fieldOf prog 55 1)) underlying55 (by kernel_rfl) sizeOf3 rfl rfl) ?_
   obtain ⟨x52, hl, h⟩ := h
   refine Head.ygl b36 [[41, 28, 27, 26]] rfl (by kernel_rfl) (d := (some 52)) (op := (.load 3 (.tmp 51))) (ty := 3) (gd := (some (13, false))) (v := (.int .i64 x52)) (by kernel_rfl) rfl rfl (Y.ld isAgg3 rfl (lim_ld hl)) ?_
   refine Head.u 53 (.bool (decide ((x46 : Int) ≠ x52))) ?_
   refine Head.u 54 (.bool (decide ((x46 : Int) ≠ x52))) ?_
   refine Head.u 55 (.bool (decide ((x46 : Int) ≠ x52))) ?_
   cases hb : (decide ((x46 : Int) ≠ x52)) with
   | true =>
    replace h := h.1 (of_decide_eq_true hb)
    refine Head.n 56 ?_
    refine Head.n 57 ?_
    refine Head.n 58 ?_
    refine Head.n 59 ?_
    refine Head.n 60 ?_
    refine Head.n 61 ?_
    refine Head.n 62 ?_
    refine Head.n 63 ?_
    refine Head.n 64 ?_
    refine Head.n 65 ?_
    refine Head.n 66 ?_
    refine Head.n 67 ?_
    refine Head.o rfl ?_
    refine OpTo.no (d := (some 68)) (op := (.call { callee := .value (.func 35), args := #[(.tmp 61), (.tmp 67)], argTypes := #[53, 53] })) (ty := 4) (gd := some (28, false)) (by kernel_rfl) rfl rfl ?_
    refine ⟨KeepQ.refl _ _ _, ?_⟩
    refine Head.n 69 ?_
    refine Head.u 70 (.bool true) ?_
    refine Head.done ?_
    refine Seq.done ?_
    refine At.L [(2, (.pointer (some ⟨b2, 0, none⟩))), (3, (.pointer (some ⟨b3, 0, none⟩))), (5, (.int .i64 x5)), (70, (.bool true))] fun J => ?_
    refine At.cT 70 K26 K29 ?_
    refine At.s K27 K28 ?_
    refine At.rg 7 [0] ?_
    refine Seq.u 4 (.bool false) ?_
    refine Seq.done ?_
    refine At.L [(4, (.bool false))] fun J => ?_
    exact At.rt [.tmp 4] [(.bool false)] func11 ⟨_, rfl, rfl⟩ h
   | false =>
    replace h := h.2 (of_decide_eq_false hb)
    refine Head.zg 56 (.fieldAddr 25 (.tmp 2) 1) 0 (28, false) (.pointer (some ⟨b2, 1, none⟩)) (Y.fieldAddr (fd := (fieldOf prog 25 1)) underlying25 (by kernel_rfl) sizeOf23 rfl rfl) ?_
    refine Head.zg 57 (.load 23 (.tmp 56)) 23 (28, false) (.slice (some ⟨b30, o30, none⟩) n2b c2b) (Y.ldb isAgg23 rfl (.tail _ (List.mem_cons_self ..)) rfl) ?_
    refine Head.u 58 (.int .i64 x5) ?_
    obtain ⟨hi, h⟩ := h
    refine Head.zg 59 (.indexAddr 23 (.tmp 57) (.tmp 58)) 0 (28, false) (.pointer (some ⟨b30, (o30 + Int.toNat x5 * 3), none⟩)) (Y.idx underlying23 sizeOf55 rfl rfl hi rfl) ?_
    refine Head.zg 60 (.fieldAddr 55 (.tmp 59) 2) 0 (28, false) (.pointer (some ⟨b30, ((o30 + Int.toNat x5 * 3) + 2), none⟩)) (Y.fieldAddr (fd := (fieldOf prog 55 2)) underlying55 (by kernel_rfl) sizeOf53 rfl rfl) ?_
    obtain ⟨p61, n61, c61, hl, h⟩ := h
    refine Head.ygl b30 [[41]] rfl (by kernel_rfl) (d := (some 61)) (op := (.load 53 (.tmp 60))) (ty := 53) (gd := (some (28, false))) (v := (.slice p61 n61 c61)) (by kernel_rfl) rfl rfl (Y.ld isAgg53 rfl (lim_ld hl)) ?_
    refine Head.zg 62 (.fieldAddr 25 (.tmp 3) 1) 0 (28, false) (.pointer (some ⟨b3, 1, none⟩)) (Y.fieldAddr (fd := (fieldOf prog 25 1)) underlying25 (by kernel_rfl) sizeOf23 rfl rfl) ?_
    refine Head.zg 63 (.load 23 (.tmp 62)) 23 (28, false) (.slice (some ⟨b36, o36, none⟩) n3b c3b) (Y.ldb isAgg23 rfl (List.mem_cons_self ..) rfl) ?_
    refine Head.u 64 (.int .i64 x5) ?_
    obtain ⟨hi, h⟩ := h
    refine Head.zg 65 (.indexAddr 23 (.tmp 63) (.tmp 64)) 0 (28, false) (.pointer (some ⟨b36, (o36 + Int.toNat x5 * 3), none⟩)) (Y.idx underlying23 sizeOf55 rfl rfl hi rfl) ?_
    refine Head.zg 66 (.fieldAddr 55 (.tmp 65) 2) 0 (28, false) (.pointer (some ⟨b36, ((o36 + Int.toNat x5 * 3) + 2), none⟩)) (Y.fieldAddr (fd := (fieldOf prog 55 2)) underlying55 (by kernel_rfl) sizeOf53 rfl rfl) ?_
    obtain ⟨p67, n67, c67, hl, h⟩ := h
    refine Head.ygl b36 [[41]] rfl (by kernel_rfl) (d := (some 67)) (op := (.load 53 (.tmp 66))) (ty := 53) (gd := (some (28, false))) (v := (.slice p67 n67 c67)) (by kernel_rfl) rfl rfl (Y.ld isAgg53 rfl (lim_ld hl)) ?_
    refine Head.o (q' := (some [])) rfl ?_
    refine OpTo.cl (some 68) call35 (h.cont fun v σ1 h2 => ?_); replace h := h2; clear h2
    obtain ⟨t68, rfl, h⟩ := h
    refine ⟨⟨fun _ h => h, kp_q (L := []) Kp.nil⟩, ?_⟩
    refine Head.u 69 (.bool (!t68)) ?_
    refine Head.u 70 (.bool (!t68)) ?_
    refine Head.done ?_
    refine Seq.done ?_
    refine At.L [(2, (.pointer (some ⟨b2, 0, none⟩))), (3, (.pointer (some ⟨b3, 0, none⟩))), (5, (.int .i64 x5)), (70, (.bool (!t68)))] fun J => ?_
    cases hb : (!t68) with
    | true =>
     replace h := h.1 (Tw.nt hb)
     refine At.cT 70 K26 K29 ?_
     refine At.s K27 K28 ?_
     refine At.rg 7 [0] ?_
     refine Seq.u 4 (.bool false) ?_
     refine Seq.done ?_
     refine At.L [(4, (.bool false))] fun J => ?_
     exact At.rt [.tmp 4] [(.bool false)] func11 ⟨_, rfl, rfl⟩ h
    | false =>
     replace h := h.2 (Tw.nf hb)
     refine At.cF 70 K26 K29 ?_
     refine At.skip ?_
     refine At.inBlock ?_
     refine At.rg 5 [0, 1, 2] ?_
     refine Seq.u 25 (.int .i64 x5) ?_
     obtain ⟨hi, h⟩ := h
     refine Seq.z 26 (.binOp .add 3 (.tmp 25) (.const (.int .i64 1)) 3) 3 (.int .i64 (x5 + 1)) (Y.addI hi rfl rfl) ?_
     refine Seq.u 5 (.int .i64 (x5 + 1)) ?_
     refine Seq.done ?_
     refine At.L [(2, (.pointer (some ⟨b2, 0, none⟩))), (3, (.pointer (some ⟨b3, 0, none⟩))), (5, (.int .i64 (x5 + 1)))] fun J => ?_
     refine At.inLoop ?_
     refine At.s K16 K21 ?_
     refine At.s K17 K18 ?_
     exact At.v [(2, (.pointer (some ⟨b2, 0, none⟩))), (3, (.pointer (some ⟨b3, 0, none⟩))), (5, (.int .i64 (x5 + 1)))] (h _ b2 b3)
 | false =>
  replace h := h.2 (of_decide_eq_false hb)
  refine At.cF 24 K19 K20 ?_
  refine At.x 0 [.code K31] ?_
  refine At.s K32 K33 ?_
  refine At.rg 8 [0] ?_
  refine Seq.u 4 (.bool true) ?_
  refine Seq.done ?_
  refine At.L [(4, (.bool true))] fun J => ?_
  exact At.rt [.tmp 4] [(.bool true)] func11 ⟨_, rfl, rfl⟩ h
end law0_SameRing
end TwR
end
section
/- written by gen.py: program points and what leads to them -/
set_option linter.unusedVariables false
set_option maxRecDepth 100000
namespace TwR
open Go Tw Go.Proofs.Try
namespace ref13_Check
abbrev fid : Nat := 29
noncomputable def K0 : Code := f29.body.getD .skip
noncomputable def K1 := Tw.cl K0
noncomputable def K2 := Tw.cr K0
noncomputable def K3 := Tw.cl K2
noncomputable def K4 := Tw.cl K3
noncomputable def K5 := Tw.cr K3
noncomputable def K6 := Tw.cl K5
noncomputable def K7 := Tw.cl K6
noncomputable def K8 := Tw.cl K7
noncomputable def K9 := Tw.cl K8
noncomputable def K10 := Tw.cr K8
noncomputable def K11 := Tw.cl K10
noncomputable def K12 := Tw.cr K10
noncomputable def K13 := Tw.cr K7
noncomputable def K14 := Tw.cl K13
noncomputable def K15 := Tw.cl K14
noncomputable def K16 := Tw.cl K15
noncomputable def K17 := Tw.cr K15
noncomputable def K18 := Tw.cl K17
noncomputable def K19 := Tw.cl K18
noncomputable def K20 := Tw.cr K18
noncomputable def K21 := Tw.cl K20
noncomputable def K22 := Tw.cl K21
noncomputable def K23 := Tw.cr K21
noncomputable def K24 := Tw.cr K20
noncomputable def K25 := Tw.cr K17
noncomputable def K26 := Tw.cl K25
noncomputable def K27 := Tw.cr K25
noncomputable def K28 := Tw.cl K27
noncomputable def K29 := Tw.cl K28
noncomputable def K30 := Tw.cl K29
noncomputable def K31 := Tw.cl K30
noncomputable def K32 := Tw.cr K30
noncomputable def K33 := Tw.cl K32
noncomputable def K34 := Tw.cr K32
noncomputable def K35 := Tw.cr K29
noncomputable def K36 := Tw.cl K35
noncomputable def K37 := Tw.cl K36
noncomputable def K38 := Tw.cl K37
noncomputable def K39 := Tw.cr K37
noncomputable def K40 := Tw.cl K39
noncomputable def K41 := Tw.cl K40
noncomputable def K42 := Tw.cr K40
noncomputable def K43 := Tw.cr K39
noncomputable def K44 := Tw.cr K35
noncomputable def K45 := Tw.cr K13
noncomputable def K46 := Tw.cr K2
noncomputable def K47 := Tw.cl K46
noncomputable def K48 := Tw.cr K46
noncomputable abbrev gl (R : Ending → Hp → Prop) : Gl := Gl.fn prog 29 83 R
def pt9 (R : Ending → Hp → Prop) (x1a : Int) (p1b : Option Addr) (n1b : Nat) (c1b : Nat) (x3 : Int) (σ : Hp) : Prop := ∀ (J : Env) (b1 : Nat), At (gl R) [.code K9, .code K10, .code K13, .inLoop K7, .inBlock 0, .code K46] (upds J [(1, (.pointer (some ⟨b1, 0, none⟩))), (3, (.int .i64 x3))]) [(b1, .cells #[(.int .u64 x1a), (.slice p1b n1b c1b)] 25 (0, 0))] σ
def pt31 (R : Ending → Hp → Prop) (x1a : Int) (p1b : Option Addr) (n1b : Nat) (c1b : Nat) (x3 : Int) (x4a : Int) (x4b : Int) (p4c : Option Addr) (n4c : Nat) (c4c : Nat) (x5 : Int) (σ : Hp) : Prop := ∀ (J : Env) (b1 : Nat) (b4 : Nat), At (gl R) [.code K31, .code K32, .code K35, .inLoop K29, .inBlock 2, .inBlock 1, .code K45, .inLoop K7, .inBlock 0, .code K46] (upds J [(1, (.pointer (some ⟨b1, 0, none⟩))), (3, (.int .i64 x3)), (4, (.pointer (some ⟨b4, 0, none⟩))), (5, (.int .i64 x5))]) [(b4, .cells #[(.int .i64 x4a), (.int .i64 x4b), (.slice p4c n4c c4c)] 55 (0, 0)), (b1, .cells #[(.int .u64 x1a), (.slice p1b n1b c1b)] 25 (0, 0))] σ
theorem start {R : Ending → Hp → Prop} {x0a : Int} {p0b : Option Addr} {n0b : Nat} {c0b : Nat} {σ : Hp} (h : pt9 R x0a p0b n0b c0b 0 σ) : Spec prog 29 #[(.agg #[(.int .u64 x0a), (.slice p0b n0b c0b)])] σ R := by
 refine Spec.of_at (fn := f29) (c := K0) func29 (by kernel_rfl) (Nat.le_of_ble_eq_true (by kernel_rfl)) (fun e he => ?_)
 refine At.ofL (l := [(0, (.agg #[(.int .u64 x0a), (.slice p0b n0b c0b)]))]) ⟨he 0, trivial⟩ (fun J => ?_)
 show At (gl R) _ _ _ _
 refine At.s K1 K2 ?_
 refine At.rg 0 [0, 1] ?_
 refine Seq.o ?_
 refine OpTo.box (T := 25) (d := (some 1)) (ty := 0) (x := (.tmp 0)) (gd := none) (cs := #[(.int .u64 x0a), (.slice p0b n0b c0b)]) (by kernel_rfl) rfl rfl rfl (fun b1 => ?_)
 refine Seq.u 2 (.int .i64 0) ?_
 refine Seq.done ?_
 refine At.L [(1, (.pointer (some ⟨b1, 0, none⟩)))] fun J => ?_
 refine At.s K3 K46 ?_
 refine At.s K4 K5 ?_
 refine At.rg 1 [0] ?_
 refine Seq.u 3 (.int .i64 0) ?_
 refine Seq.done ?_
 refine At.L [(1, (.pointer (some ⟨b1, 0, none⟩))), (3, (.int .i64 0))] fun J => ?_
 refine At.b 0 K6 ?_
 refine At.loop (x := K7) (by kernel_rfl) ?_
 refine At.s K8 K13 ?_
 refine At.s K9 K10 ?_
 exact At.v [(1, (.pointer (some ⟨b1, 0, none⟩))), (3, (.int .i64 0))] (h _ b1)
theorem pt9_of {R : Ending → Hp → Prop} {x1a : Int} {p1b : Option Addr} {n1b : Nat} {c1b : Nat} {x3 : Int} {σ : Hp} (h : ((x3 : Int) < (n1b : Int) → ∃ (b16 o16 : Nat), p1b = some ⟨b16, o16, none⟩ ∧ ((0 : Int) ≤ x3 ∧ x3 < (n1b : Int)) ∧ ∃ x17a : Int, ∃ x17b : Int, ∃ p17c : Option Addr, ∃ n17c : Nat, ∃ c17c : Nat, LdL σ b16 (o16 + Int.toNat x3 * 3) [(.int .i64 x17a), (.int .i64 x17b), (.slice p17c n17c c17c)] ∧ ((x17a : Int) < 0 → R (.returned (.int .i64 130)) σ) ∧ (¬ ((x17a : Int) < 0) → ((16 : Int) ≤ x17a → R (.returned (.int .i64 130)) σ) ∧ (¬ ((16 : Int) ≤ x17a) → ((0 : Int) < x3 → I64 (x3 - 1) ∧ ((0 : Int) ≤ (x3 - 1) ∧ (x3 - 1) < (n1b : Int)) ∧ ∃ x38 : Int, Hp.ld σ ⟨b16, (o16 + Int.toNat (x3 - 1) * 3), none⟩ = some (.int .i64 x38) ∧ ((x17a : Int) ≤ x38 → R (.returned (.int .i64 130)) σ) ∧ (¬ ((x17a : Int) ≤ x38) → ((x17b : Int) < 1 → R (.returned (.int .i64 130)) σ) ∧ (¬ ((x17b : Int) < 1) → ((3 : Int) < x17b → R (.returned (.int .i64 130)) σ) ∧ (¬ ((3 : Int) < x17b) → (((n17c : Int) : Int) < 1 → R (.returned (.int .i64 130)) σ) ∧ (¬ (((n17c : Int) : Int) < 1) → ((64 : Int) < (n17c : Int) → R (.returned (.int .i64 130)) σ) ∧ (¬ ((64 : Int) < (n17c : Int)) → pt31 R x1a ((some ⟨b16, o16, none⟩)) n1b c1b x3 x17a x17b p17c n17c c17c 1 σ)))))) ∧ (¬ ((0 : Int) < x3) → ((x17b : Int) < 1 → R (.returned (.int .i64 130)) σ) ∧ (¬ ((x17b : Int) < 1) → ((3 : Int) < x17b → R (.returned (.int .i64 130)) σ) ∧ (¬ ((3 : Int) < x17b) → (((n17c : Int) : Int) < 1 → R (.returned (.int .i64 130)) σ) ∧ (¬ (((n17c : Int) : Int) < 1) → ((64 : Int) < (n17c : Int) → R (.returned (.int .i64 130)) σ) ∧ (¬ ((64 : Int) < (n17c : Int)) → pt31 R x1a ((some ⟨b16, o16, none⟩)) n1b c1b x3 x17a x17b p17c n17c c17c 1 σ)))))))) ∧ (¬ ((x3 : Int) < (n1b : Int)) → R (.returned (.int .i64 0)) σ)) : pt9 R x1a p1b n1b c1b x3 σ := by
 intro J b1
 show At (gl R) _ _ _ _
 refine At.rg 2 [0, 1, 2, 3, 4] ?_
 refine Seq.u 6 (.int .i64 x3) ?_
 refine Seq.z 7 (.fieldAddr 25 (.tmp 1) 1) 0 (.pointer (some ⟨b1, 1, none⟩)) (Y.fieldAddr (fd := (fieldOf prog 25 1)) underlying25 (by kernel_rfl) sizeOf23 rfl rfl) ?_
 refine Seq.z 8 (.load 23 (.tmp 7)) 23 (.slice p1b n1b c1b) (Y.ldb isAgg23 rfl (List.mem_cons_self ..) rfl) ?_
 refine Seq.z 9 (.call { callee := .builtin .len, args := #[(.tmp 8)], argTypes := #[23] }) 3 (.int .i64 (n1b : Int)) (Y.lenS underlying23 rfl rfl) ?_
 refine Seq.u 10 (.bool (decide ((x3 : Int) < (n1b : Int)))) ?_
 refine Seq.done ?_
 refine At.L [(1, (.pointer (some ⟨b1, 0, none⟩))), (3, (.int .i64 x3)), (10, (.bool (decide ((x3 : Int) < (n1b : Int)))))] fun J => ?_
 cases hb : (decide ((x3 : Int) < (n1b : Int))) with
 | true =>
  replace h := h.1 (of_decide_eq_true hb)
  refine At.cT 10 K11 K12 ?_
  refine At.skip ?_
  refine At.s K14 K45 ?_
  refine At.b 1 K15 ?_
  refine At.s K16 K17 ?_
  refine At.rg 4 [0, 1, 2, 3, 4, 5, 6] ?_
  refine Seq.z 13 (.fieldAddr 25 (.tmp 1) 1) 0 (.pointer (some ⟨b1, 1, none⟩)) (Y.fieldAddr (fd := (fieldOf prog 25 1)) underlying25 (by kernel_rfl) sizeOf23 rfl rfl) ?_
  refine Seq.z 14 (.load 23 (.tmp 13)) 23 (.slice p1b n1b c1b) (Y.ldb isAgg23 rfl (List.mem_cons_self ..) rfl) ?_
  refine Seq.u 15 (.int .i64 x3) ?_
  obtain ⟨b16, o16, hq, h⟩ := h
  subst hq
  obtain ⟨hi, h⟩ := h
  refine Seq.z 16 (.indexAddr 23 (.tmp 14) (.tmp 15)) 0 (.pointer (some ⟨b16, (o16 + Int.toNat x3 * 3), none⟩)) (Y.idx underlying23 sizeOf55 rfl rfl hi rfl) ?_
  obtain ⟨x17a, x17b, p17c, n17c, c17c, hl, h⟩ := h
  refine Seq.z 17 (.load 55 (.tmp 16)) 55 (.agg #[(.int .i64 x17a), (.int .i64 x17b), (.slice p17c n17c c17c)]) (Y.lda isAgg55 sizeOf55 rfl rfl hl) ?_
  refine Seq.o ?_
  refine OpTo.alloc (T := 55) (d := (some 4)) (ty := 0)  (gd := none) (cs := #[(.int .i64 0), (.int .i64 0), (.slice none 0 0)]) (by kernel_rfl) rfl rfl zeroValue55 rfl (fun b4 => ?_)
  refine Seq.o ?_
  refine OpTo.storeb (T := 55) (ty := 0) (x := (.tmp 4)) (y := (.tmp 17)) (t := 55) (j := 0) (b := b4) (o := 0) (c' := #[(.int .i64 x17a), (.int .i64 x17b), (.slice p17c n17c c17c)]) (v := (.agg #[(.int .i64 x17a), (.int .i64 x17b), (.slice p17c n17c c17c)])) (gd := none) (by kernel_rfl) rfl sizeOf55 rfl rfl rfl rfl rfl rfl rfl ?_
  simp only [List.set]
  refine Seq.done ?_
  refine At.L [(1, (.pointer (some ⟨b1, 0, none⟩))), (3, (.int .i64 x3)), (4, (.pointer (some ⟨b4, 0, none⟩)))] fun J => ?_
  refine At.s K18 K25 ?_
  refine At.s K19 K20 ?_
  refine At.draw (id := 5) (ops := cO K19) (n := 46) (q := none) (plan := [(0, true), (1, true), (2, true), (3, true), (4, true), (5, true), (6, true), (7, true), (8, true), (9, true), (10, true), (11, true), (12, true), (13, true), (14, true), (15, true), (16, true), (17, true), (18, true), (19, true), (20, true), (21, true), (22, true), (23, true), (24, true), (25, true), (26, true), (27, true), (28, true), (29, true), (30, true), (31, true), (32, true), (33, true), (34, true), (35, true), (36, true), (37, true), (38, true), (39, true), (40, true), (41, true), (42, true), (43, true), (44, true), (45, true)]) (tl := []) mixed (by kernel_rfl) (by kernel_rfl) ?_
  refine Head.z 18 (.fieldAddr 55 (.tmp 4) 0) 0 (.pointer (some ⟨b4, 0, none⟩)) (Y.fieldAddr (fd := (fieldOf prog 55 0)) underlying55 (by kernel_rfl) sizeOf3 rfl rfl) ?_
  refine Head.z 19 (.load 3 (.tmp 18)) 3 (.int .i64 x17a) (Y.ldb isAgg3 rfl (List.mem_cons_self ..) rfl) ?_
  refine Head.u 20 (.bool (decide ((x17a : Int) < 0))) ?_
  refine Head.u 21 (.bool (decide ((x17a : Int) < 0))) ?_
  cases hb : (decide ((x17a : Int) < 0)) with
  | true =>
   replace h := h.1 (of_decide_eq_true hb)
   refine Head.n 22 ?_
   refine Head.n 23 ?_
   refine Head.n 24 ?_
   refine Head.u 25 (.bool true) ?_
   refine Head.u 26 (.bool true) ?_
   refine Head.n 27 ?_
   refine Head.n 28 ?_
   refine Head.n 29 ?_
   refine Head.n 30 ?_
   refine Head.n 31 ?_
   refine Head.n 32 ?_
   refine Head.n 33 ?_
   refine Head.n 34 ?_
   refine Head.n 35 ?_
   refine Head.n 36 ?_
   refine Head.n 37 ?_
   refine Head.n 38 ?_
   refine Head.n 39 ?_
   refine Head.n 40 ?_
   refine Head.u 41 (.bool true) ?_
   refine Head.u 42 (.bool true) ?_
   refine Head.n 43 ?_
   refine Head.n 44 ?_
   refine Head.n 45 ?_
   refine Head.u 46 (.bool true) ?_
   refine Head.u 47 (.bool true) ?_
   refine Head.n 48 ?_
   refine Head.n 49 ?_
   refine Head.n 50 ?_
   refine Head.u 51 (.bool true) ?_
   refine Head.u 52 (.bool true) ?_
   refine Head.n 53 ?_
   refine Head.n 54 ?_
   refine Head.n 55 ?_
   refine Head.n 56 ?_
   refine Head.u 57 (.bool true) ?_
   refine Head.u 58 (.bool true) ?_
   refine Head.n 59 ?_
   refine Head.n 60 ?_
   refine Head.n 61 ?_
   refine Head.n 62 ?_
   refine Head.u 63 (.bool true) ?_
   refine Head.done ?_
   refine Seq.done ?_
   refine At.L [(1, (.pointer (some ⟨b1, 0, none⟩))), (3, (.int .i64 x3)), (4, (.pointer (some ⟨b4, 0, none⟩))), (63, (.bool true))] fun J => ?_
   refine At.cT 63 K21 K24 ?_
   refine At.s K22 K23 ?_
   refine At.rg 6 [0] ?_
   refine Seq.u 2 (.int .i64 130) ?_
   refine Seq.done ?_
   refine At.L [(2, (.int .i64 130))] fun J => ?_
   exact At.rt [.tmp 2] [(.int .i64 130)] func29 ⟨_, rfl, rfl⟩ h
  | false =>
   replace h := h.2 (of_decide_eq_false hb)
   refine Head.zg 22 (.fieldAddr 55 (.tmp 4) 0) 0 (3, false) (.pointer (some ⟨b4, 0, none⟩)) (Y.fieldAddr (fd := (fieldOf prog 55 0)) underlying55 (by kernel_rfl) sizeOf3 rfl rfl) ?_
   refine Head.zg 23 (.load 3 (.tmp 22)) 3 (3, false) (.int .i64 x17a) (Y.ldb isAgg3 rfl (List.mem_cons_self ..) rfl) ?_
   refine Head.u 24 (.bool (decide ((16 : Int) ≤ x17a))) ?_
   refine Head.u 25 (.bool (decide ((16 : Int) ≤ x17a))) ?_
   refine Head.u 26 (.bool (decide ((16 : Int) ≤ x17a))) ?_
   cases hb : (decide ((16 : Int) ≤ x17a)) with
   | true =>
    replace h := h.1 (of_decide_eq_true hb)
    refine Head.n 27 ?_
    refine Head.n 28 ?_
    refine Head.n 29 ?_
    refine Head.n 30 ?_
    refine Head.n 31 ?_
    refine Head.n 32 ?_
    refine Head.n 33 ?_
    refine Head.n 34 ?_
    refine Head.n 35 ?_
    refine Head.n 36 ?_
    refine Head.n 37 ?_
    refine Head.n 38 ?_
    refine Head.n 39 ?_
    refine Head.n 40 ?_
    refine Head.u 41 (.bool true) ?_
    refine Head.u 42 (.bool true) ?_
    refine Head.n 43 ?_
    refine Head.n 44 ?_
    refine Head.n 45 ?_
    refine Head.u 46 (.bool true) ?_
    refine Head.u 47 (.bool true) ?_
    refine Head.n 48 ?_
    refine Head.n 49 ?_
    refine Head.n 50 ?_
    refine Head.u 51 (.bool true) ?_
    refine Head.u 52 (.bool true) ?_
    refine Head.n 53 ?_
    refine Head.n 54 ?_
    refine Head.n 55 ?_
    refine Head.n 56 ?_
    refine Head.u 57 (.bool true) ?_
    refine Head.u 58 (.bool true) ?_
    refine Head.n 59 ?_
    refine Head.n 60 ?_
    refine Head.n 61 ?_
    refine Head.n 62 ?_
    refine Head.u 63 (.bool true) ?_
    refine Head.done ?_
    refine Seq.done ?_
    refine At.L [(1, (.pointer (some ⟨b1, 0, none⟩))), (3, (.int .i64 x3)), (4, (.pointer (some ⟨b4, 0, none⟩))), (63, (.bool true))] fun J => ?_
    refine At.cT 63 K21 K24 ?_
    refine At.s K22 K23 ?_
    refine At.rg 6 [0] ?_
    refine Seq.u 2 (.int .i64 130) ?_
    refine Seq.done ?_
    refine At.L [(2, (.int .i64 130))] fun J => ?_
    exact At.rt [.tmp 2] [(.int .i64 130)] func29 ⟨_, rfl, rfl⟩ h
   | false =>
    replace h := h.2 (of_decide_eq_false hb)
    refine Head.u 27 (.int .i64 x3) ?_
    refine Head.u 28 (.bool (decide ((0 : Int) < x3))) ?_
    refine Head.u 29 (.bool (decide ((0 : Int) < x3))) ?_
    cases hb : (decide ((0 : Int) < x3)) with
    | true =>
     replace h := h.1 (of_decide_eq_true hb)
     refine Head.zg 30 (.fieldAddr 55 (.tmp 4) 0) 0 (11, true) (.pointer (some ⟨b4, 0, none⟩)) (Y.fieldAddr (fd := (fieldOf prog 55 0)) underlying55 (by kernel_rfl) sizeOf3 rfl rfl) ?_
     refine Head.zg 31 (.load 3 (.tmp 30)) 3 (11, true) (.int .i64 x17a) (Y.ldb isAgg3 rfl (List.mem_cons_self ..) rfl) ?_
     refine Head.zg 32 (.fieldAddr 25 (.tmp 1) 1) 0 (11, true) (.pointer (some ⟨b1, 1, none⟩)) (Y.fieldAddr (fd := (fieldOf prog 25 1)) underlying25 (by kernel_rfl) sizeOf23 rfl rfl) ?_
     refine Head.zg 33 (.load 23 (.tmp 32)) 23 (11, true) (.slice (some ⟨b16, o16, none⟩) n1b c1b) (Y.ldb isAgg23 rfl (.tail _ (List.mem_cons_self ..)) rfl) ?_
     refine Head.u 34 (.int .i64 x3) ?_
     obtain ⟨hi, h⟩ := h
     refine Head.zg 35 (.binOp .sub 3 (.tmp 34) (.const (.int .i64 1)) 3) 3 (11, true) (.int .i64 (x3 - 1)) (Y.subI hi rfl rfl) ?_
     obtain ⟨hi, h⟩ := h
     refine Head.zg 36 (.indexAddr 23 (.tmp 33) (.tmp 35)) 0 (11, true) (.pointer (some ⟨b16, (o16 + Int.toNat (x3 - 1) * 3), none⟩)) (Y.idx underlying23 sizeOf55 rfl rfl hi rfl) ?_
     refine Head.zg 37 (.fieldAddr 55 (.tmp 36) 0) 0 (11, true) (.pointer (some ⟨b16, (o16 + Int.toNat (x3 - 1) * 3), none⟩)) (Y.fieldAddr (fd := (fieldOf prog 55 0)) underlying55 (by kernel_rfl) sizeOf3 rfl rfl) ?_
     obtain ⟨x38, hl, h⟩ := h
     refine Head.zg 38 (.load 3 (.tmp 37)) 3 (11, true) (.int .i64 x38) (Y.ld isAgg3 rfl hl) ?_
     refine Head.u 39 (.bool (decide ((x17a : Int) ≤ x38))) ?_
     refine Head.u 40 (.bool (decide ((x17a : Int) ≤ x38))) ?_
     refine Head.u 41 (.bool (decide ((x17a : Int) ≤ x38))) ?_
     refine Head.u 42 (.bool (decide ((x17a : Int) ≤ x38))) ?_
     cases hb : (decide ((x17a : Int) ≤ x38)) with
     | true =>
      replace h := h.1 (of_decide_eq_true hb)
      refine Head.n 43 ?_
      refine Head.n 44 ?_
      refine Head.n 45 ?_
      refine Head.u 46 (.bool true) ?_
      refine Head.u 47 (.bool true) ?_
      refine Head.n 48 ?_
      refine Head.n 49 ?_
      refine Head.n 50 ?_
      refine Head.u 51 (.bool true) ?_
      refine Head.u 52 (.bool true) ?_
      refine Head.n 53 ?_
      refine Head.n 54 ?_
      refine Head.n 55 ?_
      refine Head.n 56 ?_
      refine Head.u 57 (.bool true) ?_
      refine Head.u 58 (.bool true) ?_
      refine Head.n 59 ?_
      refine Head.n 60 ?_
      refine Head.n 61 ?_
      refine Head.n 62 ?_
      refine Head.u 63 (.bool true) ?_
      refine Head.done ?_
      refine Seq.done ?_
      refine At.L [(1, (.pointer (some ⟨b1, 0, none⟩))), (3, (.int .i64 x3)), (4, (.pointer (some ⟨b4, 0, none⟩))), (63, (.bool true))] fun J => ?_
      refine At.cT 63 K21 K24 ?_
      refine At.s K22 K23 ?_
      refine At.rg 6 [0] ?_
      refine Seq.u 2 (.int .i64 130) ?_
      refine Seq.done ?_
      refine At.L [(2, (.int .i64 130))] fun J => ?_
      exact At.rt [.tmp 2] [(.int .i64 130)] func29 ⟨_, rfl, rfl⟩ h
     | false =>
      replace h := h.2 (of_decide_eq_false hb)
      refine Head.zg 43 (.fieldAddr 55 (.tmp 4) 1) 0 (24, false) (.pointer (some ⟨b4, 1, none⟩)) (Y.fieldAddr (fd := (fieldOf prog 55 1)) underlying55 (by kernel_rfl) sizeOf3 rfl rfl) ?_
      refine Head.zg 44 (.load 3 (.tmp 43)) 3 (24, false) (.int .i64 x17b) (Y.ldb isAgg3 rfl (List.mem_cons_self ..) rfl) ?_
      refine Head.u 45 (.bool (decide ((x17b : Int) < 1))) ?_
      refine Head.u 46 (.bool (decide ((x17b : Int) < 1))) ?_
      refine Head.u 47 (.bool (decide ((x17b : Int) < 1))) ?_
      cases hb : (decide ((x17b : Int) < 1)) with
      | true =>
       replace h := h.1 (of_decide_eq_true hb)
       refine Head.n 48 ?_
       refine Head.n 49 ?_
       refine Head.n 50 ?_
       refine Head.u 51 (.bool true) ?_
       refine Head.u 52 (.bool true) ?_
       refine Head.n 53 ?_
       refine Head.n 54 ?_
       refine Head.n 55 ?_
       refine Head.n 56 ?_
       refine Head.u 57 (.bool true) ?_
       refine Head.u 58 (.bool true) ?_
       refine Head.n 59 ?_
       refine Head.n 60 ?_
       refine Head.n 61 ?_
       refine Head.n 62 ?_
       refine Head.u 63 (.bool true) ?_
       refine Head.done ?_
       refine Seq.done ?_
       refine At.L [(1, (.pointer (some ⟨b1, 0, none⟩))), (3, (.int .i64 x3)), (4, (.pointer (some ⟨b4, 0, none⟩))), (63, (.bool true))] fun J => ?_
       refine At.cT 63 K21 K24 ?_
       refine At.s K22 K23 ?_
       refine At.rg 6 [0] ?_
       refine Seq.u 2 (.int .i64 130) ?_
       refine Seq.done ?_
       refine At.L [(2, (.int .i64 130))] fun J => ?_
       exact At.rt [.tmp 2] [(.int .i64 130)] func29 ⟨_, rfl, rfl⟩ h
      | false =>
       replace h := h.2 (of_decide_eq_false hb)
       refine Head.zg 48 (.fieldAddr 55 (.tmp 4) 1) 0 (29, false) (.pointer (some ⟨b4, 1, none⟩)) (Y.fieldAddr (fd := (fieldOf prog 55 1)) underlying55 (by kernel_rfl) sizeOf3 rfl rfl) ?_
       refine Head.zg 49 (.load 3 (.tmp 48)) 3 (29, false) (.int .i64 x17b) (Y.ldb isAgg3 rfl (List.mem_cons_self ..) rfl) ?_
       refine Head.u 50 (.bool (decide ((3 : Int) < x17b))) ?_
       refine Head.u 51 (.bool (decide ((3 : Int) < x17b))) ?_
       refine Head.u 52 (.bool (decide ((3 : Int) < x17b))) ?_
       cases hb : (decide ((3 : Int) < x17b)) with
       | true =>
        replace h := h.1 (of_decide_eq_true hb)
        refine Head.n 53 ?_
        refine Head.n 54 ?_
        refine Head.n 55 ?_
        refine Head.n 56 ?_
        refine Head.u 57 (.bool true) ?_
        refine Head.u 58 (.bool true) ?_
        refine Head.n 59 ?_
        refine Head.n 60 ?_
        refine Head.n 61 ?_
        refine Head.n 62 ?_
        refine Head.u 63 (.bool true) ?_
        refine Head.done ?_
        refine Seq.done ?_
        refine At.L [(1, (.pointer (some ⟨b1, 0, none⟩))), (3, (.int .i64 x3)), (4, (.pointer (some ⟨b4, 0, none⟩))), (63, (.bool true))] fun J => ?_
        refine At.cT 63 K21 K24 ?_
        refine At.s K22 K23 ?_
        refine At.rg 6 [0] ?_
        refine Seq.u 2 (.int .i64 130) ?_
        refine Seq.done ?_
        refine At.L [(2, (.int .i64 130))] fun J => ?_
        exact At.rt [.tmp 2] [(.int .i64 130)] func29 ⟨_, rfl, rfl⟩ h
       | false =>
        replace h := h.2 (of_decide_eq_false hb)
        refine Head.zg 53 (.fieldAddr 55 (.tmp 4) 2) 0 (34, false) (.pointer (some ⟨b4, 2, none⟩)) (Y.fieldAddr (fd := (fieldOf prog 55 2)) underlying55 (by kernel_rfl) sizeOf53 rfl rfl) ?_
        refine Head.zg 54 (.load 53 (.tmp 53)) 53 (34, false) (.slice p17c n17c c17c) (Y.ldb isAgg53 rfl (List.mem_cons_self ..) rfl) ?_
        refine Head.zg 55 (.call { callee := .builtin .len, args := #[(.tmp 54)], argTypes := #[53] }) 3 (34, false) (.int .i64 (n17c : Int)) (Y.lenS underlying53 rfl rfl) ?_
        refine Head.u 56 (.bool (decide (((n17c : Int) : Int) < 1))) ?_
        refine Head.u 57 (.bool (decide (((n17c : Int) : Int) < 1))) ?_
        refine Head.u 58 (.bool (decide (((n17c : Int) : Int) < 1))) ?_
        cases hb : (decide (((n17c : Int) : Int) < 1)) with
        | true =>
         replace h := h.1 (of_decide_eq_true hb)
         refine Head.n 59 ?_
         refine Head.n 60 ?_
         refine Head.n 61 ?_
         refine Head.n 62 ?_
         refine Head.u 63 (.bool true) ?_
         refine Head.done ?_
         refine Seq.done ?_
         refine At.L [(1, (.pointer (some ⟨b1, 0, none⟩))), (3, (.int .i64 x3)), (4, (.pointer (some ⟨b4, 0, none⟩))), (63, (.bool true))] fun J => ?_
         refine At.cT 63 K21 K24 ?_
         refine At.s K22 K23 ?_
         refine At.rg 6 [0] ?_
         refine Seq.u 2 (.int .i64 130) ?_
         refine Seq.done ?_
         refine At.L [(2, (.int .i64 130))] fun J => ?_
         exact At.rt [.tmp 2] [(.int .i64 130)] func29 ⟨_, rfl, rfl⟩ h
        | false =>
         replace h := h.2 (of_decide_eq_false hb)
         refine Head.zg 59 (.fieldAddr 55 (.tmp 4) 2) 0 (40, false) (.pointer (some ⟨b4, 2, none⟩)) (Y.fieldAddr (fd := (fieldOf prog 55 2)) underlying55 (by kernel_rfl) sizeOf53 rfl rfl) ?_
         refine Head.zg 60 (.load 53 (.tmp 59)) 53 (40, false) (.slice p17c n17c c17c) (Y.ldb isAgg53 rfl (List.mem_cons_self ..) rfl) ?_
         refine Head.zg 61 (.call { callee := .builtin .len, args := #[(.tmp 60)], argTypes := #[53] }) 3 (40, false) (.int .i64 (n17c : Int)) (Y.lenS underlying53 rfl rfl) ?_
         refine Head.u 62 (.bool (decide ((64 : Int) < (n17c : Int)))) ?_
         refine Head.u 63 (.bool (decide ((64 : Int) < (n17c : Int)))) ?_
         refine Head.done ?_
         refine Seq.done ?_
         refine At.L [(1, (.pointer (some ⟨b1, 0, none⟩))), (3, (.int .i64 x3)), (4, (.pointer (some ⟨b4, 0, none⟩))), (63, (.bool (decide ((64 : Int) < (n17c : Int)))))] fun J => ?_
         cases hb : (decide ((64 : Int) < (n17c : Int))) with
         | true =>
          replace h := h.1 (of_decide_eq_true hb)
          refine At.cT 63 K21 K24 ?_
          refine At.s K22 K23 ?_
          refine At.rg 6 [0] ?_
          refine Seq.u 2 (.int .i64 130) ?_
          refine Seq.done ?_
          refine At.L [(2, (.int .i64 130))] fun J => ?_
          exact At.rt [.tmp 2] [(.int .i64 130)] func29 ⟨_, rfl, rfl⟩ h
         | false =>
          replace h := h.2 (of_decide_eq_false hb)
          refine At.cF 63 K21 K24 ?_
          refine At.skip ?_
          refine At.s K26 K27 ?_
          refine At.rg 7 [0] ?_
          refine Seq.u 5 (.int .i64 1) ?_
          refine Seq.done ?_
          refine At.L [(1, (.pointer (some ⟨b1, 0, none⟩))), (3, (.int .i64 x3)), (4, (.pointer (some ⟨b4, 0, none⟩))), (5, (.int .i64 1))] fun J => ?_
          refine At.b 2 K28 ?_
          refine At.loop (x := K29) (by kernel_rfl) ?_
          refine At.s K30 K35 ?_
          refine At.s K31 K32 ?_
          exact At.v [(1, (.pointer (some ⟨b1, 0, none⟩))), (3, (.int .i64 x3)), (4, (.pointer (some ⟨b4, 0, none⟩))), (5, (.int .i64 1))] (h _ b1 b4)
    | false =>
     replace h := h.2 (of_decide_eq_false hb)
     refine Head.n 30 ?_
     refine Head.n 31 ?_
     refine Head.n 32 ?_
     refine Head.n 33 ?_
     refine Head.n 34 ?_
     refine Head.n 35 ?_
     refine Head.n 36 ?_
     refine Head.n 37 ?_
     refine Head.n 38 ?_
     refine Head.n 39 ?_
     refine Head.u 40 (.bool false) ?_
     refine Head.u 41 (.bool false) ?_
     refine Head.u 42 (.bool false) ?_
     refine Head.zg 43 (.fieldAddr 55 (.tmp 4) 1) 0 (24, false) (.pointer (some ⟨b4, 1, none⟩)) (Y.fieldAddr (fd := (fieldOf prog 55 1)) underlying55 (by kernel_rfl) sizeOf3 rfl rfl) ?_
     refine Head.zg 44 (.load 3 (.tmp 43)) 3 (24, false) (.int .i64 x17b) (Y.ldb isAgg3 rfl (List.mem_cons_self ..) rfl) ?_
     refine Head.u 45 (.bool (decide ((x17b : Int) < 1))) ?_
     refine Head.u 46 (.bool (decide ((x17b : Int) < 1))) ?_
     refine Head.u 47 (.bool (decide ((x17b : Int) < 1))) ?_
     cases hb : (decide ((x17b : Int) < 1)) with
     | true =>
      replace h := h.1 (of_decide_eq_true hb)
      refine Head.n 48 ?_
      refine Head.n 49 ?_
      refine Head.n 50 ?_
      refine Head.u 51 (.bool true) ?_
      refine Head.u 52 (.bool true) ?_
      refine Head.n 53 ?_
      refine Head.n 54 ?_
      refine Head.n 55 ?_
      refine Head.n 56 ?_
      refine Head.u 57 (.bool true) ?_
      refine Head.u 58 (.bool true) ?_
      refine Head.n 59 ?_
      refine Head.n 60 ?_
      refine Head.n 61 ?_
      refine Head.n 62 ?_
      refine Head.u 63 (.bool true) ?_
      refine Head.done ?_
      refine Seq.done ?_
      refine At.L [(1, (.pointer (some ⟨b1, 0, none⟩))), (3, (.int .i64 x3)), (4, (.pointer (some ⟨b4, 0, none⟩))), (63, (.bool true))] fun J => ?_
      refine At.cT 63 K21 K24 ?_
      refine At.s K22 K23 ?_
      refine At.rg 6 [0] ?_
      refine Seq.u 2 (.int .i64 130) ?_
      refine Seq.done ?_
      refine At.L [(2, (.int .i64 130))] fun J => ?_
      exact At.rt [.tmp 2] [(.int .i64 130)] func29 ⟨_, rfl, rfl⟩ h
     | false =>
      replace h := h.2 (of_decide_eq_false hb)
      refine Head.zg 48 (.fieldAddr 55 (.tmp 4) 1) 0 (29, false) (.pointer (some ⟨b4, 1, none⟩)) (Y.fieldAddr (fd := (fieldOf prog 55 1)) underlying55 (by kernel_rfl) sizeOf3 rfl rfl) ?_
      refine Head.zg 49 (.load 3 (.tmp 48)) 3 (29, false) (.int .i64 x17b) (Y.ldb isAgg3 rfl (List.mem_cons_self ..) rfl) ?_
      refine Head.u 50 (.bool (decide ((3 : Int) < x17b))) ?_
      refine Head.u 51 (.bool (decide ((3 : Int) < x17b))) ?_
      refine Head.u 52 (.bool (decide ((3 : Int) < x17b))) ?_
      cases hb : (decide ((3 : Int) < x17b)) with
      | true =>
       replace h := h.1 (of_decide_eq_true hb)
       refine Head.n 53 ?_
       refine Head.n 54 ?_
       refine Head.n 55 ?_
       refine Head.n 56 ?_
       refine Head.u 57 (.bool true) ?_
       refine Head.u 58 (.bool true) ?_
       refine Head.n 59 ?_
       refine Head.n 60 ?_
       refine Head.n 61 ?_
       refine Head.n 62 ?_
       refine Head.u 63 (.bool true) ?_
       refine Head.done ?_
       refine Seq.done ?_
       refine At.L [(1, (.pointer (some ⟨b1, 0, none⟩))), (3, (.int .i64 x3)), (4, (.pointer (some ⟨b4, 0, none⟩))), (63, (.bool true))] fun J => ?_
       refine At.cT 63 K21 K24 ?_
       refine At.s K22 K23 ?_
       refine At.rg 6 [0] ?_
       refine Seq.u 2 (.int .i64 130) ?_
       refine Seq.done ?_
       refine At.L [(2, (.int .i64 130))] fun J => ?_
       exact At.rt [.tmp 2] [(.int .i64 130)] func29 ⟨_, rfl, rfl⟩ h
      | false =>
       replace h := h.2 (of_decide_eq_false hb)
       refine Head.zg 53 (.fieldAddr 55 (.tmp 4) 2) 0 (34, false) (.pointer (some ⟨b4, 2, none⟩)) (Y.fieldAddr (fd := (fieldOf prog 55 2)) underlying55 (by kernel_rfl) sizeOf53 rfl rfl) ?_
       refine Head.zg 54 (.load 53 (.tmp 53)) 53 (34, false) (.slice p17c n17c c17c) (Y.ldb isAgg53 rfl (List.mem_cons_self ..) rfl) ?_
       refine Head.zg 55 (.call { callee := .builtin .len, args := #[(.tmp 54)], argTypes := #[53] }) 3 (34, false) (.int .i64 (n17c : Int)) (Y.lenS underlying53 rfl rfl) ?_
       refine Head.u 56 (.bool (decide (((n17c : Int) : Int) < 1))) ?_
       refine Head.u 57 (.bool (decide (((n17c : Int) : Int) < 1))) ?_
       refine Head.u 58 (.bool (decide (((n17c : Int) : Int) < 1))) ?_
       cases hb : (decide (((n17c : Int) : Int) < 1)) with
       | true =>
        replace h := h.1 (of_decide_eq_true hb)
        refine Head.n 59 ?_
        refine Head.n 60 ?_
        refine Head.n 61 ?_
        refine Head.n 62 ?_
        refine Head.u 63 (.bool true) ?_
        refine Head.done ?_
        refine Seq.done ?_
        refine At.L [(1, (.pointer (some ⟨b1, 0, none⟩))), (3, (.int .i64 x3)), (4, (.pointer (some ⟨b4, 0, none⟩))), (63, (.bool true))] fun J => ?_
        refine At.cT 63 K21 K24 ?_
        refine At.s K22 K23 ?_
        refine At.rg 6 [0] ?_
        refine Seq.u 2 (.int .i64 130) ?_
        refine Seq.done ?_
        refine At.L [(2, (.int .i64 130))] fun J => ?_
        exact At.rt [.tmp 2] [(.int .i64 130)] func29 ⟨_, rfl, rfl⟩ h
       | false =>
        replace h := h.2 (of_decide_eq_false hb)
        refine Head.zg 59 (.fieldAddr 55 (.tmp 4) 2) 0 (40, false) (.pointer (some ⟨b4, 2, none⟩)) (Y.fieldAddr (fd := (fieldOf prog 55 2)) underlying55 (by kernel_rfl) sizeOf53 rfl rfl) ?_
        refine Head.zg 60 (.load 53 (.tmp 59)) 53 (40, false) (.slice p17c n17c c17c) (Y.ldb isAgg53 rfl (List.mem_cons_self ..) rfl) ?_
        refine Head.zg 61 (.call { callee := .builtin .len, args := #[(.tmp 60)], argTypes := #[53] }) 3 (40, false) (.int .i64 (n17c : Int)) (Y.lenS underlying53 rfl rfl) ?_
        refine Head.u 62 (.bool (decide ((64 : Int) < (n17c : Int)))) ?_
        refine Head.u 63 (.bool (decide ((64 : Int) < (n17c : Int)))) ?_
        refine Head.done ?_
        refine Seq.done ?_
        refine At.L [(1, (.pointer (some ⟨b1, 0, none⟩))), (3, (.int .i64 x3)), (4, (.pointer (some ⟨b4, 0, none⟩))), (63, (.bool (decide ((64 : Int) < (n17c : Int)))))] fun J => ?_
        cases hb : (decide ((64 : Int) < (n17c : Int))) with
        | true =>
         replace h := h.1 (of_decide_eq_true hb)
         refine At.cT 63 K21 K24 ?_
         refine At.s K22 K23 ?_
         refine At.rg 6 [0] ?_
         refine Seq.u 2 (.int .i64 130) ?_
         refine Seq.done ?_
         refine At.L [(2, (.int .i64 130))] fun J => ?_
         exact At.rt [.tmp 2] [(.int .i64 130)] func29 ⟨_, rfl, rfl⟩ h
        | false =>
         replace h := h.2 (of_decide_eq_false hb)
         refine At.cF 63 K21 K24 ?_
         refine At.skip ?_
         refine At.s K26 K27 ?_
         refine At.rg 7 [0] ?_
         refine Seq.u 5 (.int .i64 1) ?_
         refine Seq.done ?_
         refine At.L [(1, (.pointer (some ⟨b1, 0, none⟩))), (3, (.int .i64 x3)), (4, (.pointer (some ⟨b4, 0, none⟩))), (5, (.int .i64 1))] fun J => ?_
         refine At.b 2 K28 ?_
         refine At.loop (x := K29) (by kernel_rfl) ?_
         refine At.s K30 K35 ?_
         refine At.s K31 K32 ?_
         exact At.v [(1, (.pointer (some ⟨b1, 0, none⟩))), (3, (.int .i64 x3)), (4, (.pointer (some ⟨b4, 0, none⟩))), (5, (.int .i64 1))] (h _ b1 b4)
 | false =>
  replace h := h.2 (of_decide_eq_false hb)
  refine At.cF 10 K11 K12 ?_
  refine At.x 0 [.code K46] ?_
  refine At.s K47 K48 ?_
  refine At.rg 12 [0] ?_
  refine Seq.u 2 (.int .i64 0) ?_
  refine Seq.done ?_
  refine At.L [(2, (.int .i64 0))] fun J => ?_
  exact At.rt [.tmp 2] [(.int .i64 0)] func29 ⟨_, rfl, rfl⟩ h
theorem pt31_of {R : Ending → Hp → Prop} {x1a : Int} {p1b : Option Addr} {n1b : Nat} {c1b : Nat} {x3 : Int} {x4a : Int} {x4b : Int} {p4c : Option Addr} {n4c : Nat} {c4c : Nat} {x5 : Int} {σ : Hp} (h : ((x5 : Int) < (n4c : Int) → ∃ (b74 o74 : Nat), p4c = some ⟨b74, o74, none⟩ ∧ ((0 : Int) ≤ x5 ∧ x5 < (n4c : Int)) ∧ ∃ x75 : Int, Hp.ld σ ⟨b74, (o74 + Int.toNat x5 * 1), none⟩ = some (.int .u32 x75) ∧ I64 (x5 - 1) ∧ ((0 : Int) ≤ (x5 - 1) ∧ (x5 - 1) < (n4c : Int)) ∧ ∃ x81 : Int, Hp.ld σ ⟨b74, (o74 + Int.toNat (x5 - 1) * 1), none⟩ = some (.int .u32 x81) ∧ ((x75 : Int) ≤ x81 → R (.returned (.int .i64 130)) σ) ∧ (¬ ((x75 : Int) ≤ x81) → I64 (x5 + 1) ∧ pt31 R x1a p1b n1b c1b x3 x4a x4b ((some ⟨b74, o74, none⟩)) n4c c4c ((x5 + 1)) σ)) ∧ (¬ ((x5 : Int) < (n4c : Int)) → I64 (x3 + 1) ∧ pt9 R x1a p1b n1b c1b ((x3 + 1)) σ)) : pt31 R x1a p1b n1b c1b x3 x4a x4b p4c n4c c4c x5 σ := by
 intro J b1 b4
 show At (gl R) _ _ _ _
 refine At.rg 8 [0, 1, 2, 3, 4] ?_
 refine Seq.u 64 (.int .i64 x5) ?_
 refine Seq.z 65 (.fieldAddr 55 (.tmp 4) 2) 0 (.pointer (some ⟨b4, 2, none⟩)) (Y.fieldAddr (fd := (fieldOf prog 55 2)) underlying55 (by kernel_rfl) sizeOf53 rfl rfl) ?_
 refine Seq.z 66 (.load 53 (.tmp 65)) 53 (.slice p4c n4c c4c) (Y.ldb isAgg53 rfl (List.mem_cons_self ..) rfl) ?_
 refine Seq.z 67 (.call { callee := .builtin .len, args := #[(.tmp 66)], argTypes := #[53] }) 3 (.int .i64 (n4c : Int)) (Y.lenS underlying53 rfl rfl) ?_
 refine Seq.u 68 (.bool (decide ((x5 : Int) < (n4c : Int)))) ?_
 refine Seq.done ?_
 refine At.L [(1, (.pointer (some ⟨b1, 0, none⟩))), (3, (.int .i64 x3)), (4, (.pointer (some ⟨b4, 0, none⟩))), (5, (.int .i64 x5)), (68, (.bool (decide ((x5 : Int) < (n4c : Int)))))] fun J => ?_
 cases hb : (decide ((x5 : Int) < (n4c : Int))) with
 | true =>
  replace h := h.1 (of_decide_eq_true hb)
  refine At.cT 68 K33 K34 ?_
  refine At.skip ?_
  refine At.s K36 K44 ?_
  refine At.b 3 K37 ?_
  refine At.s K38 K39 ?_
  refine At.draw (id := 10) (ops := cO K38) (n := 12) (q := none) (plan := [(0, true), (1, true), (2, true), (3, true), (4, true), (5, true), (6, true), (7, true), (8, true), (9, true), (10, true), (11, true)]) (tl := []) mixed (by kernel_rfl) (by kernel_rfl) ?_
  refine Head.z 71 (.fieldAddr 55 (.tmp 4) 2) 0 (.pointer (some ⟨b4, 2, none⟩)) (Y.fieldAddr (fd := (fieldOf prog 55 2)) underlying55 (by kernel_rfl) sizeOf53 rfl rfl) ?_
  refine Head.z 72 (.load 53 (.tmp 71)) 53 (.slice p4c n4c c4c) (Y.ldb isAgg53 rfl (List.mem_cons_self ..) rfl) ?_
  refine Head.u 73 (.int .i64 x5) ?_
  obtain ⟨b74, o74, hq, h⟩ := h
  subst hq
  obtain ⟨hi, h⟩ := h
  refine Head.z 74 (.indexAddr 53 (.tmp 72) (.tmp 73)) 0 (.pointer (some ⟨b74, (o74 + Int.toNat x5 * 1), none⟩)) (Y.idx underlying53 sizeOf26 rfl rfl hi rfl) ?_
  obtain ⟨x75, hl, h⟩ := h
  refine Head.z 75 (.load 26 (.tmp 74)) 26 (.int .u32 x75) (Y.ld isAgg26 rfl hl) ?_
  refine Head.z 76 (.fieldAddr 55 (.tmp 4) 2) 0 (.pointer (some ⟨b4, 2, none⟩)) (Y.fieldAddr (fd := (fieldOf prog 55 2)) underlying55 (by kernel_rfl) sizeOf53 rfl rfl) ?_
  refine Head.z 77 (.load 53 (.tmp 76)) 53 (.slice (some ⟨b74, o74, none⟩) n4c c4c) (Y.ldb isAgg53 rfl (List.mem_cons_self ..) rfl) ?_
  refine Head.u 78 (.int .i64 x5) ?_
  obtain ⟨hi, h⟩ := h
  refine Head.z 79 (.binOp .sub 3 (.tmp 78) (.const (.int .i64 1)) 3) 3 (.int .i64 (x5 - 1)) (Y.subI hi rfl rfl) ?_
  obtain ⟨hi, h⟩ := h
  refine Head.z 80 (.indexAddr 53 (.tmp 77) (.tmp 79)) 0 (.pointer (some ⟨b74, (o74 + Int.toNat (x5 - 1) * 1), none⟩)) (Y.idx underlying53 sizeOf26 rfl rfl hi rfl) ?_
  obtain ⟨x81, hl, h⟩ := h
  refine Head.z 81 (.load 26 (.tmp 80)) 26 (.int .u32 x81) (Y.ld isAgg26 rfl hl) ?_
  refine Head.u 82 (.bool (decide ((x75 : Int) ≤ x81))) ?_
  refine Head.done ?_
  refine Seq.done ?_
  refine At.L [(1, (.pointer (some ⟨b1, 0, none⟩))), (3, (.int .i64 x3)), (4, (.pointer (some ⟨b4, 0, none⟩))), (5, (.int .i64 x5)), (82, (.bool (decide ((x75 : Int) ≤ x81))))] fun J => ?_
  cases hb : (decide ((x75 : Int) ≤ x81)) with
  | true =>
   replace h := h.1 (of_decide_eq_true hb)
   refine At.cT 82 K40 K43 ?_
   refine At.s K41 K42 ?_
   refine At.rg 11 [0] ?_
   refine Seq.u 2 (.int .i64 130) ?_
   refine Seq.done ?_
   refine At.L [(2, (.int .i64 130))] fun J => ?_
   exact At.rt [.tmp 2] [(.int .i64 130)] func29 ⟨_, rfl, rfl⟩ h
  | false =>
   replace h := h.2 (of_decide_eq_false hb)
   refine At.cF 82 K40 K43 ?_
   refine At.skip ?_
   refine At.inBlock ?_
   refine At.rg 9 [0, 1, 2] ?_
   refine Seq.u 69 (.int .i64 x5) ?_
   obtain ⟨hi, h⟩ := h
   refine Seq.z 70 (.binOp .add 3 (.tmp 69) (.const (.int .i64 1)) 3) 3 (.int .i64 (x5 + 1)) (Y.addI hi rfl rfl) ?_
   refine Seq.u 5 (.int .i64 (x5 + 1)) ?_
   refine Seq.done ?_
   refine At.L [(1, (.pointer (some ⟨b1, 0, none⟩))), (3, (.int .i64 x3)), (4, (.pointer (some ⟨b4, 0, none⟩))), (5, (.int .i64 (x5 + 1)))] fun J => ?_
   refine At.inLoop ?_
   refine At.s K30 K35 ?_
   refine At.s K31 K32 ?_
   exact At.v [(1, (.pointer (some ⟨b1, 0, none⟩))), (3, (.int .i64 x3)), (4, (.pointer (some ⟨b4, 0, none⟩))), (5, (.int .i64 (x5 + 1)))] (h _ b1 b4)
 | false =>
  replace h := h.2 (of_decide_eq_false hb)
  refine At.cF 68 K33 K34 ?_
  refine At.x 2 [.inBlock 1, .code K45, .inLoop K7, .inBlock 0, .code K46] ?_
  refine At.inBlock ?_
  refine At.rg 3 [0, 1, 2] ?_
  refine Seq.u 11 (.int .i64 x3) ?_
  obtain ⟨hi, h⟩ := h
  refine Seq.z 12 (.binOp .add 3 (.tmp 11) (.const (.int .i64 1)) 3) 3 (.int .i64 (x3 + 1)) (Y.addI hi rfl rfl) ?_
  refine Seq.u 3 (.int .i64 (x3 + 1)) ?_
  refine Seq.done ?_
  refine At.L [(1, (.pointer (some ⟨b1, 0, none⟩))), (3, (.int .i64 (x3 + 1)))] fun J => ?_
  refine At.inLoop ?_
  refine At.s K8 K13 ?_
  refine At.s K9 K10 ?_
  refine At.sub (bx' := [(b1, .cells #[(.int .u64 x1a), (.slice p1b n1b c1b)] 25 (0, 0))]) (.cons _ (.cons_cons _ .slnil)) ?_
  exact At.v [(1, (.pointer (some ⟨b1, 0, none⟩))), (3, (.int .i64 (x3 + 1)))] (h _ b1)
end ref13_Check
end TwR
end
