/-
  Part 2 of the proof that the law KvKeepsUptoCardSaid of the given program answers true for every input of the given statement; the input reads behind the call as it did. (The texts: HA HA WA WB WC WD HD WE ShelfW WF HB.)
-/
import Derived.Test.YtchjlpgaanjafaaGreatDoorA1
import Derived.Shelf.Strings.Builder1
import Derived.Shelf.Strings.Builder2
import Derived.Shelf.Small.Bits
import Derived.Shelf.Small.Wraps
import Derived.Shelf.Strings.BuilderF
import Derived.Shelf.Strconv.Atoi
import Derived.Shelf.Strconv.Itoa0
import Derived.Shelf.Strconv.Itoa1
import Derived.Shelf.LaysM
import Derived.Shelf.Strconv.Itoa2
import Derived.Shelf.Strconv.Itoa3
import Derived.Shelf.Sort.Plain
import Derived.Shelf.Strings.Prefix
import Derived.Shelf.Bits.Mul64
import Derived.Shelf.Strings.Repeat
import Derived.Shelf.Slices.In.SortNone
import Derived.Test.YtchjlpgaanjafaaGreatDoorProg
set_option linter.all false
section
/- written by gen.py: program points and what leads to them -/
set_option linter.unusedVariables false
set_option maxRecDepth 100000
namespace TwW
open Go Tw Go.Proofs.Tryz
noncomputable section
namespace disk_Disk_Sync
abbrev fid : Nat := 46
noncomputable def K0 := f46.body.getD .skip
def K1 := cl K0
def K2 := cr K0
def K3 := cl K2
def K4 := cr K2
abbrev gl (R : Ending → Hp → Prop) : Gl := Gl.fn prog 46 9 R
theorem start {R : Ending → Hp → Prop} {q0 : Option Addr} {s1 : ByteArray} {σ : Hp} (h : ∀ b2 : Nat, σ b2 = none → ∀ b3 : Nat, (Hp.set σ b2 (.cells #[(.pointer q0)] 24 (0, 0))) b3 = none → ∃ q5 : Option Addr, Hp.ld (Hp.set (Hp.set σ b2 (.cells #[(.pointer q0)] 24 (0, 0))) b3 (.cells #[(.string s1)] 9 (0, 0))) ⟨b2, 0, none⟩ = some (.pointer q5) ∧ Spec prog 52 #[(.pointer q5), (.func (.func 70) #[] #[(.pointer (some ⟨b2, 0, none⟩)), (.pointer (some ⟨b3, 0, none⟩))]), (.func (.func 71) #[] #[(.pointer (some ⟨b2, 0, none⟩)), (.pointer (some ⟨b3, 0, none⟩))]), (.func (.func 72) #[] #[])] (Hp.set (Hp.set σ b2 (.cells #[(.pointer q0)] 24 (0, 0))) b3 (.cells #[(.string s1)] 9 (0, 0))) (Cont R (fun v σ1 => ∃ x8 : Int, v = (.int .i64 x8) ∧ R (.returned (.int .i64 x8)) σ1))) : Spec prog 46 #[(.pointer q0), (.string s1)] σ R := by
 refine Spec.of_at (fn := f46) (c := K0) func46 (by kernel_rfl) (Nat.le_of_ble_eq_true (by kernel_rfl)) (fun e he => ?_)
 refine At.ofL (l := [(0, (.pointer q0)), (1, (.string s1))]) ⟨he 0, he 1, trivial⟩ (fun J => ?_)
 show At (gl R) _ _ _ _
 refine At.s K1 K2 ?_
 refine At.rg 0 [0, 1, 2] ?_
 refine Seq.o ?_
 refine OpTo.boxO (T := 24) (d := (some 2)) (ty := 0) (x := (.tmp 0)) (gd := none) (cs := #[(.pointer q0)]) (by kernel_rfl) rfl rfl rfl (fun b2 hn => ?_)
 replace h := h b2 hn
 refine Seq.o ?_
 refine OpTo.boxO (T := 9) (d := (some 3)) (ty := 0) (x := (.tmp 1)) (gd := none) (cs := #[(.string s1)]) (by kernel_rfl) rfl rfl rfl (fun b3 hn => ?_)
 replace h := h b3 hn
 refine Seq.u 4 (.int .i64 0) ?_
 refine Seq.done ?_
 refine At.s K3 K4 ?_
 refine At.rg 1 [0, 1, 2, 3, 4] ?_
 obtain ⟨q5, hl, h⟩ := h
 refine Seq.z 5 (.load 24 (.tmp 2)) 24 (.pointer q5) (Y.ld isAgg24 rfl hl) ?_
 refine Seq.z 6 (.makeFunc (.func 70) #[] #[(.tmp 2), (.tmp 3)]) 33 (.func (.func 70) #[] #[(.pointer (some ⟨b2, 0, none⟩)), (.pointer (some ⟨b3, 0, none⟩))]) (Y.makeFunc rfl rfl) ?_
 refine Seq.z 7 (.makeFunc (.func 71) #[] #[(.tmp 2), (.tmp 3)]) 1 (.func (.func 71) #[] #[(.pointer (some ⟨b2, 0, none⟩)), (.pointer (some ⟨b3, 0, none⟩))]) (Y.makeFunc rfl rfl) ?_
 refine Seq.o ?_
 refine OpTo.cl (some 8) call52 (h.cont fun v σ1 h2 => ?_); replace h := h2; clear h2
 obtain ⟨x8, rfl, h⟩ := h
 refine Seq.u 4 (.int .i64 x8) ?_
 refine Seq.done ?_
 exact At.rt [.tmp 4] [(.int .i64 x8)] func46 ⟨_, rfl, rfl⟩ h
end disk_Disk_Sync
namespace disk_Disk_Append_1
abbrev fid : Nat := 51
noncomputable def K0 := f51.body.getD .skip
def K1 := cl K0
def K2 := cr K0
def K3 := cl K2
def K4 := cl K3
def K5 := cr K3
def K6 := cl K5
def K7 := cl K6
def K8 := cr K6
def K9 := cr K5
def K10 := cr K2
abbrev gl (R : Ending → Hp → Prop) : Gl := Gl.fn prog 51 29 R
def pt10 (R : Ending → Hp → Prop) (b2 : Nat) (q3 : Option Addr) (σ : Hp) : Prop := ∀ (J : Env), At (gl R) [.code K10] (upds J [(2, (.pointer (some ⟨b2, 0, none⟩))), (3, (.pointer q3))]) [] σ
theorem start {R : Ending → Hp → Prop} {b0 b1 b2 : Nat} {σ : Hp} (h : ∃ q4 : Option Addr, Hp.ld σ ⟨b0, 0, none⟩ = some (.pointer q4) ∧ ∃ (b5 o5 : Nat), q4 = some ⟨b5, o5, none⟩ ∧ ∃ m7 : Option Nat, Hp.ld σ ⟨b5, o5, none⟩ = some (.map m7) ∧ ∃ s8 : ByteArray, Hp.ld σ ⟨b1, 0, none⟩ = some (.string s8) ∧ Eff prog (Instr.lookup 67 (.map m7) (.string s8) false) σ (fun v σ1 => ∃ q9 : Option Addr, v = (.pointer q9) ∧ ((Option.isNone q9) = true → ∀ b13 : Nat, σ1 b13 = none → ∃ q14 : Option Addr, Hp.ld (Hp.set σ1 b13 (.cells #[(.slice none 0 0), (.int .i64 0)] 86 (0, 0))) ⟨b0, 0, none⟩ = some (.pointer q14) ∧ ∃ (b15 o15 : Nat), q14 = some ⟨b15, o15, none⟩ ∧ ∃ m17 : Option Nat, Hp.ld (Hp.set σ1 b13 (.cells #[(.slice none 0 0), (.int .i64 0)] 86 (0, 0))) ⟨b15, o15, none⟩ = some (.map m17) ∧ ∃ s18 : ByteArray, Hp.ld (Hp.set σ1 b13 (.cells #[(.slice none 0 0), (.int .i64 0)] 86 (0, 0))) ⟨b1, 0, none⟩ = some (.string s18) ∧ Eff prog (Instr.mapUpdate 67 (.map m17) (.string s18) (.pointer (some ⟨b13, 0, none⟩))) (Hp.set σ1 b13 (.cells #[(.slice none 0 0), (.int .i64 0)] 86 (0, 0))) (fun _ σ1_2 => pt10 R b2 ((some ⟨b13, 0, none⟩)) σ1_2)) ∧ ((Option.isNone q9) = false → pt10 R b2 q9 σ1))) : Spec prog 51 #[(.pointer (some ⟨b0, 0, none⟩)), (.pointer (some ⟨b1, 0, none⟩)), (.pointer (some ⟨b2, 0, none⟩))] σ R := by
 refine Spec.of_at (fn := f51) (c := K0) func51 (by kernel_rfl) (Nat.le_of_ble_eq_true (by kernel_rfl)) (fun e he => ?_)
 refine At.ofL (l := [(0, (.pointer (some ⟨b0, 0, none⟩))), (1, (.pointer (some ⟨b1, 0, none⟩))), (2, (.pointer (some ⟨b2, 0, none⟩)))]) ⟨he 0, he 1, he 2, trivial⟩ (fun J => ?_)
 show At (gl R) _ _ _ _
 refine At.s K1 K2 ?_
 refine At.draw (id := 0) (ops := cO K1) (n := 7) (q := (some [])) (plan := [(0, true), (1, true), (2, true), (3, true), (4, true), (5, false), (6, true)]) (tl := []) mixed (by kernel_rfl) (by kernel_rfl) ?_
 obtain ⟨q4, hl, h⟩ := h
 refine Head.yl b0 [[5, 3, 2, 1]] rfl (by kernel_rfl) (d := (some 4)) (op := (.load 24 (.tmp 0))) (ty := 24) (v := (.pointer q4)) (by kernel_rfl) rfl (Y.ld isAgg24 rfl (lim_ld hl)) ?_
 obtain ⟨b5, o5, hq, h⟩ := h
 subst hq
 refine Head.z 5 (.nilCheck (.tmp 4)) 0 (.pointer (some ⟨b5, o5, none⟩)) (Y.nilCheck rfl) ?_
 refine Head.z 6 (.fieldAddr 69 (.tmp 5) 0) 0 (.pointer (some ⟨b5, o5, none⟩)) (Y.fieldAddr (fd := (fieldOf prog 69 0)) underlying69 (by kernel_rfl) sizeOf67 rfl rfl) ?_
 obtain ⟨m7, hl, h⟩ := h
 refine Head.yl b5 [[5]] rfl (by kernel_rfl) (d := (some 7)) (op := (.load 67 (.tmp 6))) (ty := 67) (v := (.map m7)) (by kernel_rfl) rfl (Y.ld isAgg67 rfl (lim_ld hl)) ?_
 obtain ⟨s8, hl, h⟩ := h
 refine Head.yl b1 [[5]] rfl (by kernel_rfl) (d := (some 8)) (op := (.load 9 (.tmp 1))) (ty := 9) (v := (.string s8)) (by kernel_rfl) rfl (Y.ld isAgg9 rfl (lim_ld hl)) ?_
 refine Head.o (q' := (some [])) rfl ?_
 refine OpTo.eff (d := (some 9)) (op := (.lookup 67 (.tmp 7) (.tmp 8) false)) (ty := 84) (gd := none) (by kernel_rfl) rfl rfl (Instr.lookup 67 (.map m7) (.string s8) false) (fun o ho ht => by simp only [execOp, ho]; rfl) (h.mono (fun v σ1 h2 => ?_)); replace h := h2; clear h2
 obtain ⟨q9, rfl, h⟩ := h
 refine ⟨⟨fun _ h => h, kp_q (L := []) Kp.nil⟩, ?_⟩
 refine Head.u 3 (.pointer q9) ?_
 refine Head.done ?_
 refine Seq.done ?_
 refine At.s K3 K10 ?_
 refine At.s K4 K5 ?_
 refine At.rg 1 [0, 1] ?_
 refine Seq.u 10 (.pointer q9) ?_
 refine Seq.z 11 (.binOp .eql 84 (.tmp 10) (.const (.pointer none)) 84) 4 (.bool (Option.isNone q9)) (Y.eqlNil underlying84 rfl rfl) ?_
 refine Seq.done ?_
 cases hb : (Option.isNone q9) with
 | true =>
  replace h := h.1 hb
  refine At.cT 11 K6 K9 ?_
  refine At.s K7 K8 ?_
  refine At.rg 2 [0, 1, 2] ?_
  refine Seq.z 12 (.build 86 #[]) 86 (.agg #[(.slice none 0 0), (.int .i64 0)]) (Y.build (vs := []) rfl (by kernel_rfl)) ?_
  refine Seq.o ?_
  refine OpTo.boxO (T := 86) (d := (some 13)) (ty := 84) (x := (.tmp 12)) (gd := none) (cs := #[(.slice none 0 0), (.int .i64 0)]) (by kernel_rfl) rfl rfl rfl (fun b13 hn => ?_)
  replace h := h b13 hn
  refine Seq.u 3 (.pointer (some ⟨b13, 0, none⟩)) ?_
  refine Seq.done ?_
  refine At.draw (id := 3) (ops := cO K8) (n := 6) (q := none) (plan := [(0, true), (1, true), (2, true), (3, true), (4, true), (5, true)]) (tl := [6]) mixed (by kernel_rfl) (by kernel_rfl) ?_
  obtain ⟨q14, hl, h⟩ := h
  refine Head.z 14 (.load 24 (.tmp 0)) 24 (.pointer q14) (Y.ld isAgg24 rfl hl) ?_
  obtain ⟨b15, o15, hq, h⟩ := h
  subst hq
  refine Head.z 15 (.nilCheck (.tmp 14)) 0 (.pointer (some ⟨b15, o15, none⟩)) (Y.nilCheck rfl) ?_
  refine Head.z 16 (.fieldAddr 69 (.tmp 15) 0) 0 (.pointer (some ⟨b15, o15, none⟩)) (Y.fieldAddr (fd := (fieldOf prog 69 0)) underlying69 (by kernel_rfl) sizeOf67 rfl rfl) ?_
  obtain ⟨m17, hl, h⟩ := h
  refine Head.z 17 (.load 67 (.tmp 16)) 67 (.map m17) (Y.ld isAgg67 rfl hl) ?_
  obtain ⟨s18, hl, h⟩ := h
  refine Head.z 18 (.load 9 (.tmp 1)) 9 (.string s18) (Y.ld isAgg9 rfl hl) ?_
  refine Head.u 19 (.pointer (some ⟨b13, 0, none⟩)) ?_
  refine Head.done ?_
  refine Seq.o ?_
  refine OpTo.effU (d := none) (op := (.mapUpdate 67 (.tmp 17) (.tmp 18) (.tmp 19))) (ty := 0) (gd := none) (by kernel_rfl) rfl rfl (Instr.mapUpdate 67 (.map m17) (.string s18) (.pointer (some ⟨b13, 0, none⟩))) (fun o ho ht => by simp only [execOp, ho]; rfl) (h.mono (fun _ σ1_2 h2 => ?_)); replace h := h2; clear h2
  refine Seq.done ?_
  exact At.v [(2, (.pointer (some ⟨b2, 0, none⟩))), (3, (.pointer (some ⟨b13, 0, none⟩)))] (h _)
 | false =>
  replace h := h.2 hb
  refine At.cF 11 K6 K9 ?_
  refine At.skip ?_
  exact At.v [(2, (.pointer (some ⟨b2, 0, none⟩))), (3, (.pointer q9))] (h _)
theorem pt10_of {R : Ending → Hp → Prop} {b2 : Nat} {q3 : Option Addr} {σ : Hp} (h : ∃ (b22 o22 : Nat), q3 = some ⟨b22, o22, none⟩ ∧ ∃ p24 : Option Addr, ∃ n24 : Nat, ∃ c24 : Nat, Hp.ld σ ⟨b22, o22, none⟩ = some (.slice p24 n24 c24) ∧ ∃ p25 : Option Addr, ∃ n25 : Nat, ∃ c25 : Nat, Hp.ld σ ⟨b2, 0, none⟩ = some (.slice p25 n25 c25) ∧ Eff prog (Builtin.append_ #[23, 23] 23 #[(.slice p24 n24 c24), (.slice p25 n25 c25)]) σ (fun v σ1 => ∃ p26 : Option Addr, ∃ n26 : Nat, ∃ c26 : Nat, v = (.slice p26 n26 c26) ∧ Eff prog (Instr.storeAt 23 (.pointer (some ⟨b22, o22, none⟩)) (.slice p26 n26 c26)) σ1 (fun _ σ1_2 => R (.returned (.tuple #[])) σ1_2))) : pt10 R b2 q3 σ := by
 intro J
 show At (gl R) _ _ _ _
 refine At.draw (id := 4) (ops := cO K10) (n := 9) (q := (some [])) (plan := [(0, true), (1, true), (2, true), (3, true), (4, true), (5, true), (6, false), (7, true), (8, true)]) (tl := [9]) mixed (by kernel_rfl) (by kernel_rfl) ?_
 refine Head.u 20 (.pointer q3) ?_
 refine Head.u 21 (.pointer q3) ?_
 obtain ⟨b22, o22, hq, h⟩ := h
 subst hq
 refine Head.z 22 (.nilCheck (.tmp 21)) 0 (.pointer (some ⟨b22, o22, none⟩)) (Y.nilCheck rfl) ?_
 refine Head.z 23 (.fieldAddr 86 (.tmp 22) 0) 0 (.pointer (some ⟨b22, o22, none⟩)) (Y.fieldAddr (fd := (fieldOf prog 86 0)) underlying86 (by kernel_rfl) sizeOf23 rfl rfl) ?_
 obtain ⟨p24, n24, c24, hl, h⟩ := h
 refine Head.yl b22 [[6]] rfl (by kernel_rfl) (d := (some 24)) (op := (.load 23 (.tmp 23))) (ty := 23) (v := (.slice p24 n24 c24)) (by kernel_rfl) rfl (Y.ld isAgg23 rfl (lim_ld hl)) ?_
 obtain ⟨p25, n25, c25, hl, h⟩ := h
 refine Head.yl b2 [[6]] rfl (by kernel_rfl) (d := (some 25)) (op := (.load 23 (.tmp 2))) (ty := 23) (v := (.slice p25 n25 c25)) (by kernel_rfl) rfl (Y.ld isAgg23 rfl (lim_ld hl)) ?_
 refine Head.o (q' := (some [])) rfl ?_
 refine OpTo.eff (d := (some 26)) (op := (.call { callee := .builtin .append, args := #[(.tmp 24), (.tmp 25)], argTypes := #[23, 23] })) (ty := 23) (gd := none) (by kernel_rfl) rfl rfl (Builtin.append_ #[23, 23] 23 #[(.slice p24 n24 c24), (.slice p25 n25 c25)]) (fun o ho ht => exec_b_append rfl rfl o ho ht) (h.mono (fun v σ1 h2 => ?_)); replace h := h2; clear h2
 obtain ⟨p26, n26, c26, rfl, h⟩ := h
 refine ⟨⟨fun _ h => h, kp_q (L := []) Kp.nil⟩, ?_⟩
 refine Head.z 27 (.nilCheck (.tmp 20)) 0 (.pointer (some ⟨b22, o22, none⟩)) (Y.nilCheck rfl) ?_
 refine Head.z 28 (.fieldAddr 86 (.tmp 27) 0) 0 (.pointer (some ⟨b22, o22, none⟩)) (Y.fieldAddr (fd := (fieldOf prog 86 0)) underlying86 (by kernel_rfl) sizeOf23 rfl rfl) ?_
 refine Head.done ?_
 refine Seq.o ?_
 refine OpTo.store (T := 23) (ty := 0) (x := (.tmp 28)) (y := (.tmp 26)) (p := (.pointer (some ⟨b22, o22, none⟩))) (v := (.slice p26 n26 c26)) (gd := none) (by kernel_rfl) rfl rfl rfl (h.mono (fun _ σ1_2 h2 => ?_)); replace h := h2; clear h2
 refine Seq.done ?_
 exact At.doneV (rs := []) (vs := []) func51 (by kernel_rfl) rfl h
end disk_Disk_Append_1
namespace disk_Disk_write
abbrev fid : Nat := 52
noncomputable def K0 := f52.body.getD .skip
def K1 := cl K0
def K2 := cr K0
def K3 := cl K2
def K4 := cl K3
def K5 := cr K3
def K6 := cl K5
def K7 := cl K6
def K8 := cr K6
def K9 := cr K5
def K10 := cr K2
def K11 := cl K10
def K12 := cl K11
def K13 := cr K11
def K14 := cl K13
def K15 := cr K13
def K16 := cl K15
def K17 := cl K16
def K18 := cr K16
def K19 := cr K15
def K20 := cr K10
def K21 := cl K20
def K22 := cr K20
def K23 := cl K22
def K24 := cl K23
def K25 := cr K23
def K26 := cl K25
def K27 := cl K26
def K28 := cr K26
def K29 := cl K28
def K30 := cr K28
def K31 := cl K30
def K32 := cr K30
def K33 := cr K25
def K34 := cr K22
def K35 := cl K34
def K36 := cr K34
def K37 := cl K36
def K38 := cr K36
def K39 := cl K38
def K40 := cr K38
abbrev gl (R : Ending → Hp → Prop) : Gl := Gl.fn prog 52 55 R
theorem start {R : Ending → Hp → Prop} {q0 : Option Addr} {v1 v2 v3 : Value} {σ : Hp} (h : ∃ (b11 o11 : Nat), q0 = some ⟨b11, o11, none⟩ ∧ ∃ t13 : Bool, Hp.ld σ ⟨b11, (o11 + 1), none⟩ = some (.bool t13) ∧ (t13 = false → R (.returned (.int .i64 60)) σ) ∧ (t13 = true → ∃ (f16 : Nat) (fst16 cap16 : Array Value), v1 = .func (.func f16) fst16 cap16 ∧ Enters prog f16 ∧ Spec prog f16 (fst16 ++ #[] ++ cap16) σ (Cont R (fun v σ1 => ∃ x16 : Int, v = (.int .i64 x16) ∧ ((x16 : Int) ≠ 0 → R (.returned (.int .i64 x16)) σ1) ∧ (¬ ((x16 : Int) ≠ 0) → ∃ x23 : Int, Hp.ld σ1 ⟨b11, (o11 + 5), none⟩ = some (.int .u64 x23) ∧ ∀ x24 : Int, x24 = IntKind.u64.wrap (x23 + 1) → Eff prog (Instr.storeAt 56 (.pointer (some ⟨b11, (o11 + 5), none⟩)) (.int .u64 x24)) σ1 (fun _ σ1_2 => ∃ t30 : Bool, Hp.ld σ1_2 ⟨b11, (o11 + 2), none⟩ = some (.bool t30) ∧ (t30 = true → ∃ x35 : Int, Hp.ld σ1_2 ⟨b11, (o11 + 3), none⟩ = some (.int .i64 x35) ∧ ((x35 : Int) = 0 → ∃ (f39 : Nat) (fst39 cap39 : Array Value), v3 = .func (.func f39) fst39 cap39 ∧ Enters prog f39 ∧ Spec prog f39 (fst39 ++ #[] ++ cap39) σ1_2 (Cont R (fun v_2 σ1_3 => v_2 = (.tuple #[]) ∧ ∃ x44 : Int, Hp.ld σ1_3 ⟨b11, (o11 + 4), none⟩ = some (.int .i64 x44) ∧ Spec prog 57 #[(.pointer (some ⟨b11, o11, none⟩)), (.int .i64 x44)] σ1_3 (Cont R (fun v_3 σ1_4 => v_3 = (.tuple #[]) ∧ R (.returned (.int .i64 60)) σ1_4))))) ∧ (¬ ((x35 : Int) = 0) → ∃ x49 : Int, Hp.ld σ1_2 ⟨b11, (o11 + 3), none⟩ = some (.int .i64 x49) ∧ ∀ x50 : Int, x50 = IntKind.i64.wrap (x49 - 1) → Eff prog (Instr.storeAt 3 (.pointer (some ⟨b11, (o11 + 3), none⟩)) (.int .i64 x50)) σ1_2 (fun _ σ1_3 => ∃ (f54 : Nat) (fst54 cap54 : Array Value), v2 = .func (.func f54) fst54 cap54 ∧ Enters prog f54 ∧ Spec prog f54 (fst54 ++ #[] ++ cap54) σ1_3 (Cont R (fun v_2 σ1_4 => v_2 = (.tuple #[]) ∧ R (.returned (.int .i64 0)) σ1_4))))) ∧ (t30 = false → ∃ x49 : Int, Hp.ld σ1_2 ⟨b11, (o11 + 3), none⟩ = some (.int .i64 x49) ∧ ∀ x50 : Int, x50 = IntKind.i64.wrap (x49 - 1) → Eff prog (Instr.storeAt 3 (.pointer (some ⟨b11, (o11 + 3), none⟩)) (.int .i64 x50)) σ1_2 (fun _ σ1_3 => ∃ (f54 : Nat) (fst54 cap54 : Array Value), v2 = .func (.func f54) fst54 cap54 ∧ Enters prog f54 ∧ Spec prog f54 (fst54 ++ #[] ++ cap54) σ1_3 (Cont R (fun v_2 σ1_4 => v_2 = (.tuple #[]) ∧ R (.returned (.int .i64 0)) σ1_4)))))))))) : Spec prog 52 #[(.pointer q0), v1, v2, v3] σ R := by
 refine Spec.of_at (fn := f52) (c := K0) func52 (by kernel_rfl) (Nat.le_of_ble_eq_true (by kernel_rfl)) (fun e he => ?_)
 refine At.ofL (l := [(0, (.pointer q0)), (1, v1), (2, v2), (3, v3)]) ⟨he 0, he 1, he 2, he 3, trivial⟩ (fun J => ?_)
 show At (gl R) _ _ _ _
 refine At.s K1 K2 ?_
 refine At.rg 0 [0] ?_
 refine Seq.u 8 (.int .i64 0) ?_
 refine Seq.done ?_
 refine At.s K3 K10 ?_
 refine At.s K4 K5 ?_
 refine At.rg 1 [0, 1, 2, 3, 4] ?_
 refine Seq.u 10 (.pointer q0) ?_
 obtain ⟨b11, o11, hq, h⟩ := h
 subst hq
 refine Seq.z 11 (.nilCheck (.tmp 10)) 0 (.pointer (some ⟨b11, o11, none⟩)) (Y.nilCheck rfl) ?_
 refine Seq.z 12 (.fieldAddr 69 (.tmp 11) 1) 0 (.pointer (some ⟨b11, (o11 + 1), none⟩)) (Y.fieldAddr (fd := (fieldOf prog 69 1)) underlying69 (by kernel_rfl) sizeOf4 rfl rfl) ?_
 obtain ⟨t13, hl, h⟩ := h
 refine Seq.z 13 (.load 4 (.tmp 12)) 4 (.bool t13) (Y.ld isAgg4 rfl hl) ?_
 refine Seq.u 14 (.bool (!t13)) ?_
 refine Seq.done ?_
 cases hb : (!t13) with
 | true =>
  replace h := h.1 (Tw.nt hb)
  refine At.cT 14 K6 K9 ?_
  refine At.s K7 K8 ?_
  refine At.rg 2 [0] ?_
  refine Seq.u 8 (.int .i64 60) ?_
  refine Seq.done ?_
  exact At.rt [.tmp 8] [(.int .i64 60)] func52 ⟨_, rfl, rfl⟩ h
 | false =>
  replace h := h.2 (Tw.nf hb)
  refine At.cF 14 K6 K9 ?_
  refine At.skip ?_
  refine At.s K11 K20 ?_
  refine At.s K12 K13 ?_
  refine At.rg 3 [0, 1, 2] ?_
  refine Seq.u 15 v1 ?_
  obtain ⟨f16, fst16, cap16, hfv, hen, h⟩ := h
  refine Seq.o ?_
  refine OpTo.callE (g := (gl R)) (f := f16) (fst := fst16) (cap := cap16) (vs := #[]) (u := v1) (d := (some 16)) (x := (.tmp 15)) (xs := #[]) (ts := #[]) (ty := 27) (gd := none) (by kernel_rfl) rfl rfl rfl rfl hfv hen (h.cont (fun v σ1 h2 => ?_)); replace h := h2; clear h2
  obtain ⟨x16, rfl, h⟩ := h
  refine Seq.u 9 (.int .i64 x16) ?_
  refine Seq.done ?_
  refine At.s K14 K15 ?_
  refine At.rg 4 [0, 1] ?_
  refine Seq.us [(17, .int .i64 x16), (18, .bool (decide ((x16 : Int) ≠ 0)))] ?_
  refine Seq.done ?_
  cases hb : (decide ((x16 : Int) ≠ 0)) with
  | true =>
   replace h := h.1 (of_decide_eq_true hb)
   refine At.cT 18 K16 K19 ?_
   refine At.s K17 K18 ?_
   refine At.rg 5 [0, 1] ?_
   refine Seq.us [(19, .int .i64 x16), (8, .int .i64 x16)] ?_
   refine Seq.done ?_
   exact At.rt [.tmp 8] [(.int .i64 x16)] func52 ⟨_, rfl, rfl⟩ h
  | false =>
   replace h := h.2 (of_decide_eq_false hb)
   refine At.cF 18 K16 K19 ?_
   refine At.skip ?_
   refine At.s K21 K22 ?_
   refine At.rg 6 [0, 1, 2, 3, 4, 5, 6, 7] ?_
   refine Seq.u 20 (.pointer (some ⟨b11, o11, none⟩)) ?_
   refine Seq.z 21 (.nilCheck (.tmp 20)) 0 (.pointer (some ⟨b11, o11, none⟩)) (Y.nilCheck rfl) ?_
   refine Seq.z 22 (.fieldAddr 69 (.tmp 21) 5) 0 (.pointer (some ⟨b11, (o11 + 5), none⟩)) (Y.fieldAddr (fd := (fieldOf prog 69 5)) underlying69 (by kernel_rfl) sizeOf56 rfl rfl) ?_
   obtain ⟨x23, hl, h⟩ := h
   refine Seq.z 23 (.load 56 (.tmp 22)) 56 (.int .u64 x23) (Y.ld isAgg56 rfl hl) ?_
   obtain ⟨x24, hwx24⟩ : ∃ y, y = IntKind.u64.wrap (x23 + 1) := ⟨_, rfl⟩
   replace h := h x24 hwx24
   refine Seq.y (d := (some 24)) (op := (.binOp .add 56 (.tmp 23) (.const (.int .u64 1)) 56)) (ty := 56) (v := (.int .u64 x24)) (by kernel_rfl) rfl (hwx24 ▸ Y.add rfl rfl) ?_
   refine Seq.z 25 (.nilCheck (.tmp 20)) 0 (.pointer (some ⟨b11, o11, none⟩)) (Y.nilCheck rfl) ?_
   refine Seq.z 26 (.fieldAddr 69 (.tmp 25) 5) 0 (.pointer (some ⟨b11, (o11 + 5), none⟩)) (Y.fieldAddr (fd := (fieldOf prog 69 5)) underlying69 (by kernel_rfl) sizeOf56 rfl rfl) ?_
   refine Seq.o ?_
   refine OpTo.store (T := 56) (ty := 0) (x := (.tmp 26)) (y := (.tmp 24)) (p := (.pointer (some ⟨b11, (o11 + 5), none⟩))) (v := (.int .u64 x24)) (gd := none) (by kernel_rfl) rfl rfl rfl (h.mono (fun _ σ1_2 h2 => ?_)); replace h := h2; clear h2
   refine Seq.done ?_
   refine At.s K23 K34 ?_
   refine At.s K24 K25 ?_
   refine At.rg 7 [0, 1, 2, 3, 4, 5, 6, 7, 8, 9, 10] ?_
   refine Seq.u 27 (.pointer (some ⟨b11, o11, none⟩)) ?_
   refine Seq.z 28 (.nilCheck (.tmp 27)) 0 (.pointer (some ⟨b11, o11, none⟩)) (Y.nilCheck rfl) ?_
   refine Seq.z 29 (.fieldAddr 69 (.tmp 28) 2) 0 (.pointer (some ⟨b11, (o11 + 2), none⟩)) (Y.fieldAddr (fd := (fieldOf prog 69 2)) underlying69 (by kernel_rfl) sizeOf4 rfl rfl) ?_
   obtain ⟨t30, hl, h⟩ := h
   refine Seq.z 30 (.load 4 (.tmp 29)) 4 (.bool t30) (Y.ld isAgg4 rfl hl) ?_
   refine Seq.u 31 (.bool t30) ?_
   cases hb : t30 with
   | true =>
    replace h := h.1 hb
    refine Seq.u 32 (.pointer (some ⟨b11, o11, none⟩)) ?_
    refine Seq.zg 33 (.nilCheck (.tmp 32)) 0 (4, true) (.pointer (some ⟨b11, o11, none⟩)) (Y.nilCheck rfl) ?_
    refine Seq.zg 34 (.fieldAddr 69 (.tmp 33) 3) 0 (4, true) (.pointer (some ⟨b11, (o11 + 3), none⟩)) (Y.fieldAddr (fd := (fieldOf prog 69 3)) underlying69 (by kernel_rfl) sizeOf3 rfl rfl) ?_
    obtain ⟨x35, hl, h⟩ := h
    refine Seq.zg 35 (.load 3 (.tmp 34)) 3 (4, true) (.int .i64 x35) (Y.ld isAgg3 rfl hl) ?_
    refine Seq.us [(36, .bool (decide ((x35 : Int) = 0))), (37, .bool (decide ((x35 : Int) = 0)))] ?_
    refine Seq.done ?_
    cases hb : (decide ((x35 : Int) = 0)) with
    | true =>
     replace h := h.1 (of_decide_eq_true hb)
     refine At.cT 37 K26 K33 ?_
     refine At.s K27 K28 ?_
     refine At.rg 8 [0, 1] ?_
     refine Seq.u 38 v3 ?_
     obtain ⟨f39, fst39, cap39, hfv, hen, h⟩ := h
     refine Seq.o ?_
     refine OpTo.callE (g := (gl R)) (f := f39) (fst := fst39) (cap := cap39) (vs := #[]) (u := v3) (d := (some 39)) (x := (.tmp 38)) (xs := #[]) (ts := #[]) (ty := 0) (gd := none) (by kernel_rfl) rfl rfl rfl rfl hfv hen (h.cont (fun v_2 σ1_3 h2 => ?_)); replace h := h2; clear h2
     obtain ⟨rfl, h⟩ := h
     refine Seq.done ?_
     refine At.s K29 K30 ?_
     refine At.rg 9 [0, 1, 2, 3, 4, 5] ?_
     refine Seq.us [(40, .pointer (some ⟨b11, o11, none⟩)), (41, .pointer (some ⟨b11, o11, none⟩))] ?_
     refine Seq.z 42 (.nilCheck (.tmp 41)) 0 (.pointer (some ⟨b11, o11, none⟩)) (Y.nilCheck rfl) ?_
     refine Seq.z 43 (.fieldAddr 69 (.tmp 42) 4) 0 (.pointer (some ⟨b11, (o11 + 4), none⟩)) (Y.fieldAddr (fd := (fieldOf prog 69 4)) underlying69 (by kernel_rfl) sizeOf3 rfl rfl) ?_
     obtain ⟨x44, hl, h⟩ := h
     refine Seq.z 44 (.load 3 (.tmp 43)) 3 (.int .i64 x44) (Y.ld isAgg3 rfl hl) ?_
     refine Seq.o ?_
     refine OpTo.cl (some 45) call57 (h.cont fun v_3 σ1_4 h2 => ?_); replace h := h2; clear h2
     obtain ⟨rfl, h⟩ := h
     refine Seq.done ?_
     refine At.L [] fun J => ?_
     refine At.s K31 K32 ?_
     refine At.rg 10 [0] ?_
     refine Seq.u 8 (.int .i64 60) ?_
     refine Seq.done ?_
     exact At.rt [.tmp 8] [(.int .i64 60)] func52 ⟨_, rfl, rfl⟩ h
    | false =>
     replace h := h.2 (of_decide_eq_false hb)
     refine At.cF 37 K26 K33 ?_
     refine At.skip ?_
     refine At.s K35 K36 ?_
     refine At.rg 11 [0, 1, 2, 3, 4, 5, 6, 7] ?_
     refine Seq.u 46 (.pointer (some ⟨b11, o11, none⟩)) ?_
     refine Seq.z 47 (.nilCheck (.tmp 46)) 0 (.pointer (some ⟨b11, o11, none⟩)) (Y.nilCheck rfl) ?_
     refine Seq.z 48 (.fieldAddr 69 (.tmp 47) 3) 0 (.pointer (some ⟨b11, (o11 + 3), none⟩)) (Y.fieldAddr (fd := (fieldOf prog 69 3)) underlying69 (by kernel_rfl) sizeOf3 rfl rfl) ?_
     obtain ⟨x49, hl, h⟩ := h
     refine Seq.z 49 (.load 3 (.tmp 48)) 3 (.int .i64 x49) (Y.ld isAgg3 rfl hl) ?_
     obtain ⟨x50, hwx50⟩ : ∃ y, y = IntKind.i64.wrap (x49 - 1) := ⟨_, rfl⟩
     replace h := h x50 hwx50
     refine Seq.y (d := (some 50)) (op := (.binOp .sub 3 (.tmp 49) (.const (.int .i64 1)) 3)) (ty := 3) (v := (.int .i64 x50)) (by kernel_rfl) rfl (hwx50 ▸ Y.sub rfl rfl) ?_
     refine Seq.z 51 (.nilCheck (.tmp 46)) 0 (.pointer (some ⟨b11, o11, none⟩)) (Y.nilCheck rfl) ?_
     refine Seq.z 52 (.fieldAddr 69 (.tmp 51) 3) 0 (.pointer (some ⟨b11, (o11 + 3), none⟩)) (Y.fieldAddr (fd := (fieldOf prog 69 3)) underlying69 (by kernel_rfl) sizeOf3 rfl rfl) ?_
     refine Seq.o ?_
     refine OpTo.store (T := 3) (ty := 0) (x := (.tmp 52)) (y := (.tmp 50)) (p := (.pointer (some ⟨b11, (o11 + 3), none⟩))) (v := (.int .i64 x50)) (gd := none) (by kernel_rfl) rfl rfl rfl (h.mono (fun _ σ1_3 h2 => ?_)); replace h := h2; clear h2
     refine Seq.done ?_
     refine At.s K37 K38 ?_
     refine At.rg 12 [0, 1] ?_
     refine Seq.u 53 v2 ?_
     obtain ⟨f54, fst54, cap54, hfv, hen, h⟩ := h
     refine Seq.o ?_
     refine OpTo.callE (g := (gl R)) (f := f54) (fst := fst54) (cap := cap54) (vs := #[]) (u := v2) (d := (some 54)) (x := (.tmp 53)) (xs := #[]) (ts := #[]) (ty := 0) (gd := none) (by kernel_rfl) rfl rfl rfl rfl hfv hen (h.cont (fun v_2 σ1_4 h2 => ?_)); replace h := h2; clear h2
     obtain ⟨rfl, h⟩ := h
     refine Seq.done ?_
     refine At.s K39 K40 ?_
     refine At.rg 13 [0] ?_
     refine Seq.u 8 (.int .i64 0) ?_
     refine Seq.done ?_
     exact At.rt [.tmp 8] [(.int .i64 0)] func52 ⟨_, rfl, rfl⟩ h
   | false =>
    replace h := h.2 hb
    refine Seq.n 32 ?_
    refine Seq.n 33 ?_
    refine Seq.n 34 ?_
    refine Seq.n 35 ?_
    refine Seq.n 36 ?_
    refine Seq.u 37 (.bool false) ?_
    refine Seq.done ?_
    refine At.cF 37 K26 K33 ?_
    refine At.skip ?_
    refine At.s K35 K36 ?_
    refine At.rg 11 [0, 1, 2, 3, 4, 5, 6, 7] ?_
    refine Seq.u 46 (.pointer (some ⟨b11, o11, none⟩)) ?_
    refine Seq.z 47 (.nilCheck (.tmp 46)) 0 (.pointer (some ⟨b11, o11, none⟩)) (Y.nilCheck rfl) ?_
    refine Seq.z 48 (.fieldAddr 69 (.tmp 47) 3) 0 (.pointer (some ⟨b11, (o11 + 3), none⟩)) (Y.fieldAddr (fd := (fieldOf prog 69 3)) underlying69 (by kernel_rfl) sizeOf3 rfl rfl) ?_
    obtain ⟨x49, hl, h⟩ := h
    refine Seq.z 49 (.load 3 (.tmp 48)) 3 (.int .i64 x49) (Y.ld isAgg3 rfl hl) ?_
    obtain ⟨x50, hwx50⟩ : ∃ y, y = IntKind.i64.wrap (x49 - 1) := ⟨_, rfl⟩
    replace h := h x50 hwx50
    refine Seq.y (d := (some 50)) (op := (.binOp .sub 3 (.tmp 49) (.const (.int .i64 1)) 3)) (ty := 3) (v := (.int .i64 x50)) (by kernel_rfl) rfl (hwx50 ▸ Y.sub rfl rfl) ?_
    refine Seq.z 51 (.nilCheck (.tmp 46)) 0 (.pointer (some ⟨b11, o11, none⟩)) (Y.nilCheck rfl) ?_
    refine Seq.z 52 (.fieldAddr 69 (.tmp 51) 3) 0 (.pointer (some ⟨b11, (o11 + 3), none⟩)) (Y.fieldAddr (fd := (fieldOf prog 69 3)) underlying69 (by kernel_rfl) sizeOf3 rfl rfl) ?_
    refine Seq.o ?_
    refine OpTo.store (T := 3) (ty := 0) (x := (.tmp 52)) (y := (.tmp 50)) (p := (.pointer (some ⟨b11, (o11 + 3), none⟩))) (v := (.int .i64 x50)) (gd := none) (by kernel_rfl) rfl rfl rfl (h.mono (fun _ σ1_3 h2 => ?_)); replace h := h2; clear h2
    refine Seq.done ?_
    refine At.s K37 K38 ?_
    refine At.rg 12 [0, 1] ?_
    refine Seq.u 53 v2 ?_
    obtain ⟨f54, fst54, cap54, hfv, hen, h⟩ := h
    refine Seq.o ?_
    refine OpTo.callE (g := (gl R)) (f := f54) (fst := fst54) (cap := cap54) (vs := #[]) (u := v2) (d := (some 54)) (x := (.tmp 53)) (xs := #[]) (ts := #[]) (ty := 0) (gd := none) (by kernel_rfl) rfl rfl rfl rfl hfv hen (h.cont (fun v_2 σ1_4 h2 => ?_)); replace h := h2; clear h2
    obtain ⟨rfl, h⟩ := h
    refine Seq.done ?_
    refine At.s K39 K40 ?_
    refine At.rg 13 [0] ?_
    refine Seq.u 8 (.int .i64 0) ?_
    refine Seq.done ?_
    exact At.rt [.tmp 8] [(.int .i64 0)] func52 ⟨_, rfl, rfl⟩ h
end disk_Disk_write
namespace disk_Disk_Append_2
abbrev fid : Nat := 53
noncomputable def K0 := f53.body.getD .skip
def K1 := cl K0
def K2 := cr K0
def K3 := cl K2
def K4 := cl K3
def K5 := cr K3
def K6 := cl K5
def K7 := cl K6
def K8 := cr K6
def K9 := cr K5
def K10 := cr K2
def K11 := cl K10
def K12 := cr K10
def K13 := cl K12
def K14 := cl K13
def K15 := cr K13
def K16 := cl K15
def K17 := cl K16
def K18 := cr K16
def K19 := cr K15
def K20 := cr K12
def K21 := cl K20
def K22 := cr K20
abbrev gl (R : Ending → Hp → Prop) : Gl := Gl.fn prog 53 44 R
theorem start {R : Ending → Hp → Prop} {b0 b1 b2 : Nat} {σ : Hp} (h : ∃ s5 : ByteArray, Hp.ld σ ⟨b0, 0, none⟩ = some (.string s5) ∧ Spec prog 36 #[(.string s5)] σ (Cont R (fun v σ1 => ∃ t6 : Bool, v = (.bool t6) ∧ (t6 = false → R (.returned (.int .i64 61)) σ1) ∧ (t6 = true → ∃ q8 : Option Addr, Hp.ld σ1 ⟨b1, 0, none⟩ = some (.pointer q8) ∧ ∃ (b9 o9 : Nat), q8 = some ⟨b9, o9, none⟩ ∧ ∃ m11 : Option Nat, Hp.ld σ1 ⟨b9, o9, none⟩ = some (.map m11) ∧ ∃ s12 : ByteArray, Hp.ld σ1 ⟨b0, 0, none⟩ = some (.string s12) ∧ Eff prog (Instr.lookup 67 (.map m11) (.string s12) false) σ1 (fun v_2 σ1_2 => ∃ q13 : Option Addr, v_2 = (.pointer q13) ∧ ((Option.isNone q13) = true → ∃ q17 : Option Addr, Hp.ld σ1_2 ⟨b1, 0, none⟩ = some (.pointer q17) ∧ ∃ (b18 o18 : Nat), q17 = some ⟨b18, o18, none⟩ ∧ ∃ m20 : Option Nat, Hp.ld σ1_2 ⟨b18, o18, none⟩ = some (.map m20) ∧ ∃ x21 : Int, YF prog (Builtin.len_ #[67] 3 #[(.map m20)]) σ1_2 (.int .i64 x21) ∧ ((1048576 : Int) ≤ x21 → R (.returned (.int .i64 63)) σ1_2) ∧ (¬ ((1048576 : Int) ≤ x21) → ∃ p24 : Option Addr, ∃ n24 : Nat, ∃ c24 : Nat, Hp.ld σ1_2 ⟨b2, 0, none⟩ = some (.slice p24 n24 c24) ∧ ((4194304 : Int) < (n24 : Int) → R (.returned (.int .i64 63)) σ1_2) ∧ (¬ ((4194304 : Int) < (n24 : Int)) → ((Option.isSome q13) = true → ∃ p33 : Option Addr, ∃ n33 : Nat, ∃ c33 : Nat, Hp.ld σ1_2 ⟨b2, 0, none⟩ = some (.slice p33 n33 c33) ∧ ∃ (b36 o36 : Nat), q13 = some ⟨b36, o36, none⟩ ∧ ∃ p38 : Option Addr, ∃ n38 : Nat, ∃ c38 : Nat, Hp.ld σ1_2 ⟨b36, o36, none⟩ = some (.slice p38 n38 c38) ∧ I64 (4194304 - (n38 : Int)) ∧ (((4194304 - (n38 : Int)) : Int) < (n33 : Int) → R (.returned (.int .i64 63)) σ1_2) ∧ (¬ (((4194304 - (n38 : Int)) : Int) < (n33 : Int)) → R (.returned (.int .i64 0)) σ1_2)) ∧ ((Option.isSome q13) = false → R (.returned (.int .i64 0)) σ1_2)))) ∧ ((Option.isNone q13) = false → ((Option.isSome q13) = true → ∃ p33 : Option Addr, ∃ n33 : Nat, ∃ c33 : Nat, Hp.ld σ1_2 ⟨b2, 0, none⟩ = some (.slice p33 n33 c33) ∧ ∃ (b36 o36 : Nat), q13 = some ⟨b36, o36, none⟩ ∧ ∃ p38 : Option Addr, ∃ n38 : Nat, ∃ c38 : Nat, Hp.ld σ1_2 ⟨b36, o36, none⟩ = some (.slice p38 n38 c38) ∧ I64 (4194304 - (n38 : Int)) ∧ (((4194304 - (n38 : Int)) : Int) < (n33 : Int) → R (.returned (.int .i64 63)) σ1_2) ∧ (¬ (((4194304 - (n38 : Int)) : Int) < (n33 : Int)) → R (.returned (.int .i64 0)) σ1_2)) ∧ ((Option.isSome q13) = false → R (.returned (.int .i64 0)) σ1_2))))))) : Spec prog 53 #[(.pointer (some ⟨b0, 0, none⟩)), (.pointer (some ⟨b1, 0, none⟩)), (.pointer (some ⟨b2, 0, none⟩))] σ R := by
 refine Spec.of_at (fn := f53) (c := K0) func53 (by kernel_rfl) (Nat.le_of_ble_eq_true (by kernel_rfl)) (fun e he => ?_)
 refine At.ofL (l := [(0, (.pointer (some ⟨b0, 0, none⟩))), (1, (.pointer (some ⟨b1, 0, none⟩))), (2, (.pointer (some ⟨b2, 0, none⟩)))]) ⟨he 0, he 1, he 2, trivial⟩ (fun J => ?_)
 show At (gl R) _ _ _ _
 refine At.s K1 K2 ?_
 refine At.rg 0 [0] ?_
 refine Seq.u 3 (.int .i64 0) ?_
 refine Seq.done ?_
 refine At.s K3 K10 ?_
 refine At.s K4 K5 ?_
 refine At.rg 1 [0, 1, 2] ?_
 obtain ⟨s5, hl, h⟩ := h
 refine Seq.z 5 (.load 9 (.tmp 0)) 9 (.string s5) (Y.ld isAgg9 rfl hl) ?_
 refine Seq.o ?_
 refine OpTo.cl (some 6) call36 (h.cont fun v σ1 h2 => ?_); replace h := h2; clear h2
 obtain ⟨t6, rfl, h⟩ := h
 refine Seq.u 7 (.bool (!t6)) ?_
 refine Seq.done ?_
 cases hb : (!t6) with
 | true =>
  replace h := h.1 (Tw.nt hb)
  refine At.cT 7 K6 K9 ?_
  refine At.s K7 K8 ?_
  refine At.rg 2 [0] ?_
  refine Seq.u 3 (.int .i64 61) ?_
  refine Seq.done ?_
  exact At.rt [.tmp 3] [(.int .i64 61)] func53 ⟨_, rfl, rfl⟩ h
 | false =>
  replace h := h.2 (Tw.nf hb)
  refine At.cF 7 K6 K9 ?_
  refine At.skip ?_
  refine At.s K11 K12 ?_
  refine At.draw (id := 3) (ops := cO K11) (n := 7) (q := (some [])) (plan := [(0, true), (1, true), (2, true), (3, true), (4, true), (5, false), (6, true)]) (tl := []) mixed (by kernel_rfl) (by kernel_rfl) ?_
  obtain ⟨q8, hl, h⟩ := h
  refine Head.yl b1 [[5, 3, 2, 1]] rfl (by kernel_rfl) (d := (some 8)) (op := (.load 24 (.tmp 1))) (ty := 24) (v := (.pointer q8)) (by kernel_rfl) rfl (Y.ld isAgg24 rfl (lim_ld hl)) ?_
  obtain ⟨b9, o9, hq, h⟩ := h
  subst hq
  refine Head.z 9 (.nilCheck (.tmp 8)) 0 (.pointer (some ⟨b9, o9, none⟩)) (Y.nilCheck rfl) ?_
  refine Head.z 10 (.fieldAddr 69 (.tmp 9) 0) 0 (.pointer (some ⟨b9, o9, none⟩)) (Y.fieldAddr (fd := (fieldOf prog 69 0)) underlying69 (by kernel_rfl) sizeOf67 rfl rfl) ?_
  obtain ⟨m11, hl, h⟩ := h
  refine Head.yl b9 [[5]] rfl (by kernel_rfl) (d := (some 11)) (op := (.load 67 (.tmp 10))) (ty := 67) (v := (.map m11)) (by kernel_rfl) rfl (Y.ld isAgg67 rfl (lim_ld hl)) ?_
  obtain ⟨s12, hl, h⟩ := h
  refine Head.yl b0 [[5]] rfl (by kernel_rfl) (d := (some 12)) (op := (.load 9 (.tmp 0))) (ty := 9) (v := (.string s12)) (by kernel_rfl) rfl (Y.ld isAgg9 rfl (lim_ld hl)) ?_
  refine Head.o (q' := (some [])) rfl ?_
  refine OpTo.eff (d := (some 13)) (op := (.lookup 67 (.tmp 11) (.tmp 12) false)) (ty := 84) (gd := none) (by kernel_rfl) rfl rfl (Instr.lookup 67 (.map m11) (.string s12) false) (fun o ho ht => by simp only [execOp, ho]; rfl) (h.mono (fun v_2 σ1_2 h2 => ?_)); replace h := h2; clear h2
  obtain ⟨q13, rfl, h⟩ := h
  refine ⟨⟨fun _ h => h, kp_q (L := []) Kp.nil⟩, ?_⟩
  refine Head.u 4 (.pointer q13) ?_
  refine Head.done ?_
  refine Seq.done ?_
  refine At.s K13 K20 ?_
  refine At.s K14 K15 ?_
  refine At.draw (id := 4) (ops := cO K14) (n := 30) (q := none) (plan := [(0, true), (1, true), (2, true), (3, true), (4, true), (5, true), (6, true), (7, true), (8, true), (9, true), (10, true), (11, true), (12, true), (13, true), (14, true), (15, true), (16, true), (17, true), (18, true), (19, true), (20, true), (21, true), (22, true), (23, true), (24, true), (25, true), (26, true), (27, true), (28, true), (29, true)]) (tl := []) mixed (by kernel_rfl) (by kernel_rfl) ?_
  refine Head.u 14 (.pointer q13) ?_
  refine Head.z 15 (.binOp .eql 84 (.tmp 14) (.const (.pointer none)) 84) 4 (.bool (Option.isNone q13)) (Y.eqlNil underlying84 rfl rfl) ?_
  refine Head.u 16 (.bool (Option.isNone q13)) ?_
  cases hb : (Option.isNone q13) with
  | true =>
   replace h := h.1 hb
   obtain ⟨q17, hl, h⟩ := h
   refine Head.zg 17 (.load 24 (.tmp 1)) 24 (2, true) (.pointer q17) (Y.ld isAgg24 rfl hl) ?_
   obtain ⟨b18, o18, hq, h⟩ := h
   subst hq
   refine Head.zg 18 (.nilCheck (.tmp 17)) 0 (2, true) (.pointer (some ⟨b18, o18, none⟩)) (Y.nilCheck rfl) ?_
   refine Head.zg 19 (.fieldAddr 69 (.tmp 18) 0) 0 (2, true) (.pointer (some ⟨b18, o18, none⟩)) (Y.fieldAddr (fd := (fieldOf prog 69 0)) underlying69 (by kernel_rfl) sizeOf67 rfl rfl) ?_
   obtain ⟨m20, hl, h⟩ := h
   refine Head.zg 20 (.load 67 (.tmp 19)) 67 (2, true) (.map m20) (Y.ld isAgg67 rfl hl) ?_
   obtain ⟨x21, hy, h⟩ := h
   refine Head.yg (d := (some 21)) (op := (.call { callee := .builtin .len, args := #[(.tmp 20)], argTypes := #[67] })) (ty := 3) (gd := (some (2, true))) (v := (.int .i64 x21)) (by kernel_rfl) rfl rfl (Yd.any (m := Builtin.len_ #[67] 3 #[(.map m20)]) (fun o ho ht => exec_b_len rfl o ho ht) hy) ?_
   refine Head.u 22 (.bool (decide ((1048576 : Int) ≤ x21))) ?_
   refine Head.u 23 (.bool (decide ((1048576 : Int) ≤ x21))) ?_
   cases hb : (decide ((1048576 : Int) ≤ x21)) with
   | true =>
    replace h := h.1 (of_decide_eq_true hb)
    refine Head.n 24 ?_
    refine Head.n 25 ?_
    refine Head.n 26 ?_
    refine Head.u 27 (.bool true) ?_
    refine Head.u 28 (.bool true) ?_
    refine Head.u 29 (.bool true) ?_
    refine Head.n 30 ?_
    refine Head.n 31 ?_
    refine Head.n 32 ?_
    refine Head.n 33 ?_
    refine Head.n 34 ?_
    refine Head.n 35 ?_
    refine Head.n 36 ?_
    refine Head.n 37 ?_
    refine Head.n 38 ?_
    refine Head.n 39 ?_
    refine Head.n 40 ?_
    refine Head.n 41 ?_
    refine Head.n 42 ?_
    refine Head.u 43 (.bool true) ?_
    refine Head.done ?_
    refine Seq.done ?_
    refine At.L [(43, (.bool true))] fun J => ?_
    refine At.cT 43 K16 K19 ?_
    refine At.s K17 K18 ?_
    refine At.rg 5 [0] ?_
    refine Seq.u 3 (.int .i64 63) ?_
    refine Seq.done ?_
    exact At.rt [.tmp 3] [(.int .i64 63)] func53 ⟨_, rfl, rfl⟩ h
   | false =>
    replace h := h.2 (of_decide_eq_false hb)
    obtain ⟨p24, n24, c24, hl, h⟩ := h
    refine Head.zg 24 (.load 23 (.tmp 2)) 23 (9, false) (.slice p24 n24 c24) (Y.ld isAgg23 rfl hl) ?_
    refine Head.zg 25 (.call { callee := .builtin .len, args := #[(.tmp 24)], argTypes := #[23] }) 3 (9, false) (.int .i64 (n24 : Int)) (Y.lenS underlying23 rfl rfl) ?_
    refine Head.u 26 (.bool (decide ((4194304 : Int) < (n24 : Int)))) ?_
    refine Head.u 27 (.bool (decide ((4194304 : Int) < (n24 : Int)))) ?_
    refine Head.u 28 (.bool (decide ((4194304 : Int) < (n24 : Int)))) ?_
    refine Head.u 29 (.bool (decide ((4194304 : Int) < (n24 : Int)))) ?_
    cases hb : (decide ((4194304 : Int) < (n24 : Int))) with
    | true =>
     replace h := h.1 (of_decide_eq_true hb)
     refine Head.n 30 ?_
     refine Head.n 31 ?_
     refine Head.n 32 ?_
     refine Head.n 33 ?_
     refine Head.n 34 ?_
     refine Head.n 35 ?_
     refine Head.n 36 ?_
     refine Head.n 37 ?_
     refine Head.n 38 ?_
     refine Head.n 39 ?_
     refine Head.n 40 ?_
     refine Head.n 41 ?_
     refine Head.n 42 ?_
     refine Head.u 43 (.bool true) ?_
     refine Head.done ?_
     refine Seq.done ?_
     refine At.cT 43 K16 K19 ?_
     refine At.s K17 K18 ?_
     refine At.rg 5 [0] ?_
     refine Seq.u 3 (.int .i64 63) ?_
     refine Seq.done ?_
     exact At.rt [.tmp 3] [(.int .i64 63)] func53 ⟨_, rfl, rfl⟩ h
    | false =>
     replace h := h.2 (of_decide_eq_false hb)
     refine Head.u 30 (.pointer q13) ?_
     refine Head.zg 31 (.binOp .neq 84 (.tmp 30) (.const (.pointer none)) 84) 4 (15, false) (.bool (Option.isSome q13)) (Y.neqNil underlying84 rfl rfl) ?_
     refine Head.u 32 (.bool (Option.isSome q13)) ?_
     cases hb : (Option.isSome q13) with
     | true =>
      replace h := h.1 hb
      obtain ⟨p33, n33, c33, hl, h⟩ := h
      refine Head.zg 33 (.load 23 (.tmp 2)) 23 (18, true) (.slice p33 n33 c33) (Y.ld isAgg23 rfl hl) ?_
      refine Head.zg 34 (.call { callee := .builtin .len, args := #[(.tmp 33)], argTypes := #[23] }) 3 (18, true) (.int .i64 (n33 : Int)) (Y.lenS underlying23 rfl rfl) ?_
      refine Head.u 35 (.pointer q13) ?_
      obtain ⟨b36, o36, hq, h⟩ := h
      subst hq
      refine Head.zg 36 (.nilCheck (.tmp 35)) 0 (18, true) (.pointer (some ⟨b36, o36, none⟩)) (Y.nilCheck rfl) ?_
      refine Head.zg 37 (.fieldAddr 86 (.tmp 36) 0) 0 (18, true) (.pointer (some ⟨b36, o36, none⟩)) (Y.fieldAddr (fd := (fieldOf prog 86 0)) underlying86 (by kernel_rfl) sizeOf23 rfl rfl) ?_
      obtain ⟨p38, n38, c38, hl, h⟩ := h
      refine Head.zg 38 (.load 23 (.tmp 37)) 23 (18, true) (.slice p38 n38 c38) (Y.ld isAgg23 rfl hl) ?_
      refine Head.zg 39 (.call { callee := .builtin .len, args := #[(.tmp 38)], argTypes := #[23] }) 3 (18, true) (.int .i64 (n38 : Int)) (Y.lenS underlying23 rfl rfl) ?_
      obtain ⟨hi, h⟩ := h
      refine Head.zg 40 (.binOp .sub 3 (.const (.int .i64 4194304)) (.tmp 39) 3) 3 (18, true) (.int .i64 (4194304 - (n38 : Int))) (Y.subI hi rfl rfl) ?_
      refine Head.u 41 (.bool (decide (((4194304 - (n38 : Int)) : Int) < (n33 : Int)))) ?_
      refine Head.u 42 (.bool (decide (((4194304 - (n38 : Int)) : Int) < (n33 : Int)))) ?_
      refine Head.u 43 (.bool (decide (((4194304 - (n38 : Int)) : Int) < (n33 : Int)))) ?_
      refine Head.done ?_
      refine Seq.done ?_
      cases hb : (decide (((4194304 - (n38 : Int)) : Int) < (n33 : Int))) with
      | true =>
       replace h := h.1 (of_decide_eq_true hb)
       refine At.cT 43 K16 K19 ?_
       refine At.s K17 K18 ?_
       refine At.rg 5 [0] ?_
       refine Seq.u 3 (.int .i64 63) ?_
       refine Seq.done ?_
       exact At.rt [.tmp 3] [(.int .i64 63)] func53 ⟨_, rfl, rfl⟩ h
      | false =>
       replace h := h.2 (of_decide_eq_false hb)
       refine At.cF 43 K16 K19 ?_
       refine At.skip ?_
       refine At.s K21 K22 ?_
       refine At.rg 6 [0] ?_
       refine Seq.u 3 (.int .i64 0) ?_
       refine Seq.done ?_
       refine At.L [(3, (.int .i64 0))] fun J => ?_
       exact At.rt [.tmp 3] [(.int .i64 0)] func53 ⟨_, rfl, rfl⟩ h
     | false =>
      replace h := h.2 hb
      refine Head.n 33 ?_
      refine Head.n 34 ?_
      refine Head.n 35 ?_
      refine Head.n 36 ?_
      refine Head.n 37 ?_
      refine Head.n 38 ?_
      refine Head.n 39 ?_
      refine Head.n 40 ?_
      refine Head.n 41 ?_
      refine Head.u 42 (.bool false) ?_
      refine Head.u 43 (.bool false) ?_
      refine Head.done ?_
      refine Seq.done ?_
      refine At.cF 43 K16 K19 ?_
      refine At.skip ?_
      refine At.s K21 K22 ?_
      refine At.rg 6 [0] ?_
      refine Seq.u 3 (.int .i64 0) ?_
      refine Seq.done ?_
      exact At.rt [.tmp 3] [(.int .i64 0)] func53 ⟨_, rfl, rfl⟩ h
  | false =>
   replace h := h.2 hb
   refine Head.n 17 ?_
   refine Head.n 18 ?_
   refine Head.n 19 ?_
   refine Head.n 20 ?_
   refine Head.n 21 ?_
   refine Head.n 22 ?_
   refine Head.n 23 ?_
   refine Head.n 24 ?_
   refine Head.n 25 ?_
   refine Head.n 26 ?_
   refine Head.n 27 ?_
   refine Head.u 28 (.bool false) ?_
   refine Head.u 29 (.bool false) ?_
   refine Head.u 30 (.pointer q13) ?_
   refine Head.zg 31 (.binOp .neq 84 (.tmp 30) (.const (.pointer none)) 84) 4 (15, false) (.bool (Option.isSome q13)) (Y.neqNil underlying84 rfl rfl) ?_
   refine Head.u 32 (.bool (Option.isSome q13)) ?_
   cases hb : (Option.isSome q13) with
   | true =>
    replace h := h.1 hb
    obtain ⟨p33, n33, c33, hl, h⟩ := h
    refine Head.zg 33 (.load 23 (.tmp 2)) 23 (18, true) (.slice p33 n33 c33) (Y.ld isAgg23 rfl hl) ?_
    refine Head.zg 34 (.call { callee := .builtin .len, args := #[(.tmp 33)], argTypes := #[23] }) 3 (18, true) (.int .i64 (n33 : Int)) (Y.lenS underlying23 rfl rfl) ?_
    refine Head.u 35 (.pointer q13) ?_
    obtain ⟨b36, o36, hq, h⟩ := h
    subst hq
    refine Head.zg 36 (.nilCheck (.tmp 35)) 0 (18, true) (.pointer (some ⟨b36, o36, none⟩)) (Y.nilCheck rfl) ?_
    refine Head.zg 37 (.fieldAddr 86 (.tmp 36) 0) 0 (18, true) (.pointer (some ⟨b36, o36, none⟩)) (Y.fieldAddr (fd := (fieldOf prog 86 0)) underlying86 (by kernel_rfl) sizeOf23 rfl rfl) ?_
    obtain ⟨p38, n38, c38, hl, h⟩ := h
    refine Head.zg 38 (.load 23 (.tmp 37)) 23 (18, true) (.slice p38 n38 c38) (Y.ld isAgg23 rfl hl) ?_
    refine Head.zg 39 (.call { callee := .builtin .len, args := #[(.tmp 38)], argTypes := #[23] }) 3 (18, true) (.int .i64 (n38 : Int)) (Y.lenS underlying23 rfl rfl) ?_
    obtain ⟨hi, h⟩ := h
    refine Head.zg 40 (.binOp .sub 3 (.const (.int .i64 4194304)) (.tmp 39) 3) 3 (18, true) (.int .i64 (4194304 - (n38 : Int))) (Y.subI hi rfl rfl) ?_
    refine Head.u 41 (.bool (decide (((4194304 - (n38 : Int)) : Int) < (n33 : Int)))) ?_
    refine Head.u 42 (.bool (decide (((4194304 - (n38 : Int)) : Int) < (n33 : Int)))) ?_
    refine Head.u 43 (.bool (decide (((4194304 - (n38 : Int)) : Int) < (n33 : Int)))) ?_
    refine Head.done ?_
    refine Seq.done ?_
    cases hb : (decide (((4194304 - (n38 : Int)) : Int) < (n33 : Int))) with
    | true =>
     replace h := h.1 (of_decide_eq_true hb)
     refine At.cT 43 K16 K19 ?_
     refine At.s K17 K18 ?_
     refine At.rg 5 [0] ?_
     refine Seq.u 3 (.int .i64 63) ?_
     refine Seq.done ?_
     refine At.L [(3, (.int .i64 63))] fun J => ?_
     exact At.rt [.tmp 3] [(.int .i64 63)] func53 ⟨_, rfl, rfl⟩ h
    | false =>
     replace h := h.2 (of_decide_eq_false hb)
     refine At.cF 43 K16 K19 ?_
     refine At.skip ?_
     refine At.s K21 K22 ?_
     refine At.rg 6 [0] ?_
     refine Seq.u 3 (.int .i64 0) ?_
     refine Seq.done ?_
     exact At.rt [.tmp 3] [(.int .i64 0)] func53 ⟨_, rfl, rfl⟩ h
   | false =>
    replace h := h.2 hb
    refine Head.n 33 ?_
    refine Head.n 34 ?_
    refine Head.n 35 ?_
    refine Head.n 36 ?_
    refine Head.n 37 ?_
    refine Head.n 38 ?_
    refine Head.n 39 ?_
    refine Head.n 40 ?_
    refine Head.n 41 ?_
    refine Head.u 42 (.bool false) ?_
    refine Head.u 43 (.bool false) ?_
    refine Head.done ?_
    refine Seq.done ?_
    refine At.cF 43 K16 K19 ?_
    refine At.skip ?_
    refine At.s K21 K22 ?_
    refine At.rg 6 [0] ?_
    refine Seq.u 3 (.int .i64 0) ?_
    refine Seq.done ?_
    exact At.rt [.tmp 3] [(.int .i64 0)] func53 ⟨_, rfl, rfl⟩ h
end disk_Disk_Append_2
namespace disk_Disk_Delete
abbrev fid : Nat := 56
noncomputable def K0 := f56.body.getD .skip
def K1 := cl K0
def K2 := cr K0
def K3 := cl K2
def K4 := cr K2
abbrev gl (R : Ending → Hp → Prop) : Gl := Gl.fn prog 56 9 R
theorem start {R : Ending → Hp → Prop} {q0 : Option Addr} {s1 : ByteArray} {σ : Hp} (h : ∀ b2 : Nat, σ b2 = none → ∀ b3 : Nat, (Hp.set σ b2 (.cells #[(.pointer q0)] 24 (0, 0))) b3 = none → ∃ q5 : Option Addr, Hp.ld (Hp.set (Hp.set σ b2 (.cells #[(.pointer q0)] 24 (0, 0))) b3 (.cells #[(.string s1)] 9 (0, 0))) ⟨b2, 0, none⟩ = some (.pointer q5) ∧ Spec prog 52 #[(.pointer q5), (.func (.func 79) #[] #[(.pointer (some ⟨b2, 0, none⟩)), (.pointer (some ⟨b3, 0, none⟩))]), (.func (.func 80) #[] #[(.pointer (some ⟨b2, 0, none⟩)), (.pointer (some ⟨b3, 0, none⟩))]), (.func (.func 72) #[] #[])] (Hp.set (Hp.set σ b2 (.cells #[(.pointer q0)] 24 (0, 0))) b3 (.cells #[(.string s1)] 9 (0, 0))) (Cont R (fun v σ1 => ∃ x8 : Int, v = (.int .i64 x8) ∧ R (.returned (.int .i64 x8)) σ1))) : Spec prog 56 #[(.pointer q0), (.string s1)] σ R := by
 refine Spec.of_at (fn := f56) (c := K0) func56 (by kernel_rfl) (Nat.le_of_ble_eq_true (by kernel_rfl)) (fun e he => ?_)
 refine At.ofL (l := [(0, (.pointer q0)), (1, (.string s1))]) ⟨he 0, he 1, trivial⟩ (fun J => ?_)
 show At (gl R) _ _ _ _
 refine At.s K1 K2 ?_
 refine At.rg 0 [0, 1, 2] ?_
 refine Seq.o ?_
 refine OpTo.boxO (T := 24) (d := (some 2)) (ty := 0) (x := (.tmp 0)) (gd := none) (cs := #[(.pointer q0)]) (by kernel_rfl) rfl rfl rfl (fun b2 hn => ?_)
 replace h := h b2 hn
 refine Seq.o ?_
 refine OpTo.boxO (T := 9) (d := (some 3)) (ty := 0) (x := (.tmp 1)) (gd := none) (cs := #[(.string s1)]) (by kernel_rfl) rfl rfl rfl (fun b3 hn => ?_)
 replace h := h b3 hn
 refine Seq.u 4 (.int .i64 0) ?_
 refine Seq.done ?_
 refine At.s K3 K4 ?_
 refine At.rg 1 [0, 1, 2, 3, 4] ?_
 obtain ⟨q5, hl, h⟩ := h
 refine Seq.z 5 (.load 24 (.tmp 2)) 24 (.pointer q5) (Y.ld isAgg24 rfl hl) ?_
 refine Seq.z 6 (.makeFunc (.func 79) #[] #[(.tmp 2), (.tmp 3)]) 33 (.func (.func 79) #[] #[(.pointer (some ⟨b2, 0, none⟩)), (.pointer (some ⟨b3, 0, none⟩))]) (Y.makeFunc rfl rfl) ?_
 refine Seq.z 7 (.makeFunc (.func 80) #[] #[(.tmp 2), (.tmp 3)]) 1 (.func (.func 80) #[] #[(.pointer (some ⟨b2, 0, none⟩)), (.pointer (some ⟨b3, 0, none⟩))]) (Y.makeFunc rfl rfl) ?_
 refine Seq.o ?_
 refine OpTo.cl (some 8) call52 (h.cont fun v σ1 h2 => ?_); replace h := h2; clear h2
 obtain ⟨x8, rfl, h⟩ := h
 refine Seq.u 4 (.int .i64 x8) ?_
 refine Seq.done ?_
 exact At.rt [.tmp 4] [(.int .i64 x8)] func56 ⟨_, rfl, rfl⟩ h
end disk_Disk_Delete

end
end TwW
end
section
/- written by gen.py: program points and what leads to them -/
set_option linter.unusedVariables false
set_option maxRecDepth 100000
namespace TwW
open Go Tw Go.Proofs.Tryz
noncomputable section
namespace disk_Disk_cut
abbrev fid : Nat := 57
noncomputable def K0 := f57.body.getD .skip
def K1 := cl K0
def K2 := cl K1
def K3 := cr K1
def K4 := cl K3
def K5 := cl K4
def K6 := cl K5
def K7 := cr K5
def K8 := cl K7
def K9 := cl K8
def K10 := cr K8
def K11 := cr K7
def K12 := cl K11
def K13 := cl K12
def K14 := cr K12
def K15 := cl K14
def K16 := cr K14
def K17 := cl K16
def K18 := cl K17
def K19 := cr K17
def K20 := cl K19
def K21 := cr K19
def K22 := cr K16
def K23 := cl K22
def K24 := cr K22
def K25 := cr K0
abbrev gl (R : Ending → Hp → Prop) : Gl := Gl.fn prog 57 59 R
def pt6 (R : Ending → Hp → Prop) (q0 : Option Addr) (x1 : Int) (v11 : Value) (σ : Hp) : Prop := ∀ (J : Env), At (gl R) [.code K6, .code K7, .inLoop K5, .inBlock 0, .code K25] (upds J [(0, (.pointer q0)), (1, (.int .i64 x1)), (11, v11)]) [] σ
def pt23 (R : Ending → Hp → Prop) (q0 : Option Addr) (x1 : Int) (q5 : Option Addr) (x6 : Int) (v11 : Value) (σ : Hp) : Prop := ∀ (J : Env), At (gl R) [.code K23, .code K24, .inBlock 1, .inLoop K5, .inBlock 0, .code K25] (upds J [(0, (.pointer q0)), (1, (.int .i64 x1)), (5, (.pointer q5)), (6, (.int .i64 x6)), (11, v11)]) [] σ
theorem start {R : Ending → Hp → Prop} {q0 : Option Addr} {x1 : Int} {σ : Hp} (h : ∃ (b8 o8 : Nat), q0 = some ⟨b8, o8, none⟩ ∧ ∃ m10 : Option Nat, Hp.ld σ ⟨b8, o8, none⟩ = some (.map m10) ∧ Eff prog (Instr.range 67 (.map m10)) σ (fun v σ1 => ∃ v11 : Value, v11 = v ∧ pt6 R ((some ⟨b8, o8, none⟩)) x1 v11 σ1)) : Spec prog 57 #[(.pointer q0), (.int .i64 x1)] σ R := by
 refine Spec.of_at (fn := f57) (c := K0) func57 (by kernel_rfl) (Nat.le_of_ble_eq_true (by kernel_rfl)) (fun e he => ?_)
 refine At.ofL (l := [(0, (.pointer q0)), (1, (.int .i64 x1))]) ⟨he 0, he 1, trivial⟩ (fun J => ?_)
 show At (gl R) _ _ _ _
 refine At.s K1 K25 ?_
 refine At.s K2 K3 ?_
 refine At.rg 0 [0, 1, 2, 3, 4] ?_
 refine Seq.u 7 (.pointer q0) ?_
 obtain ⟨b8, o8, hq, h⟩ := h
 subst hq
 refine Seq.z 8 (.nilCheck (.tmp 7)) 0 (.pointer (some ⟨b8, o8, none⟩)) (Y.nilCheck rfl) ?_
 refine Seq.z 9 (.fieldAddr 69 (.tmp 8) 0) 0 (.pointer (some ⟨b8, o8, none⟩)) (Y.fieldAddr (fd := (fieldOf prog 69 0)) underlying69 (by kernel_rfl) sizeOf67 rfl rfl) ?_
 obtain ⟨m10, hl, h⟩ := h
 refine Seq.z 10 (.load 67 (.tmp 9)) 67 (.map m10) (Y.ld isAgg67 rfl hl) ?_
 refine Seq.o ?_
 refine OpTo.eff (d := (some 11)) (op := (.range 67 (.tmp 10))) (ty := 0) (gd := none) (by kernel_rfl) rfl rfl (Instr.range 67 (.map m10)) (fun o ho ht => by simp only [execOp, ho]; rfl) (h.mono (fun v σ1 h2 => ?_)); replace h := h2; clear h2
 obtain ⟨v11, rfl, h⟩ := h
 refine Seq.done ?_
 refine At.b 0 K4 ?_
 refine At.loop (x := K5) (by kernel_rfl) ?_
 refine At.s K6 K7 ?_
 exact At.v [(0, (.pointer (some ⟨b8, o8, none⟩))), (1, (.int .i64 x1)), (11, v11)] (h _)
theorem pt6_of {R : Ending → Hp → Prop} {q0 : Option Addr} {x1 : Int} {v11 : Value} {σ : Hp} (h : Eff prog (Instr.next v11 false 0) σ (fun v σ1 => (v = (.tuple #[(.bool false)]) ∧ ∃ (b55 o55 : Nat), q0 = some ⟨b55, o55, none⟩ ∧ Eff prog (Instr.storeAt 4 (.pointer (some ⟨b55, (o55 + 1), none⟩)) (.bool false)) σ1 (fun _ σ1_2 => Eff prog (Instr.storeAt 4 (.pointer (some ⟨b55, (o55 + 2), none⟩)) (.bool false)) σ1_2 (fun _ σ1_3 => R (.returned (.tuple #[])) σ1_3))) ∨ (∃ s12a : ByteArray, ∃ q12b : Option Addr, v = (.tuple #[(.bool true), (.string s12a), (.pointer q12b)]) ∧ Eff prog (Instr.entry v11) σ1 (fun v_2 σ1_2 => ∃ s14a : ByteArray, ∃ q14b : Option Addr, v_2 = (.tuple #[(.string s14a), (.pointer q14b)]) ∧ ((0 : Int) ≤ x1 → ∃ (b20 o20 : Nat), q14b = some ⟨b20, o20, none⟩ ∧ ∃ p22 : Option Addr, ∃ n22 : Nat, ∃ c22 : Nat, Hp.ld σ1_2 ⟨b20, o20, none⟩ = some (.slice p22 n22 c22) ∧ ∃ x27 : Int, Hp.ld σ1_2 ⟨b20, (o20 + 1), none⟩ = some (.int .i64 x27) ∧ I64 ((n22 : Int) - x27) ∧ I64 (((n22 : Int) - x27) + 1) ∧ (((n22 : Int) - x27) + 1) ≠ (0 : Int) ∧ ∀ x30 : Int, x30 = Int.tmod x1 (((n22 : Int) - x27) + 1) → pt23 R q0 x1 ((some ⟨b20, o20, none⟩)) x30 v11 σ1_2) ∧ (¬ ((0 : Int) ≤ x1) → pt23 R q0 x1 q14b 0 v11 σ1_2))))) : pt6 R q0 x1 v11 σ := by
  intro J
  show At (gl R) _ _ _ _
  refine At.rg 1 [0, 1] ?_
  refine Seq.o ?_
  refine OpTo.eff (d := (some 12)) (op := (.next (.tmp 11) false)) (ty := 0) (gd := none) (by kernel_rfl) rfl rfl (Instr.next v11 false 0) (fun o ho ht => by simp only [execOp, ho, ht]; rfl) (h.mono (fun v σ1 h2 => ?_)); replace h := h2; clear h2
  rcases h with ⟨rfl, h⟩ | ⟨s12a, q12b, rfl, h⟩
  · refine Seq.y (d := (some 13)) (op := (.extract (.tmp 12) 0)) (ty := 4) (v := (.bool false)) (by kernel_rfl) rfl (Y.extract rfl rfl) ?_
    refine Seq.done ?_
    refine At.s K8 K11 ?_
    refine At.cF 13 K9 K10 ?_
    refine At.x 0 [.code K25] ?_
    refine At.rg 8 [0, 1, 2, 3, 4, 5, 6, 7] ?_
    refine Seq.us [(53, .pointer q0), (54, .pointer q0)] ?_
    obtain ⟨b55, o55, hq, h⟩ := h
    subst hq
    refine Seq.z 55 (.nilCheck (.tmp 53)) 0 (.pointer (some ⟨b55, o55, none⟩)) (Y.nilCheck rfl) ?_
    refine Seq.z 56 (.fieldAddr 69 (.tmp 55) 1) 0 (.pointer (some ⟨b55, (o55 + 1), none⟩)) (Y.fieldAddr (fd := (fieldOf prog 69 1)) underlying69 (by kernel_rfl) sizeOf4 rfl rfl) ?_
    refine Seq.o ?_
    refine OpTo.store (T := 4) (ty := 0) (x := (.tmp 56)) (y := (.const (.bool false))) (p := (.pointer (some ⟨b55, (o55 + 1), none⟩))) (v := (.bool false)) (gd := none) (by kernel_rfl) rfl rfl rfl (h.mono (fun _ σ1_2 h2 => ?_)); replace h := h2; clear h2
    refine Seq.z 57 (.nilCheck (.tmp 54)) 0 (.pointer (some ⟨b55, o55, none⟩)) (Y.nilCheck rfl) ?_
    refine Seq.z 58 (.fieldAddr 69 (.tmp 57) 2) 0 (.pointer (some ⟨b55, (o55 + 2), none⟩)) (Y.fieldAddr (fd := (fieldOf prog 69 2)) underlying69 (by kernel_rfl) sizeOf4 rfl rfl) ?_
    refine Seq.o ?_
    refine OpTo.store (T := 4) (ty := 0) (x := (.tmp 58)) (y := (.const (.bool false))) (p := (.pointer (some ⟨b55, (o55 + 2), none⟩))) (v := (.bool false)) (gd := none) (by kernel_rfl) rfl rfl rfl (h.mono (fun _ σ1_3 h2 => ?_)); replace h := h2; clear h2
    refine Seq.done ?_
    exact At.doneV (rs := []) (vs := []) func57 (by kernel_rfl) rfl h
  · refine Seq.y (d := (some 13)) (op := (.extract (.tmp 12) 0)) (ty := 4) (v := (.bool true)) (by kernel_rfl) rfl (Y.extract rfl rfl) ?_
    refine Seq.done ?_
    refine At.s K8 K11 ?_
    refine At.cT 13 K9 K10 ?_
    refine At.skip ?_
    refine At.b 1 K12 ?_
    refine At.s K13 K14 ?_
    refine At.rg 2 [0, 1, 2] ?_
    refine Seq.o ?_
    refine OpTo.eff (d := (some 14)) (op := (.entry (.tmp 11))) (ty := 0) (gd := none) (by kernel_rfl) rfl rfl (Instr.entry v11) (fun o ho ht => by simp only [execOp, ho]; rfl) (h.mono (fun v_2 σ1_2 h2 => ?_)); replace h := h2; clear h2
    obtain ⟨s14a, q14b, rfl, h⟩ := h
    refine Seq.us [(15, .pointer q14b), (5, .pointer q14b)] ?_
    refine Seq.done ?_
    refine At.s K15 K16 ?_
    refine At.rg 3 [0] ?_
    refine Seq.u 6 (.int .i64 0) ?_
    refine Seq.done ?_
    refine At.s K17 K22 ?_
    refine At.s K18 K19 ?_
    refine At.rg 4 [0, 1] ?_
    refine Seq.us [(16, .int .i64 x1), (17, .bool (decide ((0 : Int) ≤ x1)))] ?_
    refine Seq.done ?_
    cases hb : (decide ((0 : Int) ≤ x1)) with
    | true =>
      replace h := h.1 (of_decide_eq_true hb)
      refine At.cT 17 K20 K21 ?_
      refine At.draw (id := 5) (ops := cO K20) (n := 14) (q := none) (plan := [(0, true), (1, true), (2, true), (3, true), (4, true), (5, true), (6, true), (7, true), (8, true), (9, true), (10, true), (11, true), (12, true), (13, true)]) (tl := []) mixed (by kernel_rfl) (by kernel_rfl) ?_
      refine Head.u 18 (.int .i64 x1) ?_
      refine Head.u 19 (.pointer q14b) ?_
      obtain ⟨b20, o20, hq, h⟩ := h
      subst hq
      refine Head.z 20 (.nilCheck (.tmp 19)) 0 (.pointer (some ⟨b20, o20, none⟩)) (Y.nilCheck rfl) ?_
      refine Head.z 21 (.fieldAddr 86 (.tmp 20) 0) 0 (.pointer (some ⟨b20, o20, none⟩)) (Y.fieldAddr (fd := (fieldOf prog 86 0)) underlying86 (by kernel_rfl) sizeOf23 rfl rfl) ?_
      obtain ⟨p22, n22, c22, hl, h⟩ := h
      refine Head.z 22 (.load 23 (.tmp 21)) 23 (.slice p22 n22 c22) (Y.ld isAgg23 rfl hl) ?_
      refine Head.z 23 (.call { callee := .builtin .len, args := #[(.tmp 22)], argTypes := #[23] }) 3 (.int .i64 (n22 : Int)) (Y.lenS underlying23 rfl rfl) ?_
      refine Head.u 24 (.pointer (some ⟨b20, o20, none⟩)) ?_
      refine Head.z 25 (.nilCheck (.tmp 24)) 0 (.pointer (some ⟨b20, o20, none⟩)) (Y.nilCheck rfl) ?_
      refine Head.z 26 (.fieldAddr 86 (.tmp 25) 1) 0 (.pointer (some ⟨b20, (o20 + 1), none⟩)) (Y.fieldAddr (fd := (fieldOf prog 86 1)) underlying86 (by kernel_rfl) sizeOf3 rfl rfl) ?_
      obtain ⟨x27, hl, h⟩ := h
      refine Head.z 27 (.load 3 (.tmp 26)) 3 (.int .i64 x27) (Y.ld isAgg3 rfl hl) ?_
      obtain ⟨hi, h⟩ := h
      refine Head.z 28 (.binOp .sub 3 (.tmp 23) (.tmp 27) 3) 3 (.int .i64 ((n22 : Int) - x27)) (Y.subI hi rfl rfl) ?_
      obtain ⟨hi, h⟩ := h
      refine Head.z 29 (.binOp .add 3 (.tmp 28) (.const (.int .i64 1)) 3) 3 (.int .i64 (((n22 : Int) - x27) + 1)) (Y.addI hi rfl rfl) ?_
      obtain ⟨hc, h⟩ := h
      obtain ⟨x30, hwx30⟩ : ∃ y, y = Int.tmod x1 (((n22 : Int) - x27) + 1) := ⟨_, rfl⟩
      replace h := h x30 hwx30
      refine Head.y (d := (some 30)) (op := (.binOp .rem 3 (.tmp 18) (.tmp 29) 3)) (ty := 3) (v := (.int .i64 x30)) (by kernel_rfl) rfl (hwx30 ▸ Y.rem hc rfl rfl) ?_
      refine Head.u 6 (.int .i64 x30) ?_
      refine Head.done ?_
      refine Seq.done ?_
      refine At.s K23 K24 ?_
      exact At.v [(0, (.pointer q0)), (1, (.int .i64 x1)), (5, (.pointer (some ⟨b20, o20, none⟩))), (6, (.int .i64 x30)), (11, v11)] (h _)
    | false =>
      replace h := h.2 (of_decide_eq_false hb)
      refine At.cF 17 K20 K21 ?_
      refine At.skip ?_
      refine At.s K23 K24 ?_
      exact At.v [(0, (.pointer q0)), (1, (.int .i64 x1)), (5, (.pointer q14b)), (6, (.int .i64 0)), (11, v11)] (h _)
theorem pt23_of {R : Ending → Hp → Prop} {q0 q5 : Option Addr} {x1 x6 : Int} {v11 : Value} {σ : Hp} (h : ∃ (b33 o33 : Nat), q5 = some ⟨b33, o33, none⟩ ∧ ∃ p35 : Option Addr, ∃ n35 : Nat, ∃ c35 : Nat, Hp.ld σ ⟨b33, o33, none⟩ = some (.slice p35 n35 c35) ∧ ∃ x39 : Int, Hp.ld σ ⟨b33, (o33 + 1), none⟩ = some (.int .i64 x39) ∧ I64 (x39 + x6) ∧ ((0 : Int) ≤ (x39 + x6) ∧ (x39 + x6) ≤ (c35 : Int)) ∧ Eff prog (Instr.storeAt 23 (.pointer (some ⟨b33, o33, none⟩)) (.slice p35 (Int.toNat (x39 + x6)) c35)) σ (fun _ σ1 => ∃ p49 : Option Addr, ∃ n49 : Nat, ∃ c49 : Nat, Hp.ld σ1 ⟨b33, o33, none⟩ = some (.slice p49 n49 c49) ∧ Eff prog (Instr.storeAt 3 (.pointer (some ⟨b33, (o33 + 1), none⟩)) (.int .i64 (n49 : Int))) σ1 (fun _ σ1_2 => pt6 R q0 x1 v11 σ1_2))) : pt23 R q0 x1 q5 x6 v11 σ := by
 intro J
 show At (gl R) _ _ _ _
 refine At.draw (id := 6) (ops := cO K23) (n := 14) (q := none) (plan := [(0, true), (1, true), (2, true), (3, true), (4, true), (5, true), (6, true), (7, true), (8, true), (9, true), (10, true), (11, true), (12, true), (13, true)]) (tl := [14]) mixed (by kernel_rfl) (by kernel_rfl) ?_
 refine Head.u 31 (.pointer q5) ?_
 refine Head.u 32 (.pointer q5) ?_
 obtain ⟨b33, o33, hq, h⟩ := h
 subst hq
 refine Head.z 33 (.nilCheck (.tmp 32)) 0 (.pointer (some ⟨b33, o33, none⟩)) (Y.nilCheck rfl) ?_
 refine Head.z 34 (.fieldAddr 86 (.tmp 33) 0) 0 (.pointer (some ⟨b33, o33, none⟩)) (Y.fieldAddr (fd := (fieldOf prog 86 0)) underlying86 (by kernel_rfl) sizeOf23 rfl rfl) ?_
 obtain ⟨p35, n35, c35, hl, h⟩ := h
 refine Head.z 35 (.load 23 (.tmp 34)) 23 (.slice p35 n35 c35) (Y.ld isAgg23 rfl hl) ?_
 refine Head.u 36 (.pointer (some ⟨b33, o33, none⟩)) ?_
 refine Head.z 37 (.nilCheck (.tmp 36)) 0 (.pointer (some ⟨b33, o33, none⟩)) (Y.nilCheck rfl) ?_
 refine Head.z 38 (.fieldAddr 86 (.tmp 37) 1) 0 (.pointer (some ⟨b33, (o33 + 1), none⟩)) (Y.fieldAddr (fd := (fieldOf prog 86 1)) underlying86 (by kernel_rfl) sizeOf3 rfl rfl) ?_
 obtain ⟨x39, hl, h⟩ := h
 refine Head.z 39 (.load 3 (.tmp 38)) 3 (.int .i64 x39) (Y.ld isAgg3 rfl hl) ?_
 refine Head.u 40 (.int .i64 x6) ?_
 obtain ⟨hi, h⟩ := h
 refine Head.z 41 (.binOp .add 3 (.tmp 39) (.tmp 40) 3) 3 (.int .i64 (x39 + x6)) (Y.addI hi rfl rfl) ?_
 obtain ⟨hs, h⟩ := h
 refine Head.z 42 (.slice 23 (.tmp 35) none (some (.tmp 41)) none) 23 (.slice p35 (Int.toNat (x39 + x6)) c35) (Y.slh underlying23 sizeOf5 rfl rfl hs) ?_
 refine Head.z 43 (.nilCheck (.tmp 31)) 0 (.pointer (some ⟨b33, o33, none⟩)) (Y.nilCheck rfl) ?_
 refine Head.z 44 (.fieldAddr 86 (.tmp 43) 0) 0 (.pointer (some ⟨b33, o33, none⟩)) (Y.fieldAddr (fd := (fieldOf prog 86 0)) underlying86 (by kernel_rfl) sizeOf23 rfl rfl) ?_
 refine Head.done ?_
 refine Seq.o ?_
 refine OpTo.store (T := 23) (ty := 0) (x := (.tmp 44)) (y := (.tmp 42)) (p := (.pointer (some ⟨b33, o33, none⟩))) (v := (.slice p35 (Int.toNat (x39 + x6)) c35)) (gd := none) (by kernel_rfl) rfl rfl rfl (h.mono (fun _ σ1 h2 => ?_)); replace h := h2; clear h2
 refine Seq.done ?_
 refine At.rg 7 [0, 1, 2, 3, 4, 5, 6, 7, 8] ?_
 refine Seq.us [(45, .pointer (some ⟨b33, o33, none⟩)), (46, .pointer (some ⟨b33, o33, none⟩))] ?_
 refine Seq.z 47 (.nilCheck (.tmp 46)) 0 (.pointer (some ⟨b33, o33, none⟩)) (Y.nilCheck rfl) ?_
 refine Seq.z 48 (.fieldAddr 86 (.tmp 47) 0) 0 (.pointer (some ⟨b33, o33, none⟩)) (Y.fieldAddr (fd := (fieldOf prog 86 0)) underlying86 (by kernel_rfl) sizeOf23 rfl rfl) ?_
 obtain ⟨p49, n49, c49, hl, h⟩ := h
 refine Seq.z 49 (.load 23 (.tmp 48)) 23 (.slice p49 n49 c49) (Y.ld isAgg23 rfl hl) ?_
 refine Seq.z 50 (.call { callee := .builtin .len, args := #[(.tmp 49)], argTypes := #[23] }) 3 (.int .i64 (n49 : Int)) (Y.lenS underlying23 rfl rfl) ?_
 refine Seq.z 51 (.nilCheck (.tmp 45)) 0 (.pointer (some ⟨b33, o33, none⟩)) (Y.nilCheck rfl) ?_
 refine Seq.z 52 (.fieldAddr 86 (.tmp 51) 1) 0 (.pointer (some ⟨b33, (o33 + 1), none⟩)) (Y.fieldAddr (fd := (fieldOf prog 86 1)) underlying86 (by kernel_rfl) sizeOf3 rfl rfl) ?_
 refine Seq.o ?_
 refine OpTo.store (T := 3) (ty := 0) (x := (.tmp 52)) (y := (.tmp 50)) (p := (.pointer (some ⟨b33, (o33 + 1), none⟩))) (v := (.int .i64 (n49 : Int))) (gd := none) (by kernel_rfl) rfl rfl rfl (h.mono (fun _ σ1_2 h2 => ?_)); replace h := h2; clear h2
 refine Seq.done ?_
 refine At.inBlock ?_
 refine At.inLoop ?_
 refine At.s K6 K7 ?_
 exact At.v [(0, (.pointer q0)), (1, (.int .i64 x1)), (11, v11)] (h _)
end disk_Disk_cut
namespace disk_Disk_there
abbrev fid : Nat := 68
noncomputable def K0 := f68.body.getD .skip
def K1 := cl K0
def K2 := cr K0
def K3 := cl K2
def K4 := cl K3
def K5 := cr K3
def K6 := cl K5
def K7 := cl K6
def K8 := cr K6
def K9 := cr K5
def K10 := cr K2
def K11 := cl K10
def K12 := cl K11
def K13 := cr K11
def K14 := cl K13
def K15 := cl K14
def K16 := cr K14
def K17 := cr K13
def K18 := cr K10
def K19 := cl K18
def K20 := cr K18
abbrev gl (R : Ending → Hp → Prop) : Gl := Gl.fn prog 68 15 R
theorem start {R : Ending → Hp → Prop} {q0 : Option Addr} {s1 : ByteArray} {σ : Hp} (h : Spec prog 36 #[(.string s1)] σ (Cont R (fun v σ1 => ∃ t6 : Bool, v = (.bool t6) ∧ (t6 = false → R (.returned (.int .i64 61)) σ1) ∧ (t6 = true → ∃ (b9 o9 : Nat), q0 = some ⟨b9, o9, none⟩ ∧ ∃ m11 : Option Nat, Hp.ld σ1 ⟨b9, o9, none⟩ = some (.map m11) ∧ Eff prog (Instr.lookup 67 (.map m11) (.string s1) false) σ1 (fun v_2 σ1_2 => ∃ q13 : Option Addr, v_2 = (.pointer q13) ∧ ((Option.isNone q13) = true → R (.returned (.int .i64 62)) σ1_2) ∧ ((Option.isNone q13) = false → R (.returned (.int .i64 0)) σ1_2)))))) : Spec prog 68 #[(.pointer q0), (.string s1)] σ R := by
 refine Spec.of_at (fn := f68) (c := K0) func68 (by kernel_rfl) (Nat.le_of_ble_eq_true (by kernel_rfl)) (fun e he => ?_)
 refine At.ofL (l := [(0, (.pointer q0)), (1, (.string s1))]) ⟨he 0, he 1, trivial⟩ (fun J => ?_)
 show At (gl R) _ _ _ _
 refine At.s K1 K2 ?_
 refine At.rg 0 [0] ?_
 refine Seq.u 4 (.int .i64 0) ?_
 refine Seq.done ?_
 refine At.s K3 K10 ?_
 refine At.s K4 K5 ?_
 refine At.rg 1 [0, 1, 2] ?_
 refine Seq.u 5 (.string s1) ?_
 refine Seq.o ?_
 refine OpTo.cl (some 6) call36 (h.cont fun v σ1 h2 => ?_); replace h := h2; clear h2
 obtain ⟨t6, rfl, h⟩ := h
 refine Seq.u 7 (.bool (!t6)) ?_
 refine Seq.done ?_
 cases hb : (!t6) with
 | true =>
  replace h := h.1 (Tw.nt hb)
  refine At.cT 7 K6 K9 ?_
  refine At.s K7 K8 ?_
  refine At.rg 2 [0] ?_
  refine Seq.u 4 (.int .i64 61) ?_
  refine Seq.done ?_
  exact At.rt [.tmp 4] [(.int .i64 61)] func68 ⟨_, rfl, rfl⟩ h
 | false =>
  replace h := h.2 (Tw.nf hb)
  refine At.cF 7 K6 K9 ?_
  refine At.skip ?_
  refine At.s K11 K18 ?_
  refine At.s K12 K13 ?_
  refine At.rg 3 [0, 1, 2, 3, 4, 5, 6] ?_
  refine Seq.u 8 (.pointer q0) ?_
  obtain ⟨b9, o9, hq, h⟩ := h
  subst hq
  refine Seq.z 9 (.nilCheck (.tmp 8)) 0 (.pointer (some ⟨b9, o9, none⟩)) (Y.nilCheck rfl) ?_
  refine Seq.z 10 (.fieldAddr 69 (.tmp 9) 0) 0 (.pointer (some ⟨b9, o9, none⟩)) (Y.fieldAddr (fd := (fieldOf prog 69 0)) underlying69 (by kernel_rfl) sizeOf67 rfl rfl) ?_
  obtain ⟨m11, hl, h⟩ := h
  refine Seq.z 11 (.load 67 (.tmp 10)) 67 (.map m11) (Y.ld isAgg67 rfl hl) ?_
  refine Seq.u 12 (.string s1) ?_
  refine Seq.o ?_
  refine OpTo.eff (d := (some 13)) (op := (.lookup 67 (.tmp 11) (.tmp 12) false)) (ty := 84) (gd := none) (by kernel_rfl) rfl rfl (Instr.lookup 67 (.map m11) (.string s1) false) (fun o ho ht => by simp only [execOp, ho]; rfl) (h.mono (fun v_2 σ1_2 h2 => ?_)); replace h := h2; clear h2
  obtain ⟨q13, rfl, h⟩ := h
  refine Seq.z 14 (.binOp .eql 84 (.tmp 13) (.const (.pointer none)) 84) 4 (.bool (Option.isNone q13)) (Y.eqlNil underlying84 rfl rfl) ?_
  refine Seq.done ?_
  cases hb : (Option.isNone q13) with
  | true =>
   replace h := h.1 hb
   refine At.cT 14 K14 K17 ?_
   refine At.s K15 K16 ?_
   refine At.rg 4 [0] ?_
   refine Seq.u 4 (.int .i64 62) ?_
   refine Seq.done ?_
   exact At.rt [.tmp 4] [(.int .i64 62)] func68 ⟨_, rfl, rfl⟩ h
  | false =>
   replace h := h.2 hb
   refine At.cF 14 K14 K17 ?_
   refine At.skip ?_
   refine At.s K19 K20 ?_
   refine At.rg 5 [0] ?_
   refine Seq.u 4 (.int .i64 0) ?_
   refine Seq.done ?_
   exact At.rt [.tmp 4] [(.int .i64 0)] func68 ⟨_, rfl, rfl⟩ h
end disk_Disk_there
namespace disk_Disk_Sync_1
abbrev fid : Nat := 70
noncomputable def K0 := f70.body.getD .skip
def K1 := cl K0
def K2 := cr K0
def K3 := cl K2
def K4 := cr K2
abbrev gl (R : Ending → Hp → Prop) : Gl := Gl.fn prog 70 6 R
theorem start {R : Ending → Hp → Prop} {b0 b1 : Nat} {σ : Hp} (h : ∃ q3 : Option Addr, Hp.ld σ ⟨b0, 0, none⟩ = some (.pointer q3) ∧ ∃ s4 : ByteArray, Hp.ld σ ⟨b1, 0, none⟩ = some (.string s4) ∧ Spec prog 68 #[(.pointer q3), (.string s4)] σ (Cont R (fun v σ1 => ∃ x5 : Int, v = (.int .i64 x5) ∧ R (.returned (.int .i64 x5)) σ1))) : Spec prog 70 #[(.pointer (some ⟨b0, 0, none⟩)), (.pointer (some ⟨b1, 0, none⟩))] σ R := by
 refine Spec.of_at (fn := f70) (c := K0) func70 (by kernel_rfl) (Nat.le_of_ble_eq_true (by kernel_rfl)) (fun e he => ?_)
 refine At.ofL (l := [(0, (.pointer (some ⟨b0, 0, none⟩))), (1, (.pointer (some ⟨b1, 0, none⟩)))]) ⟨he 0, he 1, trivial⟩ (fun J => ?_)
 show At (gl R) _ _ _ _
 refine At.s K1 K2 ?_
 refine At.rg 0 [0] ?_
 refine Seq.u 2 (.int .i64 0) ?_
 refine Seq.done ?_
 refine At.s K3 K4 ?_
 refine At.rg 1 [0, 1, 2, 3] ?_
 obtain ⟨q3, hl, h⟩ := h
 refine Seq.z 3 (.load 24 (.tmp 0)) 24 (.pointer q3) (Y.ld isAgg24 rfl hl) ?_
 obtain ⟨s4, hl, h⟩ := h
 refine Seq.z 4 (.load 9 (.tmp 1)) 9 (.string s4) (Y.ld isAgg9 rfl hl) ?_
 refine Seq.o ?_
 refine OpTo.cl (some 5) call68 (h.cont fun v σ1 h2 => ?_); replace h := h2; clear h2
 obtain ⟨x5, rfl, h⟩ := h
 refine Seq.u 2 (.int .i64 x5) ?_
 refine Seq.done ?_
 exact At.rt [.tmp 2] [(.int .i64 x5)] func70 ⟨_, rfl, rfl⟩ h
end disk_Disk_Sync_1
namespace disk_Disk_Sync_2
abbrev fid : Nat := 71
noncomputable def K0 := f71.body.getD .skip
def K1 := cl K0
def K2 := cr K0
abbrev gl (R : Ending → Hp → Prop) : Gl := Gl.fn prog 71 17 R
theorem start {R : Ending → Hp → Prop} {b0 b1 : Nat} {σ : Hp} (h : ∃ q3 : Option Addr, Hp.ld σ ⟨b0, 0, none⟩ = some (.pointer q3) ∧ ∃ (b4 o4 : Nat), q3 = some ⟨b4, o4, none⟩ ∧ ∃ m6 : Option Nat, Hp.ld σ ⟨b4, o4, none⟩ = some (.map m6) ∧ ∃ s7 : ByteArray, Hp.ld σ ⟨b1, 0, none⟩ = some (.string s7) ∧ Eff prog (Instr.lookup 67 (.map m6) (.string s7) false) σ (fun v σ1 => ∃ q8 : Option Addr, v = (.pointer q8) ∧ ∃ (b11 o11 : Nat), q8 = some ⟨b11, o11, none⟩ ∧ ∃ p13 : Option Addr, ∃ n13 : Nat, ∃ c13 : Nat, Hp.ld σ1 ⟨b11, o11, none⟩ = some (.slice p13 n13 c13) ∧ Eff prog (Instr.storeAt 3 (.pointer (some ⟨b11, (o11 + 1), none⟩)) (.int .i64 (n13 : Int))) σ1 (fun _ σ1_2 => R (.returned (.tuple #[])) σ1_2))) : Spec prog 71 #[(.pointer (some ⟨b0, 0, none⟩)), (.pointer (some ⟨b1, 0, none⟩))] σ R := by
 refine Spec.of_at (fn := f71) (c := K0) func71 (by kernel_rfl) (Nat.le_of_ble_eq_true (by kernel_rfl)) (fun e he => ?_)
 refine At.ofL (l := [(0, (.pointer (some ⟨b0, 0, none⟩))), (1, (.pointer (some ⟨b1, 0, none⟩)))]) ⟨he 0, he 1, trivial⟩ (fun J => ?_)
 show At (gl R) _ _ _ _
 refine At.s K1 K2 ?_
 refine At.draw (id := 0) (ops := cO K1) (n := 7) (q := (some [])) (plan := [(0, true), (1, true), (2, true), (3, true), (4, true), (5, false), (6, true)]) (tl := []) mixed (by kernel_rfl) (by kernel_rfl) ?_
 obtain ⟨q3, hl, h⟩ := h
 refine Head.yl b0 [[5, 3, 2, 1]] rfl (by kernel_rfl) (d := (some 3)) (op := (.load 24 (.tmp 0))) (ty := 24) (v := (.pointer q3)) (by kernel_rfl) rfl (Y.ld isAgg24 rfl (lim_ld hl)) ?_
 obtain ⟨b4, o4, hq, h⟩ := h
 subst hq
 refine Head.z 4 (.nilCheck (.tmp 3)) 0 (.pointer (some ⟨b4, o4, none⟩)) (Y.nilCheck rfl) ?_
 refine Head.z 5 (.fieldAddr 69 (.tmp 4) 0) 0 (.pointer (some ⟨b4, o4, none⟩)) (Y.fieldAddr (fd := (fieldOf prog 69 0)) underlying69 (by kernel_rfl) sizeOf67 rfl rfl) ?_
 obtain ⟨m6, hl, h⟩ := h
 refine Head.yl b4 [[5]] rfl (by kernel_rfl) (d := (some 6)) (op := (.load 67 (.tmp 5))) (ty := 67) (v := (.map m6)) (by kernel_rfl) rfl (Y.ld isAgg67 rfl (lim_ld hl)) ?_
 obtain ⟨s7, hl, h⟩ := h
 refine Head.yl b1 [[5]] rfl (by kernel_rfl) (d := (some 7)) (op := (.load 9 (.tmp 1))) (ty := 9) (v := (.string s7)) (by kernel_rfl) rfl (Y.ld isAgg9 rfl (lim_ld hl)) ?_
 refine Head.o (q' := (some [])) rfl ?_
 refine OpTo.eff (d := (some 8)) (op := (.lookup 67 (.tmp 6) (.tmp 7) false)) (ty := 84) (gd := none) (by kernel_rfl) rfl rfl (Instr.lookup 67 (.map m6) (.string s7) false) (fun o ho ht => by simp only [execOp, ho]; rfl) (h.mono (fun v σ1 h2 => ?_)); replace h := h2; clear h2
 obtain ⟨q8, rfl, h⟩ := h
 refine ⟨⟨fun _ h => h, kp_q (L := []) Kp.nil⟩, ?_⟩
 refine Head.u 2 (.pointer q8) ?_
 refine Head.done ?_
 refine Seq.done ?_
 refine At.rg 1 [0, 1, 2, 3, 4, 5, 6, 7, 8] ?_
 refine Seq.us [(9, .pointer q8), (10, .pointer q8)] ?_
 obtain ⟨b11, o11, hq, h⟩ := h
 subst hq
 refine Seq.z 11 (.nilCheck (.tmp 10)) 0 (.pointer (some ⟨b11, o11, none⟩)) (Y.nilCheck rfl) ?_
 refine Seq.z 12 (.fieldAddr 86 (.tmp 11) 0) 0 (.pointer (some ⟨b11, o11, none⟩)) (Y.fieldAddr (fd := (fieldOf prog 86 0)) underlying86 (by kernel_rfl) sizeOf23 rfl rfl) ?_
 obtain ⟨p13, n13, c13, hl, h⟩ := h
 refine Seq.z 13 (.load 23 (.tmp 12)) 23 (.slice p13 n13 c13) (Y.ld isAgg23 rfl hl) ?_
 refine Seq.z 14 (.call { callee := .builtin .len, args := #[(.tmp 13)], argTypes := #[23] }) 3 (.int .i64 (n13 : Int)) (Y.lenS underlying23 rfl rfl) ?_
 refine Seq.z 15 (.nilCheck (.tmp 9)) 0 (.pointer (some ⟨b11, o11, none⟩)) (Y.nilCheck rfl) ?_
 refine Seq.z 16 (.fieldAddr 86 (.tmp 15) 1) 0 (.pointer (some ⟨b11, (o11 + 1), none⟩)) (Y.fieldAddr (fd := (fieldOf prog 86 1)) underlying86 (by kernel_rfl) sizeOf3 rfl rfl) ?_
 refine Seq.o ?_
 refine OpTo.store (T := 3) (ty := 0) (x := (.tmp 16)) (y := (.tmp 14)) (p := (.pointer (some ⟨b11, (o11 + 1), none⟩))) (v := (.int .i64 (n13 : Int))) (gd := none) (by kernel_rfl) rfl rfl rfl (h.mono (fun _ σ1_2 h2 => ?_)); replace h := h2; clear h2
 refine Seq.done ?_
 exact At.doneV (rs := []) (vs := []) func71 (by kernel_rfl) rfl h
end disk_Disk_Sync_2
namespace disk_nothing
abbrev fid : Nat := 72
noncomputable def K0 := f72.body.getD .skip
abbrev gl (R : Ending → Hp → Prop) : Gl := Gl.fn prog 72 0 R
theorem start {R : Ending → Hp → Prop} {σ : Hp} (h : R (.returned (.tuple #[])) σ) : Spec prog 72 #[] σ R := by
 refine Spec.of_at (fn := f72) (c := K0) func72 (by kernel_rfl) (Nat.le_of_ble_eq_true (by kernel_rfl)) (fun e he => ?_)
 show At (gl R) _ _ _ _
 refine At.skip ?_
 exact At.doneV (rs := []) (vs := []) func72 (by kernel_rfl) rfl h
end disk_nothing
namespace disk_Disk_Rename
abbrev fid : Nat := 78
noncomputable def K0 := f78.body.getD .skip
def K1 := cl K0
def K2 := cr K0
def K3 := cl K2
def K4 := cr K2
abbrev gl (R : Ending → Hp → Prop) : Gl := Gl.fn prog 78 11 R
theorem start {R : Ending → Hp → Prop} {q0 : Option Addr} {s1 s2 : ByteArray} {σ : Hp} (h : ∀ b3 : Nat, σ b3 = none → ∀ b4 : Nat, (Hp.set σ b3 (.cells #[(.pointer q0)] 24 (0, 0))) b4 = none → ∀ b5 : Nat, (Hp.set (Hp.set σ b3 (.cells #[(.pointer q0)] 24 (0, 0))) b4 (.cells #[(.string s1)] 9 (0, 0))) b5 = none → ∃ q7 : Option Addr, Hp.ld (Hp.set (Hp.set (Hp.set σ b3 (.cells #[(.pointer q0)] 24 (0, 0))) b4 (.cells #[(.string s1)] 9 (0, 0))) b5 (.cells #[(.string s2)] 9 (0, 0))) ⟨b3, 0, none⟩ = some (.pointer q7) ∧ Spec prog 52 #[(.pointer q7), (.func (.func 100) #[] #[(.pointer (some ⟨b5, 0, none⟩)), (.pointer (some ⟨b3, 0, none⟩)), (.pointer (some ⟨b4, 0, none⟩))]), (.func (.func 101) #[] #[(.pointer (some ⟨b3, 0, none⟩)), (.pointer (some ⟨b4, 0, none⟩)), (.pointer (some ⟨b5, 0, none⟩))]), (.func (.func 72) #[] #[])] (Hp.set (Hp.set (Hp.set σ b3 (.cells #[(.pointer q0)] 24 (0, 0))) b4 (.cells #[(.string s1)] 9 (0, 0))) b5 (.cells #[(.string s2)] 9 (0, 0))) (Cont R (fun v σ1 => ∃ x10 : Int, v = (.int .i64 x10) ∧ R (.returned (.int .i64 x10)) σ1))) : Spec prog 78 #[(.pointer q0), (.string s1), (.string s2)] σ R := by
 refine Spec.of_at (fn := f78) (c := K0) func78 (by kernel_rfl) (Nat.le_of_ble_eq_true (by kernel_rfl)) (fun e he => ?_)
 refine At.ofL (l := [(0, (.pointer q0)), (1, (.string s1)), (2, (.string s2))]) ⟨he 0, he 1, he 2, trivial⟩ (fun J => ?_)
 show At (gl R) _ _ _ _
 refine At.s K1 K2 ?_
 refine At.rg 0 [0, 1, 2, 3] ?_
 refine Seq.o ?_
 refine OpTo.boxO (T := 24) (d := (some 3)) (ty := 0) (x := (.tmp 0)) (gd := none) (cs := #[(.pointer q0)]) (by kernel_rfl) rfl rfl rfl (fun b3 hn => ?_)
 replace h := h b3 hn
 refine Seq.o ?_
 refine OpTo.boxO (T := 9) (d := (some 4)) (ty := 0) (x := (.tmp 1)) (gd := none) (cs := #[(.string s1)]) (by kernel_rfl) rfl rfl rfl (fun b4 hn => ?_)
 replace h := h b4 hn
 refine Seq.o ?_
 refine OpTo.boxO (T := 9) (d := (some 5)) (ty := 0) (x := (.tmp 2)) (gd := none) (cs := #[(.string s2)]) (by kernel_rfl) rfl rfl rfl (fun b5 hn => ?_)
 replace h := h b5 hn
 refine Seq.u 6 (.int .i64 0) ?_
 refine Seq.done ?_
 refine At.s K3 K4 ?_
 refine At.rg 1 [0, 1, 2, 3, 4] ?_
 obtain ⟨q7, hl, h⟩ := h
 refine Seq.z 7 (.load 24 (.tmp 3)) 24 (.pointer q7) (Y.ld isAgg24 rfl hl) ?_
 refine Seq.z 8 (.makeFunc (.func 100) #[] #[(.tmp 5), (.tmp 3), (.tmp 4)]) 33 (.func (.func 100) #[] #[(.pointer (some ⟨b5, 0, none⟩)), (.pointer (some ⟨b3, 0, none⟩)), (.pointer (some ⟨b4, 0, none⟩))]) (Y.makeFunc rfl rfl) ?_
 refine Seq.z 9 (.makeFunc (.func 101) #[] #[(.tmp 3), (.tmp 4), (.tmp 5)]) 1 (.func (.func 101) #[] #[(.pointer (some ⟨b3, 0, none⟩)), (.pointer (some ⟨b4, 0, none⟩)), (.pointer (some ⟨b5, 0, none⟩))]) (Y.makeFunc rfl rfl) ?_
 refine Seq.o ?_
 refine OpTo.cl (some 10) call52 (h.cont fun v σ1 h2 => ?_); replace h := h2; clear h2
 obtain ⟨x10, rfl, h⟩ := h
 refine Seq.u 6 (.int .i64 x10) ?_
 refine Seq.done ?_
 exact At.rt [.tmp 6] [(.int .i64 x10)] func78 ⟨_, rfl, rfl⟩ h
end disk_Disk_Rename
namespace disk_Disk_Delete_1
abbrev fid : Nat := 79
noncomputable def K0 := f79.body.getD .skip
def K1 := cl K0
def K2 := cr K0
def K3 := cl K2
def K4 := cr K2
abbrev gl (R : Ending → Hp → Prop) : Gl := Gl.fn prog 79 6 R
theorem start {R : Ending → Hp → Prop} {b0 b1 : Nat} {σ : Hp} (h : ∃ q3 : Option Addr, Hp.ld σ ⟨b0, 0, none⟩ = some (.pointer q3) ∧ ∃ s4 : ByteArray, Hp.ld σ ⟨b1, 0, none⟩ = some (.string s4) ∧ Spec prog 68 #[(.pointer q3), (.string s4)] σ (Cont R (fun v σ1 => ∃ x5 : Int, v = (.int .i64 x5) ∧ R (.returned (.int .i64 x5)) σ1))) : Spec prog 79 #[(.pointer (some ⟨b0, 0, none⟩)), (.pointer (some ⟨b1, 0, none⟩))] σ R := by
 refine Spec.of_at (fn := f79) (c := K0) func79 (by kernel_rfl) (Nat.le_of_ble_eq_true (by kernel_rfl)) (fun e he => ?_)
 refine At.ofL (l := [(0, (.pointer (some ⟨b0, 0, none⟩))), (1, (.pointer (some ⟨b1, 0, none⟩)))]) ⟨he 0, he 1, trivial⟩ (fun J => ?_)
 show At (gl R) _ _ _ _
 refine At.s K1 K2 ?_
 refine At.rg 0 [0] ?_
 refine Seq.u 2 (.int .i64 0) ?_
 refine Seq.done ?_
 refine At.s K3 K4 ?_
 refine At.rg 1 [0, 1, 2, 3] ?_
 obtain ⟨q3, hl, h⟩ := h
 refine Seq.z 3 (.load 24 (.tmp 0)) 24 (.pointer q3) (Y.ld isAgg24 rfl hl) ?_
 obtain ⟨s4, hl, h⟩ := h
 refine Seq.z 4 (.load 9 (.tmp 1)) 9 (.string s4) (Y.ld isAgg9 rfl hl) ?_
 refine Seq.o ?_
 refine OpTo.cl (some 5) call68 (h.cont fun v σ1 h2 => ?_); replace h := h2; clear h2
 obtain ⟨x5, rfl, h⟩ := h
 refine Seq.u 2 (.int .i64 x5) ?_
 refine Seq.done ?_
 exact At.rt [.tmp 2] [(.int .i64 x5)] func79 ⟨_, rfl, rfl⟩ h
end disk_Disk_Delete_1
namespace disk_Disk_Delete_2
abbrev fid : Nat := 80
noncomputable def K0 := f80.body.getD .skip
abbrev gl (R : Ending → Hp → Prop) : Gl := Gl.fn prog 80 7 R
theorem start {R : Ending → Hp → Prop} {b0 b1 : Nat} {σ : Hp} (h : ∃ q2 : Option Addr, Hp.ld σ ⟨b0, 0, none⟩ = some (.pointer q2) ∧ ∃ (b3 o3 : Nat), q2 = some ⟨b3, o3, none⟩ ∧ ∃ m5 : Option Nat, Hp.ld σ ⟨b3, o3, none⟩ = some (.map m5) ∧ ∃ s6 : ByteArray, Hp.ld σ ⟨b1, 0, none⟩ = some (.string s6) ∧ Eff prog (Builtin.delete_ #[67, 9] 0 #[(.map m5), (.string s6)]) σ (fun v σ1 => R (.returned (.tuple #[])) σ1)) : Spec prog 80 #[(.pointer (some ⟨b0, 0, none⟩)), (.pointer (some ⟨b1, 0, none⟩))] σ R := by
 refine Spec.of_at (fn := f80) (c := K0) func80 (by kernel_rfl) (Nat.le_of_ble_eq_true (by kernel_rfl)) (fun e he => ?_)
 refine At.ofL (l := [(0, (.pointer (some ⟨b0, 0, none⟩))), (1, (.pointer (some ⟨b1, 0, none⟩)))]) ⟨he 0, he 1, trivial⟩ (fun J => ?_)
 show At (gl R) _ _ _ _
 refine At.draw (id := 0) (ops := cO K0) (n := 5) (q := none) (plan := [(0, true), (1, true), (2, true), (3, true), (4, true)]) (tl := [5]) mixed (by kernel_rfl) (by kernel_rfl) ?_
 obtain ⟨q2, hl, h⟩ := h
 refine Head.z 2 (.load 24 (.tmp 0)) 24 (.pointer q2) (Y.ld isAgg24 rfl hl) ?_
 obtain ⟨b3, o3, hq, h⟩ := h
 subst hq
 refine Head.z 3 (.nilCheck (.tmp 2)) 0 (.pointer (some ⟨b3, o3, none⟩)) (Y.nilCheck rfl) ?_
 refine Head.z 4 (.fieldAddr 69 (.tmp 3) 0) 0 (.pointer (some ⟨b3, o3, none⟩)) (Y.fieldAddr (fd := (fieldOf prog 69 0)) underlying69 (by kernel_rfl) sizeOf67 rfl rfl) ?_
 obtain ⟨m5, hl, h⟩ := h
 refine Head.z 5 (.load 67 (.tmp 4)) 67 (.map m5) (Y.ld isAgg67 rfl hl) ?_
 obtain ⟨s6, hl, h⟩ := h
 refine Head.z 6 (.load 9 (.tmp 1)) 9 (.string s6) (Y.ld isAgg9 rfl hl) ?_
 refine Head.done ?_
 refine Seq.o ?_
 refine OpTo.eff (d := none) (op := (.call { callee := .builtin .delete, args := #[(.tmp 5), (.tmp 6)], argTypes := #[67, 9] })) (ty := 0) (gd := none) (by kernel_rfl) rfl rfl (Builtin.delete_ #[67, 9] 0 #[(.map m5), (.string s6)]) (fun o ho ht => exec_b_delete rfl rfl o ho ht) (h.mono (fun v σ1 h2 => ?_)); replace h := h2; clear h2
 refine Seq.done ?_
 exact At.doneV (rs := []) (vs := []) func80 (by kernel_rfl) rfl h
end disk_Disk_Delete_2
namespace disk_Disk_Rename_1
abbrev fid : Nat := 100
noncomputable def K0 := f100.body.getD .skip
def K1 := cl K0
def K2 := cr K0
def K3 := cl K2
def K4 := cl K3
def K5 := cr K3
def K6 := cl K5
def K7 := cl K6
def K8 := cr K6
def K9 := cr K5
def K10 := cr K2
def K11 := cl K10
def K12 := cr K10
abbrev gl (R : Ending → Hp → Prop) : Gl := Gl.fn prog 100 10 R
theorem start {R : Ending → Hp → Prop} {b0 b1 b2 : Nat} {σ : Hp} (h : ∃ s4 : ByteArray, Hp.ld σ ⟨b0, 0, none⟩ = some (.string s4) ∧ Spec prog 36 #[(.string s4)] σ (Cont R (fun v σ1 => ∃ t5 : Bool, v = (.bool t5) ∧ (t5 = false → R (.returned (.int .i64 61)) σ1) ∧ (t5 = true → ∃ q7 : Option Addr, Hp.ld σ1 ⟨b1, 0, none⟩ = some (.pointer q7) ∧ ∃ s8 : ByteArray, Hp.ld σ1 ⟨b2, 0, none⟩ = some (.string s8) ∧ Spec prog 68 #[(.pointer q7), (.string s8)] σ1 (Cont R (fun v_2 σ1_2 => ∃ x9 : Int, v_2 = (.int .i64 x9) ∧ R (.returned (.int .i64 x9)) σ1_2)))))) : Spec prog 100 #[(.pointer (some ⟨b0, 0, none⟩)), (.pointer (some ⟨b1, 0, none⟩)), (.pointer (some ⟨b2, 0, none⟩))] σ R := by
 refine Spec.of_at (fn := f100) (c := K0) func100 (by kernel_rfl) (Nat.le_of_ble_eq_true (by kernel_rfl)) (fun e he => ?_)
 refine At.ofL (l := [(0, (.pointer (some ⟨b0, 0, none⟩))), (1, (.pointer (some ⟨b1, 0, none⟩))), (2, (.pointer (some ⟨b2, 0, none⟩)))]) ⟨he 0, he 1, he 2, trivial⟩ (fun J => ?_)
 show At (gl R) _ _ _ _
 refine At.s K1 K2 ?_
 refine At.rg 0 [0] ?_
 refine Seq.u 3 (.int .i64 0) ?_
 refine Seq.done ?_
 refine At.s K3 K10 ?_
 refine At.s K4 K5 ?_
 refine At.rg 1 [0, 1, 2] ?_
 obtain ⟨s4, hl, h⟩ := h
 refine Seq.z 4 (.load 9 (.tmp 0)) 9 (.string s4) (Y.ld isAgg9 rfl hl) ?_
 refine Seq.o ?_
 refine OpTo.cl (some 5) call36 (h.cont fun v σ1 h2 => ?_); replace h := h2; clear h2
 obtain ⟨t5, rfl, h⟩ := h
 refine Seq.u 6 (.bool (!t5)) ?_
 refine Seq.done ?_
 cases hb : (!t5) with
 | true =>
  replace h := h.1 (Tw.nt hb)
  refine At.cT 6 K6 K9 ?_
  refine At.s K7 K8 ?_
  refine At.rg 2 [0] ?_
  refine Seq.u 3 (.int .i64 61) ?_
  refine Seq.done ?_
  exact At.rt [.tmp 3] [(.int .i64 61)] func100 ⟨_, rfl, rfl⟩ h
 | false =>
  replace h := h.2 (Tw.nf hb)
  refine At.cF 6 K6 K9 ?_
  refine At.skip ?_
  refine At.s K11 K12 ?_
  refine At.rg 3 [0, 1, 2, 3] ?_
  obtain ⟨q7, hl, h⟩ := h
  refine Seq.z 7 (.load 24 (.tmp 1)) 24 (.pointer q7) (Y.ld isAgg24 rfl hl) ?_
  obtain ⟨s8, hl, h⟩ := h
  refine Seq.z 8 (.load 9 (.tmp 2)) 9 (.string s8) (Y.ld isAgg9 rfl hl) ?_
  refine Seq.o ?_
  refine OpTo.cl (some 9) call68 (h.cont fun v_2 σ1_2 h2 => ?_); replace h := h2; clear h2
  obtain ⟨x9, rfl, h⟩ := h
  refine Seq.u 3 (.int .i64 x9) ?_
  refine Seq.done ?_
  exact At.rt [.tmp 3] [(.int .i64 x9)] func100 ⟨_, rfl, rfl⟩ h
end disk_Disk_Rename_1
namespace disk_Disk_Rename_2
abbrev fid : Nat := 101
noncomputable def K0 := f101.body.getD .skip
def K1 := cl K0
def K2 := cr K0
def K3 := cl K2
def K4 := cr K2
abbrev gl (R : Ending → Hp → Prop) : Gl := Gl.fn prog 101 21 R
theorem start {R : Ending → Hp → Prop} {b0 b1 b2 : Nat} {σ : Hp} (h : ∃ q4 : Option Addr, Hp.ld σ ⟨b0, 0, none⟩ = some (.pointer q4) ∧ ∃ (b5 o5 : Nat), q4 = some ⟨b5, o5, none⟩ ∧ ∃ m7 : Option Nat, Hp.ld σ ⟨b5, o5, none⟩ = some (.map m7) ∧ ∃ s8 : ByteArray, Hp.ld σ ⟨b1, 0, none⟩ = some (.string s8) ∧ Eff prog (Instr.lookup 67 (.map m7) (.string s8) false) σ (fun v σ1 => ∃ q9 : Option Addr, v = (.pointer q9) ∧ ∃ q10 : Option Addr, Hp.ld σ1 ⟨b0, 0, none⟩ = some (.pointer q10) ∧ ∃ (b11 o11 : Nat), q10 = some ⟨b11, o11, none⟩ ∧ ∃ m13 : Option Nat, Hp.ld σ1 ⟨b11, o11, none⟩ = some (.map m13) ∧ ∃ s14 : ByteArray, Hp.ld σ1 ⟨b1, 0, none⟩ = some (.string s14) ∧ Eff prog (Builtin.delete_ #[67, 9] 0 #[(.map m13), (.string s14)]) σ1 (fun v_2 σ1_2 => ∃ q15 : Option Addr, Hp.ld σ1_2 ⟨b0, 0, none⟩ = some (.pointer q15) ∧ ∃ (b16 o16 : Nat), q15 = some ⟨b16, o16, none⟩ ∧ ∃ m18 : Option Nat, Hp.ld σ1_2 ⟨b16, o16, none⟩ = some (.map m18) ∧ ∃ s19 : ByteArray, Hp.ld σ1_2 ⟨b2, 0, none⟩ = some (.string s19) ∧ Eff prog (Instr.mapUpdate 67 (.map m18) (.string s19) (.pointer q9)) σ1_2 (fun _ σ1_3 => R (.returned (.tuple #[])) σ1_3)))) : Spec prog 101 #[(.pointer (some ⟨b0, 0, none⟩)), (.pointer (some ⟨b1, 0, none⟩)), (.pointer (some ⟨b2, 0, none⟩))] σ R := by
 refine Spec.of_at (fn := f101) (c := K0) func101 (by kernel_rfl) (Nat.le_of_ble_eq_true (by kernel_rfl)) (fun e he => ?_)
 refine At.ofL (l := [(0, (.pointer (some ⟨b0, 0, none⟩))), (1, (.pointer (some ⟨b1, 0, none⟩))), (2, (.pointer (some ⟨b2, 0, none⟩)))]) ⟨he 0, he 1, he 2, trivial⟩ (fun J => ?_)
 show At (gl R) _ _ _ _
 refine At.s K1 K2 ?_
 refine At.draw (id := 0) (ops := cO K1) (n := 7) (q := (some [])) (plan := [(0, true), (1, true), (2, true), (3, true), (4, true), (5, false), (6, true)]) (tl := []) mixed (by kernel_rfl) (by kernel_rfl) ?_
 obtain ⟨q4, hl, h⟩ := h
 refine Head.yl b0 [[5, 3, 2, 1]] rfl (by kernel_rfl) (d := (some 4)) (op := (.load 24 (.tmp 0))) (ty := 24) (v := (.pointer q4)) (by kernel_rfl) rfl (Y.ld isAgg24 rfl (lim_ld hl)) ?_
 obtain ⟨b5, o5, hq, h⟩ := h
 subst hq
 refine Head.z 5 (.nilCheck (.tmp 4)) 0 (.pointer (some ⟨b5, o5, none⟩)) (Y.nilCheck rfl) ?_
 refine Head.z 6 (.fieldAddr 69 (.tmp 5) 0) 0 (.pointer (some ⟨b5, o5, none⟩)) (Y.fieldAddr (fd := (fieldOf prog 69 0)) underlying69 (by kernel_rfl) sizeOf67 rfl rfl) ?_
 obtain ⟨m7, hl, h⟩ := h
 refine Head.yl b5 [[5]] rfl (by kernel_rfl) (d := (some 7)) (op := (.load 67 (.tmp 6))) (ty := 67) (v := (.map m7)) (by kernel_rfl) rfl (Y.ld isAgg67 rfl (lim_ld hl)) ?_
 obtain ⟨s8, hl, h⟩ := h
 refine Head.yl b1 [[5]] rfl (by kernel_rfl) (d := (some 8)) (op := (.load 9 (.tmp 1))) (ty := 9) (v := (.string s8)) (by kernel_rfl) rfl (Y.ld isAgg9 rfl (lim_ld hl)) ?_
 refine Head.o (q' := (some [])) rfl ?_
 refine OpTo.eff (d := (some 9)) (op := (.lookup 67 (.tmp 7) (.tmp 8) false)) (ty := 84) (gd := none) (by kernel_rfl) rfl rfl (Instr.lookup 67 (.map m7) (.string s8) false) (fun o ho ht => by simp only [execOp, ho]; rfl) (h.mono (fun v σ1 h2 => ?_)); replace h := h2; clear h2
 obtain ⟨q9, rfl, h⟩ := h
 refine ⟨⟨fun _ h => h, kp_q (L := []) Kp.nil⟩, ?_⟩
 refine Head.u 3 (.pointer q9) ?_
 refine Head.done ?_
 refine Seq.done ?_
 refine At.s K3 K4 ?_
 refine At.draw (id := 1) (ops := cO K3) (n := 5) (q := none) (plan := [(0, true), (1, true), (2, true), (3, true), (4, true)]) (tl := [5]) mixed (by kernel_rfl) (by kernel_rfl) ?_
 obtain ⟨q10, hl, h⟩ := h
 refine Head.z 10 (.load 24 (.tmp 0)) 24 (.pointer q10) (Y.ld isAgg24 rfl hl) ?_
 obtain ⟨b11, o11, hq, h⟩ := h
 subst hq
 refine Head.z 11 (.nilCheck (.tmp 10)) 0 (.pointer (some ⟨b11, o11, none⟩)) (Y.nilCheck rfl) ?_
 refine Head.z 12 (.fieldAddr 69 (.tmp 11) 0) 0 (.pointer (some ⟨b11, o11, none⟩)) (Y.fieldAddr (fd := (fieldOf prog 69 0)) underlying69 (by kernel_rfl) sizeOf67 rfl rfl) ?_
 obtain ⟨m13, hl, h⟩ := h
 refine Head.z 13 (.load 67 (.tmp 12)) 67 (.map m13) (Y.ld isAgg67 rfl hl) ?_
 obtain ⟨s14, hl, h⟩ := h
 refine Head.z 14 (.load 9 (.tmp 1)) 9 (.string s14) (Y.ld isAgg9 rfl hl) ?_
 refine Head.done ?_
 refine Seq.o ?_
 refine OpTo.eff (d := none) (op := (.call { callee := .builtin .delete, args := #[(.tmp 13), (.tmp 14)], argTypes := #[67, 9] })) (ty := 0) (gd := none) (by kernel_rfl) rfl rfl (Builtin.delete_ #[67, 9] 0 #[(.map m13), (.string s14)]) (fun o ho ht => exec_b_delete rfl rfl o ho ht) (h.mono (fun v_2 σ1_2 h2 => ?_)); replace h := h2; clear h2
 refine Seq.done ?_
 refine At.draw (id := 2) (ops := cO K4) (n := 6) (q := none) (plan := [(0, true), (1, true), (2, true), (3, true), (4, true), (5, true)]) (tl := [6]) mixed (by kernel_rfl) (by kernel_rfl) ?_
 obtain ⟨q15, hl, h⟩ := h
 refine Head.z 15 (.load 24 (.tmp 0)) 24 (.pointer q15) (Y.ld isAgg24 rfl hl) ?_
 obtain ⟨b16, o16, hq, h⟩ := h
 subst hq
 refine Head.z 16 (.nilCheck (.tmp 15)) 0 (.pointer (some ⟨b16, o16, none⟩)) (Y.nilCheck rfl) ?_
 refine Head.z 17 (.fieldAddr 69 (.tmp 16) 0) 0 (.pointer (some ⟨b16, o16, none⟩)) (Y.fieldAddr (fd := (fieldOf prog 69 0)) underlying69 (by kernel_rfl) sizeOf67 rfl rfl) ?_
 obtain ⟨m18, hl, h⟩ := h
 refine Head.z 18 (.load 67 (.tmp 17)) 67 (.map m18) (Y.ld isAgg67 rfl hl) ?_
 obtain ⟨s19, hl, h⟩ := h
 refine Head.z 19 (.load 9 (.tmp 2)) 9 (.string s19) (Y.ld isAgg9 rfl hl) ?_
 refine Head.u 20 (.pointer q9) ?_
 refine Head.done ?_
 refine Seq.o ?_
 refine OpTo.effU (d := none) (op := (.mapUpdate 67 (.tmp 18) (.tmp 19) (.tmp 20))) (ty := 0) (gd := none) (by kernel_rfl) rfl rfl (Instr.mapUpdate 67 (.map m18) (.string s19) (.pointer q9)) (fun o ho ht => by simp only [execOp, ho]; rfl) (h.mono (fun _ σ1_3 h2 => ?_)); replace h := h2; clear h2
 refine Seq.done ?_
 exact At.doneV (rs := []) (vs := []) func101 (by kernel_rfl) rfl h
end disk_Disk_Rename_2

end
end TwW
end
section
namespace TwW
open Go Tw Go.Proofs.Tryz
instance : MpT prog 67 9 84 := ⟨underlying67, underlying9⟩
theorem zero84 : ∀ w, (zeroValue 84).run prog w = .ok (.pointer none) w := fun w => by
  have h : prog.info? 84 = some t84 := by kernel_rfl
  have hz : t84.zero = some (.pointer none) := by kernel_rfl
  simp [zeroValue, typeInfo, h, hz, Result.andThen]
def okc (u : UInt8) : Bool := (97 ≤ u.toNat && u.toNat ≤ 122) || (48 ≤ u.toNat && u.toNat ≤ 57) || u.toNat == 47 || u.toNat == 46 || u.toNat == 45
def nameOk (s : ByteArray) : Bool := decide (0 < s.size) && decide (s.size ≤ 64) && s.data.toList.all okc
structure Fl where
  data : List Int
  syn : Nat
structure Dk where
  files : ByteArray → Option Fl
  up : Bool
  armed : Bool
  cnt : Nat
structure Row where
  name : ByteArray
  f : Nat
  born : Nat
  T : TypeId
  p : Option Addr
  c : Nat
  fl : Fl
abbrev Row.n (r : Row) : Nat := r.fl.data.length
def Row.ent (r : Row) : MapEntry := Tw.ent r.name (.pointer (some ⟨r.f, 0, none⟩)) r.born
def Row.blocks (r : Row) : List Nat := r.f :: blk r.p
structure RowAt (σ : Hp) (r : Row) : Prop where
  obj : σ r.f = some (.cells #[.slice r.p r.n r.c, .int .i64 r.fl.syn] r.T (0, 0))
  own : OwnI .u8 σ r.p r.n r.c r.fl.data
  syn : r.fl.syn ≤ r.n
  small : r.n ≤ 4194304
  nm : nameOk r.name = true
def Row.look (rows : List Row) (s : ByteArray) : Option Fl := (rows.find? fun r => decide (r.name = s)).map (·.fl)
def foot (d m : Nat) (rows : List Row) : List Nat := d :: m :: rows.flatMap Row.blocks
structure DiskIn (σ : Hp) (d : Nat) (D : Dk) (S : List Nat) (m clock : Nat) (rows : List Row) (T : TypeId) (left keep writes : Int) : Prop where
  foot : S = foot d m rows
  ne : m ≠ d
  sep : rows.Pairwise fun r s => ∀ b ∈ r.blocks, b ∉ s.blocks
  out : ∀ r ∈ rows, r.f ∉ blk r.p ∧ d ∉ r.blocks ∧ m ∉ r.blocks
  obj : σ d = some (.cells #[.map (some m), .bool D.up, .bool D.armed, .int .i64 left, .int .i64 keep, .int .u64 writes] T (0, 0))
  map : MapAt σ m (rows.map Row.ent) clock
  row : ∀ r ∈ rows, RowAt σ r
  files : D.files = Row.look rows
  cnt : rows.length ≤ D.cnt
def DiskAt (σ : Hp) (d : Nat) (D : Dk) (S : List Nat) : Prop := ∃ m clock rows T left keep writes, DiskIn σ d D S m clock rows T left keep writes
theorem Own.loc {s : Nat} {σ σ' : Hp} {p : Option Addr} {n c : Nat} {cs : List Value} (h : Own s σ p n c cs) (hs : ∀ b ∈ blk p, σ' b = σ b) : Own s σ' p n c cs := by
  refine ⟨h.1, h.2.1, h.2.2.imp id ?_⟩
  rintro ⟨b, o, arr, T, rfl, hb, r⟩
  exact ⟨b, o, arr, T, rfl, (hs b (by simp [blk])).trans hb, r⟩
theorem RowAt.loc {σ σ' : Hp} {r : Row} (h : RowAt σ r) (hs : ∀ b ∈ r.blocks, σ' b = σ b) : RowAt σ' r :=
  ⟨(hs _ (by simp [Row.blocks])).trans h.obj, Own.loc h.own fun b hb => hs b (by simp [Row.blocks, hb]), h.syn, h.small, h.nm⟩
theorem RowAt.mono {σ σ' : Hp} {r : Row} (h : RowAt σ r) (hx : Ext σ σ') : RowAt σ' r := ⟨hx _ _ h.obj, Own.mono hx h.own, h.syn, h.small, h.nm⟩
theorem RowAt.known {σ : Hp} {r : Row} (h : RowAt σ r) : ∀ b ∈ r.blocks, σ b ≠ none := by
  intro b hb
  rcases List.mem_cons.1 hb with rfl | hb
  · rw [h.obj]; simp
  · cases hp : r.p with
    | none => rw [hp] at hb; cases hb
    | some a => rw [hp] at hb; simp [blk] at hb; subst hb; exact h.own.block a hp
theorem mem_foot {d m b : Nat} {rows : List Row} : b ∈ foot d m rows ↔ b = d ∨ b = m ∨ ∃ r ∈ rows, b ∈ r.blocks := by simp [foot]
section
variable {σ σ' : Hp} {d : Nat} {D : Dk} {S : List Nat} {m clock : Nat} {rows : List Row} {T : TypeId} {left keep writes : Int}
theorem DiskIn.loc (h : DiskIn σ d D S m clock rows T left keep writes) (hs : ∀ b ∈ S, σ' b = σ b) : DiskIn σ' d D S m clock rows T left keep writes := by
  have hS := h.foot
  subst hS
  refine ⟨rfl, h.ne, h.sep, h.out, (hs d (by simp [TwW.foot])).trans h.obj, h.map.loc (hs m (by simp [TwW.foot])), fun r hr => (h.row r hr).loc fun b hb => hs b (mem_foot.2 (.inr (.inr ⟨r, hr, hb⟩))), h.files, h.cnt⟩
theorem DiskIn.known (h : DiskIn σ d D S m clock rows T left keep writes) : ∀ b ∈ S, σ b ≠ none := by
  have hS := h.foot
  subst hS
  intro b hb
  rcases mem_foot.1 hb with rfl | rfl | ⟨r, hr, hb⟩
  · rw [h.obj]; simp
  · rw [h.map.1]; simp
  · exact (h.row r hr).known b hb
theorem DiskIn.mono (h : DiskIn σ d D S m clock rows T left keep writes) (hx : Ext σ σ') : DiskIn σ' d D S m clock rows T left keep writes := h.loc fun b hb => by
  cases hs : σ b with
  | none => exact absurd hs (h.known b hb)
  | some o => exact hx b o hs
theorem DiskAt.mono (h : DiskAt σ d D S) (hx : Ext σ σ') : DiskAt σ' d D S := by
  obtain ⟨m, c, r, T, a, b, e, h⟩ := h; exact ⟨m, c, r, T, a, b, e, h.mono hx⟩
theorem DiskAt.known (h : DiskAt σ d D S) : ∀ b ∈ S, σ b ≠ none := by obtain ⟨m, c, r, T, a, b, e, h⟩ := h; exact h.known
theorem DiskAt.loc (h : DiskAt σ d D S) (hs : ∀ b ∈ S, σ' b = σ b) : DiskAt σ' d D S := by
  obtain ⟨m, c, r, T, a, b, e, h⟩ := h; exact ⟨m, c, r, T, a, b, e, h.loc hs⟩
theorem DiskAt.off (h : DiskAt σ d D S) {S' : List Nat} (hs : ∀ b ∈ S', b ∉ S) : DiskAt (σ.off S') d D S := h.loc fun b hb => Hp.off_out fun h' => hs b h' hb
theorem DiskIn.d_mem (h : DiskIn σ d D S m clock rows T left keep writes) : d ∈ S := by rw [h.foot]; simp [TwW.foot]
theorem DiskIn.m_mem (h : DiskIn σ d D S m clock rows T left keep writes) : m ∈ S := by rw [h.foot]; simp [TwW.foot]
theorem DiskIn.r_mem (h : DiskIn σ d D S m clock rows T left keep writes) {r : Row} (hr : r ∈ rows) {b : Nat} (hb : b ∈ r.blocks) : b ∈ S := by rw [h.foot]; exact mem_foot.2 (.inr (.inr ⟨r, hr, hb⟩))
theorem DiskAt.d_mem (h : DiskAt σ d D S) : d ∈ S := by obtain ⟨m, c, r, T, a, b, e, h⟩ := h; exact h.d_mem
theorem DiskIn.put (h : DiskIn σ d D S m clock rows T left keep writes) {up armed : Bool} {left' keep' writes' : Int} {cnt : Nat} (hc : rows.length ≤ cnt) :
    DiskIn (σ.set d (.cells #[.map (some m), .bool up, .bool armed, .int .i64 left', .int .i64 keep', .int .u64 writes'] T (0, 0))) d ⟨D.files, up, armed, cnt⟩ S m clock rows T left' keep' writes' := by
  have hS := h.foot
  subst hS
  refine ⟨rfl, h.ne, h.sep, h.out, Hp.set_same _ _ _, h.map.loc (Hp.set_ne h.ne), fun r hr => (h.row r hr).loc fun b hb => Hp.set_ne fun e => (h.out r hr).2.1 (e ▸ hb), h.files, hc⟩
theorem Row.look_none {s : ByteArray} (h : ∀ r ∈ rows, r.name ≠ s) : Row.look rows s = none := by
  unfold Row.look
  rw [List.find?_eq_none.2 (by simpa using h)]; rfl
theorem Row.look_at {r : Row} {r1 r2 : List Row} (hn : ((r1 ++ r :: r2).map (·.name)).Nodup) : Row.look (r1 ++ r :: r2) r.name = some r.fl := by
  unfold Row.look
  have : ∀ x ∈ r1, ¬ (decide (x.name = r.name)) = true := fun x hx => by
    simp only [List.map_append, List.map_cons] at hn
    have := (List.nodup_append.1 hn).2.2 x.name (List.mem_map.2 ⟨x, hx, rfl⟩) r.name (by simp)
    simpa using this
  rw [List.find?_append, List.find?_eq_none.2 this]
  simp
theorem DiskIn.names (h : DiskIn σ d D S m clock rows T left keep writes) : (rows.map (·.name)).Nodup := by
  have := h.map.nodup
  rw [List.map_map] at this
  have e : (rows.map ((fun e : MapEntry => e.key) ∘ Row.ent)) = (rows.map (·.name)).map Value.string := by rw [List.map_map]; rfl
  rw [e] at this
  rw [List.Nodup, List.pairwise_map] at this
  exact this.imp fun hne e => hne (by rw [e])
def fput (fs : ByteArray → Option Fl) (s : ByteArray) (x : Option Fl) : ByteArray → Option Fl := fun n => if n = s then x else fs n
theorem Row.look_cons {r : Row} {s : ByteArray} : Row.look (r :: rows) s = if r.name = s then some r.fl else Row.look rows s := by
  unfold Row.look
  rw [List.find?_cons]
  by_cases h : r.name = s <;> simp [h]
theorem Row.look_append {r1 r2 : List Row} {s : ByteArray} : Row.look (r1 ++ r2) s = (Row.look r1 s).or (Row.look r2 s) := by
  unfold Row.look
  rw [List.find?_append]
  cases List.find? (fun r => decide (r.name = s)) r1 <;> simp
theorem names_split {r : Row} {r1 r2 : List Row} (hn : ((r1 ++ r :: r2).map (·.name)).Nodup) : (∀ x ∈ r1, x.name ≠ r.name) ∧ ∀ x ∈ r2, x.name ≠ r.name := by
  simp only [List.map_append, List.map_cons] at hn
  have h := List.nodup_append.1 hn
  have h2 := List.nodup_cons.1 h.2.1
  exact ⟨fun x hx => h.2.2 x.name (List.mem_map.2 ⟨x, hx, rfl⟩) r.name (by simp), fun x hx e => h2.1 (e ▸ List.mem_map.2 ⟨x, hx, rfl⟩)⟩
theorem Row.look_change {r r' : Row} {r1 r2 : List Row} (hn : ((r1 ++ r :: r2).map (·.name)).Nodup) (h : r'.name = r.name) : Row.look (r1 ++ r' :: r2) = fput (Row.look (r1 ++ r :: r2)) r.name (some r'.fl) := by
  funext s
  have h1 := (names_split hn).1
  simp only [Row.look_append, Row.look_cons, fput, h]
  by_cases hs : s = r.name
  · subst hs
    simp [Row.look_none h1]
  · simp [hs, Ne.symm hs]
theorem Row.look_push {r : Row} (h : ∀ x ∈ rows, x.name ≠ r.name) : Row.look (rows ++ [r]) = fput (Row.look rows) r.name (some r.fl) := by
  funext s
  simp only [Row.look_append, Row.look_cons, fput]
  by_cases hs : s = r.name
  · subst hs
    simp [Row.look_none h]
  · simp [hs, Ne.symm hs, Row.look]
theorem Row.look_del {r : Row} {r1 r2 : List Row} (hn : ((r1 ++ r :: r2).map (·.name)).Nodup) : Row.look (r1 ++ r2) = fput (Row.look (r1 ++ r :: r2)) r.name none := by
  funext s
  have h1 := names_split hn
  simp only [Row.look_append, Row.look_cons, fput]
  by_cases hs : s = r.name
  · subst hs
    simp [Row.look_none h1.1, Row.look_none h1.2]
  · simp [hs, Ne.symm hs]
theorem DiskIn.change {r r' : Row} {r1 r2 : List Row} (h : DiskIn σ d D S m clock (r1 ++ r :: r2) T left keep writes) (hname : r'.name = r.name) (hf : r'.f = r.f) (hb : r'.born = r.born) (hr : RowAt σ' r') (hne : r'.f ∉ blk r'.p)
    (hx : Ext (σ.off r.blocks) (σ'.off r'.blocks)) :
    DiskIn σ' d { D with files := fput D.files r.name (some r'.fl) } (TwW.foot d m (r1 ++ r' :: r2)) m clock (r1 ++ r' :: r2) T left keep writes ∧ Ext (σ.off S) (σ'.off (TwW.foot d m (r1 ++ r' :: r2))) := by
  have hout := h.out
  have hsep := h.sep
  have hrow := h.row
  have hin : r ∈ r1 ++ r :: r2 := by simp
  have keep : ∀ b, b ∉ r.blocks → σ b ≠ none → σ' b = σ b ∧ b ∉ r'.blocks := fun b h1 h2 => by
    cases hs : σ b with
    | none => exact absurd hs h2
    | some o =>
      have := Hp.off_some.1 (hx b o (Hp.off_some.2 ⟨h1, hs⟩))
      exact ⟨this.2, this.1⟩
  have hd := keep d (hout r hin).2.1 (by rw [h.obj]; simp)
  have hm := keep m (hout r hin).2.2 (by rw [h.map.1]; simp)
  rw [List.pairwise_append, List.pairwise_cons] at hsep
  have o1 : ∀ x ∈ r1, ∀ b ∈ x.blocks, σ' b = σ b ∧ b ∉ r'.blocks := fun x hx b hb => keep b (hsep.2.2 x hx r (by simp) b hb) ((hrow x (by simp [hx])).known b hb)
  have o2 : ∀ x ∈ r2, ∀ b ∈ x.blocks, σ' b = σ b ∧ b ∉ r'.blocks := fun x hx b hb => keep b (fun hb' => hsep.2.1.1 x hx b hb' hb) ((hrow x (by simp [hx])).known b hb)
  refine ⟨⟨rfl, h.ne, ?_, ?_, hd.1.trans h.obj, ?_, ?_, ?_, ?_⟩, ?_⟩
  · rw [List.pairwise_append, List.pairwise_cons]
    refine ⟨hsep.1, ⟨fun x hx b hb hb' => (o2 x hx b hb').2 hb, hsep.2.1.2⟩, fun x hx1 y hy b hb2 => ?_⟩
    rcases List.mem_cons.1 hy with rfl | hy
    · exact (o1 x hx1 b hb2).2
    · exact hsep.2.2 x hx1 y (by simp [hy]) b hb2
  · intro x hx
    rcases List.mem_append.1 hx with hx | hx
    · exact hout x (by simp [hx])
    · rcases List.mem_cons.1 hx with rfl | hx
      · exact ⟨hne, hd.2, hm.2⟩
      · exact hout x (by simp [hx])
  · have : (r1 ++ r' :: r2).map Row.ent = (r1 ++ r :: r2).map Row.ent := by simp [Row.ent, hname, hf, hb]
    rw [this]; exact h.map.loc hm.1
  · intro x hx
    rcases List.mem_append.1 hx with hx | hx
    · exact (hrow x (by simp [hx])).loc fun b hb => (o1 x hx b hb).1
    · rcases List.mem_cons.1 hx with rfl | hx
      · exact hr
      · exact (hrow x (by simp [hx])).loc fun b hb => (o2 x hx b hb).1
  · show fput D.files r.name _ = _
    rw [h.files, Row.look_change h.names hname]
  · have := h.cnt; simpa using this
  · intro b o hb
    obtain ⟨hbS, hbo⟩ := Hp.off_some.1 hb
    rw [h.foot, mem_foot] at hbS
    have hk := keep b (fun hb' => hbS (.inr (.inr ⟨r, hin, hb'⟩))) (by rw [hbo]; simp)
    refine Hp.off_some.2 ⟨fun hb' => ?_, hk.1.trans hbo⟩
    rcases mem_foot.1 hb' with e | e | ⟨x, hx, hxb⟩
    · exact hbS (.inl e)
    · exact hbS (.inr (.inl e))
    · rcases List.mem_append.1 hx with hx | hx
      · exact hbS (.inr (.inr ⟨x, by simp [hx], hxb⟩))
      · rcases List.mem_cons.1 hx with rfl | hx
        · exact hk.2 hxb
        · exact hbS (.inr (.inr ⟨x, by simp [hx], hxb⟩))
theorem DiskIn.remap (h : DiskIn σ d D S m clock rows T left keep writes) {rows' : List Row} {clock' : Nat} {fs : ByteArray → Option Fl} {cnt : Nat} (hσ : ∀ b, b ≠ m → σ' b = σ b) (hm : MapAt σ' m (rows'.map Row.ent) clock')
    (hrow : ∀ r ∈ rows', RowAt σ r) (hin : ∀ r ∈ rows', ∀ b ∈ r.blocks, b ∈ S ∧ b ≠ d ∧ b ≠ m) (hself : ∀ r ∈ rows', r.f ∉ blk r.p) (hsep : rows'.Pairwise fun r s => ∀ b ∈ r.blocks, b ∉ s.blocks) (hfs : fs = Row.look rows') (hc : rows'.length ≤ cnt) :
    DiskIn σ' d ⟨fs, D.up, D.armed, cnt⟩ (TwW.foot d m rows') m clock' rows' T left keep writes ∧ Ext (σ.off S) (σ'.off (TwW.foot d m rows')) := by
  refine ⟨⟨rfl, h.ne, hsep, fun r hr => ⟨hself r hr, fun hd => (hin r hr d hd).2.1 rfl, fun hm => (hin r hr m hm).2.2 rfl⟩, (hσ d (Ne.symm h.ne)).trans h.obj, hm, fun r hr => (hrow r hr).loc fun b hb => hσ b (hin r hr b hb).2.2, hfs, hc⟩, fun b o hb => ?_⟩
  obtain ⟨hbS, hbo⟩ := Hp.off_some.1 hb
  refine Hp.off_some.2 ⟨fun hb' => ?_, (hσ b fun e => hbS (e ▸ h.m_mem)).trans hbo⟩
  rcases mem_foot.1 hb' with e | e | ⟨x, hx, hxb⟩
  · exact hbS (e ▸ h.d_mem)
  · exact hbS (e ▸ h.m_mem)
  · exact hbS (hin x hx b hxb).1
theorem DiskIn.push (h : DiskIn σ d D S m clock rows T left keep writes) {r : Row} (hno : ∀ x ∈ rows, x.name ≠ r.name) (hb : σ r.f = none) (hp : r.p = none) (hσ : ∀ b, b ≠ m → b ≠ r.f → σ' b = σ b) (hr : RowAt σ' r) {clock' : Nat} (hm : MapAt σ' m ((rows ++ [r]).map Row.ent) clock') :
    DiskIn σ' d ⟨fput D.files r.name (some r.fl), D.up, D.armed, D.cnt + 1⟩ (TwW.foot d m (rows ++ [r])) m clock' (rows ++ [r]) T left keep writes ∧ Ext (σ.off S) (σ'.off (TwW.foot d m (rows ++ [r]))) := by
  have hbl : r.blocks = [r.f] := by simp [Row.blocks, hp, blk]
  have hS : r.f ∉ S := fun hs => h.known _ hs hb
  have hk : ∀ x ∈ rows, ∀ b ∈ x.blocks, b ≠ r.f := fun x hx b hb' e => hS (e ▸ h.r_mem hx hb')
  refine ⟨⟨rfl, h.ne, ?_, ?_, (hσ d (Ne.symm h.ne) fun e => hS (e ▸ h.d_mem)).trans h.obj, hm, ?_, ?_, ?_⟩, fun b o hb' => ?_⟩
  · rw [List.pairwise_append]
    refine ⟨h.sep, by simp, fun x hx y hy b hb' => ?_⟩
    simp only [List.mem_singleton] at hy
    subst hy
    rw [hbl]; simpa using hk x hx b hb'
  · intro x hx
    rcases List.mem_append.1 hx with hx | hx
    · exact h.out x hx
    · simp only [List.mem_singleton] at hx
      subst hx
      rw [hbl, hp]
      exact ⟨by simp [blk], fun e => hS (List.mem_singleton.1 e ▸ h.d_mem), fun e => hS (List.mem_singleton.1 e ▸ h.m_mem)⟩
  · intro x hx
    rcases List.mem_append.1 hx with hx | hx
    · exact (h.row x hx).loc fun b hb' => hσ b (fun e => (h.out x hx).2.2 (e ▸ hb')) (hk x hx b hb')
    · simp only [List.mem_singleton] at hx
      subst hx; exact hr
  · show fput D.files r.name _ = _
    rw [h.files, Row.look_push hno]
  · have := h.cnt; simpa using this
  · obtain ⟨hbS, hbo⟩ := Hp.off_some.1 hb'
    have h1 : b ≠ r.f := fun e => by rw [e, hb] at hbo; cases hbo
    refine Hp.off_some.2 ⟨fun hb2 => ?_, (hσ b (fun e => hbS (e ▸ h.m_mem)) h1).trans hbo⟩
    rcases mem_foot.1 hb2 with e | e | ⟨x, hx, hxb⟩
    · exact hbS (e ▸ h.d_mem)
    · exact hbS (e ▸ h.m_mem)
    · rcases List.mem_append.1 hx with hx | hx
      · exact hbS (h.r_mem hx hxb)
      · simp only [List.mem_singleton] at hx
        subst hx
        rw [hbl] at hxb
        exact h1 (by simpa using hxb)
theorem ents_split {l1 l2 : List MapEntry} {e : MapEntry} (h : rows.map Row.ent = l1 ++ e :: l2) : ∃ r1 r r2, rows = r1 ++ r :: r2 ∧ r1.map Row.ent = l1 ∧ r.ent = e ∧ r2.map Row.ent = l2 := by
  obtain ⟨r1, r', rfl, h1, h2⟩ := List.map_eq_append_iff.1 h
  obtain ⟨r, r2, rfl, h3, h4⟩ := List.map_eq_cons_iff.1 h2
  exact ⟨r1, r, r2, rfl, h1, h3, h4⟩
theorem ent_key {r : Row} {s : ByteArray} : r.ent.key = .string s ↔ r.name = s := by simp [Row.ent]
theorem ents_none {s : ByteArray} (h : ∀ x ∈ rows.map Row.ent, x.key ≠ .string s) : ∀ r ∈ rows, r.name ≠ s := fun r hr e => h r.ent (List.mem_map.2 ⟨r, hr, rfl⟩) (ent_key.2 e)
theorem DiskAt.names (h : DiskAt σ d D S) : ∀ s, (D.files s).isSome = true → nameOk s = true := fun s hs => by
  obtain ⟨m, c, rows, T, a, b, e, h⟩ := h
  rw [h.files, Row.look] at hs
  cases hf : rows.find? (fun r => decide (r.name = s)) with
  | none => rw [hf] at hs; cases hs
  | some r =>
    have h1 := (h.row r (List.mem_of_find?_eq_some hf)).nm
    have h2 := List.find?_some hf
    simp only [decide_eq_true_eq] at h2
    rw [← h2]; exact h1
theorem DiskIn.look (h : DiskIn σ d D S m clock rows T left keep writes) {s : ByteArray} {Φ : Value → Hp → Prop} (h0 : (∀ r ∈ rows, r.name ≠ s) → D.files s = none → Φ (.pointer none) σ)
    (h1 : ∀ r1 r r2, rows = r1 ++ r :: r2 → r.name = s → D.files s = some r.fl → Φ (.pointer (some ⟨r.f, 0, none⟩)) σ) : Eff prog (Instr.lookup 67 (.map (some m)) (.string s) false) σ Φ := by
  refine lookup_eff h.map zero84 (fun hn => h0 (ents_none hn) (by rw [h.files]; exact Row.look_none (ents_none hn))) fun l1 e l2 hl he => ?_
  obtain ⟨r1, r, r2, hrows, _, rfl, _⟩ := ents_split hl
  have hn := h.names
  rw [hrows] at hn
  refine h1 r1 r r2 hrows (ent_key.1 he) ?_
  rw [h.files, hrows, ← ent_key.1 he, Row.look_at hn]
end
end TwW
end
section
namespace TwW
open Go Tw Go.Proofs.Tryz
theorem ld_of {σ : Hp} {b o : Nat} {c : Array Value} {t : TypeId} {fr : Nat × Nat} {v : Value} (h : σ b = some (.cells c t fr)) (hv : c[o]? = some v) : σ.ld ⟨b, o, none⟩ = some v := by simp [Hp.ld, h, hv]
theorem size23 : ∀ w, (Go.sizeOf 23).run prog w = .ok 1 w := fun w => by
  have h : prog.info? 23 = some t23 := by kernel_rfl
  simp [Go.sizeOf, typeInfo, h, show t23.size = 1 from rfl]
theorem size4 : ∀ w, (Go.sizeOf 4).run prog w = .ok 1 w := fun w => by
  have h : prog.info? 4 = some t4 := by kernel_rfl
  simp [Go.sizeOf, typeInfo, h, show t4.size = 1 from rfl]
theorem size3 : ∀ w, (Go.sizeOf 3).run prog w = .ok 1 w := fun w => by
  have h : prog.info? 3 = some t3 := by kernel_rfl
  simp [Go.sizeOf, typeInfo, h, show t3.size = 1 from rfl]
theorem size56 : ∀ w, (Go.sizeOf 56).run prog w = .ok 1 w := fun w => by
  have h : prog.info? 56 = some t56 := by kernel_rfl
  simp [Go.sizeOf, typeInfo, h, show t56.size = 1 from rfl]
theorem name_spec {R : Ending → Hp → Prop} {σ : Hp} {s : ByteArray} (h : R (.returned (.bool (nameOk s))) σ) : Spec prog disk_Name.fid #[.string s] σ R := by
  refine disk_Name.start ⟨fun h0 => ?_, fun h0 => ⟨fun h1 => ?_, fun h1 => ?_⟩⟩
  · have : nameOk s = false := by
      have : s = ⟨#[]⟩ := by
        have := eq_of_beq h0
        rw [ByteArray.toList_eq, ByteArray.toList_eq] at this
        exact ByteArray.ext (Array.toList_inj.1 this)
      subst this; rfl
    rwa [this] at h
  · have : nameOk s = false := by
      have : ¬ s.size ≤ 64 := by omega
      simp [nameOk, this]
    rwa [this] at h
  · have hs0 : 0 < s.size := by
      rcases Nat.eq_zero_or_pos s.size with hz | hz
      · exfalso
        have : s = ⟨#[]⟩ := ByteArray.ext (Array.eq_empty_of_size_eq_zero hz)
        subst this; simp at h0
      · exact hz
    have hs1 : s.size ≤ 64 := by omega
    have hsz : s.data.toList.length = s.size := rfl
    suffices H : ∀ d k : Nat, s.size - k = d → k ≤ s.size → (s.data.toList.take k).all okc = true → disk_Name.pt17 R s k σ from H s.size 0 rfl (Nat.zero_le _) rfl
    intro d
    induction d with
    | zero =>
      intro k hd hk hall
      rw [List.take_of_length_le (by omega)] at hall
      have hn : nameOk s = true := by simp only [nameOk, hall, decide_eq_true hs0, decide_eq_true hs1, Bool.and_true]
      rw [hn] at h
      exact disk_Name.pt17_of ⟨fun hlt => by omega, fun _ => h⟩
    | succ d ih =>
      intro k hd hk hall
      have hk' : k < s.size := by omega
      obtain ⟨u, hu⟩ : ∃ u, s.data.toList[k]? = some u := ⟨_, List.getElem?_eq_getElem (by omega)⟩
      have hu' : s.data[Int.toNat (k : Int)]? = some u := by simpa using hu
      have hi : I64 ((k : Int) + 1) := by unfold I64; omega
      have step : okc u = true → disk_Name.pt17 R s ((k : Int) + 1) σ := fun hc => ih (k + 1) (by omega) (by omega) (by rw [take_succ' hu, List.all_append, hall]; simpa using hc)
      have bad : okc u = false → R (.returned (.bool false)) σ := fun hc => by
        have : nameOk s = false := by
          have : s.data.toList.all okc = false := by
            rw [List.all_eq_false]
            exact ⟨u, List.mem_of_getElem? hu, by simp [hc]⟩
          simp [nameOk, this]
        rwa [this] at h
      have e1 : (okc u = true) ↔ ((97 ≤ u.toNat ∧ u.toNat ≤ 122) ∨ (48 ≤ u.toNat ∧ u.toNat ≤ 57) ∨ u.toNat = 47 ∨ u.toNat = 46 ∨ u.toNat = 45) := by
        simp [okc, or_assoc]
      have good : ((97 ≤ u.toNat ∧ u.toNat ≤ 122) ∨ (48 ≤ u.toNat ∧ u.toNat ≤ 57) ∨ u.toNat = 47 ∨ u.toNat = 46 ∨ u.toNat = 45) → I64 ((k : Int) + 1) ∧ disk_Name.pt17 R s ((k : Int) + 1) σ := fun hc => ⟨hi, step (e1.2 hc)⟩
      have bad' : ¬ ((97 ≤ u.toNat ∧ u.toNat ≤ 122) ∨ (48 ≤ u.toNat ∧ u.toNat ≤ 57) ∨ u.toNat = 47 ∨ u.toNat = 46 ∨ u.toNat = 45) → R (.returned (.bool false)) σ := fun hc => bad (by
        cases ho : okc u with
        | false => rfl
        | true => exact absurd (e1.1 ho) hc)
      clear step bad e1 h ih
      refine disk_Name.pt17_of ⟨fun hlt => ⟨u, by omega, hu', ?_⟩, fun hge => by omega⟩
      generalize u.toNat = n at good bad'
      repeat' (first | refine ⟨fun _ => ?_, fun _ => ?_⟩ | exact good (by omega) | exact bad' (by omega))
def Crash (fs gs : ByteArray → Option Fl) : Prop := ∀ s, (fs s = none → gs s = none) ∧ ∀ f, fs s = some f → ∃ k, f.syn ≤ k ∧ k ≤ f.data.length ∧ gs s = some ⟨f.data.take k, k⟩
section
variable {σ : Hp} {d : Nat} {D : Dk} {S : List Nat} {R : Ending → Hp → Prop}
theorem there_spec {s : ByteArray} (hd : DiskAt σ d D S) (h0 : nameOk s = false → R (.returned (.int .i64 61)) σ) (h1 : nameOk s = true → D.files s = none → R (.returned (.int .i64 62)) σ) (h2 : ∀ f, nameOk s = true → D.files s = some f → R (.returned (.int .i64 0)) σ) :
    Spec prog disk_Disk_there.fid #[.pointer (some ⟨d, 0, none⟩), .string s] σ R := by
  refine disk_Disk_there.start (name_spec ⟨_, rfl, fun hf => h0 hf, fun ht => ?_⟩)
  obtain ⟨m, c, rows, T, a, b, e, h⟩ := hd
  refine ⟨d, 0, rfl, some m, ld_of h.obj rfl, h.look (fun hn hfs => ⟨none, rfl, fun _ => h1 ht hfs, fun hh => by simp at hh⟩) fun r1 r r2 _ _ hfs => ⟨_, rfl, fun hh => by simp at hh, fun _ => h2 _ ht hfs⟩⟩
theorem append1_pt {s : ByteArray} {p : Option Addr} {n c b2 : Nat} {xs : List Int} {m clock : Nat} {r1 r2 : List Row} {r : Row} {T : TypeId} {a b e : Int} (hd : DiskIn σ d D S m clock (r1 ++ r :: r2) T a b e)
    (h2 : (σ.off S) b2 = some (.cells #[.slice p n c] 23 (0, 0))) (hx : RdI .u8 (σ.off S) p n xs) (hlen : r.fl.data.length + n ≤ 4194304) (hs : r.name = s)
    (h : ∀ σ' S', DiskAt σ' d { D with files := fput D.files s (some ⟨r.fl.data ++ xs, r.fl.syn⟩) } S' → Ext (σ.off S) (σ'.off S') → R (.returned (.tuple #[])) σ') :
    disk_Disk_Append_1.pt10 R b2 (some ⟨r.f, 0, none⟩) σ := by
  have hr := hd.row r (by simp)
  have hout := hd.out r (by simp)
  refine disk_Disk_Append_1.pt10_of ⟨r.f, 0, rfl, r.p, r.n, r.c, ld_of hr.obj rfl, p, n, c, ld_of (Hp.off_some.1 h2).2 rfl, ?_⟩
  refine app_eff2 (T := 23) hr.own (RdC.of_map (hx.mono (Ext.of_off _ _))) OneC.map_int (by simp only [Row.n]; omega) fun p' c' σ' hown hext _ => ⟨p', r.n + n, c', rfl, ?_⟩
  have hof : σ' r.f = some (.cells #[.slice r.p r.n r.c, .int .i64 r.fl.syn] r.T (0, 0)) ∧ r.f ∉ blk p' := by
    rw [Hp.del_off, Hp.del_off] at hext
    have := Hp.off_some.1 (hext r.f _ (Hp.off_some.2 ⟨hout.1, hr.obj⟩))
    exact ⟨this.2, this.1⟩
  refine Eff.store (v := .slice p' (r.n + n) c') size23 hof.1 rfl (by simp) (by simp [Value.cells, Value.oneCell']) ?_
  have hlx : (r.fl.data ++ xs).length = r.n + n := by rw [List.length_append, hx.1]
  have hw : wrt #[Value.slice r.p r.n r.c, .int .i64 r.fl.syn] 0 (Value.slice p' (r.n + n) c').cells.toList = #[.slice p' (r.n + n) c', .int .i64 r.fl.syn] := rfl
  rw [hw]
  have key := hd.change (σ' := σ'.set r.f (.cells #[.slice p' (r.n + n) c', .int .i64 r.fl.syn] r.T (0, 0))) (r' := { r with p := p', c := c', fl := ⟨r.fl.data ++ xs, r.fl.syn⟩ }) rfl rfl rfl
    ⟨by simp [Hp.set_same, hlx], ?_, by simp only [hlx]; have := hr.syn; omega, by show (r.fl.data ++ xs).length ≤ _; rw [hlx]; exact hlen, hr.nm⟩ hof.2 ?_
  · rw [← hs] at h
    exact h _ _ ⟨_, _, _, _, _, _, _, key.1⟩ key.2
  · have : OwnI .u8 σ' p' (r.n + n) c' (r.fl.data ++ xs) := by simpa [OwnI] using hown
    simp only [hlx]
    refine Own.loc this fun b hb => Hp.set_ne fun e => hof.2 (e ▸ hb)
  · intro b o hb
    obtain ⟨h3, h4⟩ := Hp.off_some.1 hb
    simp only [Row.blocks, List.mem_cons, not_or] at h3
    rw [Hp.del_off, Hp.del_off] at hext
    have := Hp.off_some.1 (hext b o (Hp.off_some.2 ⟨h3.2, h4⟩))
    exact Hp.off_some.2 ⟨by simp [Row.blocks, h3.1, this.1], by rw [Hp.set_ne h3.1]; exact this.2⟩
def appd (fs : ByteArray → Option Fl) (s : ByteArray) (xs : List Int) : ByteArray → Option Fl := fput fs s (some ⟨((fs s).getD ⟨[], 0⟩).data ++ xs, ((fs s).getD ⟨[], 0⟩).syn⟩)
theorem append1_spec {s : ByteArray} {p : Option Addr} {n c b0 b1 b2 : Nat} {xs : List Int} (hnok : nameOk s = true) (hd : DiskAt σ d D S) (h0 : (σ.off S) b0 = some (.cells #[.pointer (some ⟨d, 0, none⟩)] 24 (0, 0))) (h1 : (σ.off S) b1 = some (.cells #[.string s] 9 (0, 0)))
    (h2 : (σ.off S) b2 = some (.cells #[.slice p n c] 23 (0, 0))) (hx : RdI .u8 (σ.off S) p n xs) (hlen : ((D.files s).getD ⟨[], 0⟩).data.length + n ≤ 4194304)
    (h : ∀ σ' S', DiskAt σ' d ⟨appd D.files s xs, D.up, D.armed, D.cnt + 1⟩ S' → Ext (σ.off S) (σ'.off S') → R (.returned (.tuple #[])) σ') :
    Spec prog disk_Disk_Append_1.fid #[.pointer (some ⟨b0, 0, none⟩), .pointer (some ⟨b1, 0, none⟩), .pointer (some ⟨b2, 0, none⟩)] σ R := by
  obtain ⟨m, cl, rows, T, a, b, e, hd⟩ := hd
  have h0' := Hp.off_some.1 h0
  have h1' := Hp.off_some.1 h1
  refine disk_Disk_Append_1.start ⟨_, ld_of h0'.2 rfl, d, 0, rfl, some m, ld_of hd.obj rfl, s, ld_of h1'.2 rfl, hd.look (fun hn hfs => ⟨none, rfl, fun _ b13 hb13 => ?_, fun hh => by simp at hh⟩) fun r1 r r2 hrows hname hfs => ⟨_, rfl, fun hh => by simp at hh, fun _ => ?_⟩⟩
  · have hne0 : b0 ≠ b13 := fun e => by rw [e, hb13] at h0'; cases h0'.2
    have hne1 : b1 ≠ b13 := fun e => by rw [e, hb13] at h1'; cases h1'.2
    have hS : b13 ∉ S := fun hs => hd.known _ hs hb13
    have hdn : d ≠ b13 := fun e => hS (e ▸ hd.d_mem)
    have hmn : m ≠ b13 := fun e => hS (e ▸ hd.m_mem)
    refine ⟨_, ld_of (by rw [Hp.set_ne hne0]; exact h0'.2) rfl, d, 0, rfl, some m, ld_of (by rw [Hp.set_ne hdn]; exact hd.obj) rfl, s, ld_of (by rw [Hp.set_ne hne1]; exact h1'.2) rfl, ?_⟩
    have hmap : MapAt (σ.set b13 (.cells #[.slice none 0 0, .int .i64 0] 86 (0, 0))) m (rows.map Row.ent) cl := hd.map.loc (Hp.set_ne hmn)
    refine mapUpdate_eff hmap (fun _ σ' hσ' hm' => ?_) fun l1 e l2 hl he => ?_
    · have key := hd.push (σ' := σ') (r := ⟨s, b13, cl, 86, none, 0, ⟨[], 0⟩⟩) hn hb13 rfl (fun b h1 h2 => by rw [hσ', Hp.set_ne h1, Hp.set_ne h2]) ⟨by rw [hσ', Hp.set_ne (Ne.symm hmn), Hp.set_same]; rfl, Own.nil, Nat.le_refl _, Nat.zero_le _, hnok⟩ (clock' := cl + 1) (by simpa [Row.ent] using hm')
      refine append1_pt (r2 := []) key.1 (key.2 _ _ h2) (hx.mono key.2) ?_ rfl fun σ'' S'' hD hE => h σ'' S'' ?_ (key.2.trans hE)
      · simpa [hfs] using hlen
      · have : appd D.files s xs = fput (fput D.files s (some ⟨[], 0⟩)) s (some ⟨[] ++ xs, 0⟩) := by
          funext k; simp only [appd, hfs, fput, Option.getD_none]; split <;> rfl
        rw [this]; exact hD
    · exfalso
      obtain ⟨r1, r, r2, hrows, _, rfl, _⟩ := ents_split hl
      exact hn r (by simp [hrows]) (ent_key.1 he)
  · subst hrows
    refine append1_pt hd h2 hx (by simpa [hfs] using hlen) hname fun σ' S' hD hE => h σ' S' ?_ hE
    have : appd D.files s xs = fput D.files s (some ⟨r.fl.data ++ xs, r.fl.syn⟩) := by simp [appd, hfs]
    rw [this]
    obtain ⟨m, cl, rows, T, a, b, e, hD⟩ := hD
    exact ⟨m, cl, rows, T, a, b, e, { hD with cnt := by have := hD.cnt; simp only at this ⊢; omega }⟩
end
end TwW
end
section
namespace TwW
open Go Tw Go.Proofs.Tryz
section
variable {σ : Hp} {d : Nat} {D : Dk} {S : List Nat} {R : Ending → Hp → Prop}
theorem DiskIn.set_ext {m clock : Nat} {rows : List Row} {T : TypeId} {left keep writes : Int} (h : DiskIn σ d D S m clock rows T left keep writes) {o : Obj} : Ext (σ.off S) ((σ.set d o).off S) := Ext.set_off h.d_mem
theorem DiskIn.st {m clock : Nat} {rows : List Row} {T : TypeId} {left keep writes : Int} (h : DiskIn σ d D S m clock rows T left keep writes) {i : Nat} {E : TypeId} {v : Value} {up armed : Bool} {left' keep' writes' : Int} (hz : ∀ w, (Go.sizeOf E).run prog w = .ok 1 w) (hv : v.cells.size = 1)
    (hi : i + 1 ≤ 6) (h1 : ∀ u ∈ v.cells.toList, u.oneCell' = true)
    (hw : wrt #[.map (some m), .bool D.up, .bool D.armed, .int .i64 left, .int .i64 keep, .int .u64 writes] i v.cells.toList = #[.map (some m), .bool up, .bool armed, .int .i64 left', .int .i64 keep', .int .u64 writes'])
    {Φ : Unit → Hp → Prop} (hΦ : ∀ σ', DiskIn σ' d ⟨D.files, up, armed, D.cnt⟩ S m clock rows T left' keep' writes' → Ext (σ.off S) (σ'.off S) → (∀ b, b ≠ d → σ' b = σ b) → Φ () σ') : Eff prog (Instr.storeAt E (.pointer (some ⟨d, i, none⟩)) v) σ Φ := by
  refine Eff.store hz h.obj hv (by simp; omega) h1 ?_
  rw [hw]
  exact hΦ _ (h.put h.cnt) h.set_ext fun b hb => Hp.set_ne hb
theorem Crash.refl {fs : ByteArray → Option Fl} (h : ∀ s f, fs s = some f → f.syn = f.data.length) : Crash fs fs := fun s => ⟨id, fun f hf => ⟨f.data.length, by rw [h s f hf]; omega, Nat.le_refl _, by rw [hf, List.take_length]; congr 1; have := h s f hf; cases f; simp at this ⊢; exact this⟩⟩
def Half (x1 : Int) (fs gs : ByteArray → Option Fl) (L : List MapEntry) : Prop :=
  ∀ s, (fs s = none → gs s = none) ∧ ∀ f, fs s = some f → (gs s = some f ∧ ∃ e ∈ L, e.key = .string s) ∨ ∃ k, f.syn ≤ k ∧ k ≤ f.data.length ∧ gs s = some ⟨f.data.take k, k⟩ ∧ (x1 = 0 → k = f.syn)
def Crash0 (fs gs : ByteArray → Option Fl) : Prop := ∀ s f, fs s = some f → gs s = some ⟨f.data.take f.syn, f.syn⟩
theorem tmod_room {x n : Int} (hx : 0 ≤ x) (hn : 0 ≤ n) : 0 ≤ Int.tmod x (n + 1) ∧ Int.tmod x (n + 1) ≤ n := by
  rw [Int.tmod_eq_emod_of_nonneg hx]
  have h1 := Int.emod_nonneg x (show n + 1 ≠ 0 by omega)
  have h2 := Int.emod_lt_of_pos x (show 0 < n + 1 by omega)
  omega
theorem Own.shrink {σ : Hp} {p : Option Addr} {n c k : Nat} {xs : List Int} {kd : IntKind} (h : OwnI kd σ p n c xs) (hk : k ≤ n) : OwnI kd σ p k c (xs.take k) := by
  have := Own.take h hk
  rw [Nat.mul_one, ← List.map_take] at this
  exact this
theorem Own.cap {s : Nat} {σ : Hp} {p : Option Addr} {n c : Nat} {cs : List Value} (h : Own s σ p n c cs) : n ≤ c := by
  rcases h.2.2 with ⟨_, h1, h2⟩ | ⟨b, o, arr, T, _, _, h3, _⟩
  · omega
  · exact h3
theorem cut_pt {σ0 : Hp} {S0 : List Nat} {i m clock : Nat} {x1 : Int} {fs : ByteArray → Option Fl} {cnt : Nat} (hi0 : σ0 i = none)
    (hR : ∀ σ' S' gs, Crash fs gs → (x1 = 0 → Crash0 fs gs) → DiskAt σ' d ⟨gs, false, false, cnt⟩ S' → Ext (σ0.off S0) (σ'.off S') → R (.returned (.tuple #[])) σ') :
    ∀ (n : Nat) (σ : Hp) (D : Dk) (S : List Nat) (rows : List Row) (L : List MapEntry) (T : TypeId) (a b e : Int), L.length = n → D.cnt = cnt → DiskIn σ d D S m clock rows T a b e → IterAt σ i m (rows.map Row.ent) L clock → (∀ x ∈ L, x ∈ rows.map Row.ent) → i ∉ S → Half x1 fs D.files L →
      Ext (σ0.off S0) (σ.off S) → disk_Disk_cut.pt6 R (some ⟨d, 0, none⟩) x1 (.pointer (some ⟨i, 0, none⟩)) σ := by
  intro n
  induction n using Nat.strongRecOn with
  | _ n ih =>
  intro σ D S rows L T a b e hL hcnt hd hi hsub hiS hh hx
  refine disk_Disk_cut.pt6_of (next_eff hd.map hi (fun h0 => .inl ⟨rfl, d, 0, rfl, ?_⟩) fun en hen henl o hit hent => .inr ?_)
  · subst h0
    refine hd.st (i := 1) (up := false) (armed := D.armed) size4 rfl (by omega) (by simp [Value.cells, Value.oneCell']) rfl fun σ1 h1 e1 _ => ?_
    refine h1.st (i := 2) (up := false) (armed := false) size4 rfl (by omega) (by simp [Value.cells, Value.oneCell']) rfl fun σ2 h2 e2 _ => ?_
    have hall : ∀ s f, fs s = some f → ∃ k, f.syn ≤ k ∧ k ≤ f.data.length ∧ D.files s = some ⟨f.data.take k, k⟩ ∧ (x1 = 0 → k = f.syn) := fun s f hf => by
      rcases (hh s).2 f hf with ⟨_, e, he, _⟩ | h
      · cases he
      · exact h
    refine hR σ2 S D.files (fun s => ⟨(hh s).1, fun f hf => ?_⟩) (fun hz s f hf => ?_) ⟨_, _, _, _, _, _, _, hcnt ▸ h2⟩ (hx.trans (e1.trans e2))
    · obtain ⟨k, h1, h2, h3, _⟩ := hall s f hf
      exact ⟨k, h1, h2, h3⟩
    · obtain ⟨k, h1, h2, h3, h4⟩ := hall s f hf
      rw [h3, h4 hz]
  · obtain ⟨l1, l2, hl⟩ := List.append_of_mem henl
    obtain ⟨r1, r, r2, rfl, _, rfl, _⟩ := ents_split hl
    have hτ : ∀ b ∈ S, (σ.set i o) b = σ b := fun b hb => Hp.set_ne fun e => hiS (e ▸ hb)
    have hdτ := hd.loc hτ
    have hmi : m ≠ i := fun e => hiS (e ▸ hd.m_mem)
    have hxτ : Ext (σ0.off S0) ((σ.set i o).off S) := fun b u hb => by
      have hbi : b ≠ i := fun e => by rw [e, Hp.off_none hi0] at hb; cases hb
      have h2 := Hp.off_some.1 (hx b u hb)
      exact Hp.off_some.2 ⟨h2.1, by rw [Hp.set_ne hbi]; exact h2.2⟩
    have hr := hdτ.row r (by simp)
    have hout := hdτ.out r (by simp)
    have hnle := hr.syn
    have hbig := hr.own.rd.big
    have hcap := Own.cap hr.own
    have hitτ := hit _ (Hp.set_same σ i o)
    have main : ∀ y : Int, 0 ≤ y → y ≤ (r.n : Int) - r.fl.syn → (x1 = 0 → y = 0) → disk_Disk_cut.pt23 R (some ⟨d, 0, none⟩) x1 (some ⟨r.f, 0, none⟩) y (.pointer (some ⟨i, 0, none⟩)) (σ.set i o) := by
      intro y hy0 hy1 hyz
      obtain ⟨k, hk⟩ : ∃ k : Nat, (k : Int) = (r.fl.syn : Int) + y := ⟨((r.fl.syn : Int) + y).toNat, by omega⟩
      refine disk_Disk_cut.pt23_of ⟨r.f, 0, rfl, r.p, r.n, r.c, ld_of hr.obj rfl, r.fl.syn, ld_of hr.obj rfl, by unfold I64; omega, by omega, ?_⟩
      refine Eff.store (v := .slice r.p (Int.toNat ((r.fl.syn : Int) + y)) r.c) size23 hr.obj rfl (by simp) (by simp [Value.cells, Value.oneCell']) ?_
      have hkt : Int.toNat ((r.fl.syn : Int) + y) = k := by omega
      rw [hkt]
      have hw : wrt #[Value.slice r.p r.n r.c, .int .i64 r.fl.syn] 0 (Value.slice r.p k r.c).cells.toList = #[.slice r.p k r.c, .int .i64 r.fl.syn] := rfl
      rw [hw]
      refine ⟨r.p, k, r.c, ld_of (Hp.set_same _ _ _) rfl, ?_⟩
      refine Eff.store (v := .int .i64 k) size3 (Hp.set_same _ _ _) rfl (by simp) (by simp [Value.cells, Value.oneCell']) ?_
      have hw : wrt #[Value.slice r.p k r.c, .int .i64 r.fl.syn] (0 + 1) (Value.int .i64 k).cells.toList = #[.slice r.p k r.c, .int .i64 k] := rfl
      rw [hw, Hp.set_set]
      have hkn : k ≤ r.fl.data.length := by simp only [Row.n] at hy1; omega
      have htl : (r.fl.data.take k).length = k := by rw [List.length_take, Nat.min_eq_left hkn]
      have key := hdτ.change (σ' := (σ.set i o).set r.f (.cells #[.slice r.p k r.c, .int .i64 k] r.T (0, 0))) (r' := { r with fl := ⟨r.fl.data.take k, k⟩ }) rfl rfl rfl
        ⟨by simp only [Hp.set_same, htl], ?_, by simp [Row.n, htl], by simp only [Row.n, htl]; exact Nat.le_trans hkn hr.small, hr.nm⟩ hout.1 ?_
      · have hri : r.f ≠ i := fun e => hiS (e ▸ hd.r_mem (r := r) (by simp) (by simp [Row.blocks]))
        have hents : (r1 ++ { r with fl := ⟨r.fl.data.take k, k⟩ } :: r2).map Row.ent = (r1 ++ r :: r2).map Row.ent := by simp [Row.ent]
        have hiσ : ((σ.set i o).set r.f (.cells #[.slice r.p k r.c, .int .i64 k] r.T (0, 0))) i = some o := by rw [Hp.set_ne (Ne.symm hri), Hp.set_same]
        refine ih _ (hL ▸ left_lt hen) _ { D with files := fput D.files r.name (some ⟨r.fl.data.take k, k⟩) } _ _ _ _ _ _ _ rfl hcnt key.1 (by rw [hents]; exact hit _ hiσ) (fun x hx => by rw [hents]; exact hsub x (List.mem_filter.1 hx).1) (fun hi' => ?_) (fun s => ?_) (hxτ.trans key.2)
        · rcases mem_foot.1 hi' with e | e | ⟨x, hx, hxb⟩
          · exact hiS (e ▸ hd.d_mem)
          · exact hmi e.symm
          · rcases List.mem_append.1 hx with hx | hx
            · exact hiS (hd.r_mem (by simp [hx]) hxb)
            · rcases List.mem_cons.1 hx with rfl | hx
              · exact hiS (hd.r_mem (r := r) (by simp) hxb)
              · exact hiS (hd.r_mem (by simp [hx]) hxb)
        · have hfr : D.files r.name = some r.fl := by rw [hd.files, Row.look_at hd.names]
          have hhs := hh s
          by_cases hs : s = r.name
          · subst hs
            refine ⟨fun h0 => ?_, fun f hf => .inr ?_⟩
            · rw [hhs.1 h0] at hfr; cases hfr
            · simp only [fput, if_true]
              rcases hhs.2 f hf with ⟨h1, _⟩ | ⟨k', h1, h2, h3, h4⟩
              · rw [h1] at hfr; cases hfr
                exact ⟨k, by omega, hkn, rfl, fun hz => by have := hyz hz; omega⟩
              · rw [h3] at hfr
                have hfl : r.fl = ⟨f.data.take k', k'⟩ := (Option.some.inj hfr).symm
                refine ⟨k, ?_, ?_, ?_, fun hz => ?_⟩
                · rw [hfl] at hk; simp only at hk; omega
                · rw [hfl] at hkn; simp at hkn; omega
                · rw [hfl, List.take_take, Nat.min_eq_left]
                  rw [hfl] at hkn; simp at hkn; omega
                · have e1 := hyz hz
                  have e2 := h4 hz
                  rw [hfl] at hk; simp only at hk; omega
          · simp only [fput, hs, if_false]
            refine ⟨hhs.1, fun f hf => (hhs.2 f hf).imp (fun ⟨h1, x, hx, hk⟩ => ⟨h1, x, List.mem_filter.2 ⟨hx, ?_⟩, hk⟩) id⟩
            have : x.born ≠ r.ent.born := fun e => by
              have := born_inj hd.map.borns (hsub x hx) henl e
              rw [this, ent_key] at hk
              exact hs hk.symm
            simpa using this
      · simp only [htl]
        exact Own.loc (Own.shrink hr.own hkn) fun b hb => Hp.set_ne fun e => hout.1 (e ▸ hb)
      · intro b u hb
        have h3 := Hp.off_some.1 hb
        exact Hp.off_some.2 ⟨h3.1, by rw [Hp.set_ne fun e => h3.1 (by simp [Row.blocks, e])]; exact h3.2⟩
    refine ⟨_, _, rfl, hent _ (Hp.set_same _ _ _) (Hp.set_ne hmi) ⟨_, _, rfl, fun h0 => ⟨r.f, 0, rfl, r.p, r.n, r.c, ld_of hr.obj rfl, r.fl.syn, ld_of hr.obj rfl, by unfold I64; omega, by unfold I64; omega, by omega, ?_⟩, fun _ => main 0 (by omega) (by omega) (fun _ => rfl)⟩⟩
    rintro x rfl
    have := tmod_room h0 (show 0 ≤ (r.n : Int) - r.fl.syn by omega)
    exact main _ this.1 this.2 (fun hz => by rw [hz, Int.zero_tmod])
theorem cut_spec {x1 : Int} (hd : DiskAt σ d D S) (hR : ∀ σ' S' gs, Crash D.files gs → (x1 = 0 → Crash0 D.files gs) → DiskAt σ' d ⟨gs, false, false, D.cnt⟩ S' → Ext (σ.off S) (σ'.off S') → R (.returned (.tuple #[])) σ') :
    Spec prog disk_Disk_cut.fid #[.pointer (some ⟨d, 0, none⟩), .int .i64 x1] σ R := by
  obtain ⟨m, cl, rows, T, a, b, e, hd⟩ := hd
  refine disk_Disk_cut.start ⟨d, 0, rfl, some m, ld_of hd.obj rfl, range_eff hd.map fun i o hi hit => ⟨_, rfl, ?_⟩⟩
  have hiS : i ∉ S := fun hs => hd.known _ hs hi
  refine cut_pt hi hR _ _ D S rows _ T a b e rfl rfl (hd.loc fun b hb => Hp.set_ne fun e => hiS (e ▸ hb)) hit (fun x hx => hx) hiS (fun s => ⟨id, fun f hf => .inl ⟨hf, ?_⟩⟩) ((Ext.set hi).off S)
  rw [hd.files, Row.look] at hf
  cases hfi : rows.find? (fun r => decide (r.name = s)) with
  | none => rw [hfi] at hf; cases hf
  | some r => exact ⟨r.ent, List.mem_map.2 ⟨r, List.mem_of_find?_eq_some hfi, rfl⟩, ent_key.2 (by simpa using List.find?_some hfi)⟩
end
end TwW
end
section
namespace TwW
open Go Tw Go.Proofs.Tryz
structure Wr (σ : Hp) (S : List Nat) (d : Nat) (D : Dk) (fs fs' : ByteArray → Option Fl) (c : Nat) (R : Ending → Hp → Prop) : Prop where
  ok : ∀ σ' S', DiskAt σ' d ⟨fs, true, D.armed, c⟩ S' → Ext (σ.off S) (σ'.off S') → R (.returned (.int .i64 0)) σ'
  bad : D.armed = true → ∀ σ' S' gs, Crash fs' gs → DiskAt σ' d ⟨gs, false, false, c⟩ S' → Ext (σ.off S) (σ'.off S') → R (.returned (.int .i64 60)) σ'
section
variable {σ : Hp} {d : Nat} {D : Dk} {S : List Nat} {R : Ending → Hp → Prop}
def Does (σ : Hp) (d : Nat) (D : Dk) (S : List Nat) (f : Nat) (cap : Array Value) (fs : ByteArray → Option Fl) (c : Nat) : Prop :=
  ∀ σ1, DiskAt σ1 d D S → Ext (σ.off S) (σ1.off S) → ∀ R : Ending → Hp → Prop, (∀ σ' S', DiskAt σ' d ⟨fs, D.up, D.armed, c⟩ S' → Ext (σ1.off S) (σ'.off S') → R (.returned (.tuple #[])) σ') → Spec prog f cap σ1 R
theorem DiskIn.cntle {m clock : Nat} {rows : List Row} {T : TypeId} {left keep writes : Int} {c : Nat} (h : DiskIn σ d D S m clock rows T left keep writes) (hc : D.cnt ≤ c) : DiskIn σ d { D with cnt := c } S m clock rows T left keep writes :=
  { h with cnt := Nat.le_trans h.cnt hc }
theorem write_spec {f1 f2 f3 : Nat} {c1 c2 c3 : Array Value} {fs fs' : ByteArray → Option Fl} {c : Nat} (hd : DiskAt σ d D S) (hup : D.up = true) (e1 : Enters prog f1) (e2 : Enters prog f2) (e3 : Enters prog f3)
    (h1 : ∀ R : Ending → Hp → Prop, R (.returned (.int .i64 0)) σ → Spec prog f1 c1 σ R) (h2 : Does σ d D S f2 c2 fs c) (h3 : Does σ d D S f3 c3 fs' c) (hw : Wr σ S d D fs fs' c R) :
    Spec prog disk_Disk_write.fid #[.pointer (some ⟨d, 0, none⟩), .func (.func f1) #[] c1, .func (.func f2) #[] c2, .func (.func f3) #[] c3] σ R := by
  obtain ⟨m, cl, rows, T, a, b, e, hd⟩ := hd
  obtain ⟨dfs, dup, darm, dcnt⟩ := D
  simp only at hup
  subst hup
  have hdone : ∀ (σ1 : Hp) (e' : Int), DiskIn σ1 d ⟨dfs, true, darm, dcnt⟩ S m cl rows T a b e' → Ext (σ.off S) (σ1.off S) → ∀ (x : Int), x = IntKind.i64.wrap (a - 1) → Eff prog (Instr.storeAt 3 (.pointer (some ⟨d, 0 + 3, none⟩)) (.int .i64 x)) σ1 (fun _ σ1_3 => ∃ (f54 : Nat) (fst54 cap54 : Array Value), Value.func (.func f2) #[] c2 = .func (.func f54) fst54 cap54 ∧ Enters prog f54 ∧ Spec prog f54 (fst54 ++ #[] ++ cap54) σ1_3 (Cont R (fun v_2 σ1_4 => v_2 = (.tuple #[]) ∧ R (.returned (.int .i64 0)) σ1_4))) := by
    intro σ1 e' h e1 x _
    refine h.st (i := 0 + 3) (up := true) (armed := darm) (left' := x) size3 rfl (by omega) (by simp [Value.cells, Value.oneCell']) rfl fun σ2 h' e2' _ => ?_
    refine ⟨f2, #[], c2, rfl, e2, ?_⟩
    have := h2 σ2 ⟨m, cl, rows, T, x, b, e', h'⟩ (e1.trans e2')
    simp only [Array.empty_append]
    exact this _ fun σ' S' hD hE => ⟨rfl, hw.ok σ' S' hD (e1.trans (e2'.trans hE))⟩
  refine disk_Disk_write.start ⟨d, 0, rfl, true, ld_of hd.obj rfl, fun h => by simp at h, fun _ => ⟨f1, #[], c1, rfl, e1, ?_⟩⟩
  simp only [Array.empty_append]
  refine h1 _ ⟨0, rfl, fun h => absurd rfl h, fun _ => ⟨e, ld_of hd.obj rfl, fun x24 _ => ?_⟩⟩
  refine hd.st (i := 0 + 5) (up := true) (armed := darm) (writes' := x24) size56 rfl (by omega) (by simp [Value.cells, Value.oneCell']) rfl fun σ1 h ex _ => ?_
  refine ⟨darm, ld_of h.obj rfl, fun ht => ⟨a, ld_of h.obj rfl, fun ha => ⟨f3, #[], c3, rfl, e3, ?_⟩, fun _ => ⟨a, ld_of h.obj rfl, fun x hx => hdone σ1 x24 h ex x hx⟩⟩, fun _ => ⟨a, ld_of h.obj rfl, fun x hx => hdone σ1 x24 h ex x hx⟩⟩
  simp only [Array.empty_append]
  refine h3 σ1 ⟨m, cl, rows, T, a, b, x24, h⟩ ex _ fun σ2 S2 hD hE => ⟨rfl, ?_⟩
  have hD' := hD
  obtain ⟨m2, cl2, rows2, T2, a2, b2, e2', hDi⟩ := hD'
  refine ⟨b2, ld_of hDi.obj rfl, ?_⟩
  exact cut_spec hD fun σ3 S3 gs hc _ hD3 hE3 => ⟨rfl, hw.bad ht σ3 S3 gs hc hD3 (ex.trans (hE.trans hE3))⟩
theorem en51 : Enters prog disk_Disk_Append_1.fid := fun args w => call51 args w
theorem en53 : Enters prog disk_Disk_Append_2.fid := fun args w => call53 args w
theorem en70 : Enters prog disk_Disk_Sync_1.fid := fun args w => call70 args w
theorem en71 : Enters prog disk_Disk_Sync_2.fid := fun args w => call71 args w
theorem en72 : Enters prog disk_nothing.fid := fun args w => call72 args w
theorem en79 : Enters prog disk_Disk_Delete_1.fid := fun args w => call79 args w
theorem en80 : Enters prog disk_Disk_Delete_2.fid := fun args w => call80 args w
theorem en100 : Enters prog disk_Disk_Rename_1.fid := fun args w => call100 args w
theorem en101 : Enters prog disk_Disk_Rename_2.fid := fun args w => call101 args w
theorem nothing_does {c : Nat} (hc : D.cnt ≤ c) : Does σ d D S disk_nothing.fid #[] D.files c := fun σ1 hd _ R h => by
  refine disk_nothing.start (h σ1 S ?_ (Ext.refl _))
  obtain ⟨m, cl, rows, T, a, b, e, hd⟩ := hd
  exact ⟨m, cl, rows, T, a, b, e, hd.cntle hc⟩
theorem nodup_le {L M : List ByteArray} (hn : L.Nodup) (h : ∀ x ∈ L, x ∈ M) : L.length ≤ M.length := by
  induction L generalizing M with
  | nil => simp
  | cons a L ih =>
    rw [List.nodup_cons] at hn
    obtain ⟨m1, m2, rfl⟩ := List.append_of_mem (h a (by simp))
    have := ih hn.2 (M := m1 ++ m2) fun x hx => by
      have h1 := h x (by simp [hx])
      simp only [List.mem_append, List.mem_cons] at h1 ⊢
      rcases h1 with h1 | rfl | h1
      · exact .inl h1
      · exact absurd hx hn.1
      · exact .inr h1
    simp only [List.length_append, List.length_cons] at this ⊢
    omega
def Few (D : Dk) : Prop := D.cnt < 1048576 ∨ ∃ F : List ByteArray, F.length < 1048576 ∧ ∀ s, (D.files s).isSome = true → s ∈ F
theorem Few.sub {D D' : Dk} (h : Few D) (hc : D'.cnt ≤ D.cnt) (hs : ∀ s, (D'.files s).isSome = true → (D.files s).isSome = true) : Few D' := by
  rcases h with h | ⟨F, h1, h2⟩
  · exact .inl (by omega)
  · exact .inr ⟨F, h1, fun s h => h2 s (hs s h)⟩
theorem few_rows {rows : List Row} (hf : D.files = Row.look rows) (hn : (rows.map (·.name)).Nodup) (hc : rows.length ≤ D.cnt) (h : Few D) : rows.length < 1048576 := by
  rcases h with h | ⟨F, h1, h2⟩
  · omega
  · have := nodup_le hn (M := F) fun s hs => h2 s (by
      rw [hf, Row.look]
      cases hh : rows.find? (fun r => decide (r.name = s)) with
      | some r => rfl
      | none =>
        obtain ⟨r, hr, rfl⟩ := List.mem_map.1 hs
        have := List.find?_eq_none.1 hh r hr
        simp at this)
    rw [List.length_map] at this; omega
theorem append2_spec {s : ByteArray} {p : Option Addr} {n c b0 b1 b2 : Nat} (hd : DiskAt σ d D S) (h0 : (σ.off S) b0 = some (.cells #[.pointer (some ⟨d, 0, none⟩)] 24 (0, 0))) (h1 : (σ.off S) b1 = some (.cells #[.string s] 9 (0, 0)))
    (h2 : (σ.off S) b2 = some (.cells #[.slice p n c] 23 (0, 0))) (hn : nameOk s = true) (hc : Few D) (hlen : ((D.files s).getD ⟨[], 0⟩).data.length + n ≤ 4194304) (h : R (.returned (.int .i64 0)) σ) :
    Spec prog disk_Disk_Append_2.fid #[.pointer (some ⟨b1, 0, none⟩), .pointer (some ⟨b0, 0, none⟩), .pointer (some ⟨b2, 0, none⟩)] σ R := by
  obtain ⟨m, cl, rows, T, a, b, e, hd⟩ := hd
  have h0' := Hp.off_some.1 h0
  have h1' := Hp.off_some.1 h1
  have h2' := Hp.off_some.1 h2
  have hnm : (rows.map (·.name)).Nodup := by
    have := hd.map.nodup
    rw [List.map_map] at this
    have e : (rows.map ((fun e : MapEntry => e.key) ∘ Row.ent)) = (rows.map (·.name)).map Value.string := by rw [List.map_map]; rfl
    rw [e, List.Nodup, List.pairwise_map] at this
    exact this.imp fun hne e => hne (by rw [e])
  have hcn := few_rows hd.files hnm hd.cnt hc
  refine disk_Disk_Append_2.start ⟨s, ld_of h1'.2 rfl, name_spec ⟨_, rfl, fun hf => (by rw [hn] at hf; cases hf), fun _ => ⟨_, ld_of h0'.2 rfl, d, 0, rfl, some m, ld_of hd.obj rfl, s, ld_of h1'.2 rfl, hd.look (fun _ hfs => ⟨none, rfl, fun _ => ?_, fun hh => by simp at hh⟩) fun r1 r r2 hrows hname hfs => ⟨_, rfl, fun hh => by simp at hh, fun _ => ?_⟩⟩⟩⟩
  · refine ⟨_, ld_of h0'.2 rfl, d, 0, rfl, some m, ld_of hd.obj rfl, _, len_yf hd.map, fun hh => ?_, fun _ => ⟨p, n, c, ld_of h2'.2 rfl, fun hh => ?_, fun _ => ⟨fun hh => by simp at hh, fun _ => h⟩⟩⟩
    · simp at hh; omega
    · rw [hfs] at hlen; simp at hlen; omega
  · rw [hfs] at hlen
    simp only [Option.getD_some] at hlen
    have hr := hd.row r (by simp [hrows])
    refine ⟨fun _ => ⟨p, n, c, ld_of h2'.2 rfl, r.f, 0, rfl, r.p, r.n, r.c, ld_of hr.obj rfl, by unfold I64; simp only [Row.n]; omega, fun hh => ?_, fun _ => h⟩, fun hh => by simp at hh⟩
    simp only [Row.n] at hh; omega
theorem box_off {o : Obj} {b : Nat} (hd : DiskAt σ d D S) (hb : σ b = none) : ((σ.set b o).off S) b = some o ∧ DiskAt (σ.set b o) d D S ∧ Ext (σ.off S) ((σ.set b o).off S) := by
  have hbS : b ∉ S := fun hs => hd.known _ hs hb
  exact ⟨by rw [Hp.off_out hbS, Hp.set_same], hd.mono (.set hb), (Ext.set hb).off S⟩
theorem append_spec {s : ByteArray} {p : Option Addr} {n c : Nat} {xs : List Int} (hd : DiskAt σ d D S) (hup : D.up = true) (hn : nameOk s = true) (hc : Few D) (hx : RdI .u8 (σ.off S) p n xs) (hlen : ((D.files s).getD ⟨[], 0⟩).data.length + n ≤ 4194304)
    (hw : Wr σ S d D (appd D.files s xs) (appd D.files s xs) (D.cnt + 1) R) : Spec prog disk_Disk_Append.fid #[.pointer (some ⟨d, 0, none⟩), .string s, .slice p n c] σ R := by
  refine disk_Disk_Append.start fun b3 hb3 b4 hb4 b5 hb5 => ?_
  obtain ⟨q3, d3, x3⟩ := box_off (o := .cells #[.pointer (some ⟨d, 0, none⟩)] 24 (0, 0)) hd hb3
  obtain ⟨q4, d4, x4⟩ := box_off (o := .cells #[.string s] 9 (0, 0)) d3 hb4
  obtain ⟨q5, d5, x5⟩ := box_off (o := .cells #[.slice p n c] 23 (0, 0)) d4 hb5
  have q3' := x5 _ _ (x4 _ _ q3)
  have q4' := x5 _ _ q4
  have hx' := hx.mono (x3.trans (x4.trans x5))
  refine ⟨_, ld_of (Hp.off_some.1 q3').2 rfl, write_spec d5 hup en53 en51 en51 (fun R h => append2_spec d5 q3' q4' q5 hn hc hlen h) (fun σ1 hd1 he R h => append1_spec hn hd1 (he _ _ q3') (he _ _ q4') (he _ _ q5) (hx'.mono he) hlen h)
    (fun σ1 hd1 he R h => append1_spec hn hd1 (he _ _ q3') (he _ _ q4') (he _ _ q5) (hx'.mono he) hlen h) ⟨fun σ' S' hD hE => ⟨0, rfl, hw.ok σ' S' hD (x3.trans (x4.trans (x5.trans hE)))⟩, fun ha σ' S' gs hg hD hE => ⟨60, rfl, hw.bad ha σ' S' gs hg hD (x3.trans (x4.trans (x5.trans hE)))⟩⟩⟩
theorem sync2_does {s : ByteArray} {f : Fl} {b0 b1 : Nat} (h0 : (σ.off S) b0 = some (.cells #[.pointer (some ⟨d, 0, none⟩)] 24 (0, 0))) (h1 : (σ.off S) b1 = some (.cells #[.string s] 9 (0, 0))) (hf : D.files s = some f) :
    Does σ d D S disk_Disk_Sync_2.fid #[.pointer (some ⟨b0, 0, none⟩), .pointer (some ⟨b1, 0, none⟩)] (fput D.files s (some ⟨f.data, f.data.length⟩)) D.cnt := fun σ1 hd hx R h => by
  obtain ⟨m, cl, rows, T, a, b, e, hd⟩ := hd
  have h0' := Hp.off_some.1 (hx _ _ h0)
  have h1' := Hp.off_some.1 (hx _ _ h1)
  refine disk_Disk_Sync_2.start ⟨_, ld_of h0'.2 rfl, d, 0, rfl, some m, ld_of hd.obj rfl, s, ld_of h1'.2 rfl, hd.look (fun hn hfs => (by rw [hf] at hfs; cases hfs)) fun r1 r r2 hrows hname hfs => ⟨_, rfl, r.f, 0, rfl, r.p, r.n, r.c, ?_⟩⟩
  subst hrows
  have hr := hd.row r (by simp)
  have hout := hd.out r (by simp)
  rw [hf] at hfs
  cases hfs
  refine ⟨ld_of hr.obj rfl, Eff.store (v := .int .i64 r.n) size3 hr.obj rfl (by simp) (by simp [Value.cells, Value.oneCell']) ?_⟩
  have hw : wrt #[Value.slice r.p r.n r.c, .int .i64 r.fl.syn] (0 + 1) (Value.int .i64 r.n).cells.toList = #[.slice r.p r.n r.c, .int .i64 r.n] := rfl
  rw [hw]
  have key := hd.change (σ' := σ1.set r.f (.cells #[.slice r.p r.n r.c, .int .i64 r.n] r.T (0, 0))) (r' := { r with fl := ⟨r.fl.data, r.n⟩ }) rfl rfl rfl
    ⟨Hp.set_same _ _ _, Own.loc hr.own fun b hb => Hp.set_ne fun e => hout.1 (e ▸ hb), Nat.le_refl _, hr.small, hr.nm⟩ hout.1 (fun b u hb => by
      have h3 := Hp.off_some.1 hb
      exact Hp.off_some.2 ⟨h3.1, by rw [Hp.set_ne fun e => h3.1 (by simp [Row.blocks, e])]; exact h3.2⟩)
  rw [hname] at key
  exact h _ _ ⟨_, _, _, _, _, _, _, key.1⟩ key.2
theorem sync_spec {s : ByteArray} {f : Fl} (hd : DiskAt σ d D S) (hup : D.up = true) (hn : nameOk s = true) (hf : D.files s = some f)
    (hw : Wr σ S d D (fput D.files s (some ⟨f.data, f.data.length⟩)) D.files D.cnt R) : Spec prog disk_Disk_Sync.fid #[.pointer (some ⟨d, 0, none⟩), .string s] σ R := by
  refine disk_Disk_Sync.start fun b3 hb3 b4 hb4 => ?_
  obtain ⟨q3, d3, x3⟩ := box_off (o := .cells #[.pointer (some ⟨d, 0, none⟩)] 24 (0, 0)) hd hb3
  obtain ⟨q4, d4, x4⟩ := box_off (o := .cells #[.string s] 9 (0, 0)) d3 hb4
  have q3' := x4 _ _ q3
  refine ⟨_, ld_of (Hp.off_some.1 q3').2 rfl, write_spec d4 hup en70 en71 en72 (fun R h => disk_Disk_Sync_1.start ⟨_, ld_of (Hp.off_some.1 q3').2 rfl, s, ld_of (Hp.off_some.1 q4).2 rfl, there_spec d4 (fun hh => by rw [hn] at hh; cases hh) (fun _ hh => by rw [hf] at hh; cases hh) fun f' _ _ => ⟨0, rfl, h⟩⟩)
    (sync2_does q3' q4 hf) (nothing_does (Nat.le_refl _)) ⟨fun σ' S' hD hE => ⟨0, rfl, hw.ok σ' S' hD (x3.trans (x4.trans hE))⟩, fun ha σ' S' gs hg hD hE => ⟨60, rfl, hw.bad ha σ' S' gs hg hD (x3.trans (x4.trans hE))⟩⟩⟩
theorem DiskIn.dele {m cl : Nat} {r1 r2 : List Row} {r : Row} {T : TypeId} {a b e : Int} (hd : DiskIn σ d D S m cl (r1 ++ r :: r2) T a b e) {σ' : Hp} (hσ : ∀ b, b ≠ m → σ' b = σ b) {cl' : Nat} (hm : MapAt σ' m ((r1 ++ r2).map Row.ent) cl') :
    DiskIn σ' d { D with files := fput D.files r.name none } (TwW.foot d m (r1 ++ r2)) m cl' (r1 ++ r2) T a b e ∧ Ext (σ.off S) (σ'.off (TwW.foot d m (r1 ++ r2))) := by
  have hin : ∀ x ∈ r1 ++ r2, x ∈ r1 ++ r :: r2 := fun x hx => by
    rcases List.mem_append.1 hx with h | h <;> simp [h]
  refine hd.remap hσ hm (fun x hx => hd.row x (hin x hx)) (fun x hx b hb => ⟨hd.r_mem (hin x hx) hb, fun e => (hd.out x (hin x hx)).2.1 (e ▸ hb), fun e => (hd.out x (hin x hx)).2.2 (e ▸ hb)⟩) (fun x hx => (hd.out x (hin x hx)).1) ?_ ?_ ?_
  · exact hd.sep.sublist (List.Sublist.append_left (List.sublist_cons_self ..) _)
  · rw [hd.files, Row.look_del hd.names]
  · have := hd.cnt; simp at this ⊢; omega
theorem delete2_does {s : ByteArray} {f : Fl} {b0 b1 : Nat} (h0 : (σ.off S) b0 = some (.cells #[.pointer (some ⟨d, 0, none⟩)] 24 (0, 0))) (h1 : (σ.off S) b1 = some (.cells #[.string s] 9 (0, 0))) (hf : D.files s = some f) :
    Does σ d D S disk_Disk_Delete_2.fid #[.pointer (some ⟨b0, 0, none⟩), .pointer (some ⟨b1, 0, none⟩)] (fput D.files s none) D.cnt := fun σ1 hd hx R h => by
  obtain ⟨m, cl, rows, T, a, b, e, hd⟩ := hd
  have h0' := Hp.off_some.1 (hx _ _ h0)
  have h1' := Hp.off_some.1 (hx _ _ h1)
  refine disk_Disk_Delete_2.start ⟨_, ld_of h0'.2 rfl, d, 0, rfl, some m, ld_of hd.obj rfl, s, ld_of h1'.2 rfl, delete_eff (T := 67) hd.map (fun hn => ?_) (fun l1 x l2 hl hx σ' hσ hm => ?_) rfl⟩
  · exfalso
    rw [hd.files, Row.look_none (ents_none hn)] at hf; cases hf
  · obtain ⟨r1, r, r2, rfl, rfl, rfl, rfl⟩ := ents_split hl
    have key := hd.dele (σ' := σ') (fun b hb => by rw [hσ, Hp.set_ne hb]) (by simpa using hm)
    rw [ent_key.1 hx] at key
    exact h _ _ ⟨_, _, _, _, _, _, _, key.1⟩ key.2
theorem delete_spec {s : ByteArray} {f : Fl} (hd : DiskAt σ d D S) (hup : D.up = true) (hn : nameOk s = true) (hf : D.files s = some f)
    (hw : Wr σ S d D (fput D.files s none) D.files D.cnt R) : Spec prog disk_Disk_Delete.fid #[.pointer (some ⟨d, 0, none⟩), .string s] σ R := by
  refine disk_Disk_Delete.start fun b3 hb3 b4 hb4 => ?_
  obtain ⟨q3, d3, x3⟩ := box_off (o := .cells #[.pointer (some ⟨d, 0, none⟩)] 24 (0, 0)) hd hb3
  obtain ⟨q4, d4, x4⟩ := box_off (o := .cells #[.string s] 9 (0, 0)) d3 hb4
  have q3' := x4 _ _ q3
  refine ⟨_, ld_of (Hp.off_some.1 q3').2 rfl, write_spec d4 hup en79 en80 en72 (fun R h => disk_Disk_Delete_1.start ⟨_, ld_of (Hp.off_some.1 q3').2 rfl, s, ld_of (Hp.off_some.1 q4).2 rfl, there_spec d4 (fun hh => by rw [hn] at hh; cases hh) (fun _ hh => by rw [hf] at hh; cases hh) fun f' _ _ => ⟨0, rfl, h⟩⟩)
    (delete2_does q3' q4 hf) (nothing_does (Nat.le_refl _)) ⟨fun σ' S' hD hE => ⟨0, rfl, hw.ok σ' S' hD (x3.trans (x4.trans hE))⟩, fun ha σ' S' gs hg hD hE => ⟨60, rfl, hw.bad ha σ' S' gs hg hD (x3.trans (x4.trans hE))⟩⟩⟩
def sepL (L : List (List Nat)) : Prop := L.Pairwise fun a b => ∀ x ∈ a, x ∉ b
theorem sepL_perm {L L' : List (List Nat)} (h : L.Perm L') (g : sepL L) : sepL L' := (h.pairwise_iff (fun {x y} hxy b hb hb' => hxy b hb' hb)).1 g
theorem sepL_rows {rows : List Row} : (rows.Pairwise fun r s => ∀ b ∈ r.blocks, b ∉ s.blocks) ↔ sepL (rows.map Row.blocks) := by rw [sepL, List.pairwise_map]
theorem split_uniq {r q : Row} : ∀ {r1 r2 q1 q2 : List Row}, ((r1 ++ r :: r2).map (·.name)).Nodup → r1 ++ r :: r2 = q1 ++ q :: q2 → r.name = q.name → r1 = q1 ∧ r = q ∧ r2 = q2
  | [], _, [], _, _, h, _ => by simp at h; exact ⟨rfl, h⟩
  | [], r2, c :: q1, q2, hn, h, he => by
    simp at h
    obtain ⟨rfl, rfl⟩ := h
    exact absurd he.symm ((names_split (r1 := []) hn).2 q (by simp))
  | c :: r1, r2, [], q2, hn, h, he => by
    simp at h
    obtain ⟨rfl, rfl⟩ := h
    exact absurd he.symm ((names_split hn).1 c (by simp))
  | c :: r1, r2, c' :: q1, q2, hn, h, he => by
    simp at h
    obtain ⟨rfl, h⟩ := h
    have := split_uniq (by simp at hn ⊢; exact hn.2) h he
    exact ⟨by rw [this.1], this.2⟩
theorem rename2_does {s t : ByteArray} {f : Fl} {b0 b1 b2 : Nat} (hnt : nameOk t = true) (h0 : (σ.off S) b0 = some (.cells #[.pointer (some ⟨d, 0, none⟩)] 24 (0, 0))) (h1 : (σ.off S) b1 = some (.cells #[.string s] 9 (0, 0))) (h2 : (σ.off S) b2 = some (.cells #[.string t] 9 (0, 0))) (hf : D.files s = some f) :
    Does σ d D S disk_Disk_Rename_2.fid #[.pointer (some ⟨b0, 0, none⟩), .pointer (some ⟨b1, 0, none⟩), .pointer (some ⟨b2, 0, none⟩)] (fput (fput D.files s none) t (some f)) D.cnt := fun σ1 hd hx R h => by
  obtain ⟨m, cl, rows, T, a, b, e, hd⟩ := hd
  have h0 := hx _ _ h0
  have h1 := hx _ _ h1
  have h2 := hx _ _ h2
  have h0' := Hp.off_some.1 h0
  have h1' := Hp.off_some.1 h1
  have h2' := Hp.off_some.1 h2
  have n0 : b0 ≠ m := fun e => h0'.1 (e ▸ hd.m_mem)
  have n2 : b2 ≠ m := fun e => h2'.1 (e ▸ hd.m_mem)
  refine disk_Disk_Rename_2.start ⟨_, ld_of h0'.2 rfl, d, 0, rfl, some m, ld_of hd.obj rfl, s, ld_of h1'.2 rfl, hd.look (fun hn hfs => (by rw [hf] at hfs; cases hfs)) fun r1 r r2 hrows hname hfs => ⟨_, rfl, _, ld_of h0'.2 rfl, d, 0, rfl, some m, ld_of hd.obj rfl, s, ld_of h1'.2 rfl, ?_⟩⟩
  refine delete_eff (T := 67) hd.map (fun hn => ?_) (fun l1 x l2 hl hx2 σ2 hσ2 hm2 => ?_) rfl
  · exfalso
    rw [hd.files, Row.look_none (ents_none hn)] at hf; cases hf
  · obtain ⟨q1, q, q2, hrows', rfl, rfl, rfl⟩ := ents_split hl
    have hnm := hd.names
    rw [hrows] at hnm
    obtain ⟨rfl, rfl, rfl⟩ := split_uniq hnm (hrows.symm.trans hrows') (hname.trans (ent_key.1 hx2).symm)
    subst hrows
    have hin : ∀ x ∈ r1 ++ r2, x ∈ r1 ++ r :: r2 := fun x hx => by
      rcases List.mem_append.1 hx with h | h <;> simp [h]
    have hmem : ∀ x ∈ r1 ++ r :: r2, ∀ b ∈ x.blocks, b ∈ S ∧ b ≠ d ∧ b ≠ m := fun x hx b hb => ⟨hd.r_mem hx hb, fun e => (hd.out x hx).2.1 (e ▸ hb), fun e => (hd.out x hx).2.2 (e ▸ hb)⟩
    have hnm2 : ((r1 ++ r2).map (·.name)).Nodup := hnm.sublist ((List.Sublist.append_left (List.sublist_cons_self ..) _).map _)
    rw [hf] at hfs
    cases hfs
    have hsepL : sepL ((r :: (r1 ++ r2)).map Row.blocks) := sepL_perm (List.perm_middle.map _) (sepL_rows.1 hd.sep)
    have hds : fput D.files s none = Row.look (r1 ++ r2) := by rw [hd.files, Row.look_del hnm, hname]
    have hlen : (r1 ++ r2).length + 1 ≤ D.cnt := by have := hd.cnt; simp at this ⊢; omega
    have hm3 : MapAt σ2 m ((r1 ++ r2).map Row.ent) cl := by simpa using hm2
    refine ⟨_, ld_of (by rw [hσ2, Hp.set_ne n0]; exact h0'.2) rfl, d, 0, rfl, some m, ld_of (by rw [hσ2, Hp.set_ne (Ne.symm hd.ne)]; exact hd.obj) rfl, t, ld_of (by rw [hσ2, Hp.set_ne n2]; exact h2'.2) rfl, mapUpdate_eff hm3 (fun hno σ3 hσ3 hm => ?_) fun k1 x k2 hk hxt σ3 hσ3 hm => ?_⟩
    · have key := hd.remap (σ' := σ3) (rows' := (r1 ++ r2) ++ [{ r with name := t, born := cl }]) (clock' := cl + 1) (fs := fput (fput D.files s none) t (some r.fl)) (cnt := D.cnt) (fun b hb => by rw [hσ3, Hp.set_ne hb, hσ2, Hp.set_ne hb]) (by simpa [Row.ent] using hm) ?_ ?_ ?_ ?_ ?_ ?_
      · exact h σ3 _ ⟨_, _, _, _, _, _, _, key.1⟩ key.2
      · intro x hx
        rcases List.mem_append.1 hx with hx | hx
        · exact hd.row x (hin x hx)
        · rw [List.mem_singleton] at hx; subst hx
          have := hd.row r (by simp)
          exact ⟨this.obj, this.own, this.syn, this.small, hnt⟩
      · intro x hx
        rcases List.mem_append.1 hx with hx | hx
        · exact hmem x (hin x hx)
        · rw [List.mem_singleton] at hx; subst hx
          exact hmem r (by simp)
      · intro x hx
        rcases List.mem_append.1 hx with hx | hx
        · exact (hd.out x (hin x hx)).1
        · rw [List.mem_singleton] at hx; subst hx
          exact (hd.out r (by simp)).1
      · rw [sepL_rows]
        refine sepL_perm ?_ hsepL
        rw [List.map_cons, List.map_append (l₁ := r1 ++ r2)]
        exact (List.perm_append_singleton (Row.blocks r) _).symm
      · rw [hds]
        exact (Row.look_push (r := { r with name := t, born := cl }) (fun x hx => ents_none hno x hx)).symm
      · simp at hlen ⊢; omega
    · obtain ⟨q1, q, q2, hq, rfl, rfl, rfl⟩ := ents_split hk
      rw [hq] at hin hnm2 hsepL hds hlen
      have key := hd.remap (σ' := σ3) (rows' := q1 ++ { r with name := t, born := q.born } :: q2) (clock' := cl) (fs := fput (fput D.files s none) t (some r.fl)) (cnt := D.cnt) (fun b hb => by rw [hσ3, Hp.set_ne hb, hσ2, Hp.set_ne hb]) (by simpa [Row.ent] using hm) ?_ ?_ ?_ ?_ ?_ ?_
      · exact h σ3 _ ⟨_, _, _, _, _, _, _, key.1⟩ key.2
      · intro x hx
        rcases List.mem_append.1 hx with hx | hx
        · exact hd.row x (hin x (by simp [hx]))
        · rcases List.mem_cons.1 hx with rfl | hx
          · have := hd.row r (by simp)
            exact ⟨this.obj, this.own, this.syn, this.small, hnt⟩
          · exact hd.row x (hin x (by simp [hx]))
      · intro x hx
        rcases List.mem_append.1 hx with hx | hx
        · exact hmem x (hin x (by simp [hx]))
        · rcases List.mem_cons.1 hx with rfl | hx
          · exact hmem r (by simp)
          · exact hmem x (hin x (by simp [hx]))
      · intro x hx
        rcases List.mem_append.1 hx with hx | hx
        · exact (hd.out x (hin x (by simp [hx]))).1
        · rcases List.mem_cons.1 hx with rfl | hx
          · exact (hd.out r (by simp)).1
          · exact (hd.out x (hin x (by simp [hx]))).1
      · rw [sepL_rows]
        have h1 : sepL ((r :: (q1 ++ q2)).map Row.blocks) := hsepL.sublist (((List.Sublist.append_left (List.sublist_cons_self ..) _).cons₂ r).map _)
        refine sepL_perm ?_ h1
        rw [List.map_cons, List.map_append, List.map_append, List.map_cons]
        exact List.perm_middle.symm
      · rw [hds, ← ent_key.1 hxt]
        exact (Row.look_change (r' := { r with name := q.name, born := q.born }) hnm2 rfl).symm
      · simp at hlen ⊢; omega
theorem rename_spec {s t : ByteArray} {f : Fl} (hd : DiskAt σ d D S) (hup : D.up = true) (hn : nameOk s = true) (hn' : nameOk t = true) (hf : D.files s = some f)
    (hw : Wr σ S d D (fput (fput D.files s none) t (some f)) D.files D.cnt R) : Spec prog disk_Disk_Rename.fid #[.pointer (some ⟨d, 0, none⟩), .string s, .string t] σ R := by
  refine disk_Disk_Rename.start fun b3 hb3 b4 hb4 b5 hb5 => ?_
  obtain ⟨q3, d3, x3⟩ := box_off (o := .cells #[.pointer (some ⟨d, 0, none⟩)] 24 (0, 0)) hd hb3
  obtain ⟨q4, d4, x4⟩ := box_off (o := .cells #[.string s] 9 (0, 0)) d3 hb4
  obtain ⟨q5, d5, x5⟩ := box_off (o := .cells #[.string t] 9 (0, 0)) d4 hb5
  have q3' := x5 _ _ (x4 _ _ q3)
  have q4' := x5 _ _ q4
  refine ⟨_, ld_of (Hp.off_some.1 q3').2 rfl, write_spec d5 hup en100 en101 en72 (fun R h => disk_Disk_Rename_1.start ⟨t, ld_of (Hp.off_some.1 q5).2 rfl, name_spec ⟨_, rfl, fun hh => (by rw [hn'] at hh; cases hh), fun _ => ⟨_, ld_of (Hp.off_some.1 q3').2 rfl, s, ld_of (Hp.off_some.1 q4').2 rfl,
      there_spec d5 (fun hh => by rw [hn] at hh; cases hh) (fun _ hh => by rw [hf] at hh; cases hh) fun f' _ _ => ⟨0, rfl, h⟩⟩⟩⟩)
    (rename2_does hn' q3' q4' q5 hf) (nothing_does (Nat.le_refl _)) ⟨fun σ' S' hD hE => ⟨0, rfl, hw.ok σ' S' hD (x3.trans (x4.trans (x5.trans hE)))⟩, fun ha σ' S' gs hg hD hE => ⟨60, rfl, hw.bad ha σ' S' gs hg hD (x3.trans (x4.trans (x5.trans hE)))⟩⟩⟩
end
end TwW
end
section
/- written by gen.py: program points and what leads to them -/
set_option linter.unusedVariables false
set_option maxRecDepth 100000
namespace TwW
open Go Tw Go.Proofs.Tryz
noncomputable section
namespace strings_HasPrefix
abbrev fid : Nat := 49
noncomputable def K0 := f49.body.getD .skip
def K1 := cl K0
def K2 := cr K0
def K3 := cl K2
def K4 := cr K2
abbrev gl (R : Ending → Hp → Prop) : Gl := Gl.fn prog 49 8 R
theorem start {R : Ending → Hp → Prop} {s0 s1 : ByteArray} {σ : Hp} (h : Spec prog 74 #[(.string s0), (.string s1)] σ (Cont R (fun v σ1 => ∃ t7 : Bool, v = (.bool t7) ∧ R (.returned (.bool t7)) σ1))) : Spec prog 49 #[(.string s0), (.string s1)] σ R := by
 refine Spec.of_at (fn := f49) (c := K0) func49 (by kernel_rfl) (Nat.le_of_ble_eq_true (by kernel_rfl)) (fun e he => ?_)
 refine At.ofL (l := [(0, (.string s0)), (1, (.string s1))]) ⟨he 0, he 1, trivial⟩ (fun J => ?_)
 show At (gl R) _ _ _ _
 refine At.s K1 K2 ?_
 refine At.rg 0 [0] ?_
 refine Seq.u 4 (.bool false) ?_
 refine Seq.done ?_
 refine At.s K3 K4 ?_
 refine At.rg 1 [0, 1, 2, 3] ?_
 refine Seq.us [(5, .string s0), (6, .string s1)] ?_
 refine Seq.o ?_
 refine OpTo.cl (some 7) call74 (h.cont fun v σ1 h2 => ?_); replace h := h2; clear h2
 obtain ⟨t7, rfl, h⟩ := h
 refine Seq.u 4 (.bool t7) ?_
 refine Seq.done ?_
 exact At.rt [.tmp 4] [(.bool t7)] func49 ⟨_, rfl, rfl⟩ h
end strings_HasPrefix
namespace internal_stringslite_HasPrefix
abbrev fid : Nat := 74
noncomputable def K0 := f74.body.getD .skip
def K1 := cl K0
def K2 := cr K0
def K3 := cl K2
def K4 := cr K2
abbrev gl (R : Ending → Hp → Prop) : Gl := Gl.fn prog 74 18 R
theorem start {R : Ending → Hp → Prop} {s0 s1 : ByteArray} {σ : Hp} (h : ((((ByteArray.size s1 : Nat) : Int) : Int) ≤ ((ByteArray.size s0 : Nat) : Int) → ∃ s14 : ByteArray, YF prog (Instr.sliceAt 9 (.string s0) none (some (.int .i64 ((ByteArray.size s1 : Nat) : Int))) none) σ (.string s14) ∧ R (.returned (.bool (ByteArray.toList s14 == ByteArray.toList s1))) σ) ∧ (¬ ((((ByteArray.size s1 : Nat) : Int) : Int) ≤ ((ByteArray.size s0 : Nat) : Int)) → R (.returned (.bool false)) σ)) : Spec prog 74 #[(.string s0), (.string s1)] σ R := by
 refine Spec.of_at (fn := f74) (c := K0) func74 (by kernel_rfl) (Nat.le_of_ble_eq_true (by kernel_rfl)) (fun e he => ?_)
 refine At.ofL (l := [(0, (.string s0)), (1, (.string s1))]) ⟨he 0, he 1, trivial⟩ (fun J => ?_)
 show At (gl R) _ _ _ _
 refine At.s K1 K2 ?_
 refine At.rg 0 [0] ?_
 refine Seq.u 4 (.bool false) ?_
 refine Seq.done ?_
 refine At.s K3 K4 ?_
 refine At.rg 1 [0, 1, 2, 3, 4, 5, 6, 7, 8, 9, 10, 11, 12, 13] ?_
 refine Seq.u 5 (.string s0) ?_
 refine Seq.z 6 (.call { callee := .builtin .len, args := #[(.tmp 5)], argTypes := #[9] }) 3 (.int .i64 ((ByteArray.size s0 : Nat) : Int)) (Y.lenStr underlying9 rfl rfl) ?_
 refine Seq.u 7 (.string s1) ?_
 refine Seq.z 8 (.call { callee := .builtin .len, args := #[(.tmp 7)], argTypes := #[9] }) 3 (.int .i64 ((ByteArray.size s1 : Nat) : Int)) (Y.lenStr underlying9 rfl rfl) ?_
 refine Seq.us [(9, .bool (decide ((((ByteArray.size s1 : Nat) : Int) : Int) ≤ ((ByteArray.size s0 : Nat) : Int)))), (10, .bool (decide ((((ByteArray.size s1 : Nat) : Int) : Int) ≤ ((ByteArray.size s0 : Nat) : Int))))] ?_
 cases hb : (decide ((((ByteArray.size s1 : Nat) : Int) : Int) ≤ ((ByteArray.size s0 : Nat) : Int))) with
 | true =>
  replace h := h.1 (of_decide_eq_true hb)
  refine Seq.us [(11, .string s0), (12, .string s1)] ?_
  refine Seq.zg 13 (.call { callee := .builtin .len, args := #[(.tmp 12)], argTypes := #[9] }) 3 (5, true) (.int .i64 ((ByteArray.size s1 : Nat) : Int)) (Y.lenStr underlying9 rfl rfl) ?_
  obtain ⟨s14, hy, h⟩ := h
  refine Seq.yg (d := (some 14)) (op := (.slice 9 (.tmp 11) none (some (.tmp 13)) none)) (ty := 9) (gd := (some (5, true))) (v := (.string s14)) (by kernel_rfl) rfl rfl (Yd.any (m := Instr.sliceAt 9 (.string s0) none (some (.int .i64 ((ByteArray.size s1 : Nat) : Int))) none) (fun o ho ht => by simp only [execOp, ho, ht]; rfl) hy) ?_
  refine Seq.u 15 (.string s1) ?_
  refine Seq.zg 16 (.binOp .eql 9 (.tmp 14) (.tmp 15) 9) 4 (5, true) (.bool (ByteArray.toList s14 == ByteArray.toList s1)) (Y.eqlS underlying9 rfl rfl) ?_
  refine Seq.us [(17, .bool (ByteArray.toList s14 == ByteArray.toList s1)), (4, .bool (ByteArray.toList s14 == ByteArray.toList s1))] ?_
  refine Seq.done ?_
  exact At.rt [.tmp 4] [(.bool (ByteArray.toList s14 == ByteArray.toList s1))] func74 ⟨_, rfl, rfl⟩ h
 | false =>
  replace h := h.2 (of_decide_eq_false hb)
  refine Seq.n 11 ?_
  refine Seq.n 12 ?_
  refine Seq.n 13 ?_
  refine Seq.n 14 ?_
  refine Seq.n 15 ?_
  refine Seq.n 16 ?_
  refine Seq.us [(17, .bool false), (4, .bool false)] ?_
  refine Seq.done ?_
  exact At.rt [.tmp 4] [(.bool false)] func74 ⟨_, rfl, rfl⟩ h
end internal_stringslite_HasPrefix
namespace digits_Dec
abbrev fid : Nat := 69
noncomputable def K0 := f69.body.getD .skip
def K1 := cl K0
def K2 := cr K0
def K3 := cl K2
def K4 := cr K2
abbrev gl (R : Ending → Hp → Prop) : Gl := Gl.fn prog 69 9 R
theorem start {R : Ending → Hp → Prop} {x0 x1 : Int} {σ : Hp} (h : Spec prog 88 #[(.int .u64 x0), (.int .i64 10)] σ (Cont R (fun v σ1 => ∃ s6 : ByteArray, v = (.string s6) ∧ Spec prog 87 #[(.string s6), (.int .i64 x1)] σ1 (Cont R (fun v_2 σ1_2 => ∃ s8 : ByteArray, v_2 = (.string s8) ∧ R (.returned (.string s8)) σ1_2))))) : Spec prog 69 #[(.int .u64 x0), (.int .i64 x1)] σ R := by
 refine Spec.of_at (fn := f69) (c := K0) func69 (by kernel_rfl) (Nat.le_of_ble_eq_true (by kernel_rfl)) (fun e he => ?_)
 refine At.ofL (l := [(0, (.int .u64 x0)), (1, (.int .i64 x1))]) ⟨he 0, he 1, trivial⟩ (fun J => ?_)
 show At (gl R) _ _ _ _
 refine At.s K1 K2 ?_
 refine At.rg 0 [0] ?_
 refine Seq.u 4 (.string (ByteArray.mk #[])) ?_
 refine Seq.done ?_
 refine At.s K3 K4 ?_
 refine At.rg 1 [0, 1, 2, 3, 4] ?_
 refine Seq.u 5 (.int .u64 x0) ?_
 refine Seq.o ?_
 refine OpTo.cl (some 6) call88 (h.cont fun v σ1 h2 => ?_); replace h := h2; clear h2
 obtain ⟨s6, rfl, h⟩ := h
 refine Seq.u 7 (.int .i64 x1) ?_
 refine Seq.o ?_
 refine OpTo.cl (some 8) call87 (h.cont fun v_2 σ1_2 h2 => ?_); replace h := h2; clear h2
 obtain ⟨s8, rfl, h⟩ := h
 refine Seq.u 4 (.string s8) ?_
 refine Seq.done ?_
 exact At.rt [.tmp 4] [(.string s8)] func69 ⟨_, rfl, rfl⟩ h
end digits_Dec
namespace digits_wide
abbrev fid : Nat := 87
noncomputable def K0 := f87.body.getD .skip
def K1 := cl K0
def K2 := cr K0
def K3 := cl K2
def K4 := cr K2
abbrev gl (R : Ending → Hp → Prop) : Gl := Gl.fn prog 87 13 R
theorem start {R : Ending → Hp → Prop} {s0 : ByteArray} {x1 : Int} {σ : Hp} (h : I64 (x1 - ((ByteArray.size s0 : Nat) : Int)) ∧ Spec prog 106 #[(.string (ByteArray.mk #[48])), (.int .i64 (if ((x1 - ((ByteArray.size s0 : Nat) : Int)) : Int) < 0 then 0 else (x1 - ((ByteArray.size s0 : Nat) : Int))))] σ (Cont R (fun v σ1 => ∃ s10 : ByteArray, v = (.string s10) ∧ (ByteArray.size s10 + ByteArray.size s0 ≤ 9223372036854775807) ∧ R (.returned (.string (s10 ++ s0))) σ1))) : Spec prog 87 #[(.string s0), (.int .i64 x1)] σ R := by
 refine Spec.of_at (fn := f87) (c := K0) func87 (by kernel_rfl) (Nat.le_of_ble_eq_true (by kernel_rfl)) (fun e he => ?_)
 refine At.ofL (l := [(0, (.string s0)), (1, (.int .i64 x1))]) ⟨he 0, he 1, trivial⟩ (fun J => ?_)
 show At (gl R) _ _ _ _
 refine At.s K1 K2 ?_
 refine At.rg 0 [0] ?_
 refine Seq.u 4 (.string (ByteArray.mk #[])) ?_
 refine Seq.done ?_
 refine At.s K3 K4 ?_
 refine At.rg 1 [0, 1, 2, 3, 4, 5, 6, 7, 8] ?_
 refine Seq.us [(5, .int .i64 x1), (6, .string s0)] ?_
 refine Seq.z 7 (.call { callee := .builtin .len, args := #[(.tmp 6)], argTypes := #[9] }) 3 (.int .i64 ((ByteArray.size s0 : Nat) : Int)) (Y.lenStr underlying9 rfl rfl) ?_
 obtain ⟨hi, h⟩ := h
 refine Seq.z 8 (.binOp .sub 3 (.tmp 5) (.tmp 7) 3) 3 (.int .i64 (x1 - ((ByteArray.size s0 : Nat) : Int))) (Y.subI hi rfl rfl) ?_
 refine Seq.z 9 (.call { callee := .builtin .max, args := #[(.tmp 8), (.const (.int .i64 0))], argTypes := #[3, 3] }) 3 (.int .i64 (if ((x1 - ((ByteArray.size s0 : Nat) : Int)) : Int) < 0 then 0 else (x1 - ((ByteArray.size s0 : Nat) : Int)))) (Y.max2 rfl rfl) ?_
 refine Seq.o ?_
 refine OpTo.cl (some 10) call106 (h.cont fun v σ1 h2 => ?_); replace h := h2; clear h2
 obtain ⟨s10, rfl, h⟩ := h
 refine Seq.u 11 (.string s0) ?_
 obtain ⟨hi, h⟩ := h
 refine Seq.z 12 (.binOp .add 9 (.tmp 10) (.tmp 11) 9) 9 (.string (s10 ++ s0)) (Y.addS underlying9 rfl rfl hi) ?_
 refine Seq.u 4 (.string (s10 ++ s0)) ?_
 refine Seq.done ?_
 exact At.rt [.tmp 4] [(.string (s10 ++ s0))] func87 ⟨_, rfl, rfl⟩ h
end digits_wide
namespace strings_CutPrefix
abbrev fid : Nat := 84
noncomputable def K0 := f84.body.getD .skip
def K1 := cl K0
def K2 := cr K0
def K3 := cl K2
def K4 := cr K2
abbrev gl (R : Ending → Hp → Prop) : Gl := Gl.fn prog 84 11 R
theorem start {R : Ending → Hp → Prop} {s0 s1 : ByteArray} {σ : Hp} (h : Spec prog 102 #[(.string s0), (.string s1)] σ (Cont R (fun v σ1 => ∃ s8a : ByteArray, ∃ t8b : Bool, v = (.tuple #[(.string s8a), (.bool t8b)]) ∧ R (.returned (.tuple #[(.string s8a), (.bool t8b)])) σ1))) : Spec prog 84 #[(.string s0), (.string s1)] σ R := by
 refine Spec.of_at (fn := f84) (c := K0) func84 (by kernel_rfl) (Nat.le_of_ble_eq_true (by kernel_rfl)) (fun e he => ?_)
 refine At.ofL (l := [(0, (.string s0)), (1, (.string s1))]) ⟨he 0, he 1, trivial⟩ (fun J => ?_)
 show At (gl R) _ _ _ _
 refine At.s K1 K2 ?_
 refine At.rg 0 [0, 1] ?_
 refine Seq.us [(4, .string (ByteArray.mk #[])), (5, .bool false)] ?_
 refine Seq.done ?_
 refine At.s K3 K4 ?_
 refine At.rg 1 [0, 1, 2, 3, 4, 5, 6] ?_
 refine Seq.us [(6, .string s0), (7, .string s1)] ?_
 refine Seq.o ?_
 refine OpTo.cl (some 8) call102 (h.cont fun v σ1 h2 => ?_); replace h := h2; clear h2
 obtain ⟨s8a, t8b, rfl, h⟩ := h
 refine Seq.us [(9, .string s8a), (10, .bool t8b), (4, .string s8a), (5, .bool t8b)] ?_
 refine Seq.done ?_
 exact At.rt [.tmp 4, .tmp 5] [(.string s8a), (.bool t8b)] func84 ⟨_, rfl, ⟨_, rfl, rfl⟩⟩ h
end strings_CutPrefix
namespace internal_stringslite_CutPrefix
abbrev fid : Nat := 102
noncomputable def K0 := f102.body.getD .skip
def K1 := cl K0
def K2 := cr K0
def K3 := cl K2
def K4 := cl K3
def K5 := cr K3
def K6 := cl K5
def K7 := cl K6
def K8 := cr K6
def K9 := cr K5
def K10 := cr K2
def K11 := cl K10
def K12 := cr K10
abbrev gl (R : Ending → Hp → Prop) : Gl := Gl.fn prog 102 15 R
theorem start {R : Ending → Hp → Prop} {s0 s1 : ByteArray} {σ : Hp} (h : Spec prog 74 #[(.string s0), (.string s1)] σ (Cont R (fun v σ1 => ∃ t8 : Bool, v = (.bool t8) ∧ (t8 = false → R (.returned (.tuple #[(.string s0), (.bool false)])) σ1) ∧ (t8 = true → ∃ s14 : ByteArray, YF prog (Instr.sliceAt 9 (.string s0) (some (.int .i64 ((ByteArray.size s1 : Nat) : Int))) none none) σ1 (.string s14) ∧ R (.returned (.tuple #[(.string s14), (.bool true)])) σ1)))) : Spec prog 102 #[(.string s0), (.string s1)] σ R := by
 refine Spec.of_at (fn := f102) (c := K0) func102 (by kernel_rfl) (Nat.le_of_ble_eq_true (by kernel_rfl)) (fun e he => ?_)
 refine At.ofL (l := [(0, (.string s0)), (1, (.string s1))]) ⟨he 0, he 1, trivial⟩ (fun J => ?_)
 show At (gl R) _ _ _ _
 refine At.s K1 K2 ?_
 refine At.rg 0 [0, 1] ?_
 refine Seq.us [(4, .string (ByteArray.mk #[])), (5, .bool false)] ?_
 refine Seq.done ?_
 refine At.s K3 K10 ?_
 refine At.s K4 K5 ?_
 refine At.rg 1 [0, 1, 2, 3] ?_
 refine Seq.us [(6, .string s0), (7, .string s1)] ?_
 refine Seq.o ?_
 refine OpTo.cl (some 8) call74 (h.cont fun v σ1 h2 => ?_); replace h := h2; clear h2
 obtain ⟨t8, rfl, h⟩ := h
 refine Seq.u 9 (.bool (!t8)) ?_
 refine Seq.done ?_
 cases hb : (!t8) with
 | true =>
  replace h := h.1 (Tw.nt hb)
  refine At.cT 9 K6 K9 ?_
  refine At.s K7 K8 ?_
  refine At.rg 2 [0, 1, 2] ?_
  refine Seq.us [(10, .string s0), (4, .string s0), (5, .bool false)] ?_
  refine Seq.done ?_
  exact At.rt [.tmp 4, .tmp 5] [(.string s0), (.bool false)] func102 ⟨_, rfl, ⟨_, rfl, rfl⟩⟩ h
 | false =>
  replace h := h.2 (Tw.nf hb)
  refine At.cF 9 K6 K9 ?_
  refine At.skip ?_
  refine At.s K11 K12 ?_
  refine At.rg 3 [0, 1, 2, 3, 4, 5] ?_
  refine Seq.us [(11, .string s0), (12, .string s1)] ?_
  refine Seq.z 13 (.call { callee := .builtin .len, args := #[(.tmp 12)], argTypes := #[9] }) 3 (.int .i64 ((ByteArray.size s1 : Nat) : Int)) (Y.lenStr underlying9 rfl rfl) ?_
  obtain ⟨s14, hy, h⟩ := h
  refine Seq.y (d := (some 14)) (op := (.slice 9 (.tmp 11) (some (.tmp 13)) none none)) (ty := 9) (v := (.string s14)) (by kernel_rfl) rfl (Yd.any (m := Instr.sliceAt 9 (.string s0) (some (.int .i64 ((ByteArray.size s1 : Nat) : Int))) none none) (fun o ho ht => by simp only [execOp, ho, ht]; rfl) hy) ?_
  refine Seq.us [(4, .string s14), (5, .bool true)] ?_
  refine Seq.done ?_
  exact At.rt [.tmp 4, .tmp 5] [(.string s14), (.bool true)] func102 ⟨_, rfl, ⟨_, rfl, rfl⟩⟩ h
end internal_stringslite_CutPrefix
namespace strconv_FormatUint
abbrev fid : Nat := 88
noncomputable def K0 := f88.body.getD .skip
def K1 := cl K0
def K2 := cr K0
def K3 := cl K2
def K4 := cr K2
abbrev gl (R : Ending → Hp → Prop) : Gl := Gl.fn prog 88 8 R
theorem start {R : Ending → Hp → Prop} {x0 x1 : Int} {σ : Hp} (h : Spec prog 107 #[(.int .u64 x0), (.int .i64 x1)] σ (Cont R (fun v σ1 => ∃ s7 : ByteArray, v = (.string s7) ∧ R (.returned (.string s7)) σ1))) : Spec prog 88 #[(.int .u64 x0), (.int .i64 x1)] σ R := by
 refine Spec.of_at (fn := f88) (c := K0) func88 (by kernel_rfl) (Nat.le_of_ble_eq_true (by kernel_rfl)) (fun e he => ?_)
 refine At.ofL (l := [(0, (.int .u64 x0)), (1, (.int .i64 x1))]) ⟨he 0, he 1, trivial⟩ (fun J => ?_)
 show At (gl R) _ _ _ _
 refine At.s K1 K2 ?_
 refine At.rg 0 [0] ?_
 refine Seq.u 4 (.string (ByteArray.mk #[])) ?_
 refine Seq.done ?_
 refine At.s K3 K4 ?_
 refine At.rg 1 [0, 1, 2, 3] ?_
 refine Seq.us [(5, .int .u64 x0), (6, .int .i64 x1)] ?_
 refine Seq.o ?_
 refine OpTo.cl (some 7) call107 (h.cont fun v σ1 h2 => ?_); replace h := h2; clear h2
 obtain ⟨s7, rfl, h⟩ := h
 refine Seq.u 4 (.string s7) ?_
 refine Seq.done ?_
 exact At.rt [.tmp 4] [(.string s7)] func88 ⟨_, rfl, rfl⟩ h
end strconv_FormatUint
namespace internal_strconv_FormatUint
abbrev fid : Nat := 107
noncomputable def K0 := f107.body.getD .skip
def K1 := cl K0
def K2 := cr K0
def K3 := cl K2
def K4 := cl K3
def K5 := cr K3
def K6 := cl K5
def K7 := cl K6
def K8 := cl K7
def K9 := cr K7
def K10 := cl K9
def K11 := cl K10
def K12 := cr K10
def K13 := cr K9
def K14 := cr K6
def K15 := cl K14
def K16 := cr K14
def K17 := cl K16
def K18 := cr K16
def K19 := cl K18
def K20 := cr K18
def K21 := cl K20
def K22 := cr K20
def K23 := cr K5
def K24 := cr K2
def K25 := cl K24
def K26 := cr K24
def K27 := cl K26
def K28 := cr K26
abbrev gl (R : Ending → Hp → Prop) : Gl := Gl.fn prog 107 32 R
theorem start {R : Ending → Hp → Prop} {x0 x1 : Int} {σ : Hp} (h : ((x1 : Int) = 10 → ((x0 : Int) < 100 → ∀ x14 : Int, x14 = IntKind.i64.wrap x0 → Spec prog 127 #[(.int .i64 x14)] σ (Cont R (fun v σ1 => ∃ s15 : ByteArray, v = (.string s15) ∧ R (.returned (.string s15)) σ1))) ∧ (¬ ((x0 : Int) < 100) → ∀ b5 : Nat, σ b5 = none → Spec prog 128 #[(.int .u64 x0)] (Hp.set σ b5 (.cells #[(.int .u8 0), (.int .u8 0), (.int .u8 0), (.int .u8 0), (.int .u8 0), (.int .u8 0), (.int .u8 0), (.int .u8 0), (.int .u8 0), (.int .u8 0), (.int .u8 0), (.int .u8 0), (.int .u8 0), (.int .u8 0), (.int .u8 0), (.int .u8 0), (.int .u8 0), (.int .u8 0), (.int .u8 0), (.int .u8 0), (.int .u8 0), (.int .u8 0), (.int .u8 0), (.int .u8 0)] 160 (0, 0))) (Cont R (fun v σ1 => ∃ x17 : Int, v = (.int .i64 x17) ∧ ∃ p19 : Option Addr, ∃ n19 : Nat, ∃ c19 : Nat, YF prog (Instr.sliceAt 160 (.pointer (some ⟨b5, 0, none⟩)) none (some (.int .i64 x17)) none) σ1 (.slice p19 n19 c19) ∧ Spec prog 129 #[(.slice p19 n19 c19), (.int .u64 x0)] σ1 (Cont R (fun v_2 σ1_2 => v_2 = (.tuple #[]) ∧ ∃ p23 : Option Addr, ∃ n23 : Nat, ∃ c23 : Nat, YF prog (Instr.sliceAt 160 (.pointer (some ⟨b5, 0, none⟩)) none (some (.int .i64 x17)) none) σ1_2 (.slice p23 n23 c23) ∧ Eff prog (convert 23 9 (.slice p23 n23 c23)) σ1_2 (fun v_3 σ1_3 => ∃ s24 : ByteArray, v_3 = (.string s24) ∧ R (.returned (.string s24)) σ1_3))))))) ∧ (¬ ((x1 : Int) = 10) → Spec prog 130 #[(.slice none 0 0), (.int .u64 x0), (.int .i64 x1), (.bool false), (.bool false)] σ (Cont R (fun v σ1 => ∃ p28a : Option Addr, ∃ n28a : Nat, ∃ c28a : Nat, ∃ s28b : ByteArray, v = (.tuple #[(.slice p28a n28a c28a), (.string s28b)]) ∧ R (.returned (.string s28b)) σ1)))) : Spec prog 107 #[(.int .u64 x0), (.int .i64 x1)] σ R := by
 refine Spec.of_at (fn := f107) (c := K0) func107 (by kernel_rfl) (Nat.le_of_ble_eq_true (by kernel_rfl)) (fun e he => ?_)
 refine At.ofL (l := [(0, (.int .u64 x0)), (1, (.int .i64 x1))]) ⟨he 0, he 1, trivial⟩ (fun J => ?_)
 show At (gl R) _ _ _ _
 refine At.s K1 K2 ?_
 refine At.rg 0 [0] ?_
 refine Seq.u 4 (.string (ByteArray.mk #[])) ?_
 refine Seq.done ?_
 refine At.s K3 K24 ?_
 refine At.s K4 K5 ?_
 refine At.rg 1 [0, 1] ?_
 refine Seq.us [(9, .int .i64 x1), (10, .bool (decide ((x1 : Int) = 10)))] ?_
 refine Seq.done ?_
 cases hb : (decide ((x1 : Int) = 10)) with
 | true =>
  replace h := h.1 (of_decide_eq_true hb)
  refine At.cT 10 K6 K23 ?_
  refine At.s K7 K14 ?_
  refine At.s K8 K9 ?_
  refine At.rg 2 [0, 1] ?_
  refine Seq.us [(11, .int .u64 x0), (12, .bool (decide ((x0 : Int) < 100)))] ?_
  refine Seq.done ?_
  cases hb : (decide ((x0 : Int) < 100)) with
  | true =>
   replace h := h.1 (of_decide_eq_true hb)
   refine At.cT 12 K10 K13 ?_
   refine At.s K11 K12 ?_
   refine At.rg 3 [0, 1, 2, 3] ?_
   refine Seq.u 13 (.int .u64 x0) ?_
   obtain ⟨x14, hwx14⟩ : ∃ y, y = IntKind.i64.wrap x0 := ⟨_, rfl⟩
   replace h := h x14 hwx14
   refine Seq.y (d := (some 14)) (op := (.convert 56 3 (.tmp 13))) (ty := 3) (v := (.int .i64 x14)) (by kernel_rfl) rfl (hwx14 ▸ Y.conv (by kernel_rfl) underlying3 rfl) ?_
   refine Seq.o ?_
   refine OpTo.cl (some 15) call127 (h.cont fun v σ1 h2 => ?_); replace h := h2; clear h2
   obtain ⟨s15, rfl, h⟩ := h
   refine Seq.u 4 (.string s15) ?_
   refine Seq.done ?_
   exact At.rt [.tmp 4] [(.string s15)] func107 ⟨_, rfl, rfl⟩ h
  | false =>
   replace h := h.2 (of_decide_eq_false hb)
   refine At.cF 12 K10 K13 ?_
   refine At.skip ?_
   refine At.s K15 K16 ?_
   refine At.rg 4 [0] ?_
   refine Seq.o ?_
   refine OpTo.allocO (T := 160) (d := (some 5)) (ty := 0)  (gd := none) (cs := #[(.int .u8 0), (.int .u8 0), (.int .u8 0), (.int .u8 0), (.int .u8 0), (.int .u8 0), (.int .u8 0), (.int .u8 0), (.int .u8 0), (.int .u8 0), (.int .u8 0), (.int .u8 0), (.int .u8 0), (.int .u8 0), (.int .u8 0), (.int .u8 0), (.int .u8 0), (.int .u8 0), (.int .u8 0), (.int .u8 0), (.int .u8 0), (.int .u8 0), (.int .u8 0), (.int .u8 0)]) (by kernel_rfl) rfl rfl zeroValue160 rfl (fun b5 hn => ?_)
   replace h := h b5 hn
   refine Seq.done ?_
   refine At.s K17 K18 ?_
   refine At.rg 5 [0, 1, 2] ?_
   refine Seq.u 16 (.int .u64 x0) ?_
   refine Seq.o ?_
   refine OpTo.cl (some 17) call128 (h.cont fun v σ1 h2 => ?_); replace h := h2; clear h2
   obtain ⟨x17, rfl, h⟩ := h
   refine Seq.u 6 (.int .i64 x17) ?_
   refine Seq.done ?_
   refine At.s K19 K20 ?_
   refine At.rg 6 [0, 1, 2, 3] ?_
   refine Seq.u 18 (.int .i64 x17) ?_
   obtain ⟨p19, n19, c19, hy, h⟩ := h
   refine Seq.y (d := (some 19)) (op := (.slice 160 (.tmp 5) none (some (.tmp 18)) none)) (ty := 23) (v := (.slice p19 n19 c19)) (by kernel_rfl) rfl (Yd.any (m := Instr.sliceAt 160 (.pointer (some ⟨b5, 0, none⟩)) none (some (.int .i64 x17)) none) (fun o ho ht => by simp only [execOp, ho, ht]; rfl) hy) ?_
   refine Seq.u 20 (.int .u64 x0) ?_
   refine Seq.o ?_
   refine OpTo.cl (some 21) call129 (h.cont fun v_2 σ1_2 h2 => ?_); replace h := h2; clear h2
   obtain ⟨rfl, h⟩ := h
   refine Seq.done ?_
   refine At.s K21 K22 ?_
   refine At.rg 7 [0, 1, 2, 3] ?_
   refine Seq.u 22 (.int .i64 x17) ?_
   obtain ⟨p23, n23, c23, hy, h⟩ := h
   refine Seq.y (d := (some 23)) (op := (.slice 160 (.tmp 5) none (some (.tmp 22)) none)) (ty := 23) (v := (.slice p23 n23 c23)) (by kernel_rfl) rfl (Yd.any (m := Instr.sliceAt 160 (.pointer (some ⟨b5, 0, none⟩)) none (some (.int .i64 x17)) none) (fun o ho ht => by simp only [execOp, ho, ht]; rfl) hy) ?_
   refine Seq.o ?_
   refine OpTo.eff (d := (some 24)) (op := (.convert 23 9 (.tmp 23))) (ty := 9) (gd := none) (by kernel_rfl) rfl rfl (convert 23 9 (.slice p23 n23 c23)) (fun o ho ht => by simp only [execOp, ho]; rfl) (h.mono (fun v_3 σ1_3 h2 => ?_)); replace h := h2; clear h2
   obtain ⟨s24, rfl, h⟩ := h
   refine Seq.u 4 (.string s24) ?_
   refine Seq.done ?_
   exact At.rt [.tmp 4] [(.string s24)] func107 ⟨_, rfl, rfl⟩ h
 | false =>
  replace h := h.2 (of_decide_eq_false hb)
  refine At.cF 10 K6 K23 ?_
  refine At.skip ?_
  refine At.s K25 K26 ?_
  refine At.rg 8 [0, 1, 2, 3, 4, 5, 6, 7] ?_
  refine Seq.us [(26, .int .u64 x0), (27, .int .i64 x1)] ?_
  refine Seq.o ?_
  refine OpTo.cl (some 28) call130 (h.cont fun v σ1 h2 => ?_); replace h := h2; clear h2
  obtain ⟨p28a, n28a, c28a, s28b, rfl, h⟩ := h
  refine Seq.us [(25, .tuple #[(.slice p28a n28a c28a), (.string s28b)]), (29, .slice p28a n28a c28a), (30, .string s28b), (7, .slice p28a n28a c28a), (8, .string s28b)] ?_
  refine Seq.done ?_
  refine At.s K27 K28 ?_
  refine At.rg 9 [0, 1] ?_
  refine Seq.us [(31, .string s28b), (4, .string s28b)] ?_
  refine Seq.done ?_
  exact At.rt [.tmp 4] [(.string s28b)] func107 ⟨_, rfl, rfl⟩ h
end internal_strconv_FormatUint

end
end TwW
end
section
namespace TwW
open Go Tw Go.Proofs.Tryz
section
variable {σ : Hp} {d : Nat} {D : Dk} {S : List Nat} {R : Ending → Hp → Prop}
theorem disk_new_spec (h : ∀ d σ' S', DiskAt σ' d ⟨fun _ => none, true, false, 0⟩ S' → Ext σ (σ'.off S') → R (.returned (.pointer (some ⟨d, 0, none⟩))) σ') : Spec prog disk_New.fid #[] σ R := by
  refine disk_New.start (makeMap_eff fun m hm => ⟨m, rfl, fun d hd => ?_⟩)
  have hne : m ≠ d := fun e => by rw [e, Hp.set_same] at hd; cases hd
  have hd' : σ d = none := by rw [Hp.set_ne (Ne.symm hne)] at hd; exact hd
  refine h d _ [d, m] ⟨m, 0, [], 69, 0, 0, 0, ⟨rfl, hne, by simp, by simp, Hp.set_same _ _ _, ?_, by simp, rfl, Nat.le_refl _⟩⟩ ((Ext.set hm).trans (Ext.set hd) |>.off_of (by simp [hm, hd']))
  exact MapAt.fresh.loc (Hp.set_ne hne)
theorem up_spec (hd : DiskAt σ d D S) (h : R (.returned (.bool D.up)) σ) : Spec prog disk_Disk_Up.fid #[.pointer (some ⟨d, 0, none⟩)] σ R := by
  obtain ⟨m, cl, rows, T, a, b, e, hd⟩ := hd
  exact disk_Disk_Up.start ⟨d, 0, rfl, _, ld_of hd.obj rfl, h⟩
theorem on_spec (hd : DiskAt σ d D S) (h : ∀ σ', DiskAt σ' d { D with up := true } S → Ext (σ.off S) (σ'.off S) → R (.returned (.tuple #[])) σ') : Spec prog disk_Disk_On.fid #[.pointer (some ⟨d, 0, none⟩)] σ R := by
  obtain ⟨m, cl, rows, T, a, b, e, hd⟩ := hd
  refine disk_Disk_On.start ⟨d, 0, rfl, ?_⟩
  exact hd.st (i := 0 + 1) (up := true) (armed := D.armed) size4 rfl (by omega) (by simp [Value.cells, Value.oneCell']) rfl fun σ1 h1 e1 _ => h σ1 ⟨_, _, _, _, _, _, _, h1⟩ e1
theorem arm_spec {x y : Int} (hd : DiskAt σ d D S) (h : ∀ σ' a, DiskAt σ' d { D with armed := a } S → Ext (σ.off S) (σ'.off S) → R (.returned (.tuple #[])) σ') : Spec prog disk_Disk_Arm.fid #[.pointer (some ⟨d, 0, none⟩), .int .i64 x, .int .i64 y] σ R := by
  obtain ⟨m, cl, rows, T, a, b, e, hd⟩ := hd
  refine disk_Disk_Arm.start ⟨d, 0, rfl, ?_⟩
  refine hd.st (i := 0 + 2) (up := D.up) (armed := decide ((0 : Int) ≤ x)) size4 rfl (by omega) (by simp [Value.cells, Value.oneCell']) rfl fun σ1 h1 e1 _ => ?_
  refine h1.st (i := 0 + 3) (up := D.up) (armed := decide ((0 : Int) ≤ x)) (left' := x) size3 rfl (by omega) (by simp [Value.cells, Value.oneCell']) rfl fun σ2 h2 e2 _ => ?_
  refine h2.st (i := 0 + 4) (up := D.up) (armed := decide ((0 : Int) ≤ x)) (keep' := y) size3 rfl (by omega) (by simp [Value.cells, Value.oneCell']) rfl fun σ3 h3 e3 _ => ?_
  exact h σ3 _ ⟨_, _, _, _, _, _, _, h3⟩ (e1.trans (e2.trans e3))
theorem off_spec {x : Int} (hd : DiskAt σ d D S) (h0 : D.up = false → R (.returned (.tuple #[])) σ)
    (h1 : D.up = true → ∀ σ' S' gs, Crash D.files gs → (x = 0 → Crash0 D.files gs) → DiskAt σ' d ⟨gs, false, false, D.cnt⟩ S' → Ext (σ.off S) (σ'.off S') → R (.returned (.tuple #[])) σ') : Spec prog disk_Disk_Off.fid #[.pointer (some ⟨d, 0, none⟩), .int .i64 x] σ R := by
  have hd' := hd
  obtain ⟨m, cl, rows, T, a, b, e, hdi⟩ := hd'
  exact disk_Disk_Off.start ⟨d, 0, rfl, _, ld_of hdi.obj rfl, fun ht => cut_spec hd fun σ' S' gs hg hz hD hE => ⟨rfl, h1 ht σ' S' gs hg hz hD hE⟩, h0⟩
theorem read_spec {s : ByteArray} {f : Fl} (hd : DiskAt σ d D S) (hup : D.up = true) (hn : nameOk s = true) (hf : D.files s = some f)
    (h : ∀ p c σ', OwnI .u8 (σ.new σ') p f.data.length c f.data → Ext σ σ' → R (.returned (.tuple #[.slice p f.data.length c, .int .i64 0])) σ') : Spec prog disk_Disk_Read.fid #[.pointer (some ⟨d, 0, none⟩), .string s] σ R := by
  have hd' := hd
  obtain ⟨m, cl, rows, T, a, b, e, hdi⟩ := hd'
  refine disk_Disk_Read.start ⟨d, 0, rfl, _, ld_of hdi.obj rfl, fun hh => (by rw [hup] at hh; cases hh), fun _ => there_spec hd (fun hh => by rw [hn] at hh; cases hh) (fun _ hh => by rw [hf] at hh; cases hh) fun f' _ _ => ⟨0, rfl, fun hh => absurd rfl hh, fun _ b18 hb => ?_⟩⟩
  have hd2 := hdi.mono (σ' := σ.set b18 (.cells #[] 5 (0, 0))) (.set hb)
  refine ⟨some m, ld_of hd2.obj rfl, hd2.look (fun _ hfs => by rw [hf] at hfs; cases hfs) fun r1 r r2 hrows hname hfs => ⟨_, rfl, r.f, 0, rfl, r.p, r.n, r.c, ?_⟩⟩
  rw [hf] at hfs
  cases hfs
  have hr := hd2.row r (by simp [hrows])
  refine ⟨ld_of hr.obj rfl, ?_⟩
  have hbig : r.n ≤ 140737488355328 := Nat.le_trans hr.small (by decide)
  have hq : ∀ a : Addr, (some (⟨b18, 0, none⟩ : Addr)) = some a → σ a.block = none := fun a ha => by cases ha; exact hb
  refine app_eff (T := 23) Own.empty (Own.rd hr.own) OneC.map_int (by rw [Nat.zero_add, Nat.mul_one]; exact hbig) fun p' c' σ' hown hext => ⟨p', _, c', rfl, ?_⟩
  rw [Nat.zero_add] at hown ⊢
  exact h p' c' σ' (Own.to_new hown (new_block hq hext (.set hb))) (ext_new hq hext (.set hb))
theorem strTo {s : ByteArray} {h : Nat} (hh : h ≤ s.size) : YF prog (Instr.sliceAt 9 (.string s) none (some (.int .i64 (h : Int))) none) σ (.string (s.extract 0 h)) := fun w _ => by
  rw [run_sliceAt_string (h := underlying9)]
  have h1 : (h : Int) ≤ s.size := by omega
  simp [Instr.slice, run_underlying underlying9, Instr.sliceBounds, run_sliceBound, h1, Result.andThen]
theorem strFrom {s : ByteArray} {l : Nat} (hl : l ≤ s.size) : YF prog (Instr.sliceAt 9 (.string s) (some (.int .i64 (l : Int))) none none) σ (.string (s.extract l s.size)) := fun w _ => by
  rw [run_sliceAt_string (h := underlying9)]
  have h1 : (l : Int) ≤ s.size := by omega
  simp [Instr.slice, run_underlying underlying9, Instr.sliceBounds, run_sliceBound, h1, Result.andThen]
def begins (s t : ByteArray) : Bool := decide (t.data.toList <+: s.data.toList)
theorem ext_list {s : ByteArray} {i j : Nat} : (s.extract i j).data.toList = (s.data.toList.drop i).take (j - i) := by
  rw [ByteArray.data_extract, Array.toList_extract, List.extract]
theorem beq_list {a b : ByteArray} : (ByteArray.toList a == ByteArray.toList b) = decide (a.data.toList = b.data.toList) := by
  rw [ByteArray.toList_eq, ByteArray.toList_eq]
  by_cases h : a.data.toList = b.data.toList
  · simp [h]
  · rw [decide_eq_false h]; exact beq_eq_false_iff_ne.2 h
theorem prefL_spec {s t : ByteArray} (h : R (.returned (.bool (begins s t))) σ) : Spec prog internal_stringslite_HasPrefix.fid #[.string s, .string t] σ R := by
  have hs : s.data.toList.length = s.size := rfl
  have ht : t.data.toList.length = t.size := rfl
  refine internal_stringslite_HasPrefix.start ⟨fun hle => ⟨_, strTo (by omega), ?_⟩, fun hgt => ?_⟩
  · rw [beq_list, ext_list]
    have : (List.take (t.size - 0) (List.drop 0 s.data.toList) = t.data.toList) ↔ t.data.toList <+: s.data.toList := by
      rw [List.drop_zero, Nat.sub_zero, ← ht]
      exact ⟨fun e => e ▸ List.take_prefix _ _, fun e => (List.prefix_iff_eq_take.1 e).symm⟩
    rw [show decide (List.take (t.size - 0) (List.drop 0 s.data.toList) = t.data.toList) = begins s t from decide_eq_decide.2 this]
    exact h
  · have : begins s t = false := by
      unfold begins
      rw [decide_eq_false_iff_not]
      intro e
      have := e.length_le
      omega
    rwa [this] at h
theorem pref_spec {s t : ByteArray} (h : R (.returned (.bool (begins s t))) σ) : Spec prog strings_HasPrefix.fid #[.string s, .string t] σ R :=
  strings_HasPrefix.start (prefL_spec ⟨_, rfl, h⟩)
theorem cutp_spec {s t : ByteArray} (h0 : begins s t = false → R (.returned (.tuple #[.string s, .bool false])) σ) (h1 : begins s t = true → R (.returned (.tuple #[.string (s.extract t.size s.size), .bool true])) σ) : Spec prog strings_CutPrefix.fid #[.string s, .string t] σ R := by
  refine strings_CutPrefix.start (internal_stringslite_CutPrefix.start (prefL_spec ⟨_, rfl, fun hf => ⟨_, _, rfl, h0 hf⟩, fun ht => ⟨_, strFrom ?_, _, _, rfl, h1 ht⟩⟩))
  have : t.data.toList <+: s.data.toList := by simpa [begins] using ht
  exact this.length_le
end
end TwW
end
section
namespace Go.Proofs
open Go.Shelf
def Tryz.lays172_ren : Go.Shelf.Ren := ⟨fun | 172 => 85 | 244 => 103 | 245 => 104 | 247 => 114 | 279 => 115 | 280 => 116 | 281 => 117 | 282 => 118 | 287 => 132 | 316 => 133 | 171 => 135 | 205 => 134 | 321 => 144 | 322 => 145 | 243 => 146 | 246 => 151 | 283 => 127 | 284 => 128 | 285 => 129 | 286 => 130 | 129 => 99 | 317 => 140 | 318 => 141 | 319 => 142 | 320 => 143 | 337 => 149 | 338 => 150 | n => n, fun | 9 => 9 | 3 => 3 | 75 => 119 | 76 => 120 | 4 => 4 | 5 => 5 | 167 => 142 | 37 => 23 | 0 => 0 | 85 => 143 | 2 => 2 | 168 => 145 | 53 => 56 | 175 => 167 | 46 => 82 | 210 => 171 | 127 => 178 | 145 => 186 | 143 => 184 | 21 => 21 | 171 => 160 | 173 => 162 | 212 => 180 | 51 => 79 | 20 => 20 | 213 => 181 | 232 => 191 | 233 => 192 | 80 => 100 | n => n, fun | 15 => 0 | 16 => 1 | 17 => 2 | 18 => 4 | 19 => 5 | n => n⟩
theorem Tryz.lays172 : Go.Proofs.Lays.n172 Tryz.prog Tryz.lays172_ren := {
  mixed := by kernel_rfl
  f129 := Tryz.func99.trans (congrArg some (by kernel_rfl))
  f171 := Tryz.func135.trans (congrArg some (by kernel_rfl))
  f172 := Tryz.func85.trans (congrArg some (by kernel_rfl))
  f205 := Tryz.func134.trans (congrArg some (by kernel_rfl))
  f243 := Tryz.func146.trans (congrArg some (by kernel_rfl))
  f244 := Tryz.func103.trans (congrArg some (by kernel_rfl))
  f245 := Tryz.func104.trans (congrArg some (by kernel_rfl))
  f246 := Tryz.func151.trans (congrArg some (by kernel_rfl))
  f247 := Tryz.func114.trans (congrArg some (by kernel_rfl))
  f279 := Tryz.func115.trans (congrArg some (by kernel_rfl))
  f280 := Tryz.func116.trans (congrArg some (by kernel_rfl))
  f281 := Tryz.func117.trans (congrArg some (by kernel_rfl))
  f282 := Tryz.func118.trans (congrArg some (by kernel_rfl))
  f283 := Tryz.func127.trans (congrArg some (by kernel_rfl))
  f284 := Tryz.func128.trans (congrArg some (by kernel_rfl))
  f285 := Tryz.func129.trans (congrArg some (by kernel_rfl))
  f286 := Tryz.func130.trans (congrArg some (by kernel_rfl))
  f287 := Tryz.func132.trans (congrArg some (by kernel_rfl))
  f316 := Tryz.func133.trans (congrArg some (by kernel_rfl))
  f317 := Tryz.func140.trans (congrArg some (by kernel_rfl))
  f318 := Tryz.func141.trans (congrArg some (by kernel_rfl))
  f319 := Tryz.func142.trans (congrArg some (by kernel_rfl))
  f320 := Tryz.func143.trans (congrArg some (by kernel_rfl))
  f321 := Tryz.func144.trans (congrArg some (by kernel_rfl))
  f322 := Tryz.func145.trans (congrArg some (by kernel_rfl))
  f337 := Tryz.func149.trans (congrArg some (by kernel_rfl))
  f338 := Tryz.func150.trans (congrArg some (by kernel_rfl))
  t0 := Tryz.underlying0
  a0 := Tryz.isAgg0
  z0 := Tryz.sizeOf0
  v0 := Tryz.zeroValue0
  t2 := Tryz.underlying2
  a2 := Tryz.isAgg2
  z2 := Tryz.sizeOf2
  v2 := Tryz.zeroValue2
  t3 := Tryz.underlying3
  a3 := Tryz.isAgg3
  z3 := Tryz.sizeOf3
  v3 := Tryz.zeroValue3
  t4 := Tryz.underlying4
  a4 := Tryz.isAgg4
  z4 := Tryz.sizeOf4
  v4 := Tryz.zeroValue4
  t5 := Tryz.underlying5
  a5 := Tryz.isAgg5
  z5 := Tryz.sizeOf5
  v5 := Tryz.zeroValue5
  t9 := Tryz.underlying9
  a9 := Tryz.isAgg9
  z9 := Tryz.sizeOf9
  v9 := Tryz.zeroValue9
  t20 := Tryz.underlying20
  a20 := Tryz.isAgg20
  z20 := Tryz.sizeOf20
  v20 := Tryz.zeroValue20
  t21 := Tryz.underlying21
  a21 := Tryz.isAgg21
  z21 := Tryz.sizeOf21
  v21 := Tryz.zeroValue21
  t37 := Tryz.underlying23
  a37 := Tryz.isAgg23
  z37 := Tryz.sizeOf23
  v37 := Tryz.zeroValue23
  t46 := Tryz.underlying82
  a46 := Tryz.isAgg82
  z46 := Tryz.sizeOf82
  v46 := Tryz.zeroValue82
  t51 := Tryz.underlying79
  a51 := Tryz.isAgg79
  z51 := Tryz.sizeOf79
  v51 := Tryz.zeroValue79
  t53 := Tryz.underlying56
  a53 := Tryz.isAgg56
  z53 := Tryz.sizeOf56
  v53 := Tryz.zeroValue56
  t75 := Tryz.underlying119
  a75 := Tryz.isAgg119
  z75 := Tryz.sizeOf119
  v75 := Tryz.zeroValue119
  t76 := Tryz.underlying120
  a76 := Tryz.isAgg120
  z76 := Tryz.sizeOf120
  v76 := Tryz.zeroValue120
  t85 := Tryz.underlying143
  a85 := Tryz.isAgg143
  z85 := Tryz.sizeOf143
  v85 := Tryz.zeroValue143
  t127 := Tryz.underlying178
  a127 := Tryz.isAgg178
  z127 := Tryz.sizeOf178
  v127 := Tryz.zeroValue178
  t143 := Tryz.underlying184
  a143 := Tryz.isAgg184
  z143 := Tryz.sizeOf184
  v143 := Tryz.zeroValue184
  t145 := Tryz.underlying186
  a145 := Tryz.isAgg186
  z145 := Tryz.sizeOf186
  v145 := Tryz.zeroValue186
  t167 := Tryz.underlying142
  a167 := Tryz.isAgg142
  z167 := Tryz.sizeOf142
  v167 := Tryz.zeroValue142
  t168 := Tryz.underlying145
  a168 := Tryz.isAgg145
  z168 := Tryz.sizeOf145
  v168 := Tryz.zeroValue145
  t171 := Tryz.underlying160
  a171 := Tryz.isAgg160
  z171 := Tryz.sizeOf160
  v171 := Tryz.zeroValue160
  t173 := Tryz.underlying162
  a173 := Tryz.isAgg162
  z173 := Tryz.sizeOf162
  v173 := Tryz.zeroValue162
  t175 := Tryz.underlying167
  a175 := Tryz.isAgg167
  z175 := Tryz.sizeOf167
  v175 := Tryz.zeroValue167
  t210 := Tryz.underlying171
  a210 := Tryz.isAgg171
  z210 := Tryz.sizeOf171
  v210 := Tryz.zeroValue171
  t212 := Tryz.underlying180
  a212 := Tryz.isAgg180
  z212 := Tryz.sizeOf180
  v212 := Tryz.zeroValue180
  t213 := Tryz.underlying181
  a213 := Tryz.isAgg181
  z213 := Tryz.sizeOf181
  t232 := Tryz.underlying191
  a232 := Tryz.isAgg191
  z232 := Tryz.sizeOf191
  v232 := Tryz.zeroValue191
  t233 := Tryz.underlying192
  a233 := Tryz.isAgg192
  z233 := Tryz.sizeOf192
  v233 := Tryz.zeroValue192
  g15 := by kernel_rfl
  g16 := by kernel_rfl
  g17 := by kernel_rfl
  g18 := by kernel_rfl
  g19 := by kernel_rfl }
open Go.RowKit in
theorem Tryz.strconv_Atoi (s : ByteArray) (n : Int) (hl : s.size ≤ 18) (h : Lib.atoi s.data.toList = some n) (w : World) :
    Calls Tryz.prog 85 #[.string s] w fun e w' => e = .returned (.tuple #[.int .i64 n, .nilIface]) ∧ ∃ t, w' = Lib.bytesWorld w 5 t := Any.strconv_Atoi Tryz.lays172 s n hl h w
def Tryz.lays283_ren : Go.Shelf.Ren := ⟨fun | 283 => 127 | n => n, fun | 3 => 3 | 9 => 9 | 4 => 4 | n => n, fun | n => n⟩
theorem Tryz.lays283 : Go.Proofs.Lays.n283 Tryz.prog Tryz.lays283_ren := {
  mixed := by kernel_rfl
  f283 := Tryz.func127.trans (congrArg some (by kernel_rfl))
  t3 := Tryz.underlying3
  a3 := Tryz.isAgg3
  z3 := Tryz.sizeOf3
  v3 := Tryz.zeroValue3
  t4 := Tryz.underlying4
  a4 := Tryz.isAgg4
  z4 := Tryz.sizeOf4
  v4 := Tryz.zeroValue4
  t9 := Tryz.underlying9
  a9 := Tryz.isAgg9
  z9 := Tryz.sizeOf9
  v9 := Tryz.zeroValue9 }
open Go.Lib in
theorem Tryz.internal_strconv_small (i : Nat) (h : i < 100) (w : World) :
    Calls Tryz.prog 127 #[.int .i64 i] w fun e w' => e = .returned (.string ⟨(Lib.decDigits i).toArray⟩) ∧ w' = w := Any.internal_strconv_small Tryz.lays283 i h w
def Tryz.laysM284_ren : Go.Shelf.Ren := ⟨fun | 284 => 128 | 129 => 99 | 317 => 140 | 318 => 141 | n => n, fun | 53 => 56 | 3 => 3 | 212 => 180 | 0 => 0 | 4 => 4 | 46 => 82 | 5 => 5 | 9 => 9 | n => n, fun | 17 => 2 | n => n⟩
theorem Tryz.laysM284 : Go.Proofs.LaysM.n284 Tryz.prog Tryz.laysM284_ren := {
  mixed := by kernel_rfl
  f129 := Tryz.func99.trans (congrArg some (by kernel_rfl))
  f284 := Tryz.func128.trans (congrArg some (by kernel_rfl))
  f317 := Tryz.func140.trans (congrArg some (by kernel_rfl))
  f318 := Tryz.func141.trans (congrArg some (by kernel_rfl))
  t0 := Tryz.underlying0
  a0 := Tryz.isAgg0
  z0 := Tryz.sizeOf0
  v0 := Tryz.zeroValue0
  t3 := Tryz.underlying3
  a3 := Tryz.isAgg3
  z3 := Tryz.sizeOf3
  v3 := Tryz.zeroValue3
  t4 := Tryz.underlying4
  a4 := Tryz.isAgg4
  z4 := Tryz.sizeOf4
  v4 := Tryz.zeroValue4
  t5 := Tryz.underlying5
  a5 := Tryz.isAgg5
  z5 := Tryz.sizeOf5
  v5 := Tryz.zeroValue5
  t9 := Tryz.underlying9
  a9 := Tryz.isAgg9
  z9 := Tryz.sizeOf9
  v9 := Tryz.zeroValue9
  t46 := Tryz.underlying82
  a46 := Tryz.isAgg82
  z46 := Tryz.sizeOf82
  v46 := Tryz.zeroValue82
  t53 := Tryz.underlying56
  a53 := Tryz.isAgg56
  z53 := Tryz.sizeOf56
  v53 := Tryz.zeroValue56
  t212 := Tryz.underlying180
  a212 := Tryz.isAgg180
  z212 := Tryz.sizeOf180
  v212 := Tryz.zeroValue180
  g17 := by kernel_rfl
  i0 := by kernel_rfl
  i3 := by kernel_rfl
  i4 := by kernel_rfl
  i5 := by kernel_rfl
  i9 := by kernel_rfl
  i46 := by kernel_rfl
  i53 := by kernel_rfl
  i212 := by kernel_rfl
  m17 := by kernel_rfl }
open Go.Lib in
theorem Tryz.internal_strconv_numDigits (u : Nat) (h1 : 1 ≤ u) (h2 : u < 18446744073709551616) (w : World) (htab : Lib.TabIs Tryz.prog w "internal/strconv.uint64pow10" .u64 Lib.pow10Tab) :
    Calls Tryz.prog 128 #[.int .u64 u] w fun e w' => e = .returned (.int .i64 (Lib.nDigits u)) ∧ w' = w := Any.internal_strconv_numDigits Tryz.laysM284 u h1 h2 w htab
def Tryz.lays285_ren : Go.Shelf.Ren := ⟨fun | 285 => 129 | n => n, fun | 37 => 23 | 53 => 56 | 3 => 3 | 4 => 4 | 51 => 79 | 9 => 9 | 5 => 5 | 0 => 0 | n => n, fun | n => n⟩
theorem Tryz.lays285 : Go.Proofs.Lays.n285 Tryz.prog Tryz.lays285_ren := {
  mixed := by kernel_rfl
  f285 := Tryz.func129.trans (congrArg some (by kernel_rfl))
  t0 := Tryz.underlying0
  a0 := Tryz.isAgg0
  z0 := Tryz.sizeOf0
  v0 := Tryz.zeroValue0
  t3 := Tryz.underlying3
  a3 := Tryz.isAgg3
  z3 := Tryz.sizeOf3
  v3 := Tryz.zeroValue3
  t4 := Tryz.underlying4
  a4 := Tryz.isAgg4
  z4 := Tryz.sizeOf4
  v4 := Tryz.zeroValue4
  t5 := Tryz.underlying5
  a5 := Tryz.isAgg5
  z5 := Tryz.sizeOf5
  v5 := Tryz.zeroValue5
  t9 := Tryz.underlying9
  a9 := Tryz.isAgg9
  z9 := Tryz.sizeOf9
  v9 := Tryz.zeroValue9
  t37 := Tryz.underlying23
  a37 := Tryz.isAgg23
  z37 := Tryz.sizeOf23
  v37 := Tryz.zeroValue23
  t51 := Tryz.underlying79
  a51 := Tryz.isAgg79
  z51 := Tryz.sizeOf79
  v51 := Tryz.zeroValue79
  t53 := Tryz.underlying56
  a53 := Tryz.isAgg56
  z53 := Tryz.sizeOf56
  v53 := Tryz.zeroValue56 }
open Go.RowKit Go.Sort Go.Lib in
theorem Tryz.internal_strconv_formatBase10 (blk off cap : Nat) (u : Nat) (d : Array UInt8) (w : World) (hH : Holds (fun (b : UInt8) => Value.int .u8 (b.toNat : Int)) w blk off d) (hu : u < 10 ^ d.size) (hu64 : u < 18446744073709551616) (hsz : d.size < 4611686018427387904) :
    Calls Tryz.prog 129 #[.slice (some ⟨blk, off, none⟩) d.size cap, .int .u64 u] w fun e w' =>
      e = .returned (.tuple #[]) ∧ ∃ (n v' : Nat) (dk : Array UInt8), w' = (putRow (fun (b : UInt8) => Value.int .u8 (b.toNat : Int)) w blk off dk).drewN n ∧ FmtInv d.size u 0 v' dk := Any.internal_strconv_formatBase10 Tryz.lays285 blk off cap u d w hH hu hu64 hsz
def Tryz.lays190_ren : Go.Shelf.Ren := ⟨fun | 190 => 50 | 125 => 76 | 258 => 75 | 128 => 98 | 129 => 99 | 302 => 89 | 303 => 90 | 304 => 91 | 305 => 92 | 306 => 93 | 307 => 94 | 308 => 95 | 309 => 96 | 310 => 97 | 333 => 108 | 329 => 109 | 330 => 110 | 334 => 111 | 335 => 112 | 336 => 113 | 344 => 131 | n => n, fun | 31 => 36 | 9 => 9 | 3 => 3 | 46 => 82 | 0 => 0 | 51 => 79 | 53 => 56 | 4 => 4 | 183 => 125 | 182 => 124 | 131 => 129 | 5 => 5 | 218 => 136 | 222 => 140 | 228 => 164 | 229 => 165 | n => n, fun | n => n⟩
theorem Tryz.lays190 : Go.Proofs.Lays.n190 Tryz.prog Tryz.lays190_ren := {
  mixed := by kernel_rfl
  f125 := Tryz.func76.trans (congrArg some (by kernel_rfl))
  f128 := Tryz.func98.trans (congrArg some (by kernel_rfl))
  f129 := Tryz.func99.trans (congrArg some (by kernel_rfl))
  f190 := Tryz.func50.trans (congrArg some (by kernel_rfl))
  f258 := Tryz.func75.trans (congrArg some (by kernel_rfl))
  f302 := Tryz.func89.trans (congrArg some (by kernel_rfl))
  f303 := Tryz.func90.trans (congrArg some (by kernel_rfl))
  f304 := Tryz.func91.trans (congrArg some (by kernel_rfl))
  f305 := Tryz.func92.trans (congrArg some (by kernel_rfl))
  f306 := Tryz.func93.trans (congrArg some (by kernel_rfl))
  f307 := Tryz.func94.trans (congrArg some (by kernel_rfl))
  f308 := Tryz.func95.trans (congrArg some (by kernel_rfl))
  f309 := Tryz.func96.trans (congrArg some (by kernel_rfl))
  f310 := Tryz.func97.trans (congrArg some (by kernel_rfl))
  f329 := Tryz.func109.trans (congrArg some (by kernel_rfl))
  f330 := Tryz.func110.trans (congrArg some (by kernel_rfl))
  f333 := Tryz.func108.trans (congrArg some (by kernel_rfl))
  f334 := Tryz.func111.trans (congrArg some (by kernel_rfl))
  f335 := Tryz.func112.trans (congrArg some (by kernel_rfl))
  f336 := Tryz.func113.trans (congrArg some (by kernel_rfl))
  f344 := Tryz.func131.trans (congrArg some (by kernel_rfl))
  t0 := Tryz.underlying0
  a0 := Tryz.isAgg0
  z0 := Tryz.sizeOf0
  v0 := Tryz.zeroValue0
  t3 := Tryz.underlying3
  a3 := Tryz.isAgg3
  z3 := Tryz.sizeOf3
  v3 := Tryz.zeroValue3
  t4 := Tryz.underlying4
  a4 := Tryz.isAgg4
  z4 := Tryz.sizeOf4
  v4 := Tryz.zeroValue4
  t5 := Tryz.underlying5
  a5 := Tryz.isAgg5
  z5 := Tryz.sizeOf5
  v5 := Tryz.zeroValue5
  t9 := Tryz.underlying9
  a9 := Tryz.isAgg9
  z9 := Tryz.sizeOf9
  v9 := Tryz.zeroValue9
  t31 := Tryz.underlying36
  a31 := Tryz.isAgg36
  z31 := Tryz.sizeOf36
  v31 := Tryz.zeroValue36
  t46 := Tryz.underlying82
  a46 := Tryz.isAgg82
  z46 := Tryz.sizeOf82
  v46 := Tryz.zeroValue82
  t51 := Tryz.underlying79
  a51 := Tryz.isAgg79
  z51 := Tryz.sizeOf79
  v51 := Tryz.zeroValue79
  t53 := Tryz.underlying56
  a53 := Tryz.isAgg56
  z53 := Tryz.sizeOf56
  v53 := Tryz.zeroValue56
  t131 := Tryz.underlying129
  a131 := Tryz.isAgg129
  z131 := Tryz.sizeOf129
  v131 := Tryz.zeroValue129
  t182 := Tryz.underlying124
  a182 := Tryz.isAgg124
  z182 := Tryz.sizeOf124
  v182 := Tryz.zeroValue124
  t183 := Tryz.underlying125
  a183 := Tryz.isAgg125
  z183 := Tryz.sizeOf125
  v183 := Tryz.zeroValue125
  t218 := Tryz.underlying136
  a218 := Tryz.isAgg136
  z218 := Tryz.sizeOf136
  v218 := Tryz.zeroValue136
  t222 := Tryz.underlying140
  a222 := Tryz.isAgg140
  z222 := Tryz.sizeOf140
  v222 := Tryz.zeroValue140
  t228 := Tryz.underlying164
  a228 := Tryz.isAgg164
  z228 := Tryz.sizeOf164
  v228 := Tryz.zeroValue164
  t229 := Tryz.underlying165
  a229 := Tryz.isAgg165
  z229 := Tryz.sizeOf165
  v229 := Tryz.zeroValue165 }
open Go.Sort Go.RowKit in
theorem Tryz.slices_Sort_string (blk off cap : Nat) (ss : List (List UInt8)) (w : World) (hH : Holds encStr w blk off ss.toArray) (hblk : blk < w.heap.size) (hsz : ss.length < 4611686018427387904) :
    Calls Tryz.prog 50 #[.slice (some ⟨blk, off, none⟩) ss.length cap] w fun e w' =>
      e = .returned (.tuple #[]) ∧ ∃ n os, w' = grow (putRow encStr (Sort.ahead w n) blk off (ss.mergeSort fun x y => decide (x ≤ y)).toArray) os := Any.slices_Sort_string Tryz.lays190 blk off cap ss w hH hblk hsz
def Tryz.lays105_ren : Go.Shelf.Ren := ⟨fun | 105 => 106 | 212 => 122 | 99 => 49 | 165 => 123 | 166 => 124 | 170 => 125 | 169 => 126 | 263 => 136 | 264 => 137 | 206 => 74 | 240 => 138 | 241 => 139 | 276 => 147 | 277 => 148 | n => n, fun | 9 => 9 | 3 => 3 | 4 => 4 | 20 => 20 | 0 => 0 | 46 => 82 | 109 => 154 | 5 => 5 | 72 => 158 | 76 => 120 | 51 => 79 | 146 => 174 | 53 => 56 | 148 => 176 | 70 => 156 | 37 => 23 | 75 => 119 | 127 => 178 | 164 => 187 | 80 => 100 | n => n, fun | n => n⟩
theorem Tryz.lays105 : Go.Proofs.Lays.n105 Tryz.prog Tryz.lays105_ren := {
  mixed := by kernel_rfl
  f99 := Tryz.func49.trans (congrArg some (by kernel_rfl))
  f105 := Tryz.func106.trans (congrArg some (by kernel_rfl))
  f165 := Tryz.func123.trans (congrArg some (by kernel_rfl))
  f166 := Tryz.func124.trans (congrArg some (by kernel_rfl))
  f169 := Tryz.func126.trans (congrArg some (by kernel_rfl))
  f170 := Tryz.func125.trans (congrArg some (by kernel_rfl))
  f206 := Tryz.func74.trans (congrArg some (by kernel_rfl))
  f212 := Tryz.func122.trans (congrArg some (by kernel_rfl))
  f240 := Tryz.func138.trans (congrArg some (by kernel_rfl))
  f241 := Tryz.func139.trans (congrArg some (by kernel_rfl))
  f263 := Tryz.func136.trans (congrArg some (by kernel_rfl))
  f264 := Tryz.func137.trans (congrArg some (by kernel_rfl))
  f276 := Tryz.func147.trans (congrArg some (by kernel_rfl))
  f277 := Tryz.func148.trans (congrArg some (by kernel_rfl))
  t0 := Tryz.underlying0
  a0 := Tryz.isAgg0
  z0 := Tryz.sizeOf0
  v0 := Tryz.zeroValue0
  t3 := Tryz.underlying3
  a3 := Tryz.isAgg3
  z3 := Tryz.sizeOf3
  v3 := Tryz.zeroValue3
  t4 := Tryz.underlying4
  a4 := Tryz.isAgg4
  z4 := Tryz.sizeOf4
  v4 := Tryz.zeroValue4
  t5 := Tryz.underlying5
  a5 := Tryz.isAgg5
  z5 := Tryz.sizeOf5
  v5 := Tryz.zeroValue5
  t9 := Tryz.underlying9
  a9 := Tryz.isAgg9
  z9 := Tryz.sizeOf9
  v9 := Tryz.zeroValue9
  t20 := Tryz.underlying20
  a20 := Tryz.isAgg20
  z20 := Tryz.sizeOf20
  v20 := Tryz.zeroValue20
  t37 := Tryz.underlying23
  a37 := Tryz.isAgg23
  z37 := Tryz.sizeOf23
  v37 := Tryz.zeroValue23
  t46 := Tryz.underlying82
  a46 := Tryz.isAgg82
  z46 := Tryz.sizeOf82
  v46 := Tryz.zeroValue82
  t51 := Tryz.underlying79
  a51 := Tryz.isAgg79
  z51 := Tryz.sizeOf79
  v51 := Tryz.zeroValue79
  t53 := Tryz.underlying56
  a53 := Tryz.isAgg56
  z53 := Tryz.sizeOf56
  v53 := Tryz.zeroValue56
  t70 := Tryz.underlying156
  a70 := Tryz.isAgg156
  z70 := Tryz.sizeOf156
  v70 := Tryz.zeroValue156
  t72 := Tryz.underlying158
  a72 := Tryz.isAgg158
  z72 := Tryz.sizeOf158
  v72 := Tryz.zeroValue158
  t75 := Tryz.underlying119
  a75 := Tryz.isAgg119
  z75 := Tryz.sizeOf119
  v75 := Tryz.zeroValue119
  t76 := Tryz.underlying120
  a76 := Tryz.isAgg120
  z76 := Tryz.sizeOf120
  v76 := Tryz.zeroValue120
  t109 := Tryz.underlying154
  a109 := Tryz.isAgg154
  z109 := Tryz.sizeOf154
  v109 := Tryz.zeroValue154
  t127 := Tryz.underlying178
  a127 := Tryz.isAgg178
  z127 := Tryz.sizeOf178
  v127 := Tryz.zeroValue178
  t146 := Tryz.underlying174
  a146 := Tryz.isAgg174
  z146 := Tryz.sizeOf174
  v146 := Tryz.zeroValue174
  t148 := Tryz.underlying176
  a148 := Tryz.isAgg176
  z148 := Tryz.sizeOf176
  v148 := Tryz.zeroValue176
  t164 := Tryz.underlying187
  a164 := Tryz.isAgg187
  z164 := Tryz.sizeOf187
  v164 := Tryz.zeroValue187 }
theorem Tryz.Builder_Extra_105 : Builder.Extra Tryz.prog Tryz.lays105_ren := {
  sizeBuilder := by kernel_rfl
  liesBuilder := by kernel_rfl
  t5 := Tryz.underlying5
  a5 := Tryz.isAgg5
  z5 := Tryz.sizeOf5
  v5 := Tryz.zeroValue5
  infoByte := by kernel_rfl
  cellsByte := by kernel_rfl
  sizeByte := by kernel_rfl
  neB5 := by decide }
open Go.RowKit Go.Lib in
theorem Tryz.strings_Repeat (s : ByteArray) (c : Nat) (w : World) (hc : c ≤ 9223372036854775807) (hlen : s.size * c ≤ 140737488355328) :
    Calls Tryz.prog 106 #[.string s, .int .i64 c] w fun e w' => e = .returned (.string ⟨(Lib.repeatL s.data.toList c).toArray⟩) ∧ Below w.heap.size w w' := Any.strings_Repeat Tryz.lays105 Tryz.Builder_Extra_105 s c w hc hlen
open Go.RowKit Go.Sort in
theorem Tryz.slices_Sort_string_none (p : Option Addr) (cap : Nat) (w : World) :
    Calls Tryz.prog 50 #[.slice p 0 cap] w fun e w' => e = .returned (.tuple #[]) ∧ w' = w := Any.slices_Sort_string_none Tryz.lays190 p cap w
end Go.Proofs
end
section
namespace TwW
open Go Tw Go.Proofs.Tryz
abbrev vStr (l : List UInt8) : Value := .string ⟨l.toArray⟩
theorem vStr_of (s : ByteArray) : vStr s.data.toList = .string s := rfl
def sortedL (xs : List (List UInt8)) : List (List UInt8) := xs.mergeSort fun x y => decide (x ≤ y)
theorem sortedL_len (xs : List (List UInt8)) : (sortedL xs).length = xs.length := by simp [sortedL]
theorem putCells_get {α : Type} [Inhabited α] (enc : α → Value) (F : Array α) (arr : Array Value) (o j : Nat) : (Sort.putCells enc o F arr)[j]? = if o ≤ j ∧ j < o + F.size then (arr[j]?).map fun _ => enc F[j - o]! else arr[j]? := by
  simp only [Sort.putCells, Array.getElem?_mapIdx]
  by_cases h : o ≤ j ∧ j < o + F.size
  · rw [if_pos h]; simp [h]
  · rw [if_neg h]
    cases arr[j]? with
    | none => rfl
    | some v => simp only [Option.map_some]; rw [if_neg h]
section
variable {σ : Hp} {R : Ending → Hp → Prop}
theorem sortStr_spec {q : Option Addr} {m d : Nat} {xs : List (List UInt8)} (ho : Own 1 σ q m d (xs.map vStr)) (hm : xs.length = m) (hsz : m < 4611686018427387904)
    (h : ∀ σ', Own 1 σ' q m d ((sortedL xs).map vStr) → Ext (σ.del q) (σ'.del q) → R (.returned (.tuple #[])) σ') : Spec prog 50 #[.slice q m d] σ R := by
  intro w F hs hF
  by_cases hm0 : m = 0
  · subst hm0
    have hx : xs = [] := List.eq_nil_of_length_eq_zero hm
    subst hx
    have hcon := Go.Proofs.Tryz.slices_Sort_string_none q d w
    refine hcon.mono ?_
    rintro e w' ⟨rfl, rfl⟩
    exact ⟨σ, h σ (by simpa [sortedL] using ho) (Ext.refl _), hs, fun b hb => ⟨(hF b hb).2, rfl⟩, .same rfl rfl rfl, rfl, Nat.le_refl _⟩
  · obtain ⟨b, o, arr, T, rfl, hb, hmd, harr, hcs⟩ : ∃ b o arr T, q = some ⟨b, o, none⟩ ∧ σ b = some (.cells arr T (0, 0)) ∧ m ≤ d ∧ o + d * 1 ≤ arr.size ∧ (arr.toList.drop o).take (m * 1) = xs.map vStr := by
      rcases ho.2.2 with ⟨_, h2, _⟩ | h
      · exact absurd h2 hm0
      · exact h
    have hw := hs _ _ hb
    have hget : ∀ (j : Nat) (hj : j < xs.length), arr[o + j]? = some (vStr xs[j]) := fun j hj => by
      have h1 : (xs.map vStr)[j]? = some (vStr xs[j]) := by simp [hj]
      rw [← hcs, List.getElem?_take, if_pos (by omega), List.getElem?_drop, Array.getElem?_toList] at h1
      exact h1
    have hH : Sort.Holds Go.Proofs.encStr w b o xs.toArray := fun j hj => by
      have hj' : j < xs.length := by simpa using hj
      refine ⟨?_, by simp [World.frozen?, hw]⟩
      have e1 : xs.toArray[j]! = xs[j] := by simp [hj']
      simp only [World.cell?, hw, e1]
      simpa using hget j hj'
    have hblk : b < w.heap.size := (Array.getElem?_eq_some_iff.1 hw).1
    have hcon := Go.Proofs.Tryz.slices_Sort_string b o d xs w hH hblk (by omega)
    rw [hm] at hcon
    refine hcon.mono ?_
    rintro e w' ⟨rfl, n, os, rfl⟩
    let F2 : Array (List UInt8) := (sortedL xs).toArray
    have hF2 : F2.size = m := by simp [F2, sortedL_len, hm]
    have hheap : ∀ k, (Sort.grow (Sort.putRow Go.Proofs.encStr (Sort.ahead w n) b o F2) os).heap[k]? = if k < w.heap.size then (if b = k then (w.heap[k]?).map (Sort.onCells (Sort.putCells Go.Proofs.encStr o F2)) else w.heap[k]?) else os[k - w.heap.size]? := fun k => by
      simp only [Sort.grow, Sort.putRow, Sort.mapBlock, Sort.ahead, Array.getElem?_append, Array.size_modify, Array.getElem?_modify]
    refine ⟨σ.set b (.cells (Sort.putCells Go.Proofs.encStr o F2 arr) T (0, 0)), h _ ⟨by simp [sortedL_len, hm], by omega, .inr ⟨b, o, _, T, rfl, Hp.set_same _ _ _, hmd, by simpa [Sort.putCells] using harr, ?_⟩⟩ (by rw [Hp.del_set_same]; exact Ext.refl _), ?_⟩
    · refine List.ext_getElem? fun j => ?_
      rw [List.getElem?_take]
      by_cases hj : j < m * 1
      · have hj1 : j < (sortedL xs).length := by rw [sortedL_len]; omega
        rw [if_pos hj, List.getElem?_drop, Array.getElem?_toList, putCells_get, if_pos (by omega), hget j (by omega)]
        simp [F2, hj1]
      · rw [if_neg hj, List.getElem?_eq_none (by simp [sortedL_len]; omega)]
    · refine ⟨fun k u hk => ?_, fun k hk => ?_, ⟨rfl, rfl, n, rfl⟩, rfl, by simp [Sort.grow, Sort.putRow, Sort.mapBlock, Sort.ahead]⟩
      · rw [show (Sort.grow (Sort.putRow Go.Proofs.encStr (Sort.ahead w n) b o (xs.mergeSort fun x y => decide (x ≤ y)).toArray) os).heap[k]? = _ from hheap k]
        by_cases hkb : k = b
        · subst hkb
          rw [Hp.set_same] at hk; cases hk
          rw [if_pos hblk, if_pos rfl, hw]; rfl
        · rw [Hp.set_ne hkb] at hk
          have := hs k u hk
          rw [if_pos (Array.getElem?_eq_some_iff.1 this).1, if_neg (Ne.symm hkb)]; exact this
      · have hkb : k ≠ b := fun e => by have := (hF k hk).2; rw [e, hb] at this; cases this
        refine ⟨by rw [Hp.set_ne hkb]; exact (hF k hk).2, ?_⟩
        rw [show (Sort.grow (Sort.putRow Go.Proofs.encStr (Sort.ahead w n) b o (xs.mergeSort fun x y => decide (x ≤ y)).toArray) os).heap[k]? = _ from hheap k, if_pos (hF k hk).1, if_neg (Ne.symm hkb)]
theorem IterAt.sub {i b clock : Nat} {l L : List MapEntry} (h : IterAt σ i b l L clock) : L.Sublist l := by
  obtain ⟨seen, c0, _, _, rfl⟩ := h
  simp only [leftOf, List.filter_toArray]
  exact List.filter_sublist
theorem pick_perm {e : MapEntry} : ∀ {L : List MapEntry}, (L.map (·.born)).Nodup → e ∈ L → L.Perm (e :: L.filter fun x => x.born != e.born)
  | a :: L, hn, he => by
    simp only [List.map_cons, List.nodup_cons] at hn
    rcases List.mem_cons.1 he with rfl | he
    · have : (e :: L).filter (fun x => x.born != e.born) = L := by
        rw [List.filter_cons_of_neg (by simp)]
        refine List.filter_eq_self.2 fun x hx => ?_
        simp only [bne_iff_ne]
        exact fun h => hn.1 (h ▸ List.mem_map.2 ⟨x, hx, rfl⟩)
      rw [this]
    · have hne : a.born ≠ e.born := fun h => hn.1 (h ▸ List.mem_map.2 ⟨e, he, rfl⟩)
      rw [List.filter_cons_of_pos (by simpa using hne)]
      exact ((pick_perm hn.2 he).cons a).trans (List.Perm.swap ..)
def nm (e : MapEntry) : ByteArray := match e.key with
  | .string s => s
  | _ => ⟨#[]⟩
def hit (pre : ByteArray) (L : List MapEntry) : List ByteArray := (L.map nm).filter (begins · pre)
structure Names (fs : ByteArray → Option Fl) (pre : ByteArray) (L : List ByteArray) : Prop where
  sorted : L.Pairwise fun a b => a.data.toList ≤ b.data.toList
  nodup : L.Nodup
  mem : ∀ s, s ∈ L ↔ (fs s).isSome = true ∧ begins s pre = true
theorem le_total' (a b : List UInt8) : (decide (a ≤ b) || decide (b ≤ a)) = true := by
  rcases Std.le_total (a := a) (b := b) with h | h <;> simp [h]
theorem names_of {rows : List Row} {pre : ByteArray} {xs : List ByteArray} (hn : (rows.map (·.name)).Nodup) (hp : xs.Perm ((rows.map (·.name)).filter (begins · pre))) :
    Names (Row.look rows) pre ((sortedL (xs.map (·.data.toList))).map fun l => ⟨l.toArray⟩) := by
  have hperm : ((sortedL (xs.map (·.data.toList))).map fun l => (⟨l.toArray⟩ : ByteArray)).Perm xs := by
    have h1 := (List.mergeSort_perm (xs.map (·.data.toList)) fun x y => decide (x ≤ y)).map fun l => (⟨l.toArray⟩ : ByteArray)
    rw [List.map_map] at h1
    have h2 : xs.map ((fun l => (⟨l.toArray⟩ : ByteArray)) ∘ fun s : ByteArray => s.data.toList) = xs := by
      conv => rhs; rw [← List.map_id xs]
      exact List.map_congr_left fun a _ => rfl
    rw [h2] at h1
    exact h1
  refine ⟨?_, ?_, fun s => ?_⟩
  · rw [List.pairwise_map]
    have := List.pairwise_mergeSort (le := fun x y : List UInt8 => decide (x ≤ y)) (fun a b c h1 h2 => by simp only [decide_eq_true_eq] at h1 h2 ⊢; exact Std.le_trans h1 h2) (fun a b => le_total' a b) (xs.map (·.data.toList))
    exact this.imp fun h => by simpa using h
  · exact (hperm.nodup_iff).2 (hp.nodup_iff.2 (hn.filter _))
  · rw [hperm.mem_iff, hp.mem_iff, List.mem_filter, and_congr_left_iff]
    intro _
    unfold Row.look
    cases hf : rows.find? (fun r => decide (r.name = s)) with
    | none =>
      simp only [Option.map_none, Option.isSome_none, Bool.false_eq_true, iff_false]
      intro hm
      obtain ⟨r, hr, rfl⟩ := List.mem_map.1 hm
      have := List.find?_eq_none.1 hf r hr
      simp at this
    | some r =>
      simp only [Option.map_some, Option.isSome_some, iff_true]
      exact List.mem_map.2 ⟨r, List.mem_of_find?_eq_some hf, by simpa using List.find?_some hf⟩
abbrev OwnT (σ : Hp) (p : Option Addr) (n c : Nat) (L : List ByteArray) : Prop := Own 1 σ p n c (L.map .string)
theorem list_pt {σ0 : Hp} {pre : ByteArray} {i m clock : Nat} {rows : List Row} (hm0 : MapAt σ0 m (rows.map Row.ent) clock) (hrl : rows.length ≤ 67108864)
    (hR : ∀ p n c L σ', OwnT (σ0.new σ') p n c L → Names (Row.look rows) pre L → Ext σ0 σ' → n ≤ rows.length → R (.returned (.slice p n c)) σ') :
    ∀ (k : Nat) (σ : Hp) (L : List MapEntry) (xs : List ByteArray) (p : Option Addr) (c : Nat), L.length = k → Ext σ0 σ → IterAt (σ0.new σ) i m (rows.map Row.ent) L clock → OwnT (σ0.new σ) p xs.length c xs → (xs ++ hit pre L).Perm (hit pre (rows.map Row.ent)) →
      disk_Disk_List.pt18 R pre p xs.length c (.pointer (some ⟨i, 0, none⟩)) σ := by
  intro k
  induction k using Nat.strongRecOn with
  | _ k ih =>
  intro σ L xs p c hL hx hi ho hp
  have hhit : hit pre (rows.map Row.ent) = (rows.map (·.name)).filter (begins · pre) := by simp only [hit, List.map_map]; rfl
  have hlen : xs.length ≤ rows.length := by
    have := hp.length_eq
    rw [hhit] at this
    have h2 := List.length_filter_le (begins · pre) (rows.map (·.name))
    simp at this h2; omega
  have hm := hm0.mono hx
  have hnm : (rows.map (·.name)).Nodup := by
    have := hm0.nodup
    rw [List.map_map] at this
    have e : (rows.map ((fun e : MapEntry => e.key) ∘ Row.ent)) = (rows.map (·.name)).map Value.string := by rw [List.map_map]; rfl
    rw [e, List.Nodup, List.pairwise_map] at this
    exact this.imp fun hne e => hne (by rw [e])
  refine disk_Disk_List.pt18_of (next_eff hm (hi.mono (Ext.of_new _ _)) (fun h0 => .inl ⟨rfl, ?_⟩) fun e hen henl o hit' hent => .inr ?_)
  · subst h0
    simp only [hit, List.map_nil, List.filter_nil, List.append_nil] at hp
    rw [← hit, hhit] at hp
    have ho2 : Own 1 σ p xs.length c ((xs.map (·.data.toList)).map vStr) := by
      rw [List.map_map]; exact ho.mono (Ext.of_new _ _)
    refine sortStr_spec ho2 (by simp) (by omega) fun σ' hs hsx => ⟨rfl, ?_⟩
    refine hR p _ c _ σ' ?_ (names_of hnm hp) (ext_new ho.new_none hsx hx) hlen
    have := Own.to_new hs (σ := σ0) ho.new_none
    unfold OwnT
    rw [List.map_map]
    exact this
  · obtain ⟨seen, c0, hio, _⟩ := hi
    obtain ⟨hi0, _⟩ := new_some.1 hio
    have hpi : ∀ a, p = some a → a.block ≠ i := fun a ha e => by
      rcases ho.2.2 with ⟨h1, _⟩ | ⟨b, o', arr, T, h1, h2, _⟩
      · rw [h1] at ha; cases ha
      · rw [h1] at ha; cases ha
        simp only at e; subst e
        rw [hio] at h2; cases h2
    have hmi : m ≠ i := fun e => by rw [← e, hm0.1] at hi0; cases hi0
    obtain ⟨l1, l2, hl⟩ := List.append_of_mem henl
    obtain ⟨r1, r, r2, hrows, _, rfl, _⟩ := ents_split hl
    have hx2 : Ext σ0 (σ.set i o) := fun b u hb => by rw [Hp.set_ne fun e => by rw [e, hi0] at hb; cases hb]; exact hx b u hb
    have hi2 : (σ0.new (σ.set i o)) i = some o := new_some.2 ⟨hi0, Hp.set_same _ _ _⟩
    have ho2 : OwnT (σ0.new (σ.set i o)) p xs.length c xs := TwW.Own.loc ho fun b hb => by
      cases p with
      | none => cases hb
      | some a =>
        simp only [blk, List.mem_singleton] at hb
        subst hb
        simp only [Hp.new, Hp.set_ne (hpi a rfl)]
    have hborn : (L.map (·.born)).Nodup := hm0.borns.sublist ((IterAt.sub ⟨seen, c0, hio, by assumption⟩).map _)
    have hpk := pick_perm hborn hen
    have hpk2 : (hit pre L).Perm (hit pre (r.ent :: L.filter fun x => x.born != r.ent.born)) := (hpk.map nm).filter _
    have hcons : ∀ M, hit pre (r.ent :: M) = if begins r.name pre = true then r.name :: hit pre M else hit pre M := fun M => by
      have : nm r.ent = r.name := rfl
      simp only [hit, List.map_cons, List.filter_cons, this]
    rw [hcons] at hpk2
    refine ⟨_, _, rfl, hent _ (Hp.set_same _ _ _) (Hp.set_ne hmi) ⟨_, _, rfl, pref_spec ⟨_, rfl, fun ht b26 hb26 => ?_, fun hf => ?_⟩⟩⟩
    · rw [if_pos ht] at hpk2
      refine app_lit (T := 36) (ys := [.string r.name]) hx2 ho2 rfl (fun u hu => by simp at hu; subst hu; rfl) (by omega) (fun p' c' σ' ho3 hx3 hd3 => ⟨p', _, c', rfl, ?_⟩) hb26
      have hi3 : (σ0.new σ') i = some o := by
        have := hd3 i o (del_some.2 ⟨fun a ha => Ne.symm (hpi a ha), hi2⟩)
        exact (del_some.1 this).2
      have := ih _ (hL ▸ left_lt hen) σ' _ (xs ++ [r.name]) p' c' rfl hx3 (hit' _ hi3) (by simpa [OwnT] using ho3) (by
        rw [List.append_assoc]
        exact (hpk2.append_left xs).symm.trans hp)
      simpa using this
    · rw [if_neg (by rw [hf]; simp)] at hpk2
      exact ih _ (hL ▸ left_lt hen) _ _ xs p c rfl hx2 (hit' _ hi2) ho2 ((hpk2.append_left xs).symm.trans hp)
theorem list_spec {d : Nat} {D : Dk} {S : List Nat} {pre : ByteArray} (hd : DiskAt σ d D S) (hup : D.up = true) (hc : D.cnt ≤ 67108864)
    (h : ∀ p n c L σ', OwnT (σ.new σ') p n c L → Names D.files pre L → Ext σ σ' → n ≤ D.cnt → R (.returned (.slice p n c)) σ') : Spec prog disk_Disk_List.fid #[.pointer (some ⟨d, 0, none⟩), .string pre] σ R := by
  obtain ⟨m, cl, rows, T, a, b, e, hd⟩ := hd
  refine disk_Disk_List.start ⟨d, 0, rfl, _, ld_of hd.obj rfl, fun hh => (by rw [hup] at hh; cases hh), fun _ => ⟨some m, ld_of hd.obj rfl, range_eff hd.map fun i o hi hit => ⟨_, rfl, ?_⟩⟩⟩
  have hfs := hd.files
  exact list_pt hd.map (Nat.le_trans hd.cnt hc) (fun p n c L σ' ho hN hx hn => h p n c L σ' ho (hfs ▸ hN) hx (Nat.le_trans hn hd.cnt)) _ _ _ [] none 0 rfl (.set hi) (hit.loc (by simp [Hp.new, hi])) Own.nil (by simp)
end
end TwW
end
section
/- written by gen.py: program points and what leads to them -/
set_option linter.unusedVariables false
set_option maxRecDepth 100000
namespace TwW
open Go Tw Go.Proofs.Tryz
noncomputable section
namespace law0_CopyBytes
abbrev fid : Nat := 14
noncomputable def K0 := f14.body.getD .skip
def K1 := cl K0
def K2 := cr K0
def K3 := cl K2
def K4 := cr K2
abbrev gl (R : Ending → Hp → Prop) : Gl := Gl.fn prog 14 6 R
theorem start {R : Ending → Hp → Prop} {p0 : Option Addr} {n0 c0 : Nat} {σ : Hp} (h : ∀ b3 : Nat, σ b3 = none → Eff prog (Builtin.append_ #[23, 23] 23 #[(.slice (some ⟨b3, 0, none⟩) 0 0), (.slice p0 n0 c0)]) (Hp.set σ b3 (.cells #[] 5 (0, 0))) (fun v σ1 => ∃ p5 : Option Addr, ∃ n5 : Nat, ∃ c5 : Nat, v = (.slice p5 n5 c5) ∧ R (.returned (.slice p5 n5 c5)) σ1)) : Spec prog 14 #[(.slice p0 n0 c0)] σ R := by
 refine Spec.of_at (fn := f14) (c := K0) func14 (by kernel_rfl) (Nat.le_of_ble_eq_true (by kernel_rfl)) (fun e he => ?_)
 refine At.ofL (l := [(0, (.slice p0 n0 c0))]) ⟨he 0, trivial⟩ (fun J => ?_)
 show At (gl R) _ _ _ _
 refine At.s K1 K2 ?_
 refine At.rg 0 [0] ?_
 refine Seq.u 2 (.slice none 0 0) ?_
 refine Seq.done ?_
 refine At.s K3 K4 ?_
 refine At.rg 1 [0, 1, 2, 3] ?_
 refine Seq.o ?_
 refine OpTo.bslice (T := 23) (E := 5) (m := 0) (ps := #[]) (d := (some 3)) (ty := 23) (gd := none) (vs := []) (cs := #[]) underlying23 (by kernel_rfl) rfl rfl rfl (by kernel_rfl) (fun b3 hn => ?_)
 replace h := h b3 hn
 refine Seq.u 4 (.slice p0 n0 c0) ?_
 refine Seq.o ?_
 refine OpTo.eff (d := (some 5)) (op := (.call { callee := .builtin .append, args := #[(.tmp 3), (.tmp 4)], argTypes := #[23, 23] })) (ty := 23) (gd := none) (by kernel_rfl) rfl rfl (Builtin.append_ #[23, 23] 23 #[(.slice (some ⟨b3, 0, none⟩) 0 0), (.slice p0 n0 c0)]) (fun o ho ht => exec_b_append rfl rfl o ho ht) (h.mono (fun v σ1 h2 => ?_)); replace h := h2; clear h2
 obtain ⟨p5, n5, c5, rfl, h⟩ := h
 refine Seq.u 2 (.slice p5 n5 c5) ?_
 refine Seq.done ?_
 exact At.rt [.tmp 2] [(.slice p5 n5 c5)] func14 ⟨_, rfl, rfl⟩ h
end law0_CopyBytes
namespace law0_Low
abbrev fid : Nat := 20
noncomputable def K0 := f20.body.getD .skip
def K1 := cl K0
def K2 := cr K0
def K3 := cl K2
def K4 := cr K2
abbrev gl (R : Ending → Hp → Prop) : Gl := Gl.fn prog 20 5 R
theorem start {R : Ending → Hp → Prop} {x0 : Int} {σ : Hp} (h : ∀ x4 : Int, x4 = Go.bits .and .i64 x0 9223372036854775807 → R (.returned (.int .i64 x4)) σ) : Spec prog 20 #[(.int .i64 x0)] σ R := by
 refine Spec.of_at (fn := f20) (c := K0) func20 (by kernel_rfl) (Nat.le_of_ble_eq_true (by kernel_rfl)) (fun e he => ?_)
 refine At.ofL (l := [(0, (.int .i64 x0))]) ⟨he 0, trivial⟩ (fun J => ?_)
 show At (gl R) _ _ _ _
 refine At.s K1 K2 ?_
 refine At.rg 0 [0] ?_
 refine Seq.u 2 (.int .i64 0) ?_
 refine Seq.done ?_
 refine At.s K3 K4 ?_
 refine At.rg 1 [0, 1, 2] ?_
 refine Seq.u 3 (.int .i64 x0) ?_
 obtain ⟨x4, hwx4⟩ : ∃ y, y = Go.bits .and .i64 x0 9223372036854775807 := ⟨_, rfl⟩
 replace h := h x4 hwx4
 refine Seq.y (d := (some 4)) (op := (.binOp .and 3 (.tmp 3) (.const (.int .i64 9223372036854775807)) 3)) (ty := 3) (v := (.int .i64 x4)) (by kernel_rfl) rfl (hwx4 ▸ Y.bits (by simp) rfl rfl) ?_
 refine Seq.u 2 (.int .i64 x4) ?_
 refine Seq.done ?_
 exact At.rt [.tmp 2] [(.int .i64 x4)] func20 ⟨_, rfl, rfl⟩ h
end law0_Low
namespace law0_SameLists
abbrev fid : Nat := 21
noncomputable def K0 := f21.body.getD .skip
def K1 := cl K0
def K2 := cr K0
def K3 := cl K2
def K4 := cl K3
def K5 := cr K3
def K6 := cl K5
def K7 := cl K6
def K8 := cr K6
def K9 := cr K5
def K10 := cr K2
def K11 := cl K10
def K12 := cl K11
def K13 := cr K11
def K14 := cl K13
def K15 := cl K14
def K16 := cl K15
def K17 := cl K16
def K18 := cr K16
def K19 := cl K18
def K20 := cr K18
def K21 := cr K15
def K22 := cl K21
def K23 := cl K22
def K24 := cl K23
def K25 := cr K23
def K26 := cl K25
def K27 := cl K26
def K28 := cr K26
def K29 := cr K25
def K30 := cr K21
def K31 := cr K10
def K32 := cl K31
def K33 := cr K31
abbrev gl (R : Ending → Hp → Prop) : Gl := Gl.fn prog 21 27 R
def pt17 (R : Ending → Hp → Prop) (p0 : Option Addr) (n0 c0 : Nat) (p1 : Option Addr) (n1 c1 : Nat) (x5 : Int) (σ : Hp) : Prop := ∀ (J : Env), At (gl R) [.code K17, .code K18, .code K21, .inLoop K15, .inBlock 0, .code K31] (upds J [(0, (.slice p0 n0 c0)), (1, (.slice p1 n1 c1)), (5, (.int .i64 x5))]) [] σ
theorem start {R : Ending → Hp → Prop} {p0 p1 : Option Addr} {n0 c0 n1 c1 : Nat} {σ : Hp} (h : (((n0 : Int) : Int) ≠ (n1 : Int) → R (.returned (.bool false)) σ) ∧ (¬ (((n0 : Int) : Int) ≠ (n1 : Int)) → pt17 R p0 n0 c0 p1 n1 c1 0 σ)) : Spec prog 21 #[(.slice p0 n0 c0), (.slice p1 n1 c1)] σ R := by
 refine Spec.of_at (fn := f21) (c := K0) func21 (by kernel_rfl) (Nat.le_of_ble_eq_true (by kernel_rfl)) (fun e he => ?_)
 refine At.ofL (l := [(0, (.slice p0 n0 c0)), (1, (.slice p1 n1 c1))]) ⟨he 0, he 1, trivial⟩ (fun J => ?_)
 show At (gl R) _ _ _ _
 refine At.s K1 K2 ?_
 refine At.rg 0 [0] ?_
 refine Seq.u 4 (.bool false) ?_
 refine Seq.done ?_
 refine At.s K3 K10 ?_
 refine At.s K4 K5 ?_
 refine At.rg 1 [0, 1, 2, 3, 4] ?_
 refine Seq.u 6 (.slice p0 n0 c0) ?_
 refine Seq.z 7 (.call { callee := .builtin .len, args := #[(.tmp 6)], argTypes := #[22] }) 3 (.int .i64 (n0 : Int)) (Y.lenS underlying22 rfl rfl) ?_
 refine Seq.u 8 (.slice p1 n1 c1) ?_
 refine Seq.z 9 (.call { callee := .builtin .len, args := #[(.tmp 8)], argTypes := #[22] }) 3 (.int .i64 (n1 : Int)) (Y.lenS underlying22 rfl rfl) ?_
 refine Seq.u 10 (.bool (decide (((n0 : Int) : Int) ≠ (n1 : Int)))) ?_
 refine Seq.done ?_
 cases hb : (decide (((n0 : Int) : Int) ≠ (n1 : Int))) with
 | true =>
  replace h := h.1 (of_decide_eq_true hb)
  refine At.cT 10 K6 K9 ?_
  refine At.s K7 K8 ?_
  refine At.rg 2 [0] ?_
  refine Seq.u 4 (.bool false) ?_
  refine Seq.done ?_
  exact At.rt [.tmp 4] [(.bool false)] func21 ⟨_, rfl, rfl⟩ h
 | false =>
  replace h := h.2 (of_decide_eq_false hb)
  refine At.cF 10 K6 K9 ?_
  refine At.skip ?_
  refine At.s K11 K31 ?_
  refine At.s K12 K13 ?_
  refine At.rg 3 [0] ?_
  refine Seq.u 5 (.int .i64 0) ?_
  refine Seq.done ?_
  refine At.b 0 K14 ?_
  refine At.loop (x := K15) (by kernel_rfl) ?_
  refine At.s K16 K21 ?_
  refine At.s K17 K18 ?_
  exact At.v [(0, (.slice p0 n0 c0)), (1, (.slice p1 n1 c1)), (5, (.int .i64 0))] (h _)
theorem pt17_of {R : Ending → Hp → Prop} {p0 p1 : Option Addr} {n0 c0 n1 c1 : Nat} {x5 : Int} {σ : Hp} (h : ((x5 : Int) < (n0 : Int) → ∃ (b19 o19 : Nat), p0 = some ⟨b19, o19, none⟩ ∧ ((0 : Int) ≤ x5 ∧ x5 < (n0 : Int)) ∧ ∃ p20 : Option Addr, ∃ n20 : Nat, ∃ c20 : Nat, Hp.ld σ ⟨b19, (o19 + Int.toNat x5 * 1), none⟩ = some (.slice p20 n20 c20) ∧ ∃ (b23 o23 : Nat), p1 = some ⟨b23, o23, none⟩ ∧ ((0 : Int) ≤ x5 ∧ x5 < (n1 : Int)) ∧ ∃ p24 : Option Addr, ∃ n24 : Nat, ∃ c24 : Nat, Hp.ld σ ⟨b23, (o23 + Int.toNat x5 * 1), none⟩ = some (.slice p24 n24 c24) ∧ Spec prog 35 #[(.slice p20 n20 c20), (.slice p24 n24 c24)] σ (Cont R (fun v σ1 => ∃ t25 : Bool, v = (.bool t25) ∧ (t25 = false → R (.returned (.bool false)) σ1) ∧ (t25 = true → I64 (x5 + 1) ∧ pt17 R ((some ⟨b19, o19, none⟩)) n0 c0 ((some ⟨b23, o23, none⟩)) n1 c1 ((x5 + 1)) σ1)))) ∧ (¬ ((x5 : Int) < (n0 : Int)) → R (.returned (.bool true)) σ)) : pt17 R p0 n0 c0 p1 n1 c1 x5 σ := by
 intro J
 show At (gl R) _ _ _ _
 refine At.rg 4 [0, 1, 2, 3] ?_
 refine Seq.us [(11, .int .i64 x5), (12, .slice p0 n0 c0)] ?_
 refine Seq.z 13 (.call { callee := .builtin .len, args := #[(.tmp 12)], argTypes := #[22] }) 3 (.int .i64 (n0 : Int)) (Y.lenS underlying22 rfl rfl) ?_
 refine Seq.u 14 (.bool (decide ((x5 : Int) < (n0 : Int)))) ?_
 refine Seq.done ?_
 cases hb : (decide ((x5 : Int) < (n0 : Int))) with
 | true =>
  replace h := h.1 (of_decide_eq_true hb)
  refine At.cT 14 K19 K20 ?_
  refine At.skip ?_
  refine At.s K22 K30 ?_
  refine At.b 1 K23 ?_
  refine At.s K24 K25 ?_
  refine At.draw (id := 6) (ops := cO K24) (n := 10) (q := (some [])) (plan := [(0, true), (1, true), (2, true), (3, true), (4, true), (5, true), (6, true), (7, true), (8, false), (9, true)]) (tl := []) mixed (by kernel_rfl) (by kernel_rfl) ?_
  refine Head.u 17 (.slice p0 n0 c0) ?_
  refine Head.u 18 (.int .i64 x5) ?_
  obtain ⟨b19, o19, hq, h⟩ := h
  subst hq
  obtain ⟨hi, h⟩ := h
  refine Head.z 19 (.indexAddr 22 (.tmp 17) (.tmp 18)) 0 (.pointer (some ⟨b19, (o19 + Int.toNat x5 * 1), none⟩)) (Y.idx underlying22 sizeOf23 rfl rfl hi rfl) ?_
  obtain ⟨p20, n20, c20, hl, h⟩ := h
  refine Head.yl b19 [[8]] rfl (by kernel_rfl) (d := (some 20)) (op := (.load 23 (.tmp 19))) (ty := 23) (v := (.slice p20 n20 c20)) (by kernel_rfl) rfl (Y.ld isAgg23 rfl (lim_ld hl)) ?_
  refine Head.u 21 (.slice p1 n1 c1) ?_
  refine Head.u 22 (.int .i64 x5) ?_
  obtain ⟨b23, o23, hq, h⟩ := h
  subst hq
  obtain ⟨hi, h⟩ := h
  refine Head.z 23 (.indexAddr 22 (.tmp 21) (.tmp 22)) 0 (.pointer (some ⟨b23, (o23 + Int.toNat x5 * 1), none⟩)) (Y.idx underlying22 sizeOf23 rfl rfl hi rfl) ?_
  obtain ⟨p24, n24, c24, hl, h⟩ := h
  refine Head.yl b23 [[8]] rfl (by kernel_rfl) (d := (some 24)) (op := (.load 23 (.tmp 23))) (ty := 23) (v := (.slice p24 n24 c24)) (by kernel_rfl) rfl (Y.ld isAgg23 rfl (lim_ld hl)) ?_
  refine Head.o (q' := (some [])) rfl ?_
  refine OpTo.cl (some 25) call35 (h.cont fun v σ1 h2 => ?_); replace h := h2; clear h2
  obtain ⟨t25, rfl, h⟩ := h
  refine ⟨⟨fun _ h => h, kp_q (L := []) Kp.nil⟩, ?_⟩
  refine Head.u 26 (.bool (!t25)) ?_
  refine Head.done ?_
  refine Seq.done ?_
  cases hb : (!t25) with
  | true =>
   replace h := h.1 (Tw.nt hb)
   refine At.cT 26 K26 K29 ?_
   refine At.s K27 K28 ?_
   refine At.rg 7 [0] ?_
   refine Seq.u 4 (.bool false) ?_
   refine Seq.done ?_
   exact At.rt [.tmp 4] [(.bool false)] func21 ⟨_, rfl, rfl⟩ h
  | false =>
   replace h := h.2 (Tw.nf hb)
   refine At.cF 26 K26 K29 ?_
   refine At.skip ?_
   refine At.inBlock ?_
   refine At.rg 5 [0, 1, 2] ?_
   refine Seq.u 15 (.int .i64 x5) ?_
   obtain ⟨hi, h⟩ := h
   refine Seq.z 16 (.binOp .add 3 (.tmp 15) (.const (.int .i64 1)) 3) 3 (.int .i64 (x5 + 1)) (Y.addI hi rfl rfl) ?_
   refine Seq.u 5 (.int .i64 (x5 + 1)) ?_
   refine Seq.done ?_
   refine At.inLoop ?_
   refine At.s K16 K21 ?_
   refine At.s K17 K18 ?_
   exact At.v [(0, (.slice (some ⟨b19, o19, none⟩) n0 c0)), (1, (.slice (some ⟨b23, o23, none⟩) n1 c1)), (5, (.int .i64 (x5 + 1)))] (h _)
 | false =>
  replace h := h.2 (of_decide_eq_false hb)
  refine At.cF 14 K19 K20 ?_
  refine At.x 0 [.code K31] ?_
  refine At.s K32 K33 ?_
  refine At.rg 8 [0] ?_
  refine Seq.u 4 (.bool true) ?_
  refine Seq.done ?_
  exact At.rt [.tmp 4] [(.bool true)] func21 ⟨_, rfl, rfl⟩ h
end law0_SameLists
namespace law0_CopyLists
abbrev fid : Nat := 23
noncomputable def K0 := f23.body.getD .skip
def K1 := cl K0
def K2 := cr K0
def K3 := cl K2
def K4 := cr K2
def K5 := cl K4
def K6 := cl K5
def K7 := cr K5
def K8 := cl K7
def K9 := cl K8
def K10 := cl K9
def K11 := cl K10
def K12 := cr K10
def K13 := cl K12
def K14 := cr K12
def K15 := cr K9
def K16 := cl K15
def K17 := cl K16
def K18 := cr K15
def K19 := cr K4
def K20 := cl K19
def K21 := cr K19
abbrev gl (R : Ending → Hp → Prop) : Gl := Gl.fn prog 23 20 R
def pt11 (R : Ending → Hp → Prop) (p0 : Option Addr) (n0 c0 : Nat) (p3 : Option Addr) (n3 c3 : Nat) (x4 : Int) (σ : Hp) : Prop := ∀ (J : Env), At (gl R) [.code K11, .code K12, .code K15, .inLoop K9, .inBlock 0, .code K19] (upds J [(0, (.slice p0 n0 c0)), (3, (.slice p3 n3 c3)), (4, (.int .i64 x4))]) [] σ
theorem start {R : Ending → Hp → Prop} {p0 : Option Addr} {n0 c0 : Nat} {σ : Hp} (h : pt11 R p0 n0 c0 none 0 0 0 σ) : Spec prog 23 #[(.slice p0 n0 c0)] σ R := by
 refine Spec.of_at (fn := f23) (c := K0) func23 (by kernel_rfl) (Nat.le_of_ble_eq_true (by kernel_rfl)) (fun e he => ?_)
 refine At.ofL (l := [(0, (.slice p0 n0 c0))]) ⟨he 0, trivial⟩ (fun J => ?_)
 show At (gl R) _ _ _ _
 refine At.s K1 K2 ?_
 refine At.rg 0 [0] ?_
 refine Seq.u 2 (.slice none 0 0) ?_
 refine Seq.done ?_
 refine At.s K3 K4 ?_
 refine At.rg 1 [0] ?_
 refine Seq.u 3 (.slice none 0 0) ?_
 refine Seq.done ?_
 refine At.s K5 K19 ?_
 refine At.s K6 K7 ?_
 refine At.rg 2 [0] ?_
 refine Seq.u 4 (.int .i64 0) ?_
 refine Seq.done ?_
 refine At.b 0 K8 ?_
 refine At.loop (x := K9) (by kernel_rfl) ?_
 refine At.s K10 K15 ?_
 refine At.s K11 K12 ?_
 exact At.v [(0, (.slice p0 n0 c0)), (3, (.slice none 0 0)), (4, (.int .i64 0))] (h _)
theorem pt11_of {R : Ending → Hp → Prop} {p0 p3 : Option Addr} {n0 c0 n3 c3 : Nat} {x4 : Int} {σ : Hp} (h : ((x4 : Int) < (n0 : Int) → ∃ (b14 o14 : Nat), p0 = some ⟨b14, o14, none⟩ ∧ ((0 : Int) ≤ x4 ∧ x4 < (n0 : Int)) ∧ ∃ p15 : Option Addr, ∃ n15 : Nat, ∃ c15 : Nat, Hp.ld σ ⟨b14, (o14 + Int.toNat x4 * 1), none⟩ = some (.slice p15 n15 c15) ∧ Spec prog 14 #[(.slice p15 n15 c15)] σ (Cont R (fun v σ1 => ∃ p16 : Option Addr, ∃ n16 : Nat, ∃ c16 : Nat, v = (.slice p16 n16 c16) ∧ ∀ b17 : Nat, σ1 b17 = none → Eff prog (Builtin.append_ #[22, 22] 22 #[(.slice p3 n3 c3), (.slice (some ⟨b17, 0, none⟩) 1 1)]) (Hp.set σ1 b17 (.cells #[(.slice p16 n16 c16)] 23 (0, 0))) (fun v_2 σ1_2 => ∃ p18 : Option Addr, ∃ n18 : Nat, ∃ c18 : Nat, v_2 = (.slice p18 n18 c18) ∧ I64 (x4 + 1) ∧ pt11 R ((some ⟨b14, o14, none⟩)) n0 c0 p18 n18 c18 ((x4 + 1)) σ1_2)))) ∧ (¬ ((x4 : Int) < (n0 : Int)) → R (.returned (.slice p3 n3 c3)) σ)) : pt11 R p0 n0 c0 p3 n3 c3 x4 σ := by
 intro J
 show At (gl R) _ _ _ _
 refine At.rg 3 [0, 1, 2, 3] ?_
 refine Seq.us [(5, .int .i64 x4), (6, .slice p0 n0 c0)] ?_
 refine Seq.z 7 (.call { callee := .builtin .len, args := #[(.tmp 6)], argTypes := #[22] }) 3 (.int .i64 (n0 : Int)) (Y.lenS underlying22 rfl rfl) ?_
 refine Seq.u 8 (.bool (decide ((x4 : Int) < (n0 : Int)))) ?_
 refine Seq.done ?_
 cases hb : (decide ((x4 : Int) < (n0 : Int))) with
 | true =>
  replace h := h.1 (of_decide_eq_true hb)
  refine At.cT 8 K13 K14 ?_
  refine At.skip ?_
  refine At.s K16 K18 ?_
  refine At.b 1 K17 ?_
  refine At.rg 5 [0, 1, 2, 3, 4, 5, 6, 7, 8] ?_
  refine Seq.us [(11, .slice p3 n3 c3), (12, .slice p0 n0 c0), (13, .int .i64 x4)] ?_
  obtain ⟨b14, o14, hq, h⟩ := h
  subst hq
  obtain ⟨hi, h⟩ := h
  refine Seq.z 14 (.indexAddr 22 (.tmp 12) (.tmp 13)) 0 (.pointer (some ⟨b14, (o14 + Int.toNat x4 * 1), none⟩)) (Y.idx underlying22 sizeOf23 rfl rfl hi rfl) ?_
  obtain ⟨p15, n15, c15, hl, h⟩ := h
  refine Seq.z 15 (.load 23 (.tmp 14)) 23 (.slice p15 n15 c15) (Y.ld isAgg23 rfl hl) ?_
  refine Seq.o ?_
  refine OpTo.cl (some 16) call14 (h.cont fun v σ1 h2 => ?_); replace h := h2; clear h2
  obtain ⟨p16, n16, c16, rfl, h⟩ := h
  refine Seq.o ?_
  refine OpTo.bslice (T := 22) (E := 23) (m := 1) (ps := #[(0, (.tmp 16))]) (d := (some 17)) (ty := 22) (gd := none) (vs := [(0, (.slice p16 n16 c16))]) (cs := #[(.slice p16 n16 c16)]) underlying22 (by kernel_rfl) rfl rfl rfl (by kernel_rfl) (fun b17 hn => ?_)
  replace h := h b17 hn
  refine Seq.o ?_
  refine OpTo.eff (d := (some 18)) (op := (.call { callee := .builtin .append, args := #[(.tmp 11), (.tmp 17)], argTypes := #[22, 22] })) (ty := 22) (gd := none) (by kernel_rfl) rfl rfl (Builtin.append_ #[22, 22] 22 #[(.slice p3 n3 c3), (.slice (some ⟨b17, 0, none⟩) 1 1)]) (fun o ho ht => exec_b_append rfl rfl o ho ht) (h.mono (fun v_2 σ1_2 h2 => ?_)); replace h := h2; clear h2
  obtain ⟨p18, n18, c18, rfl, h⟩ := h
  refine Seq.u 3 (.slice p18 n18 c18) ?_
  refine Seq.done ?_
  refine At.inBlock ?_
  refine At.rg 4 [0, 1, 2] ?_
  refine Seq.u 9 (.int .i64 x4) ?_
  obtain ⟨hi, h⟩ := h
  refine Seq.z 10 (.binOp .add 3 (.tmp 9) (.const (.int .i64 1)) 3) 3 (.int .i64 (x4 + 1)) (Y.addI hi rfl rfl) ?_
  refine Seq.u 4 (.int .i64 (x4 + 1)) ?_
  refine Seq.done ?_
  refine At.inLoop ?_
  refine At.s K10 K15 ?_
  refine At.s K11 K12 ?_
  exact At.v [(0, (.slice (some ⟨b14, o14, none⟩) n0 c0)), (3, (.slice p18 n18 c18)), (4, (.int .i64 (x4 + 1)))] (h _)
 | false =>
  replace h := h.2 (of_decide_eq_false hb)
  refine At.cF 8 K13 K14 ?_
  refine At.x 0 [.code K19] ?_
  refine At.s K20 K21 ?_
  refine At.rg 6 [0, 1] ?_
  refine Seq.us [(19, .slice p3 n3 c3), (2, .slice p3 n3 c3)] ?_
  refine Seq.done ?_
  exact At.rt [.tmp 2] [(.slice p3 n3 c3)] func23 ⟨_, rfl, rfl⟩ h
end law0_CopyLists
namespace law0_SameBytes
abbrev fid : Nat := 35
noncomputable def K0 := f35.body.getD .skip
def K1 := cl K0
def K2 := cr K0
def K3 := cl K2
def K4 := cl K3
def K5 := cr K3
def K6 := cl K5
def K7 := cl K6
def K8 := cr K6
def K9 := cr K5
def K10 := cr K2
def K11 := cl K10
def K12 := cl K11
def K13 := cr K11
def K14 := cl K13
def K15 := cl K14
def K16 := cl K15
def K17 := cl K16
def K18 := cr K16
def K19 := cl K18
def K20 := cr K18
def K21 := cr K15
def K22 := cl K21
def K23 := cl K22
def K24 := cl K23
def K25 := cr K23
def K26 := cl K25
def K27 := cl K26
def K28 := cr K26
def K29 := cr K25
def K30 := cr K21
def K31 := cr K10
def K32 := cl K31
def K33 := cr K31
abbrev gl (R : Ending → Hp → Prop) : Gl := Gl.fn prog 35 26 R
def pt17 (R : Ending → Hp → Prop) (p0 : Option Addr) (n0 c0 : Nat) (p1 : Option Addr) (n1 c1 : Nat) (x5 : Int) (σ : Hp) : Prop := ∀ (J : Env), At (gl R) [.code K17, .code K18, .code K21, .inLoop K15, .inBlock 0, .code K31] (upds J [(0, (.slice p0 n0 c0)), (1, (.slice p1 n1 c1)), (5, (.int .i64 x5))]) [] σ
theorem start {R : Ending → Hp → Prop} {p0 p1 : Option Addr} {n0 c0 n1 c1 : Nat} {σ : Hp} (h : (((n0 : Int) : Int) ≠ (n1 : Int) → R (.returned (.bool false)) σ) ∧ (¬ (((n0 : Int) : Int) ≠ (n1 : Int)) → pt17 R p0 n0 c0 p1 n1 c1 0 σ)) : Spec prog 35 #[(.slice p0 n0 c0), (.slice p1 n1 c1)] σ R := by
 refine Spec.of_at (fn := f35) (c := K0) func35 (by kernel_rfl) (Nat.le_of_ble_eq_true (by kernel_rfl)) (fun e he => ?_)
 refine At.ofL (l := [(0, (.slice p0 n0 c0)), (1, (.slice p1 n1 c1))]) ⟨he 0, he 1, trivial⟩ (fun J => ?_)
 show At (gl R) _ _ _ _
 refine At.s K1 K2 ?_
 refine At.rg 0 [0] ?_
 refine Seq.u 4 (.bool false) ?_
 refine Seq.done ?_
 refine At.s K3 K10 ?_
 refine At.s K4 K5 ?_
 refine At.rg 1 [0, 1, 2, 3, 4] ?_
 refine Seq.u 6 (.slice p0 n0 c0) ?_
 refine Seq.z 7 (.call { callee := .builtin .len, args := #[(.tmp 6)], argTypes := #[23] }) 3 (.int .i64 (n0 : Int)) (Y.lenS underlying23 rfl rfl) ?_
 refine Seq.u 8 (.slice p1 n1 c1) ?_
 refine Seq.z 9 (.call { callee := .builtin .len, args := #[(.tmp 8)], argTypes := #[23] }) 3 (.int .i64 (n1 : Int)) (Y.lenS underlying23 rfl rfl) ?_
 refine Seq.u 10 (.bool (decide (((n0 : Int) : Int) ≠ (n1 : Int)))) ?_
 refine Seq.done ?_
 cases hb : (decide (((n0 : Int) : Int) ≠ (n1 : Int))) with
 | true =>
  replace h := h.1 (of_decide_eq_true hb)
  refine At.cT 10 K6 K9 ?_
  refine At.s K7 K8 ?_
  refine At.rg 2 [0] ?_
  refine Seq.u 4 (.bool false) ?_
  refine Seq.done ?_
  exact At.rt [.tmp 4] [(.bool false)] func35 ⟨_, rfl, rfl⟩ h
 | false =>
  replace h := h.2 (of_decide_eq_false hb)
  refine At.cF 10 K6 K9 ?_
  refine At.skip ?_
  refine At.s K11 K31 ?_
  refine At.s K12 K13 ?_
  refine At.rg 3 [0] ?_
  refine Seq.u 5 (.int .i64 0) ?_
  refine Seq.done ?_
  refine At.b 0 K14 ?_
  refine At.loop (x := K15) (by kernel_rfl) ?_
  refine At.s K16 K21 ?_
  refine At.s K17 K18 ?_
  exact At.v [(0, (.slice p0 n0 c0)), (1, (.slice p1 n1 c1)), (5, (.int .i64 0))] (h _)
theorem pt17_of {R : Ending → Hp → Prop} {p0 p1 : Option Addr} {n0 c0 n1 c1 : Nat} {x5 : Int} {σ : Hp} (h : ((x5 : Int) < (n0 : Int) → ∃ (b19 o19 : Nat), p0 = some ⟨b19, o19, none⟩ ∧ ((0 : Int) ≤ x5 ∧ x5 < (n0 : Int)) ∧ ∃ x20 : Int, Hp.ld σ ⟨b19, (o19 + Int.toNat x5 * 1), none⟩ = some (.int .u8 x20) ∧ ∃ (b23 o23 : Nat), p1 = some ⟨b23, o23, none⟩ ∧ ((0 : Int) ≤ x5 ∧ x5 < (n1 : Int)) ∧ ∃ x24 : Int, Hp.ld σ ⟨b23, (o23 + Int.toNat x5 * 1), none⟩ = some (.int .u8 x24) ∧ ((x20 : Int) ≠ x24 → R (.returned (.bool false)) σ) ∧ (¬ ((x20 : Int) ≠ x24) → I64 (x5 + 1) ∧ pt17 R ((some ⟨b19, o19, none⟩)) n0 c0 ((some ⟨b23, o23, none⟩)) n1 c1 ((x5 + 1)) σ)) ∧ (¬ ((x5 : Int) < (n0 : Int)) → R (.returned (.bool true)) σ)) : pt17 R p0 n0 c0 p1 n1 c1 x5 σ := by
 intro J
 show At (gl R) _ _ _ _
 refine At.rg 4 [0, 1, 2, 3] ?_
 refine Seq.us [(11, .int .i64 x5), (12, .slice p0 n0 c0)] ?_
 refine Seq.z 13 (.call { callee := .builtin .len, args := #[(.tmp 12)], argTypes := #[23] }) 3 (.int .i64 (n0 : Int)) (Y.lenS underlying23 rfl rfl) ?_
 refine Seq.u 14 (.bool (decide ((x5 : Int) < (n0 : Int)))) ?_
 refine Seq.done ?_
 cases hb : (decide ((x5 : Int) < (n0 : Int))) with
 | true =>
  replace h := h.1 (of_decide_eq_true hb)
  refine At.cT 14 K19 K20 ?_
  refine At.skip ?_
  refine At.s K22 K30 ?_
  refine At.b 1 K23 ?_
  refine At.s K24 K25 ?_
  refine At.draw (id := 6) (ops := cO K24) (n := 9) (q := none) (plan := [(0, true), (1, true), (2, true), (3, true), (4, true), (5, true), (6, true), (7, true), (8, true)]) (tl := []) mixed (by kernel_rfl) (by kernel_rfl) ?_
  refine Head.u 17 (.slice p0 n0 c0) ?_
  refine Head.u 18 (.int .i64 x5) ?_
  obtain ⟨b19, o19, hq, h⟩ := h
  subst hq
  obtain ⟨hi, h⟩ := h
  refine Head.z 19 (.indexAddr 23 (.tmp 17) (.tmp 18)) 0 (.pointer (some ⟨b19, (o19 + Int.toNat x5 * 1), none⟩)) (Y.idx underlying23 sizeOf5 rfl rfl hi rfl) ?_
  obtain ⟨x20, hl, h⟩ := h
  refine Head.z 20 (.load 5 (.tmp 19)) 5 (.int .u8 x20) (Y.ld isAgg5 rfl hl) ?_
  refine Head.u 21 (.slice p1 n1 c1) ?_
  refine Head.u 22 (.int .i64 x5) ?_
  obtain ⟨b23, o23, hq, h⟩ := h
  subst hq
  obtain ⟨hi, h⟩ := h
  refine Head.z 23 (.indexAddr 23 (.tmp 21) (.tmp 22)) 0 (.pointer (some ⟨b23, (o23 + Int.toNat x5 * 1), none⟩)) (Y.idx underlying23 sizeOf5 rfl rfl hi rfl) ?_
  obtain ⟨x24, hl, h⟩ := h
  refine Head.z 24 (.load 5 (.tmp 23)) 5 (.int .u8 x24) (Y.ld isAgg5 rfl hl) ?_
  refine Head.u 25 (.bool (decide ((x20 : Int) ≠ x24))) ?_
  refine Head.done ?_
  refine Seq.done ?_
  cases hb : (decide ((x20 : Int) ≠ x24)) with
  | true =>
   replace h := h.1 (of_decide_eq_true hb)
   refine At.cT 25 K26 K29 ?_
   refine At.s K27 K28 ?_
   refine At.rg 7 [0] ?_
   refine Seq.u 4 (.bool false) ?_
   refine Seq.done ?_
   exact At.rt [.tmp 4] [(.bool false)] func35 ⟨_, rfl, rfl⟩ h
  | false =>
   replace h := h.2 (of_decide_eq_false hb)
   refine At.cF 25 K26 K29 ?_
   refine At.skip ?_
   refine At.inBlock ?_
   refine At.rg 5 [0, 1, 2] ?_
   refine Seq.u 15 (.int .i64 x5) ?_
   obtain ⟨hi, h⟩ := h
   refine Seq.z 16 (.binOp .add 3 (.tmp 15) (.const (.int .i64 1)) 3) 3 (.int .i64 (x5 + 1)) (Y.addI hi rfl rfl) ?_
   refine Seq.u 5 (.int .i64 (x5 + 1)) ?_
   refine Seq.done ?_
   refine At.inLoop ?_
   refine At.s K16 K21 ?_
   refine At.s K17 K18 ?_
   exact At.v [(0, (.slice (some ⟨b19, o19, none⟩) n0 c0)), (1, (.slice (some ⟨b23, o23, none⟩) n1 c1)), (5, (.int .i64 (x5 + 1)))] (h _)
 | false =>
  replace h := h.2 (of_decide_eq_false hb)
  refine At.cF 14 K19 K20 ?_
  refine At.x 0 [.code K31] ?_
  refine At.s K32 K33 ?_
  refine At.rg 8 [0] ?_
  refine Seq.u 4 (.bool true) ?_
  refine Seq.done ?_
  exact At.rt [.tmp 4] [(.bool true)] func35 ⟨_, rfl, rfl⟩ h
end law0_SameBytes
namespace law0_SameTexts
abbrev fid : Nat := 62
noncomputable def K0 := f62.body.getD .skip
def K1 := cl K0
def K2 := cr K0
def K3 := cl K2
def K4 := cl K3
def K5 := cr K3
def K6 := cl K5
def K7 := cl K6
def K8 := cr K6
def K9 := cr K5
def K10 := cr K2
def K11 := cl K10
def K12 := cl K11
def K13 := cr K11
def K14 := cl K13
def K15 := cl K14
def K16 := cl K15
def K17 := cl K16
def K18 := cr K16
def K19 := cl K18
def K20 := cr K18
def K21 := cr K15
def K22 := cl K21
def K23 := cl K22
def K24 := cl K23
def K25 := cr K23
def K26 := cl K25
def K27 := cl K26
def K28 := cr K26
def K29 := cr K25
def K30 := cr K21
def K31 := cr K10
def K32 := cl K31
def K33 := cr K31
abbrev gl (R : Ending → Hp → Prop) : Gl := Gl.fn prog 62 26 R
def pt17 (R : Ending → Hp → Prop) (p0 : Option Addr) (n0 c0 : Nat) (p1 : Option Addr) (n1 c1 : Nat) (x5 : Int) (σ : Hp) : Prop := ∀ (J : Env), At (gl R) [.code K17, .code K18, .code K21, .inLoop K15, .inBlock 0, .code K31] (upds J [(0, (.slice p0 n0 c0)), (1, (.slice p1 n1 c1)), (5, (.int .i64 x5))]) [] σ
theorem start {R : Ending → Hp → Prop} {p0 p1 : Option Addr} {n0 c0 n1 c1 : Nat} {σ : Hp} (h : (((n0 : Int) : Int) ≠ (n1 : Int) → R (.returned (.bool false)) σ) ∧ (¬ (((n0 : Int) : Int) ≠ (n1 : Int)) → pt17 R p0 n0 c0 p1 n1 c1 0 σ)) : Spec prog 62 #[(.slice p0 n0 c0), (.slice p1 n1 c1)] σ R := by
 refine Spec.of_at (fn := f62) (c := K0) func62 (by kernel_rfl) (Nat.le_of_ble_eq_true (by kernel_rfl)) (fun e he => ?_)
 refine At.ofL (l := [(0, (.slice p0 n0 c0)), (1, (.slice p1 n1 c1))]) ⟨he 0, he 1, trivial⟩ (fun J => ?_)
 show At (gl R) _ _ _ _
 refine At.s K1 K2 ?_
 refine At.rg 0 [0] ?_
 refine Seq.u 4 (.bool false) ?_
 refine Seq.done ?_
 refine At.s K3 K10 ?_
 refine At.s K4 K5 ?_
 refine At.rg 1 [0, 1, 2, 3, 4] ?_
 refine Seq.u 6 (.slice p0 n0 c0) ?_
 refine Seq.z 7 (.call { callee := .builtin .len, args := #[(.tmp 6)], argTypes := #[36] }) 3 (.int .i64 (n0 : Int)) (Y.lenS underlying36 rfl rfl) ?_
 refine Seq.u 8 (.slice p1 n1 c1) ?_
 refine Seq.z 9 (.call { callee := .builtin .len, args := #[(.tmp 8)], argTypes := #[36] }) 3 (.int .i64 (n1 : Int)) (Y.lenS underlying36 rfl rfl) ?_
 refine Seq.u 10 (.bool (decide (((n0 : Int) : Int) ≠ (n1 : Int)))) ?_
 refine Seq.done ?_
 cases hb : (decide (((n0 : Int) : Int) ≠ (n1 : Int))) with
 | true =>
  replace h := h.1 (of_decide_eq_true hb)
  refine At.cT 10 K6 K9 ?_
  refine At.s K7 K8 ?_
  refine At.rg 2 [0] ?_
  refine Seq.u 4 (.bool false) ?_
  refine Seq.done ?_
  exact At.rt [.tmp 4] [(.bool false)] func62 ⟨_, rfl, rfl⟩ h
 | false =>
  replace h := h.2 (of_decide_eq_false hb)
  refine At.cF 10 K6 K9 ?_
  refine At.skip ?_
  refine At.s K11 K31 ?_
  refine At.s K12 K13 ?_
  refine At.rg 3 [0] ?_
  refine Seq.u 5 (.int .i64 0) ?_
  refine Seq.done ?_
  refine At.b 0 K14 ?_
  refine At.loop (x := K15) (by kernel_rfl) ?_
  refine At.s K16 K21 ?_
  refine At.s K17 K18 ?_
  exact At.v [(0, (.slice p0 n0 c0)), (1, (.slice p1 n1 c1)), (5, (.int .i64 0))] (h _)
theorem pt17_of {R : Ending → Hp → Prop} {p0 p1 : Option Addr} {n0 c0 n1 c1 : Nat} {x5 : Int} {σ : Hp} (h : ((x5 : Int) < (n0 : Int) → ∃ (b19 o19 : Nat), p0 = some ⟨b19, o19, none⟩ ∧ ((0 : Int) ≤ x5 ∧ x5 < (n0 : Int)) ∧ ∃ s20 : ByteArray, Hp.ld σ ⟨b19, (o19 + Int.toNat x5 * 1), none⟩ = some (.string s20) ∧ ∃ (b23 o23 : Nat), p1 = some ⟨b23, o23, none⟩ ∧ ((0 : Int) ≤ x5 ∧ x5 < (n1 : Int)) ∧ ∃ s24 : ByteArray, Hp.ld σ ⟨b23, (o23 + Int.toNat x5 * 1), none⟩ = some (.string s24) ∧ ((ByteArray.toList s20 == ByteArray.toList s24) = false → R (.returned (.bool false)) σ) ∧ ((ByteArray.toList s20 == ByteArray.toList s24) = true → I64 (x5 + 1) ∧ pt17 R ((some ⟨b19, o19, none⟩)) n0 c0 ((some ⟨b23, o23, none⟩)) n1 c1 ((x5 + 1)) σ)) ∧ (¬ ((x5 : Int) < (n0 : Int)) → R (.returned (.bool true)) σ)) : pt17 R p0 n0 c0 p1 n1 c1 x5 σ := by
 intro J
 show At (gl R) _ _ _ _
 refine At.rg 4 [0, 1, 2, 3] ?_
 refine Seq.us [(11, .int .i64 x5), (12, .slice p0 n0 c0)] ?_
 refine Seq.z 13 (.call { callee := .builtin .len, args := #[(.tmp 12)], argTypes := #[36] }) 3 (.int .i64 (n0 : Int)) (Y.lenS underlying36 rfl rfl) ?_
 refine Seq.u 14 (.bool (decide ((x5 : Int) < (n0 : Int)))) ?_
 refine Seq.done ?_
 cases hb : (decide ((x5 : Int) < (n0 : Int))) with
 | true =>
  replace h := h.1 (of_decide_eq_true hb)
  refine At.cT 14 K19 K20 ?_
  refine At.skip ?_
  refine At.s K22 K30 ?_
  refine At.b 1 K23 ?_
  refine At.s K24 K25 ?_
  refine At.draw (id := 6) (ops := cO K24) (n := 9) (q := none) (plan := [(0, true), (1, true), (2, true), (3, true), (4, true), (5, true), (6, true), (7, true), (8, true)]) (tl := []) mixed (by kernel_rfl) (by kernel_rfl) ?_
  refine Head.u 17 (.slice p0 n0 c0) ?_
  refine Head.u 18 (.int .i64 x5) ?_
  obtain ⟨b19, o19, hq, h⟩ := h
  subst hq
  obtain ⟨hi, h⟩ := h
  refine Head.z 19 (.indexAddr 36 (.tmp 17) (.tmp 18)) 0 (.pointer (some ⟨b19, (o19 + Int.toNat x5 * 1), none⟩)) (Y.idx underlying36 sizeOf9 rfl rfl hi rfl) ?_
  obtain ⟨s20, hl, h⟩ := h
  refine Head.z 20 (.load 9 (.tmp 19)) 9 (.string s20) (Y.ld isAgg9 rfl hl) ?_
  refine Head.u 21 (.slice p1 n1 c1) ?_
  refine Head.u 22 (.int .i64 x5) ?_
  obtain ⟨b23, o23, hq, h⟩ := h
  subst hq
  obtain ⟨hi, h⟩ := h
  refine Head.z 23 (.indexAddr 36 (.tmp 21) (.tmp 22)) 0 (.pointer (some ⟨b23, (o23 + Int.toNat x5 * 1), none⟩)) (Y.idx underlying36 sizeOf9 rfl rfl hi rfl) ?_
  obtain ⟨s24, hl, h⟩ := h
  refine Head.z 24 (.load 9 (.tmp 23)) 9 (.string s24) (Y.ld isAgg9 rfl hl) ?_
  refine Head.z 25 (.binOp .neq 9 (.tmp 20) (.tmp 24) 9) 4 (.bool (!(ByteArray.toList s20 == ByteArray.toList s24))) (Y.neqS underlying9 rfl rfl) ?_
  refine Head.done ?_
  refine Seq.done ?_
  cases hb : (!(ByteArray.toList s20 == ByteArray.toList s24)) with
  | true =>
   replace h := h.1 (Tw.nt hb)
   refine At.cT 25 K26 K29 ?_
   refine At.s K27 K28 ?_
   refine At.rg 7 [0] ?_
   refine Seq.u 4 (.bool false) ?_
   refine Seq.done ?_
   exact At.rt [.tmp 4] [(.bool false)] func62 ⟨_, rfl, rfl⟩ h
  | false =>
   replace h := h.2 (Tw.nf hb)
   refine At.cF 25 K26 K29 ?_
   refine At.skip ?_
   refine At.inBlock ?_
   refine At.rg 5 [0, 1, 2] ?_
   refine Seq.u 15 (.int .i64 x5) ?_
   obtain ⟨hi, h⟩ := h
   refine Seq.z 16 (.binOp .add 3 (.tmp 15) (.const (.int .i64 1)) 3) 3 (.int .i64 (x5 + 1)) (Y.addI hi rfl rfl) ?_
   refine Seq.u 5 (.int .i64 (x5 + 1)) ?_
   refine Seq.done ?_
   refine At.inLoop ?_
   refine At.s K16 K21 ?_
   refine At.s K17 K18 ?_
   exact At.v [(0, (.slice (some ⟨b19, o19, none⟩) n0 c0)), (1, (.slice (some ⟨b23, o23, none⟩) n1 c1)), (5, (.int .i64 (x5 + 1)))] (h _)
 | false =>
  replace h := h.2 (of_decide_eq_false hb)
  refine At.cF 14 K19 K20 ?_
  refine At.x 0 [.code K31] ?_
  refine At.s K32 K33 ?_
  refine At.rg 8 [0] ?_
  refine Seq.u 4 (.bool true) ?_
  refine Seq.done ?_
  exact At.rt [.tmp 4] [(.bool true)] func62 ⟨_, rfl, rfl⟩ h
end law0_SameTexts
namespace codec_Frame
abbrev fid : Nat := 17
noncomputable def K0 := f17.body.getD .skip
def K1 := cl K0
def K2 := cr K0
def K3 := cl K2
def K4 := cl K3
def K5 := cr K3
def K6 := cl K5
def K7 := cl K6
def K8 := cr K6
def K9 := cr K5
def K10 := cr K2
def K11 := cl K10
def K12 := cr K10
def K13 := cl K12
def K14 := cr K12
def K15 := cl K14
def K16 := cr K14
abbrev gl (R : Ending → Hp → Prop) : Gl := Gl.fn prog 17 31 R
theorem start {R : Ending → Hp → Prop} {p0 : Option Addr} {n0 c0 : Nat} {σ : Hp} (h : ((65536 : Int) < (n0 : Int) → R (.returned (.tuple #[(.slice none 0 0), (.int .i64 23)])) σ) ∧ (¬ ((65536 : Int) < (n0 : Int)) → Spec prog 47 #[(.slice p0 n0 c0)] σ (Cont R (fun v σ1 => ∃ x10 : Int, v = (.int .u32 x10) ∧ ∀ x13 : Int, x13 = IntKind.u64.wrap (n0 : Int) → Spec prog 48 #[(.slice none 0 0), (.int .u64 x13)] σ1 (Cont R (fun v_2 σ1_2 => ∃ p14 : Option Addr, ∃ n14 : Nat, ∃ c14 : Nat, v_2 = (.slice p14 n14 c14) ∧ ((0 : Int) ≤ 24 ∧ 24 ≤ ((IntKind.bits .u32 : Nat) : Int)) ∧ ∀ x16 : Int, x16 = x10 / 2 ^ Int.toNat 24 → ∀ x17 : Int, x17 = IntKind.u8.wrap x16 → ((0 : Int) ≤ 16 ∧ 16 ≤ ((IntKind.bits .u32 : Nat) : Int)) ∧ ∀ x19 : Int, x19 = x10 / 2 ^ Int.toNat 16 → ∀ x20 : Int, x20 = IntKind.u8.wrap x19 → ((0 : Int) ≤ 8 ∧ 8 ≤ ((IntKind.bits .u32 : Nat) : Int)) ∧ ∀ x22 : Int, x22 = x10 / 2 ^ Int.toNat 8 → ∀ x23 : Int, x23 = IntKind.u8.wrap x22 → ∀ x25 : Int, x25 = IntKind.u8.wrap x10 → ∀ b26 : Nat, σ1_2 b26 = none → Eff prog (Builtin.append_ #[23, 23] 23 #[(.slice p14 n14 c14), (.slice (some ⟨b26, 0, none⟩) 4 4)]) (Hp.set σ1_2 b26 (.cells #[(.int .u8 x17), (.int .u8 x20), (.int .u8 x23), (.int .u8 x25)] 5 (0, 0))) (fun v_3 σ1_3 => ∃ p27 : Option Addr, ∃ n27 : Nat, ∃ c27 : Nat, v_3 = (.slice p27 n27 c27) ∧ Eff prog (Builtin.append_ #[23, 23] 23 #[(.slice p27 n27 c27), (.slice p0 n0 c0)]) σ1_3 (fun v_4 σ1_4 => ∃ p30 : Option Addr, ∃ n30 : Nat, ∃ c30 : Nat, v_4 = (.slice p30 n30 c30) ∧ R (.returned (.tuple #[(.slice p30 n30 c30), (.int .i64 0)])) σ1_4)))))))) : Spec prog 17 #[(.slice p0 n0 c0)] σ R := by
 refine Spec.of_at (fn := f17) (c := K0) func17 (by kernel_rfl) (Nat.le_of_ble_eq_true (by kernel_rfl)) (fun e he => ?_)
 refine At.ofL (l := [(0, (.slice p0 n0 c0))]) ⟨he 0, trivial⟩ (fun J => ?_)
 show At (gl R) _ _ _ _
 refine At.s K1 K2 ?_
 refine At.rg 0 [0, 1] ?_
 refine Seq.us [(2, .slice none 0 0), (3, .int .i64 0)] ?_
 refine Seq.done ?_
 refine At.s K3 K10 ?_
 refine At.s K4 K5 ?_
 refine At.rg 1 [0, 1, 2] ?_
 refine Seq.u 6 (.slice p0 n0 c0) ?_
 refine Seq.z 7 (.call { callee := .builtin .len, args := #[(.tmp 6)], argTypes := #[23] }) 3 (.int .i64 (n0 : Int)) (Y.lenS underlying23 rfl rfl) ?_
 refine Seq.u 8 (.bool (decide ((65536 : Int) < (n0 : Int)))) ?_
 refine Seq.done ?_
 cases hb : (decide ((65536 : Int) < (n0 : Int))) with
 | true =>
  replace h := h.1 (of_decide_eq_true hb)
  refine At.cT 8 K6 K9 ?_
  refine At.s K7 K8 ?_
  refine At.rg 2 [0, 1] ?_
  refine Seq.us [(2, .slice none 0 0), (3, .int .i64 23)] ?_
  refine Seq.done ?_
  exact At.rt [.tmp 2, .tmp 3] [(.slice none 0 0), (.int .i64 23)] func17 ⟨_, rfl, ⟨_, rfl, rfl⟩⟩ h
 | false =>
  replace h := h.2 (of_decide_eq_false hb)
  refine At.cF 8 K6 K9 ?_
  refine At.skip ?_
  refine At.s K11 K12 ?_
  refine At.rg 3 [0, 1, 2] ?_
  refine Seq.u 9 (.slice p0 n0 c0) ?_
  refine Seq.o ?_
  refine OpTo.cl (some 10) call47 (h.cont fun v σ1 h2 => ?_); replace h := h2; clear h2
  obtain ⟨x10, rfl, h⟩ := h
  refine Seq.u 4 (.int .u32 x10) ?_
  refine Seq.done ?_
  refine At.s K13 K14 ?_
  refine At.rg 4 [0, 1, 2, 3, 4, 5, 6, 7, 8, 9, 10, 11, 12, 13, 14, 15, 16, 17] ?_
  refine Seq.u 11 (.slice p0 n0 c0) ?_
  refine Seq.z 12 (.call { callee := .builtin .len, args := #[(.tmp 11)], argTypes := #[23] }) 3 (.int .i64 (n0 : Int)) (Y.lenS underlying23 rfl rfl) ?_
  obtain ⟨x13, hwx13⟩ : ∃ y, y = IntKind.u64.wrap (n0 : Int) := ⟨_, rfl⟩
  replace h := h x13 hwx13
  refine Seq.y (d := (some 13)) (op := (.convert 3 56 (.tmp 12))) (ty := 56) (v := (.int .u64 x13)) (by kernel_rfl) rfl (hwx13 ▸ Y.conv (by kernel_rfl) underlying56 rfl) ?_
  refine Seq.o ?_
  refine OpTo.cl (some 14) call48 (h.cont fun v_2 σ1_2 h2 => ?_); replace h := h2; clear h2
  obtain ⟨p14, n14, c14, rfl, h⟩ := h
  refine Seq.u 15 (.int .u32 x10) ?_
  obtain ⟨hc, h⟩ := h
  obtain ⟨x16, hwx16⟩ : ∃ y, y = x10 / 2 ^ Int.toNat 24 := ⟨_, rfl⟩
  replace h := h x16 hwx16
  refine Seq.y (d := (some 16)) (op := (.binOp .shr 79 (.tmp 15) (.const (.int .u64 24)) 82)) (ty := 79) (v := (.int .u32 x16)) (by kernel_rfl) rfl (hwx16 ▸ Y.shr hc.1 hc.2 rfl rfl) ?_
  obtain ⟨x17, hwx17⟩ : ∃ y, y = IntKind.u8.wrap x16 := ⟨_, rfl⟩
  replace h := h x17 hwx17
  refine Seq.y (d := (some 17)) (op := (.convert 79 5 (.tmp 16))) (ty := 5) (v := (.int .u8 x17)) (by kernel_rfl) rfl (hwx17 ▸ Y.conv (by kernel_rfl) underlying5 rfl) ?_
  refine Seq.u 18 (.int .u32 x10) ?_
  obtain ⟨hc, h⟩ := h
  obtain ⟨x19, hwx19⟩ : ∃ y, y = x10 / 2 ^ Int.toNat 16 := ⟨_, rfl⟩
  replace h := h x19 hwx19
  refine Seq.y (d := (some 19)) (op := (.binOp .shr 79 (.tmp 18) (.const (.int .u64 16)) 82)) (ty := 79) (v := (.int .u32 x19)) (by kernel_rfl) rfl (hwx19 ▸ Y.shr hc.1 hc.2 rfl rfl) ?_
  obtain ⟨x20, hwx20⟩ : ∃ y, y = IntKind.u8.wrap x19 := ⟨_, rfl⟩
  replace h := h x20 hwx20
  refine Seq.y (d := (some 20)) (op := (.convert 79 5 (.tmp 19))) (ty := 5) (v := (.int .u8 x20)) (by kernel_rfl) rfl (hwx20 ▸ Y.conv (by kernel_rfl) underlying5 rfl) ?_
  refine Seq.u 21 (.int .u32 x10) ?_
  obtain ⟨hc, h⟩ := h
  obtain ⟨x22, hwx22⟩ : ∃ y, y = x10 / 2 ^ Int.toNat 8 := ⟨_, rfl⟩
  replace h := h x22 hwx22
  refine Seq.y (d := (some 22)) (op := (.binOp .shr 79 (.tmp 21) (.const (.int .u64 8)) 82)) (ty := 79) (v := (.int .u32 x22)) (by kernel_rfl) rfl (hwx22 ▸ Y.shr hc.1 hc.2 rfl rfl) ?_
  obtain ⟨x23, hwx23⟩ : ∃ y, y = IntKind.u8.wrap x22 := ⟨_, rfl⟩
  replace h := h x23 hwx23
  refine Seq.y (d := (some 23)) (op := (.convert 79 5 (.tmp 22))) (ty := 5) (v := (.int .u8 x23)) (by kernel_rfl) rfl (hwx23 ▸ Y.conv (by kernel_rfl) underlying5 rfl) ?_
  refine Seq.u 24 (.int .u32 x10) ?_
  obtain ⟨x25, hwx25⟩ : ∃ y, y = IntKind.u8.wrap x10 := ⟨_, rfl⟩
  replace h := h x25 hwx25
  refine Seq.y (d := (some 25)) (op := (.convert 79 5 (.tmp 24))) (ty := 5) (v := (.int .u8 x25)) (by kernel_rfl) rfl (hwx25 ▸ Y.conv (by kernel_rfl) underlying5 rfl) ?_
  refine Seq.o ?_
  refine OpTo.bslice (T := 23) (E := 5) (m := 4) (ps := #[(0, (.tmp 17)), (1, (.tmp 20)), (2, (.tmp 23)), (3, (.tmp 25))]) (d := (some 26)) (ty := 23) (gd := none) (vs := [(0, (.int .u8 x17)), (1, (.int .u8 x20)), (2, (.int .u8 x23)), (3, (.int .u8 x25))]) (cs := #[(.int .u8 x17), (.int .u8 x20), (.int .u8 x23), (.int .u8 x25)]) underlying23 (by kernel_rfl) rfl rfl rfl (by kernel_rfl) (fun b26 hn => ?_)
  replace h := h b26 hn
  refine Seq.o ?_
  refine OpTo.eff (d := (some 27)) (op := (.call { callee := .builtin .append, args := #[(.tmp 14), (.tmp 26)], argTypes := #[23, 23] })) (ty := 23) (gd := none) (by kernel_rfl) rfl rfl (Builtin.append_ #[23, 23] 23 #[(.slice p14 n14 c14), (.slice (some ⟨b26, 0, none⟩) 4 4)]) (fun o ho ht => exec_b_append rfl rfl o ho ht) (h.mono (fun v_3 σ1_3 h2 => ?_)); replace h := h2; clear h2
  obtain ⟨p27, n27, c27, rfl, h⟩ := h
  refine Seq.u 5 (.slice p27 n27 c27) ?_
  refine Seq.done ?_
  refine At.s K15 K16 ?_
  refine At.rg 5 [0, 1, 2, 3, 4] ?_
  refine Seq.us [(28, .slice p27 n27 c27), (29, .slice p0 n0 c0)] ?_
  refine Seq.o ?_
  refine OpTo.eff (d := (some 30)) (op := (.call { callee := .builtin .append, args := #[(.tmp 28), (.tmp 29)], argTypes := #[23, 23] })) (ty := 23) (gd := none) (by kernel_rfl) rfl rfl (Builtin.append_ #[23, 23] 23 #[(.slice p27 n27 c27), (.slice p0 n0 c0)]) (fun o ho ht => exec_b_append rfl rfl o ho ht) (h.mono (fun v_4 σ1_4 h2 => ?_)); replace h := h2; clear h2
  obtain ⟨p30, n30, c30, rfl, h⟩ := h
  refine Seq.us [(2, .slice p30 n30 c30), (3, .int .i64 0)] ?_
  refine Seq.done ?_
  exact At.rt [.tmp 2, .tmp 3] [(.slice p30 n30 c30), (.int .i64 0)] func17 ⟨_, rfl, ⟨_, rfl, rfl⟩⟩ h
end codec_Frame
namespace codec_Sum
abbrev fid : Nat := 47
noncomputable def K0 := f47.body.getD .skip
def K1 := cl K0
def K2 := cr K0
def K3 := cl K2
def K4 := cr K2
def K5 := cl K4
def K6 := cr K4
def K7 := cl K6
def K8 := cl K7
def K9 := cr K7
def K10 := cl K9
def K11 := cl K10
def K12 := cl K11
def K13 := cr K11
def K14 := cl K13
def K15 := cl K14
def K16 := cr K14
def K17 := cr K13
def K18 := cl K17
def K19 := cl K18
def K20 := cl K19
def K21 := cr K19
def K22 := cl K21
def K23 := cr K21
def K24 := cl K23
def K25 := cr K23
def K26 := cr K17
def K27 := cr K6
def K28 := cl K27
def K29 := cr K27
abbrev gl (R : Ending → Hp → Prop) : Gl := Gl.fn prog 47 35 R
def pt12 (R : Ending → Hp → Prop) (b3 : Nat) (x4 : Int) (p8 : Option Addr) (n8 c8 : Nat) (x9 x10 : Int) (σ : Hp) : Prop := ∀ (J : Env), At (gl R) [.code K12, .code K13, .inLoop K11, .inBlock 0, .code K27] (upds J [(3, (.pointer (some ⟨b3, 0, none⟩))), (4, (.int .u32 x4)), (8, (.slice p8 n8 c8)), (9, (.int .i64 x9)), (10, (.int .i64 x10))]) [] σ
theorem start {R : Ending → Hp → Prop} {p0 : Option Addr} {n0 c0 : Nat} {σ : Hp} (h : Spec prog 73 #[] σ (Cont R (fun v σ1 => ∃ x7a : Int, ∃ x7b : Int, ∃ x7c : Int, ∃ x7d : Int, ∃ x7e : Int, ∃ x7f : Int, ∃ x7g : Int, ∃ x7h : Int, ∃ x7i : Int, ∃ x7j : Int, ∃ x7k : Int, ∃ x7l : Int, ∃ x7m : Int, ∃ x7n : Int, ∃ x7o : Int, ∃ x7p : Int, v = (.agg #[(.int .u32 x7a), (.int .u32 x7b), (.int .u32 x7c), (.int .u32 x7d), (.int .u32 x7e), (.int .u32 x7f), (.int .u32 x7g), (.int .u32 x7h), (.int .u32 x7i), (.int .u32 x7j), (.int .u32 x7k), (.int .u32 x7l), (.int .u32 x7m), (.int .u32 x7n), (.int .u32 x7o), (.int .u32 x7p)]) ∧ ∀ b3 : Nat, σ1 b3 = none → Eff prog (Instr.storeAt 105 (.pointer (some ⟨b3, 0, none⟩)) (.agg #[(.int .u32 x7a), (.int .u32 x7b), (.int .u32 x7c), (.int .u32 x7d), (.int .u32 x7e), (.int .u32 x7f), (.int .u32 x7g), (.int .u32 x7h), (.int .u32 x7i), (.int .u32 x7j), (.int .u32 x7k), (.int .u32 x7l), (.int .u32 x7m), (.int .u32 x7n), (.int .u32 x7o), (.int .u32 x7p)])) (Hp.set σ1 b3 (.cells #[(.int .u32 0), (.int .u32 0), (.int .u32 0), (.int .u32 0), (.int .u32 0), (.int .u32 0), (.int .u32 0), (.int .u32 0), (.int .u32 0), (.int .u32 0), (.int .u32 0), (.int .u32 0), (.int .u32 0), (.int .u32 0), (.int .u32 0), (.int .u32 0)] 105 (0, 0))) (fun _ σ1_2 => pt12 R b3 4294967295 p0 n0 c0 ((n0 : Int)) 0 σ1_2)))) : Spec prog 47 #[(.slice p0 n0 c0)] σ R := by
 refine Spec.of_at (fn := f47) (c := K0) func47 (by kernel_rfl) (Nat.le_of_ble_eq_true (by kernel_rfl)) (fun e he => ?_)
 refine At.ofL (l := [(0, (.slice p0 n0 c0))]) ⟨he 0, trivial⟩ (fun J => ?_)
 show At (gl R) _ _ _ _
 refine At.s K1 K2 ?_
 refine At.rg 0 [0] ?_
 refine Seq.u 2 (.int .u32 0) ?_
 refine Seq.done ?_
 refine At.s K3 K4 ?_
 refine At.rg 1 [0, 1, 2] ?_
 refine Seq.o ?_
 refine OpTo.cl (some 7) call73 (h.cont fun v σ1 h2 => ?_); replace h := h2; clear h2
 obtain ⟨x7a, x7b, x7c, x7d, x7e, x7f, x7g, x7h, x7i, x7j, x7k, x7l, x7m, x7n, x7o, x7p, rfl, h⟩ := h
 refine Seq.o ?_
 refine OpTo.allocO (T := 105) (d := (some 3)) (ty := 0)  (gd := none) (cs := #[(.int .u32 0), (.int .u32 0), (.int .u32 0), (.int .u32 0), (.int .u32 0), (.int .u32 0), (.int .u32 0), (.int .u32 0), (.int .u32 0), (.int .u32 0), (.int .u32 0), (.int .u32 0), (.int .u32 0), (.int .u32 0), (.int .u32 0), (.int .u32 0)]) (by kernel_rfl) rfl rfl zeroValue105 rfl (fun b3 hn => ?_)
 replace h := h b3 hn
 refine Seq.o ?_
 refine OpTo.store (T := 105) (ty := 0) (x := (.tmp 3)) (y := (.tmp 7)) (p := (.pointer (some ⟨b3, 0, none⟩))) (v := (.agg #[(.int .u32 x7a), (.int .u32 x7b), (.int .u32 x7c), (.int .u32 x7d), (.int .u32 x7e), (.int .u32 x7f), (.int .u32 x7g), (.int .u32 x7h), (.int .u32 x7i), (.int .u32 x7j), (.int .u32 x7k), (.int .u32 x7l), (.int .u32 x7m), (.int .u32 x7n), (.int .u32 x7o), (.int .u32 x7p)])) (gd := none) (by kernel_rfl) rfl rfl rfl (h.mono (fun _ σ1_2 h2 => ?_)); replace h := h2; clear h2
 refine Seq.done ?_
 refine At.s K5 K6 ?_
 refine At.rg 2 [0] ?_
 refine Seq.u 4 (.int .u32 4294967295) ?_
 refine Seq.done ?_
 refine At.s K7 K27 ?_
 refine At.s K8 K9 ?_
 refine At.rg 3 [0, 1, 2] ?_
 refine Seq.u 8 (.slice p0 n0 c0) ?_
 refine Seq.z 9 (.call { callee := .builtin .len, args := #[(.tmp 8)], argTypes := #[23] }) 3 (.int .i64 (n0 : Int)) (Y.lenS underlying23 rfl rfl) ?_
 refine Seq.u 10 (.int .i64 0) ?_
 refine Seq.done ?_
 refine At.b 0 K10 ?_
 refine At.loop (x := K11) (by kernel_rfl) ?_
 refine At.s K12 K13 ?_
 exact At.v [(3, (.pointer (some ⟨b3, 0, none⟩))), (4, (.int .u32 4294967295)), (8, (.slice p0 n0 c0)), (9, (.int .i64 (n0 : Int))), (10, (.int .i64 0))] (h _)
theorem pt12_of {R : Ending → Hp → Prop} {b3 n8 c8 : Nat} {x4 x9 x10 : Int} {p8 : Option Addr} {σ : Hp} (h : ((x10 : Int) < x9 → ∃ (b12 o12 : Nat), p8 = some ⟨b12, o12, none⟩ ∧ ((0 : Int) ≤ x10 ∧ x10 < (n8 : Int)) ∧ ∃ x13 : Int, Hp.ld σ ⟨b12, (o12 + Int.toNat x10 * 1), none⟩ = some (.int .u8 x13) ∧ ∀ x16 : Int, x16 = IntKind.u32.wrap x13 → ∀ x17 : Int, x17 = Go.bits .xor .u32 x4 x16 → ((0 : Int) ≤ 4 ∧ 4 ≤ ((IntKind.bits .u32 : Nat) : Int)) ∧ ∀ x19 : Int, x19 = x17 / 2 ^ Int.toNat 4 → ∀ x21 : Int, x21 = Go.bits .and .u32 x17 15 → ((0 : Int) ≤ x21 ∧ x21 < 16) ∧ ∃ x23 : Int, Hp.ld σ ⟨b3, (0 + Int.toNat x21 * 1), none⟩ = some (.int .u32 x23) ∧ ∀ x24 : Int, x24 = Go.bits .xor .u32 x19 x23 → ((0 : Int) ≤ 4 ∧ 4 ≤ ((IntKind.bits .u32 : Nat) : Int)) ∧ ∀ x26 : Int, x26 = x24 / 2 ^ Int.toNat 4 → ∀ x28 : Int, x28 = Go.bits .and .u32 x24 15 → ((0 : Int) ≤ x28 ∧ x28 < 16) ∧ ∃ x30 : Int, Hp.ld σ ⟨b3, (0 + Int.toNat x28 * 1), none⟩ = some (.int .u32 x30) ∧ ∀ x31 : Int, x31 = Go.bits .xor .u32 x26 x30 → I64 (x10 + 1) ∧ pt12 R b3 x31 ((some ⟨b12, o12, none⟩)) n8 c8 x9 ((x10 + 1)) σ) ∧ (¬ ((x10 : Int) < x9) → ∃ x34 : Int, YF prog (Op.unary .xor (.int .u32 x4)) σ (.int .u32 x34) ∧ R (.returned (.int .u32 x34)) σ)) : pt12 R b3 x4 p8 n8 c8 x9 x10 σ := by
 intro J
 show At (gl R) _ _ _ _
 refine At.rg 4 [0] ?_
 refine Seq.u 11 (.bool (decide ((x10 : Int) < x9))) ?_
 refine Seq.done ?_
 refine At.s K14 K17 ?_
 cases hb : (decide ((x10 : Int) < x9)) with
 | true =>
  replace h := h.1 (of_decide_eq_true hb)
  refine At.cT 11 K15 K16 ?_
  refine At.skip ?_
  refine At.s K18 K26 ?_
  refine At.b 1 K19 ?_
  refine At.s K20 K21 ?_
  refine At.rg 5 [0, 1, 2] ?_
  obtain ⟨b12, o12, hq, h⟩ := h
  subst hq
  obtain ⟨hi, h⟩ := h
  refine Seq.z 12 (.indexAddr 23 (.tmp 8) (.tmp 10)) 0 (.pointer (some ⟨b12, (o12 + Int.toNat x10 * 1), none⟩)) (Y.idx underlying23 sizeOf5 rfl rfl hi rfl) ?_
  obtain ⟨x13, hl, h⟩ := h
  refine Seq.z 13 (.load 5 (.tmp 12)) 5 (.int .u8 x13) (Y.ld isAgg5 rfl hl) ?_
  refine Seq.u 6 (.int .u8 x13) ?_
  refine Seq.done ?_
  refine At.s K22 K23 ?_
  refine At.rg 6 [0, 1, 2, 3, 4] ?_
  refine Seq.us [(14, .int .u32 x4), (15, .int .u8 x13)] ?_
  obtain ⟨x16, hwx16⟩ : ∃ y, y = IntKind.u32.wrap x13 := ⟨_, rfl⟩
  replace h := h x16 hwx16
  refine Seq.y (d := (some 16)) (op := (.convert 5 79 (.tmp 15))) (ty := 79) (v := (.int .u32 x16)) (by kernel_rfl) rfl (hwx16 ▸ Y.conv (by kernel_rfl) underlying79 rfl) ?_
  obtain ⟨x17, hwx17⟩ : ∃ y, y = Go.bits .xor .u32 x4 x16 := ⟨_, rfl⟩
  replace h := h x17 hwx17
  refine Seq.y (d := (some 17)) (op := (.binOp .xor 79 (.tmp 14) (.tmp 16) 79)) (ty := 79) (v := (.int .u32 x17)) (by kernel_rfl) rfl (hwx17 ▸ Y.bits (by simp) rfl rfl) ?_
  refine Seq.u 4 (.int .u32 x17) ?_
  refine Seq.done ?_
  refine At.s K24 K25 ?_
  refine At.rg 7 [0, 1, 2, 3, 4, 5, 6, 7] ?_
  refine Seq.u 18 (.int .u32 x17) ?_
  obtain ⟨hc, h⟩ := h
  obtain ⟨x19, hwx19⟩ : ∃ y, y = x17 / 2 ^ Int.toNat 4 := ⟨_, rfl⟩
  replace h := h x19 hwx19
  refine Seq.y (d := (some 19)) (op := (.binOp .shr 79 (.tmp 18) (.const (.int .u64 4)) 82)) (ty := 79) (v := (.int .u32 x19)) (by kernel_rfl) rfl (hwx19 ▸ Y.shr hc.1 hc.2 rfl rfl) ?_
  refine Seq.u 20 (.int .u32 x17) ?_
  obtain ⟨x21, hwx21⟩ : ∃ y, y = Go.bits .and .u32 x17 15 := ⟨_, rfl⟩
  replace h := h x21 hwx21
  refine Seq.y (d := (some 21)) (op := (.binOp .and 79 (.tmp 20) (.const (.int .u32 15)) 79)) (ty := 79) (v := (.int .u32 x21)) (by kernel_rfl) rfl (hwx21 ▸ Y.bits (by simp) rfl rfl) ?_
  obtain ⟨hi, h⟩ := h
  refine Seq.z 22 (.indexAddr 105 (.tmp 3) (.tmp 21)) 0 (.pointer (some ⟨b3, (0 + Int.toNat x21 * 1), none⟩)) (Y.idxA underlying105 sizeOf79 rfl rfl hi rfl) ?_
  obtain ⟨x23, hl, h⟩ := h
  refine Seq.z 23 (.load 79 (.tmp 22)) 79 (.int .u32 x23) (Y.ld isAgg79 rfl hl) ?_
  obtain ⟨x24, hwx24⟩ : ∃ y, y = Go.bits .xor .u32 x19 x23 := ⟨_, rfl⟩
  replace h := h x24 hwx24
  refine Seq.y (d := (some 24)) (op := (.binOp .xor 79 (.tmp 19) (.tmp 23) 79)) (ty := 79) (v := (.int .u32 x24)) (by kernel_rfl) rfl (hwx24 ▸ Y.bits (by simp) rfl rfl) ?_
  refine Seq.u 4 (.int .u32 x24) ?_
  refine Seq.done ?_
  refine At.rg 8 [0, 1, 2, 3, 4, 5, 6, 7] ?_
  refine Seq.u 25 (.int .u32 x24) ?_
  obtain ⟨hc, h⟩ := h
  obtain ⟨x26, hwx26⟩ : ∃ y, y = x24 / 2 ^ Int.toNat 4 := ⟨_, rfl⟩
  replace h := h x26 hwx26
  refine Seq.y (d := (some 26)) (op := (.binOp .shr 79 (.tmp 25) (.const (.int .u64 4)) 82)) (ty := 79) (v := (.int .u32 x26)) (by kernel_rfl) rfl (hwx26 ▸ Y.shr hc.1 hc.2 rfl rfl) ?_
  refine Seq.u 27 (.int .u32 x24) ?_
  obtain ⟨x28, hwx28⟩ : ∃ y, y = Go.bits .and .u32 x24 15 := ⟨_, rfl⟩
  replace h := h x28 hwx28
  refine Seq.y (d := (some 28)) (op := (.binOp .and 79 (.tmp 27) (.const (.int .u32 15)) 79)) (ty := 79) (v := (.int .u32 x28)) (by kernel_rfl) rfl (hwx28 ▸ Y.bits (by simp) rfl rfl) ?_
  obtain ⟨hi, h⟩ := h
  refine Seq.z 29 (.indexAddr 105 (.tmp 3) (.tmp 28)) 0 (.pointer (some ⟨b3, (0 + Int.toNat x28 * 1), none⟩)) (Y.idxA underlying105 sizeOf79 rfl rfl hi rfl) ?_
  obtain ⟨x30, hl, h⟩ := h
  refine Seq.z 30 (.load 79 (.tmp 29)) 79 (.int .u32 x30) (Y.ld isAgg79 rfl hl) ?_
  obtain ⟨x31, hwx31⟩ : ∃ y, y = Go.bits .xor .u32 x26 x30 := ⟨_, rfl⟩
  replace h := h x31 hwx31
  refine Seq.y (d := (some 31)) (op := (.binOp .xor 79 (.tmp 26) (.tmp 30) 79)) (ty := 79) (v := (.int .u32 x31)) (by kernel_rfl) rfl (hwx31 ▸ Y.bits (by simp) rfl rfl) ?_
  refine Seq.u 4 (.int .u32 x31) ?_
  refine Seq.done ?_
  refine At.inBlock ?_
  refine At.rg 9 [0, 1] ?_
  obtain ⟨hi, h⟩ := h
  refine Seq.z 32 (.binOp .add 3 (.tmp 10) (.const (.int .i64 1)) 3) 3 (.int .i64 (x10 + 1)) (Y.addI hi rfl rfl) ?_
  refine Seq.u 10 (.int .i64 (x10 + 1)) ?_
  refine Seq.done ?_
  refine At.inLoop ?_
  refine At.s K12 K13 ?_
  exact At.v [(3, (.pointer (some ⟨b3, 0, none⟩))), (4, (.int .u32 x31)), (8, (.slice (some ⟨b12, o12, none⟩) n8 c8)), (9, (.int .i64 x9)), (10, (.int .i64 (x10 + 1)))] (h _)
 | false =>
  replace h := h.2 (of_decide_eq_false hb)
  refine At.cF 11 K15 K16 ?_
  refine At.x 0 [.code K27] ?_
  refine At.s K28 K29 ?_
  refine At.rg 10 [0, 1, 2] ?_
  refine Seq.u 33 (.int .u32 x4) ?_
  obtain ⟨x34, hy, h⟩ := h
  refine Seq.y (d := (some 34)) (op := (.unOp .xor 79 (.tmp 33))) (ty := 79) (v := (.int .u32 x34)) (by kernel_rfl) rfl (Yd.any (m := Op.unary .xor (.int .u32 x4)) (fun o ho ht => by simp only [execOp, ho, ht]; rfl) hy) ?_
  refine Seq.u 2 (.int .u32 x34) ?_
  refine Seq.done ?_
  exact At.rt [.tmp 2] [(.int .u32 x34)] func47 ⟨_, rfl, rfl⟩ h
end codec_Sum
namespace codec_PutUint
abbrev fid : Nat := 48
noncomputable def K0 := f48.body.getD .skip
def K1 := cl K0
def K2 := cr K0
def K3 := cl K2
def K4 := cr K2
def K5 := cl K4
def K6 := cl K5
def K7 := cl K6
def K8 := cl K7
def K9 := cl K8
def K10 := cr K8
def K11 := cl K10
def K12 := cr K10
def K13 := cr K7
def K14 := cl K13
def K15 := cl K14
def K16 := cr K13
def K17 := cr K4
def K18 := cl K17
def K19 := cr K17
abbrev gl (R : Ending → Hp → Prop) : Gl := Gl.fn prog 48 24 R
def pt9 (R : Ending → Hp → Prop) (x1 : Int) (p5 : Option Addr) (n5 c5 : Nat) (σ : Hp) : Prop := ∀ (J : Env), At (gl R) [.code K9, .code K10, .code K13, .inLoop K7, .inBlock 0, .code K17] (upds J [(1, (.int .u64 x1)), (5, (.slice p5 n5 c5))]) [] σ
theorem start {R : Ending → Hp → Prop} {p0 : Option Addr} {n0 c0 : Nat} {x1 : Int} {σ : Hp} (h : ∀ b6 : Nat, σ b6 = none → Eff prog (Builtin.append_ #[23, 23] 23 #[(.slice (some ⟨b6, 0, none⟩) 0 0), (.slice p0 n0 c0)]) (Hp.set σ b6 (.cells #[] 5 (0, 0))) (fun v σ1 => ∃ p8 : Option Addr, ∃ n8 : Nat, ∃ c8 : Nat, v = (.slice p8 n8 c8) ∧ pt9 R x1 p8 n8 c8 σ1)) : Spec prog 48 #[(.slice p0 n0 c0), (.int .u64 x1)] σ R := by
 refine Spec.of_at (fn := f48) (c := K0) func48 (by kernel_rfl) (Nat.le_of_ble_eq_true (by kernel_rfl)) (fun e he => ?_)
 refine At.ofL (l := [(0, (.slice p0 n0 c0)), (1, (.int .u64 x1))]) ⟨he 0, he 1, trivial⟩ (fun J => ?_)
 show At (gl R) _ _ _ _
 refine At.s K1 K2 ?_
 refine At.rg 0 [0] ?_
 refine Seq.u 4 (.slice none 0 0) ?_
 refine Seq.done ?_
 refine At.s K3 K4 ?_
 refine At.rg 1 [0, 1, 2, 3] ?_
 refine Seq.o ?_
 refine OpTo.bslice (T := 23) (E := 5) (m := 0) (ps := #[]) (d := (some 6)) (ty := 23) (gd := none) (vs := []) (cs := #[]) underlying23 (by kernel_rfl) rfl rfl rfl (by kernel_rfl) (fun b6 hn => ?_)
 replace h := h b6 hn
 refine Seq.u 7 (.slice p0 n0 c0) ?_
 refine Seq.o ?_
 refine OpTo.eff (d := (some 8)) (op := (.call { callee := .builtin .append, args := #[(.tmp 6), (.tmp 7)], argTypes := #[23, 23] })) (ty := 23) (gd := none) (by kernel_rfl) rfl rfl (Builtin.append_ #[23, 23] 23 #[(.slice (some ⟨b6, 0, none⟩) 0 0), (.slice p0 n0 c0)]) (fun o ho ht => exec_b_append rfl rfl o ho ht) (h.mono (fun v σ1 h2 => ?_)); replace h := h2; clear h2
 obtain ⟨p8, n8, c8, rfl, h⟩ := h
 refine Seq.u 5 (.slice p8 n8 c8) ?_
 refine Seq.done ?_
 refine At.s K5 K17 ?_
 refine At.b 0 K6 ?_
 refine At.loop (x := K7) (by kernel_rfl) ?_
 refine At.s K8 K13 ?_
 refine At.s K9 K10 ?_
 exact At.v [(1, (.int .u64 x1)), (5, (.slice p8 n8 c8))] (h _)
theorem pt9_of {R : Ending → Hp → Prop} {x1 : Int} {p5 : Option Addr} {n5 c5 : Nat} {σ : Hp} (h : ((127 : Int) < x1 → ∀ x15 : Int, x15 = IntKind.u8.wrap x1 → ∀ x16 : Int, x16 = Go.bits .or .u8 x15 128 → ∀ b17 : Nat, σ b17 = none → Eff prog (Builtin.append_ #[23, 23] 23 #[(.slice p5 n5 c5), (.slice (some ⟨b17, 0, none⟩) 1 1)]) (Hp.set σ b17 (.cells #[(.int .u8 x16)] 5 (0, 0))) (fun v σ1 => ∃ p18 : Option Addr, ∃ n18 : Nat, ∃ c18 : Nat, v = (.slice p18 n18 c18) ∧ ((0 : Int) ≤ 7 ∧ 7 ≤ ((IntKind.bits .u64 : Nat) : Int)) ∧ ∀ x12 : Int, x12 = x1 / 2 ^ Int.toNat 7 → pt9 R x12 p18 n18 c18 σ1)) ∧ (¬ ((127 : Int) < x1) → ∀ x21 : Int, x21 = IntKind.u8.wrap x1 → ∀ b22 : Nat, σ b22 = none → Eff prog (Builtin.append_ #[23, 23] 23 #[(.slice p5 n5 c5), (.slice (some ⟨b22, 0, none⟩) 1 1)]) (Hp.set σ b22 (.cells #[(.int .u8 x21)] 5 (0, 0))) (fun v σ1 => ∃ p23 : Option Addr, ∃ n23 : Nat, ∃ c23 : Nat, v = (.slice p23 n23 c23) ∧ R (.returned (.slice p23 n23 c23)) σ1))) : pt9 R x1 p5 n5 c5 σ := by
 intro J
 show At (gl R) _ _ _ _
 refine At.rg 2 [0, 1] ?_
 refine Seq.us [(9, .int .u64 x1), (10, .bool (decide ((127 : Int) < x1)))] ?_
 refine Seq.done ?_
 cases hb : (decide ((127 : Int) < x1)) with
 | true =>
  replace h := h.1 (of_decide_eq_true hb)
  refine At.cT 10 K11 K12 ?_
  refine At.skip ?_
  refine At.s K14 K16 ?_
  refine At.b 1 K15 ?_
  refine At.rg 4 [0, 1, 2, 3, 4, 5, 6] ?_
  refine Seq.us [(13, .slice p5 n5 c5), (14, .int .u64 x1)] ?_
  obtain ⟨x15, hwx15⟩ : ∃ y, y = IntKind.u8.wrap x1 := ⟨_, rfl⟩
  replace h := h x15 hwx15
  refine Seq.y (d := (some 15)) (op := (.convert 56 5 (.tmp 14))) (ty := 5) (v := (.int .u8 x15)) (by kernel_rfl) rfl (hwx15 ▸ Y.conv (by kernel_rfl) underlying5 rfl) ?_
  obtain ⟨x16, hwx16⟩ : ∃ y, y = Go.bits .or .u8 x15 128 := ⟨_, rfl⟩
  replace h := h x16 hwx16
  refine Seq.y (d := (some 16)) (op := (.binOp .or 5 (.tmp 15) (.const (.int .u8 128)) 5)) (ty := 5) (v := (.int .u8 x16)) (by kernel_rfl) rfl (hwx16 ▸ Y.bits (by simp) rfl rfl) ?_
  refine Seq.o ?_
  refine OpTo.bslice (T := 23) (E := 5) (m := 1) (ps := #[(0, (.tmp 16))]) (d := (some 17)) (ty := 23) (gd := none) (vs := [(0, (.int .u8 x16))]) (cs := #[(.int .u8 x16)]) underlying23 (by kernel_rfl) rfl rfl rfl (by kernel_rfl) (fun b17 hn => ?_)
  replace h := h b17 hn
  refine Seq.o ?_
  refine OpTo.eff (d := (some 18)) (op := (.call { callee := .builtin .append, args := #[(.tmp 13), (.tmp 17)], argTypes := #[23, 23] })) (ty := 23) (gd := none) (by kernel_rfl) rfl rfl (Builtin.append_ #[23, 23] 23 #[(.slice p5 n5 c5), (.slice (some ⟨b17, 0, none⟩) 1 1)]) (fun o ho ht => exec_b_append rfl rfl o ho ht) (h.mono (fun v σ1 h2 => ?_)); replace h := h2; clear h2
  obtain ⟨p18, n18, c18, rfl, h⟩ := h
  refine Seq.u 5 (.slice p18 n18 c18) ?_
  refine Seq.done ?_
  refine At.inBlock ?_
  refine At.rg 3 [0, 1, 2] ?_
  refine Seq.u 11 (.int .u64 x1) ?_
  obtain ⟨hc, h⟩ := h
  obtain ⟨x12, hwx12⟩ : ∃ y, y = x1 / 2 ^ Int.toNat 7 := ⟨_, rfl⟩
  replace h := h x12 hwx12
  refine Seq.y (d := (some 12)) (op := (.binOp .shr 56 (.tmp 11) (.const (.int .u64 7)) 82)) (ty := 56) (v := (.int .u64 x12)) (by kernel_rfl) rfl (hwx12 ▸ Y.shr hc.1 hc.2 rfl rfl) ?_
  refine Seq.u 1 (.int .u64 x12) ?_
  refine Seq.done ?_
  refine At.inLoop ?_
  refine At.s K8 K13 ?_
  refine At.s K9 K10 ?_
  exact At.v [(1, (.int .u64 x12)), (5, (.slice p18 n18 c18))] (h _)
 | false =>
  replace h := h.2 (of_decide_eq_false hb)
  refine At.cF 10 K11 K12 ?_
  refine At.x 0 [.code K17] ?_
  refine At.s K18 K19 ?_
  refine At.rg 5 [0, 1, 2, 3, 4, 5] ?_
  refine Seq.us [(19, .slice p5 n5 c5), (20, .int .u64 x1)] ?_
  obtain ⟨x21, hwx21⟩ : ∃ y, y = IntKind.u8.wrap x1 := ⟨_, rfl⟩
  replace h := h x21 hwx21
  refine Seq.y (d := (some 21)) (op := (.convert 56 5 (.tmp 20))) (ty := 5) (v := (.int .u8 x21)) (by kernel_rfl) rfl (hwx21 ▸ Y.conv (by kernel_rfl) underlying5 rfl) ?_
  refine Seq.o ?_
  refine OpTo.bslice (T := 23) (E := 5) (m := 1) (ps := #[(0, (.tmp 21))]) (d := (some 22)) (ty := 23) (gd := none) (vs := [(0, (.int .u8 x21))]) (cs := #[(.int .u8 x21)]) underlying23 (by kernel_rfl) rfl rfl rfl (by kernel_rfl) (fun b22 hn => ?_)
  replace h := h b22 hn
  refine Seq.o ?_
  refine OpTo.eff (d := (some 23)) (op := (.call { callee := .builtin .append, args := #[(.tmp 19), (.tmp 22)], argTypes := #[23, 23] })) (ty := 23) (gd := none) (by kernel_rfl) rfl rfl (Builtin.append_ #[23, 23] 23 #[(.slice p5 n5 c5), (.slice (some ⟨b22, 0, none⟩) 1 1)]) (fun o ho ht => exec_b_append rfl rfl o ho ht) (h.mono (fun v σ1 h2 => ?_)); replace h := h2; clear h2
  obtain ⟨p23, n23, c23, rfl, h⟩ := h
  refine Seq.u 4 (.slice p23 n23 c23) ?_
  refine Seq.done ?_
  exact At.rt [.tmp 4] [(.slice p23 n23 c23)] func48 ⟨_, rfl, rfl⟩ h
end codec_PutUint

end
end TwW
end
