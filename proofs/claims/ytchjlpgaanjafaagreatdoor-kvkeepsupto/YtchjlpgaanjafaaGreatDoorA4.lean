/-
  Part 4 of the proof that the law KvKeepsUptoCardSaid of the given program answers true for every input of the given statement; the input reads behind the call as it did. (The texts: HC HC WI WJ WK WL WM WN WO WP WQ WR WS WT WU WV WW WX.)
-/
import Derived.Test.YtchjlpgaanjafaaGreatDoorA3
import Derived.Lib.SmallJoins
import Derived.Lib.ItoaLen
import Derived.Lib.ItoaMem
import Derived.WalkKit
import Derived.Defers
import Derived.Recover
set_option linter.all false
section
/- written by gen.py: program points and what leads to them -/
set_option linter.unusedVariables false
set_option maxRecDepth 100000
namespace TwW
open Go Tw Go.Proofs.Tryz
noncomputable section
namespace wal_Wal_Cut_1
abbrev fid : Nat := 54
noncomputable def K0 := f54.body.getD .skip
def K1 := cl K0
def K2 := cr K0
def K3 := cl K2
def K4 := cl K3
def K5 := cr K3
def K6 := cl K5
def K7 := cr K5
def K8 := cr K2
def K9 := cl K8
def K10 := cr K8
def K11 := cl K10
def K12 := cl K11
def K13 := cl K12
def K14 := cl K13
def K15 := cl K14
def K16 := cr K14
def K17 := cl K16
def K18 := cr K16
def K19 := cr K13
def K20 := cl K19
def K21 := cl K20
def K22 := cr K20
def K23 := cr K10
def K24 := cl K23
def K25 := cr K23
abbrev gl (R : Ending → Hp → Prop) : Gl := Gl.fn prog 54 73 R
def pt9 (R : Ending → Hp → Prop) (b0 : Nat) (σ : Hp) : Prop := ∀ (J : Env), At (gl R) [.code K9, .code K10] (upds J [(0, (.pointer (some ⟨b0, 0, none⟩)))]) [] σ
def pt15 (R : Ending → Hp → Prop) (b0 : Nat) (σ : Hp) : Prop := ∀ (J : Env), At (gl R) [.code K15, .code K16, .code K19, .inLoop K13, .inBlock 0, .code K23] (upds J [(0, (.pointer (some ⟨b0, 0, none⟩)))]) [] σ
theorem start {R : Ending → Hp → Prop} {b0 b1 : Nat} {σ : Hp} (h : ∃ q2 : Option Addr, Hp.ld σ ⟨b0, 0, none⟩ = some (.pointer q2) ∧ ∃ q3 : Option Addr, Hp.ld σ ⟨b0, 0, none⟩ = some (.pointer q3) ∧ ∃ q4 : Option Addr, Hp.ld σ ⟨b0, 0, none⟩ = some (.pointer q4) ∧ ∃ (b5 o5 : Nat), q4 = some ⟨b5, o5, none⟩ ∧ ∃ x7 : Int, Hp.ld σ ⟨b5, (o5 + 4), none⟩ = some (.int .i64 x7) ∧ ∃ p9 : Option Addr, ∃ n9 : Nat, ∃ c9 : Nat, Hp.ld σ ⟨b1, 0, none⟩ = some (.slice p9 n9 c9) ∧ Spec prog 42 #[(.pointer q3), (.string (ByteArray.mk #[99])), (.int .i64 x7)] σ (Cont R (fun v σ1 => ∃ s8 : ByteArray, v = (.string s8) ∧ Kp [b1, b0] σ σ1 ∧ Spec prog 55 #[(.pointer q2), (.string s8), (.slice p9 n9 c9)] σ1 (Cont R (fun v_2 σ1_2 => v_2 = (.tuple #[]) ∧ ∃ q11 : Option Addr, Hp.ld σ1_2 ⟨b0, 0, none⟩ = some (.pointer q11) ∧ ∃ (b12 o12 : Nat), q11 = some ⟨b12, o12, none⟩ ∧ ∃ x14 : Int, Hp.ld σ1_2 ⟨b12, (o12 + 2), none⟩ = some (.int .i64 x14) ∧ ((0 : Int) < x14 → ∃ q16 : Option Addr, Hp.ld σ1_2 ⟨b0, 0, none⟩ = some (.pointer q16) ∧ ∃ (b17 o17 : Nat), q16 = some ⟨b17, o17, none⟩ ∧ ∃ q19 : Option Addr, Hp.ld σ1_2 ⟨b17, o17, none⟩ = some (.pointer q19) ∧ ∃ q20 : Option Addr, Hp.ld σ1_2 ⟨b0, 0, none⟩ = some (.pointer q20) ∧ ∃ q21 : Option Addr, Hp.ld σ1_2 ⟨b0, 0, none⟩ = some (.pointer q21) ∧ ∃ (b22 o22 : Nat), q21 = some ⟨b22, o22, none⟩ ∧ ∃ x24 : Int, Hp.ld σ1_2 ⟨b22, (o22 + 2), none⟩ = some (.int .i64 x24) ∧ Spec prog 42 #[(.pointer q20), (.string (ByteArray.mk #[99])), (.int .i64 x24)] σ1_2 (Cont R (fun v_3 σ1_3 => ∃ s25 : ByteArray, v_3 = (.string s25) ∧ Kp [b17, b0] σ1_2 σ1_3 ∧ Spec prog 56 #[(.pointer q19), (.string s25)] σ1_3 (Cont R (fun v_4 σ1_4 => ∃ x26 : Int, v_4 = (.int .i64 x26) ∧ Spec prog 43 #[(.int .i64 x26)] σ1_4 (Cont R (fun v_5 σ1_5 => v_5 = (.tuple #[]) ∧ pt9 R b0 σ1_5))))))) ∧ (¬ ((0 : Int) < x14) → pt9 R b0 σ1_2)))))) : Spec prog 54 #[(.pointer (some ⟨b0, 0, none⟩)), (.pointer (some ⟨b1, 0, none⟩))] σ R := by
 refine Spec.of_at (fn := f54) (c := K0) func54 (by kernel_rfl) (Nat.le_of_ble_eq_true (by kernel_rfl)) (fun e he => ?_)
 refine At.ofL (l := [(0, (.pointer (some ⟨b0, 0, none⟩))), (1, (.pointer (some ⟨b1, 0, none⟩)))]) ⟨he 0, he 1, trivial⟩ (fun J => ?_)
 show At (gl R) _ _ _ _
 refine At.s K1 K2 ?_
 refine At.draw (id := 0) (ops := cO K1) (n := 8) (q := (some [])) (plan := [(0, true), (1, true), (2, true), (3, true), (4, true), (5, true), (7, true), (6, false)]) (tl := [8]) mixed (by kernel_rfl) (by kernel_rfl) ?_
 obtain ⟨q2, hl, h⟩ := h
 refine Head.yl b0 [] rfl (by kernel_rfl) (d := (some 2)) (op := (.load 26 (.tmp 0))) (ty := 26) (v := (.pointer q2)) (by kernel_rfl) rfl (Y.ld isAgg26 rfl (lim_ld hl)) ?_
 obtain ⟨q3, hl, h⟩ := h
 refine Head.yl b0 [[6]] rfl (by kernel_rfl) (d := (some 3)) (op := (.load 26 (.tmp 0))) (ty := 26) (v := (.pointer q3)) (by kernel_rfl) rfl (Y.ld isAgg26 rfl (lim_ld hl)) ?_
 obtain ⟨q4, hl, h⟩ := h
 refine Head.yl b0 [[6, 5, 4, 3]] rfl (by kernel_rfl) (d := (some 4)) (op := (.load 26 (.tmp 0))) (ty := 26) (v := (.pointer q4)) (by kernel_rfl) rfl (Y.ld isAgg26 rfl (lim_ld hl)) ?_
 obtain ⟨b5, o5, hq, h⟩ := h
 subst hq
 refine Head.z 5 (.nilCheck (.tmp 4)) 0 (.pointer (some ⟨b5, o5, none⟩)) (Y.nilCheck rfl) ?_
 refine Head.z 6 (.fieldAddr 71 (.tmp 5) 4) 0 (.pointer (some ⟨b5, (o5 + 4), none⟩)) (Y.fieldAddr (fd := (fieldOf prog 71 4)) underlying71 (by kernel_rfl) sizeOf3 rfl rfl) ?_
 obtain ⟨x7, hl, h⟩ := h
 refine Head.yl b5 [[6]] rfl (by kernel_rfl) (d := (some 7)) (op := (.load 3 (.tmp 6))) (ty := 3) (v := (.int .i64 x7)) (by kernel_rfl) rfl (Y.ld isAgg3 rfl (lim_ld hl)) ?_
 obtain ⟨p9, n9, c9, hl, h⟩ := h
 refine Head.yl b1 [] rfl (by kernel_rfl) (d := (some 9)) (op := (.load 22 (.tmp 1))) (ty := 22) (v := (.slice p9 n9 c9)) (by kernel_rfl) rfl (Y.ld isAgg22 rfl (lim_ld hl)) ?_
 refine Head.o (q' := (some [(b1, []), (b0, [])])) rfl ?_
 refine OpTo.cl (some 8) call42 (h.cont fun v σ1 h2 => ?_); replace h := h2; clear h2
 obtain ⟨s8, rfl, hk, h⟩ := h
 refine ⟨⟨fun _ h => h, kp_q (L := [(b1, []), (b0, [])]) hk⟩, ?_⟩
 refine Head.done ?_
 refine Seq.o ?_
 refine OpTo.cl (some 10) call55 (h.cont fun v_2 σ1_2 h2 => ?_); replace h := h2; clear h2
 obtain ⟨rfl, h⟩ := h
 refine Seq.done ?_
 refine At.s K3 K8 ?_
 refine At.s K4 K5 ?_
 refine At.rg 1 [0, 1, 2, 3, 4] ?_
 obtain ⟨q11, hl, h⟩ := h
 refine Seq.z 11 (.load 26 (.tmp 0)) 26 (.pointer q11) (Y.ld isAgg26 rfl hl) ?_
 obtain ⟨b12, o12, hq, h⟩ := h
 subst hq
 refine Seq.z 12 (.nilCheck (.tmp 11)) 0 (.pointer (some ⟨b12, o12, none⟩)) (Y.nilCheck rfl) ?_
 refine Seq.z 13 (.fieldAddr 71 (.tmp 12) 2) 0 (.pointer (some ⟨b12, (o12 + 2), none⟩)) (Y.fieldAddr (fd := (fieldOf prog 71 2)) underlying71 (by kernel_rfl) sizeOf3 rfl rfl) ?_
 obtain ⟨x14, hl, h⟩ := h
 refine Seq.z 14 (.load 3 (.tmp 13)) 3 (.int .i64 x14) (Y.ld isAgg3 rfl hl) ?_
 refine Seq.u 15 (.bool (decide ((0 : Int) < x14))) ?_
 refine Seq.done ?_
 cases hb : (decide ((0 : Int) < x14)) with
 | true =>
  replace h := h.1 (of_decide_eq_true hb)
  refine At.cT 15 K6 K7 ?_
  refine At.draw (id := 2) (ops := cO K6) (n := 10) (q := (some [])) (plan := [(0, true), (1, true), (2, true), (3, true), (4, true), (5, true), (6, true), (7, true), (8, true), (9, false)]) (tl := [10, 11]) mixed (by kernel_rfl) (by kernel_rfl) ?_
  obtain ⟨q16, hl, h⟩ := h
  refine Head.yl b0 [] rfl (by kernel_rfl) (d := (some 16)) (op := (.load 26 (.tmp 0))) (ty := 26) (v := (.pointer q16)) (by kernel_rfl) rfl (Y.ld isAgg26 rfl (lim_ld hl)) ?_
  obtain ⟨b17, o17, hq, h⟩ := h
  subst hq
  refine Head.z 17 (.nilCheck (.tmp 16)) 0 (.pointer (some ⟨b17, o17, none⟩)) (Y.nilCheck rfl) ?_
  refine Head.z 18 (.fieldAddr 71 (.tmp 17) 0) 0 (.pointer (some ⟨b17, o17, none⟩)) (Y.fieldAddr (fd := (fieldOf prog 71 0)) underlying71 (by kernel_rfl) sizeOf24 rfl rfl) ?_
  obtain ⟨q19, hl, h⟩ := h
  refine Head.yl b17 [] rfl (by kernel_rfl) (d := (some 19)) (op := (.load 24 (.tmp 18))) (ty := 24) (v := (.pointer q19)) (by kernel_rfl) rfl (Y.ld isAgg24 rfl (lim_ld hl)) ?_
  obtain ⟨q20, hl, h⟩ := h
  refine Head.yl b0 [[9]] rfl (by kernel_rfl) (d := (some 20)) (op := (.load 26 (.tmp 0))) (ty := 26) (v := (.pointer q20)) (by kernel_rfl) rfl (Y.ld isAgg26 rfl (lim_ld hl)) ?_
  obtain ⟨q21, hl, h⟩ := h
  refine Head.yl b0 [[9, 8, 7, 6]] rfl (by kernel_rfl) (d := (some 21)) (op := (.load 26 (.tmp 0))) (ty := 26) (v := (.pointer q21)) (by kernel_rfl) rfl (Y.ld isAgg26 rfl (lim_ld hl)) ?_
  obtain ⟨b22, o22, hq, h⟩ := h
  subst hq
  refine Head.z 22 (.nilCheck (.tmp 21)) 0 (.pointer (some ⟨b22, o22, none⟩)) (Y.nilCheck rfl) ?_
  refine Head.z 23 (.fieldAddr 71 (.tmp 22) 2) 0 (.pointer (some ⟨b22, (o22 + 2), none⟩)) (Y.fieldAddr (fd := (fieldOf prog 71 2)) underlying71 (by kernel_rfl) sizeOf3 rfl rfl) ?_
  obtain ⟨x24, hl, h⟩ := h
  refine Head.yl b22 [[9]] rfl (by kernel_rfl) (d := (some 24)) (op := (.load 3 (.tmp 23))) (ty := 3) (v := (.int .i64 x24)) (by kernel_rfl) rfl (Y.ld isAgg3 rfl (lim_ld hl)) ?_
  refine Head.o (q' := (some [(b17, []), (b0, [])])) rfl ?_
  refine OpTo.cl (some 25) call42 (h.cont fun v_3 σ1_3 h2 => ?_); replace h := h2; clear h2
  obtain ⟨s25, rfl, hk, h⟩ := h
  refine ⟨⟨fun _ h => h, kp_q (L := [(b17, []), (b0, [])]) hk⟩, ?_⟩
  refine Head.done ?_
  refine Seq.o ?_
  refine OpTo.cl (some 26) call56 (h.cont fun v_4 σ1_4 h2 => ?_); replace h := h2; clear h2
  obtain ⟨x26, rfl, h⟩ := h
  refine Seq.o ?_
  refine OpTo.cl (some 27) call43 (h.cont fun v_5 σ1_5 h2 => ?_); replace h := h2; clear h2
  obtain ⟨rfl, h⟩ := h
  refine Seq.done ?_
  refine At.s K9 K10 ?_
  exact At.v [(0, (.pointer (some ⟨b0, 0, none⟩)))] (h _)
 | false =>
  replace h := h.2 (of_decide_eq_false hb)
  refine At.cF 15 K6 K7 ?_
  refine At.skip ?_
  refine At.s K9 K10 ?_
  exact At.v [(0, (.pointer (some ⟨b0, 0, none⟩)))] (h _)
theorem pt9_of {R : Ending → Hp → Prop} {b0 : Nat} {σ : Hp} (h : ∃ q28 : Option Addr, Hp.ld σ ⟨b0, 0, none⟩ = some (.pointer q28) ∧ ∃ q29 : Option Addr, Hp.ld σ ⟨b0, 0, none⟩ = some (.pointer q29) ∧ ∃ (b30 o30 : Nat), q29 = some ⟨b30, o30, none⟩ ∧ ∃ x32 : Int, Hp.ld σ ⟨b30, (o30 + 4), none⟩ = some (.int .i64 x32) ∧ ∃ (b33 o33 : Nat), q28 = some ⟨b33, o33, none⟩ ∧ Eff prog (Instr.storeAt 3 (.pointer (some ⟨b33, (o33 + 2), none⟩)) (.int .i64 x32)) σ (fun _ σ1 => pt15 R b0 σ1)) : pt9 R b0 σ := by
 intro J
 show At (gl R) _ _ _ _
 refine At.draw (id := 3) (ops := cO K9) (n := 7) (q := none) (plan := [(0, true), (1, true), (2, true), (3, true), (4, true), (5, true), (6, true)]) (tl := [7]) mixed (by kernel_rfl) (by kernel_rfl) ?_
 obtain ⟨q28, hl, h⟩ := h
 refine Head.z 28 (.load 26 (.tmp 0)) 26 (.pointer q28) (Y.ld isAgg26 rfl hl) ?_
 obtain ⟨q29, hl, h⟩ := h
 refine Head.z 29 (.load 26 (.tmp 0)) 26 (.pointer q29) (Y.ld isAgg26 rfl hl) ?_
 obtain ⟨b30, o30, hq, h⟩ := h
 subst hq
 refine Head.z 30 (.nilCheck (.tmp 29)) 0 (.pointer (some ⟨b30, o30, none⟩)) (Y.nilCheck rfl) ?_
 refine Head.z 31 (.fieldAddr 71 (.tmp 30) 4) 0 (.pointer (some ⟨b30, (o30 + 4), none⟩)) (Y.fieldAddr (fd := (fieldOf prog 71 4)) underlying71 (by kernel_rfl) sizeOf3 rfl rfl) ?_
 obtain ⟨x32, hl, h⟩ := h
 refine Head.z 32 (.load 3 (.tmp 31)) 3 (.int .i64 x32) (Y.ld isAgg3 rfl hl) ?_
 obtain ⟨b33, o33, hq, h⟩ := h
 subst hq
 refine Head.z 33 (.nilCheck (.tmp 28)) 0 (.pointer (some ⟨b33, o33, none⟩)) (Y.nilCheck rfl) ?_
 refine Head.z 34 (.fieldAddr 71 (.tmp 33) 2) 0 (.pointer (some ⟨b33, (o33 + 2), none⟩)) (Y.fieldAddr (fd := (fieldOf prog 71 2)) underlying71 (by kernel_rfl) sizeOf3 rfl rfl) ?_
 refine Head.done ?_
 refine Seq.o ?_
 refine OpTo.store (T := 3) (ty := 0) (x := (.tmp 34)) (y := (.tmp 32)) (p := (.pointer (some ⟨b33, (o33 + 2), none⟩))) (v := (.int .i64 x32)) (gd := none) (by kernel_rfl) rfl rfl rfl (h.mono (fun _ σ1 h2 => ?_)); replace h := h2; clear h2
 refine Seq.done ?_
 refine At.s K11 K23 ?_
 refine At.b 0 K12 ?_
 refine At.loop (x := K13) (by kernel_rfl) ?_
 refine At.s K14 K19 ?_
 refine At.s K15 K16 ?_
 exact At.v [(0, (.pointer (some ⟨b0, 0, none⟩)))] (h _)
theorem pt15_of {R : Ending → Hp → Prop} {b0 : Nat} {σ : Hp} (h : ∃ q35 : Option Addr, Hp.ld σ ⟨b0, 0, none⟩ = some (.pointer q35) ∧ ∃ (b36 o36 : Nat), q35 = some ⟨b36, o36, none⟩ ∧ ∃ p38 : Option Addr, ∃ n38 : Nat, ∃ c38 : Nat, Hp.ld σ ⟨b36, (o36 + 3), none⟩ = some (.slice p38 n38 c38) ∧ ((0 : Int) < (n38 : Int) → ∃ q41 : Option Addr, Hp.ld σ ⟨b0, 0, none⟩ = some (.pointer q41) ∧ ∃ (b42 o42 : Nat), q41 = some ⟨b42, o42, none⟩ ∧ ∃ q44 : Option Addr, Hp.ld σ ⟨b42, o42, none⟩ = some (.pointer q44) ∧ ∃ q45 : Option Addr, Hp.ld σ ⟨b0, 0, none⟩ = some (.pointer q45) ∧ ∃ q46 : Option Addr, Hp.ld σ ⟨b0, 0, none⟩ = some (.pointer q46) ∧ ∃ (b47 o47 : Nat), q46 = some ⟨b47, o47, none⟩ ∧ ∃ p49 : Option Addr, ∃ n49 : Nat, ∃ c49 : Nat, Hp.ld σ ⟨b47, (o47 + 3), none⟩ = some (.slice p49 n49 c49) ∧ ∃ (b50 o50 : Nat), p49 = some ⟨b50, o50, none⟩ ∧ ((0 : Int) ≤ 0 ∧ 0 < (n49 : Int)) ∧ ∃ x51 : Int, Hp.ld σ ⟨b50, o50, none⟩ = some (.int .i64 x51) ∧ Spec prog 42 #[(.pointer q45), (.string (ByteArray.mk #[115])), (.int .i64 x51)] σ (Cont R (fun v σ1 => ∃ s52 : ByteArray, v = (.string s52) ∧ Kp [b42, b0] σ σ1 ∧ Spec prog 56 #[(.pointer q44), (.string s52)] σ1 (Cont R (fun v_2 σ1_2 => ∃ x53 : Int, v_2 = (.int .i64 x53) ∧ Spec prog 43 #[(.int .i64 x53)] σ1_2 (Cont R (fun v_3 σ1_3 => v_3 = (.tuple #[]) ∧ ∃ q55 : Option Addr, Hp.ld σ1_3 ⟨b0, 0, none⟩ = some (.pointer q55) ∧ ∃ q56 : Option Addr, Hp.ld σ1_3 ⟨b0, 0, none⟩ = some (.pointer q56) ∧ ∃ (b57 o57 : Nat), q56 = some ⟨b57, o57, none⟩ ∧ ∃ p59 : Option Addr, ∃ n59 : Nat, ∃ c59 : Nat, Hp.ld σ1_3 ⟨b57, (o57 + 3), none⟩ = some (.slice p59 n59 c59) ∧ ((0 : Int) ≤ 1 ∧ 1 ≤ (n59 : Int)) ∧ ∃ (b61 o61 : Nat), q55 = some ⟨b61, o61, none⟩ ∧ Eff prog (Instr.storeAt 64 (.pointer (some ⟨b61, (o61 + 3), none⟩)) (.slice (slP p59 (1) c59 1) (n59 - 1) (c59 - 1))) σ1_3 (fun _ σ1_4 => pt15 R b0 σ1_4)))))))) ∧ (¬ ((0 : Int) < (n38 : Int)) → ∃ q63 : Option Addr, Hp.ld σ ⟨b0, 0, none⟩ = some (.pointer q63) ∧ ∃ (b64 o64 : Nat), q63 = some ⟨b64, o64, none⟩ ∧ ∃ x66 : Int, Hp.ld σ ⟨b64, (o64 + 4), none⟩ = some (.int .i64 x66) ∧ I64 (x66 + 1) ∧ Eff prog (Instr.storeAt 3 (.pointer (some ⟨b64, (o64 + 4), none⟩)) (.int .i64 (x66 + 1))) σ (fun _ σ1 => ∃ q70 : Option Addr, Hp.ld σ1 ⟨b0, 0, none⟩ = some (.pointer q70) ∧ ∃ (b71 o71 : Nat), q70 = some ⟨b71, o71, none⟩ ∧ Eff prog (Instr.storeAt 3 (.pointer (some ⟨b71, (o71 + 5), none⟩)) (.int .i64 0)) σ1 (fun _ σ1_2 => R (.returned (.tuple #[])) σ1_2)))) : pt15 R b0 σ := by
 intro J
 show At (gl R) _ _ _ _
 refine At.rg 4 [0, 1, 2, 3, 4, 5] ?_
 obtain ⟨q35, hl, h⟩ := h
 refine Seq.z 35 (.load 26 (.tmp 0)) 26 (.pointer q35) (Y.ld isAgg26 rfl hl) ?_
 obtain ⟨b36, o36, hq, h⟩ := h
 subst hq
 refine Seq.z 36 (.nilCheck (.tmp 35)) 0 (.pointer (some ⟨b36, o36, none⟩)) (Y.nilCheck rfl) ?_
 refine Seq.z 37 (.fieldAddr 71 (.tmp 36) 3) 0 (.pointer (some ⟨b36, (o36 + 3), none⟩)) (Y.fieldAddr (fd := (fieldOf prog 71 3)) underlying71 (by kernel_rfl) sizeOf64 rfl rfl) ?_
 obtain ⟨p38, n38, c38, hl, h⟩ := h
 refine Seq.z 38 (.load 64 (.tmp 37)) 64 (.slice p38 n38 c38) (Y.ld isAgg64 rfl hl) ?_
 refine Seq.z 39 (.call { callee := .builtin .len, args := #[(.tmp 38)], argTypes := #[64] }) 3 (.int .i64 (n38 : Int)) (Y.lenS underlying64 rfl rfl) ?_
 refine Seq.u 40 (.bool (decide ((0 : Int) < (n38 : Int)))) ?_
 refine Seq.done ?_
 cases hb : (decide ((0 : Int) < (n38 : Int))) with
 | true =>
  replace h := h.1 (of_decide_eq_true hb)
  refine At.cT 40 K17 K18 ?_
  refine At.skip ?_
  refine At.b 1 K20 ?_
  refine At.s K21 K22 ?_
  refine At.draw (id := 5) (ops := cO K21) (n := 12) (q := (some [])) (plan := [(0, true), (1, true), (2, true), (3, true), (4, true), (5, true), (6, true), (7, true), (8, true), (9, true), (10, true), (11, false)]) (tl := [12, 13]) mixed (by kernel_rfl) (by kernel_rfl) ?_
  obtain ⟨q41, hl, h⟩ := h
  refine Head.yl b0 [] rfl (by kernel_rfl) (d := (some 41)) (op := (.load 26 (.tmp 0))) (ty := 26) (v := (.pointer q41)) (by kernel_rfl) rfl (Y.ld isAgg26 rfl (lim_ld hl)) ?_
  obtain ⟨b42, o42, hq, h⟩ := h
  subst hq
  refine Head.z 42 (.nilCheck (.tmp 41)) 0 (.pointer (some ⟨b42, o42, none⟩)) (Y.nilCheck rfl) ?_
  refine Head.z 43 (.fieldAddr 71 (.tmp 42) 0) 0 (.pointer (some ⟨b42, o42, none⟩)) (Y.fieldAddr (fd := (fieldOf prog 71 0)) underlying71 (by kernel_rfl) sizeOf24 rfl rfl) ?_
  obtain ⟨q44, hl, h⟩ := h
  refine Head.yl b42 [] rfl (by kernel_rfl) (d := (some 44)) (op := (.load 24 (.tmp 43))) (ty := 24) (v := (.pointer q44)) (by kernel_rfl) rfl (Y.ld isAgg24 rfl (lim_ld hl)) ?_
  obtain ⟨q45, hl, h⟩ := h
  refine Head.yl b0 [[11]] rfl (by kernel_rfl) (d := (some 45)) (op := (.load 26 (.tmp 0))) (ty := 26) (v := (.pointer q45)) (by kernel_rfl) rfl (Y.ld isAgg26 rfl (lim_ld hl)) ?_
  obtain ⟨q46, hl, h⟩ := h
  refine Head.yl b0 [[11, 10, 9, 8, 7, 6]] rfl (by kernel_rfl) (d := (some 46)) (op := (.load 26 (.tmp 0))) (ty := 26) (v := (.pointer q46)) (by kernel_rfl) rfl (Y.ld isAgg26 rfl (lim_ld hl)) ?_
  obtain ⟨b47, o47, hq, h⟩ := h
  subst hq
  refine Head.z 47 (.nilCheck (.tmp 46)) 0 (.pointer (some ⟨b47, o47, none⟩)) (Y.nilCheck rfl) ?_
  refine Head.z 48 (.fieldAddr 71 (.tmp 47) 3) 0 (.pointer (some ⟨b47, (o47 + 3), none⟩)) (Y.fieldAddr (fd := (fieldOf prog 71 3)) underlying71 (by kernel_rfl) sizeOf64 rfl rfl) ?_
  obtain ⟨p49, n49, c49, hl, h⟩ := h
  refine Head.yl b47 [[11, 10, 9]] rfl (by kernel_rfl) (d := (some 49)) (op := (.load 64 (.tmp 48))) (ty := 64) (v := (.slice p49 n49 c49)) (by kernel_rfl) rfl (Y.ld isAgg64 rfl (lim_ld hl)) ?_
  obtain ⟨b50, o50, hq, h⟩ := h
  subst hq
  obtain ⟨hi, h⟩ := h
  refine Head.z 50 (.indexAddr 64 (.tmp 49) (.const (.int .i64 0))) 0 (.pointer (some ⟨b50, o50, none⟩)) (Y.idx underlying64 sizeOf3 rfl rfl hi rfl) ?_
  obtain ⟨x51, hl, h⟩ := h
  refine Head.yl b50 [[11]] rfl (by kernel_rfl) (d := (some 51)) (op := (.load 3 (.tmp 50))) (ty := 3) (v := (.int .i64 x51)) (by kernel_rfl) rfl (Y.ld isAgg3 rfl (lim_ld hl)) ?_
  refine Head.o (q' := (some [(b42, []), (b0, [])])) rfl ?_
  refine OpTo.cl (some 52) call42 (h.cont fun v σ1 h2 => ?_); replace h := h2; clear h2
  obtain ⟨s52, rfl, hk, h⟩ := h
  refine ⟨⟨fun _ h => h, kp_q (L := [(b42, []), (b0, [])]) hk⟩, ?_⟩
  refine Head.done ?_
  refine Seq.o ?_
  refine OpTo.cl (some 53) call56 (h.cont fun v_2 σ1_2 h2 => ?_); replace h := h2; clear h2
  obtain ⟨x53, rfl, h⟩ := h
  refine Seq.o ?_
  refine OpTo.cl (some 54) call43 (h.cont fun v_3 σ1_3 h2 => ?_); replace h := h2; clear h2
  obtain ⟨rfl, h⟩ := h
  refine Seq.done ?_
  refine At.draw (id := 6) (ops := cO K22) (n := 8) (q := none) (plan := [(0, true), (1, true), (2, true), (3, true), (4, true), (5, true), (6, true), (7, true)]) (tl := [8]) mixed (by kernel_rfl) (by kernel_rfl) ?_
  obtain ⟨q55, hl, h⟩ := h
  refine Head.z 55 (.load 26 (.tmp 0)) 26 (.pointer q55) (Y.ld isAgg26 rfl hl) ?_
  obtain ⟨q56, hl, h⟩ := h
  refine Head.z 56 (.load 26 (.tmp 0)) 26 (.pointer q56) (Y.ld isAgg26 rfl hl) ?_
  obtain ⟨b57, o57, hq, h⟩ := h
  subst hq
  refine Head.z 57 (.nilCheck (.tmp 56)) 0 (.pointer (some ⟨b57, o57, none⟩)) (Y.nilCheck rfl) ?_
  refine Head.z 58 (.fieldAddr 71 (.tmp 57) 3) 0 (.pointer (some ⟨b57, (o57 + 3), none⟩)) (Y.fieldAddr (fd := (fieldOf prog 71 3)) underlying71 (by kernel_rfl) sizeOf64 rfl rfl) ?_
  obtain ⟨p59, n59, c59, hl, h⟩ := h
  refine Head.z 59 (.load 64 (.tmp 58)) 64 (.slice p59 n59 c59) (Y.ld isAgg64 rfl hl) ?_
  obtain ⟨hs, h⟩ := h
  refine Head.z 60 (.slice 64 (.tmp 59) (some (.const (.int .i64 1))) none none) 64 (.slice (slP p59 (1) c59 1) (n59 - 1) (c59 - 1)) (Y.sll underlying64 sizeOf3 rfl rfl hs) ?_
  obtain ⟨b61, o61, hq, h⟩ := h
  subst hq
  refine Head.z 61 (.nilCheck (.tmp 55)) 0 (.pointer (some ⟨b61, o61, none⟩)) (Y.nilCheck rfl) ?_
  refine Head.z 62 (.fieldAddr 71 (.tmp 61) 3) 0 (.pointer (some ⟨b61, (o61 + 3), none⟩)) (Y.fieldAddr (fd := (fieldOf prog 71 3)) underlying71 (by kernel_rfl) sizeOf64 rfl rfl) ?_
  refine Head.done ?_
  refine Seq.o ?_
  refine OpTo.store (T := 64) (ty := 0) (x := (.tmp 62)) (y := (.tmp 60)) (p := (.pointer (some ⟨b61, (o61 + 3), none⟩))) (v := (.slice (slP p59 (1) c59 1) (n59 - 1) (c59 - 1))) (gd := none) (by kernel_rfl) rfl rfl rfl (h.mono (fun _ σ1_4 h2 => ?_)); replace h := h2; clear h2
  refine Seq.done ?_
  refine At.inBlock ?_
  refine At.inLoop ?_
  refine At.s K14 K19 ?_
  refine At.s K15 K16 ?_
  exact At.v [(0, (.pointer (some ⟨b0, 0, none⟩)))] (h _)
 | false =>
  replace h := h.2 (of_decide_eq_false hb)
  refine At.cF 40 K17 K18 ?_
  refine At.x 0 [.code K23] ?_
  refine At.s K24 K25 ?_
  refine At.rg 7 [0, 1, 2, 3, 4, 5, 6, 7] ?_
  obtain ⟨q63, hl, h⟩ := h
  refine Seq.z 63 (.load 26 (.tmp 0)) 26 (.pointer q63) (Y.ld isAgg26 rfl hl) ?_
  obtain ⟨b64, o64, hq, h⟩ := h
  subst hq
  refine Seq.z 64 (.nilCheck (.tmp 63)) 0 (.pointer (some ⟨b64, o64, none⟩)) (Y.nilCheck rfl) ?_
  refine Seq.z 65 (.fieldAddr 71 (.tmp 64) 4) 0 (.pointer (some ⟨b64, (o64 + 4), none⟩)) (Y.fieldAddr (fd := (fieldOf prog 71 4)) underlying71 (by kernel_rfl) sizeOf3 rfl rfl) ?_
  obtain ⟨x66, hl, h⟩ := h
  refine Seq.z 66 (.load 3 (.tmp 65)) 3 (.int .i64 x66) (Y.ld isAgg3 rfl hl) ?_
  obtain ⟨hi, h⟩ := h
  refine Seq.z 67 (.binOp .add 3 (.tmp 66) (.const (.int .i64 1)) 3) 3 (.int .i64 (x66 + 1)) (Y.addI hi rfl rfl) ?_
  refine Seq.z 68 (.nilCheck (.tmp 63)) 0 (.pointer (some ⟨b64, o64, none⟩)) (Y.nilCheck rfl) ?_
  refine Seq.z 69 (.fieldAddr 71 (.tmp 68) 4) 0 (.pointer (some ⟨b64, (o64 + 4), none⟩)) (Y.fieldAddr (fd := (fieldOf prog 71 4)) underlying71 (by kernel_rfl) sizeOf3 rfl rfl) ?_
  refine Seq.o ?_
  refine OpTo.store (T := 3) (ty := 0) (x := (.tmp 69)) (y := (.tmp 67)) (p := (.pointer (some ⟨b64, (o64 + 4), none⟩))) (v := (.int .i64 (x66 + 1))) (gd := none) (by kernel_rfl) rfl rfl rfl (h.mono (fun _ σ1 h2 => ?_)); replace h := h2; clear h2
  refine Seq.done ?_
  refine At.rg 8 [0, 1, 2, 3] ?_
  obtain ⟨q70, hl, h⟩ := h
  refine Seq.z 70 (.load 26 (.tmp 0)) 26 (.pointer q70) (Y.ld isAgg26 rfl hl) ?_
  obtain ⟨b71, o71, hq, h⟩ := h
  subst hq
  refine Seq.z 71 (.nilCheck (.tmp 70)) 0 (.pointer (some ⟨b71, o71, none⟩)) (Y.nilCheck rfl) ?_
  refine Seq.z 72 (.fieldAddr 71 (.tmp 71) 5) 0 (.pointer (some ⟨b71, (o71 + 5), none⟩)) (Y.fieldAddr (fd := (fieldOf prog 71 5)) underlying71 (by kernel_rfl) sizeOf3 rfl rfl) ?_
  refine Seq.o ?_
  refine OpTo.store (T := 3) (ty := 0) (x := (.tmp 72)) (y := (.const (.int .i64 0))) (p := (.pointer (some ⟨b71, (o71 + 5), none⟩))) (v := (.int .i64 0)) (gd := none) (by kernel_rfl) rfl rfl rfl (h.mono (fun _ σ1_2 h2 => ?_)); replace h := h2; clear h2
  refine Seq.done ?_
  refine At.L [] fun J => ?_
  exact At.doneV (rs := []) (vs := []) func54 (by kernel_rfl) rfl h
end wal_Wal_Cut_1
namespace wal_Wal_replace
abbrev fid : Nat := 55
noncomputable def K0 := f55.body.getD .skip
def K1 := cl K0
def K2 := cr K0
def K3 := cl K2
def K4 := cr K2
abbrev gl (R : Ending → Hp → Prop) : Gl := Gl.fn prog 55 33 R
theorem start {R : Ending → Hp → Prop} {q0 p2 : Option Addr} {s1 : ByteArray} {n2 c2 : Nat} {σ : Hp} (h : ∃ (b7 o7 : Nat), q0 = some ⟨b7, o7, none⟩ ∧ ∃ q9 : Option Addr, Hp.ld σ ⟨b7, o7, none⟩ = some (.pointer q9) ∧ Spec prog 65 #[(.pointer (some ⟨b7, o7, none⟩))] σ (Cont R (fun v σ1 => ∃ s11 : ByteArray, v = (.string s11) ∧ Kp [b7] σ σ1 ∧ Spec prog 77 #[(.slice p2 n2 c2)] σ1 (Cont R (fun v_2 σ1_2 => ∃ p13 : Option Addr, ∃ n13 : Nat, ∃ c13 : Nat, v_2 = (.slice p13 n13 c13) ∧ Kp [b7] σ1 σ1_2 ∧ Spec prog 19 #[(.pointer q9), (.string s11), (.slice p13 n13 c13)] σ1_2 (Cont R (fun v_3 σ1_3 => ∃ x14 : Int, v_3 = (.int .i64 x14) ∧ Spec prog 43 #[(.int .i64 x14)] σ1_3 (Cont R (fun v_4 σ1_4 => v_4 = (.tuple #[]) ∧ ∃ q19 : Option Addr, Hp.ld σ1_4 ⟨b7, o7, none⟩ = some (.pointer q19) ∧ Spec prog 65 #[(.pointer (some ⟨b7, o7, none⟩))] σ1_4 (Cont R (fun v_5 σ1_5 => ∃ s21 : ByteArray, v_5 = (.string s21) ∧ Kp [b7] σ1_4 σ1_5 ∧ Spec prog 46 #[(.pointer q19), (.string s21)] σ1_5 (Cont R (fun v_6 σ1_6 => ∃ x22 : Int, v_6 = (.int .i64 x22) ∧ Spec prog 43 #[(.int .i64 x22)] σ1_6 (Cont R (fun v_7 σ1_7 => v_7 = (.tuple #[]) ∧ ∃ q27 : Option Addr, Hp.ld σ1_7 ⟨b7, o7, none⟩ = some (.pointer q27) ∧ Spec prog 65 #[(.pointer (some ⟨b7, o7, none⟩))] σ1_7 (Cont R (fun v_8 σ1_8 => ∃ s29 : ByteArray, v_8 = (.string s29) ∧ Kp [b7] σ1_7 σ1_8 ∧ Spec prog 78 #[(.pointer q27), (.string s29), (.string s1)] σ1_8 (Cont R (fun v_9 σ1_9 => ∃ x31 : Int, v_9 = (.int .i64 x31) ∧ Spec prog 43 #[(.int .i64 x31)] σ1_9 (Cont R (fun v_10 σ1_10 => v_10 = (.tuple #[]) ∧ R (.returned (.tuple #[])) σ1_10))))))))))))))))))))) : Spec prog 55 #[(.pointer q0), (.string s1), (.slice p2 n2 c2)] σ R := by
 refine Spec.of_at (fn := f55) (c := K0) func55 (by kernel_rfl) (Nat.le_of_ble_eq_true (by kernel_rfl)) (fun e he => ?_)
 refine At.ofL (l := [(0, (.pointer q0)), (1, (.string s1)), (2, (.slice p2 n2 c2))]) ⟨he 0, he 1, he 2, trivial⟩ (fun J => ?_)
 show At (gl R) _ _ _ _
 refine At.s K1 K2 ?_
 refine At.draw (id := 0) (ops := cO K1) (n := 8) (q := (some [])) (plan := [(0, true), (1, true), (2, true), (3, true), (4, true), (6, true), (5, false), (7, false)]) (tl := [8, 9]) mixed (by kernel_rfl) (by kernel_rfl) ?_
 refine Head.u 6 (.pointer q0) ?_
 obtain ⟨b7, o7, hq, h⟩ := h
 subst hq
 refine Head.z 7 (.nilCheck (.tmp 6)) 0 (.pointer (some ⟨b7, o7, none⟩)) (Y.nilCheck rfl) ?_
 refine Head.z 8 (.fieldAddr 71 (.tmp 7) 0) 0 (.pointer (some ⟨b7, o7, none⟩)) (Y.fieldAddr (fd := (fieldOf prog 71 0)) underlying71 (by kernel_rfl) sizeOf24 rfl rfl) ?_
 obtain ⟨q9, hl, h⟩ := h
 refine Head.yl b7 [] rfl (by kernel_rfl) (d := (some 9)) (op := (.load 24 (.tmp 8))) (ty := 24) (v := (.pointer q9)) (by kernel_rfl) rfl (Y.ld isAgg24 rfl (lim_ld hl)) ?_
 refine Head.u 10 (.pointer (some ⟨b7, o7, none⟩)) ?_
 refine Head.u 12 (.slice p2 n2 c2) ?_
 refine Head.o (q' := (some [(b7, [])])) rfl ?_
 refine OpTo.cl (some 11) call65 (h.cont fun v σ1 h2 => ?_); replace h := h2; clear h2
 obtain ⟨s11, rfl, hk, h⟩ := h
 refine ⟨⟨fun _ h => h, kp_q (L := [(b7, [])]) hk⟩, ?_⟩
 refine Head.o (q' := (some [(b7, [])])) rfl ?_
 refine OpTo.cl (some 13) call77 (h.cont fun v_2 σ1_2 h2 => ?_); replace h := h2; clear h2
 obtain ⟨p13, n13, c13, rfl, hk, h⟩ := h
 refine ⟨⟨fun _ h => h, kp_q (L := [(b7, [])]) hk⟩, ?_⟩
 refine Head.done ?_
 refine Seq.o ?_
 refine OpTo.cl (some 14) call19 (h.cont fun v_3 σ1_3 h2 => ?_); replace h := h2; clear h2
 obtain ⟨x14, rfl, h⟩ := h
 refine Seq.o ?_
 refine OpTo.cl (some 15) call43 (h.cont fun v_4 σ1_4 h2 => ?_); replace h := h2; clear h2
 obtain ⟨rfl, h⟩ := h
 refine Seq.done ?_
 refine At.s K3 K4 ?_
 refine At.draw (id := 1) (ops := cO K3) (n := 6) (q := (some [])) (plan := [(0, true), (1, true), (2, true), (3, true), (4, true), (5, false)]) (tl := [6, 7]) mixed (by kernel_rfl) (by kernel_rfl) ?_
 refine Head.u 16 (.pointer (some ⟨b7, o7, none⟩)) ?_
 refine Head.z 17 (.nilCheck (.tmp 16)) 0 (.pointer (some ⟨b7, o7, none⟩)) (Y.nilCheck rfl) ?_
 refine Head.z 18 (.fieldAddr 71 (.tmp 17) 0) 0 (.pointer (some ⟨b7, o7, none⟩)) (Y.fieldAddr (fd := (fieldOf prog 71 0)) underlying71 (by kernel_rfl) sizeOf24 rfl rfl) ?_
 obtain ⟨q19, hl, h⟩ := h
 refine Head.yl b7 [] rfl (by kernel_rfl) (d := (some 19)) (op := (.load 24 (.tmp 18))) (ty := 24) (v := (.pointer q19)) (by kernel_rfl) rfl (Y.ld isAgg24 rfl (lim_ld hl)) ?_
 refine Head.u 20 (.pointer (some ⟨b7, o7, none⟩)) ?_
 refine Head.o (q' := (some [(b7, [])])) rfl ?_
 refine OpTo.cl (some 21) call65 (h.cont fun v_5 σ1_5 h2 => ?_); replace h := h2; clear h2
 obtain ⟨s21, rfl, hk, h⟩ := h
 refine ⟨⟨fun _ h => h, kp_q (L := [(b7, [])]) hk⟩, ?_⟩
 refine Head.done ?_
 refine Seq.o ?_
 refine OpTo.cl (some 22) call46 (h.cont fun v_6 σ1_6 h2 => ?_); replace h := h2; clear h2
 obtain ⟨x22, rfl, h⟩ := h
 refine Seq.o ?_
 refine OpTo.cl (some 23) call43 (h.cont fun v_7 σ1_7 h2 => ?_); replace h := h2; clear h2
 obtain ⟨rfl, h⟩ := h
 refine Seq.done ?_
 refine At.draw (id := 2) (ops := cO K4) (n := 7) (q := (some [])) (plan := [(0, true), (1, true), (2, true), (3, true), (4, true), (6, true), (5, false)]) (tl := [7, 8]) mixed (by kernel_rfl) (by kernel_rfl) ?_
 refine Head.u 24 (.pointer (some ⟨b7, o7, none⟩)) ?_
 refine Head.z 25 (.nilCheck (.tmp 24)) 0 (.pointer (some ⟨b7, o7, none⟩)) (Y.nilCheck rfl) ?_
 refine Head.z 26 (.fieldAddr 71 (.tmp 25) 0) 0 (.pointer (some ⟨b7, o7, none⟩)) (Y.fieldAddr (fd := (fieldOf prog 71 0)) underlying71 (by kernel_rfl) sizeOf24 rfl rfl) ?_
 obtain ⟨q27, hl, h⟩ := h
 refine Head.yl b7 [] rfl (by kernel_rfl) (d := (some 27)) (op := (.load 24 (.tmp 26))) (ty := 24) (v := (.pointer q27)) (by kernel_rfl) rfl (Y.ld isAgg24 rfl (lim_ld hl)) ?_
 refine Head.u 28 (.pointer (some ⟨b7, o7, none⟩)) ?_
 refine Head.u 30 (.string s1) ?_
 refine Head.o (q' := (some [(b7, [])])) rfl ?_
 refine OpTo.cl (some 29) call65 (h.cont fun v_8 σ1_8 h2 => ?_); replace h := h2; clear h2
 obtain ⟨s29, rfl, hk, h⟩ := h
 refine ⟨⟨fun _ h => h, kp_q (L := [(b7, [])]) hk⟩, ?_⟩
 refine Head.done ?_
 refine Seq.o ?_
 refine OpTo.cl (some 31) call78 (h.cont fun v_9 σ1_9 h2 => ?_); replace h := h2; clear h2
 obtain ⟨x31, rfl, h⟩ := h
 refine Seq.o ?_
 refine OpTo.cl (some 32) call43 (h.cont fun v_10 σ1_10 h2 => ?_); replace h := h2; clear h2
 obtain ⟨rfl, h⟩ := h
 refine Seq.done ?_
 exact At.doneV (rs := []) (vs := []) func55 (by kernel_rfl) rfl h
end wal_Wal_replace
namespace wal_Wal_fresh
abbrev fid : Nat := 65
noncomputable def K0 := f65.body.getD .skip
def K1 := cl K0
def K2 := cr K0
def K3 := cl K2
def K4 := cr K2
abbrev gl (R : Ending → Hp → Prop) : Gl := Gl.fn prog 65 8 R
theorem start {R : Ending → Hp → Prop} {q0 : Option Addr} {σ : Hp} (h : ∃ (b4 o4 : Nat), q0 = some ⟨b4, o4, none⟩ ∧ ∃ s6 : ByteArray, Hp.ld σ ⟨b4, (o4 + 1), none⟩ = some (.string s6) ∧ (ByteArray.size s6 + ByteArray.size (ByteArray.mk #[47, 110, 101, 119]) ≤ 9223372036854775807) ∧ R (.returned (.string (s6 ++ (ByteArray.mk #[47, 110, 101, 119])))) σ) : Spec prog 65 #[(.pointer q0)] σ R := by
 refine Spec.of_at (fn := f65) (c := K0) func65 (by kernel_rfl) (Nat.le_of_ble_eq_true (by kernel_rfl)) (fun e he => ?_)
 refine At.ofL (l := [(0, (.pointer q0))]) ⟨he 0, trivial⟩ (fun J => ?_)
 show At (gl R) _ _ _ _
 refine At.s K1 K2 ?_
 refine At.rg 0 [0] ?_
 refine Seq.u 2 (.string (ByteArray.mk #[])) ?_
 refine Seq.done ?_
 refine At.s K3 K4 ?_
 refine At.rg 1 [0, 1, 2, 3, 4, 5] ?_
 refine Seq.u 3 (.pointer q0) ?_
 obtain ⟨b4, o4, hq, h⟩ := h
 subst hq
 refine Seq.z 4 (.nilCheck (.tmp 3)) 0 (.pointer (some ⟨b4, o4, none⟩)) (Y.nilCheck rfl) ?_
 refine Seq.z 5 (.fieldAddr 71 (.tmp 4) 1) 0 (.pointer (some ⟨b4, (o4 + 1), none⟩)) (Y.fieldAddr (fd := (fieldOf prog 71 1)) underlying71 (by kernel_rfl) sizeOf9 rfl rfl) ?_
 obtain ⟨s6, hl, h⟩ := h
 refine Seq.z 6 (.load 9 (.tmp 5)) 9 (.string s6) (Y.ld isAgg9 rfl hl) ?_
 obtain ⟨hi, h⟩ := h
 refine Seq.z 7 (.binOp .add 9 (.tmp 6) (.const (.string (ByteArray.mk #[47, 110, 101, 119]))) 9) 9 (.string (s6 ++ (ByteArray.mk #[47, 110, 101, 119]))) (Y.addS underlying9 rfl rfl hi) ?_
 refine Seq.u 2 (.string (s6 ++ (ByteArray.mk #[47, 110, 101, 119]))) ?_
 refine Seq.done ?_
 exact At.rt [.tmp 2] [(.string (s6 ++ (ByteArray.mk #[47, 110, 101, 119])))] func65 ⟨_, rfl, rfl⟩ h
end wal_Wal_fresh
namespace wal_Wal_number
abbrev fid : Nat := 66
noncomputable def K0 := f66.body.getD .skip
def K1 := cl K0
def K2 := cr K0
def K3 := cl K2
def K4 := cr K2
def K5 := cl K4
def K6 := cl K5
def K7 := cr K5
def K8 := cl K7
def K9 := cl K8
def K10 := cr K8
def K11 := cr K7
def K12 := cr K4
def K13 := cl K12
def K14 := cl K13
def K15 := cr K13
def K16 := cl K15
def K17 := cl K16
def K18 := cl K17
def K19 := cl K18
def K20 := cr K18
def K21 := cl K20
def K22 := cr K20
def K23 := cr K17
def K24 := cl K23
def K25 := cl K24
def K26 := cl K25
def K27 := cr K25
def K28 := cl K27
def K29 := cl K28
def K30 := cr K28
def K31 := cr K27
def K32 := cr K23
def K33 := cr K12
def K34 := cl K33
def K35 := cr K33
def K36 := cl K35
def K37 := cr K35
abbrev gl (R : Ending → Hp → Prop) : Gl := Gl.fn prog 66 51 R
def pt19 (R : Ending → Hp → Prop) (s7 : ByteArray) (x9 : Int) (σ : Hp) : Prop := ∀ (J : Env), At (gl R) [.code K19, .code K20, .code K23, .inLoop K17, .inBlock 0, .code K33] (upds J [(7, (.string s7)), (9, (.int .i64 x9))]) [] σ
theorem start {R : Ending → Hp → Prop} {q0 : Option Addr} {s1 s2 : ByteArray} {σ : Hp} (h : ∃ (b15 o15 : Nat), q0 = some ⟨b15, o15, none⟩ ∧ ∃ s17 : ByteArray, Hp.ld σ ⟨b15, (o15 + 1), none⟩ = some (.string s17) ∧ (ByteArray.size s17 + ByteArray.size (ByteArray.mk #[47]) ≤ 9223372036854775807) ∧ (ByteArray.size (s17 ++ (ByteArray.mk #[47])) + ByteArray.size s1 ≤ 9223372036854775807) ∧ Spec prog 84 #[(.string s2), (.string ((s17 ++ (ByteArray.mk #[47])) ++ s1))] σ (Cont R (fun v σ1 => ∃ s21a : ByteArray, ∃ t21b : Bool, v = (.tuple #[(.string s21a), (.bool t21b)]) ∧ (t21b = false → R (.returned (.int .i64 0)) σ1) ∧ (t21b = true → ((((ByteArray.size s21a : Nat) : Int) : Int) ≠ 8 → R (.returned (.int .i64 0)) σ1) ∧ (¬ ((((ByteArray.size s21a : Nat) : Int) : Int) ≠ 8) → pt19 R s21a 0 σ1))))) : Spec prog 66 #[(.pointer q0), (.string s1), (.string s2)] σ R := by
 refine Spec.of_at (fn := f66) (c := K0) func66 (by kernel_rfl) (Nat.le_of_ble_eq_true (by kernel_rfl)) (fun e he => ?_)
 refine At.ofL (l := [(0, (.pointer q0)), (1, (.string s1)), (2, (.string s2))]) ⟨he 0, he 1, he 2, trivial⟩ (fun J => ?_)
 show At (gl R) _ _ _ _
 refine At.s K1 K2 ?_
 refine At.rg 0 [0] ?_
 refine Seq.u 6 (.int .i64 0) ?_
 refine Seq.done ?_
 refine At.s K3 K4 ?_
 refine At.rg 1 [0, 1, 2, 3, 4, 5, 6, 7, 8, 9, 10, 11, 12, 13] ?_
 refine Seq.us [(13, .string s2), (14, .pointer q0)] ?_
 obtain ⟨b15, o15, hq, h⟩ := h
 subst hq
 refine Seq.z 15 (.nilCheck (.tmp 14)) 0 (.pointer (some ⟨b15, o15, none⟩)) (Y.nilCheck rfl) ?_
 refine Seq.z 16 (.fieldAddr 71 (.tmp 15) 1) 0 (.pointer (some ⟨b15, (o15 + 1), none⟩)) (Y.fieldAddr (fd := (fieldOf prog 71 1)) underlying71 (by kernel_rfl) sizeOf9 rfl rfl) ?_
 obtain ⟨s17, hl, h⟩ := h
 refine Seq.z 17 (.load 9 (.tmp 16)) 9 (.string s17) (Y.ld isAgg9 rfl hl) ?_
 obtain ⟨hi, h⟩ := h
 refine Seq.z 18 (.binOp .add 9 (.tmp 17) (.const (.string (ByteArray.mk #[47]))) 9) 9 (.string (s17 ++ (ByteArray.mk #[47]))) (Y.addS underlying9 rfl rfl hi) ?_
 refine Seq.u 19 (.string s1) ?_
 obtain ⟨hi, h⟩ := h
 refine Seq.z 20 (.binOp .add 9 (.tmp 18) (.tmp 19) 9) 9 (.string ((s17 ++ (ByteArray.mk #[47])) ++ s1)) (Y.addS underlying9 rfl rfl hi) ?_
 refine Seq.o ?_
 refine OpTo.cl (some 21) call84 (h.cont fun v σ1 h2 => ?_); replace h := h2; clear h2
 obtain ⟨s21a, t21b, rfl, h⟩ := h
 refine Seq.us [(12, .tuple #[(.string s21a), (.bool t21b)]), (22, .string s21a), (23, .bool t21b), (7, .string s21a), (8, .bool t21b)] ?_
 refine Seq.done ?_
 refine At.s K5 K12 ?_
 refine At.s K6 K7 ?_
 refine At.rg 2 [0, 1, 2, 3, 4, 5, 6] ?_
 refine Seq.us [(24, .bool t21b), (25, .bool (!t21b)), (26, .bool (!t21b))] ?_
 cases hb : (!t21b) with
 | true =>
  replace h := h.1 (Tw.nt hb)
  refine Seq.n 27 ?_
  refine Seq.n 28 ?_
  refine Seq.n 29 ?_
  refine Seq.u 30 (.bool true) ?_
  refine Seq.done ?_
  refine At.cT 30 K8 K11 ?_
  refine At.s K9 K10 ?_
  refine At.rg 3 [0] ?_
  refine Seq.u 6 (.int .i64 0) ?_
  refine Seq.done ?_
  exact At.rt [.tmp 6] [(.int .i64 0)] func66 ⟨_, rfl, rfl⟩ h
 | false =>
  replace h := h.2 (Tw.nf hb)
  refine Seq.u 27 (.string s21a) ?_
  refine Seq.zg 28 (.call { callee := .builtin .len, args := #[(.tmp 27)], argTypes := #[9] }) 3 (2, false) (.int .i64 ((ByteArray.size s21a : Nat) : Int)) (Y.lenStr underlying9 rfl rfl) ?_
  refine Seq.us [(29, .bool (decide ((((ByteArray.size s21a : Nat) : Int) : Int) ≠ 8))), (30, .bool (decide ((((ByteArray.size s21a : Nat) : Int) : Int) ≠ 8)))] ?_
  refine Seq.done ?_
  cases hb : (decide ((((ByteArray.size s21a : Nat) : Int) : Int) ≠ 8)) with
  | true =>
   replace h := h.1 (of_decide_eq_true hb)
   refine At.cT 30 K8 K11 ?_
   refine At.s K9 K10 ?_
   refine At.rg 3 [0] ?_
   refine Seq.u 6 (.int .i64 0) ?_
   refine Seq.done ?_
   exact At.rt [.tmp 6] [(.int .i64 0)] func66 ⟨_, rfl, rfl⟩ h
  | false =>
   replace h := h.2 (of_decide_eq_false hb)
   refine At.cF 30 K8 K11 ?_
   refine At.skip ?_
   refine At.s K13 K33 ?_
   refine At.s K14 K15 ?_
   refine At.rg 4 [0] ?_
   refine Seq.u 9 (.int .i64 0) ?_
   refine Seq.done ?_
   refine At.b 0 K16 ?_
   refine At.loop (x := K17) (by kernel_rfl) ?_
   refine At.s K18 K23 ?_
   refine At.s K19 K20 ?_
   exact At.v [(7, (.string s21a)), (9, (.int .i64 0))] (h _)
theorem pt19_of {R : Ending → Hp → Prop} {s7 : ByteArray} {x9 : Int} {σ : Hp} (h : ((x9 : Int) < 8 → ∃ u37 : UInt8, (0 : Int) ≤ x9 ∧ (ByteArray.data s7)[Int.toNat x9]? = some u37 ∧ ((((UInt8.toNat u37 : Nat) : Int) : Int) < 48 → R (.returned (.int .i64 0)) σ) ∧ (¬ ((((UInt8.toNat u37 : Nat) : Int) : Int) < 48) → ∃ u42 : UInt8, (0 : Int) ≤ x9 ∧ (ByteArray.data s7)[Int.toNat x9]? = some u42 ∧ ((57 : Int) < ((UInt8.toNat u42 : Nat) : Int) → R (.returned (.int .i64 0)) σ) ∧ (¬ ((57 : Int) < ((UInt8.toNat u42 : Nat) : Int)) → I64 (x9 + 1) ∧ pt19 R s7 ((x9 + 1)) σ))) ∧ (¬ ((x9 : Int) < 8) → Spec prog 85 #[(.string s7)] σ (Cont R (fun v σ1 => ∃ x47a : Int, ∃ v47b : Value, v = (.tuple #[(.int .i64 x47a), v47b]) ∧ R (.returned (.int .i64 x47a)) σ1)))) : pt19 R s7 x9 σ := by
 intro J
 show At (gl R) _ _ _ _
 refine At.rg 5 [0, 1] ?_
 refine Seq.us [(31, .int .i64 x9), (32, .bool (decide ((x9 : Int) < 8)))] ?_
 refine Seq.done ?_
 cases hb : (decide ((x9 : Int) < 8)) with
 | true =>
  replace h := h.1 (of_decide_eq_true hb)
  refine At.cT 32 K21 K22 ?_
  refine At.skip ?_
  refine At.s K24 K32 ?_
  refine At.b 1 K25 ?_
  refine At.s K26 K27 ?_
  refine At.rg 7 [0, 1, 2, 3, 4, 5, 6, 7, 8, 9] ?_
  refine Seq.us [(35, .string s7), (36, .int .i64 x9)] ?_
  obtain ⟨u37, h0, hv, h⟩ := h
  refine Seq.z 37 (.index 9 (.tmp 35) (.tmp 36)) 5 (.int .u8 ((UInt8.toNat u37 : Nat) : Int)) (Y.idxStr underlying9 rfl rfl h0 hv) ?_
  refine Seq.us [(38, .bool (decide ((((UInt8.toNat u37 : Nat) : Int) : Int) < 48))), (39, .bool (decide ((((UInt8.toNat u37 : Nat) : Int) : Int) < 48)))] ?_
  cases hb : (decide ((((UInt8.toNat u37 : Nat) : Int) : Int) < 48)) with
  | true =>
   replace h := h.1 (of_decide_eq_true hb)
   refine Seq.n 40 ?_
   refine Seq.n 41 ?_
   refine Seq.n 42 ?_
   refine Seq.n 43 ?_
   refine Seq.u 44 (.bool true) ?_
   refine Seq.done ?_
   refine At.cT 44 K28 K31 ?_
   refine At.s K29 K30 ?_
   refine At.rg 8 [0] ?_
   refine Seq.u 6 (.int .i64 0) ?_
   refine Seq.done ?_
   exact At.rt [.tmp 6] [(.int .i64 0)] func66 ⟨_, rfl, rfl⟩ h
  | false =>
   replace h := h.2 (of_decide_eq_false hb)
   refine Seq.us [(40, .string s7), (41, .int .i64 x9)] ?_
   obtain ⟨u42, h0, hv, h⟩ := h
   refine Seq.zg 42 (.index 9 (.tmp 40) (.tmp 41)) 5 (4, false) (.int .u8 ((UInt8.toNat u42 : Nat) : Int)) (Y.idxStr underlying9 rfl rfl h0 hv) ?_
   refine Seq.us [(43, .bool (decide ((57 : Int) < ((UInt8.toNat u42 : Nat) : Int)))), (44, .bool (decide ((57 : Int) < ((UInt8.toNat u42 : Nat) : Int))))] ?_
   refine Seq.done ?_
   cases hb : (decide ((57 : Int) < ((UInt8.toNat u42 : Nat) : Int))) with
   | true =>
    replace h := h.1 (of_decide_eq_true hb)
    refine At.cT 44 K28 K31 ?_
    refine At.s K29 K30 ?_
    refine At.rg 8 [0] ?_
    refine Seq.u 6 (.int .i64 0) ?_
    refine Seq.done ?_
    exact At.rt [.tmp 6] [(.int .i64 0)] func66 ⟨_, rfl, rfl⟩ h
   | false =>
    replace h := h.2 (of_decide_eq_false hb)
    refine At.cF 44 K28 K31 ?_
    refine At.skip ?_
    refine At.inBlock ?_
    refine At.rg 6 [0, 1, 2] ?_
    refine Seq.u 33 (.int .i64 x9) ?_
    obtain ⟨hi, h⟩ := h
    refine Seq.z 34 (.binOp .add 3 (.tmp 33) (.const (.int .i64 1)) 3) 3 (.int .i64 (x9 + 1)) (Y.addI hi rfl rfl) ?_
    refine Seq.u 9 (.int .i64 (x9 + 1)) ?_
    refine Seq.done ?_
    refine At.inLoop ?_
    refine At.s K18 K23 ?_
    refine At.s K19 K20 ?_
    exact At.v [(7, (.string s7)), (9, (.int .i64 (x9 + 1)))] (h _)
 | false =>
  replace h := h.2 (of_decide_eq_false hb)
  refine At.cF 32 K21 K22 ?_
  refine At.x 0 [.code K33] ?_
  refine At.s K34 K35 ?_
  refine At.rg 9 [0, 1, 2, 3, 4, 5, 6] ?_
  refine Seq.u 46 (.string s7) ?_
  refine Seq.o ?_
  refine OpTo.cl (some 47) call85 (h.cont fun v σ1 h2 => ?_); replace h := h2; clear h2
  obtain ⟨x47a, v47b, rfl, h⟩ := h
  refine Seq.us [(45, .tuple #[(.int .i64 x47a), v47b]), (48, .int .i64 x47a), (49, v47b), (10, .int .i64 x47a), (11, v47b)] ?_
  refine Seq.done ?_
  refine At.s K36 K37 ?_
  refine At.rg 10 [0, 1] ?_
  refine Seq.us [(50, .int .i64 x47a), (6, .int .i64 x47a)] ?_
  refine Seq.done ?_
  exact At.rt [.tmp 6] [(.int .i64 x47a)] func66 ⟨_, rfl, rfl⟩ h
end wal_Wal_number
namespace wal_Wal_part
abbrev fid : Nat := 67
noncomputable def K0 := f67.body.getD .skip
def K1 := cl K0
def K2 := cr K0
def K3 := cl K2
def K4 := cr K2
def K5 := cl K4
def K6 := cr K4
def K7 := cl K6
def K8 := cr K6
def K9 := cl K8
def K10 := cl K9
def K11 := cr K9
def K12 := cl K11
def K13 := cl K12
def K14 := cr K12
def K15 := cr K11
def K16 := cr K8
def K17 := cl K16
def K18 := cl K17
def K19 := cr K17
def K20 := cl K19
def K21 := cl K20
def K22 := cl K21
def K23 := cl K22
def K24 := cr K22
def K25 := cl K24
def K26 := cr K24
def K27 := cr K21
def K28 := cl K27
def K29 := cl K28
def K30 := cr K27
def K31 := cr K16
def K32 := cl K31
def K33 := cl K32
def K34 := cr K32
def K35 := cl K34
def K36 := cr K34
def K37 := cr K31
def K38 := cl K37
def K39 := cr K37
abbrev gl (R : Ending → Hp → Prop) : Gl := Gl.fn prog 67 66 R
def pt23 (R : Ending → Hp → Prop) (q0 : Option Addr) (s1 : ByteArray) (p2 : Option Addr) (n2 c2 : Nat) (p10 : Option Addr) (n10 c10 : Nat) (x12 : Int) (σ : Hp) : Prop := ∀ (J : Env), At (gl R) [.code K23, .code K24, .code K27, .inLoop K21, .inBlock 0, .code K31] (upds J [(0, (.pointer q0)), (1, (.string s1)), (2, (.slice p2 n2 c2)), (10, (.slice p10 n10 c10)), (12, (.int .i64 x12))]) [] σ
def pt38 (R : Ending → Hp → Prop) (p10 : Option Addr) (n10 c10 : Nat) (σ : Hp) : Prop := ∀ (J : Env), At (gl R) [.code K38, .code K39] (upds J [(10, (.slice p10 n10 c10))]) [] σ
theorem start {R : Ending → Hp → Prop} {q0 p2 : Option Addr} {s1 : ByteArray} {n2 c2 : Nat} {σ : Hp} (h : ∃ (b15 o15 : Nat), q0 = some ⟨b15, o15, none⟩ ∧ ∃ q17 : Option Addr, Hp.ld σ ⟨b15, o15, none⟩ = some (.pointer q17) ∧ Spec prog 41 #[(.pointer q17), (.string s1)] σ (Cont R (fun v σ1 => ∃ p19a : Option Addr, ∃ n19a : Nat, ∃ c19a : Nat, ∃ x19b : Int, v = (.tuple #[(.slice p19a n19a c19a), (.int .i64 x19b)]) ∧ Spec prog 43 #[(.int .i64 x19b)] σ1 (Cont R (fun v_2 σ1_2 => v_2 = (.tuple #[]) ∧ Spec prog 86 #[(.slice p19a n19a c19a)] σ1_2 (Cont R (fun v_3 σ1_3 => ∃ p26a : Option Addr, ∃ n26a : Nat, ∃ c26a : Nat, ∃ t26b : Bool, v_3 = (.tuple #[(.slice p26a n26a c26a), (.bool t26b)]) ∧ (t26b = false → R (.returned (.tuple #[(.slice p26a n26a c26a), (.bool true)])) σ1_3) ∧ (t26b = true → I64 ((n2 : Int) - 1) ∧ pt23 R ((some ⟨b15, o15, none⟩)) s1 p2 n2 c2 p26a n26a c26a (((n2 : Int) - 1)) σ1_3)))))))) : Spec prog 67 #[(.pointer q0), (.string s1), (.slice p2 n2 c2)] σ R := by
 refine Spec.of_at (fn := f67) (c := K0) func67 (by kernel_rfl) (Nat.le_of_ble_eq_true (by kernel_rfl)) (fun e he => ?_)
 refine At.ofL (l := [(0, (.pointer q0)), (1, (.string s1)), (2, (.slice p2 n2 c2))]) ⟨he 0, he 1, he 2, trivial⟩ (fun J => ?_)
 show At (gl R) _ _ _ _
 refine At.s K1 K2 ?_
 refine At.rg 0 [0, 1] ?_
 refine Seq.us [(6, .slice none 0 0), (7, .bool false)] ?_
 refine Seq.done ?_
 refine At.s K3 K4 ?_
 refine At.rg 1 [0, 1, 2, 3, 4, 5, 6, 7, 8, 9, 10] ?_
 refine Seq.u 14 (.pointer q0) ?_
 obtain ⟨b15, o15, hq, h⟩ := h
 subst hq
 refine Seq.z 15 (.nilCheck (.tmp 14)) 0 (.pointer (some ⟨b15, o15, none⟩)) (Y.nilCheck rfl) ?_
 refine Seq.z 16 (.fieldAddr 71 (.tmp 15) 0) 0 (.pointer (some ⟨b15, o15, none⟩)) (Y.fieldAddr (fd := (fieldOf prog 71 0)) underlying71 (by kernel_rfl) sizeOf24 rfl rfl) ?_
 obtain ⟨q17, hl, h⟩ := h
 refine Seq.z 17 (.load 24 (.tmp 16)) 24 (.pointer q17) (Y.ld isAgg24 rfl hl) ?_
 refine Seq.u 18 (.string s1) ?_
 refine Seq.o ?_
 refine OpTo.cl (some 19) call41 (h.cont fun v σ1 h2 => ?_); replace h := h2; clear h2
 obtain ⟨p19a, n19a, c19a, x19b, rfl, h⟩ := h
 refine Seq.us [(13, .tuple #[(.slice p19a n19a c19a), (.int .i64 x19b)]), (20, .slice p19a n19a c19a), (21, .int .i64 x19b), (8, .slice p19a n19a c19a), (9, .int .i64 x19b)] ?_
 refine Seq.done ?_
 refine At.s K5 K6 ?_
 refine At.rg 2 [0, 1] ?_
 refine Seq.u 22 (.int .i64 x19b) ?_
 refine Seq.o ?_
 refine OpTo.cl (some 23) call43 (h.cont fun v_2 σ1_2 h2 => ?_); replace h := h2; clear h2
 obtain ⟨rfl, h⟩ := h
 refine Seq.done ?_
 refine At.s K7 K8 ?_
 refine At.rg 3 [0, 1, 2, 3, 4, 5, 6] ?_
 refine Seq.u 25 (.slice p19a n19a c19a) ?_
 refine Seq.o ?_
 refine OpTo.cl (some 26) call86 (h.cont fun v_3 σ1_3 h2 => ?_); replace h := h2; clear h2
 obtain ⟨p26a, n26a, c26a, t26b, rfl, h⟩ := h
 refine Seq.us [(24, .tuple #[(.slice p26a n26a c26a), (.bool t26b)]), (27, .slice p26a n26a c26a), (28, .bool t26b), (10, .slice p26a n26a c26a), (11, .bool t26b)] ?_
 refine Seq.done ?_
 refine At.s K9 K16 ?_
 refine At.s K10 K11 ?_
 refine At.rg 4 [0, 1] ?_
 refine Seq.us [(29, .bool t26b), (30, .bool (!t26b))] ?_
 refine Seq.done ?_
 cases hb : (!t26b) with
 | true =>
  replace h := h.1 (Tw.nt hb)
  refine At.cT 30 K12 K15 ?_
  refine At.s K13 K14 ?_
  refine At.rg 5 [0, 1, 2] ?_
  refine Seq.us [(31, .slice p26a n26a c26a), (6, .slice p26a n26a c26a), (7, .bool true)] ?_
  refine Seq.done ?_
  exact At.rt [.tmp 6, .tmp 7] [(.slice p26a n26a c26a), (.bool true)] func67 ⟨_, rfl, ⟨_, rfl, rfl⟩⟩ h
 | false =>
  replace h := h.2 (Tw.nf hb)
  refine At.cF 30 K12 K15 ?_
  refine At.skip ?_
  refine At.s K17 K31 ?_
  refine At.s K18 K19 ?_
  refine At.rg 6 [0, 1, 2, 3] ?_
  refine Seq.u 32 (.slice p2 n2 c2) ?_
  refine Seq.z 33 (.call { callee := .builtin .len, args := #[(.tmp 32)], argTypes := #[64] }) 3 (.int .i64 (n2 : Int)) (Y.lenS underlying64 rfl rfl) ?_
  obtain ⟨hi, h⟩ := h
  refine Seq.z 34 (.binOp .sub 3 (.tmp 33) (.const (.int .i64 1)) 3) 3 (.int .i64 ((n2 : Int) - 1)) (Y.subI hi rfl rfl) ?_
  refine Seq.u 12 (.int .i64 ((n2 : Int) - 1)) ?_
  refine Seq.done ?_
  refine At.b 0 K20 ?_
  refine At.loop (x := K21) (by kernel_rfl) ?_
  refine At.s K22 K27 ?_
  refine At.s K23 K24 ?_
  exact At.v [(0, (.pointer (some ⟨b15, o15, none⟩))), (1, (.string s1)), (2, (.slice p2 n2 c2)), (10, (.slice p26a n26a c26a)), (12, (.int .i64 ((n2 : Int) - 1)))] (h _)
theorem pt23_of {R : Ending → Hp → Prop} {q0 p2 p10 : Option Addr} {s1 : ByteArray} {n2 c2 n10 c10 : Nat} {x12 : Int} {σ : Hp} (h : ((0 : Int) ≤ x12 → ∃ (b40 o40 : Nat), q0 = some ⟨b40, o40, none⟩ ∧ ∃ q42 : Option Addr, Hp.ld σ ⟨b40, o40, none⟩ = some (.pointer q42) ∧ ∃ (b46 o46 : Nat), p2 = some ⟨b46, o46, none⟩ ∧ ((0 : Int) ≤ x12 ∧ x12 < (n2 : Int)) ∧ ∃ x47 : Int, Hp.ld σ ⟨b46, (o46 + Int.toNat x12 * 1), none⟩ = some (.int .i64 x47) ∧ Spec prog 42 #[(.pointer (some ⟨b40, o40, none⟩)), (.string (ByteArray.mk #[115])), (.int .i64 x47)] σ (Cont R (fun v σ1 => ∃ s48 : ByteArray, v = (.string s48) ∧ Kp [b40] σ σ1 ∧ Spec prog 56 #[(.pointer q42), (.string s48)] σ1 (Cont R (fun v_2 σ1_2 => ∃ x49 : Int, v_2 = (.int .i64 x49) ∧ Spec prog 43 #[(.int .i64 x49)] σ1_2 (Cont R (fun v_3 σ1_3 => v_3 = (.tuple #[]) ∧ I64 (x12 - 1) ∧ pt23 R ((some ⟨b40, o40, none⟩)) s1 ((some ⟨b46, o46, none⟩)) n2 c2 p10 n10 c10 ((x12 - 1)) σ1_3))))))) ∧ (¬ ((0 : Int) ≤ x12) → ((0 : Int) < (n10 : Int) → Spec prog 55 #[(.pointer q0), (.string s1), (.slice p10 n10 c10)] σ (Cont R (fun v σ1 => v = (.tuple #[]) ∧ pt38 R p10 n10 c10 σ1))) ∧ (¬ ((0 : Int) < (n10 : Int)) → ∃ (b59 o59 : Nat), q0 = some ⟨b59, o59, none⟩ ∧ ∃ q61 : Option Addr, Hp.ld σ ⟨b59, o59, none⟩ = some (.pointer q61) ∧ Spec prog 56 #[(.pointer q61), (.string s1)] σ (Cont R (fun v σ1 => ∃ x63 : Int, v = (.int .i64 x63) ∧ Spec prog 43 #[(.int .i64 x63)] σ1 (Cont R (fun v_2 σ1_2 => v_2 = (.tuple #[]) ∧ pt38 R p10 n10 c10 σ1_2))))))) : pt23 R q0 s1 p2 n2 c2 p10 n10 c10 x12 σ := by
 intro J
 show At (gl R) _ _ _ _
 refine At.rg 7 [0, 1] ?_
 refine Seq.us [(35, .int .i64 x12), (36, .bool (decide ((0 : Int) ≤ x12)))] ?_
 refine Seq.done ?_
 cases hb : (decide ((0 : Int) ≤ x12)) with
 | true =>
  replace h := h.1 (of_decide_eq_true hb)
  refine At.cT 36 K25 K26 ?_
  refine At.skip ?_
  refine At.s K28 K30 ?_
  refine At.b 1 K29 ?_
  refine At.draw (id := 9) (ops := cO K29) (n := 10) (q := (some [])) (plan := [(0, true), (1, true), (2, true), (3, true), (4, true), (5, true), (6, true), (7, true), (8, true), (9, false)]) (tl := [10, 11]) mixed (by kernel_rfl) (by kernel_rfl) ?_
  refine Head.u 39 (.pointer q0) ?_
  obtain ⟨b40, o40, hq, h⟩ := h
  subst hq
  refine Head.z 40 (.nilCheck (.tmp 39)) 0 (.pointer (some ⟨b40, o40, none⟩)) (Y.nilCheck rfl) ?_
  refine Head.z 41 (.fieldAddr 71 (.tmp 40) 0) 0 (.pointer (some ⟨b40, o40, none⟩)) (Y.fieldAddr (fd := (fieldOf prog 71 0)) underlying71 (by kernel_rfl) sizeOf24 rfl rfl) ?_
  obtain ⟨q42, hl, h⟩ := h
  refine Head.yl b40 [] rfl (by kernel_rfl) (d := (some 42)) (op := (.load 24 (.tmp 41))) (ty := 24) (v := (.pointer q42)) (by kernel_rfl) rfl (Y.ld isAgg24 rfl (lim_ld hl)) ?_
  refine Head.u 43 (.pointer (some ⟨b40, o40, none⟩)) ?_
  refine Head.u 44 (.slice p2 n2 c2) ?_
  refine Head.u 45 (.int .i64 x12) ?_
  obtain ⟨b46, o46, hq, h⟩ := h
  subst hq
  obtain ⟨hi, h⟩ := h
  refine Head.z 46 (.indexAddr 64 (.tmp 44) (.tmp 45)) 0 (.pointer (some ⟨b46, (o46 + Int.toNat x12 * 1), none⟩)) (Y.idx underlying64 sizeOf3 rfl rfl hi rfl) ?_
  obtain ⟨x47, hl, h⟩ := h
  refine Head.yl b46 [[9]] rfl (by kernel_rfl) (d := (some 47)) (op := (.load 3 (.tmp 46))) (ty := 3) (v := (.int .i64 x47)) (by kernel_rfl) rfl (Y.ld isAgg3 rfl (lim_ld hl)) ?_
  refine Head.o (q' := (some [(b40, [])])) rfl ?_
  refine OpTo.cl (some 48) call42 (h.cont fun v σ1 h2 => ?_); replace h := h2; clear h2
  obtain ⟨s48, rfl, hk, h⟩ := h
  refine ⟨⟨fun _ h => h, kp_q (L := [(b40, [])]) hk⟩, ?_⟩
  refine Head.done ?_
  refine Seq.o ?_
  refine OpTo.cl (some 49) call56 (h.cont fun v_2 σ1_2 h2 => ?_); replace h := h2; clear h2
  obtain ⟨x49, rfl, h⟩ := h
  refine Seq.o ?_
  refine OpTo.cl (some 50) call43 (h.cont fun v_3 σ1_3 h2 => ?_); replace h := h2; clear h2
  obtain ⟨rfl, h⟩ := h
  refine Seq.done ?_
  refine At.inBlock ?_
  refine At.rg 8 [0, 1, 2] ?_
  refine Seq.u 37 (.int .i64 x12) ?_
  obtain ⟨hi, h⟩ := h
  refine Seq.z 38 (.binOp .sub 3 (.tmp 37) (.const (.int .i64 1)) 3) 3 (.int .i64 (x12 - 1)) (Y.subI hi rfl rfl) ?_
  refine Seq.u 12 (.int .i64 (x12 - 1)) ?_
  refine Seq.done ?_
  refine At.inLoop ?_
  refine At.s K22 K27 ?_
  refine At.s K23 K24 ?_
  exact At.v [(0, (.pointer (some ⟨b40, o40, none⟩))), (1, (.string s1)), (2, (.slice (some ⟨b46, o46, none⟩) n2 c2)), (10, (.slice p10 n10 c10)), (12, (.int .i64 (x12 - 1)))] (h _)
 | false =>
  replace h := h.2 (of_decide_eq_false hb)
  refine At.cF 36 K25 K26 ?_
  refine At.x 0 [.code K31] ?_
  refine At.s K32 K37 ?_
  refine At.s K33 K34 ?_
  refine At.rg 10 [0, 1, 2] ?_
  refine Seq.u 51 (.slice p10 n10 c10) ?_
  refine Seq.z 52 (.call { callee := .builtin .len, args := #[(.tmp 51)], argTypes := #[22] }) 3 (.int .i64 (n10 : Int)) (Y.lenS underlying22 rfl rfl) ?_
  refine Seq.u 53 (.bool (decide ((0 : Int) < (n10 : Int)))) ?_
  refine Seq.done ?_
  cases hb : (decide ((0 : Int) < (n10 : Int))) with
  | true =>
   replace h := h.1 (of_decide_eq_true hb)
   refine At.cT 53 K35 K36 ?_
   refine At.rg 11 [0, 1, 2, 3] ?_
   refine Seq.us [(54, .pointer q0), (55, .string s1), (56, .slice p10 n10 c10)] ?_
   refine Seq.o ?_
   refine OpTo.cl (some 57) call55 (h.cont fun v σ1 h2 => ?_); replace h := h2; clear h2
   obtain ⟨rfl, h⟩ := h
   refine Seq.done ?_
   refine At.s K38 K39 ?_
   exact At.v [(10, (.slice p10 n10 c10))] (h _)
  | false =>
   replace h := h.2 (of_decide_eq_false hb)
   refine At.cF 53 K35 K36 ?_
   refine At.rg 12 [0, 1, 2, 3, 4, 5, 6] ?_
   refine Seq.u 58 (.pointer q0) ?_
   obtain ⟨b59, o59, hq, h⟩ := h
   subst hq
   refine Seq.z 59 (.nilCheck (.tmp 58)) 0 (.pointer (some ⟨b59, o59, none⟩)) (Y.nilCheck rfl) ?_
   refine Seq.z 60 (.fieldAddr 71 (.tmp 59) 0) 0 (.pointer (some ⟨b59, o59, none⟩)) (Y.fieldAddr (fd := (fieldOf prog 71 0)) underlying71 (by kernel_rfl) sizeOf24 rfl rfl) ?_
   obtain ⟨q61, hl, h⟩ := h
   refine Seq.z 61 (.load 24 (.tmp 60)) 24 (.pointer q61) (Y.ld isAgg24 rfl hl) ?_
   refine Seq.u 62 (.string s1) ?_
   refine Seq.o ?_
   refine OpTo.cl (some 63) call56 (h.cont fun v σ1 h2 => ?_); replace h := h2; clear h2
   obtain ⟨x63, rfl, h⟩ := h
   refine Seq.o ?_
   refine OpTo.cl (some 64) call43 (h.cont fun v_2 σ1_2 h2 => ?_); replace h := h2; clear h2
   obtain ⟨rfl, h⟩ := h
   refine Seq.done ?_
   refine At.s K38 K39 ?_
   exact At.v [(10, (.slice p10 n10 c10))] (h _)
theorem pt38_of {R : Ending → Hp → Prop} {p10 : Option Addr} {n10 c10 : Nat} {σ : Hp} (h : R (.returned (.tuple #[(.slice p10 n10 c10), (.bool false)])) σ) : pt38 R p10 n10 c10 σ := by
 intro J
 show At (gl R) _ _ _ _
 refine At.rg 13 [0, 1, 2] ?_
 refine Seq.us [(65, .slice p10 n10 c10), (6, .slice p10 n10 c10), (7, .bool false)] ?_
 refine Seq.done ?_
 exact At.rt [.tmp 6, .tmp 7] [(.slice p10 n10 c10), (.bool false)] func67 ⟨_, rfl, ⟨_, rfl, rfl⟩⟩ h
end wal_Wal_part
namespace wal_join
abbrev fid : Nat := 77
noncomputable def K0 := f77.body.getD .skip
def K1 := cl K0
def K2 := cr K0
def K3 := cl K2
def K4 := cr K2
def K5 := cl K4
def K6 := cl K5
def K7 := cr K5
def K8 := cl K7
def K9 := cl K8
def K10 := cl K9
def K11 := cr K9
def K12 := cl K11
def K13 := cl K12
def K14 := cr K12
def K15 := cr K11
def K16 := cl K15
def K17 := cl K16
def K18 := cl K17
def K19 := cr K17
def K20 := cl K19
def K21 := cr K19
def K22 := cr K15
def K23 := cr K4
def K24 := cl K23
def K25 := cr K23
abbrev gl (R : Ending → Hp → Prop) : Gl := Gl.fn prog 77 24 R
def pt10 (R : Ending → Hp → Prop) (p3 : Option Addr) (n3 c3 : Nat) (p8 : Option Addr) (n8 c8 : Nat) (x9 x10 : Int) (σ : Hp) : Prop := ∀ (J : Env), At (gl R) [.code K10, .code K11, .inLoop K9, .inBlock 0, .code K23] (upds J [(3, (.slice p3 n3 c3)), (8, (.slice p8 n8 c8)), (9, (.int .i64 x9)), (10, (.int .i64 x10))]) [] σ
theorem start {R : Ending → Hp → Prop} {p0 : Option Addr} {n0 c0 : Nat} {σ : Hp} (h : pt10 R none 0 0 p0 n0 c0 ((n0 : Int)) 0 σ) : Spec prog 77 #[(.slice p0 n0 c0)] σ R := by
 refine Spec.of_at (fn := f77) (c := K0) func77 (by kernel_rfl) (Nat.le_of_ble_eq_true (by kernel_rfl)) (fun e he => ?_)
 refine At.ofL (l := [(0, (.slice p0 n0 c0))]) ⟨he 0, trivial⟩ (fun J => ?_)
 show At (gl R) _ _ _ _
 refine At.s K1 K2 ?_
 refine At.rg 0 [0] ?_
 refine Seq.u 2 (.slice none 0 0) ?_
 refine Seq.done ?_
 refine At.s K3 K4 ?_
 refine At.rg 1 [0] ?_
 refine Seq.u 3 (.slice none 0 0) ?_
 refine Seq.done ?_
 refine At.s K5 K23 ?_
 refine At.s K6 K7 ?_
 refine At.rg 2 [0, 1, 2] ?_
 refine Seq.u 8 (.slice p0 n0 c0) ?_
 refine Seq.z 9 (.call { callee := .builtin .len, args := #[(.tmp 8)], argTypes := #[22] }) 3 (.int .i64 (n0 : Int)) (Y.lenS underlying22 rfl rfl) ?_
 refine Seq.u 10 (.int .i64 0) ?_
 refine Seq.done ?_
 refine At.b 0 K8 ?_
 refine At.loop (x := K9) (by kernel_rfl) ?_
 refine At.s K10 K11 ?_
 exact At.v [(3, (.slice none 0 0)), (8, (.slice p0 n0 c0)), (9, (.int .i64 (n0 : Int))), (10, (.int .i64 0))] (h _)
theorem pt10_of {R : Ending → Hp → Prop} {p3 p8 : Option Addr} {n3 c3 n8 c8 : Nat} {x9 x10 : Int} {σ : Hp} (h : ((x10 : Int) < x9 → ∃ (b12 o12 : Nat), p8 = some ⟨b12, o12, none⟩ ∧ ((0 : Int) ≤ x10 ∧ x10 < (n8 : Int)) ∧ ∃ p13 : Option Addr, ∃ n13 : Nat, ∃ c13 : Nat, Hp.ld σ ⟨b12, (o12 + Int.toNat x10 * 1), none⟩ = some (.slice p13 n13 c13) ∧ Spec prog 17 #[(.slice p13 n13 c13)] σ (Cont R (fun v σ1 => ∃ p16a : Option Addr, ∃ n16a : Nat, ∃ c16a : Nat, ∃ x16b : Int, v = (.tuple #[(.slice p16a n16a c16a), (.int .i64 x16b)]) ∧ Eff prog (Builtin.append_ #[23, 23] 23 #[(.slice p3 n3 c3), (.slice p16a n16a c16a)]) σ1 (fun v_2 σ1_2 => ∃ p21 : Option Addr, ∃ n21 : Nat, ∃ c21 : Nat, v_2 = (.slice p21 n21 c21) ∧ I64 (x10 + 1) ∧ pt10 R p21 n21 c21 ((some ⟨b12, o12, none⟩)) n8 c8 x9 ((x10 + 1)) σ1_2)))) ∧ (¬ ((x10 : Int) < x9) → R (.returned (.slice p3 n3 c3)) σ)) : pt10 R p3 n3 c3 p8 n8 c8 x9 x10 σ := by
 intro J
 show At (gl R) _ _ _ _
 refine At.rg 3 [0] ?_
 refine Seq.u 11 (.bool (decide ((x10 : Int) < x9))) ?_
 refine Seq.done ?_
 refine At.s K12 K15 ?_
 cases hb : (decide ((x10 : Int) < x9)) with
 | true =>
  replace h := h.1 (of_decide_eq_true hb)
  refine At.cT 11 K13 K14 ?_
  refine At.skip ?_
  refine At.s K16 K22 ?_
  refine At.b 1 K17 ?_
  refine At.s K18 K19 ?_
  refine At.rg 4 [0, 1, 2] ?_
  obtain ⟨b12, o12, hq, h⟩ := h
  subst hq
  obtain ⟨hi, h⟩ := h
  refine Seq.z 12 (.indexAddr 22 (.tmp 8) (.tmp 10)) 0 (.pointer (some ⟨b12, (o12 + Int.toNat x10 * 1), none⟩)) (Y.idx underlying22 sizeOf23 rfl rfl hi rfl) ?_
  obtain ⟨p13, n13, c13, hl, h⟩ := h
  refine Seq.z 13 (.load 23 (.tmp 12)) 23 (.slice p13 n13 c13) (Y.ld isAgg23 rfl hl) ?_
  refine Seq.u 5 (.slice p13 n13 c13) ?_
  refine Seq.done ?_
  refine At.s K20 K21 ?_
  refine At.rg 5 [0, 1, 2, 3, 4, 5, 6] ?_
  refine Seq.u 15 (.slice p13 n13 c13) ?_
  refine Seq.o ?_
  refine OpTo.cl (some 16) call17 (h.cont fun v σ1 h2 => ?_); replace h := h2; clear h2
  obtain ⟨p16a, n16a, c16a, x16b, rfl, h⟩ := h
  refine Seq.us [(14, .tuple #[(.slice p16a n16a c16a), (.int .i64 x16b)]), (17, .slice p16a n16a c16a), (18, .int .i64 x16b), (6, .slice p16a n16a c16a), (7, .int .i64 x16b)] ?_
  refine Seq.done ?_
  refine At.rg 6 [0, 1, 2, 3] ?_
  refine Seq.us [(19, .slice p3 n3 c3), (20, .slice p16a n16a c16a)] ?_
  refine Seq.o ?_
  refine OpTo.eff (d := (some 21)) (op := (.call { callee := .builtin .append, args := #[(.tmp 19), (.tmp 20)], argTypes := #[23, 23] })) (ty := 23) (gd := none) (by kernel_rfl) rfl rfl (Builtin.append_ #[23, 23] 23 #[(.slice p3 n3 c3), (.slice p16a n16a c16a)]) (fun o ho ht => exec_b_append rfl rfl o ho ht) (h.mono (fun v_2 σ1_2 h2 => ?_)); replace h := h2; clear h2
  obtain ⟨p21, n21, c21, rfl, h⟩ := h
  refine Seq.u 3 (.slice p21 n21 c21) ?_
  refine Seq.done ?_
  refine At.inBlock ?_
  refine At.rg 7 [0, 1] ?_
  obtain ⟨hi, h⟩ := h
  refine Seq.z 22 (.binOp .add 3 (.tmp 10) (.const (.int .i64 1)) 3) 3 (.int .i64 (x10 + 1)) (Y.addI hi rfl rfl) ?_
  refine Seq.u 10 (.int .i64 (x10 + 1)) ?_
  refine Seq.done ?_
  refine At.inLoop ?_
  refine At.s K10 K11 ?_
  exact At.v [(3, (.slice p21 n21 c21)), (8, (.slice (some ⟨b12, o12, none⟩) n8 c8)), (9, (.int .i64 x9)), (10, (.int .i64 (x10 + 1)))] (h _)
 | false =>
  replace h := h.2 (of_decide_eq_false hb)
  refine At.cF 11 K13 K14 ?_
  refine At.x 0 [.code K23] ?_
  refine At.s K24 K25 ?_
  refine At.rg 8 [0, 1] ?_
  refine Seq.us [(23, .slice p3 n3 c3), (2, .slice p3 n3 c3)] ?_
  refine Seq.done ?_
  exact At.rt [.tmp 2] [(.slice p3 n3 c3)] func77 ⟨_, rfl, rfl⟩ h
end wal_join

end
end TwW
end
section
/- written by gen.py: program points and what leads to them -/
set_option linter.unusedVariables false
set_option maxRecDepth 100000
namespace TwW
open Go Tw Go.Proofs.Tryz
noncomputable section
namespace wal_frames
abbrev fid : Nat := 86
noncomputable def K0 := f86.body.getD .skip
def K1 := cl K0
def K2 := cr K0
def K3 := cl K2
def K4 := cl K3
def K5 := cr K3
def K6 := cl K5
def K7 := cr K5
def K8 := cl K7
def K9 := cr K7
def K10 := cl K9
def K11 := cl K10
def K12 := cr K10
def K13 := cl K12
def K14 := cl K13
def K15 := cr K13
def K16 := cr K12
def K17 := cr K9
def K18 := cl K17
def K19 := cr K17
def K20 := cl K19
def K21 := cl K20
def K22 := cr K20
def K23 := cl K22
def K24 := cl K23
def K25 := cr K23
def K26 := cr K22
def K27 := cr K19
def K28 := cl K27
def K29 := cr K27
def K30 := cl K29
def K31 := cr K29
abbrev gl (R : Ending → Hp → Prop) : Gl := Gl.fn prog 86 29 R
def pt11 (R : Ending → Hp → Prop) (p0 : Option Addr) (n0 c0 : Nat) (p4 : Option Addr) (n4 c4 : Nat) (x5 : Int) (σ : Hp) : Prop := ∀ (J : Env), At (gl R) [.code K11, .code K12, .code K17, .inScope K3] (upds J [(0, (.slice p0 n0 c0)), (4, (.slice p4 n4 c4)), (5, (.int .i64 x5))]) [] σ
theorem start {R : Ending → Hp → Prop} {p0 : Option Addr} {n0 c0 : Nat} {σ : Hp} (h : pt11 R p0 n0 c0 none 0 0 0 σ) : Spec prog 86 #[(.slice p0 n0 c0)] σ R := by
 refine Spec.of_at (fn := f86) (c := K0) func86 (by kernel_rfl) (Nat.le_of_ble_eq_true (by kernel_rfl)) (fun e he => ?_)
 refine At.ofL (l := [(0, (.slice p0 n0 c0))]) ⟨he 0, trivial⟩ (fun J => ?_)
 show At (gl R) _ _ _ _
 refine At.s K1 K2 ?_
 refine At.rg 0 [0, 1] ?_
 refine Seq.us [(2, .slice none 0 0), (3, .bool false)] ?_
 refine Seq.done ?_
 refine At.scope (x := K3) (by kernel_rfl) ?_
 refine At.s K4 K5 ?_
 refine At.rg 1 [0] ?_
 refine Seq.u 4 (.slice none 0 0) ?_
 refine Seq.done ?_
 refine At.s K6 K7 ?_
 refine At.rg 2 [0] ?_
 refine Seq.u 5 (.int .i64 0) ?_
 refine Seq.done ?_
 refine At.s K8 K9 ?_
 refine At.label (l := 0) ?_
 refine At.s K10 K17 ?_
 refine At.s K11 K12 ?_
 exact At.v [(0, (.slice p0 n0 c0)), (4, (.slice none 0 0)), (5, (.int .i64 0))] (h _)
theorem pt11_of {R : Ending → Hp → Prop} {p0 p4 : Option Addr} {n0 c0 n4 c4 : Nat} {x5 : Int} {σ : Hp} (h : ((x5 : Int) = (n0 : Int) → R (.returned (.tuple #[(.slice p4 n4 c4), (.bool false)])) σ) ∧ (¬ ((x5 : Int) = (n0 : Int)) → Spec prog 105 #[(.slice p0 n0 c0), (.int .i64 x5)] σ (Cont R (fun v σ1 => ∃ p17a : Option Addr, ∃ n17a : Nat, ∃ c17a : Nat, ∃ x17b : Int, ∃ x17c : Int, v = (.tuple #[(.slice p17a n17a c17a), (.int .i64 x17b), (.int .i64 x17c)]) ∧ ((x17c : Int) ≠ 0 → R (.returned (.tuple #[(.slice p4 n4 c4), (.bool true)])) σ1) ∧ (¬ ((x17c : Int) ≠ 0) → ∀ b26 : Nat, σ1 b26 = none → Eff prog (Builtin.append_ #[22, 22] 22 #[(.slice p4 n4 c4), (.slice (some ⟨b26, 0, none⟩) 1 1)]) (Hp.set σ1 b26 (.cells #[(.slice p17a n17a c17a)] 23 (0, 0))) (fun v_2 σ1_2 => ∃ p27 : Option Addr, ∃ n27 : Nat, ∃ c27 : Nat, v_2 = (.slice p27 n27 c27) ∧ pt11 R p0 n0 c0 p27 n27 c27 x17b σ1_2)))))) : pt11 R p0 n0 c0 p4 n4 c4 x5 σ := by
 intro J
 show At (gl R) _ _ _ _
 refine At.rg 3 [0, 1, 2, 3] ?_
 refine Seq.us [(9, .int .i64 x5), (10, .slice p0 n0 c0)] ?_
 refine Seq.z 11 (.call { callee := .builtin .len, args := #[(.tmp 10)], argTypes := #[23] }) 3 (.int .i64 (n0 : Int)) (Y.lenS underlying23 rfl rfl) ?_
 refine Seq.u 12 (.bool (decide ((x5 : Int) = (n0 : Int)))) ?_
 refine Seq.done ?_
 cases hb : (decide ((x5 : Int) = (n0 : Int))) with
 | true =>
  replace h := h.1 (of_decide_eq_true hb)
  refine At.cT 12 K13 K16 ?_
  refine At.s K14 K15 ?_
  refine At.rg 4 [0, 1, 2] ?_
  refine Seq.us [(13, .slice p4 n4 c4), (2, .slice p4 n4 c4), (3, .bool false)] ?_
  refine Seq.done ?_
  exact At.rt [.tmp 2, .tmp 3] [(.slice p4 n4 c4), (.bool false)] func86 ⟨_, rfl, ⟨_, rfl, rfl⟩⟩ h
 | false =>
  replace h := h.2 (of_decide_eq_false hb)
  refine At.cF 12 K13 K16 ?_
  refine At.skip ?_
  refine At.s K18 K19 ?_
  refine At.rg 5 [0, 1, 2, 3, 4, 5, 6, 7, 8, 9] ?_
  refine Seq.us [(15, .slice p0 n0 c0), (16, .int .i64 x5)] ?_
  refine Seq.o ?_
  refine OpTo.cl (some 17) call105 (h.cont fun v σ1 h2 => ?_); replace h := h2; clear h2
  obtain ⟨p17a, n17a, c17a, x17b, x17c, rfl, h⟩ := h
  refine Seq.us [(14, .tuple #[(.slice p17a n17a c17a), (.int .i64 x17b), (.int .i64 x17c)]), (18, .slice p17a n17a c17a), (19, .int .i64 x17b), (20, .int .i64 x17c), (6, .slice p17a n17a c17a), (7, .int .i64 x17b), (8, .int .i64 x17c)] ?_
  refine Seq.done ?_
  refine At.s K20 K27 ?_
  refine At.s K21 K22 ?_
  refine At.rg 6 [0, 1] ?_
  refine Seq.us [(21, .int .i64 x17c), (22, .bool (decide ((x17c : Int) ≠ 0)))] ?_
  refine Seq.done ?_
  cases hb : (decide ((x17c : Int) ≠ 0)) with
  | true =>
   replace h := h.1 (of_decide_eq_true hb)
   refine At.cT 22 K23 K26 ?_
   refine At.s K24 K25 ?_
   refine At.rg 7 [0, 1, 2] ?_
   refine Seq.us [(23, .slice p4 n4 c4), (2, .slice p4 n4 c4), (3, .bool true)] ?_
   refine Seq.done ?_
   exact At.rt [.tmp 2, .tmp 3] [(.slice p4 n4 c4), (.bool true)] func86 ⟨_, rfl, ⟨_, rfl, rfl⟩⟩ h
  | false =>
   replace h := h.2 (of_decide_eq_false hb)
   refine At.cF 22 K23 K26 ?_
   refine At.skip ?_
   refine At.s K28 K29 ?_
   refine At.rg 8 [0, 1, 2, 3, 4] ?_
   refine Seq.us [(24, .slice p4 n4 c4), (25, .slice p17a n17a c17a)] ?_
   refine Seq.o ?_
   refine OpTo.bslice (T := 22) (E := 23) (m := 1) (ps := #[(0, (.tmp 25))]) (d := (some 26)) (ty := 22) (gd := none) (vs := [(0, (.slice p17a n17a c17a))]) (cs := #[(.slice p17a n17a c17a)]) underlying22 (by kernel_rfl) rfl rfl rfl (by kernel_rfl) (fun b26 hn => ?_)
   replace h := h b26 hn
   refine Seq.o ?_
   refine OpTo.eff (d := (some 27)) (op := (.call { callee := .builtin .append, args := #[(.tmp 24), (.tmp 26)], argTypes := #[22, 22] })) (ty := 22) (gd := none) (by kernel_rfl) rfl rfl (Builtin.append_ #[22, 22] 22 #[(.slice p4 n4 c4), (.slice (some ⟨b26, 0, none⟩) 1 1)]) (fun o ho ht => exec_b_append rfl rfl o ho ht) (h.mono (fun v_2 σ1_2 h2 => ?_)); replace h := h2; clear h2
   obtain ⟨p27, n27, c27, rfl, h⟩ := h
   refine Seq.u 4 (.slice p27 n27 c27) ?_
   refine Seq.done ?_
   refine At.s K30 K31 ?_
   refine At.rg 9 [0, 1] ?_
   refine Seq.us [(28, .int .i64 x17b), (5, .int .i64 x17b)] ?_
   refine Seq.done ?_
   refine At.goto (i := 0) (k' := [.code (.seq .skip K9), .inScope K3]) (by kernel_rfl) (by kernel_rfl) ?_
   refine At.s .skip K9 ?_
   refine At.skip ?_
   refine At.s K10 K17 ?_
   refine At.s K11 K12 ?_
   exact At.v [(0, (.slice p0 n0 c0)), (4, (.slice p27 n27 c27)), (5, (.int .i64 x17b))] (h _)
end wal_frames

end
end TwW
end
section
set_option linter.unusedVariables false
namespace TwW
open Go Tw Go.Proofs.Tryz
theorem RdI.sub {k : IntKind} {σ : Hp} {p : Option Addr} {n c i m : Nat} {xs : List Int} (h : RdI k σ p n xs) (him : i + m ≤ n) (hc : n ≤ c) : RdI k σ (slP p i c 1) m ((xs.drop i).take m) := by
  have hl : xs.length = n := h.1
  obtain ⟨_, cs, ⟨h2, h3, h4⟩, h5⟩ := h
  rw [Ch_int.1 h5] at h4
  refine RdI.of_rdc ⟨by simp; omega, by omega, ?_⟩
  rcases Nat.eq_zero_or_pos m with hm | hm
  · exact .inl hm
  · rcases h4 with h4 | ⟨b, o, rfl, h4⟩
    · omega
    · refine .inr ⟨b, o + i, ?_, ?_⟩
      · unfold slP
        rw [if_neg (by omega)]
        simp [add_off]
      · rw [List.map_take, List.map_drop]
        exact h4.part
theorem bits_or_u32_nat (a b : Nat) (ha : a < 4294967296) (hb : b < 4294967296) : Go.bits .or .u32 (a : Int) (b : Int) = ((a ||| b : Nat) : Int) := by
  have hx : a ||| b < 2 ^ 32 := Nat.or_lt_two_pow (by omega) (by omega)
  have h1 : (BitVec.ofInt 32 (a : Int)).toNat = a := by
    rw [BitVec.ofInt_natCast, BitVec.toNat_ofNat]; exact Nat.mod_eq_of_lt (by omega)
  have h2 : (BitVec.ofInt 32 (b : Int)).toNat = b := by
    rw [BitVec.ofInt_natCast, BitVec.toNat_ofNat]; exact Nat.mod_eq_of_lt (by omega)
  show IntKind.u32.wrap ((BitVec.ofInt 32 (a : Int) ||| BitVec.ofInt 32 (b : Int)).toNat : Int) = _
  rw [BitVec.toNat_or, h1, h2]
  generalize a ||| b = y at hx
  simp [IntKind.wrap, IntKind.bits, IntKind.signed]; omega
theorem or_byte {a c : Nat} (ha : a < 16777216) (hc : c < 256) : Go.bits .or .u32 (IntKind.u32.wrap ((a : Int) * 2 ^ Int.toNat 8)) (IntKind.u32.wrap (c : Int)) = ((a * 256 + c : Nat) : Int) := by
  have e1 : IntKind.u32.wrap ((a : Int) * 2 ^ Int.toNat 8) = ((a * 256 : Nat) : Int) := by
    simp [IntKind.wrap, IntKind.bits, IntKind.signed]; omega
  have e2 : IntKind.u32.wrap (c : Int) = (c : Int) := by simp [IntKind.wrap, IntKind.bits, IntKind.signed]; omega
  rw [e1, e2, bits_or_u32_nat _ _ (by omega) (by omega), show a * 256 = 2 ^ 8 * a by omega, ← Nat.two_pow_add_eq_or_of_lt (show c < 2 ^ 8 from hc)]
def ebv (l : List Int) : Int := l.foldl (fun a c => a * 256 + c) 0
theorem ebv_be4 {x : Int} (h : 0 ≤ x ∧ x < 4294967296) : ebv (be4 x) = x := by simp [ebv, be4]; omega
theorem be4_ebv {l : List Int} (h : l.length = 4) (h8 : By8 l) : be4 (ebv l) = l := by
  match l, h with
  | [a, b, c, d], _ =>
    have ha := h8 a (by simp)
    have hb := h8 b (by simp)
    have hc := h8 c (by simp)
    have hd := h8 d (by simp)
    simp [ebv, be4]; omega
theorem UvAt.uniq {bs : List Int} {i v w : Nat} (h : UvAt bs i v) (g : UvAt bs i w) : v = w := by
  obtain ⟨_, r, hr⟩ := h
  obtain ⟨_, s, hs⟩ := g
  exact (uv_inj v w r s (hr.symm.trans hs)).1
def FrAt (bs : List Int) (i : Nat) (r : List Int) : Prop := r.length ≤ 65536 ∧ ∃ rest, bs.drop i = frame r ++ rest
theorem FrAt.uv {bs : List Int} {i : Nat} {r : List Int} (h : FrAt bs i r) : UvAt bs i r.length := by
  obtain ⟨h1, rest, h2⟩ := h
  exact ⟨by omega, _, by rw [h2, frame, List.append_assoc, List.append_assoc]⟩
theorem FrAt.parts {bs : List Int} {i : Nat} {r : List Int} (h : FrAt bs i r) : ((bs.drop (i + (TwW.uv r.length).length)).take 4 = be4 (crc r)) ∧ (bs.drop (i + (TwW.uv r.length).length + 4)).take r.length = r ∧ i + (TwW.uv r.length).length + 4 + r.length ≤ bs.length ∨ bs.length ≤ i := by
  obtain ⟨h1, rest, h2⟩ := h
  rcases Nat.lt_or_ge i bs.length with hi | hi
  · left
    have e1 : bs.drop (i + (TwW.uv r.length).length) = be4 (crc r) ++ (r ++ rest) := by
      rw [← List.drop_drop, h2, frame, List.append_assoc, List.append_assoc, List.drop_left]
    have e2 : bs.drop (i + (TwW.uv r.length).length + 4) = r ++ rest := by
      rw [← List.drop_drop, e1, show 4 = (be4 (crc r)).length from rfl, List.drop_left]
    refine ⟨by rw [e1, show 4 = (be4 (crc r)).length from rfl, List.take_left], by rw [e2, List.take_left], ?_⟩
    have := congrArg List.length h2
    rw [List.length_append, frame_len, List.length_drop] at this
    omega
  · exact .inr hi
theorem FrAt.lt {bs : List Int} {i : Nat} {r : List Int} (h : FrAt bs i r) : i < bs.length := by
  obtain ⟨h1, rest, h2⟩ := h
  have := congrArg List.length h2
  have h3 := frame_len r
  rw [List.length_append, List.length_drop] at this
  omega
theorem By8.part {bs : List Int} (h : By8 bs) (i m : Nat) : By8 ((bs.drop i).take m) := fun x hx => h x (List.mem_of_mem_drop (List.mem_of_mem_take hx))
theorem FrAt.of {bs : List Int} {i len : Nat} (h8 : By8 bs) (hu : UvAt bs i len) (hle : len ≤ 65536) (hroom : i + (TwW.uv len).length + 4 + len ≤ bs.length)
    (hs : crc ((bs.drop (i + (TwW.uv len).length + 4)).take len) = ebv ((bs.drop (i + (TwW.uv len).length)).take 4)) : FrAt bs i ((bs.drop (i + (TwW.uv len).length + 4)).take len) := by
  have hl : ((bs.drop (i + (TwW.uv len).length + 4)).take len).length = len := by rw [List.length_take, List.length_drop]; omega
  refine ⟨by omega, (bs.drop (i + (TwW.uv len).length + 4)).drop len, ?_⟩
  obtain ⟨_, rest, hr⟩ := hu
  have e0 : rest = bs.drop (i + (TwW.uv len).length) := by rw [← List.drop_drop, hr, List.drop_left]
  have e4 : be4 (crc ((bs.drop (i + (TwW.uv len).length + 4)).take len)) = (bs.drop (i + (TwW.uv len).length)).take 4 := by
    rw [hs, be4_ebv (by rw [List.length_take, List.length_drop]; omega) (h8.part _ _)]
  rw [frame, hl, e4, hr, e0, List.append_assoc, List.append_assoc, List.take_append_drop, show bs.drop (i + (TwW.uv len).length + 4) = (bs.drop (i + (TwW.uv len).length)).drop 4 from List.drop_drop.symm, List.take_append_drop]
section
variable {σ : Hp} {R : Ending → Hp → Prop}
theorem en120 : Enters prog codec_reader_length.fid := fun args w => call120 args w
theorem en121 : Enters prog codec_reader_record.fid := fun args w => call121 args w
theorem record_spec {b i len : Nat} {p : Option Addr} {n c : Nat} {bs : List Int} (hb : σ b = none) (hr : RdI .u8 σ p n bs) (h8 : By8 bs) (hc : n ≤ c) (hi : i ≤ n) (hle : len ≤ 65536)
    (hshort : n < i + 4 + len → ∀ σ', Ext σ σ' → R (.returned (.tuple #[.slice none 0 0, .int .i64 20])) σ')
    (hbad : i + 4 + len ≤ n → crc ((bs.drop (i + 4)).take len) ≠ ebv ((bs.drop i).take 4) → ∀ σ', Ext σ σ' → R (.returned (.tuple #[.slice none 0 0, .int .i64 22])) σ')
    (hok : i + 4 + len ≤ n → crc ((bs.drop (i + 4)).take len) = ebv ((bs.drop i).take 4) → ∀ p' c' σ', OwnI .u8 (σ.new σ') p' len c' ((bs.drop (i + 4)).take len) → Ext (σ.set b (.cells #[.slice p n c, .int .i64 (i + 4 + len : Nat)] 150 (0, 0))) σ' → R (.returned (.tuple #[.slice p' len c', .int .i64 0])) σ') :
    Spec prog codec_reader_record.fid #[.pointer (some ⟨b, 0, none⟩), .int .i64 len] (σ.set b (.cells #[.slice p n c, .int .i64 i] 150 (0, 0))) R := by
  have hbl : bs.length = n := hr.1
  have hbig := hr.big
  have hx : Ext σ (σ.set b (.cells #[.slice p n c, .int .i64 i] 150 (0, 0))) := .set hb
  have hld : ∀ {τ : Hp} {k : Int} {T : TypeId}, (τ.set b (.cells #[.slice p n c, .int .i64 k] T (0, 0))).ld ⟨b, 0, none⟩ = some (.slice p n c) := fun {τ k T} => ld_of (Hp.set_same _ _ _) rfl
  have hld1 : ∀ {τ : Hp} {k : Int} {T : TypeId}, (τ.set b (.cells #[.slice p n c, .int .i64 k] T (0, 0))).ld ⟨b, 0 + 1, none⟩ = some (.int .i64 k) := fun {τ k T} => ld_of (Hp.set_same _ _ _) rfl
  refine codec_reader_record.start ⟨b, 0, rfl, p, n, c, hld, i, hld1, by unfold I64; omega, by unfold I64; omega, fun h => hshort (by omega) _ hx, fun h => ⟨p, n, c, hld, i, hld1, i, hld1, by unfold I64; omega, by omega, ?_⟩⟩
  have hroom : i + 4 + len ≤ n := by omega
  have e1 : Int.toNat (i : Int) = i := by omega
  have e2 : Int.toNat ((i : Int) + 4) - i = 4 := by omega
  rw [e1, e2]
  have h4 : RdI .u8 (σ.set b (.cells #[.slice p n c, .int .i64 i] 150 (0, 0))) (slP p i c 1) 4 ((bs.drop i).take 4) := RdI.sub (hr.mono hx) (by omega) hc
  have h48 : By8 ((bs.drop i).take 4) := h8.part _ _
  have fin : codec_reader_record.pt18 R (some ⟨b, 0, none⟩) len (ebv ((bs.drop i).take 4)) (slP p i c 1) 4 (c - i) ((4 : Nat) : Int) ((4 : Nat) : Int) (σ.set b (.cells #[.slice p n c, .int .i64 i] 150 (0, 0))) := by
    refine codec_reader_record.pt18_of ⟨fun hh => by omega, fun _ => ⟨b, 0, rfl, p, n, c, hld, i, hld1, by unfold I64; omega, i, hld1, by unfold I64; omega, by unfold I64; omega, by omega, i, hld1, by unfold I64; omega, by unfold I64; omega, ?_⟩⟩
    refine Eff.store (v := .int .i64 ((i : Int) + (4 + (len : Int)))) size3 (Hp.set_same _ _ _) rfl (by simp) (by simp [Value.cells, Value.oneCell']) ?_
    rw [Hp.set_set]
    have hw : wrt #[Value.slice p n c, .int .i64 i] (0 + 1) (Value.int .i64 ((i : Int) + (4 + (len : Int)))).cells.toList = #[.slice p n c, .int .i64 ((i + 4 + len : Nat) : Int)] := by
      rw [show ((i + 4 + len : Nat) : Int) = (i : Int) + (4 + (len : Int)) by omega]; rfl
    rw [hw]
    have e3 : Int.toNat ((i : Int) + 4) = i + 4 := by omega
    have e4 : Int.toNat ((i : Int) + 4 + (len : Int)) - (i + 4) = len := by omega
    rw [e3, e4]
    have hx2 : Ext σ (σ.set b (.cells #[.slice p n c, .int .i64 ((i + 4 + len : Nat) : Int)] 150 (0, 0))) := .set hb
    have hrec : RdI .u8 (σ.set b (.cells #[.slice p n c, .int .i64 ((i + 4 + len : Nat) : Int)] 150 (0, 0))) (slP p (i + 4) c 1) len ((bs.drop (i + 4)).take len) := RdI.sub (hr.mono hx2) (by omega) hc
    refine sum_spec hrec fun σ3 hx3 => ⟨_, rfl, fun hne => hbad hroom hne _ (hx2.trans hx3), fun heq => ?_⟩
    intro b78 hb78
    have hq : ∀ a : Addr, (some (⟨b78, 0, none⟩ : Addr)) = some a → σ3 a.block = none := fun a ha => by cases ha; exact hb78
    refine app_eff (T := 23) Own.empty ((RdC.of_map (hrec.mono hx3)).mono (.set hb78)) OneC.map_int (by omega) fun p' c' σ' hown hext => ⟨p', _, c', rfl, ?_⟩
    rw [Nat.zero_add] at hown ⊢
    have ho := Own.to_new hown (new_block hq hext (.set hb78))
    have he := ext_new hq hext (.set hb78)
    exact hok hroom (Decidable.byContradiction heq) p' c' σ' (ho.mono (Ext.new_trans (hx2.trans hx3))) (hx3.trans he)
  have step : ∀ (d k : Nat) (acc : Nat), 4 - k = d → k ≤ 4 → acc < 256 ^ k → (acc : Int) = ebv (((bs.drop i).take 4).take k) → codec_reader_record.pt18 R (some ⟨b, 0, none⟩) len acc (slP p i c 1) 4 (c - i) ((4 : Nat) : Int) k (σ.set b (.cells #[.slice p n c, .int .i64 i] 150 (0, 0))) := by
    intro d
    induction d with
    | zero =>
      intro k acc hd hk hacc ha
      have : k = 4 := by omega
      subst this
      rw [List.take_take, Nat.min_self] at ha
      rw [ha]; exact fin
    | succ d ih =>
      intro k acc hd hk hacc ha
      refine codec_reader_record.pt18_of ⟨fun _ => ?_, fun hh => by omega⟩
      obtain ⟨y, hy⟩ := h4.ex (k := k) (by omega)
      obtain ⟨b2, o2, hp, hl⟩ := h4.at hy
      have hy8 := h48 y (List.mem_of_getElem? hy)
      obtain ⟨cc, rfl⟩ : ∃ cc : Nat, y = cc := ⟨y.toNat, by omega⟩
      refine ⟨b2, o2, hp, by omega, cc, by simpa using hl, by simp [IntKind.bits], fun x43 h43 x45 h45 x46 h46 => ⟨by unfold I64; omega, ?_⟩⟩
      subst h43 h45 h46
      have hacc2 : acc < 16777216 := Nat.lt_of_lt_of_le hacc (Nat.le_trans (Nat.pow_le_pow_right (by decide) (show k ≤ 3 by omega)) (by decide))
      rw [or_byte hacc2 (by omega), ← hp]
      refine ih (k + 1) (acc * 256 + cc) (by omega) (by omega) (by rw [Nat.pow_succ]; omega) ?_
      rw [take_succ' hy, ebv, List.foldl_append, ← ebv, ← ha]
      simp
  exact step 4 0 0 rfl (by omega) (by decide) rfl
theorem unframe_spec {i : Nat} {p : Option Addr} {n c : Nat} {bs : List Int} (hr : RdI .u8 σ p n bs) (h8 : By8 bs) (hc : n ≤ c) (hi : i ≤ n)
    (hok : ∀ r, FrAt bs i r → ∀ p' c' σ', OwnI .u8 (σ.new σ') p' r.length c' r → Ext σ σ' → R (.returned (.tuple #[.slice p' r.length c', .int .i64 (i + (frame r).length : Nat), .int .i64 0])) σ')
    (herr : (∀ r, ¬ FrAt bs i r) → ∀ σ' (code : Int), code ≠ 0 → Ext σ σ' → R (.returned (.tuple #[.slice none 0 0, .int .i64 0, .int .i64 code])) σ') :
    Spec prog codec_Unframe.fid #[.slice p n c, .int .i64 i] σ R := by
  have hbl : bs.length = n := hr.1
  refine codec_Unframe.start fun b hb => ?_
  have hx : ∀ k : Int, Ext σ (σ.set b (.cells #[.slice p n c, .int .i64 k] 150 (0, 0))) := fun k => .set hb
  refine codec_both.start ⟨_, _, _, rfl, en120, ?_⟩
  simp only [Array.append_empty]
  refine codec_reader_length.start ⟨b, 0, rfl, p, n, c, ld_of (Hp.set_same _ _ _) rfl, i, ld_of (Hp.set_same _ _ _) rfl, uint_spec (hr.mono (hx i)) h8 hi ⟨fun hno code hcode => ⟨0, 0, code, rfl, ?_⟩, fun v hv => ⟨v, _, 0, rfl, ?_⟩⟩⟩
  · refine Eff.store (v := .int .i64 0) size3 (Hp.set_same _ _ _) rfl (by simp) (by simp [Value.cells, Value.oneCell']) ?_
    rw [Hp.set_set]
    refine ⟨fun _ => ⟨_, _, rfl, fun _ => ⟨_, _, _, _, rfl, fun _ => herr (fun r hf => hno _ hf.uv) _ code hcode (hx 0), fun h => absurd hcode h⟩, fun h => absurd hcode h⟩, fun h => absurd hcode h⟩
  · refine Eff.store (v := .int .i64 ((i + (uv v).length : Nat) : Int)) size3 (Hp.set_same _ _ _) rfl (by simp) (by simp [Value.cells, Value.oneCell']) ?_
    rw [Hp.set_set]
    have hw : wrt #[Value.slice p n c, .int .i64 i] (0 + 1) (Value.int .i64 ((i + (uv v).length : Nat) : Int)).cells.toList = #[.slice p n c, .int .i64 ((i + (uv v).length : Nat) : Int)] := rfl
    rw [hw]
    have hto : i + (uv v).length ≤ n := by
      obtain ⟨_, rest, h2⟩ := hv
      have := congrArg List.length h2
      rw [List.length_append, List.length_drop] at this
      rw [← hbl]
      rcases Nat.lt_or_ge i bs.length with h | h
      · omega
      · have := uv_pos v; omega
    refine ⟨fun h => absurd rfl h, fun _ => ⟨fun hbig => ⟨_, _, rfl, fun _ => ⟨_, _, _, _, rfl, fun _ => herr (fun r hf => ?_) _ 23 (by decide) (hx _), fun h => absurd (by decide) h⟩, fun h => absurd (by decide) h⟩, fun hsm x32 h32 => ?_⟩⟩
    · have := hv.uniq hf.uv
      have := hf.1
      omega
    · have e32 : x32 = (v : Int) := by rw [h32]; simp [IntKind.wrap, IntKind.bits, IntKind.signed]; omega
      subst e32
      refine ⟨_, _, rfl, fun h => absurd rfl h, fun _ => ⟨_, _, _, rfl, en121, ?_⟩⟩
      have hle : v ≤ 65536 := by omega
      have huniq : ∀ r, FrAt bs i r → r.length = v := fun r hf => (hv.uniq hf.uv).symm
      simp only [Array.append_empty]
      refine record_spec hb hr h8 hc hto hle (fun hs σ' hx' => ⟨_, _, _, _, rfl, _, _, _, _, rfl, fun _ => herr (fun r hf => ?_) σ' 20 (by decide) hx', fun h => absurd (by decide) h⟩) (fun hroom hne σ' hx' => ⟨_, _, _, _, rfl, _, _, _, _, rfl, fun _ => herr (fun r hf => ?_) σ' 22 (by decide) hx', fun h => absurd (by decide) h⟩)
        fun hroom heq p' c' σ' ho hx' => ⟨_, _, _, _, rfl, _, _, _, _, rfl, fun h => absurd rfl h, fun _ => ⟨_, ld_of (hx' _ _ (Hp.set_same _ _ _)) rfl, ?_⟩⟩
      · have := huniq r hf
        rcases hf.parts with ⟨_, _, h3⟩ | h3
        · rw [this] at h3; omega
        · have := hf.lt; omega
      · have := huniq r hf
        rcases hf.parts with ⟨h1, h2, h3⟩ | h3
        · rw [this] at h1 h2
          rw [h2, h1, ebv_be4 (crc_range r)] at hne
          exact hne rfl
        · have := hf.lt; omega
      · have hf := FrAt.of h8 hv hle (by omega) heq
        have hrl : ((bs.drop (i + (uv v).length + 4)).take v).length = v := by rw [List.length_take, List.length_drop]; omega
        have := hok _ hf p' c' σ' (by rw [hrl]; exact ho) ((hx _).trans hx')
        rw [frame_len, hrl] at this
        rw [show i + (uv v).length + 4 + v = i + ((uv v).length + 4 + v) by omega]
        exact this
end
end TwW
end
section
set_option linter.unusedVariables false
namespace TwW
open Go Tw Go.Proofs.Tryz
def EBy (σ : Hp) (vs : List Value) (x : List Int) : Prop := ∃ p n c, vs = [.slice p n c] ∧ n ≤ c ∧ RdI .u8 σ p n x
theorem EBy.mono : Mono EBy := fun _ _ _ _ h ⟨p, n, c, h1, h2, h3⟩ => ⟨p, n, c, h1, h2, h3.mono h⟩
abbrev RdLL := RdS 1 EBy
abbrev OwnLL := OwnL 1 EBy
theorem RdLL.mono {σ σ' : Hp} (h : Ext σ σ') {p : Option Addr} {n : Nat} {xs : List (List Int)} (hr : RdLL σ p n xs) : RdLL σ' p n xs := RdS.mono EBy.mono h hr
theorem RdLL.at {σ : Hp} {p : Option Addr} {n i : Nat} {xs : List (List Int)} {x : List Int} (hr : RdLL σ p n xs) (hx : xs[i]? = some x) : ∃ b o p' n' c', p = some ⟨b, o, none⟩ ∧ σ.ld ⟨b, o + i * 1, none⟩ = some (.slice p' n' c') ∧ n' ≤ c' ∧ RdI .u8 σ p' n' x := by
  obtain ⟨b, o, vs, hp, ⟨p', n', c', rfl, h2, h3⟩, hl⟩ := RdS.idx hr hx
  exact ⟨b, o, p', n', c', hp, hl.1, h2, h3⟩
def joinF (rs : List (List Int)) : List Int := rs.flatMap frame
theorem joinF_nil : joinF [] = [] := rfl
theorem joinF_cons (r : List Int) (rs : List (List Int)) : joinF (r :: rs) = frame r ++ joinF rs := by simp [joinF]
theorem joinF_append (rs ss : List (List Int)) : joinF (rs ++ ss) = joinF rs ++ joinF ss := by simp [joinF]
def Torn (t : List Int) : Prop := ∀ r, ¬ FrAt t 0 r
theorem torn_nil : Torn [] := fun r h => by have := h.lt; simp at this
abbrev Short (rs : List (List Int)) : Prop := ∀ r ∈ rs, r.length ≤ 65536
theorem FrAt.here {bs : List Int} {i : Nat} {r rest : List Int} (h : r.length ≤ 65536) (hd : bs.drop i = frame r ++ rest) : FrAt bs i r := ⟨h, rest, hd⟩
theorem FrAt.uniq {bs : List Int} {i : Nat} {r s : List Int} (h : FrAt bs i r) (g : FrAt bs i s) : r = s := by
  have hl := h.uv.uniq g.uv
  rcases h.parts with ⟨_, h2, _⟩ | h3
  · rcases g.parts with ⟨_, g2, _⟩ | g3
    · rw [← hl] at g2; exact h2.symm.trans g2
    · have := h.lt; omega
  · have := h.lt; omega
section
variable {σ : Hp} {R : Ending → Hp → Prop}
theorem frames_spec {p : Option Addr} {n c : Nat} {bs t : List Int} {recs : List (List Int)} (hr : RdI .u8 σ p n bs) (h8 : By8 bs) (hc : n ≤ c) (hn : n ≤ 4194304) (hbs : bs = joinF recs ++ t) (hs : Short recs) (ht : Torn t)
    (h : ∀ p' n' c' σ', OwnLL (σ.new σ') p' n' c' recs → Ext σ σ' → R (.returned (.tuple #[.slice p' n' c', .bool (decide (t ≠ []))])) σ') : Spec prog wal_frames.fid #[.slice p n c] σ R := by
  have hbl : bs.length = n := hr.1
  refine wal_frames.start ?_
  have hle : ∀ rs : List (List Int), rs.length ≤ (joinF rs).length := fun rs => by
    induction rs with
    | nil => simp
    | cons r rs ih => rw [joinF_cons, List.length_append, frame_len]; simp; omega
  suffices H : ∀ (d : List (List Int)) (k : List (List Int)) (p' : Option Addr) (n' c' : Nat) (σ' : Hp), recs = k ++ d → OwnLL (σ.new σ') p' n' c' k → Ext σ σ' → wal_frames.pt11 R p n c p' n' c' ((joinF k).length : Nat) σ' from
    H recs [] none 0 0 σ rfl OwnL.nil (Ext.refl _)
  intro d
  induction d with
  | nil =>
    intro k p' n' c' σ' hk ho hx
    rw [List.append_nil] at hk
    subst hk
    refine wal_frames.pt11_of ⟨fun he => ?_, fun hne => ?_⟩
    · have : t = [] := by
        have h1 := congrArg List.length hbs
        rw [List.length_append] at h1
        exact List.eq_nil_of_length_eq_zero (by omega)
      subst this
      simpa using h p' n' c' σ' ho hx
    · have h1 := congrArg List.length hbs
      rw [List.length_append] at h1
      have htn : t ≠ [] := fun e => by subst e; simp at h1; omega
      have hdr : bs.drop (joinF recs).length = t := by rw [hbs, List.drop_left]
      refine unframe_spec (hr.mono hx) h8 hc (by omega) (fun r hf => absurd ?_ (ht r)) (fun _ σ2 code hcode hx2 => ⟨_, _, _, _, _, rfl, fun _ => ?_, fun hh => absurd hcode hh⟩)
      · obtain ⟨g1, rest, g2⟩ := hf
        exact ⟨g1, rest, by rw [List.drop_zero, ← hdr, g2]⟩
      · have := h p' n' c' σ2 (OwnL.mono EBy.mono (Ext.new_mono hx2) ho) (hx.trans hx2)
        simpa [htn] using this
  | cons r d ih =>
    intro k p' n' c' σ' hk ho hx
    have h1 := congrArg List.length hbs
    rw [hk, List.length_append, joinF_append, List.length_append, joinF_cons, List.length_append, frame_len] at h1
    have hrl : r.length ≤ 65536 := hs r (by rw [hk]; simp)
    have hfr : FrAt bs (joinF k).length r := FrAt.here (rest := joinF d ++ t) hrl (by rw [hbs, hk, joinF_append, joinF_cons, List.append_assoc, List.drop_left, List.append_assoc])
    have hkl := hle k
    have hkn : k.length = n' := ho.1
    refine wal_frames.pt11_of ⟨fun he => by omega, fun _ => ?_⟩
    refine unframe_spec (hr.mono hx) h8 hc (by omega) (fun r' hf p2 c2 σ2 ho2 hx2 => ⟨_, _, _, _, _, rfl, fun hh => absurd rfl hh, fun _ b26 hb26 => ?_⟩) (fun hno => absurd hfr (hno r))
    have := hf.uniq hfr
    subst this
    have hx3 := hx.trans hx2
    have ho3 : OwnLL (σ.new σ2) p' n' c' k := OwnL.mono EBy.mono (Ext.new_mono hx2) ho
    have hb2 : ∀ a, p' = some a → σ' a.block ≠ none := fun a ha e => ho.block a ha (by
      cases hh : (σ.new σ') a.block with
      | none => rfl
      | some o => rw [(new_some.1 hh).2] at e; cases e)
    refine OwnL.app1 (T := 22) EBy.mono hx3 ho3 rfl (fun u hu => by simp at hu; subst hu; rfl) (x := r') ⟨p2, r'.length, c2, rfl, Own.cap ho2, (OwnI.rd ho2).mono ?_⟩ (by omega) (fun p3 c3 σ3 ho4 hx4 => ⟨p3, _, c3, rfl, ?_⟩) hb26
    · exact Ext.new_into hx hb2
    · have := ih (k ++ [r']) p3 (n' + 1) c3 σ3 (by rw [hk]; simp) ho4 hx4
      rw [joinF_append, joinF_cons, joinF_nil, List.append_nil, List.length_append] at this
      exact this
theorem join_spec {p : Option Addr} {n c : Nat} {recs : List (List Int)} (hr : RdLL σ p n recs) (hs : Short recs) (hb : (joinF recs).length ≤ 70368744177664)
    (h : ∀ p' n' c' σ', OwnI .u8 (σ.new σ') p' n' c' (joinF recs) → Ext σ σ' → R (.returned (.slice p' n' c')) σ') : Spec prog wal_join.fid #[.slice p n c] σ R := by
  refine wal_join.start ?_
  have hln : recs.length = n := hr.1
  suffices H : ∀ (d k : Nat) (p' : Option Addr) (n' c' : Nat) (σ' : Hp), n - k = d → k ≤ n → OwnI .u8 (σ.new σ') p' n' c' (joinF (recs.take k)) → Ext σ σ' → wal_join.pt10 R p' n' c' p n c n k σ' from H n 0 none 0 0 σ rfl (by omega) Own.nil (Ext.refl _)
  intro d
  induction d with
  | zero =>
    intro k p' n' c' σ' hd hk ho hx
    rw [List.take_of_length_le (by omega)] at ho
    exact wal_join.pt10_of ⟨fun hh => by omega, fun _ => h p' n' c' σ' ho hx⟩
  | succ d ih =>
    intro k p' n' c' σ' hd hk ho hx
    refine wal_join.pt10_of ⟨fun _ => ?_, fun hh => by omega⟩
    obtain ⟨x, hxk⟩ := hr.ex (k := k) (by omega)
    obtain ⟨b, o, p2, n2, c2, rfl, hl, hc2, hrd⟩ := hr.at hxk
    have hxl : x.length ≤ 65536 := hs x (List.mem_of_getElem? hxk)
    have hn2 : x.length = n2 := hrd.1
    refine ⟨b, o, rfl, by omega, p2, n2, c2, by simpa using hx.ld hl, frame_spec (hrd.mono hx) (fun hh => by omega) fun _ p3 n3 c3 σ3 ho3 hx3 => ⟨p3, n3, c3, 0, rfl, ?_⟩⟩
    have e1 : joinF (recs.take (k + 1)) = joinF (recs.take k) ++ frame x := by rw [take_succ' hxk, joinF_append, joinF_cons, joinF_nil, List.append_nil]
    have hlen : (joinF (recs.take (k + 1))).length ≤ 70368744177664 := by
      refine Nat.le_trans ?_ hb
      have : joinF recs = joinF (recs.take (k + 1)) ++ joinF (recs.drop (k + 1)) := by rw [← joinF_append, List.take_append_drop]
      rw [this, List.length_append]; omega
    rw [e1, List.length_append] at hlen
    have hl1 := ho.1
    have hl3 := ho3.1
    simp at hl1 hl3
    have ho4 : OwnI .u8 (σ.new σ3) p' n' c' (joinF (recs.take k)) := ho.mono (Ext.new_mono hx3)
    refine app_new (T := 23) (hx.trans hx3) ho4 ((RdC.of_map (OwnI.rd ho3)).mono (Ext.of_new _ _)) OneC.map_int (by omega) fun p4 c4 σ4 ho5 hx5 _ => ⟨p4, _, c4, rfl, i64_succ (by omega) hr.big, ?_⟩
    refine ih (k + 1) p4 _ c4 σ4 (by omega) (by omega) ?_ hx5
    rw [e1]
    unfold OwnI
    rw [List.map_append]
    exact ho5
end
end TwW
end
section
set_option linter.unusedVariables false
namespace TwW
open Go Tw Go.RowKit Go.Proofs.Tryz
section
variable {P : Program} {f : FuncId} {args : Array Value} {σ : Hp} {R : Ending → Hp → Prop} {v : Value}
theorem Spec.below (h : ∀ w, Sat σ w → Calls P f args w fun e w' => e = .returned v ∧ Below w.heap.size w w') (hR : R (.returned v) σ) : Spec P f args σ R := fun w F hs hF =>
  (h w hs).mono fun e w' ⟨he, hb⟩ => ⟨σ, he ▸ hR, fun b o ho => by
    have h1 := hs b o ho
    rw [hb.block b (Array.getElem?_eq_some_iff.1 h1).1]; exact h1, fun b hFb => ⟨(hF b hFb).2, hb.block b (hF b hFb).1⟩, ⟨hb.os, hb.tape, 0, rfl⟩, hb.output, hb.size⟩
theorem Spec.same (h : ∀ w, Sat σ w → Calls P f args w fun e w' => e = .returned v ∧ w' = w) (hR : R (.returned v) σ) : Spec P f args σ R :=
  Spec.below (fun w hs => (h w hs).mono fun e w' ⟨he, hw⟩ => ⟨he, hw ▸ Below.refl _ _⟩) hR
end
def Tb (σ : Hp) : Prop := ∃ g T fr, prog.globalNamed "internal/strconv.uint64pow10" = some g ∧ σ g = some (.cells (Lib.pow10Tab.map fun z => Value.int .u64 z).toArray T fr)
theorem Tb.mono {σ σ' : Hp} (h : Tb σ) (hx : Ext σ σ') : Tb σ' := let ⟨g, T, fr, h1, h2⟩ := h; ⟨g, T, fr, h1, hx _ _ h2⟩
theorem Tb.is {σ : Hp} (h : Tb σ) {w : World} (hs : Sat σ w) : Lib.TabIs prog w "internal/strconv.uint64pow10" .u64 Lib.pow10Tab := by
  obtain ⟨g, T, fr, h1, h2⟩ := h
  simp [Lib.TabIs, World.var?, h1, hs _ _ h2]
def strOf (xs : List Int) : ByteArray := ⟨(xs.map fun n => UInt8.ofNat n.toNat).toArray⟩
section
variable {σ : Hp} {R : Ending → Hp → Prop}
theorem conv_eff {p : Option Addr} {n c : Nat} {xs : List Int} {Φ : Value → Hp → Prop} (hr : RdI .u8 σ p n xs) (h : Φ (.string (strOfNums xs)) σ) : Eff prog (convert 23 9 (.slice p n c)) σ Φ := by
  refine Eff.pu (fun w hs => ?_) h
  have h1 := underlying23
  have h2 := underlying9
  by_cases hn : n = 0
  · subst hn
    have hx : xs = [] := List.eq_nil_of_length_eq_zero hr.1
    subst hx
    rw [run_convert_bytes_string w 23 9 _ p 0 c h1 underlying5 h2]
    cases p <;> simp [Conv.bytesToString, loadCells] <;> rfl
  · obtain ⟨x0, hx0⟩ := hr.ex (k := 0) (by omega)
    obtain ⟨b, o, rfl, _⟩ := hr.at hx0
    refine run_convert_bytes_arg w 23 _ h1 underlying5 b o n c xs hr.1 (fun i hi => ?_) 9 h2
    obtain ⟨x, hx⟩ := hr.ex hi
    obtain ⟨b', o', he, hl⟩ := hr.at hx
    cases he
    rw [List.getD_eq_getElem?_getD, hx]
    simpa using hs.ld hl
theorem str_nums (l : List UInt8) : strOfNums (l.map fun b => (b.toNat : Int)) = ⟨l.toArray⟩ := by
  apply ByteArray.ext
  apply Array.toList_inj.1
  rw [strOfNums_data, List.map_map]
  conv => rhs; rw [← List.map_id l]
  exact List.map_congr_left fun a _ => by simp
theorem und160 : prog.underlying 160 = some (.array 24 5) := underlying160
theorem base10_spec {b T u : Nat} (hb : σ b = none) (hu : u < 18446744073709551616) {c : Nat} (h : ∀ σ', Ext σ σ' → RdI .u8 σ' (some ⟨b, 0, none⟩) (Lib.nDigits u) ((Lib.decDigits u).map fun x => (x.toNat : Int)) → R (.returned (.tuple #[])) σ') :
    Spec prog 129 #[.slice (some ⟨b, 0, none⟩) (Lib.nDigits u) c, .int .u64 u] (σ.set b (.cells Lib.zeros24 T (0, 0))) R := fun w F hs hF => by
  have hnd : Lib.nDigits u ≤ 20 := Lib.nDigits_le20 u hu
  have hw := hs b _ (Hp.set_same _ _ _)
  let d : Array UInt8 := Array.replicate (Lib.nDigits u) 0
  have hH : Sort.Holds (fun (b : UInt8) => Value.int .u8 (b.toNat : Int)) w b 0 d := fun j hj => by
    have hj' : j < Lib.nDigits u := by simpa [d] using hj
    refine ⟨?_, by simp [World.frozen?, hw]⟩
    have : d[j]! = 0 := by simp [d, hj']
    simp only [World.cell?, hw, this, Nat.zero_add]
    simpa using Lib.zeros24_at j (by omega)
  have hcon := Go.Proofs.Tryz.internal_strconv_formatBase10 b 0 c u d w hH (by simpa [d] using Lib.lt_pow_nDigits u) hu (by simp [d]; omega)
  rw [show d.size = Lib.nDigits u by simp [d]] at hcon
  refine hcon.mono ?_
  rintro e w' ⟨rfl, n, v', dk, rfl, hI⟩
  have hsz : dk.size = Lib.nDigits u := hI.size
  have hblk : b < w.heap.size := (Array.getElem?_eq_some_iff.1 hw).1
  have hheap : ∀ k, ((Sort.putRow (fun (b : UInt8) => Value.int .u8 (b.toNat : Int)) w b 0 dk).drewN n).heap[k]? = if b = k then (w.heap[k]?).map (Sort.onCells (Sort.putCells (fun (b : UInt8) => Value.int .u8 (b.toNat : Int)) 0 dk)) else w.heap[k]? := fun k => by
    simp only [Sort.putRow, Sort.mapBlock, World.drewN, Array.getElem?_modify]
  refine ⟨σ.set b (.cells (Sort.putCells (fun (b : UInt8) => Value.int .u8 (b.toNat : Int)) 0 dk Lib.zeros24) T (0, 0)), h _ (.set hb) ?_, fun k o hk => ?_, fun k hk => ?_, ⟨rfl, rfl, n, rfl⟩, rfl, by simp [Sort.putRow, Sort.mapBlock, World.drewN]⟩
  · have hlen : (Lib.decDigits u).length = Lib.nDigits u := Lib.decDigits_length u
    refine RdI.of_rdc ⟨by simp [hlen], by omega, .inr ⟨b, 0, rfl, LdL.of fun j x hx => ld_of (Hp.set_same _ _ _) ?_⟩⟩
    have hj : j < (Lib.decDigits u).length := by
      have := (List.getElem?_eq_some_iff.1 hx).1
      simpa using this
    rw [putCells_get, if_pos (by omega), Nat.zero_add, Lib.zeros24_at j (by omega), Nat.sub_zero, ← Lib.row_is_numeral hI j hj]
    simp [hj] at hx ⊢
    exact hx
  · rw [hheap]
    by_cases hkb : k = b
    · subst hkb
      rw [Hp.set_same] at hk; cases hk
      rw [if_pos rfl, hw]; rfl
    · rw [Hp.set_ne hkb] at hk
      rw [if_neg (Ne.symm hkb)]
      exact hs k o (by rw [Hp.set_ne hkb]; exact hk)
  · have hkb : k ≠ b := fun e => by have := (hF k hk).2; rw [e, Hp.set_same] at this; cases this
    refine ⟨by rw [Hp.set_ne hkb]; have := (hF k hk).2; rwa [Hp.set_ne hkb] at this, ?_⟩
    rw [hheap, if_neg (Ne.symm hkb)]
theorem sl160 {b k : Nat} (hk : k ≤ 24) {τ : Hp} : YF prog (Instr.sliceAt 160 (.pointer (some ⟨b, 0, none⟩)) none (some (.int .i64 (k : Int))) none) τ (.slice (some ⟨b, 0, none⟩) k 24) := fun w _ => by
  have h5 : ∀ w, (Go.sizeOf 5).run prog w = .ok 1 w := fun w => by
    have h : prog.info? 5 = some t5 := by kernel_rfl
    simp [Go.sizeOf, typeInfo, h, show t5.size = 1 from rfl]
  have hk2 : (k : Int) ≤ 24 := by omega
  simp [Instr.sliceAt, run_underlying und160, Instr.sliceBounds, run_sliceBound, hk2, Instr.slice, Result.andThen, h5, Instr.sureAddr, Addr.add]
theorem fmtU_spec {u : Nat} (hu : u < 9223372036854775808) (ht : Tb σ) (h : ∀ σ', Ext σ σ' → R (.returned (.string ⟨(Lib.decDigits u).toArray⟩)) σ') : Spec prog strconv_FormatUint.fid #[.int .u64 u, .int .i64 10] σ R := by
  refine strconv_FormatUint.start (internal_strconv_FormatUint.start ⟨fun _ => ⟨fun hs x14 h14 => ?_, fun hb b5 hb5 => ?_⟩, fun hh => absurd rfl hh⟩)
  · have e14 : x14 = (u : Int) := by rw [h14]; simp [IntKind.wrap, IntKind.bits, IntKind.signed]; omega
    subst e14
    exact Spec.same (fun w _ => Go.Proofs.Tryz.internal_strconv_small u (by omega) w) ⟨_, rfl, _, rfl, h σ (Ext.refl _)⟩
  · have hx : Ext σ (σ.set b5 (.cells Lib.zeros24 160 (0, 0))) := .set hb5
    refine Spec.same (fun w hs => Go.Proofs.Tryz.internal_strconv_numDigits u (by omega) (by omega) w ((ht.mono hx).is hs)) ⟨_, rfl, some ⟨b5, 0, none⟩, Lib.nDigits u, 24, ?_, ?_⟩
    · exact sl160 (by have := Lib.nDigits_le20 u (by omega); omega)
    · refine base10_spec hb5 (by omega) fun σ' hx' hr => ⟨rfl, some ⟨b5, 0, none⟩, Lib.nDigits u, 24, ?_, conv_eff hr ⟨_, rfl, _, rfl, ?_⟩⟩
      · exact sl160 (by have := Lib.nDigits_le20 u (by omega); omega)
      · rw [str_nums]; exact h σ' hx'
end
def isDig (b : UInt8) : Bool := decide (48 ≤ b.toNat) && decide (b.toNat ≤ 57)
def dvF (a : Nat) (l : List UInt8) : Nat := l.foldl (fun a b => a * 10 + (b.toNat - 48)) a
abbrev dv (l : List UInt8) : Nat := dvF 0 l
theorem dvF_cons (a : Nat) (b : UInt8) (l : List UInt8) : dvF a (b :: l) = dvF (a * 10 + (b.toNat - 48)) l := by unfold dvF; rw [List.foldl_cons]
theorem dvF_append (a : Nat) (l m : List UInt8) : dvF a (l ++ m) = dvF (dvF a l) m := by simp [dvF, List.foldl_append]
theorem dvF_zeros (k : Nat) : dvF 0 (List.replicate k 48) = 0 := by
  induction k with
  | zero => rfl
  | succ k ih =>
    rw [List.replicate_succ, dvF_cons]
    have e : 0 * 10 + ((48 : UInt8).toNat - 48) = 0 := by decide
    rw [e, ih]
theorem dvF_shift : ∀ (l : List UInt8) (a : Nat), dvF a l = a * 10 ^ l.length + dvF 0 l
  | [], a => by simp [dvF]
  | b :: l, a => by
    rw [dvF_cons, dvF_cons, dvF_shift l, dvF_shift l (0 * 10 + (b.toNat - 48)), List.length_cons, Nat.pow_succ, Nat.add_mul, Nat.zero_mul, Nat.zero_add, Nat.mul_assoc, Nat.mul_comm 10, Nat.add_assoc]
theorem dvF_lt : ∀ (l : List UInt8), l.all isDig = true → dvF 0 l < 10 ^ l.length
  | [], _ => by simp [dvF]
  | b :: l, h => by
    simp only [List.all_cons, Bool.and_eq_true] at h
    have h1 := dvF_lt l h.2
    have hb : b.toNat - 48 ≤ 9 := by have := h.1; simp [isDig] at this; omega
    rw [dvF_cons, dvF_shift, List.length_cons, Nat.pow_succ, Nat.zero_mul, Nat.zero_add]
    have : (b.toNat - 48) * 10 ^ l.length ≤ 9 * 10 ^ l.length := Nat.mul_le_mul_right _ hb
    omega
theorem dv_inj : ∀ (l m : List UInt8), l.length = m.length → l.all isDig = true → m.all isDig = true → dvF 0 l = dvF 0 m → l = m
  | [], [], _, _, _, _ => rfl
  | b :: l, c :: m, hl, h, g, he => by
    simp only [List.length_cons, Nat.succ.injEq] at hl
    simp only [List.all_cons, Bool.and_eq_true] at h g
    rw [dvF_cons, dvF_cons, dvF_shift, dvF_shift m, hl, Nat.zero_mul, Nat.zero_add, Nat.zero_add] at he
    have h1 := dvF_lt l h.2
    have h2 := dvF_lt m g.2
    rw [hl] at h1
    have hb := h.1
    have hc := g.1
    simp [isDig] at hb hc
    have hp : 0 < 10 ^ m.length := Nat.pow_pos (by decide)
    have e1 : b.toNat - 48 = c.toNat - 48 := by
      have d1 : ((b.toNat - 48) * 10 ^ m.length + dvF 0 l) / 10 ^ m.length = b.toNat - 48 := by
        rw [Nat.mul_comm, Nat.mul_add_div hp, Nat.div_eq_of_lt h1, Nat.add_zero]
      have d2 : ((c.toNat - 48) * 10 ^ m.length + dvF 0 m) / 10 ^ m.length = c.toNat - 48 := by
        rw [Nat.mul_comm, Nat.mul_add_div hp, Nat.div_eq_of_lt h2, Nat.add_zero]
      rw [← d1, ← d2, he]
    have e2 : dvF 0 l = dvF 0 m := by rw [e1] at he; omega
    have e3 : b = c := UInt8.toNat_inj.1 (by omega)
    rw [e3, dv_inj l m hl h.2 g.2 e2]
theorem dv_le : ∀ (l m : List UInt8), l.length = m.length → l.all isDig = true → m.all isDig = true → l ≤ m → dvF 0 l ≤ dvF 0 m
  | [], [], _, _, _, _ => Nat.le_refl _
  | b :: l, c :: m, hl, h, g, he => by
    simp only [List.length_cons, Nat.succ.injEq] at hl
    simp only [List.all_cons, Bool.and_eq_true] at h g
    rw [dvF_cons, dvF_cons, dvF_shift, dvF_shift m, hl, Nat.zero_mul, Nat.zero_add, Nat.zero_add]
    have h1 := dvF_lt l h.2
    rw [hl] at h1
    have hb := h.1
    have hc := g.1
    simp [isDig] at hb hc
    rcases List.cons_le_cons_iff.1 he with hlt | ⟨rfl, hle⟩
    · have hlt' : b.toNat < c.toNat := UInt8.lt_iff_toNat_lt.1 hlt
      have : (b.toNat - 48 + 1) * 10 ^ m.length ≤ (c.toNat - 48) * 10 ^ m.length := Nat.mul_le_mul_right _ (by omega)
      rw [Nat.add_mul] at this
      omega
    · have := dv_le l m hl h.2 g.2 hle
      omega
theorem dig_of {d : Nat} (h : d < 10) : isDig (UInt8.ofNat (48 + d)) = true ∧ (UInt8.ofNat (48 + d)).toNat - 48 = d := by
  have : (UInt8.ofNat (48 + d)).toNat = 48 + d := by rw [UInt8.toNat_ofNat']; omega
  simp [isDig, this]; omega
theorem dec_dig (u : Nat) : (Lib.decDigits u).all isDig = true ∧ dvF 0 (Lib.decDigits u) = u := by
  induction u using Nat.strongRecOn with
  | _ u ih =>
    rw [Lib.decDigits]
    by_cases h : u < 10
    · rw [dif_pos h]
      have := dig_of h
      refine ⟨by rw [List.all_cons, this.1]; rfl, ?_⟩
      rw [dvF_cons, this.2]; simp [dvF]
    · rw [dif_neg h]
      have h1 := ih (u / 10) (by omega)
      have h2 := dig_of (show u % 10 < 10 by omega)
      rw [List.all_append, h1.1, dvF_append, h1.2]
      refine ⟨by rw [List.all_cons, h2.1]; rfl, ?_⟩
      rw [dvF_cons, h2.2]; simp only [dvF, List.foldl_nil]; omega
def dec8 (u : Nat) : List UInt8 := List.replicate (8 - (Lib.decDigits u).length) 48 ++ Lib.decDigits u
theorem dec_len {u : Nat} (h : u < 100000000) : (Lib.decDigits u).length ≤ 8 := by
  rw [Lib.decDigits_length]
  rcases Nat.lt_or_ge 8 (Lib.nDigits u) with h1 | h1
  · exfalso
    have hd := dec_dig u
    have : ∀ (k : Nat) (v : Nat), v < 10 ^ k → 0 < k → Lib.nDigits v ≤ k := by
      intro k
      induction k with
      | zero => intro v _ h; omega
      | succ k ih =>
        intro v hv _
        by_cases hv10 : v < 10
        · rw [Lib.nDigits_small hv10]; omega
        · rw [Lib.nDigits_big hv10]
          have hk : 0 < k := by
            rcases Nat.eq_zero_or_pos k with rfl | hk
            · simp at hv; omega
            · exact hk
          have := ih (v / 10) (by rw [Nat.div_lt_iff_lt_mul (by decide)]; rw [Nat.pow_succ] at hv; exact hv) hk
          omega
    have := this 8 u (by omega) (by decide)
    omega
  · exact h1
theorem dec8_len {u : Nat} (h : u < 100000000) : (dec8 u).length = 8 := by
  have := dec_len h
  simp [dec8]; omega
theorem dec8_dig (u : Nat) : (dec8 u).all isDig = true := by
  rw [dec8, List.all_append, (dec_dig u).1, Bool.and_true]
  rw [List.all_eq_true]
  intro x hx
  rw [List.eq_of_mem_replicate hx]; rfl
theorem dec8_val (u : Nat) : dvF 0 (dec8 u) = u := by rw [dec8, dvF_append, dvF_zeros, (dec_dig u).2]
theorem dec8_of {l : List UInt8} (hl : l.length = 8) (hd : l.all isDig = true) : dec8 (dvF 0 l) = l ∧ dvF 0 l < 100000000 := by
  have hlt := dvF_lt l hd
  rw [hl] at hlt
  have hlt' : dvF 0 l < 100000000 := by omega
  exact ⟨dv_inj _ _ (by rw [dec8_len hlt', hl]) (dec8_dig _) hd (dec8_val _), hlt'⟩
theorem rep_one (c : Nat) : Lib.repeatL [48] c = List.replicate c 48 := by
  induction c with
  | zero => rfl
  | succ c ih => rw [Lib.repeatL, ih, List.replicate_succ]; rfl
section
variable {σ : Hp} {R : Ending → Hp → Prop}
theorem dec_spec {u : Nat} (hu : u < 100000000) (ht : Tb σ) (h : ∀ σ', Ext σ σ' → R (.returned (.string ⟨(dec8 u).toArray⟩)) σ') : Spec prog digits_Dec.fid #[.int .u64 u, .int .i64 8] σ R := by
  have hl := dec_len hu
  refine digits_Dec.start (fmtU_spec (by omega) ht fun σ' hx => ⟨_, rfl, digits_wide.start ⟨?_, ?_⟩⟩)
  · have : (ByteArray.size ⟨(Lib.decDigits u).toArray⟩) = (Lib.decDigits u).length := by simp [ByteArray.size]
    rw [this]; unfold I64; omega
  · have e1 : (ByteArray.size ⟨(Lib.decDigits u).toArray⟩) = (Lib.decDigits u).length := by simp [ByteArray.size]
    rw [e1]
    have e2 : (if (8 - ((Lib.decDigits u).length : Int)) < 0 then (0 : Int) else 8 - ((Lib.decDigits u).length : Int)) = ((8 - (Lib.decDigits u).length : Nat) : Int) := by split <;> omega
    rw [e2]
    refine Spec.below (fun w _ => Go.Proofs.Tryz.strings_Repeat ⟨#[48]⟩ (8 - (Lib.decDigits u).length) w (by omega) ?_) ⟨_, rfl, ?_, _, rfl, ?_⟩
    · have : ByteArray.size ⟨#[48]⟩ = 1 := rfl
      rw [this]; omega
    · have : ByteArray.size ⟨(Lib.repeatL (ByteArray.mk #[48]).data.toList (8 - (Lib.decDigits u).length)).toArray⟩ = 8 - (Lib.decDigits u).length := by
        show (List.toArray (Lib.repeatL [48] _)).size = _
        rw [rep_one]; simp
      rw [this]; omega
    · have : (⟨(Lib.repeatL (ByteArray.mk #[48]).data.toList (8 - (Lib.decDigits u).length)).toArray⟩ ++ ⟨(Lib.decDigits u).toArray⟩ : ByteArray) = ⟨(dec8 u).toArray⟩ := by
        apply ByteArray.ext
        show _ = (dec8 u).toArray
        rw [ByteArray.data_append]
        show (List.toArray (Lib.repeatL [48] _)) ++ _ = _
        rw [rep_one, dec8]; simp
      rw [this]; exact h σ' hx
end
end TwW
end
section
set_option linter.unusedVariables false
namespace TwW
open Go Tw Go.RowKit Go.Proofs.Tryz
def slash : ByteArray := ⟨#[47]⟩
def kc : ByteArray := ⟨#[99]⟩
def ks : ByteArray := ⟨#[115]⟩
def cat (dir kind : ByteArray) : ByteArray := dir ++ slash ++ kind
def fname (dir kind : ByteArray) (no : Nat) : ByteArray := cat dir kind ++ ⟨(dec8 no).toArray⟩
def fnew (dir : ByteArray) : ByteArray := dir ++ ⟨#[47, 110, 101, 119]⟩
def rest (s t : ByteArray) : List UInt8 := s.data.toList.drop t.size
def numOf (dir kind s : ByteArray) : Nat := if begins s (cat dir kind) = true ∧ (rest s (cat dir kind)).length = 8 ∧ (rest s (cat dir kind)).all isDig = true then dvF 0 (rest s (cat dir kind)) else 0
theorem list_append (a b : ByteArray) : (a ++ b).data.toList = a.data.toList ++ b.data.toList := by rw [ByteArray.data_append, Array.toList_append]
theorem ba_ext {a b : ByteArray} (h : a.data.toList = b.data.toList) : a = b := ByteArray.ext (Array.toList_inj.1 h)
theorem cat_list (dir kind : ByteArray) : (cat dir kind).data.toList = dir.data.toList ++ 47 :: kind.data.toList := by
  rw [cat, list_append, list_append]; simp [slash]
theorem fname_list (dir kind : ByteArray) (no : Nat) : (fname dir kind no).data.toList = (cat dir kind).data.toList ++ dec8 no := by rw [fname, list_append]
theorem size_list (s : ByteArray) : s.size = s.data.toList.length := rfl
theorem begins_fname (dir kind : ByteArray) (no : Nat) : begins (fname dir kind no) (cat dir kind) = true ∧ rest (fname dir kind no) (cat dir kind) = dec8 no := by
  refine ⟨?_, ?_⟩
  · rw [begins, fname_list]; simp
  · rw [rest, fname_list, size_list, List.drop_left]
theorem numOf_fname {dir kind : ByteArray} {no : Nat} (h : no < 100000000) : numOf dir kind (fname dir kind no) = no := by
  have h1 := begins_fname dir kind no
  rw [numOf, h1.1, h1.2, if_pos ⟨rfl, dec8_len h, dec8_dig no⟩, dec8_val]
theorem numOf_pos {dir kind s : ByteArray} (h : 0 < numOf dir kind s) : s = fname dir kind (numOf dir kind s) ∧ numOf dir kind s < 100000000 := by
  unfold numOf at h ⊢
  split at h
  · rename_i hc
    rw [if_pos hc]
    have h8 := dec8_of hc.2.1 hc.2.2
    refine ⟨ba_ext ?_, h8.2⟩
    rw [fname_list, h8.1]
    have hp : (cat dir kind).data.toList <+: s.data.toList := by simpa [begins] using hc.1
    obtain ⟨t, ht⟩ := hp
    rw [rest, ← ht, size_list, List.drop_left]
  · omega
theorem fname_inj {dir kind : ByteArray} {a b : Nat} (ha : a < 100000000) (hb : b < 100000000) (h : fname dir kind a = fname dir kind b) : a = b := by
  rw [← numOf_fname (dir := dir) (kind := kind) ha, h, numOf_fname hb]
theorem fname_kinds {dir : ByteArray} {a b : Nat} : fname dir kc a ≠ fname dir ks b := fun h => by
  have := congrArg (fun s : ByteArray => s.data.toList) h
  simp only [fname_list, cat_list, List.append_assoc, List.append_cancel_left_eq] at this
  simp [kc, ks] at this
theorem fnew_ne {dir kind : ByteArray} {a : Nat} (hk : kind = kc ∨ kind = ks) : fnew dir ≠ fname dir kind a := fun h => by
  have := congrArg (fun s : ByteArray => s.data.toList) h
  simp only [fnew, fname_list, cat_list, list_append, List.append_assoc, List.append_cancel_left_eq] at this
  rcases hk with rfl | rfl <;> simp [kc, ks] at this
theorem num_kinds {dir s : ByteArray} (h : 0 < numOf dir kc s) : numOf dir ks s = 0 := by
  rcases Nat.eq_zero_or_pos (numOf dir ks s) with h0 | h0
  · exact h0
  · exact absurd ((numOf_pos h).1.symm.trans (numOf_pos h0).1) fname_kinds
theorem num_new {dir kind : ByteArray} (hk : kind = kc ∨ kind = ks) : numOf dir kind (fnew dir) = 0 := by
  rcases Nat.eq_zero_or_pos (numOf dir kind (fnew dir)) with h0 | h0
  · exact h0
  · exact absurd (numOf_pos h0).1 (fnew_ne hk)
def dirOk (dir : ByteArray) : Bool := nameOk dir && decide (dir.size ≤ 32)
theorem okc_dig {b : UInt8} (h : isDig b = true) : okc b = true := by
  have h2 : (decide (48 ≤ b.toNat) && decide (b.toNat ≤ 57)) = true := h
  unfold okc
  rw [h2]; simp only [Bool.or_true, Bool.true_or]
theorem fname_ok {dir kind : ByteArray} {no : Nat} (hd : dirOk dir = true) (hk : kind = kc ∨ kind = ks) (hn : no < 100000000) : nameOk (fname dir kind no) = true := by
  simp only [dirOk, nameOk, Bool.and_eq_true, decide_eq_true_eq] at hd
  obtain ⟨⟨⟨h1, h2⟩, h3⟩, h4⟩ := hd
  have hl : (fname dir kind no).size = dir.size + 10 := by
    rw [size_list, fname_list, cat_list, List.length_append, List.length_append, dec8_len hn, List.length_cons]
    rcases hk with rfl | rfl <;> rfl
  have ha : (fname dir kind no).data.toList.all okc = true := by
    rw [fname_list, cat_list, List.all_append, List.all_append, h3]
    have hd : (dec8 no).all okc = true := by
      have := dec8_dig no
      rw [List.all_eq_true] at this ⊢
      exact fun x hx => okc_dig (this x hx)
    rw [hd]
    rcases hk with rfl | rfl <;> rfl
  simp only [nameOk, ha, hl, Bool.and_true, Bool.and_eq_true, decide_eq_true_eq]
  omega
theorem fnew_ok {dir : ByteArray} (hd : dirOk dir = true) : nameOk (fnew dir) = true := by
  simp only [dirOk, nameOk, Bool.and_eq_true, decide_eq_true_eq] at hd
  obtain ⟨⟨⟨h1, h2⟩, h3⟩, h4⟩ := hd
  have hl : (fnew dir).size = dir.size + 4 := by rw [size_list, fnew, list_append, List.length_append]; rfl
  have ha : (fnew dir).data.toList.all okc = true := by
    rw [fnew, list_append, List.all_append, h3]; rfl
  simp only [nameOk, ha, hl, Bool.and_true, Bool.and_eq_true, decide_eq_true_eq]
  omega
section
variable {σ : Hp} {R : Ending → Hp → Prop}
theorem fileW_spec {b : Nat} {dir kind : ByteArray} {no : Nat} (hl : σ.ld ⟨b, 0 + 1, none⟩ = some (.string dir)) (hd : dir.size ≤ 32) (hk : kind = kc ∨ kind = ks) (hn : no < 100000000) (ht : Tb σ)
    (h : ∀ σ', Ext σ σ' → R (.returned (.string (fname dir kind no))) σ') : Spec prog wal_Wal_file.fid #[.pointer (some ⟨b, 0, none⟩), .string kind, .int .i64 no] σ R := by
  have hks : kind.size = 1 := by rcases hk with rfl | rfl <;> rfl
  have hs1 : (slash).size = 1 := rfl
  refine wal_Wal_file.start ⟨b, 0, rfl, dir, hl, ?_, ?_, fun x15 h15 => ?_⟩
  · show dir.size + slash.size ≤ _; rw [hs1]; omega
  · rw [ByteArray.size_append, hks]; show dir.size + slash.size + 1 ≤ _; rw [hs1]; omega
  · have e15 : x15 = (no : Int) := by rw [h15]; simp [IntKind.wrap, IntKind.bits, IntKind.signed]; omega
    subst e15
    refine dec_spec hn ht fun σ' hx => ⟨_, rfl, Kp.of_ext hx, ?_, ?_⟩
    · have : (ByteArray.size ⟨(dec8 no).toArray⟩) = 8 := by
        show (dec8 no).toArray.size = 8
        rw [List.size_toArray, dec8_len hn]
      rw [ByteArray.size_append, ByteArray.size_append, this, hks]; show dir.size + slash.size + 1 + 8 ≤ _; rw [hs1]; omega
    · exact h σ' hx
theorem fresh_spec {b : Nat} {dir : ByteArray} (hl : σ.ld ⟨b, 0 + 1, none⟩ = some (.string dir)) (hd : dir.size ≤ 32) (h : R (.returned (.string (fnew dir))) σ) : Spec prog wal_Wal_fresh.fid #[.pointer (some ⟨b, 0, none⟩)] σ R := by
  refine wal_Wal_fresh.start ⟨b, 0, rfl, dir, hl, ?_, h⟩
  have : ByteArray.size ⟨#[47, 110, 101, 119]⟩ = 4 := rfl
  rw [this]; omega
theorem decFrom_dig : ∀ (l : List UInt8) (a : Nat), l.all isDig = true → Lib.decFrom a l = some (dvF a l)
  | [], a, _ => rfl
  | b :: l, a, h => by
    simp only [List.all_cons, Bool.and_eq_true] at h
    have hb := h.1
    simp [isDig] at hb
    rw [Lib.decFrom, Lib.digitVal, if_pos hb]
    simp only
    rw [decFrom_dig l _ h.2, dvF_cons]
theorem atoi_dig {l : List UInt8} (h0 : l ≠ []) (h : l.all isDig = true) : Lib.atoi l = some (dvF 0 l : Nat) := by
  match l, h0 with
  | b :: r, _ =>
    have hb := h
    simp only [List.all_cons, Bool.and_eq_true] at hb
    have hb := hb.1
    simp [isDig] at hb
    have n1 : (b == 45) = false := by
      rw [beq_eq_false_iff_ne]; intro e; subst e; simp at hb
    have n2 : (b == 43) = false := by
      rw [beq_eq_false_iff_ne]; intro e; subst e; simp at hb
    simp only [Lib.atoi, n1, n2, Lib.decNat, List.isEmpty_cons, decFrom_dig _ 0 h]
    rfl
theorem number_spec {b : Nat} {dir kind s : ByteArray} (hl : σ.ld ⟨b, 0 + 1, none⟩ = some (.string dir)) (hd : dir.size ≤ 32) (hk : kind = kc ∨ kind = ks)
    (h : R (.returned (.int .i64 (numOf dir kind s))) σ) : Spec prog wal_Wal_number.fid #[.pointer (some ⟨b, 0, none⟩), .string kind, .string s] σ R := by
  have hks : kind.size = 1 := by rcases hk with rfl | rfl <;> rfl
  have hs1 : (slash).size = 1 := rfl
  refine wal_Wal_number.start ⟨b, 0, rfl, dir, hl, ?_, ?_, cutp_spec (fun hf => ⟨_, _, rfl, fun _ => ?_, fun hh => (by cases hh)⟩) fun ht => ⟨_, _, rfl, fun hh => (by cases hh), fun _ => ⟨fun h8 => ?_, fun h8 => ?_⟩⟩⟩
  · show dir.size + slash.size ≤ _; rw [hs1]; omega
  · rw [ByteArray.size_append, hks]; show dir.size + slash.size + 1 ≤ _; rw [hs1]; omega
  · have hf' : begins s (cat dir kind) = false := hf
    have : numOf dir kind s = 0 := by simp [numOf, hf']
    rw [this] at h; exact h
  all_goals
    have ht' : begins s (cat dir kind) = true := ht
    have hr : (s.extract (cat dir kind).size s.size).data.toList = rest s (cat dir kind) := by
      rw [ext_list, rest, List.take_of_length_le (by rw [List.length_drop]; exact Nat.le_refl _)]
    have hsz : (s.extract (cat dir kind).size s.size).size = (rest s (cat dir kind)).length := by rw [size_list, hr]
  · have : numOf dir kind s = 0 := by
      have : (rest s (cat dir kind)).length ≠ 8 := fun e => h8 (by show ((s.extract (cat dir kind).size s.size).size : Int) = 8; rw [hsz, e]; rfl)
      simp [numOf, this]
    rw [this] at h; exact h
  · have hlen : (rest s (cat dir kind)).length = 8 := by
      have : ¬ (((s.extract (cat dir kind).size s.size).size : Int) ≠ 8) := h8
      rw [hsz] at this; omega
    show wal_Wal_number.pt19 R (s.extract (cat dir kind).size s.size) 0 σ
    generalize s.extract (cat dir kind).size s.size = t at hr hsz
    have bad : (∃ (k : Nat) (u : UInt8), (rest s (cat dir kind))[k]? = some u ∧ isDig u = false) → R (.returned (.int .i64 0)) σ := fun ⟨k, u, hu, hdg⟩ => by
      have hall : (rest s (cat dir kind)).all isDig = false := by
        rw [List.all_eq_false]
        exact ⟨u, List.mem_of_getElem? hu, by simp [hdg]⟩
      have : numOf dir kind s = 0 := by simp [numOf, hall]
      rw [this] at h; exact h
    suffices H : ∀ d k : Nat, 8 - k = d → k ≤ 8 → ((rest s (cat dir kind)).take k).all isDig = true → wal_Wal_number.pt19 R t k σ from H 8 0 rfl (by omega) rfl
    intro d
    induction d with
    | zero =>
      intro k hd hk hall
      rw [List.take_of_length_le (by omega)] at hall
      refine wal_Wal_number.pt19_of ⟨fun hh => by omega, fun _ => ?_⟩
      have hnum : numOf dir kind s = dvF 0 (rest s (cat dir kind)) := by rw [numOf, if_pos ⟨ht', hlen, hall⟩]
      rw [hnum] at h
      refine Spec.below (v := .tuple #[.int .i64 (dvF 0 (rest s (cat dir kind)) : Nat), .nilIface]) (fun w _ => (Go.Proofs.Tryz.strconv_Atoi t _ (by omega) (by rw [hr]; exact atoi_dig (fun e => by rw [e] at hlen; cases hlen) hall) w).mono ?_) ⟨_, _, rfl, h⟩
      rintro e w' ⟨he, t', hw⟩
      exact ⟨he, hw ▸ Go.Joins.below_bytesWorld _ _ _ _ (Nat.le_refl _)⟩
    | succ d ih =>
      intro k hd hk hall
      obtain ⟨u, hu⟩ : ∃ u, (rest s (cat dir kind))[k]? = some u := ⟨_, List.getElem?_eq_getElem (by omega)⟩
      have hu' : t.data[Int.toNat (k : Int)]? = some u := by
        rw [← hr] at hu
        simpa using hu
      refine wal_Wal_number.pt19_of ⟨fun _ => ⟨u, by omega, hu', fun hlo => bad ⟨k, u, hu, by simp [isDig]; omega⟩, fun hlo => ⟨u, by omega, hu', fun hhi => bad ⟨k, u, hu, by simp [isDig]; omega⟩, fun hhi => ⟨by unfold I64; omega, ih (k + 1) (by omega) (by omega) ?_⟩⟩⟩, fun hh => by omega⟩
      rw [take_succ' hu, List.all_append, hall]
      simp [isDig]; omega
end
end TwW
end
section
set_option linter.unusedVariables false
namespace TwW
open Go Tw Go.RowKit Go.Proofs.Tryz
abbrev pan (code : Int) : List PanicEntry := [{ v := .iface 98 (.agg #[.int .i64 code]), recovered := false }]
theorem neq_nil (w : World) : (binOp BinOp.neq 20 .nilIface .nilIface).run prog w = .ok (.bool false) w := by kernel_rfl
theorem neq_stop (c : Int) (w : World) : (binOp BinOp.neq 20 (.iface 98 (.agg #[.int .i64 c])) .nilIface).run prog w = .ok (.bool true) w := by kernel_rfl
theorem catch_idle (p : Addr) (w : World) :
    CallsD prog 64 #[.pointer (some p)] .returning w fun e u' w' => e = .returned (.tuple #[]) ∧ u' = .returning ∧ w' = w := by
  refine callsD_of_wpS func64 rfl fun c₀ cs hu => ?_
  apply wpS_seq
  apply wpS_region
  simp [wpOpsS, go_sem, recoverD, hu, Exit.thenS]
  apply wpS_seq
  apply wpS_region
  simp [wpOpsS, go_sem, Exit.thenS, neq_nil]
  refine wpS_cond (t := false) (by simp [Act.eval, Array.replicate, ntmps64]) ?_
  simp only [Bool.false_eq_true, if_false]
  refine wpS_of_wp (wp_skip ?_)
  cases c₀
  simp_all [bodyPostS, results, results64, Exit.thenS]
theorem typeStop (c : Int) (w : World) : (Instr.typeAssert (.iface 98 (.agg #[.int .i64 c])) 20 98 true).run prog w = .ok (.tuple #[.agg #[.int .i64 c], .bool true]) w := by
  simp [Instr.typeAssert, run_underlying underlying98]
theorem catch_stop (b : Nat) (code : Int) (w : World) {x : Value} {T : TypeId} (hb : w.heap[b]? = some (.cells #[x] T (0, 0))) :
    CallsD prog 64 #[.pointer (some ⟨b, 0, none⟩)] (.panicking (pan code)) w fun e u' w' => e = .returned (.tuple #[]) ∧ u' = .panicking [{ v := .iface 98 (.agg #[.int .i64 code]), recovered := true }] ∧
      w' = (w.alloc (.cells #[.int .i64 code] 98)).setCell ⟨b, 0, none⟩ (.int .i64 code) := by
  have hlt : b < w.heap.size := (Array.getElem?_eq_some_iff.1 hb).1
  have hh : (w.alloc (.cells #[.int .i64 code] 98)).heap[b]? = some (.cells #[x] T (0, 0)) := by
    have e : (w.alloc (.cells #[.int .i64 code] 98)).heap = w.heap.push (.cells #[.int .i64 code] 98) := rfl
    rw [e, Array.getElem?_push, if_neg (by omega)]; exact hb
  have hc : (w.alloc (.cells #[.int .i64 code] 98)).cell? ⟨b, 0, none⟩ = some x := by simp only [World.cell?, hh]; rfl
  have hfz : (w.alloc (.cells #[.int .i64 code] 98)).frozen? ⟨b, 0, none⟩ = false := by simp only [World.frozen?, hh]; rfl
  refine callsD_of_wpS func64 rfl fun c₀ cs hu => ?_
  apply wpS_seq
  apply wpS_region
  simp [wpOpsS, go_sem, recoverD, hu, Exit.thenS]
  apply wpS_seq
  apply wpS_region
  simp [wpOpsS, go_sem, Exit.thenS, neq_stop]
  refine wpS_cond (t := true) (by simp [Act.eval, Array.replicate, ntmps64]) ?_
  simp only [if_true]
  apply wpS_seq
  apply wpS_region
  simp [wpOpsS, go_sem, Exit.thenS, typeStop]
  apply wpS_seq
  apply wpS_seq
  apply wpS_region
  simp [wpOpsS, go_sem, Exit.thenS]
  refine wpS_cond (t := false) (by simp [Act.eval, Array.replicate, ntmps64]) ?_
  simp only [Bool.false_eq_true, if_false]
  refine wpS_of_wp (wp_skip ?_)
  simp only [Exit.thenS]
  apply wpS_region
  simp [wpOpsS, go_sem, Exit.thenS, hc, hfz]
  simp [bodyPostS, results, results64]
theorem cell_set {w : World} {b : Nat} {x v : Value} {T : TypeId} (h : w.heap[b]? = some (.cells #[x] T (0, 0))) : (w.setCell ⟨b, 0, none⟩ v).heap[b]? = some (.cells #[v] T (0, 0)) ∧ ∀ k, k ≠ b → (w.setCell ⟨b, 0, none⟩ v).heap[k]? = w.heap[k]? := by
  have hlt : b < w.heap.size := (Array.getElem?_eq_some_iff.1 h).1
  refine ⟨?_, fun k hk => ?_⟩
  · simp only [World.setCell, Array.getElem?_modify, if_true, h]; rfl
  · simp only [World.setCell, Array.getElem?_modify, if_neg (Ne.symm hk)]
theorem caught_at (f : Nat) (cap : Array Value) (w : World) (hen : ∀ w, (callFunc f cap).run prog w = .ok (.enter f cap) w) {R : Ending → World → Prop} (h : Calls prog f cap (w.alloc (.cells #[.int .i64 0] 27)) fun e w' => w'.heap[w.heap.size]? = some (.cells #[.int .i64 0] 27 (0, 0)) ∧
      ((e = .returned (.tuple #[]) ∧ R (.returned (.int .i64 0)) (w'.setCell ⟨w.heap.size, 0, none⟩ (.int .i64 0))) ∨ (∃ code, e = .panicked (pan code) ∧ R (.returned (.int .i64 code)) ((w'.alloc (.cells #[.int .i64 code] 98)).setCell ⟨w.heap.size, 0, none⟩ (.int .i64 code))))) :
    Calls prog 37 #[.func (.func f) #[] cap] w R := by
  have hmf : ∀ (fn : Fn) (first cap : Array Value) (w : World), (Instr.makeFunc fn first cap).run prog w = .ok (.func fn first cap) w := fun _ _ _ _ => rfl
  go_enter_defers func37, ntmps37
  go_wp2
  rename_i K1 ha1 K2 ha2
  refine h.mono ?_
  rintro e w' ⟨hcell, ⟨rfl, hR⟩ | ⟨code, rfl, hR⟩⟩
  · have hc : w'.cell? ⟨w.heap.size, 0, none⟩ = some (.int .i64 0) := by simp only [World.cell?, hcell]; rfl
    have hfz : w'.frozen? ⟨w.heap.size, 0, none⟩ = false := by simp only [World.frozen?, hcell]; rfl
    apply ha2
    simp only [wpList, Exit.then]
    apply ha1
    go_wp2
    have hc2 : (w'.setCell ⟨w.heap.size, 0, none⟩ (.int .i64 0)).cell? ⟨w.heap.size, 0, none⟩ = some (.int .i64 0) := by simp only [World.cell?, (cell_set hcell).1]; rfl
    simp only [bodyPostD]
    refine leaves_cons (f := 64) (args := #[.pointer (some ⟨w.heap.size, 0, none⟩)]) (by simp) (by simp [go_sem]) ?_
    refine (catch_idle ⟨w.heap.size, 0, none⟩ _).mono ?_
    rintro e u' w'' ⟨rfl, rfl, rfl⟩
    simp [Leaves, settle, results, results37, go_sem, hc2]
    exact hR
  · simp only [bodyPostD]
    refine leaves_cons (f := 64) (args := #[.pointer (some ⟨w.heap.size, 0, none⟩)]) (by simp) (by simp [go_sem]) ?_
    refine (catch_stop w.heap.size code w' hcell).mono ?_
    rintro e u' w'' ⟨rfl, rfl, rfl⟩
    have hh : (w'.alloc (.cells #[.int .i64 code] 98)).heap[w.heap.size]? = some (.cells #[.int .i64 0] 27 (0, 0)) := by
      have hlt : w.heap.size < w'.heap.size := (Array.getElem?_eq_some_iff.1 hcell).1
      have e : (w'.alloc (.cells #[.int .i64 code] 98)).heap = w'.heap.push (.cells #[.int .i64 code] 98) := rfl
      rw [e, Array.getElem?_push, if_neg (by omega)]; exact hcell
    have hc2 : ((w'.alloc (.cells #[.int .i64 code] 98)).setCell ⟨w.heap.size, 0, none⟩ (.int .i64 code)).cell? ⟨w.heap.size, 0, none⟩ = some (.int .i64 code) := by simp only [World.cell?, (cell_set hh).1]; rfl
    simp [Leaves, settle, results, results37, go_sem, hc2]
    exact hR
theorem caught_spec {σ : Hp} {R : Ending → Hp → Prop} {f : Nat} {cap : Array Value} (hen : Enters prog f)
    (h : Spec prog f cap σ fun e σ' => (e = .returned (.tuple #[]) ∧ R (.returned (.int .i64 0)) σ') ∨ ∃ code, e = .panicked (pan code) ∧ R (.returned (.int .i64 code)) σ') : Spec prog 37 #[.func (.func f) #[] cap] σ R := fun w F hs hF => by
  have hsz : (w.alloc (.cells #[.int .i64 0] 27)).heap.size = w.heap.size + 1 := by
    have e : (w.alloc (.cells #[.int .i64 0] 27)).heap = w.heap.push (.cells #[.int .i64 0] 27) := rfl
    rw [e]; simp
  have hold : ∀ k : Nat, k < w.heap.size → (w.alloc (.cells #[.int .i64 0] 27)).heap[k]? = w.heap[k]? := fun k hk => by
    have e : (w.alloc (.cells #[.int .i64 0] 27)).heap = w.heap.push (.cells #[.int .i64 0] 27) := rfl
    rw [e, Array.getElem?_push, if_neg (by omega)]
  have hnew : (w.alloc (.cells #[.int .i64 0] 27)).heap[w.heap.size]? = some (.cells #[.int .i64 0] 27 (0, 0)) := by
    have e : (w.alloc (.cells #[.int .i64 0] 27)).heap = w.heap.push (.cells #[.int .i64 0] 27) := rfl
    rw [e]; simp
  have hlt : ∀ b o, σ b = some o → b < w.heap.size := fun b o hb => (Array.getElem?_eq_some_iff.1 (hs b o hb)).1
  refine caught_at f cap w (fun w => hen cap w) ((h (w.alloc (.cells #[.int .i64 0] 27)) (fun k => F k ∨ k = w.heap.size) (fun b o hb => by rw [hold b (hlt b o hb)]; exact hs b o hb) (fun k hk => ?_)).mono ?_)
  · rw [hsz]
    rcases hk with hk | rfl
    · exact ⟨by have := (hF k hk).1; omega, (hF k hk).2⟩
    · exact ⟨by omega, hp_fresh hs⟩
  · rintro e w' ⟨σ', hr, hf⟩
    have hp := hf.prot w.heap.size (.inr rfl)
    have hcell := hp.2.trans hnew
    have key : ∀ (w2 : World) (v : Value), w2.heap[w.heap.size]? = some (.cells #[.int .i64 0] 27 (0, 0)) → (∀ (k : Nat) (o : Obj), w'.heap[k]? = some o → w2.heap[k]? = some o) → (∀ k : Nat, k < w'.heap.size → w2.heap[k]? = w'.heap[k]?) → w'.heap.size ≤ w2.heap.size → w2.os = w'.os → w2.tape = w'.tape → w2.output = w'.output →
        Fin σ' F w (w2.setCell ⟨w.heap.size, 0, none⟩ v) := by
      intro w2 v h1 h2 h2' h3 h4 h5 h6
      have hset := cell_set (v := v) h1
      refine ⟨fun b o hb => ?_, fun k hk => ?_, ⟨h4.trans hf.os.1, h5.trans hf.os.2.1, 0, rfl⟩, h6.trans hf.out, ?_⟩
      · have hne : b ≠ w.heap.size := fun e => by rw [e, hp.1] at hb; cases hb
        rw [hset.2 b hne]; exact h2 b o (hf.sat b o hb)
      · have hkl := (hF k hk).1
        have hne : k ≠ w.heap.size := by omega
        have hpk := hf.prot k (.inl hk)
        refine ⟨hpk.1, ?_⟩
        rw [hset.2 k hne, h2' k (by have := hf.grow; rw [hsz] at this; omega), hpk.2, hold k hkl]
      · have := hf.grow
        rw [hsz] at this
        have e : (w2.setCell ⟨w.heap.size, 0, none⟩ v).heap.size = w2.heap.size := by simp [World.setCell]
        omega
    refine ⟨hcell, ?_⟩
    rcases hr with ⟨rfl, hr⟩ | ⟨code, rfl, hr⟩
    · exact .inl ⟨rfl, σ', hr, key w' _ hcell (fun k o h => h) (fun k _ => rfl) (Nat.le_refl _) rfl rfl rfl⟩
    · have e : (w'.alloc (.cells #[.int .i64 code] 98)).heap = w'.heap.push (.cells #[.int .i64 code] 98) := rfl
      have hg : ∀ k : Nat, k < w'.heap.size → (w'.alloc (.cells #[.int .i64 code] 98)).heap[k]? = w'.heap[k]? := fun k hk => by rw [e, Array.getElem?_push, if_neg (by omega)]
      have hlt2 : w.heap.size < w'.heap.size := (Array.getElem?_eq_some_iff.1 hcell).1
      exact .inr ⟨code, rfl, σ', hr, key _ _ (by rw [hg _ hlt2]; exact hcell) (fun k o h => by rw [hg k (Array.getElem?_eq_some_iff.1 h).1]; exact h) hg (by rw [e]; simp) rfl rfl rfl⟩
end TwW
end
section
set_option linter.unusedVariables false
namespace TwW
open Go Tw Go.RowKit Go.Proofs.Tryz
structure Wl where
  dir : ByteArray
  check : Nat
  segs : List Nat
  opn : Nat
  size : Nat
abbrev asI (l : List Nat) : List Int := l.map fun (n : Nat) => (n : Int)
abbrev walC (d : Nat) (W : Wl) (p : Option Addr) (n c : Nat) : Array Value := #[.pointer (some ⟨d, 0, none⟩), .string W.dir, .int .i64 W.check, .slice p n c, .int .i64 W.opn, .int .i64 W.size]
structure WalAt (σ : Hp) (b d : Nat) (W : Wl) (S : List Nat) (p : Option Addr) (c : Nat) (T : TypeId) : Prop where
  foot : S = b :: blk p
  out : b ∉ blk p
  obj : σ b = some (.cells (walC d W p W.segs.length c) T (0, 0))
  own : OwnI .i64 σ p W.segs.length c (asI W.segs)
section
variable {σ σ' τ τ' : Hp} {b d : Nat} {W : Wl} {S Sd : List Nat} {p : Option Addr} {c : Nat} {T : TypeId} {D : Dk}
theorem WalAt.known (h : WalAt σ b d W S p c T) : ∀ k ∈ S, σ k ≠ none := by
  intro k hk
  rw [h.foot] at hk
  rcases List.mem_cons.1 hk with rfl | hk
  · rw [h.obj]; simp
  · cases p with
    | none => cases hk
    | some a => simp [blk] at hk; subst hk; exact h.own.block a rfl
theorem WalAt.loc (h : WalAt σ b d W S p c T) (hs : ∀ k ∈ S, σ' k = σ k) : WalAt σ' b d W S p c T := by
  have hf := h.foot
  subst hf
  exact ⟨rfl, h.out, (hs b (by simp)).trans h.obj, Own.loc h.own fun k hk => hs k (by simp [hk])⟩
theorem WalAt.mono (h : WalAt σ b d W S p c T) (hx : Ext σ σ') : WalAt σ' b d W S p c T := h.loc fun k hk => by
  cases hs : σ k with
  | none => exact absurd hs (h.known k hk)
  | some o => exact hx k o hs
theorem WalAt.b_mem (h : WalAt σ b d W S p c T) : b ∈ S := by rw [h.foot]; simp
def DiskU (σ : Hp) (d : Nat) (D : Dk) (τ : Hp) : Prop := ∃ S, DiskAt σ d D S ∧ Ext τ (σ.off S)
def LogU (σ : Hp) (d b : Nat) (D : Dk) (W : Wl) (τ : Hp) : Prop := ∃ Sd S p c T, DiskAt σ d D Sd ∧ WalAt (σ.off Sd) b d W S p c T ∧ Ext τ ((σ.off Sd).off S)
theorem DiskU.names (h : DiskU σ d D τ) : ∀ s, (D.files s).isSome = true → nameOk s = true := let ⟨_, h1, _⟩ := h; h1.names
theorem DiskU.ext (h : DiskU σ d D τ) : Ext τ σ := let ⟨S, _, h2⟩ := h; h2.trans (Ext.of_off _ _)
theorem LogU.ext (h : LogU σ d b D W τ) : Ext τ σ := let ⟨_, _, _, _, _, _, _, h3⟩ := h; h3.trans ((Ext.of_off _ _).trans (Ext.of_off _ _))
theorem DiskU.weak (h : DiskU σ d D τ) (hx : Ext τ' τ) : DiskU σ d D τ' := let ⟨S, h1, h2⟩ := h; ⟨S, h1, hx.trans h2⟩
theorem LogU.weak (h : LogU σ d b D W τ) (hx : Ext τ' τ) : LogU σ d b D W τ' := let ⟨Sd, S, p, c, T, h1, h2, h3⟩ := h; ⟨Sd, S, p, c, T, h1, h2, hx.trans h3⟩
theorem LogU.disk (h : LogU σ d b D W τ) : DiskU σ d D τ := let ⟨Sd, S, p, c, T, h1, h2, h3⟩ := h; ⟨Sd, h1, h3.trans (Ext.of_off _ _)⟩
theorem DiskU.grow (h : DiskU σ d D τ) (hx : Ext σ σ') : ∃ τ', DiskU σ' d D τ' ∧ Ext τ τ' ∧ Ext (σ.new σ') τ' := by
  obtain ⟨S, h1, h2⟩ := h
  refine ⟨σ'.off S, ⟨S, h1.mono hx, Ext.refl _⟩, h2.trans (hx.off S), fun k o hk => ?_⟩
  obtain ⟨h3, h4⟩ := new_some.1 hk
  exact Hp.off_some.2 ⟨fun hs => h1.known k hs h3, h4⟩
theorem LogU.grow (h : LogU σ d b D W τ) (hx : Ext σ σ') : ∃ τ', LogU σ' d b D W τ' ∧ Ext τ τ' ∧ Ext (σ.new σ') τ' := by
  obtain ⟨Sd, S, p, c, T, h1, h2, h3⟩ := h
  refine ⟨(σ'.off Sd).off S, ⟨Sd, S, p, c, T, h1.mono hx, h2.mono (hx.off Sd), Ext.refl _⟩, h3.trans ((hx.off Sd).off S), fun k o hk => ?_⟩
  obtain ⟨h4, h5⟩ := new_some.1 hk
  refine Hp.off_some.2 ⟨fun hs => ?_, Hp.off_some.2 ⟨fun hs => h1.known k hs h4, h5⟩⟩
  have := h2.known k hs
  exact this (Hp.off_none h4)
theorem LogU.mono (h : LogU σ d b D W τ) (hx : Ext σ σ') : LogU σ' d b D W τ := let ⟨_, h1, h2, _⟩ := h.grow hx; h1.weak h2
theorem DiskU.mono (h : DiskU σ d D τ) (hx : Ext σ σ') : DiskU σ' d D τ := let ⟨_, h1, h2, _⟩ := h.grow hx; h1.weak h2
theorem LogU.box {k : Nat} {o : Obj} (h : LogU σ d b D W τ) (hk : σ k = none) : ∃ τ', LogU (σ.set k o) d b D W τ' ∧ Ext τ τ' ∧ τ' k = some o := by
  obtain ⟨τ', h1, h2, h3⟩ := h.grow (.set hk (o := o))
  exact ⟨τ', h1, h2, h3 k o (new_some.2 ⟨hk, Hp.set_same _ _ _⟩)⟩
theorem DiskU.box {k : Nat} {o : Obj} (h : DiskU σ d D τ) (hk : σ k = none) : ∃ τ', DiskU (σ.set k o) d D τ' ∧ Ext τ τ' ∧ τ' k = some o := by
  obtain ⟨τ', h1, h2, h3⟩ := h.grow (.set hk (o := o))
  exact ⟨τ', h1, h2, h3 k o (new_some.2 ⟨hk, Hp.set_same _ _ _⟩)⟩
theorem LogU.step {D' : Dk} {S S' : List Nat} (h1 : WalAt (σ.off Sd) b d W S p c T) (h2 : Ext τ ((σ.off Sd).off S)) (hd : DiskAt σ' d D' S') (hx : Ext (σ.off Sd) (σ'.off S')) : LogU σ' d b D' W τ :=
  ⟨S', S, p, c, T, hd, h1.mono hx, h2.trans (hx.off S)⟩
structure LogR (σ : Hp) (d b : Nat) (D : Dk) (W : Wl) : Prop where
  ptr : σ.ld ⟨b, 0, none⟩ = some (.pointer (some ⟨d, 0, none⟩))
  dir : σ.ld ⟨b, 0 + 1, none⟩ = some (.string W.dir)
  check : σ.ld ⟨b, 0 + 2, none⟩ = some (.int .i64 W.check)
  segs : ∃ p c, W.segs.length ≤ c ∧ σ.ld ⟨b, 0 + 3, none⟩ = some (.slice p W.segs.length c) ∧ RdI .i64 σ p W.segs.length (asI W.segs)
  opn : σ.ld ⟨b, 0 + 4, none⟩ = some (.int .i64 W.opn)
  size : σ.ld ⟨b, 0 + 5, none⟩ = some (.int .i64 W.size)
theorem LogU.rd (h : LogU σ d b D W τ) : LogR σ d b D W := by
  obtain ⟨Sd, S, p, c, T, h1, h2, h3⟩ := h
  have h2 := h2.mono (Ext.of_off _ _)
  exact ⟨ld_of h2.obj rfl, ld_of h2.obj rfl, ld_of h2.obj rfl, ⟨p, c, Own.cap h2.own, ld_of h2.obj rfl, h2.own.rd⟩, ld_of h2.obj rfl, ld_of h2.obj rfl⟩
theorem LogU.st {W' : Wl} {i : Nat} {x : Int} {Φ : Unit → Hp → Prop} (h : LogU σ d b D W τ) (hi : i + 1 ≤ 6) (hs : W'.segs = W.segs)
    (hw : ∀ p n c, wrt (walC d W p n c) i [Value.int .i64 x] = walC d W' p n c) (hΦ : ∀ σ', LogU σ' d b D W' τ → Φ () σ') : Eff prog (Instr.storeAt 3 (.pointer (some ⟨b, i, none⟩)) (.int .i64 x)) σ Φ := by
  obtain ⟨Sd, S, p, c, T, h1, h2, h3⟩ := h
  have hb := Hp.off_some.1 h2.obj
  refine Eff.store (v := .int .i64 x) size3 hb.2 rfl (by simp; omega) (by simp [Value.cells, Value.oneCell']) ?_
  refine hΦ _ ⟨Sd, S, p, c, T, h1.loc fun k hk => Hp.set_ne fun e => hb.1 (e ▸ hk), ?_, ?_⟩
  · rw [Hp.off_set hb.1]
    refine ⟨h2.foot, h2.out, by rw [Hp.set_same, hs]; exact congrArg (fun a => some (Obj.cells a T (0, 0))) (hw p _ c), ?_⟩
    rw [hs]
    exact Own.loc h2.own fun k hk => Hp.set_ne fun e => h2.out (e ▸ hk)
  · rw [Hp.off_set hb.1, Hp.set_off h2.b_mem]; exact h3
theorem size64 : ∀ w, (Go.sizeOf 64).run prog w = .ok 1 w := fun w => by
  have h : prog.info? 64 = some t64 := by kernel_rfl
  simp [Go.sizeOf, typeInfo, h, show t64.size = 1 from rfl]
theorem LogU.cut {p' : Option Addr} {n' c' : Nat} {l : List Nat} {Φ : Unit → Hp → Prop} (h : LogU σ d b D W τ) (hl : l.length = n')
    (hp : ∀ p c, σ.ld ⟨b, 0 + 3, none⟩ = some (.slice p W.segs.length c) → blk p' = blk p ∧ ∀ ρ, OwnI .i64 ρ p W.segs.length c (asI W.segs) → OwnI .i64 ρ p' n' c' (asI l))
    (hΦ : ∀ σ', LogU σ' d b D { W with segs := l } τ → Φ () σ') : Eff prog (Instr.storeAt 64 (.pointer (some ⟨b, 0 + 3, none⟩)) (.slice p' n' c')) σ Φ := by
  obtain ⟨Sd, S, p, c, T, h1, h2, h3⟩ := h
  have hb := Hp.off_some.1 h2.obj
  obtain ⟨e1, e2⟩ := hp p c (ld_of hb.2 rfl)
  refine Eff.store (v := .slice p' n' c') size64 hb.2 rfl (by simp) (by simp [Value.cells, Value.oneCell']) ?_
  refine hΦ _ ⟨Sd, S, p', c', T, h1.loc fun k hk => Hp.set_ne fun e => hb.1 (e ▸ hk), ?_, ?_⟩
  · rw [Hp.off_set hb.1]
    refine ⟨by rw [e1]; exact h2.foot, by rw [e1]; exact h2.out, by rw [Hp.set_same]; subst hl; rfl, ?_⟩
    have := e2 _ h2.own
    subst hl
    exact Own.loc this fun k hk => Hp.set_ne fun e => h2.out (by rw [← e1]; exact e ▸ hk)
  · rw [Hp.off_set hb.1, Hp.set_off h2.b_mem]; exact h3
theorem LogU.app {k : Nat} {p : Option Addr} {n c b58 : Nat} {Φ : Unit → Hp → Prop} (h : LogU σ d b D W τ) (hp : σ.ld ⟨b, 0 + 3, none⟩ = some (.slice p n c)) (hbig : W.segs.length ≤ 67108864) (hn : σ b58 = none) {K : Hp → Hp → Prop}
    (hK : ∀ σ', Ext τ σ' → K (σ.set b58 (.cells #[.int .i64 k] 3 (0, 0))) σ')
    (hΦ : ∀ σ', LogU σ' d b D { W with segs := W.segs ++ [k] } τ → Φ () σ') :
    Eff prog (Builtin.append_ #[64, 64] 64 #[.slice p n c, .slice (some ⟨b58, 0, none⟩) 1 1]) (σ.set b58 (.cells #[.int .i64 k] 3 (0, 0))) (fun v σ1 => ∃ p' n' c', v = .slice p' n' c' ∧ K (σ.set b58 (.cells #[.int .i64 k] 3 (0, 0))) σ1 ∧
      Eff prog (Instr.storeAt 64 (.pointer (some ⟨b, 0 + 3, none⟩)) (.slice p' n' c')) σ1 Φ) := by
  obtain ⟨Sd, S, p0, c0, T, h1, h2, h3⟩ := h
  have hb := Hp.off_some.1 h2.obj
  have hpe : σ.ld ⟨b, 0 + 3, none⟩ = some (.slice p0 W.segs.length c0) := ld_of hb.2 rfl
  rw [hpe] at hp
  cases hp
  let σ1 : Hp := σ.set b58 (.cells #[.int .i64 k] 3 (0, 0))
  have hx : Ext σ σ1 := .set hn
  have hd1 := h1.mono hx
  have hw1 := h2.mono (hx.off Sd)
  have h31 := h3.trans ((hx.off Sd).off S)
  have hlit : RdC 1 σ1 (some ⟨b58, 0, none⟩) 1 [.int .i64 k] := ⟨rfl, by omega, .inr ⟨b58, 0, rfl, ld_of (Hp.set_same _ _ _) rfl, trivial⟩⟩
  have hown : OwnI .i64 σ1 p W.segs.length c (asI W.segs) := hw1.own.mono (Ext.of_off _ _)
  refine app_eff2 (T := 64) hown hlit (fun u hu => by simp at hu; subst hu; rfl) (by omega) fun p' c' σ2 ho2 hx2 _ => ?_
  rw [Hp.del_off, Hp.del_off] at hx2
  have keep : ∀ j o, j ∉ blk p → σ1 j = some o → σ2 j = some o ∧ j ∉ blk p' := fun j o h4 h5 => by
    have := Hp.off_some.1 (hx2 j o (Hp.off_some.2 ⟨h4, h5⟩)); exact ⟨this.2, this.1⟩
  have hp0 : ∀ j ∈ Sd, j ∉ blk p := fun j hj hj' => hw1.known j (by rw [hw1.foot]; simp [hj']) (Hp.off_in hj)
  have hd2 : DiskAt σ2 d D Sd := hd1.loc fun j hj => by
    cases hs : σ1 j with
    | none => exact absurd hs (hd1.known j hj)
    | some o => exact (keep j o (hp0 j hj) hs).1
  have hpSd : ∀ j ∈ blk p', j ∉ Sd := fun j hj hs => by
    cases hs1 : σ1 j with
    | none => exact absurd hs1 (hd1.known j hs)
    | some o => exact (keep j o (hp0 j hs) hs1).2 hj
  have hb1 := Hp.off_some.1 hw1.obj
  have hb2 := keep b _ hw1.out hb1.2
  have hτ : Ext τ ((σ2.off Sd).off (b :: blk p')) := fun j o hj => by
    have h4 := Hp.off_some.1 (h31 j o hj)
    have h5 := Hp.off_some.1 h4.2
    rw [hw1.foot] at h4
    simp only [List.mem_cons, not_or] at h4
    have h6 := keep j o h4.1.2 h5.2
    exact Hp.off_some.2 ⟨by simp [h4.1.1, h6.2], Hp.off_some.2 ⟨h5.1, h6.1⟩⟩
  refine ⟨p', _, c', rfl, hK σ2 (hτ.trans ((Ext.of_off _ _).trans (Ext.of_off _ _))), ?_⟩
  refine Eff.store (v := .slice p' (W.segs.length + 1) c') size64 hb2.1 rfl (by simp) (by simp [Value.cells, Value.oneCell']) ?_
  refine hΦ _ ⟨Sd, b :: blk p', p', c', T, hd2.loc fun j hj => Hp.set_ne fun e => hb1.1 (e ▸ hj), ?_, ?_⟩
  · rw [Hp.off_set hb1.1]
    refine ⟨rfl, hb2.2, by rw [Hp.set_same, List.length_append]; rfl, ?_⟩
    have ho3 : OwnI .i64 σ2 p' (W.segs ++ [k]).length c' (asI (W.segs ++ [k])) := by simpa [OwnI] using ho2
    have ho4 : OwnI .i64 (σ2.off Sd) p' (W.segs ++ [k]).length c' (asI (W.segs ++ [k])) := Own.loc ho3 fun j hj => Hp.off_out (hpSd j hj)
    exact Own.loc ho4 fun j hj => Hp.set_ne fun e => hb2.2 (e ▸ hj)
  · rw [Hp.off_set hb1.1, Hp.set_off (by simp)]; exact hτ
end
end TwW
end
section
set_option linter.unusedVariables false
namespace TwW
open Go Tw Go.RowKit Go.Proofs.Tryz
abbrev Recs := List (List Int)
abbrev Fs := ByteArray → Option Fl
def Good (rs : Recs) : Prop := ∀ r ∈ rs, r.length ≤ 65536 ∧ By8 r
theorem Good.short {rs : Recs} (h : Good rs) : Short rs := fun r hr => (h r hr).1
theorem Good.nil : Good [] := fun r hr => by cases hr
theorem Good.append {rs ss : Recs} (h : Good rs) (g : Good ss) : Good (rs ++ ss) := fun r hr => (List.mem_append.1 hr).elim (h r) (g r)
theorem Good.left {rs ss : Recs} (h : Good (rs ++ ss)) : Good rs := fun r hr => h r (List.mem_append_left _ hr)
theorem Good.right {rs ss : Recs} (h : Good (rs ++ ss)) : Good ss := fun r hr => h r (List.mem_append_right _ hr)
theorem Good.take {rs : Recs} (h : Good rs) (k : Nat) : Good (rs.take k) := fun r hr => h r (List.mem_of_mem_take hr)
theorem by8_append {xs ys : List Int} (hx : By8 xs) (hy : By8 ys) : By8 (xs ++ ys) := fun a ha => (List.mem_append.1 ha).elim (hx a) (hy a)
theorem by8_frame {r : List Int} (h : r.length ≤ 65536) (h8 : By8 r) : By8 (frame r) := by
  unfold frame
  refine by8_append (by8_append (uv_by8 9 _ (by omega)) ?_) h8
  intro x hx
  simp only [be4, List.mem_cons, List.not_mem_nil, or_false] at hx
  rcases hx with rfl | rfl | rfl | rfl <;> omega
theorem by8_join : ∀ {rs : Recs}, Good rs → By8 (joinF rs)
  | [], _ => fun x hx => by cases hx
  | r :: rs, h => by
    rw [joinF_cons]
    exact by8_append (by8_frame (h r (by simp)).1 (h r (by simp)).2) (by8_join fun x hx => h x (by simp [hx]))
theorem by8_take {xs : List Int} (h : By8 xs) (k : Nat) : By8 (xs.take k) := fun x hx => h x (List.mem_of_mem_take hx)
theorem torn_take {r : List Int} {j : Nat} (hr : r.length ≤ 65536) (hj : j < (frame r).length) : Torn ((frame r).take j) := fun r' ⟨h1, rest, h2⟩ => by
  rw [List.drop_zero] at h2
  have h3 : frame r' ++ (rest ++ (frame r).drop j) = frame r := by rw [← List.append_assoc, ← h2, List.take_append_drop]
  have h4 : uv r'.length ++ (be4 (crc r') ++ (r' ++ (rest ++ (frame r).drop j))) = uv r.length ++ (be4 (crc r) ++ r) := by
    generalize rest ++ (frame r).drop j = Z at h3
    simpa [frame, List.append_assoc] using h3
  have h5 := (uv_inj _ _ _ _ h4).1
  have h6 := congrArg List.length h2
  rw [List.length_append, frame_len, h5, List.length_take] at h6
  rw [frame_len] at hj h6
  omega
theorem cut_join : ∀ (rs : Recs) (j : Nat), Short rs → ∃ k t, k ≤ rs.length ∧ (joinF rs).take j = joinF (rs.take k) ++ t ∧ Torn t ∧ ∀ m, m ≤ rs.length → (joinF (rs.take m)).length ≤ j → m ≤ k
  | [], j, _ => ⟨0, [], Nat.le_refl _, by simp [joinF], torn_nil, fun m hm _ => hm⟩
  | r :: rs, j, hs => by
    by_cases hj : j < (frame r).length
    · refine ⟨0, (frame r).take j, Nat.zero_le _, by rw [joinF_cons, List.take_append_of_le_length (by omega)]; simp [joinF], torn_take (hs r (by simp)) hj, fun m hm h => ?_⟩
      cases m with
      | zero => exact Nat.le_refl _
      | succ m =>
        rw [List.take_succ_cons, joinF_cons, List.length_append] at h
        omega
    · obtain ⟨k, t, h1, h2, h3, h4⟩ := cut_join rs (j - (frame r).length) fun x hx => hs x (by simp [hx])
      refine ⟨k + 1, t, by simp; omega, ?_, h3, fun m hm h => ?_⟩
      · rw [joinF_cons, List.take_append, List.take_of_length_le (by omega), h2, List.take_succ_cons, joinF_cons, List.append_assoc]
      · cases m with
        | zero => omega
        | succ m =>
          rw [List.take_succ_cons, joinF_cons, List.length_append] at h
          have := h4 m (by simp at hm; exact hm) (by omega)
          omega
def Has (fs : Fs) (s : ByteArray) (x : List Int) : Prop := ∃ f, fs s = some f ∧ f.data = x
theorem Has.isS {fs : Fs} {s : ByteArray} {x : List Int} (h : Has fs s x) : (fs s).isSome = true := by obtain ⟨f, h, _⟩ := h; simp [h]
abbrev Sg := List (Nat × Recs)
def toldS (sg : Sg) : Recs := sg.flatMap (·.2)
theorem toldS_append (a b : Sg) : toldS (a ++ b) = toldS a ++ toldS b := by simp [toldS]
theorem toldS_one (x : Nat × Recs) : toldS [x] = x.2 := by simp [toldS]
structure Shape (fs : Fs) (dir : ByteArray) (cnt check : Nat) (rc : Recs) (sg : Sg) (tail : List Int) : Prop where
  chk : 0 < check → Has fs (fname dir kc check) (joinF rc)
  chk0 : check = 0 → rc = []
  old : ∀ s, (fs s).isSome = true → numOf dir kc s ≤ check
  cle : check ≤ cnt
  gt : ∀ x ∈ sg, check < x.1 ∧ x.1 ≤ cnt
  rise : sg.Pairwise fun x y => x.1 < y.1
  seg : ∀ s, (fs s).isSome = true → check < numOf dir ks s → ∃ x ∈ sg, x.1 = numOf dir ks s
  file : ∀ k x, sg[k]? = some x → Has fs (fname dir ks x.1) (joinF x.2 ++ if k + 1 = sg.length then tail else [])
  tail0 : sg = [] → tail = []
  torn : Torn tail
  goodc : Good rc
  goods : ∀ x ∈ sg, Good x.2
  by8 : By8 tail
def Kept (fs : Fs) (dir : ByteArray) (check : Nat) (sg : Sg) : Prop := (∀ f, 0 < check → fs (fname dir kc check) = some f → f.syn = f.data.length) ∧ ∀ k x, sg[k]? = some x → k + 1 < sg.length → ∀ f, fs (fname dir ks x.1) = some f → f.syn = f.data.length
def OpenW (fs : Fs) (dir : ByteArray) (cnt : Nat) (told : Recs) (w : Bool) : Prop := ∃ check rc sg tail, Shape fs dir cnt check rc sg tail ∧ told = rc ++ toldS sg ∧ Kept fs dir check sg ∧ (w = true → tail = [])
abbrev OpenOk (fs : Fs) (dir : ByteArray) (cnt : Nat) (told : Recs) : Prop := OpenW fs dir cnt told false
theorem OpenW.ok {fs : Fs} {dir : ByteArray} {cnt : Nat} {told : Recs} {w : Bool} (h : OpenW fs dir cnt told w) : OpenOk fs dir cnt told := let ⟨c, r, s, t, h1, h2, h3, _⟩ := h; ⟨c, r, s, t, h1, h2, h3, fun h => by cases h⟩
structure LogOk (fs : Fs) (cnt : Nat) (W : Wl) (rc : Recs) (sg : Sg) (safe : Nat) : Prop where
  sh : Shape fs W.dir cnt W.check rc sg []
  segs : W.segs = sg.map (·.1)
  opn : W.check < W.opn ∧ W.opn ≤ cnt + 1 ∧ ∀ x ∈ sg, x.1 ≤ W.opn
  size : ∀ x ∈ sg, x.1 = W.opn → W.size = (joinF x.2).length
  size0 : (∀ x ∈ sg, x.1 ≠ W.opn) → W.size = 0
  sync : ∀ f, 0 < W.check → fs (fname W.dir kc W.check) = some f → f.syn = f.data.length
  syncs : ∀ x ∈ sg, x.1 < W.opn → ∀ f, fs (fname W.dir ks x.1) = some f → f.syn = f.data.length
  dur : ∀ x ∈ sg, x.1 = W.opn → ∃ m f, m ≤ x.2.length ∧ fs (fname W.dir ks x.1) = some f ∧ (joinF (x.2.take m)).length ≤ f.syn ∧ safe + x.2.length ≤ (rc ++ toldS sg).length + m
  dur0 : (∀ x ∈ sg, x.1 ≠ W.opn) → safe ≤ (rc ++ toldS sg).length
theorem last_of {sg : Sg} {n : Nat} (hr : sg.Pairwise fun x y => x.1 < y.1) (hle : ∀ x ∈ sg, x.1 ≤ n) {x : Nat × Recs} (hx : x ∈ sg) (he : x.1 = n) : ∃ s0, sg = s0 ++ [x] ∧ ∀ y ∈ s0, y.1 < n := by
  obtain ⟨a, b, rfl⟩ := List.append_of_mem hx
  rw [List.pairwise_append, List.pairwise_cons] at hr
  have hb : b = [] := by
    cases b with
    | nil => rfl
    | cons y b =>
      have h1 := hr.2.1.1 y (by simp)
      have h2 := hle y (by simp)
      omega
  subst hb
  exact ⟨a, rfl, fun y hy => by have := hr.2.2 y hy x (by simp); omega⟩
theorem Crash.isS {fs gs : Fs} (h : Crash fs gs) {s : ByteArray} (hs : (gs s).isSome = true) : (fs s).isSome = true := by
  cases hf : fs s with
  | none => rw [(h s).1 hf] at hs; cases hs
  | some f => rfl
theorem Crash.syn {fs gs : Fs} (h : Crash fs gs) {s : ByteArray} {f : Fl} (hf : gs s = some f) : f.syn = f.data.length := by
  cases hs : fs s with
  | none => rw [(h s).1 hs] at hf; cases hf
  | some g =>
    obtain ⟨k, h1, h2, h3⟩ := (h s).2 g hs
    rw [h3] at hf
    cases hf
    simp only [List.length_take]; omega
theorem Crash.kept {fs gs : Fs} (h : Crash fs gs) {dir : ByteArray} {check : Nat} {sg : Sg} : Kept gs dir check sg := ⟨fun f _ hf => h.syn hf, fun _ _ _ _ f hf => h.syn hf⟩
theorem Crash.whole {fs gs : Fs} (h : Crash fs gs) {s : ByteArray} {x : List Int} (hx : Has fs s x) (hs : ∀ f, fs s = some f → f.syn = f.data.length) : Has gs s x := by
  obtain ⟨f, hf, rfl⟩ := hx
  obtain ⟨k, h1, h2, h3⟩ := (h s).2 f hf
  rw [hs f hf] at h1
  exact ⟨_, h3, by rw [List.take_of_length_le (by omega)]⟩
theorem LogOk.crash {fs gs : Fs} {cnt : Nat} {W : Wl} {rc : Recs} {sg : Sg} {safe : Nat} (h : LogOk fs cnt W rc sg safe) (hc : Crash fs gs) : ∃ told, OpenOk gs W.dir cnt told ∧ told <+: rc ++ toldS sg ∧ safe ≤ told.length := by
  by_cases hl : ∃ x ∈ sg, x.1 = W.opn
  · obtain ⟨x, hx, he⟩ := hl
    obtain ⟨s0, rfl, hlt⟩ := last_of h.sh.rise h.opn.2.2 hx he
    obtain ⟨m, f, hm, hf, hms, hsafe⟩ := h.dur x hx he
    obtain ⟨f2, hf2, hd2⟩ := h.sh.file s0.length x (by simp)
    rw [hf] at hf2
    cases hf2
    simp at hd2
    obtain ⟨j, hj1, hj2, hj3⟩ := (hc _).2 f hf
    have hgood := h.sh.goods x hx
    obtain ⟨k, t, hk, hkt, ht, hkm⟩ := cut_join x.2 j hgood.short
    refine ⟨rc ++ toldS (s0 ++ [(x.1, x.2.take k)]), ⟨W.check, rc, s0 ++ [(x.1, x.2.take k)], t, ⟨fun h0 => hc.whole (h.sh.chk h0) fun f hf => h.sync f h0 hf, h.sh.chk0, fun s hs => h.sh.old s (hc.isS hs), h.sh.cle, ?_, ?_, ?_, ?_, ?_, ht, h.sh.goodc, ?_, ?_⟩, rfl, hc.kept, fun h => (by cases h)⟩, ?_, ?_⟩
    · intro y hy
      rcases List.mem_append.1 hy with hy | hy
      · exact h.sh.gt y (by simp [hy])
      · simp at hy; subst hy; exact h.sh.gt x (by simp)
    · have := h.sh.rise
      rw [List.pairwise_append] at this ⊢
      exact ⟨this.1, by simp, fun y hy z hz => by simp at hz; subst hz; exact this.2.2 y hy x (by simp)⟩
    · intro s hs hlt'
      obtain ⟨y, hy, hy2⟩ := h.sh.seg s (hc.isS hs) hlt'
      rcases List.mem_append.1 hy with hy | hy
      · exact ⟨y, by simp [hy], hy2⟩
      · simp at hy; subst hy; exact ⟨(y.1, y.2.take k), by simp, hy2⟩
    · intro i y hy
      rcases Nat.lt_or_ge i s0.length with hi | hi
      · rw [List.getElem?_append_left hi] at hy
        have hys : y ∈ s0 := List.mem_of_getElem? hy
        have h1 := h.sh.file i y (by rw [List.getElem?_append_left hi]; exact hy)
        rw [if_neg (by simp; omega)] at h1 ⊢
        exact hc.whole h1 fun f hf => h.syncs y (by simp [hys]) (hlt y hys) f hf
      · have hi2 : i = s0.length := by
          have := (List.getElem?_eq_some_iff.1 hy).1
          simp at this; omega
        subst hi2
        simp at hy
        subst hy
        rw [if_pos (by simp)]
        exact ⟨_, hj3, by rw [hd2, hkt]⟩
    · intro e; simp at e
    · intro y hy
      rcases List.mem_append.1 hy with hy | hy
      · exact h.sh.goods y (by simp [hy])
      · simp at hy; subst hy; exact hgood.take k
    · have h8 := by8_take (by8_join hgood) j
      rw [hkt] at h8
      exact fun a ha => h8 a (List.mem_append_right _ ha)
    · rw [toldS_append, toldS_append, toldS_one, toldS_one]
      exact (List.prefix_append_right_inj _).2 ((List.prefix_append_right_inj _).2 (List.take_prefix _ _))
    · have hmk := hkm m hm (by omega)
      rw [toldS_append, toldS_one] at hsafe ⊢
      simp only [List.length_append, List.length_take] at hsafe ⊢
      omega
  · have hno : ∀ x ∈ sg, x.1 ≠ W.opn := fun x hx he => hl ⟨x, hx, he⟩
    refine ⟨rc ++ toldS sg, ⟨W.check, rc, sg, [], ⟨fun h0 => hc.whole (h.sh.chk h0) fun f hf => h.sync f h0 hf, h.sh.chk0, fun s hs => h.sh.old s (hc.isS hs), h.sh.cle, h.sh.gt, h.sh.rise, fun s hs => h.sh.seg s (hc.isS hs), fun i y hy => ?_, fun _ => rfl, torn_nil, h.sh.goodc, h.sh.goods, h.sh.by8⟩, rfl, hc.kept, fun h => (by cases h)⟩, List.prefix_refl _, h.dur0 hno⟩
    have hys := List.mem_of_getElem? hy
    exact hc.whole (h.sh.file i y hy) fun f hf => h.syncs y hys (by have := h.opn.2.2 y hys; have := hno y hys; omega) f hf
theorem LogOk.openOk {fs : Fs} {cnt : Nat} {W : Wl} {rc : Recs} {sg : Sg} {safe : Nat} (h : LogOk fs cnt W rc sg safe) : OpenW fs W.dir cnt (rc ++ toldS sg) true := by
  refine ⟨W.check, rc, sg, [], h.sh, rfl, ⟨fun f h0 hf => h.sync f h0 hf, fun k x hx hk f hf => ?_⟩, fun _ => rfl⟩
  ·
    refine h.syncs x (List.mem_of_getElem? hx) ?_ f hf
    have hlt : k < sg.length := (List.getElem?_eq_some_iff.1 hx).1
    have hr := h.sh.rise
    have h2 := List.pairwise_iff_getElem.1 hr k (k + 1) hlt hk (by omega)
    have h3 := h.opn.2.2 sg[k + 1] (List.getElem_mem _)
    have e := (List.getElem?_eq_some_iff.1 hx).2
    rw [e] at h2; omega
end TwW
end
section
set_option linter.unusedVariables false
namespace TwW
open Go Tw Go.RowKit Go.Proofs.Tryz
section
variable {fs gs : Fs} {dir : ByteArray} {cnt cnt' check : Nat} {rc : Recs} {sg : Sg} {tail : List Int} {W : Wl} {safe : Nat}
theorem fput_same {s : ByteArray} {x : Option Fl} : fput fs s x s = x := by simp [fput]
theorem fput_ne {s t : ByteArray} {x : Option Fl} (h : t ≠ s) : fput fs s x t = fs t := by simp [fput, h]
theorem appd_ne {s t : ByteArray} {xs : List Int} (h : t ≠ s) : appd fs s xs t = fs t := fput_ne h
theorem Shape.congr (h : Shape fs dir cnt check rc sg tail) (hc : cnt ≤ cnt') (h1 : 0 < check → gs (fname dir kc check) = fs (fname dir kc check)) (h2 : ∀ x ∈ sg, gs (fname dir ks x.1) = fs (fname dir ks x.1))
    (h3 : ∀ s, (gs s).isSome = true → (fs s).isSome = true ∨ (numOf dir kc s = 0 ∧ numOf dir ks s = 0)) : Shape gs dir cnt' check rc sg tail :=
  { h with
    chk := fun h0 => by obtain ⟨f, hf, e⟩ := h.chk h0; exact ⟨f, by rw [h1 h0, hf], e⟩
    old := fun s hs => (h3 s hs).elim (h.old s) fun ⟨e, _⟩ => by omega
    cle := Nat.le_trans h.cle hc
    gt := fun x hx => ⟨(h.gt x hx).1, Nat.le_trans (h.gt x hx).2 hc⟩
    seg := fun s hs hlt => (h3 s hs).elim (fun h4 => h.seg s h4 hlt) fun ⟨_, e⟩ => by omega
    file := fun k x hx => by obtain ⟨f, hf, e⟩ := h.file k x hx; exact ⟨f, by rw [h2 x (List.mem_of_getElem? hx), hf], e⟩ }
theorem LogOk.congr (h : LogOk fs cnt W rc sg safe) (hc : cnt ≤ cnt') (h1 : 0 < W.check → gs (fname W.dir kc W.check) = fs (fname W.dir kc W.check)) (h2 : ∀ x ∈ sg, gs (fname W.dir ks x.1) = fs (fname W.dir ks x.1))
    (h3 : ∀ s, (gs s).isSome = true → (fs s).isSome = true ∨ (numOf W.dir kc s = 0 ∧ numOf W.dir ks s = 0)) : LogOk gs cnt' W rc sg safe :=
  { sh := h.sh.congr hc h1 h2 h3
    segs := h.segs
    opn := ⟨h.opn.1, by have := h.opn.2.1; omega, h.opn.2.2⟩
    size := h.size
    size0 := h.size0
    sync := fun f h0 hf => h.sync f h0 (by rw [← h1 h0]; exact hf)
    syncs := fun x hx hlt f hf => h.syncs x hx hlt f (by rw [← h2 x hx]; exact hf)
    dur := fun x hx he => by obtain ⟨m, f, a, b, c⟩ := h.dur x hx he; exact ⟨m, f, a, by rw [h2 x hx]; exact b, c⟩
    dur0 := h.dur0 }
theorem LogOk.fresh (h : LogOk fs cnt W rc sg safe) (hc : cnt ≤ cnt') (hg : ∀ s, s ≠ fnew W.dir → gs s = fs s) : LogOk gs cnt' W rc sg safe :=
  h.congr hc (fun _ => hg _ (fnew_ne (.inl rfl)).symm) (fun x _ => hg _ (fnew_ne (.inr rfl)).symm) fun s hs => by
    by_cases hsn : s = fnew W.dir
    · subst hsn; exact .inr ⟨num_new (.inl rfl), num_new (.inr rfl)⟩
    · rw [hg s hsn] at hs; exact .inl hs
theorem LogOk.free (h : LogOk fs cnt W rc sg safe) (hn : cnt < 99999999) (hno : ∀ x ∈ sg, x.1 ≠ W.opn) : fs (fname W.dir ks W.opn) = none := by
  cases hf : fs (fname W.dir ks W.opn) with
  | none => rfl
  | some f =>
    have ho := h.opn
    have e := numOf_fname (dir := W.dir) (kind := ks) (no := W.opn) (by omega)
    obtain ⟨x, hx, hx2⟩ := h.sh.seg _ (by rw [hf]; rfl) (by rw [e]; exact ho.1)
    exact absurd (hx2.trans e) (hno x hx)
theorem LogOk.push1 {s0 : Sg} {x : Nat × Recs} {r : List Int} (h : LogOk fs cnt W rc (s0 ++ [x]) safe) (hn : cnt < 99999998) (he : x.1 = W.opn) (hr : r.length ≤ 65536) (h8 : By8 r) :
    LogOk (appd fs (fname W.dir ks W.opn) (frame r)) (cnt + 1) { W with size := W.size + (frame r).length } rc (s0 ++ [(x.1, x.2 ++ [r])]) safe := by
  have hx : x ∈ s0 ++ [x] := by simp
  have hlt : ∀ y ∈ s0, y.1 < W.opn := fun y hy => by
    have := h.sh.rise
    rw [List.pairwise_append] at this
    have := this.2.2 y hy x (by simp); omega
  have hb : W.opn < 100000000 := by have := h.opn.2.1; omega
  have hne : ∀ y ∈ s0, fname W.dir ks y.1 ≠ fname W.dir ks W.opn := fun y hy e => by
    have := hlt y hy
    have := fname_inj (by omega) hb e; omega
  obtain ⟨f, hf, hd⟩ := h.sh.file s0.length x (by simp)
  rw [he] at hf
  simp at hd
  have hg : Good (x.2 ++ [r]) := (h.sh.goods x hx).append fun r' hr' => by simp at hr'; subst hr'; exact ⟨hr, h8⟩
  have hf' : appd fs (fname W.dir ks W.opn) (frame r) (fname W.dir ks W.opn) = some ⟨f.data ++ frame r, f.syn⟩ := by simp [appd, fput, hf]
  have hmem : ∀ y, y ∈ s0 ++ [(x.1, x.2 ++ [r])] → y ∈ s0 ∨ y = (x.1, x.2 ++ [r]) := fun y hy => by simpa using hy
  refine ⟨⟨fun h0 => ?_, h.sh.chk0, fun s hs => ?_, Nat.le_succ_of_le h.sh.cle, fun y hy => ?_, ?_, fun s hs hlt' => ?_, fun i y hy => ?_, fun e => by simp at e, torn_nil, h.sh.goodc, fun y hy => ?_, h.sh.by8⟩, ?_, ⟨h.opn.1, by have := h.opn.2.1; simp only; omega, fun y hy => ?_⟩, fun y hy hye => ?_, fun hno => absurd he (hno (x.1, x.2 ++ [r]) (by simp)), fun g h0 hg => ?_, fun y hy hyl g hg => ?_, fun y hy hye => ?_, fun hno => absurd he (hno (x.1, x.2 ++ [r]) (by simp))⟩
  · obtain ⟨g, hg, e⟩ := h.sh.chk h0
    exact ⟨g, by rw [appd_ne fname_kinds]; exact hg, e⟩
  · by_cases hsn : s = fname W.dir ks W.opn
    · subst hsn; exact h.sh.old _ (by rw [hf]; rfl)
    · rw [appd_ne hsn] at hs; exact h.sh.old s hs
  · rcases hmem y hy with hy | rfl
    · have := h.sh.gt y (by simp [hy]); exact ⟨this.1, by omega⟩
    · have := h.sh.gt x hx; exact ⟨this.1, by omega⟩
  · have := h.sh.rise
    rw [List.pairwise_append] at this ⊢
    exact ⟨this.1, by simp, fun y hy z hz => by simp at hz; subst hz; exact this.2.2 y hy x (by simp)⟩
  · have : (fs s).isSome = true := by
      by_cases hsn : s = fname W.dir ks W.opn
      · subst hsn; rw [hf]; rfl
      · rw [appd_ne hsn] at hs; exact hs
    obtain ⟨y, hy, hy2⟩ := h.sh.seg s this hlt'
    rcases List.mem_append.1 hy with hy | hy
    · exact ⟨y, by simp [hy], hy2⟩
    · simp at hy; subst hy; exact ⟨(y.1, y.2 ++ [r]), by simp, hy2⟩
  · rcases Nat.lt_or_ge i s0.length with hi | hi
    · rw [List.getElem?_append_left hi] at hy
      have hys : y ∈ s0 := List.mem_of_getElem? hy
      obtain ⟨g, hg, e⟩ := h.sh.file i y (by rw [List.getElem?_append_left hi]; exact hy)
      rw [if_neg (by simp; omega)] at e ⊢
      exact ⟨g, by rw [appd_ne (hne y hys)]; exact hg, e⟩
    · have hi2 : i = s0.length := by
        have := (List.getElem?_eq_some_iff.1 hy).1
        simp at this; omega
      subst hi2
      simp at hy
      subst hy
      refine ⟨_, by rw [he]; exact hf', ?_⟩
      simp [hd, joinF]
  · rcases hmem y hy with hy | rfl
    · exact h.sh.goods y (by simp [hy])
    · exact hg
  · simp [h.segs]
  · rcases hmem y hy with hy | rfl
    · exact h.opn.2.2 y (by simp [hy])
    · exact h.opn.2.2 x hx
  · rcases hmem y hy with hy | rfl
    · have := hlt y hy; simp only at hye; omega
    · have := h.size x hx he
      simp [this, joinF]
  · rw [appd_ne fname_kinds] at hg; exact h.sync g h0 hg
  · rcases hmem y hy with hy | rfl
    · rw [appd_ne (hne y hy)] at hg; exact h.syncs y (by simp [hy]) hyl g hg
    · simp only at hyl; omega
  · rcases hmem y hy with hy | rfl
    · have := hlt y hy; simp only at hye; omega
    · obtain ⟨m, g, hm, hg, hms, hs⟩ := h.dur x hx he
      rw [he, hf] at hg
      cases hg
      refine ⟨m, _, by simp; omega, by rw [he]; exact hf', ?_, ?_⟩
      · rw [List.take_append_of_le_length hm]; exact hms
      · simp only [toldS_append, toldS_one, List.length_append, List.length_cons, List.length_nil] at hs ⊢; omega
theorem LogOk.push0 {r : List Int} (h : LogOk fs cnt W rc sg safe) (hn : cnt < 99999998) (hno : ∀ x ∈ sg, x.1 ≠ W.opn) (hr : r.length ≤ 65536) (h8 : By8 r) :
    LogOk (appd fs (fname W.dir ks W.opn) (frame r)) (cnt + 1) { W with segs := W.segs ++ [W.opn], size := W.size + (frame r).length } rc (sg ++ [(W.opn, [r])]) safe := by
  have hb : W.opn < 100000000 := by have := h.opn.2.1; omega
  have hfree := h.free (by omega) hno
  have hlt : ∀ y ∈ sg, y.1 < W.opn := fun y hy => by have := h.opn.2.2 y hy; have := hno y hy; omega
  have hne : ∀ y ∈ sg, fname W.dir ks y.1 ≠ fname W.dir ks W.opn := fun y hy e => by
    have := hlt y hy
    have := fname_inj (by omega) hb e; omega
  have hf' : appd fs (fname W.dir ks W.opn) (frame r) (fname W.dir ks W.opn) = some ⟨frame r, 0⟩ := by simp [appd, fput, hfree]
  have hmem : ∀ y, y ∈ sg ++ [(W.opn, [r])] → y ∈ sg ∨ y = (W.opn, [r]) := fun y hy => by simpa using hy
  have hnum := numOf_fname (dir := W.dir) (kind := ks) hb
  have hold : ∀ s, (appd fs (fname W.dir ks W.opn) (frame r) s).isSome = true → (fs s).isSome = true ∨ s = fname W.dir ks W.opn := fun s hs => by
    by_cases hsn : s = fname W.dir ks W.opn
    · exact .inr hsn
    · rw [appd_ne hsn] at hs; exact .inl hs
  refine ⟨⟨fun h0 => ?_, h.sh.chk0, fun s hs => ?_, Nat.le_succ_of_le h.sh.cle, fun y hy => ?_, ?_, fun s hs hlt' => ?_, fun i y hy => ?_, fun e => by simp at e, torn_nil, h.sh.goodc, fun y hy => ?_, h.sh.by8⟩, ?_, ⟨h.opn.1, by have := h.opn.2.1; simp only; omega, fun y hy => ?_⟩, fun y hy hye => ?_, fun hno' => absurd rfl (hno' (W.opn, [r]) (by simp)), fun g h0 hg => ?_, fun y hy hyl g hg => ?_, fun y hy hye => ?_, fun hno' => absurd rfl (hno' (W.opn, [r]) (by simp))⟩
  · obtain ⟨g, hg, e⟩ := h.sh.chk h0
    exact ⟨g, by rw [appd_ne fname_kinds]; exact hg, e⟩
  · rcases hold s hs with hs | rfl
    · exact h.sh.old s hs
    · show numOf W.dir kc (fname W.dir ks W.opn) ≤ W.check
      rcases Nat.eq_zero_or_pos (numOf W.dir kc (fname W.dir ks W.opn)) with h0 | h0
      · omega
      · have := num_kinds h0
        have := h.opn.1; omega
  · rcases hmem y hy with hy | rfl
    · have := h.sh.gt y hy; exact ⟨this.1, by omega⟩
    · exact ⟨h.opn.1, h.opn.2.1⟩
  · rw [List.pairwise_append]
    exact ⟨h.sh.rise, by simp, fun y hy z hz => by simp at hz; subst hz; exact hlt y hy⟩
  · rcases hold s hs with hs | rfl
    · obtain ⟨y, hy, hy2⟩ := h.sh.seg s hs hlt'
      exact ⟨y, by simp [hy], hy2⟩
    · exact ⟨(W.opn, [r]), by simp, hnum.symm⟩
  · rcases Nat.lt_or_ge i sg.length with hi | hi
    · rw [List.getElem?_append_left hi] at hy
      have hys : y ∈ sg := List.mem_of_getElem? hy
      obtain ⟨g, hg, e⟩ := h.sh.file i y hy
      refine ⟨g, by rw [appd_ne (hne y hys)]; exact hg, ?_⟩
      rw [e]; simp
    · have hi2 : i = sg.length := by
        have := (List.getElem?_eq_some_iff.1 hy).1
        simp at this; omega
      subst hi2
      simp at hy
      subst hy
      exact ⟨_, hf', by simp [joinF]⟩
  · rcases hmem y hy with hy | rfl
    · exact h.sh.goods y hy
    · intro r' hr'; simp at hr'; subst hr'; exact ⟨hr, h8⟩
  · simp [h.segs]
  · rcases hmem y hy with hy | rfl
    · exact h.opn.2.2 y hy
    · exact Nat.le_refl _
  · rcases hmem y hy with hy | rfl
    · have := hlt y hy; simp only at hye; omega
    · have := h.size0 hno
      simp [this, joinF]
  · rw [appd_ne fname_kinds] at hg; exact h.sync g h0 hg
  · rcases hmem y hy with hy | rfl
    · rw [appd_ne (hne y hy)] at hg; exact h.syncs y hy hyl g hg
    · simp only at hyl; omega
  · rcases hmem y hy with hy | rfl
    · have := hlt y hy; simp only at hye; omega
    · refine ⟨0, _, by simp, hf', by simp [joinF], ?_⟩
      have := h.dur0 hno
      simp only [toldS_append, toldS_one, List.length_append, List.length_cons, List.length_nil] at this ⊢; omega
theorem LogOk.synced {s0 : Sg} {x : Nat × Recs} {f : Fl} (h : LogOk fs cnt W rc (s0 ++ [x]) safe) (hn : cnt < 99999998) (he : x.1 = W.opn) (hf : fs (fname W.dir ks W.opn) = some f) :
    LogOk (fput fs (fname W.dir ks W.opn) (some ⟨f.data, f.data.length⟩)) cnt W rc (s0 ++ [x]) (rc ++ toldS (s0 ++ [x])).length := by
  have hx : x ∈ s0 ++ [x] := by simp
  have hlt : ∀ y ∈ s0, y.1 < W.opn := fun y hy => by
    have := h.sh.rise
    rw [List.pairwise_append] at this
    have := this.2.2 y hy x (by simp); omega
  have hb : W.opn < 100000000 := by have := h.opn.2.1; omega
  have hne : ∀ y ∈ s0, fname W.dir ks y.1 ≠ fname W.dir ks W.opn := fun y hy e => by
    have := hlt y hy
    have := fname_inj (by omega) hb e; omega
  obtain ⟨f2, hf2, hd⟩ := h.sh.file s0.length x (by simp)
  rw [he, hf] at hf2
  cases hf2
  simp at hd
  have hold : ∀ s, (fput fs (fname W.dir ks W.opn) (some ⟨f.data, f.data.length⟩) s).isSome = true → (fs s).isSome = true := fun s hs => by
    by_cases hsn : s = fname W.dir ks W.opn
    · subst hsn; rw [hf]; rfl
    · rwa [fput_ne hsn] at hs
  refine ⟨⟨fun h0 => ?_, h.sh.chk0, fun s hs => h.sh.old s (hold s hs), h.sh.cle, h.sh.gt, h.sh.rise, fun s hs => h.sh.seg s (hold s hs), fun i y hy => ?_, h.sh.tail0, torn_nil, h.sh.goodc, h.sh.goods, h.sh.by8⟩, h.segs, h.opn, h.size, h.size0, fun g h0 hg => ?_, fun y hy hyl g hg => ?_, fun y hy hye => ?_, fun hno => absurd he (hno x hx)⟩
  · obtain ⟨g, hg, e⟩ := h.sh.chk h0
    exact ⟨g, by rw [fput_ne fname_kinds]; exact hg, e⟩
  · obtain ⟨g, hg, e⟩ := h.sh.file i y hy
    rcases List.mem_append.1 (List.mem_of_getElem? hy) with hys | hys
    · exact ⟨g, by rw [fput_ne (hne y hys)]; exact hg, e⟩
    · simp at hys
      subst hys
      rw [he, hf] at hg
      cases hg
      exact ⟨⟨f.data, f.data.length⟩, by rw [he]; exact fput_same, e⟩
  · rw [fput_ne fname_kinds] at hg; exact h.sync g h0 hg
  · rcases List.mem_append.1 hy with hys | hys
    · rw [fput_ne (hne y hys)] at hg; exact h.syncs y hy hyl g hg
    · simp at hys; subst hys; omega
  · rcases List.mem_append.1 hy with hys | hys
    · have := hlt y hys; omega
    · simp at hys
      subst hys
      exact ⟨y.2.length, ⟨f.data, f.data.length⟩, Nat.le_refl _, by rw [he]; exact fput_same, by rw [List.take_length, ← hd]; exact Nat.le_refl _, Nat.le_refl _⟩
theorem LogOk.rotate {s0 : Sg} {x : Nat × Recs} (h : LogOk fs cnt W rc (s0 ++ [x]) safe) (hn : cnt < 99999998) (he : x.1 = W.opn) (hs : ∀ f, fs (fname W.dir ks W.opn) = some f → f.syn = f.data.length) (hsafe : safe ≤ (rc ++ toldS (s0 ++ [x])).length) :
    LogOk fs cnt { W with opn := W.opn + 1, size := 0 } rc (s0 ++ [x]) safe := by
  have hx : x ∈ s0 ++ [x] := by simp
  have hle := h.opn.2.2
  refine ⟨h.sh, h.segs, ⟨by have := h.opn.1; simp only; omega, by have := (h.sh.gt x hx).2; simp only; omega, fun y hy => by have := hle y hy; simp only; omega⟩, fun y hy hye => ?_, fun _ => rfl, h.sync, fun y hy hyl f hf => ?_, fun y hy hye => ?_, fun _ => hsafe⟩
  · have := hle y hy; simp only at hye; omega
  · rcases Nat.lt_or_ge y.1 W.opn with h1 | h1
    · exact h.syncs y hy h1 f hf
    · have : y.1 = W.opn := by have := hle y hy; omega
      rw [this] at hf
      exact hs f hf
  · have := hle y hy; simp only at hye; omega
end
end TwW
end
section
set_option linter.unusedVariables false
namespace TwW
open Go Tw Go.RowKit Go.Proofs.Tryz
structure Out (dir : ByteArray) (fs gs : Fs) : Prop where
  out : ∀ s, begins s (dir ++ slash) = false → gs s = fs s
  new : ∀ s, (gs s).isSome = true → (fs s).isSome = true ∨ 0 < numOf dir kc s ∨ 0 < numOf dir ks s ∨ s = fnew dir
theorem Out.refl {dir : ByteArray} {fs : Fs} : Out dir fs fs := ⟨fun _ _ => rfl, fun _ h => .inl h⟩
theorem Out.trans {dir : ByteArray} {fs gs hs : Fs} (h : Out dir fs gs) (g : Out dir gs hs) : Out dir fs hs := ⟨fun s hb => (g.out s hb).trans (h.out s hb), fun s hb => (g.new s hb).elim (h.new s) .inr⟩
theorem begins_of {s dir : ByteArray} {l : List UInt8} (h : s.data.toList = dir.data.toList ++ 47 :: l) : begins s (dir ++ slash) = true := by
  unfold begins
  rw [decide_eq_true_iff, list_append, h]
  exact ⟨l, by simp [slash]⟩
theorem begins_file {dir kind : ByteArray} {n : Nat} : begins (fname dir kind n) (dir ++ slash) = true := begins_of (l := kind.data.toList ++ dec8 n) (by rw [fname_list, cat_list]; simp)
theorem begins_new {dir : ByteArray} : begins (fnew dir) (dir ++ slash) = true := begins_of (l := [110, 101, 119]) (by rw [fnew, list_append])
theorem Out.del {dir s : ByteArray} {fs : Fs} (h : begins s (dir ++ slash) = true) : Out dir fs (TwW.fput fs s none) := ⟨fun t ht => fput_ne fun e => (by rw [e, h] at ht; cases ht), fun t ht => by
  by_cases e : t = s
  · subst e; rw [fput_same] at ht; cases ht
  · rw [fput_ne e] at ht; exact .inl ht⟩
theorem Out.put {dir kind : ByteArray} {n : Nat} {fs : Fs} {x : Option Fl} (hk : kind = kc ∨ kind = ks) (h0 : 0 < n) (h1 : n < 100000000) : Out dir fs (TwW.fput fs (fname dir kind n) x) := ⟨fun t ht => fput_ne fun e => (by rw [e, begins_file] at ht; cases ht), fun t ht => by
  by_cases e : t = fname dir kind n
  · subst e
    have := numOf_fname (dir := dir) (kind := kind) h1
    rcases hk with rfl | rfl
    · exact .inr (.inl (by omega))
    · exact .inr (.inr (.inl (by omega)))
  · rw [fput_ne e] at ht; exact .inl ht⟩
theorem Out.app {dir kind : ByteArray} {n : Nat} {fs : Fs} {xs : List Int} (hk : kind = kc ∨ kind = ks) (h0 : 0 < n) (h1 : n < 100000000) : Out dir fs (TwW.appd fs (fname dir kind n) xs) := Out.put hk h0 h1
section
variable {σ σ' τ : Hp} {d b : Nat} {D : Dk} {W : Wl} {R : Ending → Hp → Prop}
structure WrU (σ : Hp) (d : Nat) (D : Dk) (τ : Hp) (L : Hp → Dk → Prop) (fs fs' : Fs) (c : Nat) (R : Ending → Hp → Prop) : Prop where
  ok : ∀ σ', L σ' ⟨fs, true, D.armed, c⟩ → R (.returned (.int .i64 0)) σ'
  bad : D.armed = true → ∀ σ' gs, Crash fs' gs → DiskU σ' d ⟨gs, false, false, c⟩ τ → R (.returned (.int .i64 60)) σ'
theorem WrU.wr {fs fs' : Fs} {c : Nat} {Sd S : List Nat} {p : Option Addr} {cc : Nat} {T : TypeId} (h2 : WalAt (σ.off Sd) b d W S p cc T) (h3 : Ext τ ((σ.off Sd).off S)) (h : WrU σ d D τ (fun σ' D' => LogU σ' d b D' W τ) fs fs' c R) : Wr σ Sd d D fs fs' c R :=
  ⟨fun σ' S' hd hx => h.ok σ' (LogU.step h2 h3 hd hx), fun ha σ' S' gs hg hd hx => h.bad ha σ' gs hg (LogU.step h2 h3 hd hx).disk⟩
theorem WrU.wrd {fs fs' : Fs} {c : Nat} {Sd : List Nat} (h3 : Ext τ (σ.off Sd)) (h : WrU σ d D τ (fun σ' D' => DiskU σ' d D' τ) fs fs' c R) : Wr σ Sd d D fs fs' c R :=
  ⟨fun σ' S' hd hx => h.ok σ' ⟨S', hd, h3.trans hx⟩, fun ha σ' S' gs hg hd hx => h.bad ha σ' gs hg ⟨S', hd, h3.trans hx⟩⟩
theorem lappend {s : ByteArray} {p : Option Addr} {n c : Nat} {xs : List Int} (h : LogU σ d b D W τ) (hup : D.up = true) (hn : nameOk s = true) (hc : Few D) (hx : RdI .u8 τ p n xs) (hlen : ((D.files s).getD ⟨[], 0⟩).data.length + n ≤ 4194304)
    (hw : WrU σ d D τ (fun σ' D' => LogU σ' d b D' W τ) (appd D.files s xs) (appd D.files s xs) (D.cnt + 1) R) : Spec prog disk_Disk_Append.fid #[.pointer (some ⟨d, 0, none⟩), .string s, .slice p n c] σ R := by
  obtain ⟨Sd, S, q, cc, T, h1, h2, h3⟩ := h
  exact append_spec h1 hup hn hc (hx.mono (h3.trans (Ext.of_off _ _))) hlen (hw.wr h2 h3)
theorem lsync {s : ByteArray} {f : Fl} (h : LogU σ d b D W τ) (hup : D.up = true) (hn : nameOk s = true) (hf : D.files s = some f)
    (hw : WrU σ d D τ (fun σ' D' => LogU σ' d b D' W τ) (fput D.files s (some ⟨f.data, f.data.length⟩)) D.files D.cnt R) : Spec prog disk_Disk_Sync.fid #[.pointer (some ⟨d, 0, none⟩), .string s] σ R := by
  obtain ⟨Sd, S, q, cc, T, h1, h2, h3⟩ := h
  exact sync_spec h1 hup hn hf (hw.wr h2 h3)
theorem lrename {s t : ByteArray} {f : Fl} (h : LogU σ d b D W τ) (hup : D.up = true) (hn : nameOk s = true) (hn' : nameOk t = true) (hf : D.files s = some f)
    (hw : WrU σ d D τ (fun σ' D' => LogU σ' d b D' W τ) (fput (fput D.files s none) t (some f)) D.files D.cnt R) : Spec prog disk_Disk_Rename.fid #[.pointer (some ⟨d, 0, none⟩), .string s, .string t] σ R := by
  obtain ⟨Sd, S, q, cc, T, h1, h2, h3⟩ := h
  exact rename_spec h1 hup hn hn' hf (hw.wr h2 h3)
theorem ldelete {s : ByteArray} {f : Fl} (h : LogU σ d b D W τ) (hup : D.up = true) (hn : nameOk s = true) (hf : D.files s = some f)
    (hw : WrU σ d D τ (fun σ' D' => LogU σ' d b D' W τ) (fput D.files s none) D.files D.cnt R) : Spec prog disk_Disk_Delete.fid #[.pointer (some ⟨d, 0, none⟩), .string s] σ R := by
  obtain ⟨Sd, S, q, cc, T, h1, h2, h3⟩ := h
  exact delete_spec h1 hup hn hf (hw.wr h2 h3)
theorem must0 {K : Hp → Prop} (h : K σ) : Spec prog wal_must.fid #[.int .i64 0] σ (Cont R fun v σ1 => v = .tuple #[] ∧ K σ1) :=
  wal_must.start ⟨fun hh => absurd rfl hh, fun _ => ⟨rfl, h⟩⟩
theorem must60 {K : Hp → Prop} (h : R (.panicked (pan 60)) σ) : Spec prog wal_must.fid #[.int .i64 60] σ (Cont R fun v σ1 => v = .tuple #[] ∧ K σ1) :=
  wal_must.start ⟨fun _ => h, fun hh => absurd (by decide) hh⟩
def hasB (W : Wl) : Bool := decide (W.segs.getLast? = some W.opn)
theorem has_spec (h : LogU σ d b D W τ) (hR : R (.returned (.bool (hasB W))) σ) : Spec prog wal_Wal_has.fid #[.pointer (some ⟨b, 0, none⟩)] σ R := by
  have r := h.rd
  obtain ⟨p, c, hc, hl, hrd⟩ := r.segs
  have hbig := hrd.big
  refine wal_Wal_has.start ⟨b, 0, rfl, p, _, c, hl, fun hpos => ?_, fun hz => ?_⟩
  · have hpos' : 0 < W.segs.length := by omega
    have hlast : W.segs.getLast? = some (W.segs[W.segs.length - 1]) := by rw [List.getLast?_eq_getElem?, List.getElem?_eq_getElem (by omega)]
    have hg : (asI W.segs)[W.segs.length - 1]? = some ((W.segs[W.segs.length - 1] : Nat) : Int) := by
      rw [asI, List.getElem?_map, List.getElem?_eq_getElem (by omega)]; rfl
    obtain ⟨b20, o20, rfl, hl2⟩ := hrd.at hg
    have e : Int.toNat (((W.segs.length : Nat) : Int) - 1) = W.segs.length - 1 := by omega
    refine ⟨_, _, c, hl, _, _, c, hl, by unfold I64; omega, b20, o20, rfl, by omega, _, by rw [e]; exact hl2, W.opn, r.opn, ?_⟩
    have : decide (((W.segs[W.segs.length - 1] : Nat) : Int) = (W.opn : Int)) = hasB W := by
      unfold hasB
      rw [hlast]
      apply decide_eq_decide.2
      simp only [Option.some.injEq]
      omega
    rw [this]; exact hR
  · have : hasB W = false := by
      have : W.segs = [] := List.eq_nil_of_length_eq_zero (by omega)
      simp [hasB, this]
    rw [this] at hR; exact hR
theorem hasB_iff {fs : Fs} {cnt : Nat} {rc : Recs} {sg : Sg} {safe : Nat} (h : LogOk fs cnt W rc sg safe) : (hasB W = true → ∃ s0 x, sg = s0 ++ [x] ∧ x.1 = W.opn) ∧ (hasB W = false → ∀ x ∈ sg, x.1 ≠ W.opn) := by
  constructor
  · intro hh
    simp only [hasB, decide_eq_true_eq] at hh
    rcases List.eq_nil_or_concat sg with rfl | ⟨s0, x, rfl⟩
    · rw [h.segs] at hh; simp at hh
    · refine ⟨s0, x, by simp, ?_⟩
      rw [h.segs] at hh; simpa using hh
  · intro hh x hx he
    obtain ⟨s0, rfl, _⟩ := last_of h.sh.rise h.opn.2.2 hx he
    have : hasB W = true := by simp [hasB, h.segs, he]
    rw [this] at hh; cases hh
theorem rise_len : ∀ (l : List Nat) (lo hi : Nat), l.Pairwise (· < ·) → (∀ x ∈ l, lo ≤ x ∧ x < hi) → l.length ≤ hi - lo
  | [], _, _, _, _ => Nat.zero_le _
  | a :: l, lo, hi, hp, hb => by
    rw [List.pairwise_cons] at hp
    have h1 := rise_len l (a + 1) hi hp.2 fun x hx => ⟨hp.1 x hx, (hb x (by simp [hx])).2⟩
    have h2 := hb a (by simp)
    simp; omega
theorem LogOk.len {fs : Fs} {cnt : Nat} {rc : Recs} {sg : Sg} {safe : Nat} (h : LogOk fs cnt W rc sg safe) : W.segs.length ≤ cnt + 1 := by
  have := rise_len W.segs 0 (cnt + 1) (by rw [h.segs, List.pairwise_map]; exact h.sh.rise) (fun x hx => by
    rw [h.segs] at hx
    obtain ⟨y, hy, rfl⟩ := List.mem_map.1 hx
    have := h.sh.gt y hy; omega)
  simpa using this
structure AppU (d b : Nat) (D : Dk) (W : Wl) (τ : Hp) (rc : Recs) (sg : Sg) (safe : Nat) (xs : List Int) (rok : Hp → Prop) (rbad : Hp → Prop) : Prop where
  ok : ∀ σ' D' W' sg' safe', LogU σ' d b D' W' τ → D'.up = true → D'.armed = D.armed → D'.cnt = D.cnt + 1 → W'.dir = W.dir → (W'.segs.length ≤ W.segs.length + 1 ∧ W'.size ≤ 4096 + (frame xs).length ∧ hasB W' = true ∧ W.segs <+: W'.segs ∧ ∀ s, (D'.files s).isSome = true → (D.files s).isSome = true ∨ s = fname W'.dir ks W'.opn) → LogOk D'.files D'.cnt W' rc sg' safe' → safe ≤ safe' → toldS sg' = toldS sg ++ [xs] → Out W.dir D.files D'.files →
    D'.files (fnew W.dir) = D.files (fnew W.dir) → W'.check = W.check → (hasB W = false → W'.segs = W.segs ++ [W.opn] ∧ W'.opn = W.opn ∧ W'.size = W.size + (frame xs).length) → (hasB W = true → W.size < 4096 → W'.segs = W.segs ∧ W'.opn = W.opn ∧ W'.size = W.size + (frame xs).length) → (hasB W = false ∨ W.size < 4096 → D'.files = appd D.files (fname W.dir ks W.opn) (frame xs)) → rok σ'
  bad : D.armed = true → ∀ σ' D' told, DiskU σ' d D' τ → D'.up = false → D'.armed = false → (D'.cnt ≤ D.cnt + 1 ∧ ∀ s, (D'.files s).isSome = true → (D.files s).isSome = true ∨ s = fname W.dir ks W.opn ∨ s = fname W.dir ks (W.opn + 1)) → OpenOk D'.files W.dir D'.cnt told → told <+: rc ++ toldS sg ++ [xs] → safe ≤ told.length → rbad σ'
theorem app18 {b0 b1 : Nat} {pf : Option Addr} {cf : Nat} {fr : List Int} (h : LogU σ d b D W τ) (t0 : τ b0 = some (.cells #[.pointer (some ⟨b, 0, none⟩)] 26 (0, 0))) (t1 : τ b1 = some (.cells #[.slice pf fr.length cf] 23 (0, 0))) (hsz : W.size + fr.length ≤ 4194304)
    (hR : ∀ σ', LogU σ' d b D { W with size := W.size + fr.length } τ → R (.returned (.tuple #[])) σ') : wal_Wal_Append_1.pt18 R b0 b1 σ := by
  have r := h.rd
  have hx := h.ext
  refine wal_Wal_Append_1.pt18_of ⟨_, ld_of (hx _ _ t0) rfl, b, 0, rfl, W.size, r.size, pf, _, cf, ld_of (hx _ _ t1) rfl, by unfold I64; omega, ?_⟩
  have e : ((W.size : Int) + (fr.length : Int)) = ((W.size + fr.length : Nat) : Int) := by omega
  rw [e]
  exact h.st (i := 0 + 5) (W' := { W with size := W.size + fr.length }) (by omega) rfl (fun p n c => rfl) hR
theorem kp3 {τ : Hp} {b1 b34 b0 : Nat} (hx : Ext σ σ') : Kp [b1, b34, b0] σ σ' := Kp.of_ext hx
theorem app11 {b0 b1 : Nat} {pf : Option Addr} {cf : Nat} {xs : List Int} {rc : Recs} {sg : Sg} {safe safe0 : Nat} {D0 : Dk} {W0 : Wl} (h : LogU σ d b D W τ) (ht : Tb τ) (t0 : τ b0 = some (.cells #[.pointer (some ⟨b, 0, none⟩)] 26 (0, 0))) (t1 : τ b1 = some (.cells #[.slice pf (frame xs).length cf] 23 (0, 0)))
    (hx : RdI .u8 τ pf (frame xs).length (frame xs)) (hxl : xs.length ≤ 65536) (h8 : By8 xs) (hup : D.up = true) (hcnt : D.cnt < 67108864) (hfew : Few D) (hd : dirOk W.dir = true) (hok : LogOk D.files D.cnt W rc sg safe) (hsz : W.size ≤ 4096) (hss : safe0 ≤ safe)
    (hD : D.armed = D0.armed ∧ D.cnt = D0.cnt ∧ Out W.dir D0.files D.files ∧ D.files (fnew W.dir) = D0.files (fnew W.dir) ∧ ∀ s, (D.files s).isSome = true → (D0.files s).isSome = true) (ho0 : W.opn = W0.opn ∨ W.opn = W0.opn + 1) (hW : W.dir = W0.dir ∧ W.segs = W0.segs ∧ W.check = W0.check ∧ (hasB W0 = false → W = W0) ∧ (hasB W0 = true → W0.size < 4096 → W = W0) ∧ (hasB W0 = false ∨ W0.size < 4096 → W = W0 ∧ D.files = D0.files))
    (hR : AppU d b D0 W0 τ rc sg safe0 xs (fun σ' => R (.returned (.tuple #[])) σ') (fun σ' => R (.panicked (pan 60)) σ')) : wal_Wal_Append_1.pt11 R b0 b1 σ := by
  have r := h.rd
  have hxe := h.ext
  have hds : W.dir.size ≤ 32 := by simp [dirOk] at hd; exact hd.2
  have hopn := hok.opn.2.1
  have hfl := frame_small hxl
  have hnok : nameOk (fname W.dir ks W.opn) = true := fname_ok hd (.inr rfl) (by omega)
  refine wal_Wal_Append_1.pt11_of ⟨_, ld_of (hxe _ _ t0) rfl, b, 0, rfl, _, r.ptr, _, ld_of (hxe _ _ t0) rfl, _, ld_of (hxe _ _ t0) rfl, b, 0, rfl, W.opn, r.opn, pf, _, cf, ld_of (hxe _ _ t1) rfl, ?_⟩
  refine fileW_spec (kind := ks) r.dir hds (.inr rfl) (by omega) (ht.mono hxe) fun σ1 hx1 => ⟨_, rfl, Kp.of_ext hx1, ?_⟩
  have h1 := h.mono hx1
  have hlen : ((D.files (fname W.dir ks W.opn)).getD ⟨[], 0⟩).data.length ≤ 4096 := by
    cases hb : hasB W with
    | true =>
      obtain ⟨s0, x, rfl, he⟩ := (hasB_iff hok).1 hb
      obtain ⟨f, hf, e⟩ := hok.sh.file s0.length x (by simp)
      rw [he] at hf
      rw [hf]
      have := hok.size x (by simp) he
      simp at e
      simp [e]; omega
    | false =>
      rw [hok.free (by omega) ((hasB_iff hok).2 hb)]; simp
  have told1 : ∀ sg' : Sg, toldS sg' = toldS sg ++ [xs] → rc ++ toldS sg' = rc ++ toldS sg ++ [xs] := fun sg' e => by rw [e, List.append_assoc]
  have badR : ∀ W' sg', W'.dir = W.dir → LogOk (appd D.files (fname W.dir ks W.opn) (frame xs)) (D.cnt + 1) W' rc sg' safe → toldS sg' = toldS sg ++ [xs] → D.armed = true → ∀ σ' gs, Crash (appd D.files (fname W.dir ks W.opn) (frame xs)) gs → DiskU σ' d ⟨gs, false, false, D.cnt + 1⟩ τ → R (.panicked (pan 60)) σ' := by
    intro W' sg' hdir hl he ha σ' gs hg hdu
    obtain ⟨told, g1, g2, g3⟩ := hl.crash hg
    rw [told1 sg' he] at g2
    rw [hdir] at g1
    refine hR.bad (hD.1 ▸ ha) σ' _ told hdu rfl rfl ⟨by simp only; omega, fun s hs => ?_⟩ (hW.1 ▸ g1) g2 (by omega)
    have hs2 := hg.isS hs
    by_cases hsn : s = fname W.dir ks W.opn
    · rw [hsn, hW.1]
      rcases ho0 with e | e <;> rw [e]
      · exact .inr (.inl rfl)
      · exact .inr (.inr rfl)
    · rw [appd_ne hsn] at hs2
      exact .inl (hD.2.2.2.2 s hs2)
  have okR : ∀ W' sg' safe', W'.check = W.check → (hasB W = false → W'.segs = W.segs ++ [W.opn] ∧ W'.opn = W.opn ∧ W'.size = W.size + (frame xs).length) → (hasB W = true → W'.segs = W.segs ∧ W'.opn = W.opn ∧ W'.size = W.size + (frame xs).length) → W'.dir = W.dir → (W'.segs.length ≤ W.segs.length + 1 ∧ W'.size ≤ 4096 + (frame xs).length ∧ hasB W' = true ∧ W.segs <+: W'.segs ∧ W'.opn = W.opn) → LogOk (appd D.files (fname W.dir ks W.opn) (frame xs)) (D.cnt + 1) W' rc sg' safe' → safe ≤ safe' → toldS sg' = toldS sg ++ [xs] → ∀ σ', LogU σ' d b ⟨appd D.files (fname W.dir ks W.opn) (frame xs), true, D.armed, D.cnt + 1⟩ W' τ → R (.returned (.tuple #[])) σ' := by
    intro W' sg' safe' q1 q2 q3 hdir hsl hl hle he σ' hlu
    refine hR.ok σ' _ W' sg' safe' hlu rfl hD.1 (by simp only; omega) (hdir.trans hW.1) ⟨by rw [← hW.2.1]; exact hsl.1, hsl.2.1, hsl.2.2.1, by rw [← hW.2.1]; exact hsl.2.2.2.1, fun s hs => ?_⟩ hl (by omega) he ?_ ?_ (q1.trans hW.2.2.1) (fun hb => by rw [← hW.2.2.2.1 hb]; exact q2 (by rw [hW.2.2.2.1 hb]; exact hb)) (fun hb hz => by rw [← hW.2.2.2.2.1 hb hz]; exact q3 (by rw [hW.2.2.2.2.1 hb hz]; exact hb)) (fun hz => by obtain ⟨e1, e2⟩ := hW.2.2.2.2.2 hz; rw [← e1, ← e2])
    · by_cases hsn : s = fname W.dir ks W.opn
      · exact .inr (by rw [hsn, hdir, hsl.2.2.2.2])
      · have hs2 : (appd D.files (fname W.dir ks W.opn) (frame xs) s).isSome = true := hs
        rw [appd_ne hsn] at hs2
        exact .inl (hD.2.2.2.2 s hs2)
    · exact hW.1 ▸ hD.2.2.1.trans (Out.app (.inr rfl) (by have := hok.opn.1; omega) (by omega))
    · have := hD.2.2.2.1
      rw [← hW.1]
      show appd D.files (fname W.dir ks W.opn) (frame xs) (fnew W.dir) = _
      rw [appd_ne (fnew_ne (.inr rfl))]; exact this
  refine lappend h1 hup hnok hfew hx (by omega) ⟨fun σ2 h2 => ⟨_, rfl, must0 ?_⟩, fun ha σ2 gs hg hdu => ⟨_, rfl, must60 ?_⟩⟩
  · have hx2 := h2.ext
    refine ⟨_, ld_of (hx2 _ _ t0) rfl, has_spec h2 ⟨_, rfl, fun hb => ?_, fun hb => ?_⟩⟩
    · have hno := (hasB_iff hok).2 hb
      have hl := hok.push0 (by omega) hno hxl h8
      obtain ⟨p53, c53, hc53, hl53, hrd53⟩ := h2.rd.segs
      refine ⟨_, ld_of (hx2 _ _ t0) rfl, _, ld_of (hx2 _ _ t0) rfl, b, 0, rfl, p53, _, c53, hl53, _, ld_of (hx2 _ _ t0) rfl, b, 0, rfl, W.opn, h2.rd.opn, fun b58 hb58 => ?_⟩
      have hseg : W.segs.length ≤ 67108864 := Nat.le_trans (hok.len) (by omega)
      have hb0 : ∀ b, τ b ≠ none → b ≠ b58 := fun b' h1 e => by
        cases h2 : τ b' with
        | none => exact h1 h2
        | some o => have := hx2 _ _ h2; rw [e, hb58] at this; cases this
      refine (h2.app (Φ := fun _ σ1_6 => wal_Wal_Append_1.pt18 R b0 b1 σ1_6) hl53 hseg hb58 (K := fun σa σb => Kp [b0] σa σb) (fun σ' hx' => fun k hk o ho => ?_) fun σ3 h3 => ?_).mono fun v σ3 ⟨p', n', c', e1, e2, e3⟩ => ⟨p', n', c', e1, e2, b, 0, rfl, e3⟩
      · simp only [List.mem_singleton] at hk
        subst hk
        rw [Hp.set_ne (hb0 k (by rw [t0]; simp)), hx2 _ _ t0] at ho
        cases ho
        exact hx' _ _ t0
      · exact app18 h3 t0 t1 (by simp only; omega) fun σ4 h4 => okR { W with segs := W.segs ++ [W.opn], size := W.size + (frame xs).length } _ _ rfl (fun _ => ⟨rfl, rfl, rfl⟩) (fun hh => by rw [hb] at hh; cases hh) rfl ⟨by simp, by simp only; omega, by simp [hasB], List.prefix_append _ _, rfl⟩ hl (Nat.le_refl _) (by simp [toldS]) σ4 h4
    · obtain ⟨s0, x, rfl, he⟩ := (hasB_iff hok).1 hb
      have hl := hok.push1 (by omega) he hxl h8
      refine app18 h2 t0 t1 (by omega) fun σ3 h3 => okR { W with size := W.size + (frame xs).length } _ _ rfl (fun hh => by rw [hb] at hh; cases hh) (fun _ => ⟨rfl, rfl, rfl⟩) rfl ⟨by simp, by simp only; omega, hb, List.prefix_refl _, rfl⟩ hl (Nat.le_refl _) ?_ σ3 h3
      simp [toldS]
  · cases hb : hasB W with
    | true =>
      obtain ⟨s0, x, rfl, he⟩ := (hasB_iff hok).1 hb
      exact badR { W with size := W.size + (frame xs).length } _ rfl (hok.push1 (by omega) he hxl h8) (by simp [toldS]) ha σ2 gs hg hdu
    | false => exact badR { W with segs := W.segs ++ [W.opn], size := W.size + (frame xs).length } _ rfl (hok.push0 (by omega) ((hasB_iff hok).2 hb) hxl h8) (by simp [toldS]) ha σ2 gs hg hdu
end
end TwW
end
section
set_option linter.unusedVariables false
namespace TwW
open Go Tw Go.RowKit Go.Proofs.Tryz
section
variable {σ σ' τ : Hp} {d b : Nat} {D : Dk} {W : Wl} {R : Ending → Hp → Prop}
theorem en44 : Enters prog wal_Wal_Append_1.fid := fun args w => call44 args w
theorem LogOk.size_le {fs : Fs} {cnt : Nat} {rc : Recs} {safe : Nat} {s0 : Sg} {x : Nat × Recs} (h : LogOk fs cnt W rc (s0 ++ [x]) safe) (he : x.1 = W.opn) : ∃ f, fs (fname W.dir ks W.opn) = some f ∧ f.data.length = W.size := by
  obtain ⟨f, hf, e⟩ := h.sh.file s0.length x (by simp)
  rw [he] at hf
  have := h.size x (by simp) he
  simp at e
  exact ⟨f, hf, by rw [e, this]⟩
theorem LogOk.safe_le {fs : Fs} {cnt : Nat} {rc : Recs} {sg : Sg} {safe : Nat} (h : LogOk fs cnt W rc sg safe) : safe ≤ (rc ++ toldS sg).length := by
  by_cases hl : ∃ x ∈ sg, x.1 = W.opn
  · obtain ⟨x, hx, he⟩ := hl
    obtain ⟨m, f, hm, _, _, hs⟩ := h.dur x hx he
    omega
  · exact h.dur0 fun x hx he => hl ⟨x, hx, he⟩
theorem app1_spec {b0 b1 : Nat} {pf : Option Addr} {cf : Nat} {xs : List Int} {rc : Recs} {sg : Sg} {safe : Nat} (h : LogU σ d b D W τ) (ht : Tb τ) (t0 : τ b0 = some (.cells #[.pointer (some ⟨b, 0, none⟩)] 26 (0, 0))) (t1 : τ b1 = some (.cells #[.slice pf (frame xs).length cf] 23 (0, 0)))
    (hx : RdI .u8 τ pf (frame xs).length (frame xs)) (hxl : xs.length ≤ 65536) (h8 : By8 xs) (hup : D.up = true) (hcnt : D.cnt < 67108864) (hfew : Few D) (hd : dirOk W.dir = true) (hok : LogOk D.files D.cnt W rc sg safe)
    (hR : AppU d b D W τ rc sg safe xs (fun σ' => R (.returned (.tuple #[])) σ') (fun σ' => R (.panicked (pan 60)) σ')) : Spec prog wal_Wal_Append_1.fid #[.pointer (some ⟨b0, 0, none⟩), .pointer (some ⟨b1, 0, none⟩)] σ R := by
  have r := h.rd
  have hxe := h.ext
  have hds : W.dir.size ≤ 32 := by simp [dirOk] at hd; exact hd.2
  have hopn := hok.opn.2.1
  have keep : W.size ≤ 4096 → wal_Wal_Append_1.pt11 R b0 b1 σ := fun hsz => app11 h ht t0 t1 hx hxl h8 hup hcnt hfew hd hok hsz (Nat.le_refl _) ⟨rfl, rfl, Out.refl, rfl, fun _ hs => hs⟩ (.inl rfl) ⟨rfl, rfl, rfl, fun _ => rfl, fun _ _ => rfl, fun _ => ⟨rfl, rfl⟩⟩ hR
  refine wal_Wal_Append_1.start ⟨_, ld_of (hxe _ _ t0) rfl, has_spec h ⟨_, rfl, fun hb => ?_, fun hb => ?_⟩⟩
  · obtain ⟨s0, x, rfl, he⟩ := (hasB_iff hok).1 hb
    refine ⟨_, ld_of (hxe _ _ t0) rfl, b, 0, rfl, W.size, r.size, fun hbig => ?_, fun hsm => keep (by omega)⟩
    obtain ⟨f, hf, hfl⟩ := hok.size_le he
    have hnok : nameOk (fname W.dir ks W.opn) = true := fname_ok hd (.inr rfl) (by omega)
    refine ⟨_, ld_of (hxe _ _ t0) rfl, b, 0, rfl, _, r.ptr, _, ld_of (hxe _ _ t0) rfl, _, ld_of (hxe _ _ t0) rfl, b, 0, rfl, W.opn, r.opn, ?_⟩
    refine fileW_spec (kind := ks) r.dir hds (.inr rfl) (by omega) (ht.mono hxe) fun σ1 hx1 => ⟨_, rfl, Kp.of_ext hx1, ?_⟩
    have h1 := h.mono hx1
    have hsy := hok.synced (by omega) he hf
    refine lsync h1 hup hnok hf ⟨fun σ2 h2 => ⟨_, rfl, must0 ?_⟩, fun ha σ2 gs hg hdu => ⟨_, rfl, must60 ?_⟩⟩
    · have hx2 := h2.ext
      have hsub : ∀ s, (TwW.fput D.files (fname W.dir ks W.opn) (some ⟨f.data, f.data.length⟩) s).isSome = true → (D.files s).isSome = true := fun s hs => by
        by_cases hsn : s = fname W.dir ks W.opn
        · rw [hsn, hf]; rfl
        · rwa [fput_ne hsn] at hs
      have hrot := hsy.rotate (by omega) he (fun g hg => by rw [fput_same] at hg; cases hg; rfl) (Nat.le_refl _)
      refine ⟨_, ld_of (hx2 _ _ t0) rfl, b, 0, rfl, W.opn, h2.rd.opn, by unfold I64; omega, ?_⟩
      have e : ((W.opn : Int) + 1) = ((W.opn + 1 : Nat) : Int) := by omega
      rw [e]
      refine h2.st (i := 0 + 4) (W' := { W with opn := W.opn + 1 }) (by omega) rfl (fun p n c => rfl) fun σ3 h3 => ?_
      have hx3 := h3.ext
      refine ⟨_, ld_of (hx3 _ _ t0) rfl, b, 0, rfl, ?_⟩
      refine h3.st (i := 0 + 5) (x := 0) (W' := { W with opn := W.opn + 1, size := 0 }) (by omega) rfl (fun p n c => rfl) fun σ4 h4 => ?_
      exact app11 (D0 := D) (W0 := W) h4 ht t0 t1 hx hxl h8 rfl hcnt (hfew.sub (Nat.le_refl _) hsub) hd hrot (Nat.zero_le _) hok.safe_le ⟨rfl, rfl, Out.put (.inr rfl) (by have := hok.opn.1; omega) (by omega), fput_ne (fnew_ne (.inr rfl)), hsub⟩ (.inr rfl) ⟨rfl, rfl, rfl, fun hh => (by rw [hb] at hh; cases hh), fun _ hz => (by omega), fun hz => (by rcases hz with hz | hz; rw [hb] at hz; cases hz; omega)⟩ hR
    · obtain ⟨told, g1, g2, g3⟩ := hok.crash hg
      exact hR.bad ha σ2 _ told hdu rfl rfl ⟨by simp only; omega, fun s hs => .inl (hg.isS hs)⟩ g1 (g2.trans (List.prefix_append _ _)) g3
  · have hno := (hasB_iff hok).2 hb
    exact keep (by rw [hok.size0 hno]; omega)
theorem wappend_spec {p : Option Addr} {n c : Nat} {xs : List Int} {rc : Recs} {sg : Sg} {safe : Nat} (h : LogU σ d b D W τ) (ht : Tb τ) (hx : RdI .u8 τ p n xs) (h8 : By8 xs) (hup : D.up = true) (hcnt : D.cnt < 67108864) (hd : dirOk W.dir = true) (hok : LogOk D.files D.cnt W rc sg safe)
    (hlong : 65536 < n → ∀ σ', LogU σ' d b D W τ → R (.returned (.int .i64 70)) σ')
    (hR : n ≤ 65536 → AppU d b D W τ rc sg safe xs (fun σ' => R (.returned (.int .i64 0)) σ') (fun σ' => R (.returned (.int .i64 60)) σ')) (hfew : Few D := by refine .inl ?_; first | omega | (dsimp only [dk]; omega) | (dsimp only; omega)) : Spec prog wal_Wal_Append.fid #[.pointer (some ⟨b, 0, none⟩), .slice p n c] σ R := by
  have hnx : xs.length = n := hx.1
  refine wal_Wal_Append.start fun b2 hb2 => ?_
  obtain ⟨τ1, h1, x1, t0⟩ := h.box (o := .cells #[.pointer (some ⟨b, 0, none⟩)] 26 (0, 0)) hb2
  refine frame_spec (hx.mono (x1.trans h1.ext)) (fun hl => ⟨_, _, _, _, rfl, fun b5 hb5 => ?_⟩) fun hle p' n' c' σ1 ho hx1 => ⟨_, _, _, _, rfl, fun b5 hb5 => ?_⟩
  · obtain ⟨τ2, h2, x2, t5⟩ := h1.box (o := .cells #[.slice none 0 0] 23 (0, 0)) hb5
    refine Eff.store (v := .slice none 0 0) size23 (Hp.set_same _ _ _) rfl (by simp) (by simp [Value.cells, Value.oneCell']) ?_
    rw [Hp.set_set]
    obtain ⟨τ3, h3, x3, t5⟩ := h1.box (o := .cells (wrt #[.slice none 0 0] 0 (Value.slice none 0 0).cells.toList) 23 (0, 0)) hb5
    exact ⟨fun _ => hlong hl _ (h3.weak (x1.trans x3)), fun hh => absurd (by decide) hh⟩
  · obtain ⟨τ2, h2, x2, x2n⟩ := h1.grow hx1
    have hfl : (frame xs).length = n' := by have := ho.1; simpa using this
    subst hfl
    have hfr : RdI .u8 τ2 p' (frame xs).length (frame xs) := (OwnI.rd ho).mono x2n
    refine Eff.store (v := .slice p' (frame xs).length c') size23 (Hp.set_same _ _ _) rfl (by simp) (by simp [Value.cells, Value.oneCell']) ?_
    rw [Hp.set_set]
    obtain ⟨τ3, h3, x3, t5⟩ := h2.box (o := .cells (wrt #[.slice none 0 0] 0 (Value.slice p' (frame xs).length c').cells.toList) 23 (0, 0)) hb5
    have hτ : Ext τ τ3 := x1.trans (x2.trans x3)
    have hR' := hR hle
    refine ⟨fun hh => absurd rfl hh, fun _ => caught_spec en44 ?_⟩
    refine app1_spec h3 (ht.mono hτ) (x3 _ _ (x2 _ _ t0)) t5 (hfr.mono x3) (by omega) h8 hup hcnt hfew hd hok
      ⟨fun σ' D' W' sg' safe' a1 a2 a3 a4 a5 a6 a7 a8 a9 a10 a11 a12 a13 a14 a15 => .inl ⟨rfl, _, rfl, hR'.ok σ' D' W' sg' safe' (a1.weak hτ) a2 a3 a4 a5 a6 a7 a8 a9 a10 a11 a12 a13 a14 a15⟩, fun ha σ' D' told a1 a2 a3 a4 a5 a6 a7 => .inr ⟨60, rfl, _, rfl, hR'.bad ha σ' D' told (a1.weak hτ) a2 a3 a4 a5 a6 a7⟩⟩
theorem wsync_spec {rc : Recs} {sg : Sg} {safe : Nat} (h : LogU σ d b D W τ) (ht : Tb τ) (hup : D.up = true) (hcnt : D.cnt < 67108864) (hd : dirOk W.dir = true) (hok : LogOk D.files D.cnt W rc sg safe)
    (hR : ∀ σ' D', LogU σ' d b D' W τ → D'.up = true → D'.armed = D.armed → D'.cnt = D.cnt → LogOk D'.files D'.cnt W rc sg (rc ++ toldS sg).length → Out W.dir D.files D'.files → D'.files (fnew W.dir) = D.files (fnew W.dir) → ((hasB W = true → ∃ f, D.files (fname W.dir ks W.opn) = some f ∧ D'.files = fput D.files (fname W.dir ks W.opn) (some ⟨f.data, f.data.length⟩)) ∧ ∀ s, (D'.files s).isSome = true → (D.files s).isSome = true) → R (.returned (.int .i64 0)) σ')
    (hbad : D.armed = true → ∀ σ' D' told, DiskU σ' d D' τ → D'.up = false → D'.armed = false → (D'.cnt = D.cnt ∧ ∀ s, (D'.files s).isSome = true → (D.files s).isSome = true) → OpenOk D'.files W.dir D'.cnt told → told <+: rc ++ toldS sg → safe ≤ told.length → R (.returned (.int .i64 60)) σ') : Spec prog wal_Wal_Sync.fid #[.pointer (some ⟨b, 0, none⟩)] σ R := by
  have r := h.rd
  have hds : W.dir.size ≤ 32 := by simp [dirOk] at hd; exact hd.2
  have hopn := hok.opn.2.1
  refine wal_Wal_Sync.start (has_spec h ⟨_, rfl, fun hb => ?_, fun hb => ⟨b, 0, rfl, _, r.ptr, W.opn, r.opn, ?_⟩⟩)
  · have hno := (hasB_iff hok).2 hb
    exact hR σ D h hup rfl rfl { hok with dur := fun x hx he => absurd he (hno x hx), dur0 := fun _ => Nat.le_refl _ } Out.refl rfl ⟨fun hh => (by rw [hb] at hh; cases hh), fun _ hs => hs⟩
  · obtain ⟨s0, x, rfl, he⟩ := (hasB_iff hok).1 hb
    obtain ⟨f, hf, hfl⟩ := hok.size_le he
    have hnok : nameOk (fname W.dir ks W.opn) = true := fname_ok hd (.inr rfl) (by omega)
    refine fileW_spec (kind := ks) r.dir hds (.inr rfl) (by omega) (ht.mono h.ext) fun σ1 hx1 => ⟨_, rfl, Kp.of_ext hx1, ?_⟩
    refine lsync (h.mono hx1) hup hnok hf ⟨fun σ2 h2 => ⟨_, rfl, ?_⟩, fun ha σ2 gs hg hdu => ⟨_, rfl, ?_⟩⟩
    · exact hR σ2 _ h2 rfl rfl rfl (hok.synced (by omega) he hf) (Out.put (.inr rfl) (by have := hok.opn.1; omega) (by omega)) (fput_ne (fnew_ne (.inr rfl))) ⟨fun _ => ⟨f, hf, rfl⟩, fun s hs => by
        by_cases hsn : s = fname W.dir ks W.opn
        · rw [hsn, hf]; rfl
        · have hs2 : (TwW.fput D.files (fname W.dir ks W.opn) (some ⟨f.data, f.data.length⟩) s).isSome = true := hs
          rwa [fput_ne hsn] at hs2⟩
    · obtain ⟨told, g1, g2, g3⟩ := hok.crash hg
      exact hbad ha σ2 _ told hdu rfl rfl ⟨rfl, fun s hs => hg.isS hs⟩ g1 g2 g3
end
end TwW
end
section
set_option linter.unusedVariables false
namespace TwW
open Go Tw Go.RowKit Go.Proofs.Tryz
theorem le_cancel : ∀ (c l m : List UInt8), c ++ l ≤ c ++ m → l ≤ m
  | [], _, _, h => h
  | a :: c, l, m, h => by
    rcases List.cons_le_cons_iff.1 (show a :: (c ++ l) ≤ a :: (c ++ m) from h) with h1 | ⟨_, h2⟩
    · exact absurd h1 (by simp [UInt8.lt_irrefl])
    · exact le_cancel c l m h2
theorem rise_ext : ∀ {l m : List Nat}, l.Pairwise (· < ·) → m.Pairwise (· < ·) → (∀ x, x ∈ l ↔ x ∈ m) → l = m
  | [], [], _, _, _ => rfl
  | [], b :: m, _, _, h => by have := (h b).2 (by simp); cases this
  | a :: l, [], _, _, h => by have := (h a).1 (by simp); cases this
  | a :: l, b :: m, hl, hm, h => by
    rw [List.pairwise_cons] at hl hm
    have hab : a = b := by
      rcases List.mem_cons.1 ((h a).1 (by simp)) with e | e
      · exact e
      · rcases List.mem_cons.1 ((h b).2 (by simp)) with e2 | e2
        · exact e2.symm
        · have h1 := hm.1 a e; have h2 := hl.1 b e2; omega
    subst hab
    rw [rise_ext hl.2 hm.2 fun x => ⟨fun hx => ?_, fun hx => ?_⟩]
    · rcases List.mem_cons.1 ((h x).1 (by simp [hx])) with e | e
      · have := hl.1 x hx; omega
      · exact e
    · rcases List.mem_cons.1 ((h x).2 (by simp [hx])) with e | e
      · have := hm.1 x hx; omega
      · exact e
theorem num_mono {dir s t : ByteArray} (hs : 0 < numOf dir ks s) (ht : 0 < numOf dir ks t) (h : s.data.toList ≤ t.data.toList) : numOf dir ks s ≤ numOf dir ks t := by
  obtain ⟨e1, l1⟩ := numOf_pos hs
  obtain ⟨e2, l2⟩ := numOf_pos ht
  rw [e1, e2, fname_list, fname_list] at h
  have h2 := dv_le _ _ (by rw [dec8_len l1, dec8_len l2]) (dec8_dig _) (dec8_dig _) (le_cancel _ _ _ h)
  rwa [dec8_val, dec8_val] at h2
def segNums (dir : ByteArray) (check : Nat) (L : List ByteArray) : List Nat := (L.map (numOf dir ks)).filter fun n => decide (check < n)
theorem segNums_rise {fs : Fs} {dir pre : ByteArray} {check : Nat} : ∀ {L : List ByteArray}, L.Pairwise (fun a b => a.data.toList ≤ b.data.toList) → L.Nodup → (segNums dir check L).Pairwise (· < ·)
  | [], _, _ => by simp [segNums]
  | s :: L, hs, hn => by
    rw [List.pairwise_cons] at hs
    rw [List.nodup_cons] at hn
    have ih := segNums_rise (fs := fs) (pre := pre) (dir := dir) (check := check) hs.2 hn.2
    unfold segNums at ih ⊢
    rw [List.map_cons, List.filter_cons]
    split
    · rename_i hc
      rw [List.pairwise_cons]
      refine ⟨fun n hnm => ?_, ih⟩
      obtain ⟨h1, h2⟩ := List.mem_filter.1 hnm
      obtain ⟨t, ht, rfl⟩ := List.mem_map.1 h1
      simp only [decide_eq_true_eq] at hc h2
      have hle := num_mono (dir := dir) (s := s) (t := t) (by omega) (by omega) (hs.1 t ht)
      rcases Nat.lt_or_ge (numOf dir ks s) (numOf dir ks t) with h | h
      · exact h
      · exfalso
        have e : numOf dir ks s = numOf dir ks t := by omega
        have h3 := (numOf_pos (dir := dir) (kind := ks) (s := s) (by omega)).1
        have h4 := (numOf_pos (dir := dir) (kind := ks) (s := t) (by omega)).1
        rw [e, ← h4] at h3
        exact hn.1 (h3 ▸ ht)
    · exact ih
theorem begins_num {dir kind s : ByteArray} (h : 0 < numOf dir kind s) : begins s (dir ++ slash) = true := by
  rw [(numOf_pos h).1]; exact begins_file
theorem segNums_eq {fs : Fs} {dir : ByteArray} {cnt check : Nat} {rc : Recs} {sg : Sg} {tail : List Int} {L : List ByteArray} (h : Shape fs dir cnt check rc sg tail) (hc : cnt < 99999999) (hL : Names fs (dir ++ slash) L) : segNums dir check L = sg.map (·.1) := by
  refine rise_ext (segNums_rise (fs := fs) (pre := dir) hL.sorted hL.nodup) (by rw [List.pairwise_map]; exact h.rise) fun n => ⟨fun hn => ?_, fun hn => ?_⟩
  · obtain ⟨h1, h2⟩ := List.mem_filter.1 hn
    obtain ⟨s, hs, rfl⟩ := List.mem_map.1 h1
    obtain ⟨x, hx, e⟩ := h.seg s ((hL.mem s).1 hs).1 (by simpa using h2)
    exact List.mem_map.2 ⟨x, hx, e⟩
  · obtain ⟨x, hx, rfl⟩ := List.mem_map.1 hn
    obtain ⟨k, hk⟩ := List.getElem?_of_mem hx
    have hg := h.gt x hx
    have hf := (h.file k x hk).isS
    have e : numOf dir ks (fname dir ks x.1) = x.1 := numOf_fname (by omega)
    exact List.mem_filter.2 ⟨List.mem_map.2 ⟨_, (hL.mem _).2 ⟨hf, begins_file⟩, e⟩, by simpa using hg.1⟩
def maxC (dir : ByteArray) (L : List ByteArray) : Nat := (L.map (numOf dir kc)).foldl max 0
theorem foldl_max : ∀ (l : List Nat) (a m : Nat), a ≤ m → (∀ x ∈ l, x ≤ m) → (a = m ∨ m ∈ l) → l.foldl max a = m
  | [], a, m, h, _, hm => by rcases hm with h | h; exact h; cases h
  | x :: l, a, m, h, hb, hm => by
    rw [List.foldl_cons]
    have hx := hb x (by simp)
    refine foldl_max l (max a x) m (by omega) (fun y hy => hb y (by simp [hy])) ?_
    rcases hm with h1 | h1
    · left; omega
    · rcases List.mem_cons.1 h1 with rfl | h1
      · left; omega
      · exact .inr h1
theorem maxC_eq {fs : Fs} {dir : ByteArray} {cnt check : Nat} {rc : Recs} {sg : Sg} {tail : List Int} {L : List ByteArray} (h : Shape fs dir cnt check rc sg tail) (hc : cnt < 99999999) (hL : Names fs (dir ++ slash) L) : maxC dir L = check := by
  refine foldl_max _ _ _ (Nat.zero_le _) (fun n hn => ?_) ?_
  · obtain ⟨s, hs, rfl⟩ := List.mem_map.1 hn
    exact h.old s ((hL.mem s).1 hs).1
  · rcases Nat.eq_zero_or_pos check with h0 | h0
    · exact .inl h0.symm
    · have hcle := h.cle
      exact .inr (List.mem_map.2 ⟨fname dir kc check, (hL.mem _).2 ⟨(h.chk h0).isS, begins_file⟩, numOf_fname (by omega)⟩)
theorem maxC_snoc {dir s : ByteArray} {L : List ByteArray} : maxC dir (L ++ [s]) = max (maxC dir L) (numOf dir kc s) := by simp [maxC, List.foldl_append]
def junk (dir : ByteArray) (check : Nat) (s : ByteArray) : Bool := (decide (0 < numOf dir kc s) && decide (numOf dir kc s < check)) || (decide (0 < numOf dir ks s) && decide (numOf dir ks s ≤ check))
open Classical in
noncomputable def delF (fs : Fs) (p : ByteArray → Bool) (L : List ByteArray) : Fs := fun s => if s ∈ L ∧ p s = true then none else fs s
theorem delF_nil {fs : Fs} {p : ByteArray → Bool} : delF fs p [] = fs := by funext s; simp [delF]
theorem delF_other {fs : Fs} {p : ByteArray → Bool} {L : List ByteArray} {s t : ByteArray} (hts : ¬ t = s) : delF fs p (L ++ [s]) t = delF fs p L t := by
  have e : (t ∈ L ++ [s] ∧ p t = true) ↔ (t ∈ L ∧ p t = true) := by simp [hts]
  unfold delF
  by_cases hc : t ∈ L ∧ p t = true
  · rw [if_pos (e.2 hc), if_pos hc]
  · rw [if_neg fun h => hc (e.1 h), if_neg hc]
theorem delF_snoc {fs : Fs} {p : ByteArray → Bool} {L : List ByteArray} {s : ByteArray} : delF fs p (L ++ [s]) = if p s = true then fput (delF fs p L) s none else delF fs p L := by
  funext t
  by_cases hp : p s = true
  · rw [if_pos hp]
    by_cases hts : t = s
    · subst hts
      unfold delF
      rw [if_pos ⟨by simp, hp⟩, fput_same]
    · rw [delF_other hts, fput_ne hts]
  · rw [if_neg hp]
    by_cases hts : t = s
    · subst hts
      unfold delF
      rw [if_neg fun h => hp h.2, if_neg fun h => hp h.2]
    · exact delF_other hts
theorem delF_in {fs : Fs} {p : ByteArray → Bool} {L : List ByteArray} {s : ByteArray} (h : s ∉ L) : delF fs p L s = fs s := by simp [delF, h]
theorem Shape.del {fs : Fs} {dir : ByteArray} {cnt check : Nat} {rc : Recs} {sg : Sg} {tail : List Int} {p : ByteArray → Bool} {L : List ByteArray} (h : Shape fs dir cnt check rc sg tail) (hc : cnt < 99999999) (hp : ∀ s, p s = true → (numOf dir kc s = 0 ∨ numOf dir kc s < check) ∧ numOf dir ks s ≤ check) : Shape (delF fs p L) dir cnt check rc sg tail := by
  have hcle := h.cle
  refine h.congr (Nat.le_refl _) (fun h0 => ?_) (fun x hx => ?_) fun s hs => ?_
  · unfold delF
    rw [if_neg]
    rintro ⟨_, hps⟩
    have := (hp _ hps).1
    rw [numOf_fname (by omega)] at this
    omega
  · have hg := h.gt x hx
    unfold delF
    rw [if_neg]
    rintro ⟨_, hps⟩
    have := (hp _ hps).2
    rw [numOf_fname (by omega)] at this
    omega
  · unfold delF at hs
    split at hs
    · cases hs
    · exact .inl hs
theorem Out.delF {fs : Fs} {dir : ByteArray} {p : ByteArray → Bool} {L : List ByteArray} (hp : ∀ s, p s = true → begins s (dir ++ slash) = true) : Out dir fs (TwW.delF fs p L) := by
  refine ⟨fun s hs => ?_, fun s hs => ?_⟩
  · unfold TwW.delF
    rw [if_neg]
    rintro ⟨_, h⟩
    rw [hp s h] at hs; cases hs
  · unfold TwW.delF at hs
    split at hs
    · cases hs
    · exact .inl hs
theorem junk_in {dir : ByteArray} {check : Nat} {s : ByteArray} (h : junk dir check s = true) : begins s (dir ++ slash) = true ∧ (numOf dir kc s = 0 ∨ numOf dir kc s < check) ∧ numOf dir ks s ≤ check := by
  simp only [junk, Bool.or_eq_true, Bool.and_eq_true, decide_eq_true_eq] at h
  rcases h with ⟨h1, h2⟩ | ⟨h1, h2⟩
  · have := num_kinds h1
    exact ⟨begins_num h1, .inr h2, by omega⟩
  · refine ⟨begins_num h1, .inl ?_, h2⟩
    rcases Nat.eq_zero_or_pos (numOf dir kc s) with h0 | h0
    · exact h0
    · have := num_kinds h0; omega
abbrev RdT (σ : Hp) (p : Option Addr) (n : Nat) (L : List ByteArray) : Prop := RdC 1 σ p n (L.map .string)
theorem RdT.at {σ : Hp} {p : Option Addr} {n k : Nat} {L : List ByteArray} {s : ByteArray} (h : RdT σ p n L) (hk : L[k]? = some s) : ∃ b o, p = some ⟨b, o, none⟩ ∧ σ.ld ⟨b, o + k * 1, none⟩ = some (.string s) := by
  obtain ⟨h1, _, h2⟩ := h
  have hlt := (List.getElem?_eq_some_iff.1 hk).1
  rcases h2 with h2 | ⟨b, o, hp, hl⟩
  · simp at h1; omega
  · refine ⟨b, o, hp, ?_⟩
    rw [Nat.mul_one]
    exact hl.get (by rw [List.getElem?_map, hk]; rfl)
theorem RdT.len {σ : Hp} {p : Option Addr} {n : Nat} {L : List ByteArray} (h : RdT σ p n L) : L.length = n := by have := h.1; simpa using this
theorem RdT.mono {σ σ' : Hp} {p : Option Addr} {n : Nat} {L : List ByteArray} (h : RdT σ p n L) (hx : Ext σ σ') : RdT σ' p n L := RdC.mono hx h
section
variable {σ τ : Hp} {d b : Nat} {D : Dk} {W : Wl} {R : Ending → Hp → Prop} {p1 : Option Addr} {n1 c1 : Nat} {L : List ByteArray} {fs0 : Fs} {cnt : Nat}
abbrev dk (fs : Fs) (cnt : Nat) : Dk := ⟨fs, true, false, cnt⟩
theorem sweep2 {check : Nat} (hL : Names fs0 (W.dir ++ slash) L) {fs : Fs} (hfs : ∀ s ∈ L, junk W.dir check s = true → fs s = fs0 s) (hnm : ∀ s, (fs0 s).isSome = true → nameOk s = true) (hd : W.dir.size ≤ 32) (ht : RdT τ p1 n1 L) (hn1 : n1 ≤ 67108864)
    (hR : ∀ σ', LogU σ' d b (dk (delF fs (junk W.dir check) L) cnt) { W with check := check, segs := segNums W.dir check L } τ → R (.returned (.tuple #[])) σ') :
    ∀ (m k : Nat) (σ : Hp), n1 - k = m → k ≤ n1 → LogU σ d b (dk (delF fs (junk W.dir check) (L.take k)) cnt) { W with check := check, segs := segNums W.dir check (L.take k) } τ → wal_Wal_sweep.pt28 R (some ⟨b, 0, none⟩) p1 n1 c1 n1 k σ := by
  intro m
  have hlen := ht.len
  induction m with
  | zero =>
    intro k σ hm hk h
    rw [List.take_of_length_le (by omega)] at h
    exact wal_Wal_sweep.pt28_of ⟨fun hh => by omega, fun _ => hR σ h⟩
  | succ m ih =>
    intro k σ hm hk h
    have hr := h.rd
    obtain ⟨s, hs⟩ : ∃ s, L[k]? = some s := ⟨_, List.getElem?_eq_getElem (by omega)⟩
    obtain ⟨b43, o43, rfl, hl⟩ := (ht.mono h.ext).at hs
    have hsL : s ∈ L := List.mem_of_getElem? hs
    have hs0 := (hL.mem s).1 hsL
    have htk := take_succ' hs
    have hnot : s ∉ L.take k := by
      have := hL.nodup.sublist (List.take_sublist (k + 1) L)
      rw [htk, List.nodup_append] at this
      exact fun hm => this.2.2 s hm s (by simp) rfl
    have hseg : segNums W.dir check (L.take (k + 1)) = segNums W.dir check (L.take k) ++ (if check < numOf W.dir ks s then [numOf W.dir ks s] else []) := by
      rw [htk]; unfold segNums
      rw [List.map_append, List.filter_append]
      simp only [List.map_cons, List.map_nil, List.filter_cons, List.filter_nil]
      congr 1
      split <;> simp_all
    have next : ∀ σ', LogU σ' d b (dk (delF fs (junk W.dir check) (L.take (k + 1))) cnt) { W with check := check, segs := segNums W.dir check (L.take (k + 1)) } τ → wal_Wal_sweep.pt49 R (some ⟨b, 0, none⟩) (some ⟨b43, o43, none⟩) n1 c1 n1 k σ' := fun σ' h' =>
      wal_Wal_sweep.pt49_of ⟨by unfold I64; omega, ih (k + 1) σ' (by omega) (by omega) h'⟩
    have hseglen : (segNums W.dir check (L.take k)).length ≤ 67108864 := by
      refine Nat.le_trans (List.length_filter_le _ _) ?_
      rw [List.length_map, List.length_take]; omega
    have hdel : junk W.dir check s = true → ∃ q77 : Option Addr, Hp.ld σ ⟨b, 0, none⟩ = some (.pointer q77) ∧ Spec prog 56 #[(.pointer q77), (.string s)] σ (Cont R (fun v_3 σ1_3 => ∃ x79 : Int, v_3 = (.int .i64 x79) ∧ Spec prog 43 #[(.int .i64 x79)] σ1_3 (Cont R (fun v_4 σ1_4 => v_4 = (.tuple #[]) ∧ wal_Wal_sweep.pt49 R (some ⟨b, 0, none⟩) (some ⟨b43, o43, none⟩) n1 c1 n1 k σ1_4)))) := fun hj => by
      obtain ⟨f, hf⟩ := Option.isSome_iff_exists.1 hs0.1
      have hj2 := junk_in hj
      refine ⟨_, hr.ptr, ldelete h rfl (hnm s hs0.1) (f := f) (by show delF fs (junk W.dir check) (L.take k) s = some f; rw [delF_in hnot, hfs s hsL hj, hf]) ⟨fun σ2 h2 => ⟨0, rfl, must0 (next σ2 ?_)⟩, fun ha => by cases ha⟩⟩
      rw [htk, delF_snoc, if_pos hj, ← htk, hseg, if_neg (by omega), List.append_nil]
      exact h2
    have hskip : junk W.dir check s = false → numOf W.dir ks s ≤ check → wal_Wal_sweep.pt49 R (some ⟨b, 0, none⟩) (some ⟨b43, o43, none⟩) n1 c1 n1 k σ := fun hj hle => next σ (by
      rw [htk, delF_snoc, if_neg (by rw [hj]; simp), ← htk, hseg, if_neg (by omega), List.append_nil]
      exact h)
    have happ : numOf W.dir kc s = 0 ∨ ¬ numOf W.dir kc s < check → check < numOf W.dir ks s → ∃ p88 : Option Addr, ∃ n88 : Nat, ∃ c88 : Nat, Hp.ld σ ⟨b, (0 + 3), none⟩ = some (.slice p88 n88 c88) ∧ ∀ b90 : Nat, σ b90 = none → Eff prog (Builtin.append_ #[64, 64] 64 #[(.slice p88 n88 c88), (.slice (some ⟨b90, 0, none⟩) 1 1)]) (Hp.set σ b90 (.cells #[(.int .i64 (numOf W.dir ks s))] 3 (0, 0))) (fun v_3 σ1_3 => ∃ p91 : Option Addr, ∃ n91 : Nat, ∃ c91 : Nat, v_3 = (.slice p91 n91 c91) ∧ Eff prog (Instr.storeAt 64 (.pointer (some ⟨b, (0 + 3), none⟩)) (.slice p91 n91 c91)) σ1_3 (fun _ σ1_4 => wal_Wal_sweep.pt49 R (some ⟨b, 0, none⟩) (some ⟨b43, o43, none⟩) n1 c1 n1 k σ1_4)) := fun hc hs => by
      obtain ⟨p88, c88, hc88, hl88, _⟩ := hr.segs
      refine ⟨p88, _, c88, hl88, fun b90 hb90 => ?_⟩
      refine (h.app (Φ := fun _ σ' => wal_Wal_sweep.pt49 R (some ⟨b, 0, none⟩) (some ⟨b43, o43, none⟩) n1 c1 n1 k σ') hl88 hseglen hb90 (K := fun _ _ => True) (fun _ _ => trivial) fun σ3 h3 => next σ3 ?_).mono fun v σ3 ⟨p', n', c', e1, _, e3⟩ => ⟨p', n', c', e1, e3⟩
      have hj : ¬ junk W.dir check s = true := by
        simp only [junk, Bool.or_eq_true, Bool.and_eq_true, decide_eq_true_eq]; omega
      rw [htk, delF_snoc, if_neg hj, ← htk, hseg, if_pos hs]
      exact h3
    refine wal_Wal_sweep.pt28_of ⟨fun _ => ⟨b43, o43, rfl, by omega, s, by simpa using hl, number_spec (dir := W.dir) (kind := kc) hr.dir hd (.inl rfl) ⟨_, rfl, number_spec (dir := W.dir) (kind := ks) hr.dir hd (.inr rfl) ⟨_, rfl, ?_⟩⟩⟩, fun hh => by omega⟩
    have hk0 : 0 < numOf W.dir kc s → numOf W.dir ks s = 0 := num_kinds
    have hc59 : σ.ld ⟨b, 0 + 2, none⟩ = some (.int .i64 (check : Nat)) := hr.check
    refine ⟨fun hc => ⟨b, 0, rfl, _, hc59, fun hlt => hdel (by simp only [junk, Bool.or_eq_true, Bool.and_eq_true, decide_eq_true_eq]; left; omega), fun hge => ⟨fun hs => ?_, fun hs => ⟨fun hs2 => absurd hs2 hs, fun _ => hskip ?_ ?_⟩⟩⟩, fun hc => ⟨fun hs => ⟨b, 0, rfl, _, hc59, fun hle => hdel (by simp only [junk, Bool.or_eq_true, Bool.and_eq_true, decide_eq_true_eq]; right; omega), fun hgt => ⟨fun _ => happ (by omega) (by omega), fun hn => absurd hs hn⟩⟩, fun hs => ⟨fun hs2 => absurd hs2 hs, fun _ => hskip ?_ ?_⟩⟩⟩
    · have := hk0 (by omega); omega
    · simp only [junk, Bool.or_eq_false_iff, Bool.and_eq_false_iff, decide_eq_false_iff_not]; omega
    · omega
    · simp only [junk, Bool.or_eq_false_iff, Bool.and_eq_false_iff, decide_eq_false_iff_not]; omega
    · omega
end
end TwW
end
section
set_option linter.unusedVariables false
namespace TwW
open Go Tw Go.RowKit Go.Proofs.Tryz
def isNew (dir s : ByteArray) : Bool := decide (s = fnew dir)
section
variable {σ τ : Hp} {d b : Nat} {D : Dk} {W : Wl} {R : Ending → Hp → Prop} {p1 : Option Addr} {n1 c1 : Nat} {L : List ByteArray} {fs0 : Fs} {cnt : Nat}
theorem junk_new {dir : ByteArray} {check : Nat} : junk dir check (fnew dir) = false := by simp [junk, num_new (.inl rfl), num_new (.inr rfl)]
noncomputable def swept (fs0 : Fs) (dir : ByteArray) (L : List ByteArray) : Fs := delF (delF fs0 (isNew dir) L) (junk dir (maxC dir L)) L
theorem sweep_spec (h : LogU σ d b (dk fs0 cnt) W τ) (hW : W.check = 0 ∧ W.segs = []) (hL : Names fs0 (W.dir ++ slash) L) (hnm : ∀ s, (fs0 s).isSome = true → nameOk s = true) (hd : W.dir.size ≤ 32) (ht : RdT τ p1 n1 L) (hn1 : n1 ≤ 67108864)
    (hR : ∀ σ', LogU σ' d b (dk (swept fs0 W.dir L) cnt) { W with check := maxC W.dir L, segs := segNums W.dir (maxC W.dir L) L } τ → R (.returned (.tuple #[])) σ') :
    Spec prog wal_Wal_sweep.fid #[.pointer (some ⟨b, 0, none⟩), .slice p1 n1 c1] σ R := by
  refine wal_Wal_sweep.start ?_
  have hlen := ht.len
  suffices H : ∀ (m k : Nat) (σ : Hp), n1 - k = m → k ≤ n1 → LogU σ d b (dk (delF fs0 (isNew W.dir) (L.take k)) cnt) { W with check := maxC W.dir (L.take k), segs := [] } τ → wal_Wal_sweep.pt6 R (some ⟨b, 0, none⟩) p1 n1 c1 p1 n1 c1 n1 k σ from
    H n1 0 σ rfl (Nat.zero_le _) (by
      rw [List.take_zero, delF_nil]
      have : ({ W with check := maxC W.dir [], segs := [] } : Wl) = W := by
        cases W; simp only at hW; simp [maxC, hW.1, hW.2]
      rw [this]; exact h)
  intro m
  induction m with
  | zero =>
    intro k σ hm hk h
    rw [List.take_of_length_le (by omega)] at h
    refine wal_Wal_sweep.pt6_of ⟨fun hh => by omega, fun _ => ?_⟩
    refine sweep2 (W := W) (fs := delF fs0 (isNew W.dir) L) (fs0 := fs0) hL (fun s hs hj => ?_) hnm hd ht hn1 hR n1 0 σ rfl (Nat.zero_le _) ?_
    · unfold delF
      rw [if_neg]
      rintro ⟨_, hn⟩
      simp only [isNew, decide_eq_true_eq] at hn
      rw [hn, junk_new] at hj; cases hj
    · rw [List.take_zero, delF_nil]; exact h
  | succ m ih =>
    intro k σ hm hk h
    have hr := h.rd
    obtain ⟨s, hs⟩ : ∃ s, L[k]? = some s := ⟨_, List.getElem?_eq_getElem (by omega)⟩
    obtain ⟨b43, o43, hp1, hl⟩ := (ht.mono h.ext).at hs
    have hsL : s ∈ L := List.mem_of_getElem? hs
    have hs0 := (hL.mem s).1 hsL
    have htk := take_succ' hs
    have hnot : s ∉ L.take k := by
      have := hL.nodup.sublist (List.take_sublist (k + 1) L)
      rw [htk, List.nodup_append] at this
      exact fun hm => this.2.2 s hm s (by simp) rfl
    have next : ∀ σ', LogU σ' d b (dk (delF fs0 (isNew W.dir) (L.take (k + 1))) cnt) { W with check := maxC W.dir (L.take k), segs := [] } τ → wal_Wal_sweep.pt21 R (some ⟨b, 0, none⟩) p1 n1 c1 s p1 n1 c1 n1 k σ' := fun σ' h' => by
      have hr' := h'.rd
      refine wal_Wal_sweep.pt21_of ⟨b, 0, rfl, (maxC W.dir (L.take k) : Nat), hr'.check, number_spec (dir := W.dir) (kind := kc) hr'.dir hd (.inl rfl) ⟨_, rfl, fun _ _ _ hb => hb, ?_⟩⟩
      have e : (if ((maxC W.dir (L.take k) : Nat) : Int) < (numOf W.dir kc s : Int) then (numOf W.dir kc s : Int) else ((maxC W.dir (L.take k) : Nat) : Int)) = ((maxC W.dir (L.take (k + 1)) : Nat) : Int) := by
        rw [htk, maxC_snoc]; split <;> omega
      rw [e]
      refine h'.st (i := 0 + 2) (W' := { W with check := maxC W.dir (L.take (k + 1)), segs := [] }) (by omega) rfl (fun p n c => rfl) fun σ2 h2 => ⟨by unfold I64; omega, ih (k + 1) σ2 (by omega) (by omega) h2⟩
    refine wal_Wal_sweep.pt6_of ⟨fun _ => ⟨b43, o43, hp1, by omega, s, by simpa using hl, fresh_spec (dir := W.dir) hr.dir hd ⟨_, rfl, fun he => ?_, fun hne => ?_⟩⟩, fun hh => by omega⟩
    · rw [beq_list, decide_eq_true_eq] at he
      have hsn : s = fnew W.dir := ba_ext he
      obtain ⟨f, hf⟩ := Option.isSome_iff_exists.1 hs0.1
      refine ⟨b, 0, rfl, _, hr.ptr, ldelete h rfl (hnm s hs0.1) (f := f) (by show delF fs0 (isNew W.dir) (L.take k) s = some f; rw [delF_in hnot, hf]) ⟨fun σ2 h2 => ⟨0, rfl, must0 ?_⟩, fun ha => by cases ha⟩⟩
      rw [← hp1]
      refine next σ2 ?_
      rw [htk, delF_snoc, if_pos (by simp [isNew, hsn])]
      exact h2
    · rw [beq_list, decide_eq_false_iff_not] at hne
      have hsn : ¬ s = fnew W.dir := fun e => hne (by rw [e])
      rw [← hp1]
      refine next σ ?_
      rw [htk, delF_snoc, if_neg (by simp [isNew, hsn])]
      exact h
theorem swept_shape {fs : Fs} {dir : ByteArray} {check : Nat} {rc : Recs} {sg : Sg} {tail : List Int} (h : Shape fs dir cnt check rc sg tail) (hc : cnt < 99999999) (hL : Names fs (dir ++ slash) L) :
    Shape (swept fs dir L) dir cnt check rc sg tail ∧ Out dir fs (swept fs dir L) ∧ swept fs dir L (fnew dir) = none ∧ ∀ s f, swept fs dir L s = some f → fs s = some f := by
  have hm := maxC_eq h hc hL
  have hn : ∀ s, isNew dir s = true → begins s (dir ++ slash) = true ∧ (numOf dir kc s = 0 ∨ numOf dir kc s < check) ∧ numOf dir ks s ≤ check := fun s hs => by
    simp only [isNew, decide_eq_true_eq] at hs
    subst hs
    exact ⟨begins_new, .inl (num_new (.inl rfl)), by rw [num_new (.inr rfl)]; omega⟩
  unfold swept
  rw [hm]
  refine ⟨(h.del hc fun s hs => (hn s hs).2).del hc fun s hs => (junk_in hs).2, (Out.delF fun s hs => (hn s hs).1).trans (Out.delF fun s hs => (junk_in hs).1), ?_, fun s f hs => ?_⟩
  · have e : delF fs (isNew dir) L (fnew dir) = none := by
      unfold delF
      by_cases hin : fnew dir ∈ L
      · rw [if_pos ⟨hin, by simp [isNew]⟩]
      · rw [if_neg fun hh => hin hh.1]
        cases hf : fs (fnew dir) with
        | none => rfl
        | some f => exact absurd ((hL.mem _).2 ⟨by rw [hf]; rfl, begins_new⟩) hin
    unfold delF at e ⊢
    rw [if_neg (by rw [junk_new]; simp), e]
  · unfold delF at hs
    split at hs
    · cases hs
    · split at hs
      · cases hs
      · exact hs
end
end TwW
end
section
set_option linter.unusedVariables false
namespace TwW
open Go Tw Go.RowKit Go.Proofs.Tryz
section
variable {σ τ : Hp} {d b : Nat} {D : Dk} {W : Wl} {R : Ending → Hp → Prop} {dir : ByteArray}
def laid (fs : Fs) (dir name : ByteArray) (x : List Int) : Fs := fun s => if s = name then some ⟨x, x.length⟩ else if s = fnew dir then none else fs s
structure LogF (τ : Hp) (d b : Nat) (dir : ByteArray) : Prop where
  ptr : τ.ld ⟨b, 0, none⟩ = some (.pointer (some ⟨d, 0, none⟩))
  dir : τ.ld ⟨b, 0 + 1, none⟩ = some (.string dir)
theorem LogF.mono {τ τ' : Hp} {d b : Nat} {dir : ByteArray} (h : LogF τ d b dir) (hx : Ext τ τ') : LogF τ' d b dir := ⟨hx.ld h.ptr, hx.ld h.dir⟩
theorem WalAt.logF {b : Nat} {S : List Nat} {p : Option Addr} {c : Nat} {T : TypeId} (h : WalAt τ b d W S p c T) : LogF τ d b W.dir := ⟨ld_of h.obj rfl, ld_of h.obj rfl⟩
theorem LogU.opened (h : LogU σ d b D W τ) : ∃ τ' S p c T, DiskU σ d D τ' ∧ WalAt τ' b d W S p c T ∧ Ext τ (τ'.off S) := by
  obtain ⟨Sd, S, p, c, T, h1, h2, h3⟩ := h
  exact ⟨σ.off Sd, S, p, c, T, ⟨Sd, h1, Ext.refl _⟩, h2, h3⟩
theorem LogU.close {τ' : Hp} {S : List Nat} {p : Option Addr} {c : Nat} {T : TypeId} (h : DiskU σ d D τ') (hw : WalAt τ' b d W S p c T) : LogU σ d b D W (τ'.off S) := by
  obtain ⟨Sd, h1, h2⟩ := h
  exact ⟨Sd, S, p, c, T, h1, hw.mono h2, h2.off S⟩
theorem dappend {s : ByteArray} {p : Option Addr} {n c : Nat} {xs : List Int} (h : DiskU σ d D τ) (hup : D.up = true) (hn : nameOk s = true) (hc : Few D) (hx : RdI .u8 τ p n xs) (hlen : ((D.files s).getD ⟨[], 0⟩).data.length + n ≤ 4194304)
    (hw : WrU σ d D τ (fun σ' D' => DiskU σ' d D' τ) (appd D.files s xs) (appd D.files s xs) (D.cnt + 1) R) : Spec prog disk_Disk_Append.fid #[.pointer (some ⟨d, 0, none⟩), .string s, .slice p n c] σ R := by
  obtain ⟨Sd, h1, h3⟩ := h
  exact append_spec h1 hup hn hc (hx.mono h3) hlen (hw.wrd h3)
theorem dsync {s : ByteArray} {f : Fl} (h : DiskU σ d D τ) (hup : D.up = true) (hn : nameOk s = true) (hf : D.files s = some f)
    (hw : WrU σ d D τ (fun σ' D' => DiskU σ' d D' τ) (fput D.files s (some ⟨f.data, f.data.length⟩)) D.files D.cnt R) : Spec prog disk_Disk_Sync.fid #[.pointer (some ⟨d, 0, none⟩), .string s] σ R := by
  obtain ⟨Sd, h1, h3⟩ := h
  exact sync_spec h1 hup hn hf (hw.wrd h3)
theorem drename {s t : ByteArray} {f : Fl} (h : DiskU σ d D τ) (hup : D.up = true) (hn : nameOk s = true) (hn' : nameOk t = true) (hf : D.files s = some f)
    (hw : WrU σ d D τ (fun σ' D' => DiskU σ' d D' τ) (fput (fput D.files s none) t (some f)) D.files D.cnt R) : Spec prog disk_Disk_Rename.fid #[.pointer (some ⟨d, 0, none⟩), .string s, .string t] σ R := by
  obtain ⟨Sd, h1, h3⟩ := h
  exact rename_spec h1 hup hn hn' hf (hw.wrd h3)
theorem ddelete {s : ByteArray} {f : Fl} (h : DiskU σ d D τ) (hup : D.up = true) (hn : nameOk s = true) (hf : D.files s = some f)
    (hw : WrU σ d D τ (fun σ' D' => DiskU σ' d D' τ) (fput D.files s none) D.files D.cnt R) : Spec prog disk_Disk_Delete.fid #[.pointer (some ⟨d, 0, none⟩), .string s] σ R := by
  obtain ⟨Sd, h1, h3⟩ := h
  exact delete_spec h1 hup hn hf (hw.wrd h3)
theorem Out.laid {fs : Fs} {kind : ByteArray} {k : Nat} {x : List Int} (hk : kind = kc ∨ kind = ks) (h0 : 0 < k) (h1 : k < 100000000) : Out dir fs (TwW.laid fs dir (fname dir kind k) x) := by
  refine ⟨fun s hs => ?_, fun s hs => ?_⟩
  · have e1 : ¬ s = fname dir kind k := fun e => by rw [e, begins_file] at hs; cases hs
    have e2 : ¬ s = fnew dir := fun e => by rw [e, begins_new] at hs; cases hs
    simp [TwW.laid, e1, e2]
  · by_cases e : s = fname dir kind k
    · subst e
      have := numOf_fname (dir := dir) (kind := kind) h1
      rcases hk with rfl | rfl
      · exact .inr (.inl (by omega))
      · exact .inr (.inr (.inl (by omega)))
    · by_cases e2 : s = fnew dir
      · exact .inr (.inr (.inr e2))
      · simp only [TwW.laid, e, e2, if_false] at hs; exact .inl hs
structure RepU (d : Nat) (D : Dk) (dir : ByteArray) (τ : Hp) (name : ByteArray) (x : List Int) (rok : Hp → Prop) (rbad : Hp → Prop) : Prop where
  ok : ∀ σ', DiskU σ' d ⟨laid D.files dir name x, true, D.armed, D.cnt + 1⟩ τ → rok σ'
  bad : D.armed = true → ∀ σ' gs' gs, (∀ s, s ≠ fnew dir → gs' s = D.files s) → Crash gs' gs → DiskU σ' d ⟨gs, false, false, D.cnt + 1⟩ τ → rbad σ'
theorem replace_spec {name : ByteArray} {p : Option Addr} {n c : Nat} {recs : Recs} (h : DiskU σ d D τ) (hw : LogF τ d b dir) (hup : D.up = true) (hcnt : D.cnt < 67108864) (hfew : Few D) (hd : dirOk dir = true) (hname : nameOk name = true) (hx : RdLL τ p n recs) (hs : Good recs) (hlen : (joinF recs).length ≤ 4194304) (hnew : D.files (fnew dir) = none) (hne : name ≠ fnew dir)
    (hR : RepU d D dir τ name (joinF recs) (fun σ' => R (.returned (.tuple #[])) σ') (fun σ' => R (.panicked (pan 60)) σ')) : Spec prog wal_Wal_replace.fid #[.pointer (some ⟨b, 0, none⟩), .string name, .slice p n c] σ R := by
  have hds : dir.size ≤ 32 := by simp [dirOk] at hd; exact hd.2
  have hnok := fnew_ok hd
  have fr : ∀ {σ' : Hp} {K : Ending → Hp → Prop}, Ext τ σ' → K (.returned (.string (fnew dir))) σ' → Spec prog wal_Wal_fresh.fid #[.pointer (some ⟨b, 0, none⟩)] σ' K := fun hl hk => fresh_spec (dir := dir) (hl.ld hw.dir) hds hk
  refine wal_Wal_replace.start ⟨b, 0, rfl, _, h.ext.ld hw.ptr, fr h.ext ⟨_, rfl, fun _ _ _ hb => hb, join_spec (hx.mono h.ext) hs.short (by omega) fun p' n' c' σ1 ho hx1 => ⟨p', n', c', rfl, Kp.of_ext hx1, ?_⟩⟩⟩
  obtain ⟨τ1, h1, x1, x1n⟩ := h.grow hx1
  have hfl : (joinF recs).length = n' := by have := ho.1; simpa using this
  subst hfl
  have hfr : RdI .u8 τ1 p' (joinF recs).length (joinF recs) := (OwnI.rd ho).mono x1n
  have hf0 : (D.files (fnew dir)).getD ⟨[], 0⟩ = ⟨[], 0⟩ := by rw [hnew]; rfl
  refine dappend h1 hup hnok hfew hfr (by rw [hf0]; simpa using hlen) ⟨fun σ2 h2 => ⟨0, rfl, must0 ?_⟩, fun ha σ2 gs hg hdu => ⟨60, rfl, must60 ?_⟩⟩
  · have e1 : appd D.files (fnew dir) (joinF recs) (fnew dir) = some ⟨joinF recs, 0⟩ := by simp [appd, fput, hnew]
    refine ⟨_, (x1.trans h2.ext).ld hw.ptr, fr (x1.trans h2.ext) ⟨_, rfl, fun _ _ _ hb => hb, dsync h2 rfl hnok (f := ⟨joinF recs, 0⟩) e1 ⟨fun σ3 h3 => ⟨0, rfl, must0 ?_⟩, fun ha σ3 gs hg hdu => ⟨60, rfl, must60 ?_⟩⟩⟩⟩
    · refine ⟨_, (x1.trans h3.ext).ld hw.ptr, fr (x1.trans h3.ext) ⟨_, rfl, fun _ _ _ hb => hb, drename h3 rfl hnok hname (f := ⟨joinF recs, (joinF recs).length⟩) fput_same ⟨fun σ4 h4 => ⟨0, rfl, must0 ?_⟩, fun ha σ4 gs hg hdu => ⟨60, rfl, must60 ?_⟩⟩⟩⟩
      · have e : fput (fput (fput (appd D.files (fnew dir) (joinF recs)) (fnew dir) (some ⟨joinF recs, (joinF recs).length⟩)) (fnew dir) none) name (some ⟨joinF recs, (joinF recs).length⟩) = laid D.files dir name (joinF recs) := by
          funext s
          by_cases h1 : s = name
          · subst h1; simp [fput, laid]
          · by_cases h2 : s = fnew dir
            · subst h2; simp [fput, laid, h1]
            · simp [fput, laid, h1, h2, appd]
        have := hR.ok σ4
        rw [← e] at this
        exact this (h4.weak x1)
      · exact hR.bad ha σ4 _ gs (fun s hs => (fput_ne hs).trans (appd_ne hs)) hg (hdu.weak x1)
    · exact hR.bad ha σ3 _ gs (fun s hs => appd_ne hs) hg (hdu.weak x1)
  · exact hR.bad ha σ2 _ gs (fun s hs => appd_ne hs) hg (hdu.weak x1)
theorem dread {s : ByteArray} {f : Fl} (h : DiskU σ d D τ) (hup : D.up = true) (hn : nameOk s = true) (hf : D.files s = some f)
    (hR : ∀ p c σ' τ', DiskU σ' d D τ' → Ext τ τ' → f.data.length ≤ c → f.data.length ≤ 4194304 → RdI .u8 τ' p f.data.length f.data → R (.returned (.tuple #[.slice p f.data.length c, .int .i64 0])) σ') : Spec prog disk_Disk_Read.fid #[.pointer (some ⟨d, 0, none⟩), .string s] σ R := by
  have h' := h
  obtain ⟨Sd, h1, h3⟩ := h'
  have hsm : f.data.length ≤ 4194304 := by
    obtain ⟨m, cl, rows, T, a, b, e, hd⟩ := h1
    rw [hd.files, Row.look] at hf
    cases hfi : rows.find? (fun r => decide (r.name = s)) with
    | none => rw [hfi] at hf; cases hf
    | some r =>
      rw [hfi] at hf
      cases hf
      exact (hd.row r (List.mem_of_find?_eq_some hfi)).small
  refine read_spec h1 hup hn hf fun p c σ' ho hx => ?_
  obtain ⟨τ', g1, g2, g3⟩ := h.grow hx
  exact hR p c σ' τ' g1 g2 (Own.cap ho) hsm ((OwnI.rd ho).mono g3)
def Bes (τ ν : Hp) : Prop := ∀ j o, ν j = some o → τ j = none
theorem Bes.of {τ σ σ' : Hp} (h : Ext τ σ) : Bes τ (σ.new σ') := fun j o hj => by
  cases ht : τ j with
  | none => rfl
  | some u => have h1 := (new_some.1 hj).1; rw [h _ _ ht] at h1; cases h1
theorem Bes.del {τ ν τ' : Hp} (h : Bes τ ν) (hx : Ext ν τ') {p : Option Addr} (hp : ∀ a, p = some a → τ a.block ≠ none) : Ext ν (τ'.del p) := fun j o hj => del_some.2 ⟨fun a ha e => hp a ha (by rw [← e]; exact h j o hj), hx j o hj⟩
theorem Bes.own {τ ν τ' : Hp} (h : Bes τ ν) (hx : Ext τ τ') {p : Option Addr} (hp : ∀ a, p = some a → ν a.block ≠ none) : Ext τ (τ'.del p) := fun j o hj => by
  refine del_some.2 ⟨fun a ha e => ?_, hx j o hj⟩
  cases hn : ν a.block with
  | none => exact hp a ha hn
  | some u => have := h _ _ hn; rw [← e, hj] at this; cases this
theorem part_whole {name : ByteArray} {p2 : Option Addr} {n2 c2 : Nat} {recs : Recs} (h : DiskU σ d D τ) (hw : LogF τ d b dir) (hup : D.up = true) (hname : nameOk name = true) (hf : Has D.files name (joinF recs)) (hg : Good recs)
    (hR : ∀ σ' τ' ν p n c, DiskU σ' d D τ' → Ext τ τ' → OwnLL ν p n c recs → Ext ν τ' → Bes τ ν → R (.returned (.tuple #[.slice p n c, .bool true])) σ') : Spec prog wal_Wal_part.fid #[.pointer (some ⟨b, 0, none⟩), .string name, .slice p2 n2 c2] σ R := by
  obtain ⟨f, hf, hfd⟩ := hf
  refine wal_Wal_part.start ⟨b, 0, rfl, _, h.ext.ld hw.ptr, dread h hup hname hf fun p c σ1 τ1 h1 x1 hc hsm hrd => ⟨_, _, _, _, rfl, must0 ?_⟩⟩
  rw [hfd] at hrd hc hsm
  rw [hfd]
  refine frames_spec (t := []) (hrd.mono h1.ext) (by8_join hg) hc hsm (by simp) hg.short torn_nil fun p' n' c' σ2 ho hx2 => ⟨_, _, _, _, rfl, fun _ => ?_, fun hh => by simp at hh⟩
  obtain ⟨τ2, h2, x2, x2n⟩ := h1.grow hx2
  exact hR σ2 τ2 _ p' n' c' h2 (x1.trans x2) ho x2n (Bes.of (x1.trans h1.ext))
theorem part_torn {name : ByteArray} {p2 : Option Addr} {c2 : Nat} {recs : Recs} {tail : List Int} (h : DiskU σ d D τ) (hw : LogF τ d b dir) (hup : D.up = true) (harm : D.armed = false) (hcnt : D.cnt < 67108864) (hfew : Few D) (hd : dirOk dir = true) (hname : nameOk name = true) (hf : Has D.files name (joinF recs ++ tail)) (hg : Good recs) (ht : Torn tail) (h8 : By8 tail) (hne : tail ≠ []) (hnew : D.files (fnew dir) = none) (hnn : name ≠ fnew dir)
    (hR : ∀ σ' τ' ν p n c fs c', DiskU σ' d (dk fs c') τ' → Ext τ τ' → OwnLL ν p n c recs → Ext ν τ' → Bes τ ν → c' ≤ D.cnt + 1 → D.cnt ≤ c' → fs = (if recs = [] then fput D.files name none else laid D.files dir name (joinF recs)) → R (.returned (.tuple #[.slice p n c, .bool false])) σ') : Spec prog wal_Wal_part.fid #[.pointer (some ⟨b, 0, none⟩), .string name, .slice p2 0 c2] σ R := by
  obtain ⟨f, hf, hfd⟩ := hf
  refine wal_Wal_part.start ⟨b, 0, rfl, _, h.ext.ld hw.ptr, dread h hup hname hf fun p c σ1 τ1 h1 x1 hc hsm hrd => ⟨_, _, _, _, rfl, must0 ?_⟩⟩
  rw [hfd] at hrd hc hsm
  rw [hfd]
  refine frames_spec (t := tail) (hrd.mono h1.ext) (by8_append (by8_join hg) h8) hc hsm rfl hg.short ht fun p' n' c' σ2 ho hx2 => ⟨_, _, _, _, rfl, fun hh => by simp [hne] at hh, fun _ => ⟨by unfold I64; omega, ?_⟩⟩
  obtain ⟨τ2, h2, x2, x2n⟩ := h1.grow hx2
  have hrl : RdLL τ2 p' n' recs := RdLL.mono x2n (OwnL.rd EBy.mono ho)
  have hrn : recs.length = n' := hrl.1
  have hjl : (joinF recs).length ≤ 4194304 := by
    rw [List.length_append] at hsm; omega
  refine wal_Wal_part.pt23_of ⟨fun hh => by omega, fun _ => ⟨fun hpos => ?_, fun hz => ?_⟩⟩
  · have hrne : recs ≠ [] := fun e => by subst e; simp at hrn; omega
    refine replace_spec h2 (hw.mono (x1.trans x2)) hup hcnt hfew hd hname hrl hg hjl hnew hnn ⟨fun σ3 h3 => ⟨rfl, wal_Wal_part.pt38_of (hR σ3 τ2 _ p' n' c' _ _ (by rw [harm] at h3; exact h3) (x1.trans x2) ho x2n (Bes.of (x1.trans h1.ext)) (Nat.le_refl _) (by omega) (by rw [if_neg hrne]))⟩, fun ha => by rw [harm] at ha; cases ha⟩
  · have hre : recs = [] := List.eq_nil_of_length_eq_zero (by omega)
    refine ⟨b, 0, rfl, _, (x1.trans (x2.trans h2.ext)).ld hw.ptr, ddelete h2 hup hname hf ⟨fun σ3 h3 => ⟨0, rfl, must0 (wal_Wal_part.pt38_of (hR σ3 τ2 _ p' n' c' _ _ (by rw [harm] at h3; exact h3) (x1.trans x2) ho x2n (Bes.of (x1.trans h1.ext)) (by omega) (Nat.le_refl _) (by rw [if_pos hre])))⟩, fun ha => by rw [harm] at ha; cases ha⟩⟩
end
end TwW
end
section
set_option linter.unusedVariables false
namespace TwW
open Go Tw Go.RowKit Go.Proofs.Tryz
section
variable {fs : Fs} {dir : ByteArray} {cnt cnt' check : Nat} {rc : Recs} {s0 : Sg} {x : Nat × Recs} {tail : List Int}
theorem last_ne (h : (s0 ++ [x]).Pairwise fun y z => y.1 < z.1) : ∀ y ∈ s0, y.1 < x.1 := fun y hy => by
  rw [List.pairwise_append] at h
  exact h.2.2 y hy x (by simp)
theorem Shape.mend0 (h : Shape fs dir cnt check rc (s0 ++ [x]) tail) (hc : cnt < 99999999) (hx : x.2 = []) (hcc : cnt ≤ cnt') : Shape (fput fs (fname dir ks x.1) none) dir cnt' check rc s0 [] := by
  have hlt := last_ne h.rise
  have hgx := h.gt x (by simp)
  have hne : ∀ y ∈ s0, fname dir ks y.1 ≠ fname dir ks x.1 := fun y hy e => by
    have := hlt y hy
    have := h.gt y (by simp [hy])
    have := fname_inj (by omega) (by omega) e; omega
  have hold : ∀ s, (fput fs (fname dir ks x.1) none s).isSome = true → (fs s).isSome = true ∧ s ≠ fname dir ks x.1 := fun s hs => by
    by_cases hsn : s = fname dir ks x.1
    · subst hsn; rw [fput_same] at hs; cases hs
    · rw [fput_ne hsn] at hs; exact ⟨hs, hsn⟩
  refine ⟨fun h0 => ?_, h.chk0, fun s hs => h.old s (hold s hs).1, Nat.le_trans h.cle hcc, fun y hy => ⟨(h.gt y (by simp [hy])).1, Nat.le_trans (h.gt y (by simp [hy])).2 hcc⟩, (List.pairwise_append.1 h.rise).1, fun s hs hlt' => ?_, fun k y hy => ?_, fun _ => rfl, torn_nil, h.goodc, fun y hy => h.goods y (by simp [hy]), fun a ha => by cases ha⟩
  · obtain ⟨f, hf, e⟩ := h.chk h0
    exact ⟨f, by rw [fput_ne fname_kinds]; exact hf, e⟩
  · obtain ⟨y, hy, e⟩ := h.seg s (hold s hs).1 hlt'
    rcases List.mem_append.1 hy with hy | hy
    · exact ⟨y, hy, e⟩
    · simp at hy
      subst hy
      have := (numOf_pos (dir := dir) (kind := ks) (s := s) (by omega)).1
      rw [← e] at this
      exact absurd this (hold s hs).2
  · have hk := (List.getElem?_eq_some_iff.1 hy).1
    have hys := List.mem_of_getElem? hy
    obtain ⟨f, hf, e⟩ := h.file k y (by rw [List.getElem?_append_left hk]; exact hy)
    rw [if_neg (by simp; omega)] at e
    exact ⟨f, by rw [fput_ne (hne y hys)]; exact hf, by rw [e]; simp⟩
theorem Shape.mend1 (h : Shape fs dir cnt check rc (s0 ++ [x]) tail) (hc : cnt < 99999999) (hcc : cnt ≤ cnt') : Shape (laid fs dir (fname dir ks x.1) (joinF x.2)) dir cnt' check rc (s0 ++ [x]) [] := by
  have hlt := last_ne h.rise
  have hgx := h.gt x (by simp)
  have hne : ∀ y ∈ s0, fname dir ks y.1 ≠ fname dir ks x.1 := fun y hy e => by
    have := hlt y hy
    have := h.gt y (by simp [hy])
    have := fname_inj (by omega) (by omega) e; omega
  have hk : ∀ s, s ≠ fname dir ks x.1 → s ≠ fnew dir → laid fs dir (fname dir ks x.1) (joinF x.2) s = fs s := fun s h1 h2 => by simp [laid, h1, h2]
  have hl : laid fs dir (fname dir ks x.1) (joinF x.2) (fname dir ks x.1) = some ⟨joinF x.2, (joinF x.2).length⟩ := by simp [laid]
  have hold : ∀ s, (laid fs dir (fname dir ks x.1) (joinF x.2) s).isSome = true → (fs s).isSome = true := fun s hs => by
    by_cases h1 : s = fname dir ks x.1
    · subst h1
      exact (h.file s0.length x (by simp)).isS
    · by_cases h2 : s = fnew dir
      · subst h2; simp [laid, h1] at hs
      · rw [hk s h1 h2] at hs; exact hs
  refine ⟨fun h0 => ?_, h.chk0, fun s hs => h.old s (hold s hs), Nat.le_trans h.cle hcc, fun y hy => ⟨(h.gt y hy).1, Nat.le_trans (h.gt y hy).2 hcc⟩, h.rise, fun s hs => h.seg s (hold s hs), fun k y hy => ?_, fun e => by simp at e, torn_nil, h.goodc, h.goods, fun a ha => by cases ha⟩
  · obtain ⟨f, hf, e⟩ := h.chk h0
    exact ⟨f, by rw [hk _ fname_kinds (fnew_ne (.inl rfl)).symm]; exact hf, e⟩
  · rcases Nat.lt_or_ge k s0.length with hi | hi
    · obtain ⟨f, hf, e⟩ := h.file k y hy
      rw [List.getElem?_append_left hi] at hy
      have hys := List.mem_of_getElem? hy
      rw [if_neg (by simp; omega)] at e
      exact ⟨f, by rw [hk _ (hne y hys) (fnew_ne (.inr rfl)).symm]; exact hf, by rw [e]; simp⟩
    · have hk2 : k = s0.length := by
        have := (List.getElem?_eq_some_iff.1 hy).1
        simp at this; omega
      subst hk2
      simp at hy
      subst hy
      exact ⟨_, hl, by simp⟩
theorem Kept.mend0 (h : Kept fs dir check (s0 ++ [x])) (hne : ∀ y ∈ s0, fname dir ks y.1 ≠ fname dir ks x.1) : Kept (fput fs (fname dir ks x.1) none) dir check s0 :=
  ⟨fun f h0 hf => h.1 f h0 (by rw [fput_ne fname_kinds] at hf; exact hf), fun k y hy hk f hf => by
    have hys := List.mem_of_getElem? hy
    refine h.2 k y (by rw [List.getElem?_append_left (by omega)]; exact hy) (by simp; omega) f ?_
    rw [fput_ne (hne y hys)] at hf; exact hf⟩
theorem Kept.mend1 (h : Kept fs dir check (s0 ++ [x])) (hne : ∀ y ∈ s0, fname dir ks y.1 ≠ fname dir ks x.1) : Kept (laid fs dir (fname dir ks x.1) (joinF x.2)) dir check (s0 ++ [x]) :=
  ⟨fun f h0 hf => h.1 f h0 (by simpa [laid, fname_kinds, (fnew_ne (dir := dir) (kind := kc) (a := check) (.inl rfl)).symm] using hf), fun k y hy hk f hf => by
    have hk2 : k < s0.length := by simp at hk; omega
    have hys : y ∈ s0 := by rw [List.getElem?_append_left hk2] at hy; exact List.mem_of_getElem? hy
    refine h.2 k y hy hk f ?_
    simpa [laid, hne y hys, (fnew_ne (dir := dir) (kind := ks) (a := y.1) (.inr rfl)).symm] using hf⟩
end
section
variable {σ ρ τ : Hp} {d b : Nat} {D : Dk} {W : Wl} {R : Ending → Hp → Prop}
theorem DiskU.app_own {T E ty : TypeId} {s bs : Nat} [SlT prog T E s bs] {p q : Option Addr} {n c m d' : Nat} {cs ys : List Value} {Φ : Value → Hp → Prop} (h : DiskU σ d D ρ) (ho : Own s ρ p n c cs) (hy : RdC s ρ q m ys) (h1 : OneC ys) (hb : (n + m) * bs ≤ 140737488355328)
    (hΦ : ∀ p' c' σ' ρ', DiskU σ' d D ρ' → Own s ρ' p' (n + m) c' (cs ++ ys) → Ext (ρ.del p) (ρ'.del p') → Φ (.slice p' (n + m) c') σ') : Eff prog (Builtin.append_ #[T, T] ty #[.slice p n c, .slice q m d']) σ Φ := by
  have hx := h.ext
  obtain ⟨Sd, g1, g3⟩ := h
  refine app_eff2 (ho.mono hx) (hy.mono hx) h1 hb fun p' c' σ' ho2 hx2 _ => ?_
  rw [Hp.del_off, Hp.del_off] at hx2
  have keep : ∀ j o, j ∉ blk p → σ j = some o → σ' j = some o ∧ j ∉ blk p' := fun j o h4 h5 => by
    have := Hp.off_some.1 (hx2 j o (Hp.off_some.2 ⟨h4, h5⟩)); exact ⟨this.2, this.1⟩
  have hp : ∀ j ∈ blk p, j ∉ Sd := fun j hj => by
    cases p with
    | none => cases hj
    | some a =>
      simp [blk] at hj
      subst hj
      cases hr : ρ a.block with
      | none => exact absurd hr (ho.block a rfl)
      | some o => exact (Hp.off_some.1 (g3 _ _ hr)).1
  have hSd : ∀ j ∈ Sd, σ' j = σ j ∧ j ∉ blk p' := fun j hj => by
    cases hs : σ j with
    | none => exact absurd hs (g1.known j hj)
    | some o => exact keep j o (fun hb => hp j hb hj) hs
  refine hΦ p' c' σ' (σ'.off Sd) ⟨Sd, g1.loc fun j hj => (hSd j hj).1, Ext.refl _⟩ ?_ ?_
  · exact TwW.Own.loc ho2 fun j hj => Hp.off_out fun hs => (hSd j hs).2 hj
  · rw [Hp.del_off, Hp.del_off]
    intro j o hj
    have h4 := Hp.off_some.1 hj
    have h6 := Hp.off_some.1 (g3 _ _ h4.2)
    have h7 := keep j o h4.1 h6.2
    exact Hp.off_some.2 ⟨h7.2, Hp.off_some.2 ⟨h6.1, h7.1⟩⟩
theorem DiskU.appLL {ty : TypeId} {p q : Option Addr} {n c m d' : Nat} {xs ys : Recs} {Φ : Value → Hp → Prop} (h : DiskU σ d D ρ) (hx : Ext τ (ρ.del p)) (ho : OwnLL ρ p n c xs) (hy : RdLL (ρ.del p) q m ys) (hb : n + m ≤ 4194304)
    (hΦ : ∀ p' c' σ' ρ', DiskU σ' d D ρ' → OwnLL ρ' p' (n + m) c' (xs ++ ys) → Ext τ (ρ'.del p') → Φ (.slice p' (n + m) c') σ') : Eff prog (Builtin.append_ #[22, 22] ty #[.slice p n c, .slice q m d']) σ Φ := by
  obtain ⟨hxl, cs, ho1, hc1⟩ := ho
  obtain ⟨hyl, ds, hy1, hc2⟩ := hy
  refine h.app_own (T := 22) ho1 (hy1.mono (Ext.of_del _ _)) ?_ (by omega) fun p' c' σ' ρ' h' ho' hx' => hΦ p' c' σ' ρ' h' ⟨by rw [List.length_append]; omega, _, ho', ?_⟩ (hx.trans hx')
  · exact Ch.oneC (fun _ vs x ⟨p, n, c, e, _⟩ => by subst e; exact fun u hu => by simp at hu; subst hu; rfl) hc2 (by decide)
  · exact (hc1.mono EBy.mono hx').append (hc2.mono EBy.mono hx')
theorem OwnL.apart {α : Type} {s : Nat} {E : Hp → List Value → α → Prop} {S : List Nat} {p : Option Addr} {n c : Nat} {xs : List α} (h : OwnL s E (ρ.off S) p n c xs) : ∀ j ∈ S, j ∉ blk p := fun j hj hb => by
  cases p with
  | none => cases hb
  | some a =>
    simp [blk] at hb
    exact h.block a rfl (by rw [← hb]; exact Hp.off_in hj)
theorem DiskU.appS {ty : TypeId} {S : List Nat} {p q : Option Addr} {n c m d' : Nat} {xs ys : Recs} {Φ : Value → Hp → Prop} (h : DiskU σ d D ρ) (hS : ∀ j ∈ S, ρ j ≠ none) (hx : Ext τ (ρ.del p)) (ho : OwnLL (ρ.off S) p n c xs) (hy : RdLL ((ρ.off S).del p) q m ys) (hb : n + m ≤ 4194304)
    (hΦ : ∀ p' c' σ' ρ', DiskU σ' d D ρ' → (∀ j ∈ S, ρ' j ≠ none) → OwnLL (ρ'.off S) p' (n + m) c' (xs ++ ys) → Ext τ (ρ'.del p') → Φ (.slice p' (n + m) c') σ') : Eff prog (Builtin.append_ #[22, 22] ty #[.slice p n c, .slice q m d']) σ Φ := by
  have hap := OwnL.apart ho
  obtain ⟨hxl, cs, ho1, hc1⟩ := ho
  obtain ⟨hyl, ds, hy1, hc2⟩ := hy
  refine h.app_own (T := 22) (ho1.mono (Ext.of_off _ _)) ((hy1.mono (Ext.of_del _ _)).mono (Ext.of_off _ _)) ?_ (by omega) fun p' c' σ' ρ' h' ho' hx' => ?_
  · exact Ch.oneC (fun _ vs x ⟨p, n, c, e, _⟩ => by subst e; exact fun u hu => by simp at hu; subst hu; rfl) hc2 (by decide)
  · have hk : ∀ j ∈ S, ρ' j ≠ none ∧ j ∉ blk p' := fun j hj => by
      cases hr : ρ j with
      | none => exact absurd hr (hS j hj)
      | some o =>
        rw [Hp.del_off, Hp.del_off] at hx'
        have := Hp.off_some.1 (hx' j o (Hp.off_some.2 ⟨hap j hj, hr⟩))
        exact ⟨by rw [this.2]; simp, this.1⟩
    have hx2 : Ext ((ρ.off S).del p) ((ρ'.off S).del p') := by
      have := hx'.off S
      rw [Hp.del_off, Hp.del_off] at this ⊢
      rw [Hp.off_comm, Hp.off_comm (σ := ρ')]
      exact this
    exact hΦ p' c' σ' ρ' h' (fun j hj => (hk j hj).1) ⟨by rw [List.length_append]; omega, _, TwW.Own.loc ho' fun j hj => Hp.off_out fun hs => (hk j hs).2 hj, (hc1.mono EBy.mono hx2).append (hc2.mono EBy.mono hx2)⟩ (hx.trans hx')
end
end TwW
end
section
set_option linter.unusedVariables false
namespace TwW
open Go Tw Go.RowKit Go.Proofs.Tryz
section
variable {σ ρ τ : Hp} {d b : Nat} {W : Wl} {R : Ending → Hp → Prop} {fs : Fs} {cnt : Nat} {rc : Recs} {sg : Sg} {tail : List Int}
theorem joinF_len (rs : Recs) : rs.length ≤ (joinF rs).length := by
  induction rs with
  | nil => simp
  | cons r rs ih => rw [joinF_cons, List.length_append, frame_len]; simp; omega
def Sub (fs gs : Fs) : Prop := ∀ s, (gs s).isSome = true → (fs s).isSome = true
theorem Sub.trans {fs gs hs : Fs} (h : Sub fs gs) (g : Sub gs hs) : Sub fs hs := fun s hh => h s (g s hh)
def RepR (d b : Nat) (W : Wl) (τ : Hp) (fs : Fs) (cnt : Nat) (rc : Recs) (sg : Sg) (tail : List Int) (R : Ending → Hp → Prop) : Prop :=
  ∀ σ' ρ p n c fs' cnt' sg', LogU σ' d b (dk fs' cnt') { W with segs := sg'.map (·.1) } ρ → Ext τ ρ → RdLL ρ p n (rc ++ toldS sg') → toldS sg' = toldS sg → Shape fs' W.dir cnt' W.check rc sg' [] → Kept fs' W.dir W.check sg' → Out W.dir fs fs' → Sub fs fs' → fs' (fnew W.dir) = none →
    cnt ≤ cnt' → cnt' ≤ cnt + 1 → (tail = [] → cnt' = cnt ∧ fs' = fs) → R (.returned (.slice p n c)) σ'
theorem toldS_len (sg : Sg) : ∀ {x : Nat × Recs}, x ∈ sg → x.2.length ≤ (toldS sg).length := fun {x} hx => by
  obtain ⟨a, b, rfl⟩ := List.append_of_mem hx
  rw [toldS_append, List.length_append, show toldS (x :: b) = x.2 ++ toldS b by simp [toldS], List.length_append]; omega
theorem take_told {sg : Sg} {k : Nat} {x : Nat × Recs} (hx : sg[k]? = some x) : toldS (sg.take (k + 1)) = toldS (sg.take k) ++ x.2 := by
  rw [take_succ' hx, toldS_append, toldS_one]
theorem replay_pt {τw : Hp} {S : List Nat} {p46 : Option Addr} {c46 : Nat} {T : TypeId} (hd : dirOk W.dir = true) (hc : cnt < 67108864) (hfew : Few (dk fs cnt)) (ht : Tb τw) (hsh : Shape fs W.dir cnt W.check rc sg tail) (hkp : Kept fs W.dir W.check sg) (hsegs : W.segs = sg.map (·.1)) (hnew : fs (fnew W.dir) = none) (hbig : (rc ++ toldS sg).length ≤ 4194304)
    (hwal : WalAt τw b d W S p46 c46 T) (hR : RepR d b W (τw.off S) fs cnt rc sg tail R) :
    ∀ (m k : Nat) (σ ρ : Hp) (p3 : Option Addr) (n3 c3 : Nat), sg.length - k = m → k ≤ sg.length → DiskU σ d (dk fs cnt) ρ → Ext τw (ρ.del p3) → OwnLL (ρ.off S) p3 n3 c3 (rc ++ toldS (sg.take k)) → (k < sg.length ∨ tail = []) →
      wal_Wal_replay.pt34 R (some ⟨b, 0, none⟩) p3 n3 c3 p46 W.segs.length c46 ((W.segs.length : Nat) : Int) k σ := by
  intro m
  have hsl : W.segs.length = sg.length := by rw [hsegs, List.length_map]
  have hds : W.dir.size ≤ 32 := by simp [dirOk] at hd; exact hd.2
  have hwn := Own.cap hwal.own
  have hsb := hwal.own.2.1
  have cl : ∀ {σ ρ : Hp} {p3 : Option Addr} {fs : Fs} {cnt : Nat}, DiskU σ d (dk fs cnt) ρ → Ext τw (ρ.del p3) → LogU σ d b (dk fs cnt) W (ρ.off S) ∧ Ext (τw.off S) (ρ.off S) := fun h hx => by
    have hx1 := hx.trans (Ext.of_del _ _)
    exact ⟨LogU.close h (hwal.mono hx1), hx1.off S⟩
  induction m with
  | zero =>
    intro k σ ρ p3 n3 c3 hm hk h hx ho htl
    refine wal_Wal_replay.pt34_of ⟨fun hh => by omega, fun _ => wal_Wal_replay.pt64_of ?_⟩
    rw [List.take_of_length_le (by omega)] at ho
    have htn : tail = [] := htl.resolve_left (by omega)
    subst htn
    obtain ⟨hlu, hxo⟩ := cl h hx
    refine hR σ _ p3 n3 c3 fs cnt sg ?_ hxo (OwnL.rd EBy.mono ho) rfl hsh hkp Out.refl (fun s h => h) hnew (Nat.le_refl _) (by omega) (fun _ => ⟨rfl, rfl⟩)
    rw [← hsegs]; exact hlu
  | succ m ih =>
    intro k σ ρ p3 n3 c3 hm hk h hx ho htl
    obtain ⟨x, hxk⟩ : ∃ x, sg[k]? = some x := ⟨_, List.getElem?_eq_getElem (by omega)⟩
    have hxs := List.mem_of_getElem? hxk
    have hgx := hsh.gt x hxs
    have hgood := hsh.goods x hxs
    have hfile := hsh.file k x hxk
    have hnok : nameOk (fname W.dir ks x.1) = true := fname_ok hd (.inr rfl) (by omega)
    have hxρ := hx.trans (Ext.of_del _ _)
    have hwρ := hwal.mono hxρ
    have hwσ := hwρ.mono h.ext
    have hge : (asI W.segs)[k]? = some ((x.1 : Nat) : Int) := by rw [asI, hsegs, List.map_map, List.getElem?_map, hxk]; rfl
    obtain ⟨b51, o51, hp46, hl51⟩ := (OwnI.rd hwσ.own).at hge
    have e1 : Int.toNat ((k : Int) + 1) = k + 1 := by omega
    have htold := take_told hxk
    have hlen3 : (rc ++ toldS (sg.take k)).length = n3 := ho.1
    have hsum : n3 + x.2.length ≤ 4194304 := by
      have h1 : (rc ++ toldS (sg.take (k + 1))).length ≤ (rc ++ toldS sg).length := by
        have : toldS sg = toldS (sg.take (k + 1)) ++ toldS (sg.drop (k + 1)) := by rw [← toldS_append, List.take_append_drop]
        rw [this]; simp
      rw [htold, ← List.append_assoc, List.length_append, hlen3] at h1
      omega
    have hSρ : ∀ j ∈ S, ρ j ≠ none := hwρ.known
    have hp3 : ∀ a, p3 = some a → ρ a.block ≠ none := fun a ha hn => ho.block a ha (Hp.off_none hn)
    have new : ∀ {ρ2 ν : Hp} {p : Option Addr} {n c : Nat} {xs : Recs}, Ext ρ ρ2 → OwnLL ν p n c xs → Ext ν ρ2 → Bes ρ ν → RdLL ((ρ2.off S).del p3) p n xs := fun x2 hν x3 hb => by
      refine RdLL.mono ?_ (OwnL.rd EBy.mono hν)
      exact hb.del (fun j o hj => Hp.off_some.2 ⟨fun hs => hSρ j hs (hb j o hj), x3 j o hj⟩) hp3
    refine wal_Wal_replay.pt34_of ⟨fun _ => ⟨b51, o51, hp46, by omega, x.1, by simpa using hl51, b, 0, rfl, _, _, c46, ld_of hwσ.obj rfl, by unfold I64; omega, by omega, ?_⟩, fun hh => by omega⟩
    rw [← hp46]
    refine fileW_spec (kind := ks) (dir := W.dir) (ld_of hwσ.obj rfl) hds (.inr rfl) (by omega) ((ht.mono hxρ).mono h.ext) fun σ1 hx1 => ⟨_, rfl, Kp.of_ext hx1, ?_⟩
    have h1 := h.mono hx1
    by_cases hw : (if k + 1 = sg.length then tail else []) = []
    · rw [hw, List.append_nil] at hfile
      refine part_whole h1 hwρ.logF rfl hnok hfile hgood fun σ2 ρ2 ν p n c h2 x2 hν x3 hb => ⟨_, _, _, _, rfl, ?_⟩
      have hn : x.2.length = n := hν.1
      refine h2.appS (τ := τw) (S := S) (xs := rc ++ toldS (sg.take k)) (ys := x.2) (fun j hj => (hwρ.mono x2).known j hj) (hx.trans (x2.del p3)) (OwnL.mono EBy.mono (x2.off S) ho) (new x2 hν x3 hb) (by omega) fun p' c' σ3 ρ3 h3 hS3 ho3 hx3 => ⟨p', _, c', rfl, fun _ => ⟨by unfold I64; omega, ?_⟩, fun hh => (by cases hh)⟩
      rw [List.append_assoc, ← htold] at ho3
      refine ih (k + 1) σ3 ρ3 p' _ c' (by omega) (by omega) h3 hx3 ho3 ?_
      by_cases hl : k + 1 = sg.length
      · rw [if_pos hl] at hw; exact .inr hw
      · exact .inl (by omega)
    · have hlast : k + 1 = sg.length := by
        by_cases hh : k + 1 = sg.length
        · exact hh
        · rw [if_neg hh] at hw; exact absurd rfl hw
      rw [if_pos hlast] at hw hfile
      obtain ⟨s0, x', hsg⟩ : ∃ s0 x', sg = s0 ++ [x'] := by
        rcases List.eq_nil_or_concat sg with e | ⟨s0, x', e⟩
        · rw [e] at hlast; simp at hlast
        · exact ⟨s0, x', by rw [e]; simp⟩
      have hks : k = s0.length := by rw [hsg] at hlast; simp at hlast; exact hlast
      have hxx : x' = x := by rw [hsg, hks] at hxk; simpa using hxk
      subst hxx
      have e2 : W.segs.length - Int.toNat ((k : Int) + 1) = 0 := by omega
      rw [e2]
      have hne : ∀ y ∈ s0, fname W.dir ks y.1 ≠ fname W.dir ks x'.1 := fun y hy e => by
        have hlt := last_ne (hsg ▸ hsh.rise) y hy
        have := hsh.gt y (by rw [hsg]; simp [hy])
        have := fname_inj (by omega) (by omega) e; omega
      refine part_torn h1 hwρ.logF rfl rfl (by show cnt < _; omega) hfew hd hnok hfile hgood hsh.torn hsh.by8 hw hnew (fnew_ne (.inr rfl)).symm fun σ2 ρ2 ν p n c fs2 cnt2 h2 x2 hν x3 hb hc1 hc2 hfs2 => ⟨_, _, _, _, rfl, ?_⟩
      have hn : x'.2.length = n := hν.1
      refine h2.appS (τ := τw) (S := S) (xs := rc ++ toldS (sg.take k)) (ys := x'.2) (fun j hj => (hwρ.mono x2).known j hj) (hx.trans (x2.del p3)) (OwnL.mono EBy.mono (x2.off S) ho) (new x2 hν x3 hb) (by omega) fun p' c' σ3 ρ3 h3 hS3 ho3 hx3 => ⟨p', _, c', rfl, fun hh => (by cases hh), fun _ => ?_⟩
      rw [List.append_assoc, ← htold, List.take_of_length_le (by omega)] at ho3
      obtain ⟨hlu, hxo⟩ := cl h3 hx3
      obtain ⟨pq, cq, hcq, hlq, hrq⟩ := hlu.rd.segs
      refine ⟨pq, _, cq, hlq, by unfold I64; omega, by omega, ?_⟩
      have e3 : Int.toNat ((k : Int) + 1) = W.segs.length := by omega
      rw [e3]
      refine hlu.cut (l := W.segs) rfl (fun p c hpc => by rw [hlq] at hpc; cases hpc; exact ⟨rfl, fun ρ h => h⟩) fun σ4 h4 => ?_
      have hshx := hsg ▸ hsh
      have hkx := hsg ▸ hkp
      refine ⟨fun hn0 => ?_, fun hn0 => wal_Wal_replay.pt64_of ?_⟩
      · have hx0 : x'.2 = [] := List.eq_nil_of_length_eq_zero (by omega)
        obtain ⟨pr, cr, hcr, hlr, hrr⟩ := h4.rd.segs
        refine ⟨pr, _, cr, hlr, by simp only at hcr ⊢; omega, ?_⟩
        have e4 : Int.toNat (k : Int) = k := by omega
        rw [e4]
        refine h4.cut (l := W.segs.take k) (by rw [List.length_take]; omega) (fun p c hpc => by rw [hlr] at hpc; cases hpc; exact ⟨rfl, fun ρ h => by have := Own.shrink (k := k) h (by simp only; omega); rw [asI, List.map_take]; exact this⟩) fun σ5 h5 => wal_Wal_replay.pt64_of ?_
        rw [if_pos hx0] at hfs2
        have ht0 : toldS s0 = toldS sg := by rw [hsg, toldS_append, toldS_one, hx0, List.append_nil]
        refine hR σ5 _ p' _ c' fs2 cnt2 s0 ?_ hxo (OwnL.rd EBy.mono (by rw [ht0]; exact ho3)) ht0 (by rw [hfs2]; exact hshx.mend0 (by omega) hx0 hc2) (by rw [hfs2]; exact hkx.mend0 hne) (by rw [hfs2]; exact Out.del begins_file) (by
          rw [hfs2]; intro s hs
          by_cases e : s = fname W.dir ks x'.1
          · subst e; rw [fput_same] at hs; cases hs
          · rw [fput_ne e] at hs; exact hs) (by rw [hfs2, fput_ne (fnew_ne (.inr rfl))]; exact hnew) hc2 hc1 (fun e => absurd e hw)
        have : W.segs.take k = s0.map (·.1) := by rw [hsegs, hsg, List.map_append, hks, List.take_left' (by simp)]
        rw [← this]; exact h5
      · have hx0 : x'.2 ≠ [] := fun e => hn0 (by rw [← hn, e]; rfl)
        rw [if_neg hx0] at hfs2
        refine hR σ4 _ p' _ c' fs2 cnt2 sg ?_ hxo (OwnL.rd EBy.mono ho3) rfl (by rw [hfs2, hsg]; exact hshx.mend1 (by omega) hc2) (by rw [hfs2, hsg]; exact hkx.mend1 hne) (by rw [hfs2]; exact Out.laid (.inr rfl) (by omega) (by omega)) (by
          rw [hfs2]; intro s hs
          by_cases e : s = fname W.dir ks x'.1
          · subst e; exact hfile.isS
          · by_cases e2 : s = fnew W.dir
            · simp only [laid, e, if_false, e2, if_true] at hs
              rw [if_neg (fnew_ne (.inr rfl))] at hs; cases hs
            · simp only [laid, e, e2, if_false] at hs; exact hs) (by rw [hfs2]; simp [laid, (fnew_ne (dir := W.dir) (kind := ks) (a := x'.1) (.inr rfl))]) hc2 hc1 (fun e => absurd e hw)
        rw [← hsegs]; exact h4
end
end TwW
end
section
set_option linter.unusedVariables false
namespace TwW
open Go Tw Go.RowKit Go.Proofs.Tryz
section
variable {σ ρ τ : Hp} {d b : Nat} {D : Dk} {W : Wl} {R : Ending → Hp → Prop} {fs : Fs} {cnt : Nat} {rc : Recs} {sg : Sg} {tail : List Int}
theorem LogU.names (h : LogU σ d b D W τ) : ∀ s, (D.files s).isSome = true → nameOk s = true := h.disk.names
theorem LogU.make {b : Nat} (h : DiskU σ d D τ) (hb : σ b = none) (hs : W.segs = []) : LogU (σ.set b (.cells (walC d W none 0 0) 71 (0, 0))) d b D W τ := by
  obtain ⟨Sd, h1, h2⟩ := h
  have hbs : b ∉ Sd := fun hh => h1.known b hh hb
  refine ⟨Sd, [b], none, 0, 71, h1.mono (.set hb), ?_, ?_⟩
  · rw [Hp.off_set hbs]
    exact ⟨rfl, by simp [blk], by rw [Hp.set_same, hs]; rfl, by rw [hs]; exact Own.nil⟩
  · rw [Hp.off_set hbs, Hp.set_off (by simp)]
    exact h2.off_of (by simpa using ext_none h2 (Hp.off_none hb))
theorem LogU.stB {k n : Nat} {E : TypeId} {c : Array Value} {t : TypeId} {v : Value} {Φ : Unit → Hp → Prop} (h : LogU σ d b D W τ) (hk : τ k = some (.cells c t (0, 0))) (hz : ∀ w, (Go.sizeOf E).run prog w = .ok n w) (hn : v.cells.size = n) (hl : 0 + n ≤ c.size) (h1 : ∀ u ∈ v.cells.toList, u.oneCell' = true)
    (hΦ : ∀ σ', LogU σ' d b D W (τ.set k (.cells (wrt c 0 v.cells.toList) t (0, 0))) → Φ () σ') : Eff prog (Instr.storeAt E (.pointer (some ⟨k, 0, none⟩)) v) σ Φ := by
  obtain ⟨Sd, S, p, cc, T, g1, g2, g3⟩ := h
  have hks := Hp.off_some.1 (g3 _ _ hk)
  have hks2 := Hp.off_some.1 hks.2
  refine Eff.store hz hks2.2 hn hl h1 (hΦ _ ⟨Sd, S, p, cc, T, g1.loc fun j hj => Hp.set_ne fun e => hks2.1 (e ▸ hj), ?_, ?_⟩)
  · rw [Hp.off_set hks2.1]
    exact g2.loc fun j hj => Hp.set_ne fun e => hks.1 (e ▸ hj)
  · rw [Hp.off_set hks2.1, Hp.off_set hks.1]
    intro j o hj
    by_cases hjk : j = k
    · subst hjk; rw [Hp.set_same] at hj ⊢; exact hj
    · rw [Hp.set_ne hjk] at hj ⊢; exact g3 _ _ hj
theorem Hp.hide {k : Nat} {o : Obj} (h : σ k = some o) : (σ.off [k]).set k o = σ := by
  funext j
  by_cases hj : j = k
  · subst hj; rw [Hp.set_same, h]
  · rw [Hp.set_ne hj, Hp.off_out (by simpa using hj)]
theorem Spec.hide {P : Program} {f : FuncId} {args : Array Value} {k : Nat} {o : Obj} {R : Ending → Hp → Prop} (hk : σ k = some o) (h : Spec P f args (σ.off [k]) (fun e τ' => τ' k = none → R e (τ'.set k o))) : Spec P f args σ R := by
  have := Spec.frame1 (o := o) (Hp.off_in (by simp)) h
  rwa [Hp.hide hk] at this
theorem LogU.hide {k : Nat} {o : Obj} (h : LogU σ d b D W τ) (hk : τ k = some o) : LogU (σ.off [k]) d b D W (τ.off [k]) := by
  obtain ⟨Sd, S, p, cc, T, g1, g2, g3⟩ := h
  have hks := Hp.off_some.1 (g3 _ _ hk)
  have hks2 := Hp.off_some.1 hks.2
  refine ⟨Sd, S, p, cc, T, g1.loc fun j hj => Hp.off_out fun e => hks2.1 (List.mem_singleton.1 e ▸ hj), ?_, ?_⟩
  · rw [Hp.off_comm]
    exact g2.loc fun j hj => Hp.off_out fun e => hks.1 (List.mem_singleton.1 e ▸ hj)
  · rw [Hp.off_comm (σ := σ), Hp.off_comm (σ := σ.off Sd)]
    exact g3.off [k]
theorem LogU.unhide {k : Nat} {o : Obj} (h : LogU σ d b D W τ) (hk : σ k = none) : LogU (σ.set k o) d b D W (τ.set k o) := by
  obtain ⟨τ', h1, h2, h3⟩ := h.box (o := o) hk
  refine h1.weak fun j u hj => ?_
  by_cases hjk : j = k
  · subst hjk; rw [Hp.set_same] at hj; cases hj; exact h3
  · rw [Hp.set_ne hjk] at hj; exact h2 _ _ hj
theorem replay_spec (h : LogU σ d b (dk fs cnt) W τ) (ht : Tb τ) (hd : dirOk W.dir = true) (hc : cnt < 67108864) (hfew : Few (dk fs cnt)) (hsh : Shape fs W.dir cnt W.check rc sg tail) (hkp : Kept fs W.dir W.check sg) (hsegs : W.segs = sg.map (·.1)) (hnew : fs (fnew W.dir) = none) (hbig : (rc ++ toldS sg).length ≤ 4194304)
    (hR : RepR d b W τ fs cnt rc sg tail R) : Spec prog wal_Wal_replay.fid #[.pointer (some ⟨b, 0, none⟩)] σ R := by
  obtain ⟨τw, S, p, c, T, hdu, hwal, hxo⟩ := h.opened
  have htw : Tb τw := ht.mono (hxo.trans (Ext.of_off _ _))
  have hds : W.dir.size ≤ 32 := by simp [dirOk] at hd; exact hd.2
  have hR' : RepR d b W (τw.off S) fs cnt rc sg tail R := fun σ' ρ p n c fs' cnt' sg' a1 a2 a3 a4 a5 a6 a7 a8 a9 a10 a11 a12 => hR σ' ρ p n c fs' cnt' sg' a1 (hxo.trans a2) a3 a4 a5 a6 a7 a8 a9 a10 a11 a12
  have hseg : W.segs.length = sg.length := by rw [hsegs, List.length_map]
  have loop : ∀ (σ ρ : Hp) (p3 : Option Addr) (n3 c3 : Nat), DiskU σ d (dk fs cnt) ρ → Ext τw (ρ.del p3) → OwnLL (ρ.off S) p3 n3 c3 rc → wal_Wal_replay.pt30 R (some ⟨b, 0, none⟩) p3 n3 c3 σ := fun σ ρ p3 n3 c3 h1 hx ho => by
    have hxρ := hx.trans (Ext.of_del _ _)
    refine wal_Wal_replay.pt30_of ⟨b, 0, rfl, p, _, c, ld_of ((hwal.mono hxρ).mono h1.ext).obj rfl, ?_⟩
    refine replay_pt hd hc hfew htw hsh hkp hsegs hnew hbig hwal hR' sg.length 0 σ ρ p3 n3 c3 rfl (Nat.zero_le _) h1 hx (by simpa [toldS] using ho) ?_
    rcases Nat.eq_zero_or_pos sg.length with h0 | h0
    · exact .inr (hsh.tail0 (List.eq_nil_of_length_eq_zero h0))
    · exact .inl h0
  have hwσ := hwal.mono hdu.ext
  refine wal_Wal_replay.start ⟨b, 0, rfl, W.check, ld_of hwσ.obj rfl, fun hpos => ⟨W.check, ld_of hwσ.obj rfl, p, _, c, ld_of hwσ.obj rfl, ?_⟩, fun hz => ?_⟩
  · have hcle := hsh.cle
    refine fileW_spec (kind := kc) (dir := W.dir) (ld_of hwσ.obj rfl) hds (.inl rfl) (by omega) (htw.mono hdu.ext) fun σ1 hx1 => ⟨_, rfl, Kp.of_ext hx1, ?_⟩
    refine part_whole (hdu.mono hx1) hwal.logF rfl (fname_ok hd (.inl rfl) (by omega)) (hsh.chk (by omega)) hsh.goodc fun σ2 ρ2 ν p' n' c' h2 x2 hν x3 hb => ⟨_, _, _, _, rfl, fun hh => (by cases hh), fun _ => ?_⟩
    refine loop σ2 ρ2 p' n' c' h2 (hb.own x2 hν.block) (OwnL.mono EBy.mono (fun j o hj => Hp.off_some.2 ⟨fun hs => hwal.known j hs (hb j o hj), x3 j o hj⟩) hν)
  · have h0 : W.check = 0 := by omega
    have hrc := hsh.chk0 h0
    subst hrc
    exact loop σ τw none 0 0 hdu (Ext.refl _) OwnL.nil
def OpenR (d b : Nat) (dir : ByteArray) (D : Dk) (τ : Hp) (told : Recs) (w : Bool) (K : Hp → Hp → Option Addr → Nat → Nat → Prop) : Prop :=
  ∀ σ' W rc sg ρ p n c fs' cnt', LogU σ' d b (dk fs' cnt') W ρ → Ext τ ρ → RdLL ρ p n told → W.dir = dir → LogOk fs' cnt' W rc sg 0 → rc ++ toldS sg = told → Out dir D.files fs' → Sub D.files fs' → fs' (fnew dir) = none → D.cnt ≤ cnt' → cnt' ≤ D.cnt + 1 → (w = true → cnt' = D.cnt ∧ ∃ L, Names D.files (dir ++ slash) L ∧ fs' = swept D.files dir L) → K σ' ρ p n c
theorem LogOk.made {opn size : Nat} (hsh : Shape fs W.dir cnt W.check rc sg []) (hkp : Kept fs W.dir W.check sg) (hsegs : W.segs = sg.map (·.1)) (h0 : sg = [] → W.opn = W.check + 1 ∧ W.size = 0) (h1 : ∀ s0 x, sg = s0 ++ [x] → W.opn = x.1 ∧ W.size = (joinF x.2).length) : LogOk fs cnt W rc sg 0 := by
  rcases List.eq_nil_or_concat sg with e | ⟨s0, x, e⟩
  · subst e
    obtain ⟨e1, e2⟩ := h0 rfl
    exact ⟨hsh, hsegs, ⟨by omega, by have := hsh.cle; omega, fun x hx => by cases hx⟩, fun x hx => (by cases hx), fun _ => e2, fun f h hf => hkp.1 f h hf, fun x hx => (by cases hx), fun x hx => (by cases hx), fun _ => Nat.zero_le _⟩
  · have e' : sg = s0 ++ [x] := by rw [e]; simp
    subst e'
    obtain ⟨e1, e2⟩ := h1 s0 x rfl
    have hgx := hsh.gt x (by simp)
    have hlt := last_ne hsh.rise
    refine ⟨hsh, hsegs, ⟨by omega, by omega, fun y hy => ?_⟩, fun y hy hye => ?_, fun hno => absurd e1.symm (hno x (by simp)), fun f h hf => hkp.1 f h hf, fun y hy hyl f hf => ?_, fun y hy hye => ?_, fun _ => Nat.zero_le _⟩
    · rcases List.mem_append.1 hy with hy | hy
      · have := hlt y hy; omega
      · simp at hy; subst hy; omega
    · rcases List.mem_append.1 hy with hy | hy
      · have := hlt y hy; omega
      · simp at hy; subst hy; exact e2
    · rcases List.mem_append.1 hy with hy | hy
      · obtain ⟨k, hk⟩ := List.getElem?_of_mem hy
        have hkl := (List.getElem?_eq_some_iff.1 hk).1
        exact hkp.2 k y (by rw [List.getElem?_append_left hkl]; exact hk) (by simp; omega) f hf
      · simp at hy; subst hy; omega
    · rcases List.mem_append.1 hy with hy | hy
      · have := hlt y hy; omega
      · simp at hy
        subst hy
        obtain ⟨f, hf, _⟩ := hsh.file s0.length y (by simp)
        exact ⟨0, f, Nat.zero_le _, hf, by simp [joinF], by rw [toldS_append, toldS_one, List.length_append, List.length_append]; omega⟩
theorem Tb.off3 {k : Nat} (h : Tb τ) (hk : τ k = some (.cells #[.slice none 0 0] 22 (0, 0))) : Tb (τ.off [k]) := by
  obtain ⟨g, T, fr, h1, h2⟩ := h
  refine ⟨g, T, fr, h1, ?_⟩
  rw [Hp.off_out]
  · exact h2
  · intro hg
    simp only [List.mem_singleton] at hg
    subst hg
    rw [hk] at h2
    simp only [Option.some.injEq, Obj.cells.injEq] at h2
    have := congrArg Array.size h2.1
    simp [Lib.pow10Tab] at this
theorem open1_spec {dir : ByteArray} {told : Recs} {w : Bool} {b0 b1 b2 b3 : Nat} (h : LogU σ d b (dk fs cnt) ⟨dir, 0, [], 0, 0⟩ τ) (ht : Tb τ) (hd : dirOk dir = true) (hc : cnt < 67108864) (hfew : Few (dk fs cnt)) (ho : OpenW fs dir cnt told w) (hbig : told.length ≤ 4194304)
    (t0 : τ b0 = some (.cells #[.pointer (some ⟨b, 0, none⟩)] 26 (0, 0))) (t1 : τ b1 = some (.cells #[.pointer (some ⟨d, 0, none⟩)] 24 (0, 0))) (t2 : τ b2 = some (.cells #[.string dir] 9 (0, 0))) (t3 : τ b3 = some (.cells #[.slice none 0 0] 22 (0, 0)))
    (hR : OpenR d b dir (dk fs cnt) (τ.off [b3]) told w fun σ' ρ p n c => ρ b3 = some (.cells #[.slice p n c] 22 (0, 0)) → R (.returned (.tuple #[])) σ') :
    Spec prog wal_Open_1.fid #[.pointer (some ⟨b0, 0, none⟩), .pointer (some ⟨b1, 0, none⟩), .pointer (some ⟨b2, 0, none⟩), .pointer (some ⟨b3, 0, none⟩)] σ R := by
  obtain ⟨check, rc, sg, tail, hsh, rfl, hkp, hwt⟩ := ho
  have hds : dir.size ≤ 32 := by simp [dirOk] at hd; exact hd.2
  have hxe := h.ext
  have hnm := h.names
  have hn03 : b0 ≠ b3 := fun e => by rw [e, t3] at t0; cases t0
  have hn13 : b1 ≠ b3 := fun e => by rw [e, t3] at t1; cases t1
  refine wal_Open_1.start ⟨_, ld_of (hxe _ _ t0) rfl, _, ld_of (hxe _ _ t1) rfl, dir, ld_of (hxe _ _ t2) rfl, ?_, ?_⟩
  · show dir.size + slash.size ≤ _
    have : slash.size = 1 := rfl
    rw [this]; omega
  have h' := h
  obtain ⟨Sd, S, q, cc, T, g1, _, _⟩ := h'
  refine list_spec (pre := dir ++ slash) g1 rfl (by show cnt ≤ _; omega) fun p11 n11 c11 L σ1 hoL hL hx1 hn11 => ⟨p11, n11, c11, rfl, Kp.of_ext hx1, ?_⟩
  obtain ⟨τ1, h1, x1, x1n⟩ := h.grow hx1
  have hrT : RdT τ1 p11 n11 L := (Own.rd hoL).mono x1n
  have hnle : n11 ≤ 67108864 := Nat.le_trans hn11 (by show cnt ≤ _; omega)
  refine sweep_spec (W := ⟨dir, 0, [], 0, 0⟩) h1 ⟨rfl, rfl⟩ hL hnm hds hrT hnle fun σ2 h2 => ⟨rfl, ?_⟩
  have hmc := maxC_eq hsh (by omega) hL
  have hsn := segNums_eq hsh (by omega) hL
  obtain ⟨hsh2, hout2, hnew2, hsub2⟩ := swept_shape hsh (by omega) hL
  rw [hmc] at h2
  simp only at h2
  rw [hsn] at h2
  have hkp2 : Kept (swept fs dir L) dir check sg := ⟨fun f h0 hf => hkp.1 f h0 (hsub2 _ _ hf), fun k x hx hk f hf => hkp.2 k x hx hk f (hsub2 _ _ hf)⟩
  have hx2 := h2.ext
  have hcle := hsh.cle
  refine ⟨_, ld_of (hx2 _ _ (x1 _ _ t0)) rfl, _, ld_of (hx2 _ _ (x1 _ _ t0)) rfl, b, 0, rfl, check, h2.rd.check, by unfold I64; omega, b, 0, rfl, ?_⟩
  have e1 : ((check : Int) + 1) = ((check + 1 : Nat) : Int) := by omega
  rw [e1]
  refine h2.st (i := 0 + 4) (W' := ⟨dir, check, sg.map (·.1), check + 1, 0⟩) (by omega) rfl (fun p n c => rfl) fun σ3 h3 => ?_
  have t31 := x1 _ _ t3
  refine ⟨_, ld_of (h3.ext _ _ (x1 _ _ t0)) rfl, Spec.hide (h3.ext _ _ t31) (replay_spec (W := ⟨dir, check, sg.map (·.1), check + 1, 0⟩) (h3.hide t31) ((ht.off3 t3).mono (x1.off [b3])) hd (by omega) (hfew.sub (Nat.le_refl _) fun s hs => by obtain ⟨f, hf⟩ := Option.isSome_iff_exists.1 hs; exact Option.isSome_iff_exists.2 ⟨f, hsub2 _ _ hf⟩) hsh2 hkp2 rfl hnew2 hbig fun σ4 ρ p n c fs' cnt' sg' h4 hxρ hrd htold hsh4 hkp4 hout4 hsub4 hnew4 hc1 hc2 hc3 hno => ⟨p, n, c, rfl, ?_⟩)⟩
  have hρ3 : ρ b3 = none := ext_none h4.ext hno
  refine (h4.unhide (o := .cells #[.slice none 0 0] 22 (0, 0)) hno).stB (v := .slice p n c) (Hp.set_same _ _ _) (E := 22) (n := 1) ?_ rfl (by simp) (by simp [Value.cells, Value.oneCell']) fun σ5 h5 => ?_
  · intro w
    have hi : prog.info? 22 = some t22 := by kernel_rfl
    simp [Go.sizeOf, typeInfo, hi, show t22.size = 1 from rfl]
  rw [Hp.set_set] at h5
  have hx55 : Ext ρ (ρ.set b3 (.cells (wrt #[.slice none 0 0] 0 (Value.slice p n c).cells.toList) 22 (0, 0))) := .set hρ3
  have hρ5 : ∀ j o, j ≠ b3 → τ j = some o → (ρ.set b3 (.cells (wrt #[.slice none 0 0] 0 (Value.slice p n c).cells.toList) 22 (0, 0))) j = some o := fun j o hj hjo => hx55 _ _ (hxρ _ _ (Hp.off_some.2 ⟨by simpa using hj, x1 _ _ hjo⟩))
  have hx5 := h5.ext
  have hτ : Ext (τ.off [b3]) (ρ.set b3 (.cells (wrt #[.slice none 0 0] 0 (Value.slice p n c).cells.toList) 22 (0, 0))) := fun j o hj => by
    have := Hp.off_some.1 hj
    exact hρ5 j o (by simpa using this.1) this.2
  have hrd5 : RdLL (ρ.set b3 (.cells (wrt #[.slice none 0 0] 0 (Value.slice p n c).cells.toList) 22 (0, 0))) p n (rc ++ toldS sg) := by
    rw [← htold]; exact hrd.mono hx55
  have htb : Tb (ρ.set b3 (.cells (wrt #[.slice none 0 0] 0 (Value.slice p n c).cells.toList) 22 (0, 0))) := (((ht.off3 t3).mono (x1.off [b3])).mono hxρ).mono hx55
  have fin : ∀ σ' W', LogU σ' d b (dk fs' cnt') W' (ρ.set b3 (.cells (wrt #[.slice none 0 0] 0 (Value.slice p n c).cells.toList) 22 (0, 0))) → W'.dir = dir → W'.check = check → W'.segs = sg'.map (·.1) → (sg' = [] → W'.opn = W'.check + 1 ∧ W'.size = 0) → (∀ s0 x, sg' = s0 ++ [x] → W'.opn = x.1 ∧ W'.size = (joinF x.2).length) → R (.returned (.tuple #[])) σ' := by
    intro σ' W' hl e1 e2 e3 e4 e5
    subst e1 e2
    refine hR σ' W' rc sg' _ p n c fs' cnt' hl hτ hrd5 rfl (LogOk.made (opn := 0) (size := 0) hsh4 hkp4 e3 e4 e5) (by rw [htold]) (hout2.trans hout4) (Sub.trans (fs := fs) (fun s hs => by obtain ⟨f, hf⟩ := Option.isSome_iff_exists.1 hs; rw [hsub2 s f hf]; rfl) hsub4) hnew4 hc1 hc2 (fun hw => ⟨(hc3 (hwt hw)).1, L, hL, (hc3 (hwt hw)).2⟩) ?_
    rw [Hp.set_same]; rfl
  obtain ⟨pq, cq, hcq, hlq, hrq⟩ := h5.rd.segs
  refine ⟨_, ld_of (hx5 _ _ (hρ5 _ _ hn03 t0)) rfl, b, 0, rfl, pq, _, cq, hlq, fun hpos => ?_, fun hz => ?_⟩
  · rcases List.eq_nil_or_concat sg' with e | ⟨s0, x, e⟩
    · subst e; simp at hpos
    have e' : sg' = s0 ++ [x] := by rw [e]; simp
    subst e'
    have hgx := hsh4.gt x (by simp)
    have hge : (asI ((s0 ++ [x]).map (·.1)))[s0.length]? = some ((x.1 : Nat) : Int) := by simp [asI]
    obtain ⟨b37, o37, hpq, hl37⟩ := hrq.at hge
    have el : ((s0 ++ [x]).map (·.1)).length = s0.length + 1 := by simp
    have e3 : Int.toNat ((((s0 ++ [x]).map (·.1)).length : Int) - 1) = s0.length := by rw [el]; omega
    refine ⟨_, ld_of (hx5 _ _ (hρ5 _ _ hn03 t0)) rfl, _, ld_of (hx5 _ _ (hρ5 _ _ hn03 t0)) rfl, b, 0, rfl, pq, _, cq, hlq, ?_, b37, o37, hpq, ?_, x.1, by rw [e3]; exact hl37, b, 0, rfl, ?_⟩
    · have := hc2; have := h5.rd.segs; unfold I64; rw [el]; have := hrq.big; rw [el] at this; omega
    · rw [el]; omega
    refine h5.st (i := 0 + 4) (W' := ⟨dir, check, (s0 ++ [x]).map (·.1), x.1, 0⟩) (by omega) rfl (fun p n c => rfl) fun σ6 h6 => ?_
    have hx6 := h6.ext
    obtain ⟨f, hf, hfd⟩ := hsh4.file s0.length x (by simp)
    simp at hfd
    refine ⟨_, ld_of (hx6 _ _ (hρ5 _ _ hn13 t1)) rfl, _, ld_of (hx6 _ _ (hρ5 _ _ hn03 t0)) rfl, _, ld_of (hx6 _ _ (hρ5 _ _ hn03 t0)) rfl, b, 0, rfl, x.1, h6.rd.opn, ?_⟩
    refine fileW_spec (kind := ks) (dir := dir) h6.rd.dir hds (.inr rfl) (by omega) (htb.mono hx6) fun σ7 hx7 => ⟨_, rfl, Kp.of_ext hx7, ?_⟩
    obtain ⟨τ8, S8, p8, c8, T8, hdu8, hwal8, hxo8⟩ := (h6.mono hx7).opened
    refine dread hdu8 rfl (fname_ok hd (.inr rfl) (by omega)) hf fun p9 c9 σ9 τ9 h9 x9 _ _ _ => ⟨_, _, _, _, rfl, must0 ?_⟩
    have h10 : LogU σ9 d b (dk fs' cnt') ⟨dir, check, (s0 ++ [x]).map (·.1), x.1, 0⟩ (ρ.set b3 (.cells (wrt #[.slice none 0 0] 0 (Value.slice p n c).cells.toList) 22 (0, 0))) := (LogU.close h9 (hwal8.mono x9)).weak (hxo8.trans (x9.off _))
    refine ⟨_, ld_of (h10.ext _ _ (hρ5 _ _ hn03 t0)) rfl, b, 0, rfl, ?_⟩
    refine h10.st (i := 0 + 5) (x := (f.data.length : Nat)) (W' := ⟨dir, check, (s0 ++ [x]).map (·.1), x.1, f.data.length⟩) (by omega) rfl (fun p n c => rfl) fun σ11 h11 => ?_
    refine fin σ11 _ h11 rfl rfl rfl (fun e => by simp at e) fun s1 y e => ?_
    have := List.append_inj' e rfl
    simp only [List.cons.injEq, and_true] at this
    rw [← this.2]
    exact ⟨rfl, congrArg List.length hfd⟩
  · have e0 : sg' = [] := by
      cases sg' with
      | nil => rfl
      | cons y l => simp at hz
    exact fin σ5 _ h5 rfl rfl rfl (fun _ => ⟨rfl, rfl⟩) fun s0 x e => by rw [e0] at e; simp at e
theorem en38 : Enters prog wal_Open_1.fid := fun args w => call38 args w
theorem open_bad {dir : ByteArray} {q : Option Addr} (hd : dirOk dir = false) (hR : ∀ σ', Ext σ σ' → R (.returned (.tuple #[.pointer none, .slice none 0 0, .int .i64 71])) σ') : Spec prog wal_Open.fid #[.pointer q, .string dir] σ R := by
  refine wal_Open.start fun b2 hb2 b3 hb3 => ⟨dir, ld_of (Hp.set_same _ _ _) rfl, fun hh => hR _ ((Ext.set hb2).trans (.set hb3)), fun hh => ⟨dir, ld_of (Hp.set_same _ _ _) rfl, name_spec ⟨_, rfl, fun _ => hR _ ((Ext.set hb2).trans (.set hb3)), fun ht => ?_⟩⟩⟩
  have hle : dir.size ≤ 32 := by omega
  simp [dirOk, ht, hle] at hd
theorem open_spec {dir : ByteArray} {told : Recs} {w : Bool} (h : DiskU σ d D τ) (ht : Tb τ) (hup : D.up = true) (harm : D.armed = false) (hd : dirOk dir = true) (hc : D.cnt < 67108864) (ho : OpenW D.files dir D.cnt told w) (hbig : told.length ≤ 4194304)
    (hR : ∀ b, OpenR d b dir D τ told w fun σ' ρ p n c => R (.returned (.tuple #[.pointer (some ⟨b, 0, none⟩), .slice p n c, .int .i64 0])) σ') (hfew : Few D := by refine .inl ?_; first | omega | (dsimp only [dk]; omega) | (dsimp only; omega)) : Spec prog wal_Open.fid #[.pointer (some ⟨d, 0, none⟩), .string dir] σ R := by
  obtain ⟨fs, up, armed, cnt⟩ := D
  simp only at hup harm
  subst hup harm
  have hds : dir.size ≤ 32 := by simp [dirOk] at hd; exact hd.2
  have hdn : nameOk dir = true := by simp only [dirOk, Bool.and_eq_true] at hd; exact hd.1
  refine wal_Open.start fun b2 hb2 b3 hb3 => ?_
  obtain ⟨τ2, h2, x2, t2⟩ := h.box (o := .cells #[.pointer (some ⟨d, 0, none⟩)] 24 (0, 0)) hb2
  obtain ⟨τ3, h3, x3, t3⟩ := h2.box (o := .cells #[.string dir] 9 (0, 0)) hb3
  refine ⟨dir, ld_of (h3.ext _ _ t3) rfl, fun hh => by omega, fun _ => ⟨dir, ld_of (h3.ext _ _ t3) rfl, name_spec ⟨_, rfl, fun hf => (by rw [hdn] at hf; cases hf), fun _ => ⟨_, ld_of (h3.ext _ _ (x3 _ _ t2)) rfl, ?_⟩⟩⟩⟩
  have h3' := h3
  obtain ⟨Sd, g1, _⟩ := h3'
  refine up_spec g1 ⟨_, rfl, fun hh => (by cases hh), fun _ => ⟨_, ld_of (h3.ext _ _ (x3 _ _ t2)) rfl, dir, ld_of (h3.ext _ _ t3) rfl, fun b24 hb24 b7 hb7 => ?_⟩⟩
  have hl := LogU.make (W := ⟨dir, 0, [], 0, 0⟩) h3 hb24 rfl
  refine Eff.store (v := .pointer (some ⟨b24, 0, none⟩)) ?_ (Hp.set_same _ _ _) (n := 1) rfl (by simp) (by simp [Value.cells, Value.oneCell']) ?_
  · intro w
    have hi : prog.info? 26 = some t26 := by kernel_rfl
    simp [Go.sizeOf, typeInfo, hi, show t26.size = 1 from rfl]
  rw [Hp.set_set]
  have hw : wrt #[Value.pointer none] 0 (Value.pointer (some ⟨b24, 0, none⟩)).cells.toList = #[.pointer (some ⟨b24, 0, none⟩)] := rfl
  rw [hw]
  intro b8 hb8
  obtain ⟨τ7, h7, x7, t7⟩ := hl.box (o := .cells #[.pointer (some ⟨b24, 0, none⟩)] 26 (0, 0)) hb7
  obtain ⟨τ8, h8, x8, t8⟩ := h7.box (o := .cells #[.slice none 0 0] 22 (0, 0)) hb8
  have hxx : Ext τ τ8 := x2.trans (x3.trans (x7.trans x8))
  have hτ8 : Ext τ (τ8.off [b8]) := fun j o hj => by
    refine Hp.off_some.2 ⟨fun e => ?_, hxx _ _ hj⟩
    simp only [List.mem_singleton] at e
    subst e
    have h9 := h7.ext _ _ (x7 _ _ (x3 _ _ (x2 _ _ hj)))
    have h10 := hb8.symm.trans h9
    cases h10
  have t78 : τ8 b7 = some (.cells #[.pointer (some ⟨b24, 0, none⟩)] 26 (0, 0)) := x8 _ _ t7
  have hn78 : b7 ≠ b8 := fun e => by rw [e, t8] at t78; cases t78
  refine caught_spec en38 (open1_spec h8 (ht.mono hxx) hd hc hfew ho hbig t78 (x8 _ _ (x7 _ _ (x3 _ _ t2))) (x8 _ _ (x7 _ _ t3)) t8 fun σ' W rc sg ρ p n c fs' cnt' a1 a2 a3 a4 a5 a6 a7 a8 a9 a10 a10' a10'' a11 => .inl ⟨rfl, _, rfl, fun hh => absurd rfl hh, fun _ => ⟨_, ld_of (a1.ext _ _ (a2 _ _ (Hp.off_some.2 ⟨by simpa using hn78, t78⟩))) rfl, p, n, c, ld_of (a1.ext _ _ a11) rfl, ?_⟩⟩)
  exact hR b24 σ' W rc sg ρ p n c fs' cnt' a1 (hτ8.trans a2) a3 a4 a5 a6 a7 a8 a9 a10 a10' a10''
end
end TwW
end
