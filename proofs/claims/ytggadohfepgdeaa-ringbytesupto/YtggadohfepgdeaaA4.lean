/-
  Part 4 of the proof that the law RingBytesUptoSaid of the given program answers true for every input of the given statement; the input reads behind the call as it did. (The texts: GD RD GE GE RE GC GC GC.)
-/
import Derived.Test.YtggadohfepgdeaaA3
set_option linter.all false
section
/- written by gen.py: program points and what leads to them -/
set_option linter.unusedVariables false
set_option maxRecDepth 100000
namespace TwR
open Go Tw Go.Proofs.Try
namespace law13_RingBytes
abbrev fid : Nat := 4
noncomputable def K0 : Code := f4.body.getD .skip
noncomputable def K1 := Tw.cl K0
noncomputable def K2 := Tw.cr K0
noncomputable def K3 := Tw.cl K2
noncomputable def K4 := Tw.cr K2
noncomputable def K5 := Tw.cl K4
noncomputable def K6 := Tw.cr K4
noncomputable def K7 := Tw.cl K6
noncomputable def K8 := Tw.cr K6
noncomputable def K9 := Tw.cl K8
noncomputable def K10 := Tw.cr K8
noncomputable def K11 := Tw.cl K10
noncomputable def K12 := Tw.cr K10
noncomputable def K13 := Tw.cl K12
noncomputable def K14 := Tw.cl K13
noncomputable def K15 := Tw.cr K13
noncomputable def K16 := Tw.cl K15
noncomputable def K17 := Tw.cl K16
noncomputable def K18 := Tw.cr K16
noncomputable def K19 := Tw.cr K15
noncomputable def K20 := Tw.cr K12
noncomputable def K21 := Tw.cl K20
noncomputable def K22 := Tw.cl K21
noncomputable def K23 := Tw.cr K21
noncomputable def K24 := Tw.cl K23
noncomputable def K25 := Tw.cl K24
noncomputable def K26 := Tw.cr K24
noncomputable def K27 := Tw.cl K26
noncomputable def K28 := Tw.cr K26
noncomputable def K29 := Tw.cr K23
noncomputable def K30 := Tw.cr K20
noncomputable def K31 := Tw.cl K30
noncomputable def K32 := Tw.cr K30
noncomputable abbrev gl (R : Ending → Hp → Prop) : Gl := Gl.fn prog 4 91 R
theorem start {R : Ending → Hp → Prop} {x0a : Int} {p0b : Option Addr} {n0b : Nat} {c0b : Nat} {p1 : Option Addr} {n1 : Nat} {c1 : Nat} {σ : Hp} (h : Spec prog 15 #[(.agg #[(.int .u64 x0a), (.slice p0b n0b c0b)])] σ (Cont R (fun v σ1 => ∃ p19a : Option Addr, ∃ n19a : Nat, ∃ c19a : Nat, ∃ x19b : Int, v = (.tuple #[(.slice p19a n19a c19a), (.int .i64 x19b)]) ∧ Spec prog 16 #[(.slice p1 n1 c1)] σ1 (Cont R (fun v_2 σ1_2 => ∃ x24aa : Int, ∃ p24ab : Option Addr, ∃ n24ab : Nat, ∃ c24ab : Nat, ∃ x24b : Int, v_2 = (.tuple #[(.agg #[(.int .u64 x24aa), (.slice p24ab n24ab c24ab)]), (.int .i64 x24b)]) ∧ Spec prog 9 #[(.agg #[(.int .u64 x0a), (.slice p0b n0b c0b)])] σ1_2 (Cont R (fun v_3 σ1_3 => ∃ x28a : Int, ∃ p28b : Option Addr, ∃ n28b : Nat, ∃ c28b : Nat, v_3 = (.agg #[(.int .u64 x28a), (.slice p28b n28b c28b)]) ∧ Spec prog 17 #[(.slice p1 n1 c1)] σ1_3 (Cont R (fun v_4 σ1_4 => ∃ p30 : Option Addr, ∃ n30 : Nat, ∃ c30 : Nat, v_4 = (.slice p30 n30 c30) ∧ Spec prog 18 #[(.agg #[(.int .u64 x28a), (.slice p28b n28b c28b)])] σ1_4 (Cont R (fun v_5 σ1_5 => ∃ p33a : Option Addr, ∃ n33a : Nat, ∃ c33a : Nat, ∃ x33b : Int, v_5 = (.tuple #[(.slice p33a n33a c33a), (.int .i64 x33b)]) ∧ Spec prog 19 #[(.slice p30 n30 c30)] σ1_5 (Cont R (fun v_6 σ1_6 => ∃ x38aa : Int, ∃ p38ab : Option Addr, ∃ n38ab : Nat, ∃ c38ab : Nat, ∃ x38b : Int, v_6 = (.tuple #[(.agg #[(.int .u64 x38aa), (.slice p38ab n38ab c38ab)]), (.int .i64 x38b)]) ∧ Spec prog 11 #[(.agg #[(.int .u64 x28a), (.slice p28b n28b c28b)]), (.agg #[(.int .u64 x0a), (.slice p0b n0b c0b)])] σ1_6 (Cont R (fun v_7 σ1_7 => ∃ t43 : Bool, v_7 = (.bool t43) ∧ (t43 = false → R (.returned (.bool false)) σ1_7) ∧ (t43 = true → Spec prog 20 #[(.slice p30 n30 c30), (.slice p1 n1 c1)] σ1_7 (Cont R (fun v_8 σ1_8 => ∃ t48 : Bool, v_8 = (.bool t48) ∧ (t48 = false → R (.returned (.bool false)) σ1_8) ∧ (t48 = true → ((x33b : Int) ≠ x19b → R (.returned (.bool false)) σ1_8) ∧ (¬ ((x33b : Int) ≠ x19b) → ((x38b : Int) ≠ x24b → R (.returned (.bool false)) σ1_8) ∧ (¬ ((x38b : Int) ≠ x24b) → Spec prog 21 #[(.slice p33a n33a c33a), (.slice p19a n19a c19a)] σ1_8 (Cont R (fun v_9 σ1_9 => ∃ t64 : Bool, v_9 = (.bool t64) ∧ (t64 = false → R (.returned (.bool false)) σ1_9) ∧ (t64 = true → Spec prog 11 #[(.agg #[(.int .u64 x38aa), (.slice p38ab n38ab c38ab)]), (.agg #[(.int .u64 x24aa), (.slice p24ab n24ab c24ab)])] σ1_9 (Cont R (fun v_10 σ1_10 => ∃ t70 : Bool, v_10 = (.bool t70) ∧ (t70 = false → R (.returned (.bool false)) σ1_10) ∧ (t70 = true → ((x33b : Int) = 0 → Spec prog 19 #[(.slice p33a n33a c33a)] σ1_10 (Cont R (fun v_11 σ1_11 => ∃ x77aa : Int, ∃ p77ab : Option Addr, ∃ n77ab : Nat, ∃ c77ab : Nat, ∃ x77b : Int, v_11 = (.tuple #[(.agg #[(.int .u64 x77aa), (.slice p77ab n77ab c77ab)]), (.int .i64 x77b)]) ∧ ((x77b : Int) = 0 → Spec prog 11 #[(.agg #[(.int .u64 x77aa), (.slice p77ab n77ab c77ab)]), (.agg #[(.int .u64 x0a), (.slice p0b n0b c0b)])] σ1_11 (Cont R (fun v_12 σ1_12 => ∃ t85 : Bool, v_12 = (.bool t85) ∧ (t85 = true → Spec prog 14 #[] σ1_12 (Cont R (fun v_13 σ1_13 => ∃ t88 : Bool, v_13 = (.bool t88) ∧ R (.returned (.bool t88)) σ1_13))) ∧ (t85 = false → R (.returned (.bool false)) σ1_12)))) ∧ (¬ ((x77b : Int) = 0) → R (.returned (.bool false)) σ1_11)))) ∧ (¬ ((x33b : Int) = 0) → Spec prog 14 #[] σ1_10 (Cont R (fun v_11 σ1_11 => ∃ t90 : Bool, v_11 = (.bool t90) ∧ R (.returned (.bool t90)) σ1_11)))))))))))))))))))))))))))))) : Spec prog 4 #[(.agg #[(.int .u64 x0a), (.slice p0b n0b c0b)]), (.slice p1 n1 c1)] σ R := by
 refine Spec.of_at (fn := f4) (c := K0) func4 (by kernel_rfl) (Nat.le_of_ble_eq_true (by kernel_rfl)) (fun e he => ?_)
 refine At.ofL (l := [(0, (.agg #[(.int .u64 x0a), (.slice p0b n0b c0b)])), (1, (.slice p1 n1 c1))]) ⟨he 0, he 1, trivial⟩ (fun J => ?_)
 show At (gl R) _ _ _ _
 refine At.s K1 K2 ?_
 refine At.rg 0 [0, 1] ?_
 refine Seq.o ?_
 refine OpTo.box (T := 25) (d := (some 2)) (ty := 0) (x := (.tmp 0)) (gd := none) (cs := #[(.int .u64 x0a), (.slice p0b n0b c0b)]) (by kernel_rfl) rfl rfl rfl (fun b2 => ?_)
 refine Seq.u 4 (.bool false) ?_
 refine Seq.done ?_
 refine At.L [(1, (.slice p1 n1 c1)), (2, (.pointer (some ⟨b2, 0, none⟩)))] fun J => ?_
 refine At.s K3 K4 ?_
 refine At.rg 1 [0, 1, 2, 3, 4, 5, 6] ?_
 refine Seq.z 18 (.load 25 (.tmp 2)) 25 (.agg #[(.int .u64 x0a), (.slice p0b n0b c0b)]) (Y.ldab (vs := [(.int .u64 x0a), (.slice p0b n0b c0b)]) isAgg25 sizeOf25 rfl rfl (List.mem_cons_self ..) rfl) ?_
 refine Seq.o ?_
 refine OpTo.cl (some 19) call15 (h.cont fun v σ1 h2 => ?_); replace h := h2; clear h2
 obtain ⟨p19a, n19a, c19a, x19b, rfl, h⟩ := h
 refine Seq.u 17 (.tuple #[(.slice p19a n19a c19a), (.int .i64 x19b)]) ?_
 refine Seq.u 20 (.slice p19a n19a c19a) ?_
 refine Seq.u 21 (.int .i64 x19b) ?_
 refine Seq.u 5 (.slice p19a n19a c19a) ?_
 refine Seq.u 6 (.int .i64 x19b) ?_
 refine Seq.done ?_
 refine At.L [(1, (.slice p1 n1 c1)), (2, (.pointer (some ⟨b2, 0, none⟩))), (5, (.slice p19a n19a c19a)), (6, (.int .i64 x19b))] fun J => ?_
 refine At.s K5 K6 ?_
 refine At.rg 2 [0, 1, 2, 3, 4, 5, 6, 7] ?_
 refine Seq.u 23 (.slice p1 n1 c1) ?_
 refine Seq.o ?_
 refine OpTo.cl (some 24) call16 (h.cont fun v_2 σ1_2 h2 => ?_); replace h := h2; clear h2
 obtain ⟨x24aa, p24ab, n24ab, c24ab, x24b, rfl, h⟩ := h
 refine Seq.u 22 (.tuple #[(.agg #[(.int .u64 x24aa), (.slice p24ab n24ab c24ab)]), (.int .i64 x24b)]) ?_
 refine Seq.u 25 (.agg #[(.int .u64 x24aa), (.slice p24ab n24ab c24ab)]) ?_
 refine Seq.u 26 (.int .i64 x24b) ?_
 refine Seq.o ?_
 refine OpTo.alloc (T := 25) (d := (some 7)) (ty := 0)  (gd := none) (cs := #[(.int .u64 0), (.slice none 0 0)]) (by kernel_rfl) rfl rfl zeroValue25 rfl (fun b7 => ?_)
 refine Seq.o ?_
 refine OpTo.storeb (T := 25) (ty := 0) (x := (.tmp 7)) (y := (.tmp 25)) (t := 25) (j := 0) (b := b7) (o := 0) (c' := #[(.int .u64 x24aa), (.slice p24ab n24ab c24ab)]) (v := (.agg #[(.int .u64 x24aa), (.slice p24ab n24ab c24ab)])) (gd := none) (by kernel_rfl) rfl sizeOf25 rfl rfl rfl rfl rfl rfl rfl ?_
 simp only [List.set]
 refine Seq.u 8 (.int .i64 x24b) ?_
 refine Seq.done ?_
 refine At.L [(1, (.slice p1 n1 c1)), (2, (.pointer (some ⟨b2, 0, none⟩))), (5, (.slice p19a n19a c19a)), (6, (.int .i64 x19b)), (7, (.pointer (some ⟨b7, 0, none⟩))), (8, (.int .i64 x24b))] fun J => ?_
 refine At.s K7 K8 ?_
 refine At.rg 3 [0, 1, 2, 3, 4, 5, 6] ?_
 refine Seq.z 27 (.load 25 (.tmp 2)) 25 (.agg #[(.int .u64 x0a), (.slice p0b n0b c0b)]) (Y.ldab (vs := [(.int .u64 x0a), (.slice p0b n0b c0b)]) isAgg25 sizeOf25 rfl rfl (.tail _ (List.mem_cons_self ..)) rfl) ?_
 refine Seq.o ?_
 refine OpTo.cl (some 28) call9 (h.cont fun v_3 σ1_3 h2 => ?_); replace h := h2; clear h2
 obtain ⟨x28a, p28b, n28b, c28b, rfl, h⟩ := h
 refine Seq.u 29 (.slice p1 n1 c1) ?_
 refine Seq.o ?_
 refine OpTo.cl (some 30) call17 (h.cont fun v_4 σ1_4 h2 => ?_); replace h := h2; clear h2
 obtain ⟨p30, n30, c30, rfl, h⟩ := h
 refine Seq.o ?_
 refine OpTo.alloc (T := 25) (d := (some 9)) (ty := 0)  (gd := none) (cs := #[(.int .u64 0), (.slice none 0 0)]) (by kernel_rfl) rfl rfl zeroValue25 rfl (fun b9 => ?_)
 refine Seq.o ?_
 refine OpTo.storeb (T := 25) (ty := 0) (x := (.tmp 9)) (y := (.tmp 28)) (t := 25) (j := 0) (b := b9) (o := 0) (c' := #[(.int .u64 x28a), (.slice p28b n28b c28b)]) (v := (.agg #[(.int .u64 x28a), (.slice p28b n28b c28b)])) (gd := none) (by kernel_rfl) rfl sizeOf25 rfl rfl rfl rfl rfl rfl rfl ?_
 simp only [List.set]
 refine Seq.u 10 (.slice p30 n30 c30) ?_
 refine Seq.done ?_
 refine At.L [(1, (.slice p1 n1 c1)), (2, (.pointer (some ⟨b2, 0, none⟩))), (5, (.slice p19a n19a c19a)), (6, (.int .i64 x19b)), (7, (.pointer (some ⟨b7, 0, none⟩))), (8, (.int .i64 x24b)), (9, (.pointer (some ⟨b9, 0, none⟩))), (10, (.slice p30 n30 c30))] fun J => ?_
 refine At.s K9 K10 ?_
 refine At.rg 4 [0, 1, 2, 3, 4, 5, 6] ?_
 refine Seq.z 32 (.load 25 (.tmp 9)) 25 (.agg #[(.int .u64 x28a), (.slice p28b n28b c28b)]) (Y.ldab (vs := [(.int .u64 x28a), (.slice p28b n28b c28b)]) isAgg25 sizeOf25 rfl rfl (List.mem_cons_self ..) rfl) ?_
 refine Seq.o ?_
 refine OpTo.cl (some 33) call18 (h.cont fun v_5 σ1_5 h2 => ?_); replace h := h2; clear h2
 obtain ⟨p33a, n33a, c33a, x33b, rfl, h⟩ := h
 refine Seq.u 31 (.tuple #[(.slice p33a n33a c33a), (.int .i64 x33b)]) ?_
 refine Seq.u 34 (.slice p33a n33a c33a) ?_
 refine Seq.u 35 (.int .i64 x33b) ?_
 refine Seq.u 11 (.slice p33a n33a c33a) ?_
 refine Seq.u 12 (.int .i64 x33b) ?_
 refine Seq.done ?_
 refine At.L [(1, (.slice p1 n1 c1)), (2, (.pointer (some ⟨b2, 0, none⟩))), (5, (.slice p19a n19a c19a)), (6, (.int .i64 x19b)), (7, (.pointer (some ⟨b7, 0, none⟩))), (8, (.int .i64 x24b)), (9, (.pointer (some ⟨b9, 0, none⟩))), (10, (.slice p30 n30 c30)), (11, (.slice p33a n33a c33a)), (12, (.int .i64 x33b))] fun J => ?_
 refine At.s K11 K12 ?_
 refine At.rg 5 [0, 1, 2, 3, 4, 5, 6, 7] ?_
 refine Seq.u 37 (.slice p30 n30 c30) ?_
 refine Seq.o ?_
 refine OpTo.cl (some 38) call19 (h.cont fun v_6 σ1_6 h2 => ?_); replace h := h2; clear h2
 obtain ⟨x38aa, p38ab, n38ab, c38ab, x38b, rfl, h⟩ := h
 refine Seq.u 36 (.tuple #[(.agg #[(.int .u64 x38aa), (.slice p38ab n38ab c38ab)]), (.int .i64 x38b)]) ?_
 refine Seq.u 39 (.agg #[(.int .u64 x38aa), (.slice p38ab n38ab c38ab)]) ?_
 refine Seq.u 40 (.int .i64 x38b) ?_
 refine Seq.o ?_
 refine OpTo.alloc (T := 25) (d := (some 13)) (ty := 0)  (gd := none) (cs := #[(.int .u64 0), (.slice none 0 0)]) (by kernel_rfl) rfl rfl zeroValue25 rfl (fun b13 => ?_)
 refine Seq.o ?_
 refine OpTo.storeb (T := 25) (ty := 0) (x := (.tmp 13)) (y := (.tmp 39)) (t := 25) (j := 0) (b := b13) (o := 0) (c' := #[(.int .u64 x38aa), (.slice p38ab n38ab c38ab)]) (v := (.agg #[(.int .u64 x38aa), (.slice p38ab n38ab c38ab)])) (gd := none) (by kernel_rfl) rfl sizeOf25 rfl rfl rfl rfl rfl rfl rfl ?_
 simp only [List.set]
 refine Seq.u 14 (.int .i64 x38b) ?_
 refine Seq.done ?_
 refine At.L [(1, (.slice p1 n1 c1)), (2, (.pointer (some ⟨b2, 0, none⟩))), (5, (.slice p19a n19a c19a)), (6, (.int .i64 x19b)), (7, (.pointer (some ⟨b7, 0, none⟩))), (8, (.int .i64 x24b)), (9, (.pointer (some ⟨b9, 0, none⟩))), (10, (.slice p30 n30 c30)), (11, (.slice p33a n33a c33a)), (12, (.int .i64 x33b)), (13, (.pointer (some ⟨b13, 0, none⟩))), (14, (.int .i64 x38b))] fun J => ?_
 refine At.s K13 K20 ?_
 refine At.s K14 K15 ?_
 refine At.rg 6 [0, 1, 2, 3, 4, 5, 6, 7, 8, 9, 10, 11, 12, 13, 14, 15, 16, 17, 18, 19, 20, 21, 22, 23, 24, 25, 26, 27, 28, 29, 30, 31] ?_
 refine Seq.z 41 (.load 25 (.tmp 9)) 25 (.agg #[(.int .u64 x28a), (.slice p28b n28b c28b)]) (Y.ldab (vs := [(.int .u64 x28a), (.slice p28b n28b c28b)]) isAgg25 sizeOf25 rfl rfl (.tail _ (List.mem_cons_self ..)) rfl) ?_
 refine Seq.z 42 (.load 25 (.tmp 2)) 25 (.agg #[(.int .u64 x0a), (.slice p0b n0b c0b)]) (Y.ldab (vs := [(.int .u64 x0a), (.slice p0b n0b c0b)]) isAgg25 sizeOf25 rfl rfl (.tail _ (.tail _ (.tail _ (List.mem_cons_self ..)))) rfl) ?_
 refine Seq.o ?_
 refine OpTo.cl (some 43) call11 (h.cont fun v_7 σ1_7 h2 => ?_); replace h := h2; clear h2
 obtain ⟨t43, rfl, h⟩ := h
 refine Seq.u 44 (.bool (!t43)) ?_
 refine Seq.u 45 (.bool (!t43)) ?_
 cases hb : (!t43) with
 | true =>
  replace h := h.1 (Tw.nt hb)
  refine Seq.n 46 ?_
  refine Seq.n 47 ?_
  refine Seq.n 48 ?_
  refine Seq.n 49 ?_
  refine Seq.u 50 (.bool true) ?_
  refine Seq.u 51 (.bool true) ?_
  refine Seq.n 52 ?_
  refine Seq.n 53 ?_
  refine Seq.n 54 ?_
  refine Seq.u 55 (.bool true) ?_
  refine Seq.u 56 (.bool true) ?_
  refine Seq.n 57 ?_
  refine Seq.n 58 ?_
  refine Seq.n 59 ?_
  refine Seq.u 60 (.bool true) ?_
  refine Seq.u 61 (.bool true) ?_
  refine Seq.n 62 ?_
  refine Seq.n 63 ?_
  refine Seq.n 64 ?_
  refine Seq.n 65 ?_
  refine Seq.u 66 (.bool true) ?_
  refine Seq.u 67 (.bool true) ?_
  refine Seq.n 68 ?_
  refine Seq.n 69 ?_
  refine Seq.n 70 ?_
  refine Seq.n 71 ?_
  refine Seq.u 72 (.bool true) ?_
  refine Seq.done ?_
  refine At.L [(2, (.pointer (some ⟨b2, 0, none⟩))), (11, (.slice p33a n33a c33a)), (12, (.int .i64 x33b)), (72, (.bool true))] fun J => ?_
  refine At.cT 72 K16 K19 ?_
  refine At.s K17 K18 ?_
  refine At.rg 7 [0] ?_
  refine Seq.u 4 (.bool false) ?_
  refine Seq.done ?_
  refine At.L [(4, (.bool false))] fun J => ?_
  exact At.rt [.tmp 4] [(.bool false)] func4 ⟨_, rfl, rfl⟩ h
 | false =>
  replace h := h.2 (Tw.nf hb)
  refine Seq.u 46 (.slice p30 n30 c30) ?_
  refine Seq.u 47 (.slice p1 n1 c1) ?_
  refine Seq.o ?_
  refine OpTo.cl (some 48) call20 (h.cont fun v_8 σ1_8 h2 => ?_); replace h := h2; clear h2
  obtain ⟨t48, rfl, h⟩ := h
  refine Seq.u 49 (.bool (!t48)) ?_
  refine Seq.u 50 (.bool (!t48)) ?_
  refine Seq.u 51 (.bool (!t48)) ?_
  cases hb : (!t48) with
  | true =>
   replace h := h.1 (Tw.nt hb)
   refine Seq.n 52 ?_
   refine Seq.n 53 ?_
   refine Seq.n 54 ?_
   refine Seq.u 55 (.bool true) ?_
   refine Seq.u 56 (.bool true) ?_
   refine Seq.n 57 ?_
   refine Seq.n 58 ?_
   refine Seq.n 59 ?_
   refine Seq.u 60 (.bool true) ?_
   refine Seq.u 61 (.bool true) ?_
   refine Seq.n 62 ?_
   refine Seq.n 63 ?_
   refine Seq.n 64 ?_
   refine Seq.n 65 ?_
   refine Seq.u 66 (.bool true) ?_
   refine Seq.u 67 (.bool true) ?_
   refine Seq.n 68 ?_
   refine Seq.n 69 ?_
   refine Seq.n 70 ?_
   refine Seq.n 71 ?_
   refine Seq.u 72 (.bool true) ?_
   refine Seq.done ?_
   refine At.L [(2, (.pointer (some ⟨b2, 0, none⟩))), (11, (.slice p33a n33a c33a)), (12, (.int .i64 x33b)), (72, (.bool true))] fun J => ?_
   refine At.cT 72 K16 K19 ?_
   refine At.s K17 K18 ?_
   refine At.rg 7 [0] ?_
   refine Seq.u 4 (.bool false) ?_
   refine Seq.done ?_
   refine At.L [(4, (.bool false))] fun J => ?_
   exact At.rt [.tmp 4] [(.bool false)] func4 ⟨_, rfl, rfl⟩ h
  | false =>
   replace h := h.2 (Tw.nf hb)
   refine Seq.u 52 (.int .i64 x33b) ?_
   refine Seq.u 53 (.int .i64 x19b) ?_
   refine Seq.u 54 (.bool (decide ((x33b : Int) ≠ x19b))) ?_
   refine Seq.u 55 (.bool (decide ((x33b : Int) ≠ x19b))) ?_
   refine Seq.u 56 (.bool (decide ((x33b : Int) ≠ x19b))) ?_
   cases hb : (decide ((x33b : Int) ≠ x19b)) with
   | true =>
    replace h := h.1 (of_decide_eq_true hb)
    refine Seq.n 57 ?_
    refine Seq.n 58 ?_
    refine Seq.n 59 ?_
    refine Seq.u 60 (.bool true) ?_
    refine Seq.u 61 (.bool true) ?_
    refine Seq.n 62 ?_
    refine Seq.n 63 ?_
    refine Seq.n 64 ?_
    refine Seq.n 65 ?_
    refine Seq.u 66 (.bool true) ?_
    refine Seq.u 67 (.bool true) ?_
    refine Seq.n 68 ?_
    refine Seq.n 69 ?_
    refine Seq.n 70 ?_
    refine Seq.n 71 ?_
    refine Seq.u 72 (.bool true) ?_
    refine Seq.done ?_
    refine At.L [(2, (.pointer (some ⟨b2, 0, none⟩))), (11, (.slice p33a n33a c33a)), (12, (.int .i64 x33b)), (72, (.bool true))] fun J => ?_
    refine At.cT 72 K16 K19 ?_
    refine At.s K17 K18 ?_
    refine At.rg 7 [0] ?_
    refine Seq.u 4 (.bool false) ?_
    refine Seq.done ?_
    refine At.L [(4, (.bool false))] fun J => ?_
    exact At.rt [.tmp 4] [(.bool false)] func4 ⟨_, rfl, rfl⟩ h
   | false =>
    replace h := h.2 (of_decide_eq_false hb)
    refine Seq.u 57 (.int .i64 x38b) ?_
    refine Seq.u 58 (.int .i64 x24b) ?_
    refine Seq.u 59 (.bool (decide ((x38b : Int) ≠ x24b))) ?_
    refine Seq.u 60 (.bool (decide ((x38b : Int) ≠ x24b))) ?_
    refine Seq.u 61 (.bool (decide ((x38b : Int) ≠ x24b))) ?_
    cases hb : (decide ((x38b : Int) ≠ x24b)) with
    | true =>
     replace h := h.1 (of_decide_eq_true hb)
     refine Seq.n 62 ?_
     refine Seq.n 63 ?_
     refine Seq.n 64 ?_
     refine Seq.n 65 ?_
     refine Seq.u 66 (.bool true) ?_
     refine Seq.u 67 (.bool true) ?_
     refine Seq.n 68 ?_
     refine Seq.n 69 ?_
     refine Seq.n 70 ?_
     refine Seq.n 71 ?_
     refine Seq.u 72 (.bool true) ?_
     refine Seq.done ?_
     refine At.L [(2, (.pointer (some ⟨b2, 0, none⟩))), (11, (.slice p33a n33a c33a)), (12, (.int .i64 x33b)), (72, (.bool true))] fun J => ?_
     refine At.cT 72 K16 K19 ?_
     refine At.s K17 K18 ?_
     refine At.rg 7 [0] ?_
     refine Seq.u 4 (.bool false) ?_
     refine Seq.done ?_
     refine At.L [(4, (.bool false))] fun J => ?_
     exact At.rt [.tmp 4] [(.bool false)] func4 ⟨_, rfl, rfl⟩ h
    | false =>
     replace h := h.2 (of_decide_eq_false hb)
     refine Seq.u 62 (.slice p33a n33a c33a) ?_
     refine Seq.u 63 (.slice p19a n19a c19a) ?_
     refine Seq.o ?_
     refine OpTo.cl (some 64) call21 (h.cont fun v_9 σ1_9 h2 => ?_); replace h := h2; clear h2
     obtain ⟨t64, rfl, h⟩ := h
     refine Seq.u 65 (.bool (!t64)) ?_
     refine Seq.u 66 (.bool (!t64)) ?_
     refine Seq.u 67 (.bool (!t64)) ?_
     cases hb : (!t64) with
     | true =>
      replace h := h.1 (Tw.nt hb)
      refine Seq.n 68 ?_
      refine Seq.n 69 ?_
      refine Seq.n 70 ?_
      refine Seq.n 71 ?_
      refine Seq.u 72 (.bool true) ?_
      refine Seq.done ?_
      refine At.L [(2, (.pointer (some ⟨b2, 0, none⟩))), (11, (.slice p33a n33a c33a)), (12, (.int .i64 x33b)), (72, (.bool true))] fun J => ?_
      refine At.cT 72 K16 K19 ?_
      refine At.s K17 K18 ?_
      refine At.rg 7 [0] ?_
      refine Seq.u 4 (.bool false) ?_
      refine Seq.done ?_
      refine At.L [(4, (.bool false))] fun J => ?_
      exact At.rt [.tmp 4] [(.bool false)] func4 ⟨_, rfl, rfl⟩ h
     | false =>
      replace h := h.2 (Tw.nf hb)
      refine Seq.zg 68 (.load 25 (.tmp 13)) 25 (26, false) (.agg #[(.int .u64 x38aa), (.slice p38ab n38ab c38ab)]) (Y.ldab (vs := [(.int .u64 x38aa), (.slice p38ab n38ab c38ab)]) isAgg25 sizeOf25 rfl rfl (List.mem_cons_self ..) rfl) ?_
      refine Seq.zg 69 (.load 25 (.tmp 7)) 25 (26, false) (.agg #[(.int .u64 x24aa), (.slice p24ab n24ab c24ab)]) (Y.ldab (vs := [(.int .u64 x24aa), (.slice p24ab n24ab c24ab)]) isAgg25 sizeOf25 rfl rfl (.tail _ (.tail _ (List.mem_cons_self ..))) rfl) ?_
      refine Seq.o ?_
      refine OpTo.cl (some 70) call11 (h.cont fun v_10 σ1_10 h2 => ?_); replace h := h2; clear h2
      obtain ⟨t70, rfl, h⟩ := h
      refine Seq.u 71 (.bool (!t70)) ?_
      refine Seq.u 72 (.bool (!t70)) ?_
      refine Seq.done ?_
      refine At.L [(2, (.pointer (some ⟨b2, 0, none⟩))), (11, (.slice p33a n33a c33a)), (12, (.int .i64 x33b)), (72, (.bool (!t70)))] fun J => ?_
      cases hb : (!t70) with
      | true =>
       replace h := h.1 (Tw.nt hb)
       refine At.cT 72 K16 K19 ?_
       refine At.s K17 K18 ?_
       refine At.rg 7 [0] ?_
       refine Seq.u 4 (.bool false) ?_
       refine Seq.done ?_
       refine At.L [(4, (.bool false))] fun J => ?_
       exact At.rt [.tmp 4] [(.bool false)] func4 ⟨_, rfl, rfl⟩ h
      | false =>
       replace h := h.2 (Tw.nf hb)
       refine At.cF 72 K16 K19 ?_
       refine At.skip ?_
       refine At.s K21 K30 ?_
       refine At.s K22 K23 ?_
       refine At.rg 8 [0, 1] ?_
       refine Seq.u 73 (.int .i64 x33b) ?_
       refine Seq.u 74 (.bool (decide ((x33b : Int) = 0))) ?_
       refine Seq.done ?_
       refine At.L [(2, (.pointer (some ⟨b2, 0, none⟩))), (11, (.slice p33a n33a c33a)), (74, (.bool (decide ((x33b : Int) = 0))))] fun J => ?_
       cases hb : (decide ((x33b : Int) = 0)) with
       | true =>
        replace h := h.1 (of_decide_eq_true hb)
        refine At.cT 74 K24 K29 ?_
        refine At.s K25 K26 ?_
        refine At.rg 9 [0, 1, 2, 3, 4, 5, 6, 7] ?_
        refine Seq.u 76 (.slice p33a n33a c33a) ?_
        refine Seq.o ?_
        refine OpTo.cl (some 77) call19 (h.cont fun v_11 σ1_11 h2 => ?_); replace h := h2; clear h2
        obtain ⟨x77aa, p77ab, n77ab, c77ab, x77b, rfl, h⟩ := h
        refine Seq.u 75 (.tuple #[(.agg #[(.int .u64 x77aa), (.slice p77ab n77ab c77ab)]), (.int .i64 x77b)]) ?_
        refine Seq.u 78 (.agg #[(.int .u64 x77aa), (.slice p77ab n77ab c77ab)]) ?_
        refine Seq.u 79 (.int .i64 x77b) ?_
        refine Seq.o ?_
        refine OpTo.alloc (T := 25) (d := (some 15)) (ty := 0)  (gd := none) (cs := #[(.int .u64 0), (.slice none 0 0)]) (by kernel_rfl) rfl rfl zeroValue25 rfl (fun b15 => ?_)
        refine Seq.o ?_
        refine OpTo.storeb (T := 25) (ty := 0) (x := (.tmp 15)) (y := (.tmp 78)) (t := 25) (j := 0) (b := b15) (o := 0) (c' := #[(.int .u64 x77aa), (.slice p77ab n77ab c77ab)]) (v := (.agg #[(.int .u64 x77aa), (.slice p77ab n77ab c77ab)])) (gd := none) (by kernel_rfl) rfl sizeOf25 rfl rfl rfl rfl rfl rfl rfl ?_
        simp only [List.set]
        refine Seq.u 16 (.int .i64 x77b) ?_
        refine Seq.done ?_
        refine At.L [(2, (.pointer (some ⟨b2, 0, none⟩))), (15, (.pointer (some ⟨b15, 0, none⟩))), (16, (.int .i64 x77b))] fun J => ?_
        refine At.s K27 K28 ?_
        refine At.rg 10 [0, 1, 2, 3, 4, 5, 6, 7, 8, 9, 10] ?_
        refine Seq.u 80 (.int .i64 x77b) ?_
        refine Seq.u 81 (.bool (decide ((x77b : Int) = 0))) ?_
        refine Seq.u 82 (.bool (decide ((x77b : Int) = 0))) ?_
        cases hb : (decide ((x77b : Int) = 0)) with
        | true =>
         replace h := h.1 (of_decide_eq_true hb)
         refine Seq.zg 83 (.load 25 (.tmp 15)) 25 (2, true) (.agg #[(.int .u64 x77aa), (.slice p77ab n77ab c77ab)]) (Y.ldab (vs := [(.int .u64 x77aa), (.slice p77ab n77ab c77ab)]) isAgg25 sizeOf25 rfl rfl (List.mem_cons_self ..) rfl) ?_
         refine Seq.zg 84 (.load 25 (.tmp 2)) 25 (2, true) (.agg #[(.int .u64 x0a), (.slice p0b n0b c0b)]) (Y.ldab (vs := [(.int .u64 x0a), (.slice p0b n0b c0b)]) isAgg25 sizeOf25 rfl rfl (.tail _ (.tail _ (.tail _ (.tail _ (List.mem_cons_self ..))))) rfl) ?_
         refine Seq.o ?_
         refine OpTo.cl (some 85) call11 (h.cont fun v_12 σ1_12 h2 => ?_); replace h := h2; clear h2
         obtain ⟨t85, rfl, h⟩ := h
         refine Seq.u 86 (.bool t85) ?_
         refine Seq.u 87 (.bool t85) ?_
         cases hb : t85 with
         | true =>
          replace h := h.1 hb
          refine Seq.o ?_
          refine OpTo.cl (some 88) call14 (h.cont fun v_13 σ1_13 h2 => ?_); replace h := h2; clear h2
          obtain ⟨t88, rfl, h⟩ := h
          refine Seq.u 89 (.bool t88) ?_
          refine Seq.u 4 (.bool t88) ?_
          refine Seq.done ?_
          refine At.L [(4, (.bool t88))] fun J => ?_
          exact At.rt [.tmp 4] [(.bool t88)] func4 ⟨_, rfl, rfl⟩ h
         | false =>
          replace h := h.2 hb
          refine Seq.n 88 ?_
          refine Seq.u 89 (.bool false) ?_
          refine Seq.u 4 (.bool false) ?_
          refine Seq.done ?_
          refine At.L [(4, (.bool false))] fun J => ?_
          exact At.rt [.tmp 4] [(.bool false)] func4 ⟨_, rfl, rfl⟩ h
        | false =>
         replace h := h.2 (of_decide_eq_false hb)
         refine Seq.n 83 ?_
         refine Seq.n 84 ?_
         refine Seq.n 85 ?_
         refine Seq.u 86 (.bool false) ?_
         refine Seq.u 87 (.bool false) ?_
         refine Seq.n 88 ?_
         refine Seq.u 89 (.bool false) ?_
         refine Seq.u 4 (.bool false) ?_
         refine Seq.done ?_
         refine At.L [(4, (.bool false))] fun J => ?_
         exact At.rt [.tmp 4] [(.bool false)] func4 ⟨_, rfl, rfl⟩ h
       | false =>
        replace h := h.2 (of_decide_eq_false hb)
        refine At.cF 74 K24 K29 ?_
        refine At.skip ?_
        refine At.s K31 K32 ?_
        refine At.rg 11 [0, 1] ?_
        refine Seq.o ?_
        refine OpTo.cl (some 90) call14 (h.cont fun v_11 σ1_11 h2 => ?_); replace h := h2; clear h2
        obtain ⟨t90, rfl, h⟩ := h
        refine Seq.u 4 (.bool t90) ?_
        refine Seq.done ?_
        refine At.L [(4, (.bool t90))] fun J => ?_
        exact At.rt [.tmp 4] [(.bool t90)] func4 ⟨_, rfl, rfl⟩ h
end law13_RingBytes
end TwR
end
section
namespace TwR
open Go Tw

theorem Mem.lenLe {ms : List Mem} {m : Mem} (hs : Small ms) (h : m ∈ ms) : m.toks.length ≤ 35184372088832 := hs.2 m h

theorem copyOf_eff {σ σ1 : Hp} {q : Option Addr} {j c : Nat} {xs : List Int} {T Et ty : TypeId} {bs : Nat} [SlT prog T Et 1 bs] {Φ : Value → Hp → Prop} (hx : Ext σ σ1) (ht : RdI .u32 σ1 q j xs) (hb : j * bs ≤ 140737488355328)
    (hΦ : ∀ p' c' σ', OwnI .u32 (σ1.new σ') p' j c' xs → Ext σ1 σ' → Φ (.slice p' j c') σ') {b : Nat} (hn : σ1 b = none) :
    Eff prog (Builtin.append_ #[T, T] ty #[.slice (some ⟨b, 0, none⟩) 0 0, .slice q j c]) (σ1.set b (.cells #[] Et (0, 0))) Φ := by
  refine app_eff Own.empty ((RdC.of_map ht).mono (.set hn)) OneC.map_int (by rw [Nat.zero_add]; exact hb) fun p' c' σ' hown hext => ?_
  have hq : ∀ a : Addr, (some (⟨b, 0, none⟩ : Addr)) = some a → σ1 a.block = none := fun a ha => by cases ha; exact hn
  rw [Nat.zero_add] at hown ⊢
  exact hΦ p' c' σ' (Own.to_new hown (new_block hq hext (.set hn))) (ext_new hq hext (.set hn))

theorem copyRing'_spec {R : Ending → Hp → Prop} {σ : Hp} {e : Int} {p : Option Addr} {n c : Nat} {ms : List Mem} (hr : RdM σ p n ms) (hs : Small ms)
    (h : ∀ p' c' σ', OwnM (σ.new σ') p' n c' ms → Ext σ σ' → R (.returned (.agg #[.int .u64 e, .slice p' n c'])) σ') : Spec prog ring_Copy.fid #[.agg #[.int .u64 e, .slice p n c]] σ R := by
  refine ring_Copy.start ?_
  have hlen : n ≤ 3518437208883 := by have := hs.1; have := hr.1; omega
  suffices H : ∀ d k : Nat, ∀ p3 c3 σ', n - k = d → k ≤ n → Ext σ σ' → OwnM (σ.new σ') p3 k c3 (ms.take k) → ring_Copy.pt10 R 0 none 0 0 e p3 k c3 p n c n k σ' from H n 0 _ _ _ rfl (by omega) (.refl σ) OwnL.nil
  intro d
  induction d with
  | zero =>
    intro k p3 c3 σ' hd hk hx hown
    refine ring_Copy.pt10_of ⟨fun hlt => by omega, fun _ => ?_⟩
    rw [List.take_of_length_le (by rw [hr.1]; omega)] at hown
    have : k = n := by omega
    subst this
    exact h _ _ _ hown hx
  | succ d ih =>
    intro k p3 c3 σ' hd hk hx hown
    refine ring_Copy.pt10_of ⟨fun hlt => ?_, fun hge => by omega⟩
    have hk' : k < n := by omega
    obtain ⟨m, hm⟩ := hr.ex hk'
    obtain ⟨b, o, q, j, c', rfl, hl, ht⟩ := hr.at' hm
    have hmem : m ∈ ms := List.mem_of_getElem? hm
    have hlj := ht.1
    have hsj := hs.2 m hmem
    refine ⟨b, o, rfl, by omega, m.id, m.state, q, j, c', by simpa using hl.mono hx, fun b16 hb16 => ?_⟩
    refine copyOf_eff hx (ht.mono hx) (by omega) (fun q' j' σ1 hq hx1 => ⟨q', j, j', rfl, fun b28 hb28 => ?_⟩) hb16
    have hown1 : OwnM (σ.new σ1) p3 k c3 (ms.take k) := hown.mono EMem.mono (Ext.new_mono hx1)
    have hpb : ∀ a, p3 = some a → σ' a.block ≠ none := fun a ha => by
      have := hown.block a ha
      cases hh : (σ.new σ') a.block with
      | none => exact absurd hh this
      | some oo => rw [(new_some.1 hh).2]; simp
    have hin : Ext (σ'.new σ1) ((σ.new σ1).del p3) := Ext.new_into hx hpb
    have he : EMem ((σ.new σ1).del p3) [.int .i64 m.id, .int .i64 m.state, .slice q' j j'] m := ⟨q', j, j', rfl, hq.rd.mono hin⟩
    refine OwnL.app1 EMem.mono (hx.trans hx1) hown1 rfl oneC_mem he (by omega) (fun p' c2 σ2 ho2 hx2 => ⟨p', k + 1, c2, rfl, i64_succ hk' hr.big, ih (k + 1) _ _ _ (by omega) (by omega) hx2 ?_⟩) hb28
    rw [List.take_add_one, hm]; exact ho2

/-- The place of a member, or -1. -/
def place (ms : List Mem) (x : Int) : Int := match ms.findIdx? (fun m => decide (m.id = x)) with | some k => k | none => -1

theorem place_none {ms : List Mem} {x : Int} (h : ∀ m ∈ ms, m.id ≠ x) : place ms x = -1 := by
  unfold place
  rw [List.findIdx?_eq_none_iff.2 (by simpa using h)]
theorem place_some {ms : List Mem} {x : Int} {k : Nat} {m : Mem} (hm : ms[k]? = some m) (he : m.id = x) (h : ∀ m ∈ ms.take k, m.id ≠ x) : place ms x = k := by
  unfold place
  have hlt := (List.getElem?_eq_some_iff.1 hm).1
  have heq := (List.getElem?_eq_some_iff.1 hm).2
  rw [(List.findIdx?_eq_some_iff_getElem (i := k)).2 ⟨hlt, by rw [heq]; simpa using he, fun j hj => ?_⟩]
  have := h ms[j] (List.mem_iff_getElem.2 ⟨j, by simp; omega, by simp⟩)
  simpa using this

theorem enters_member1 : Enters prog ring_member_1.fid := fun args w => Go.Proofs.Try.call66 args w

theorem member_spec {R : Ending → Hp → Prop} {σ : Hp} {e x : Int} {p : Option Addr} {n c : Nat} {ms : List Mem} (hr : RdM σ p n ms) (h : R (.returned (.int .i64 (place ms x))) σ) :
    Spec prog ring_member.fid #[.agg #[.int .u64 e, .slice p n c], .int .i64 x] σ R := by
  refine Spec.drop (ring_member.start fun b3 hb3 => ?_)
  have hx : Ext σ (σ.set b3 (.cells #[.int .i64 x] 3 (0, 0))) := .set hb3
  have hr' := hr.mono' hx
  have hld : Hp.ld (σ.set b3 (.cells #[.int .i64 x] 3 (0, 0))) ⟨b3, 0, none⟩ = some (.int .i64 x) := by simp [Hp.ld, Hp.set_same]
  generalize hσ : (σ.set b3 (.cells #[.int .i64 x] 3 (0, 0))) = σ1 at *
  refine slices_IndexFunc_Member.start ?_
  suffices H : ∀ d k : Nat, n - k = d → k ≤ n → (∀ m ∈ ms.take k, m.id ≠ x) → slices_IndexFunc_Member.pt8 (Cont (Drop R) fun v σ1 => ∃ x8 : Int, v = .int .i64 x8 ∧ Drop R (.returned (.int .i64 x8)) σ1) p n c (.func (.func ring_member_1.fid) #[] #[.pointer (some ⟨b3, 0, none⟩)]) n k σ1 from H n 0 rfl (by omega) (by simp)
  intro d
  induction d with
  | zero =>
    intro k hd hk hno
    refine slices_IndexFunc_Member.pt8_of ⟨fun hlt => by omega, fun _ => ⟨_, rfl, .mk hx ?_⟩⟩
    rw [List.take_of_length_le (by rw [hr.1]; omega)] at hno
    rw [← place_none hno]; exact h
  | succ d ih =>
    intro k hd hk hno
    refine slices_IndexFunc_Member.pt8_of ⟨fun hlt => ?_, fun hge => by omega⟩
    have hk' : k < n := by omega
    obtain ⟨m, hm⟩ := hr'.ex hk'
    obtain ⟨b, o, q, j, c', rfl, hl, ht⟩ := hr'.at' hm
    refine ⟨b, o, rfl, by omega, m.id, m.state, q, j, c', by simpa using hl, _, _, _, rfl, enters_member1, ?_⟩
    refine ring_member_1.start ⟨x, hld, _, rfl, fun ht1 => ⟨_, rfl, .mk hx ?_⟩, fun hf => ⟨i64_succ hk' hr.big, ih (k + 1) (by omega) (by omega) ?_⟩⟩
    · have he : m.id = x := by simpa using ht1
      rw [← place_some hm he hno]; exact h
    · have hne : m.id ≠ x := by simpa using hf
      intro m' hm'
      rw [List.take_add_one, hm] at hm'
      simp only [Option.toList, List.mem_append, List.mem_singleton] at hm'
      rcases hm' with hm' | rfl
      · exact hno m' hm'
      · exact hne

theorem place_cases (ms : List Mem) (x : Int) : (place ms x = -1 ∧ ∀ m ∈ ms, m.id ≠ x) ∨ ∃ k m, place ms x = (k : Nat) ∧ ms[k]? = some m ∧ m.id = x ∧ ∀ m ∈ ms.take k, m.id ≠ x := by
  unfold place
  cases hf : ms.findIdx? (fun m => decide (m.id = x)) with
  | none => exact .inl ⟨rfl, by simpa using hf⟩
  | some k =>
    obtain ⟨hk, he, hno⟩ := List.findIdx?_eq_some_iff_getElem.1 hf
    refine .inr ⟨k, ms[k], rfl, List.getElem?_eq_getElem hk, by simpa using he, fun m hm => ?_⟩
    obtain ⟨j, hj, rfl⟩ := List.mem_iff_getElem.1 hm
    have hj' : j < k := by simp at hj; omega
    have := hno j hj'
    simpa using this

/-- A member's state. -/
def stateOf (ms : List Mem) (x : Int) : Int := if OkR ms then (match ms.find? (fun m => decide (m.id = x)) with | some m => m.state | none => 0) else 0

theorem find_of {ms : List Mem} {x : Int} {k : Nat} {m : Mem} (hm : ms[k]? = some m) (he : m.id = x) (h : ∀ m ∈ ms.take k, m.id ≠ x) : ms.find? (fun m => decide (m.id = x)) = some m := by
  have hlt := (List.getElem?_eq_some_iff.1 hm).1
  have heq := (List.getElem?_eq_some_iff.1 hm).2
  refine List.find?_eq_some_iff_getElem.2 ⟨by simpa using he, k, hlt, heq, fun j hj => ?_⟩
  have := h ms[j] (List.mem_iff_getElem.2 ⟨j, by simp; omega, by simp⟩)
  simpa using this

theorem state_spec {R : Ending → Hp → Prop} {σ : Hp} {e x : Int} {p : Option Addr} {n c : Nat} {ms : List Mem} (hr : RdM σ p n ms) (hs : Small ms) (h : R (.returned (.int .i64 (stateOf ms x))) σ) :
    Spec prog ring_State.fid #[.agg #[.int .u64 e, .slice p n c], .int .i64 x] σ R := by
  refine ring_State.start (member_spec hr ⟨_, rfl, check_spec hr hs ⟨_, rfl, fun hne => ?_, fun he => ⟨fun hlt => ?_, fun hge => ?_⟩⟩⟩)
  · have : ¬ OkR ms := fun hok => hne (by simp [chk, hok])
    simpa [stateOf, this] using h
  · have hok : OkR ms := Decidable.byContradiction fun hn => he (by simp [chk, hn])
    rcases place_cases ms x with ⟨_, hno⟩ | ⟨k, m, hk, _⟩
    · have : ms.find? (fun m => decide (m.id = x)) = none := List.find?_eq_none.2 (by simpa using hno)
      simpa [stateOf, hok, this] using h
    · omega
  · have hok : OkR ms := Decidable.byContradiction fun hn => he (by simp [chk, hn])
    rcases place_cases ms x with ⟨h1, _⟩ | ⟨k, m, hk, hm, hid, hno⟩
    · omega
    · obtain ⟨b, o, q, j, c', rfl, hl, ht⟩ := hr.at' hm
      have hlt := (List.getElem?_eq_some_iff.1 hm).1
      have := hr.1
      rw [hk]
      obtain ⟨_, h2, _⟩ := hl
      refine ⟨b, o, rfl, by omega, m.state, by simpa using h2, ?_⟩
      simpa [stateOf, hok, find_of hm hid hno] using h
end TwR
end
section
/- written by gen.py: program points and what leads to them -/
set_option linter.unusedVariables false
set_option maxRecDepth 100000
namespace TwR
open Go Tw Go.Proofs.Try
namespace math_bits_Len
abbrev fid : Nat := 72
noncomputable def K0 : Code := f72.body.getD .skip
noncomputable def K1 := Tw.cl K0
noncomputable def K2 := Tw.cr K0
noncomputable def K3 := Tw.cl K2
noncomputable def K4 := Tw.cl K3
noncomputable def K5 := Tw.cl K4
noncomputable def K6 := Tw.cr K4
noncomputable def K7 := Tw.cr K3
noncomputable def K8 := Tw.cr K2
noncomputable def K9 := Tw.cl K8
noncomputable def K10 := Tw.cr K8
noncomputable abbrev gl (R : Ending → Hp → Prop) : Gl := Gl.fn prog 72 8 R
theorem start {R : Ending → Hp → Prop} {x0 : Int} {σ : Hp} (h : Spec prog 87 #[(.int .u64 x0)] σ (Cont R (fun v σ1 => ∃ x7 : Int, v = (.int .i64 x7) ∧ R (.returned (.int .i64 x7)) σ1))) : Spec prog 72 #[(.int .u64 x0)] σ R := by
 refine Spec.of_at (fn := f72) (c := K0) func72 (by kernel_rfl) (Nat.le_of_ble_eq_true (by kernel_rfl)) (fun e he => ?_)
 refine At.ofL (l := [(0, (.int .u64 x0))]) ⟨he 0, trivial⟩ (fun J => ?_)
 show At (gl R) _ _ _ _
 refine At.s K1 K2 ?_
 refine At.rg 0 [0] ?_
 refine Seq.u 2 (.int .i64 0) ?_
 refine Seq.done ?_
 refine At.L [(0, (.int .u64 x0))] fun J => ?_
 refine At.s K3 K8 ?_
 refine At.condF (x := (.const (.bool false))) (y := K4) (z := K7) (by kernel_rfl) rfl ?_
 refine At.skip ?_
 refine At.s K9 K10 ?_
 refine At.rg 2 [0, 1, 2] ?_
 refine Seq.u 6 (.int .u64 x0) ?_
 refine Seq.o ?_
 refine OpTo.cl (some 7) call87 (h.cont fun v σ1 h2 => ?_); replace h := h2; clear h2
 obtain ⟨x7, rfl, h⟩ := h
 refine Seq.u 2 (.int .i64 x7) ?_
 refine Seq.done ?_
 refine At.L [(2, (.int .i64 x7))] fun J => ?_
 exact At.rt [.tmp 2] [(.int .i64 x7)] func72 ⟨_, rfl, rfl⟩ h
end math_bits_Len
namespace math_bits_Len64
abbrev fid : Nat := 87
noncomputable def K0 : Code := f87.body.getD .skip
noncomputable def K1 := Tw.cl K0
noncomputable def K2 := Tw.cr K0
noncomputable def K3 := Tw.cl K2
noncomputable def K4 := Tw.cl K3
noncomputable def K5 := Tw.cr K3
noncomputable def K6 := Tw.cl K5
noncomputable def K7 := Tw.cl K6
noncomputable def K8 := Tw.cr K6
noncomputable def K9 := Tw.cr K5
noncomputable def K10 := Tw.cr K2
noncomputable def K11 := Tw.cl K10
noncomputable def K12 := Tw.cl K11
noncomputable def K13 := Tw.cr K11
noncomputable def K14 := Tw.cl K13
noncomputable def K15 := Tw.cl K14
noncomputable def K16 := Tw.cr K14
noncomputable def K17 := Tw.cr K13
noncomputable def K18 := Tw.cr K10
noncomputable def K19 := Tw.cl K18
noncomputable def K20 := Tw.cl K19
noncomputable def K21 := Tw.cr K19
noncomputable def K22 := Tw.cl K21
noncomputable def K23 := Tw.cl K22
noncomputable def K24 := Tw.cr K22
noncomputable def K25 := Tw.cr K21
noncomputable def K26 := Tw.cr K18
noncomputable def K27 := Tw.cl K26
noncomputable def K28 := Tw.cr K26
noncomputable abbrev gl (R : Ending → Hp → Prop) : Gl := Gl.fn prog 87 25 R
def pt12 (R : Ending → Hp → Prop) (x0 : Int) (x2 : Int) (σ : Hp) : Prop := ∀ (J : Env), At (gl R) [.code K12, .code K13, .code K18] (upds J [(0, (.int .u64 x0)), (2, (.int .i64 x2))]) [] σ
def pt20 (R : Ending → Hp → Prop) (x0 : Int) (x2 : Int) (σ : Hp) : Prop := ∀ (J : Env), At (gl R) [.code K20, .code K21, .code K26] (upds J [(0, (.int .u64 x0)), (2, (.int .i64 x2))]) [] σ
def pt27 (R : Ending → Hp → Prop) (x0 : Int) (x2 : Int) (σ : Hp) : Prop := ∀ (J : Env), At (gl R) [.code K27, .code K28] (upds J [(0, (.int .u64 x0)), (2, (.int .i64 x2))]) [] σ
theorem start {R : Ending → Hp → Prop} {x0 : Int} {σ : Hp} (h : ((4294967296 : Int) ≤ x0 → ((0 : Int) ≤ 32 ∧ 32 ≤ ((IntKind.bits .u64 : Nat) : Int)) ∧ ∀ x6 : Int, x6 = x0 / 2 ^ Int.toNat 32 → pt12 R x6 32 σ) ∧ (¬ ((4294967296 : Int) ≤ x0) → pt12 R x0 0 σ)) : Spec prog 87 #[(.int .u64 x0)] σ R := by
 refine Spec.of_at (fn := f87) (c := K0) func87 (by kernel_rfl) (Nat.le_of_ble_eq_true (by kernel_rfl)) (fun e he => ?_)
 refine At.ofL (l := [(0, (.int .u64 x0))]) ⟨he 0, trivial⟩ (fun J => ?_)
 show At (gl R) _ _ _ _
 refine At.s K1 K2 ?_
 refine At.rg 0 [0] ?_
 refine Seq.u 2 (.int .i64 0) ?_
 refine Seq.done ?_
 refine At.L [(0, (.int .u64 x0)), (2, (.int .i64 0))] fun J => ?_
 refine At.s K3 K10 ?_
 refine At.s K4 K5 ?_
 refine At.rg 1 [0, 1] ?_
 refine Seq.u 3 (.int .u64 x0) ?_
 refine Seq.u 4 (.bool (decide ((4294967296 : Int) ≤ x0))) ?_
 refine Seq.done ?_
 refine At.L [(0, (.int .u64 x0)), (2, (.int .i64 0)), (4, (.bool (decide ((4294967296 : Int) ≤ x0))))] fun J => ?_
 cases hb : (decide ((4294967296 : Int) ≤ x0)) with
 | true =>
  replace h := h.1 (of_decide_eq_true hb)
  refine At.cT 4 K6 K9 ?_
  refine At.s K7 K8 ?_
  refine At.rg 2 [0, 1, 2] ?_
  refine Seq.u 5 (.int .u64 x0) ?_
  obtain ⟨hc, h⟩ := h
  obtain ⟨x6, hwx6⟩ : ∃ y, y = x0 / 2 ^ Int.toNat 32 := ⟨_, rfl⟩
  replace h := h x6 hwx6
  refine Seq.y (d := (some 6)) (op := (.binOp .shr 22 (.tmp 5) (.const (.int .u64 32)) 90)) (ty := 22) (v := (.int .u64 x6)) (by kernel_rfl) rfl (hwx6 ▸ Y.shr hc.1 hc.2 rfl rfl) ?_
  refine Seq.u 0 (.int .u64 x6) ?_
  refine Seq.done ?_
  refine At.L [(0, (.int .u64 x6))] fun J => ?_
  refine At.rg 3 [0] ?_
  refine Seq.u 2 (.int .i64 32) ?_
  refine Seq.done ?_
  refine At.L [(0, (.int .u64 x6)), (2, (.int .i64 32))] fun J => ?_
  refine At.s K11 K18 ?_
  refine At.s K12 K13 ?_
  exact At.v [(0, (.int .u64 x6)), (2, (.int .i64 32))] (h _)
 | false =>
  replace h := h.2 (of_decide_eq_false hb)
  refine At.cF 4 K6 K9 ?_
  refine At.skip ?_
  refine At.s K11 K18 ?_
  refine At.s K12 K13 ?_
  exact At.v [(0, (.int .u64 x0)), (2, (.int .i64 0))] (h _)
theorem pt12_of {R : Ending → Hp → Prop} {x0 : Int} {x2 : Int} {σ : Hp} (h : ((65536 : Int) ≤ x0 → ((0 : Int) ≤ 16 ∧ 16 ≤ ((IntKind.bits .u64 : Nat) : Int)) ∧ ∀ x10 : Int, x10 = x0 / 2 ^ Int.toNat 16 → I64 (x2 + 16) ∧ pt20 R x10 ((x2 + 16)) σ) ∧ (¬ ((65536 : Int) ≤ x0) → pt20 R x0 x2 σ)) : pt12 R x0 x2 σ := by
 intro J
 show At (gl R) _ _ _ _
 refine At.rg 4 [0, 1] ?_
 refine Seq.u 7 (.int .u64 x0) ?_
 refine Seq.u 8 (.bool (decide ((65536 : Int) ≤ x0))) ?_
 refine Seq.done ?_
 refine At.L [(0, (.int .u64 x0)), (2, (.int .i64 x2)), (8, (.bool (decide ((65536 : Int) ≤ x0))))] fun J => ?_
 cases hb : (decide ((65536 : Int) ≤ x0)) with
 | true =>
  replace h := h.1 (of_decide_eq_true hb)
  refine At.cT 8 K14 K17 ?_
  refine At.s K15 K16 ?_
  refine At.rg 5 [0, 1, 2] ?_
  refine Seq.u 9 (.int .u64 x0) ?_
  obtain ⟨hc, h⟩ := h
  obtain ⟨x10, hwx10⟩ : ∃ y, y = x0 / 2 ^ Int.toNat 16 := ⟨_, rfl⟩
  replace h := h x10 hwx10
  refine Seq.y (d := (some 10)) (op := (.binOp .shr 22 (.tmp 9) (.const (.int .u64 16)) 90)) (ty := 22) (v := (.int .u64 x10)) (by kernel_rfl) rfl (hwx10 ▸ Y.shr hc.1 hc.2 rfl rfl) ?_
  refine Seq.u 0 (.int .u64 x10) ?_
  refine Seq.done ?_
  refine At.L [(0, (.int .u64 x10)), (2, (.int .i64 x2))] fun J => ?_
  refine At.rg 6 [0, 1, 2] ?_
  refine Seq.u 11 (.int .i64 x2) ?_
  obtain ⟨hi, h⟩ := h
  refine Seq.z 12 (.binOp .add 3 (.tmp 11) (.const (.int .i64 16)) 3) 3 (.int .i64 (x2 + 16)) (Y.addI hi rfl rfl) ?_
  refine Seq.u 2 (.int .i64 (x2 + 16)) ?_
  refine Seq.done ?_
  refine At.L [(0, (.int .u64 x10)), (2, (.int .i64 (x2 + 16)))] fun J => ?_
  refine At.s K19 K26 ?_
  refine At.s K20 K21 ?_
  exact At.v [(0, (.int .u64 x10)), (2, (.int .i64 (x2 + 16)))] (h _)
 | false =>
  replace h := h.2 (of_decide_eq_false hb)
  refine At.cF 8 K14 K17 ?_
  refine At.skip ?_
  refine At.s K19 K26 ?_
  refine At.s K20 K21 ?_
  exact At.v [(0, (.int .u64 x0)), (2, (.int .i64 x2))] (h _)
theorem pt20_of {R : Ending → Hp → Prop} {x0 : Int} {x2 : Int} {σ : Hp} (h : ((256 : Int) ≤ x0 → ((0 : Int) ≤ 8 ∧ 8 ≤ ((IntKind.bits .u64 : Nat) : Int)) ∧ ∀ x16 : Int, x16 = x0 / 2 ^ Int.toNat 8 → I64 (x2 + 8) ∧ pt27 R x16 ((x2 + 8)) σ) ∧ (¬ ((256 : Int) ≤ x0) → pt27 R x0 x2 σ)) : pt20 R x0 x2 σ := by
 intro J
 show At (gl R) _ _ _ _
 refine At.rg 7 [0, 1] ?_
 refine Seq.u 13 (.int .u64 x0) ?_
 refine Seq.u 14 (.bool (decide ((256 : Int) ≤ x0))) ?_
 refine Seq.done ?_
 refine At.L [(0, (.int .u64 x0)), (2, (.int .i64 x2)), (14, (.bool (decide ((256 : Int) ≤ x0))))] fun J => ?_
 cases hb : (decide ((256 : Int) ≤ x0)) with
 | true =>
  replace h := h.1 (of_decide_eq_true hb)
  refine At.cT 14 K22 K25 ?_
  refine At.s K23 K24 ?_
  refine At.rg 8 [0, 1, 2] ?_
  refine Seq.u 15 (.int .u64 x0) ?_
  obtain ⟨hc, h⟩ := h
  obtain ⟨x16, hwx16⟩ : ∃ y, y = x0 / 2 ^ Int.toNat 8 := ⟨_, rfl⟩
  replace h := h x16 hwx16
  refine Seq.y (d := (some 16)) (op := (.binOp .shr 22 (.tmp 15) (.const (.int .u64 8)) 90)) (ty := 22) (v := (.int .u64 x16)) (by kernel_rfl) rfl (hwx16 ▸ Y.shr hc.1 hc.2 rfl rfl) ?_
  refine Seq.u 0 (.int .u64 x16) ?_
  refine Seq.done ?_
  refine At.L [(0, (.int .u64 x16)), (2, (.int .i64 x2))] fun J => ?_
  refine At.rg 9 [0, 1, 2] ?_
  refine Seq.u 17 (.int .i64 x2) ?_
  obtain ⟨hi, h⟩ := h
  refine Seq.z 18 (.binOp .add 3 (.tmp 17) (.const (.int .i64 8)) 3) 3 (.int .i64 (x2 + 8)) (Y.addI hi rfl rfl) ?_
  refine Seq.u 2 (.int .i64 (x2 + 8)) ?_
  refine Seq.done ?_
  refine At.L [(0, (.int .u64 x16)), (2, (.int .i64 (x2 + 8)))] fun J => ?_
  refine At.s K27 K28 ?_
  exact At.v [(0, (.int .u64 x16)), (2, (.int .i64 (x2 + 8)))] (h _)
 | false =>
  replace h := h.2 (of_decide_eq_false hb)
  refine At.cF 14 K22 K25 ?_
  refine At.skip ?_
  refine At.s K27 K28 ?_
  exact At.v [(0, (.int .u64 x0)), (2, (.int .i64 x2))] (h _)
theorem pt27_of {R : Ending → Hp → Prop} {x0 : Int} {x2 : Int} {σ : Hp} (h : ∀ x21 : Int, x21 = IntKind.u8.wrap x0 → ∃ u22 : UInt8, (0 : Int) ≤ x21 ∧ (ByteArray.data ⟨#[0, 1, 2, 2, 3, 3, 3, 3, 4, 4, 4, 4, 4, 4, 4, 4, 5, 5, 5, 5, 5, 5, 5, 5, 5, 5, 5, 5, 5, 5, 5, 5, 6, 6, 6, 6, 6, 6, 6, 6, 6, 6, 6, 6, 6, 6, 6, 6, 6, 6, 6, 6, 6, 6, 6, 6, 6, 6, 6, 6, 6, 6, 6, 6, 7, 7, 7, 7, 7, 7, 7, 7, 7, 7, 7, 7, 7, 7, 7, 7, 7, 7, 7, 7, 7, 7, 7, 7, 7, 7, 7, 7, 7, 7, 7, 7, 7, 7, 7, 7, 7, 7, 7, 7, 7, 7, 7, 7, 7, 7, 7, 7, 7, 7, 7, 7, 7, 7, 7, 7, 7, 7, 7, 7, 7, 7, 7, 7, 8, 8, 8, 8, 8, 8, 8, 8, 8, 8, 8, 8, 8, 8, 8, 8, 8, 8, 8, 8, 8, 8, 8, 8, 8, 8, 8, 8, 8, 8, 8, 8, 8, 8, 8, 8, 8, 8, 8, 8, 8, 8, 8, 8, 8, 8, 8, 8, 8, 8, 8, 8, 8, 8, 8, 8, 8, 8, 8, 8, 8, 8, 8, 8, 8, 8, 8, 8, 8, 8, 8, 8, 8, 8, 8, 8, 8, 8, 8, 8, 8, 8, 8, 8, 8, 8, 8, 8, 8, 8, 8, 8, 8, 8, 8, 8, 8, 8, 8, 8, 8, 8, 8, 8, 8, 8, 8, 8, 8, 8, 8, 8, 8, 8, 8, 8, 8, 8, 8, 8, 8, 8, 8, 8, 8, 8, 8, 8]⟩)[Int.toNat x21]? = some u22 ∧ ∀ x23 : Int, x23 = IntKind.i64.wrap ((UInt8.toNat u22 : Nat) : Int) → I64 (x2 + x23) ∧ R (.returned (.int .i64 (x2 + x23))) σ) : pt27 R x0 x2 σ := by
 intro J
 show At (gl R) _ _ _ _
 refine At.rg 10 [0, 1, 2, 3, 4, 5, 6] ?_
 refine Seq.u 19 (.int .i64 x2) ?_
 refine Seq.u 20 (.int .u64 x0) ?_
 obtain ⟨x21, hwx21⟩ : ∃ y, y = IntKind.u8.wrap x0 := ⟨_, rfl⟩
 replace h := h x21 hwx21
 refine Seq.y (d := (some 21)) (op := (.convert 22 5 (.tmp 20))) (ty := 5) (v := (.int .u8 x21)) (by kernel_rfl) rfl (hwx21 ▸ Y.conv (by kernel_rfl) underlying5 rfl) ?_
 obtain ⟨u22, h0, hv, h⟩ := h
 refine Seq.z 22 (.index 9 (.const (.string ⟨#[0, 1, 2, 2, 3, 3, 3, 3, 4, 4, 4, 4, 4, 4, 4, 4, 5, 5, 5, 5, 5, 5, 5, 5, 5, 5, 5, 5, 5, 5, 5, 5, 6, 6, 6, 6, 6, 6, 6, 6, 6, 6, 6, 6, 6, 6, 6, 6, 6, 6, 6, 6, 6, 6, 6, 6, 6, 6, 6, 6, 6, 6, 6, 6, 7, 7, 7, 7, 7, 7, 7, 7, 7, 7, 7, 7, 7, 7, 7, 7, 7, 7, 7, 7, 7, 7, 7, 7, 7, 7, 7, 7, 7, 7, 7, 7, 7, 7, 7, 7, 7, 7, 7, 7, 7, 7, 7, 7, 7, 7, 7, 7, 7, 7, 7, 7, 7, 7, 7, 7, 7, 7, 7, 7, 7, 7, 7, 7, 8, 8, 8, 8, 8, 8, 8, 8, 8, 8, 8, 8, 8, 8, 8, 8, 8, 8, 8, 8, 8, 8, 8, 8, 8, 8, 8, 8, 8, 8, 8, 8, 8, 8, 8, 8, 8, 8, 8, 8, 8, 8, 8, 8, 8, 8, 8, 8, 8, 8, 8, 8, 8, 8, 8, 8, 8, 8, 8, 8, 8, 8, 8, 8, 8, 8, 8, 8, 8, 8, 8, 8, 8, 8, 8, 8, 8, 8, 8, 8, 8, 8, 8, 8, 8, 8, 8, 8, 8, 8, 8, 8, 8, 8, 8, 8, 8, 8, 8, 8, 8, 8, 8, 8, 8, 8, 8, 8, 8, 8, 8, 8, 8, 8, 8, 8, 8, 8, 8, 8, 8, 8, 8, 8, 8, 8, 8, 8]⟩)) (.tmp 21)) 5 (.int .u8 ((UInt8.toNat u22 : Nat) : Int)) (Y.idxStr underlying9 rfl rfl h0 hv) ?_
 obtain ⟨x23, hwx23⟩ : ∃ y, y = IntKind.i64.wrap ((UInt8.toNat u22 : Nat) : Int) := ⟨_, rfl⟩
 replace h := h x23 hwx23
 refine Seq.y (d := (some 23)) (op := (.convert 5 3 (.tmp 22))) (ty := 3) (v := (.int .i64 x23)) (by kernel_rfl) rfl (hwx23 ▸ Y.conv (by kernel_rfl) underlying3 rfl) ?_
 obtain ⟨hi, h⟩ := h
 refine Seq.z 24 (.binOp .add 3 (.tmp 19) (.tmp 23) 3) 3 (.int .i64 (x2 + x23)) (Y.addI hi rfl rfl) ?_
 refine Seq.u 2 (.int .i64 (x2 + x23)) ?_
 refine Seq.done ?_
 refine At.L [(2, (.int .i64 (x2 + x23)))] fun J => ?_
 exact At.rt [.tmp 2] [(.int .i64 (x2 + x23))] func87 ⟨_, rfl, rfl⟩ h
end math_bits_Len64
namespace cmp_isNaN_uint32
abbrev fid : Nat := 73
noncomputable def K0 : Code := f73.body.getD .skip
noncomputable def K1 := Tw.cl K0
noncomputable def K2 := Tw.cr K0
noncomputable def K3 := Tw.cl K2
noncomputable def K4 := Tw.cr K2
noncomputable abbrev gl (R : Ending → Hp → Prop) : Gl := Gl.fn prog 73 6 R
theorem start {R : Ending → Hp → Prop} {x0 : Int} {σ : Hp} (h : R (.returned (.bool (decide ((x0 : Int) ≠ x0)))) σ) : Spec prog 73 #[(.int .u32 x0)] σ R := by
 refine Spec.of_at (fn := f73) (c := K0) func73 (by kernel_rfl) (Nat.le_of_ble_eq_true (by kernel_rfl)) (fun e he => ?_)
 refine At.ofL (l := [(0, (.int .u32 x0))]) ⟨he 0, trivial⟩ (fun J => ?_)
 show At (gl R) _ _ _ _
 refine At.s K1 K2 ?_
 refine At.rg 0 [0] ?_
 refine Seq.u 2 (.bool false) ?_
 refine Seq.done ?_
 refine At.L [(0, (.int .u32 x0))] fun J => ?_
 refine At.s K3 K4 ?_
 refine At.rg 1 [0, 1, 2, 3] ?_
 refine Seq.u 3 (.int .u32 x0) ?_
 refine Seq.u 4 (.int .u32 x0) ?_
 refine Seq.u 5 (.bool (decide ((x0 : Int) ≠ x0))) ?_
 refine Seq.u 2 (.bool (decide ((x0 : Int) ≠ x0))) ?_
 refine Seq.done ?_
 refine At.L [(2, (.bool (decide ((x0 : Int) ≠ x0))))] fun J => ?_
 exact At.rt [.tmp 2] [(.bool (decide ((x0 : Int) ≠ x0)))] func73 ⟨_, rfl, rfl⟩ h
end cmp_isNaN_uint32
namespace cmp_Less_uint32
abbrev fid : Nat := 94
noncomputable def K0 : Code := f94.body.getD .skip
noncomputable def K1 := Tw.cl K0
noncomputable def K2 := Tw.cr K0
noncomputable def K3 := Tw.cl K2
noncomputable def K4 := Tw.cr K2
noncomputable abbrev gl (R : Ending → Hp → Prop) : Gl := Gl.fn prog 94 17 R
theorem start {R : Ending → Hp → Prop} {x0 : Int} {x1 : Int} {σ : Hp} (h : Spec prog 73 #[(.int .u32 x0)] σ (Cont R (fun v σ1 => ∃ t6 : Bool, v = (.bool t6) ∧ (t6 = true → Spec prog 73 #[(.int .u32 x1)] σ1 (Cont R (fun v_2 σ1_2 => ∃ t9 : Bool, v_2 = (.bool t9) ∧ (t9 = false → R (.returned (.bool true)) σ1_2) ∧ (t9 = true → R (.returned (.bool (decide ((x0 : Int) < x1)))) σ1_2)))) ∧ (t6 = false → R (.returned (.bool (decide ((x0 : Int) < x1)))) σ1)))) : Spec prog 94 #[(.int .u32 x0), (.int .u32 x1)] σ R := by
 refine Spec.of_at (fn := f94) (c := K0) func94 (by kernel_rfl) (Nat.le_of_ble_eq_true (by kernel_rfl)) (fun e he => ?_)
 refine At.ofL (l := [(0, (.int .u32 x0)), (1, (.int .u32 x1))]) ⟨he 0, he 1, trivial⟩ (fun J => ?_)
 show At (gl R) _ _ _ _
 refine At.s K1 K2 ?_
 refine At.rg 0 [0] ?_
 refine Seq.u 4 (.bool false) ?_
 refine Seq.done ?_
 refine At.L [(0, (.int .u32 x0)), (1, (.int .u32 x1))] fun J => ?_
 refine At.s K3 K4 ?_
 refine At.rg 1 [0, 1, 2, 3, 4, 5, 6, 7, 8, 9, 10, 11, 12] ?_
 refine Seq.u 5 (.int .u32 x0) ?_
 refine Seq.o ?_
 refine OpTo.cl (some 6) call73 (h.cont fun v σ1 h2 => ?_); replace h := h2; clear h2
 obtain ⟨t6, rfl, h⟩ := h
 refine Seq.u 7 (.bool t6) ?_
 cases hb : t6 with
 | true =>
  replace h := h.1 hb
  refine Seq.u 8 (.int .u32 x1) ?_
  refine Seq.o ?_
  refine OpTo.cl (some 9) call73 (h.cont fun v_2 σ1_2 h2 => ?_); replace h := h2; clear h2
  obtain ⟨t9, rfl, h⟩ := h
  refine Seq.u 10 (.bool (!t9)) ?_
  refine Seq.u 11 (.bool (!t9)) ?_
  refine Seq.u 12 (.bool (!t9)) ?_
  cases hb : (!t9) with
  | true =>
   replace h := h.1 (Tw.nt hb)
   refine Seq.n 13 ?_
   refine Seq.n 14 ?_
   refine Seq.n 15 ?_
   refine Seq.u 16 (.bool true) ?_
   refine Seq.u 4 (.bool true) ?_
   refine Seq.done ?_
   refine At.L [(4, (.bool true))] fun J => ?_
   exact At.rt [.tmp 4] [(.bool true)] func94 ⟨_, rfl, rfl⟩ h
  | false =>
   replace h := h.2 (Tw.nf hb)
   refine Seq.u 13 (.int .u32 x0) ?_
   refine Seq.u 14 (.int .u32 x1) ?_
   refine Seq.u 15 (.bool (decide ((x0 : Int) < x1))) ?_
   refine Seq.u 16 (.bool (decide ((x0 : Int) < x1))) ?_
   refine Seq.u 4 (.bool (decide ((x0 : Int) < x1))) ?_
   refine Seq.done ?_
   refine At.L [(4, (.bool (decide ((x0 : Int) < x1))))] fun J => ?_
   exact At.rt [.tmp 4] [(.bool (decide ((x0 : Int) < x1)))] func94 ⟨_, rfl, rfl⟩ h
 | false =>
  replace h := h.2 hb
  refine Seq.n 8 ?_
  refine Seq.n 9 ?_
  refine Seq.n 10 ?_
  refine Seq.u 11 (.bool false) ?_
  refine Seq.u 12 (.bool false) ?_
  refine Seq.u 13 (.int .u32 x0) ?_
  refine Seq.u 14 (.int .u32 x1) ?_
  refine Seq.u 15 (.bool (decide ((x0 : Int) < x1))) ?_
  refine Seq.u 16 (.bool (decide ((x0 : Int) < x1))) ?_
  refine Seq.u 4 (.bool (decide ((x0 : Int) < x1))) ?_
  refine Seq.done ?_
  refine At.L [(4, (.bool (decide ((x0 : Int) < x1))))] fun J => ?_
  exact At.rt [.tmp 4] [(.bool (decide ((x0 : Int) < x1)))] func94 ⟨_, rfl, rfl⟩ h
end cmp_Less_uint32
namespace slices_insertionSortOrdered_uint32
abbrev fid : Nat := 88
noncomputable def K0 : Code := f88.body.getD .skip
noncomputable def K1 := Tw.cl K0
noncomputable def K2 := Tw.cr K0
noncomputable def K3 := Tw.cl K2
noncomputable def K4 := Tw.cl K3
noncomputable def K5 := Tw.cl K4
noncomputable def K6 := Tw.cl K5
noncomputable def K7 := Tw.cr K5
noncomputable def K8 := Tw.cl K7
noncomputable def K9 := Tw.cr K7
noncomputable def K10 := Tw.cr K4
noncomputable def K11 := Tw.cl K10
noncomputable def K12 := Tw.cl K11
noncomputable def K13 := Tw.cl K12
noncomputable def K14 := Tw.cr K12
noncomputable def K15 := Tw.cl K14
noncomputable def K16 := Tw.cl K15
noncomputable def K17 := Tw.cl K16
noncomputable def K18 := Tw.cl K17
noncomputable def K19 := Tw.cr K17
noncomputable def K20 := Tw.cl K19
noncomputable def K21 := Tw.cr K19
noncomputable def K22 := Tw.cr K16
noncomputable def K23 := Tw.cl K22
noncomputable def K24 := Tw.cl K23
noncomputable def K25 := Tw.cr K22
noncomputable def K26 := Tw.cr K10
noncomputable abbrev gl (R : Ending → Hp → Prop) : Gl := Gl.fn prog 88 49 R
def pt6 (R : Ending → Hp → Prop) (p0 : Option Addr) (n0 : Nat) (c0 : Nat) (x1 : Int) (x2 : Int) (x6 : Int) (σ : Hp) : Prop := ∀ (J : Env), At (gl R) [.code K6, .code K7, .code K10, .inLoop K4, .inBlock 0] (upds J [(0, (.slice p0 n0 c0)), (1, (.int .i64 x1)), (2, (.int .i64 x2)), (6, (.int .i64 x6))]) [] σ
def pt18 (R : Ending → Hp → Prop) (p0 : Option Addr) (n0 : Nat) (c0 : Nat) (x1 : Int) (x2 : Int) (x6 : Int) (x7 : Int) (σ : Hp) : Prop := ∀ (J : Env), At (gl R) [.code K18, .code K19, .code K22, .inLoop K16, .inBlock 2, .inBlock 1, .code K26, .inLoop K4, .inBlock 0] (upds J [(0, (.slice p0 n0 c0)), (1, (.int .i64 x1)), (2, (.int .i64 x2)), (6, (.int .i64 x6)), (7, (.int .i64 x7))]) [] σ
theorem start {R : Ending → Hp → Prop} {p0 : Option Addr} {n0 : Nat} {c0 : Nat} {x1 : Int} {x2 : Int} {σ : Hp} (h : I64 (x1 + 1) ∧ pt6 R p0 n0 c0 x1 x2 ((x1 + 1)) σ) : Spec prog 88 #[(.slice p0 n0 c0), (.int .i64 x1), (.int .i64 x2)] σ R := by
 refine Spec.of_at (fn := f88) (c := K0) func88 (by kernel_rfl) (Nat.le_of_ble_eq_true (by kernel_rfl)) (fun e he => ?_)
 refine At.ofL (l := [(0, (.slice p0 n0 c0)), (1, (.int .i64 x1)), (2, (.int .i64 x2))]) ⟨he 0, he 1, he 2, trivial⟩ (fun J => ?_)
 show At (gl R) _ _ _ _
 refine At.s K1 K2 ?_
 refine At.rg 0 [0, 1, 2] ?_
 refine Seq.u 8 (.int .i64 x1) ?_
 obtain ⟨hi, h⟩ := h
 refine Seq.z 9 (.binOp .add 3 (.tmp 8) (.const (.int .i64 1)) 3) 3 (.int .i64 (x1 + 1)) (Y.addI hi rfl rfl) ?_
 refine Seq.u 6 (.int .i64 (x1 + 1)) ?_
 refine Seq.done ?_
 refine At.L [(0, (.slice p0 n0 c0)), (1, (.int .i64 x1)), (2, (.int .i64 x2)), (6, (.int .i64 (x1 + 1)))] fun J => ?_
 refine At.b 0 K3 ?_
 refine At.loop (x := K4) (by kernel_rfl) ?_
 refine At.s K5 K10 ?_
 refine At.s K6 K7 ?_
 exact At.v [(0, (.slice p0 n0 c0)), (1, (.int .i64 x1)), (2, (.int .i64 x2)), (6, (.int .i64 (x1 + 1)))] (h _)
theorem pt6_of {R : Ending → Hp → Prop} {p0 : Option Addr} {n0 : Nat} {c0 : Nat} {x1 : Int} {x2 : Int} {x6 : Int} {σ : Hp} (h : ((x6 : Int) < x2 → pt18 R p0 n0 c0 x1 x2 x6 x6 σ) ∧ (¬ ((x6 : Int) < x2) → R (.returned (.tuple #[])) σ)) : pt6 R p0 n0 c0 x1 x2 x6 σ := by
 intro J
 show At (gl R) _ _ _ _
 refine At.rg 1 [0, 1, 2] ?_
 refine Seq.u 10 (.int .i64 x6) ?_
 refine Seq.u 11 (.int .i64 x2) ?_
 refine Seq.u 12 (.bool (decide ((x6 : Int) < x2))) ?_
 refine Seq.done ?_
 refine At.L [(0, (.slice p0 n0 c0)), (1, (.int .i64 x1)), (2, (.int .i64 x2)), (6, (.int .i64 x6)), (12, (.bool (decide ((x6 : Int) < x2))))] fun J => ?_
 cases hb : (decide ((x6 : Int) < x2)) with
 | true =>
  replace h := h.1 (of_decide_eq_true hb)
  refine At.cT 12 K8 K9 ?_
  refine At.skip ?_
  refine At.s K11 K26 ?_
  refine At.b 1 K12 ?_
  refine At.s K13 K14 ?_
  refine At.rg 3 [0, 1] ?_
  refine Seq.u 15 (.int .i64 x6) ?_
  refine Seq.u 7 (.int .i64 x6) ?_
  refine Seq.done ?_
  refine At.L [(0, (.slice p0 n0 c0)), (1, (.int .i64 x1)), (2, (.int .i64 x2)), (6, (.int .i64 x6)), (7, (.int .i64 x6))] fun J => ?_
  refine At.b 2 K15 ?_
  refine At.loop (x := K16) (by kernel_rfl) ?_
  refine At.s K17 K22 ?_
  refine At.s K18 K19 ?_
  exact At.v [(0, (.slice p0 n0 c0)), (1, (.int .i64 x1)), (2, (.int .i64 x2)), (6, (.int .i64 x6)), (7, (.int .i64 x6))] (h _)
 | false =>
  replace h := h.2 (of_decide_eq_false hb)
  refine At.cF 12 K8 K9 ?_
  refine At.x 0 [] ?_
  exact At.doneV (rs := []) (vs := []) func88 (by kernel_rfl) rfl h
theorem pt18_of {R : Ending → Hp → Prop} {p0 : Option Addr} {n0 : Nat} {c0 : Nat} {x1 : Int} {x2 : Int} {x6 : Int} {x7 : Int} {σ : Hp} (h : ((x1 : Int) < x7 → ∃ (b22 o22 : Nat), p0 = some ⟨b22, o22, none⟩ ∧ ((0 : Int) ≤ x7 ∧ x7 < (n0 : Int)) ∧ ∃ x23 : Int, Hp.ld σ ⟨b22, (o22 + Int.toNat x7 * 1), none⟩ = some (.int .u32 x23) ∧ I64 (x7 - 1) ∧ ((0 : Int) ≤ (x7 - 1) ∧ (x7 - 1) < (n0 : Int)) ∧ ∃ x28 : Int, Hp.ld σ ⟨b22, (o22 + Int.toNat (x7 - 1) * 1), none⟩ = some (.int .u32 x28) ∧ Spec prog 94 #[(.int .u32 x23), (.int .u32 x28)] σ (Cont R (fun v σ1 => ∃ t29 : Bool, v = (.bool t29) ∧ (t29 = true → I64 (x7 - 1) ∧ I64 (x7 - 1) ∧ ((0 : Int) ≤ (x7 - 1) ∧ (x7 - 1) < (n0 : Int)) ∧ ∃ x42 : Int, Hp.ld σ1 ⟨b22, (o22 + Int.toNat (x7 - 1) * 1), none⟩ = some (.int .u32 x42) ∧ ((0 : Int) ≤ x7 ∧ x7 < (n0 : Int)) ∧ ∃ x46 : Int, Hp.ld σ1 ⟨b22, (o22 + Int.toNat x7 * 1), none⟩ = some (.int .u32 x46) ∧ ((0 : Int) ≤ x7 ∧ x7 < (n0 : Int)) ∧ Eff prog (Instr.storeAt 26 (.pointer (some ⟨b22, (o22 + Int.toNat x7 * 1), none⟩)) (.int .u32 x42)) σ1 (fun _ σ1_2 => ((0 : Int) ≤ (x7 - 1) ∧ (x7 - 1) < (n0 : Int)) ∧ Eff prog (Instr.storeAt 26 (.pointer (some ⟨b22, (o22 + Int.toNat (x7 - 1) * 1), none⟩)) (.int .u32 x46)) σ1_2 (fun _ σ1_3 => I64 (x7 - 1) ∧ pt18 R ((some ⟨b22, o22, none⟩)) n0 c0 x1 x2 x6 ((x7 - 1)) σ1_3))) ∧ (t29 = false → I64 (x6 + 1) ∧ pt6 R ((some ⟨b22, o22, none⟩)) n0 c0 x1 x2 ((x6 + 1)) σ1)))) ∧ (¬ ((x1 : Int) < x7) → I64 (x6 + 1) ∧ pt6 R p0 n0 c0 x1 x2 ((x6 + 1)) σ)) : pt18 R p0 n0 c0 x1 x2 x6 x7 σ := by
 intro J
 show At (gl R) _ _ _ _
 refine At.draw (id := 4) (ops := cO K18) (n := 15) (q := (some [])) (plan := [(0, true), (1, true), (2, true), (3, true), (4, true), (5, true), (6, true), (7, true), (8, true), (9, true), (10, true), (11, true), (12, true), (13, false), (14, true)]) (tl := []) mixed (by kernel_rfl) (by kernel_rfl) ?_
 refine Head.u 16 (.int .i64 x7) ?_
 refine Head.u 17 (.int .i64 x1) ?_
 refine Head.u 18 (.bool (decide ((x1 : Int) < x7))) ?_
 refine Head.u 19 (.bool (decide ((x1 : Int) < x7))) ?_
 cases hb : (decide ((x1 : Int) < x7)) with
 | true =>
  replace h := h.1 (of_decide_eq_true hb)
  refine Head.u 20 (.slice p0 n0 c0) ?_
  refine Head.u 21 (.int .i64 x7) ?_
  obtain ⟨b22, o22, hq, h⟩ := h
  subst hq
  obtain ⟨hi, h⟩ := h
  refine Head.zg 22 (.indexAddr 53 (.tmp 20) (.tmp 21)) 0 (3, true) (.pointer (some ⟨b22, (o22 + Int.toNat x7 * 1), none⟩)) (Y.idx underlying53 sizeOf26 rfl rfl hi rfl) ?_
  obtain ⟨x23, hl, h⟩ := h
  refine Head.ygl b22 [[13]] rfl (by kernel_rfl) (d := (some 23)) (op := (.load 26 (.tmp 22))) (ty := 26) (gd := (some (3, true))) (v := (.int .u32 x23)) (by kernel_rfl) rfl rfl (Y.ld isAgg26 rfl (lim_ld hl)) ?_
  refine Head.u 24 (.slice (some ⟨b22, o22, none⟩) n0 c0) ?_
  refine Head.u 25 (.int .i64 x7) ?_
  obtain ⟨hi, h⟩ := h
  refine Head.zg 26 (.binOp .sub 3 (.tmp 25) (.const (.int .i64 1)) 3) 3 (3, true) (.int .i64 (x7 - 1)) (Y.subI hi rfl rfl) ?_
  obtain ⟨hi, h⟩ := h
  refine Head.zg 27 (.indexAddr 53 (.tmp 24) (.tmp 26)) 0 (3, true) (.pointer (some ⟨b22, (o22 + Int.toNat (x7 - 1) * 1), none⟩)) (Y.idx underlying53 sizeOf26 rfl rfl hi rfl) ?_
  obtain ⟨x28, hl, h⟩ := h
  refine Head.ygl b22 [[13]] rfl (by kernel_rfl) (d := (some 28)) (op := (.load 26 (.tmp 27))) (ty := 26) (gd := (some (3, true))) (v := (.int .u32 x28)) (by kernel_rfl) rfl rfl (Y.ld isAgg26 rfl (lim_ld hl)) ?_
  refine Head.o (q' := (some [])) rfl ?_
  refine OpTo.cl (some 29) call94 (h.cont fun v σ1 h2 => ?_); replace h := h2; clear h2
  obtain ⟨t29, rfl, h⟩ := h
  refine ⟨⟨fun _ h => h, kp_q (L := []) Kp.nil⟩, ?_⟩
  refine Head.u 30 (.bool t29) ?_
  refine Head.done ?_
  refine Seq.done ?_
  refine At.L [(0, (.slice (some ⟨b22, o22, none⟩) n0 c0)), (1, (.int .i64 x1)), (2, (.int .i64 x2)), (6, (.int .i64 x6)), (7, (.int .i64 x7)), (30, (.bool t29))] fun J => ?_
  cases hb : t29 with
  | true =>
   replace h := h.1 hb
   refine At.cT 30 K20 K21 ?_
   refine At.skip ?_
   refine At.s K23 K25 ?_
   refine At.b 3 K24 ?_
   refine At.draw (id := 6) (ops := cO K24) (n := 17) (q := (some [])) (plan := [(0, true), (1, true), (2, true), (3, true), (4, true), (5, true), (6, true), (7, true), (8, true), (9, true), (10, true), (11, true), (12, true), (13, true), (14, true), (15, false), (16, true)]) (tl := [17]) mixed (by kernel_rfl) (by kernel_rfl) ?_
   refine Head.u 33 (.slice (some ⟨b22, o22, none⟩) n0 c0) ?_
   refine Head.u 34 (.int .i64 x7) ?_
   refine Head.u 35 (.slice (some ⟨b22, o22, none⟩) n0 c0) ?_
   refine Head.u 36 (.int .i64 x7) ?_
   obtain ⟨hi, h⟩ := h
   refine Head.z 37 (.binOp .sub 3 (.tmp 36) (.const (.int .i64 1)) 3) 3 (.int .i64 (x7 - 1)) (Y.subI hi rfl rfl) ?_
   refine Head.u 38 (.slice (some ⟨b22, o22, none⟩) n0 c0) ?_
   refine Head.u 39 (.int .i64 x7) ?_
   obtain ⟨hi, h⟩ := h
   refine Head.z 40 (.binOp .sub 3 (.tmp 39) (.const (.int .i64 1)) 3) 3 (.int .i64 (x7 - 1)) (Y.subI hi rfl rfl) ?_
   obtain ⟨hi, h⟩ := h
   refine Head.z 41 (.indexAddr 53 (.tmp 38) (.tmp 40)) 0 (.pointer (some ⟨b22, (o22 + Int.toNat (x7 - 1) * 1), none⟩)) (Y.idx underlying53 sizeOf26 rfl rfl hi rfl) ?_
   obtain ⟨x42, hl, h⟩ := h
   refine Head.yl b22 [[15]] rfl (by kernel_rfl) (d := (some 42)) (op := (.load 26 (.tmp 41))) (ty := 26) (v := (.int .u32 x42)) (by kernel_rfl) rfl (Y.ld isAgg26 rfl (lim_ld hl)) ?_
   refine Head.u 43 (.slice (some ⟨b22, o22, none⟩) n0 c0) ?_
   refine Head.u 44 (.int .i64 x7) ?_
   obtain ⟨hi, h⟩ := h
   refine Head.z 45 (.indexAddr 53 (.tmp 43) (.tmp 44)) 0 (.pointer (some ⟨b22, (o22 + Int.toNat x7 * 1), none⟩)) (Y.idx underlying53 sizeOf26 rfl rfl hi rfl) ?_
   obtain ⟨x46, hl, h⟩ := h
   refine Head.yl b22 [[15]] rfl (by kernel_rfl) (d := (some 46)) (op := (.load 26 (.tmp 45))) (ty := 26) (v := (.int .u32 x46)) (by kernel_rfl) rfl (Y.ld isAgg26 rfl (lim_ld hl)) ?_
   obtain ⟨hi, h⟩ := h
   refine Head.z 47 (.indexAddr 53 (.tmp 33) (.tmp 34)) 0 (.pointer (some ⟨b22, (o22 + Int.toNat x7 * 1), none⟩)) (Y.idx underlying53 sizeOf26 rfl rfl hi rfl) ?_
   refine Head.o (q' := (some [])) rfl ?_
   refine OpTo.store (T := 26) (ty := 0) (x := (.tmp 47)) (y := (.tmp 42)) (p := (.pointer (some ⟨b22, (o22 + Int.toNat x7 * 1), none⟩))) (v := (.int .u32 x42)) (gd := none) (by kernel_rfl) rfl rfl rfl (h.mono (fun _ σ1_2 h2 => ?_)); replace h := h2; clear h2
   refine ⟨⟨fun _ h => h, kp_q (L := []) Kp.nil⟩, ?_⟩
   obtain ⟨hi, h⟩ := h
   refine Head.z 48 (.indexAddr 53 (.tmp 35) (.tmp 37)) 0 (.pointer (some ⟨b22, (o22 + Int.toNat (x7 - 1) * 1), none⟩)) (Y.idx underlying53 sizeOf26 rfl rfl hi rfl) ?_
   refine Head.done ?_
   refine Seq.o ?_
   refine OpTo.store (T := 26) (ty := 0) (x := (.tmp 48)) (y := (.tmp 46)) (p := (.pointer (some ⟨b22, (o22 + Int.toNat (x7 - 1) * 1), none⟩))) (v := (.int .u32 x46)) (gd := none) (by kernel_rfl) rfl rfl rfl (h.mono (fun _ σ1_3 h2 => ?_)); replace h := h2; clear h2
   refine Seq.done ?_
   refine At.L [(0, (.slice (some ⟨b22, o22, none⟩) n0 c0)), (1, (.int .i64 x1)), (2, (.int .i64 x2)), (6, (.int .i64 x6)), (7, (.int .i64 x7))] fun J => ?_
   refine At.inBlock ?_
   refine At.rg 5 [0, 1, 2] ?_
   refine Seq.u 31 (.int .i64 x7) ?_
   obtain ⟨hi, h⟩ := h
   refine Seq.z 32 (.binOp .sub 3 (.tmp 31) (.const (.int .i64 1)) 3) 3 (.int .i64 (x7 - 1)) (Y.subI hi rfl rfl) ?_
   refine Seq.u 7 (.int .i64 (x7 - 1)) ?_
   refine Seq.done ?_
   refine At.L [(0, (.slice (some ⟨b22, o22, none⟩) n0 c0)), (1, (.int .i64 x1)), (2, (.int .i64 x2)), (6, (.int .i64 x6)), (7, (.int .i64 (x7 - 1)))] fun J => ?_
   refine At.inLoop ?_
   refine At.s K17 K22 ?_
   refine At.s K18 K19 ?_
   exact At.v [(0, (.slice (some ⟨b22, o22, none⟩) n0 c0)), (1, (.int .i64 x1)), (2, (.int .i64 x2)), (6, (.int .i64 x6)), (7, (.int .i64 (x7 - 1)))] (h _)
  | false =>
   replace h := h.2 hb
   refine At.cF 30 K20 K21 ?_
   refine At.x 2 [.inBlock 1, .code K26, .inLoop K4, .inBlock 0] ?_
   refine At.inBlock ?_
   refine At.rg 2 [0, 1, 2] ?_
   refine Seq.u 13 (.int .i64 x6) ?_
   obtain ⟨hi, h⟩ := h
   refine Seq.z 14 (.binOp .add 3 (.tmp 13) (.const (.int .i64 1)) 3) 3 (.int .i64 (x6 + 1)) (Y.addI hi rfl rfl) ?_
   refine Seq.u 6 (.int .i64 (x6 + 1)) ?_
   refine Seq.done ?_
   refine At.L [(0, (.slice (some ⟨b22, o22, none⟩) n0 c0)), (1, (.int .i64 x1)), (2, (.int .i64 x2)), (6, (.int .i64 (x6 + 1)))] fun J => ?_
   refine At.inLoop ?_
   refine At.s K5 K10 ?_
   refine At.s K6 K7 ?_
   exact At.v [(0, (.slice (some ⟨b22, o22, none⟩) n0 c0)), (1, (.int .i64 x1)), (2, (.int .i64 x2)), (6, (.int .i64 (x6 + 1)))] (h _)
 | false =>
  replace h := h.2 (of_decide_eq_false hb)
  refine Head.n 20 ?_
  refine Head.n 21 ?_
  refine Head.n 22 ?_
  refine Head.n 23 ?_
  refine Head.n 24 ?_
  refine Head.n 25 ?_
  refine Head.n 26 ?_
  refine Head.n 27 ?_
  refine Head.n 28 ?_
  refine Head.o rfl ?_
  refine OpTo.no (d := (some 29)) (op := (.call { callee := .value (.func 94), args := #[(.tmp 23), (.tmp 28)], argTypes := #[26, 26] })) (ty := 4) (gd := some (3, true)) (by kernel_rfl) rfl rfl ?_
  refine ⟨KeepQ.refl _ _ _, ?_⟩
  refine Head.u 30 (.bool false) ?_
  refine Head.done ?_
  refine Seq.done ?_
  refine At.L [(0, (.slice p0 n0 c0)), (1, (.int .i64 x1)), (2, (.int .i64 x2)), (6, (.int .i64 x6)), (7, (.int .i64 x7)), (30, (.bool false))] fun J => ?_
  refine At.cF 30 K20 K21 ?_
  refine At.x 2 [.inBlock 1, .code K26, .inLoop K4, .inBlock 0] ?_
  refine At.inBlock ?_
  refine At.rg 2 [0, 1, 2] ?_
  refine Seq.u 13 (.int .i64 x6) ?_
  obtain ⟨hi, h⟩ := h
  refine Seq.z 14 (.binOp .add 3 (.tmp 13) (.const (.int .i64 1)) 3) 3 (.int .i64 (x6 + 1)) (Y.addI hi rfl rfl) ?_
  refine Seq.u 6 (.int .i64 (x6 + 1)) ?_
  refine Seq.done ?_
  refine At.L [(0, (.slice p0 n0 c0)), (1, (.int .i64 x1)), (2, (.int .i64 x2)), (6, (.int .i64 (x6 + 1)))] fun J => ?_
  refine At.inLoop ?_
  refine At.s K5 K10 ?_
  refine At.s K6 K7 ?_
  exact At.v [(0, (.slice p0 n0 c0)), (1, (.int .i64 x1)), (2, (.int .i64 x2)), (6, (.int .i64 (x6 + 1)))] (h _)
end slices_insertionSortOrdered_uint32
end TwR
end
section
/- written by gen.py: program points and what leads to them -/
set_option linter.unusedVariables false
set_option maxRecDepth 100000
namespace TwR
open Go Tw Go.Proofs.Try
namespace slices_pdqsortOrdered_uint32
abbrev fid : Nat := 75
noncomputable def K0 : Code := f75.body.getD .skip
noncomputable def K1 := Tw.cl K0
noncomputable def K2 := Tw.cr K0
noncomputable def K3 := Tw.cl K2
noncomputable def K4 := Tw.cr K2
noncomputable def K5 := Tw.cl K4
noncomputable def K6 := Tw.cl K5
noncomputable def K7 := Tw.cl K6
noncomputable def K8 := Tw.cl K7
noncomputable def K9 := Tw.cr K7
noncomputable def K10 := Tw.cl K9
noncomputable def K11 := Tw.cl K10
noncomputable def K12 := Tw.cr K10
noncomputable def K13 := Tw.cl K12
noncomputable def K14 := Tw.cl K13
noncomputable def K15 := Tw.cr K13
noncomputable def K16 := Tw.cr K12
noncomputable def K17 := Tw.cr K9
noncomputable def K18 := Tw.cl K17
noncomputable def K19 := Tw.cl K18
noncomputable def K20 := Tw.cr K18
noncomputable def K21 := Tw.cl K20
noncomputable def K22 := Tw.cl K21
noncomputable def K23 := Tw.cr K21
noncomputable def K24 := Tw.cr K20
noncomputable def K25 := Tw.cr K17
noncomputable def K26 := Tw.cl K25
noncomputable def K27 := Tw.cl K26
noncomputable def K28 := Tw.cr K26
noncomputable def K29 := Tw.cl K28
noncomputable def K30 := Tw.cl K29
noncomputable def K31 := Tw.cr K29
noncomputable def K32 := Tw.cr K28
noncomputable def K33 := Tw.cr K25
noncomputable def K34 := Tw.cl K33
noncomputable def K35 := Tw.cr K33
noncomputable def K36 := Tw.cl K35
noncomputable def K37 := Tw.cl K36
noncomputable def K38 := Tw.cr K36
noncomputable def K39 := Tw.cl K38
noncomputable def K40 := Tw.cl K39
noncomputable def K41 := Tw.cr K39
noncomputable def K42 := Tw.cl K41
noncomputable def K43 := Tw.cr K41
noncomputable def K44 := Tw.cr K38
noncomputable def K45 := Tw.cr K35
noncomputable def K46 := Tw.cl K45
noncomputable def K47 := Tw.cl K46
noncomputable def K48 := Tw.cr K46
noncomputable def K49 := Tw.cl K48
noncomputable def K50 := Tw.cl K49
noncomputable def K51 := Tw.cr K49
noncomputable def K52 := Tw.cl K51
noncomputable def K53 := Tw.cr K51
noncomputable def K54 := Tw.cr K48
noncomputable def K55 := Tw.cr K45
noncomputable def K56 := Tw.cl K55
noncomputable def K57 := Tw.cl K56
noncomputable def K58 := Tw.cr K56
noncomputable def K59 := Tw.cl K58
noncomputable def K60 := Tw.cl K59
noncomputable def K61 := Tw.cr K59
noncomputable def K62 := Tw.cl K61
noncomputable def K63 := Tw.cr K61
noncomputable def K64 := Tw.cr K58
noncomputable def K65 := Tw.cr K55
noncomputable def K66 := Tw.cl K65
noncomputable def K67 := Tw.cr K65
noncomputable def K68 := Tw.cl K67
noncomputable def K69 := Tw.cr K67
noncomputable def K70 := Tw.cl K69
noncomputable def K71 := Tw.cr K69
noncomputable def K72 := Tw.cl K71
noncomputable def K73 := Tw.cr K71
noncomputable def K74 := Tw.cl K73
noncomputable def K75 := Tw.cr K73
noncomputable def K76 := Tw.cl K75
noncomputable def K77 := Tw.cl K76
noncomputable def K78 := Tw.cr K76
noncomputable def K79 := Tw.cl K78
noncomputable def K80 := Tw.cr K78
noncomputable def K81 := Tw.cr K75
noncomputable def K82 := Tw.cl K81
noncomputable def K83 := Tw.cr K81
noncomputable def K84 := Tw.cl K83
noncomputable def K85 := Tw.cr K83
noncomputable abbrev gl (R : Ending → Hp → Prop) : Gl := Gl.fn prog 75 134 R
def pt8 (R : Ending → Hp → Prop) (p0 : Option Addr) (n0 : Nat) (c0 : Nat) (x1 : Int) (x2 : Int) (x3 : Int) (t8 : Bool) (t9 : Bool) (σ : Hp) : Prop := ∀ (J : Env), At (gl R) [.code K8, .code K9, .inBlock 1, .inLoop K6, .inBlock 0] (upds J [(0, (.slice p0 n0 c0)), (1, (.int .i64 x1)), (2, (.int .i64 x2)), (3, (.int .i64 x3)), (8, (.bool t8)), (9, (.bool t9))]) [] σ
def pt34 (R : Ending → Hp → Prop) (p0 : Option Addr) (n0 : Nat) (c0 : Nat) (x1 : Int) (x2 : Int) (x3 : Int) (t8 : Bool) (t9 : Bool) (x10 : Int) (σ : Hp) : Prop := ∀ (J : Env), At (gl R) [.code K34, .code K35, .inBlock 1, .inLoop K6, .inBlock 0] (upds J [(0, (.slice p0 n0 c0)), (1, (.int .i64 x1)), (2, (.int .i64 x2)), (3, (.int .i64 x3)), (8, (.bool t8)), (9, (.bool t9)), (10, (.int .i64 x10))]) [] σ
def pt47 (R : Ending → Hp → Prop) (p0 : Option Addr) (n0 : Nat) (c0 : Nat) (x1 : Int) (x2 : Int) (x3 : Int) (t8 : Bool) (t9 : Bool) (x10 : Int) (x11 : Int) (x12 : Int) (σ : Hp) : Prop := ∀ (J : Env), At (gl R) [.code K47, .code K48, .code K55, .inBlock 1, .inLoop K6, .inBlock 0] (upds J [(0, (.slice p0 n0 c0)), (1, (.int .i64 x1)), (2, (.int .i64 x2)), (3, (.int .i64 x3)), (8, (.bool t8)), (9, (.bool t9)), (10, (.int .i64 x10)), (11, (.int .i64 x11)), (12, (.int .i64 x12))]) [] σ
def pt57 (R : Ending → Hp → Prop) (p0 : Option Addr) (n0 : Nat) (c0 : Nat) (x1 : Int) (x2 : Int) (x3 : Int) (t8 : Bool) (t9 : Bool) (x10 : Int) (x11 : Int) (σ : Hp) : Prop := ∀ (J : Env), At (gl R) [.code K57, .code K58, .code K65, .inBlock 1, .inLoop K6, .inBlock 0] (upds J [(0, (.slice p0 n0 c0)), (1, (.int .i64 x1)), (2, (.int .i64 x2)), (3, (.int .i64 x3)), (8, (.bool t8)), (9, (.bool t9)), (10, (.int .i64 x10)), (11, (.int .i64 x11))]) [] σ
theorem start {R : Ending → Hp → Prop} {p0 : Option Addr} {n0 : Nat} {c0 : Nat} {x1 : Int} {x2 : Int} {x3 : Int} {σ : Hp} (h : pt8 R p0 n0 c0 x1 x2 x3 true true σ) : Spec prog 75 #[(.slice p0 n0 c0), (.int .i64 x1), (.int .i64 x2), (.int .i64 x3)] σ R := by
 refine Spec.of_at (fn := f75) (c := K0) func75 (by kernel_rfl) (Nat.le_of_ble_eq_true (by kernel_rfl)) (fun e he => ?_)
 refine At.ofL (l := [(0, (.slice p0 n0 c0)), (1, (.int .i64 x1)), (2, (.int .i64 x2)), (3, (.int .i64 x3))]) ⟨he 0, he 1, he 2, he 3, trivial⟩ (fun J => ?_)
 show At (gl R) _ _ _ _
 refine At.s K1 K2 ?_
 refine At.rg 0 [0] ?_
 refine Seq.u 8 (.bool true) ?_
 refine Seq.done ?_
 refine At.L [(0, (.slice p0 n0 c0)), (1, (.int .i64 x1)), (2, (.int .i64 x2)), (3, (.int .i64 x3)), (8, (.bool true))] fun J => ?_
 refine At.s K3 K4 ?_
 refine At.rg 1 [0] ?_
 refine Seq.u 9 (.bool true) ?_
 refine Seq.done ?_
 refine At.L [(0, (.slice p0 n0 c0)), (1, (.int .i64 x1)), (2, (.int .i64 x2)), (3, (.int .i64 x3)), (8, (.bool true)), (9, (.bool true))] fun J => ?_
 refine At.b 0 K5 ?_
 refine At.loop (x := K6) (by kernel_rfl) ?_
 refine At.b 1 K7 ?_
 refine At.s K8 K9 ?_
 exact At.v [(0, (.slice p0 n0 c0)), (1, (.int .i64 x1)), (2, (.int .i64 x2)), (3, (.int .i64 x3)), (8, (.bool true)), (9, (.bool true))] (h _)
theorem pt8_of {R : Ending → Hp → Prop} {p0 : Option Addr} {n0 : Nat} {c0 : Nat} {x1 : Int} {x2 : Int} {x3 : Int} {t8 : Bool} {t9 : Bool} {σ : Hp} (h : I64 (x2 - x1) ∧ (((x2 - x1) : Int) ≤ 12 → Spec prog 88 #[(.slice p0 n0 c0), (.int .i64 x1), (.int .i64 x2)] σ (Cont R (fun v σ1 => v = (.tuple #[]) ∧ R (.returned (.tuple #[])) σ1))) ∧ (¬ (((x2 - x1) : Int) ≤ 12) → ((x3 : Int) = 0 → Spec prog 89 #[(.slice p0 n0 c0), (.int .i64 x1), (.int .i64 x2)] σ (Cont R (fun v σ1 => v = (.tuple #[]) ∧ R (.returned (.tuple #[])) σ1))) ∧ (¬ ((x3 : Int) = 0) → (t8 = false → Spec prog 90 #[(.slice p0 n0 c0), (.int .i64 x1), (.int .i64 x2)] σ (Cont R (fun v σ1 => v = (.tuple #[]) ∧ I64 (x3 - 1) ∧ pt34 R p0 n0 c0 x1 x2 ((x3 - 1)) t8 t9 ((x2 - x1)) σ1))) ∧ (t8 = true → pt34 R p0 n0 c0 x1 x2 x3 t8 t9 ((x2 - x1)) σ)))) : pt8 R p0 n0 c0 x1 x2 x3 t8 t9 σ := by
 intro J
 show At (gl R) _ _ _ _
 refine At.rg 2 [0, 1, 2, 3] ?_
 refine Seq.u 19 (.int .i64 x2) ?_
 refine Seq.u 20 (.int .i64 x1) ?_
 obtain ⟨hi, h⟩ := h
 refine Seq.z 21 (.binOp .sub 3 (.tmp 19) (.tmp 20) 3) 3 (.int .i64 (x2 - x1)) (Y.subI hi rfl rfl) ?_
 refine Seq.u 10 (.int .i64 (x2 - x1)) ?_
 refine Seq.done ?_
 refine At.L [(0, (.slice p0 n0 c0)), (1, (.int .i64 x1)), (2, (.int .i64 x2)), (3, (.int .i64 x3)), (8, (.bool t8)), (9, (.bool t9)), (10, (.int .i64 (x2 - x1)))] fun J => ?_
 refine At.s K10 K17 ?_
 refine At.s K11 K12 ?_
 refine At.rg 3 [0, 1] ?_
 refine Seq.u 22 (.int .i64 (x2 - x1)) ?_
 refine Seq.u 23 (.bool (decide (((x2 - x1) : Int) ≤ 12))) ?_
 refine Seq.done ?_
 refine At.L [(0, (.slice p0 n0 c0)), (1, (.int .i64 x1)), (2, (.int .i64 x2)), (3, (.int .i64 x3)), (8, (.bool t8)), (9, (.bool t9)), (10, (.int .i64 (x2 - x1))), (23, (.bool (decide (((x2 - x1) : Int) ≤ 12))))] fun J => ?_
 cases hb : (decide (((x2 - x1) : Int) ≤ 12)) with
 | true =>
  replace h := h.1 (of_decide_eq_true hb)
  refine At.cT 23 K13 K16 ?_
  refine At.s K14 K15 ?_
  refine At.rg 4 [0, 1, 2, 3] ?_
  refine Seq.u 24 (.slice p0 n0 c0) ?_
  refine Seq.u 25 (.int .i64 x1) ?_
  refine Seq.u 26 (.int .i64 x2) ?_
  refine Seq.o ?_
  refine OpTo.cl (some 27) call88 (h.cont fun v σ1 h2 => ?_); replace h := h2; clear h2
  obtain ⟨rfl, h⟩ := h
  refine Seq.done ?_
  refine At.L [] fun J => ?_
  exact At.rt [] [] func75 rfl h
 | false =>
  replace h := h.2 (of_decide_eq_false hb)
  refine At.cF 23 K13 K16 ?_
  refine At.skip ?_
  refine At.s K18 K25 ?_
  refine At.s K19 K20 ?_
  refine At.rg 5 [0, 1] ?_
  refine Seq.u 28 (.int .i64 x3) ?_
  refine Seq.u 29 (.bool (decide ((x3 : Int) = 0))) ?_
  refine Seq.done ?_
  refine At.L [(0, (.slice p0 n0 c0)), (1, (.int .i64 x1)), (2, (.int .i64 x2)), (3, (.int .i64 x3)), (8, (.bool t8)), (9, (.bool t9)), (10, (.int .i64 (x2 - x1))), (29, (.bool (decide ((x3 : Int) = 0))))] fun J => ?_
  cases hb : (decide ((x3 : Int) = 0)) with
  | true =>
   replace h := h.1 (of_decide_eq_true hb)
   refine At.cT 29 K21 K24 ?_
   refine At.s K22 K23 ?_
   refine At.rg 6 [0, 1, 2, 3] ?_
   refine Seq.u 30 (.slice p0 n0 c0) ?_
   refine Seq.u 31 (.int .i64 x1) ?_
   refine Seq.u 32 (.int .i64 x2) ?_
   refine Seq.o ?_
   refine OpTo.cl (some 33) call89 (h.cont fun v σ1 h2 => ?_); replace h := h2; clear h2
   obtain ⟨rfl, h⟩ := h
   refine Seq.done ?_
   refine At.L [] fun J => ?_
   exact At.rt [] [] func75 rfl h
  | false =>
   replace h := h.2 (of_decide_eq_false hb)
   refine At.cF 29 K21 K24 ?_
   refine At.skip ?_
   refine At.s K26 K33 ?_
   refine At.s K27 K28 ?_
   refine At.rg 7 [0, 1] ?_
   refine Seq.u 34 (.bool t8) ?_
   refine Seq.u 35 (.bool (!t8)) ?_
   refine Seq.done ?_
   refine At.L [(0, (.slice p0 n0 c0)), (1, (.int .i64 x1)), (2, (.int .i64 x2)), (3, (.int .i64 x3)), (8, (.bool t8)), (9, (.bool t9)), (10, (.int .i64 (x2 - x1))), (35, (.bool (!t8)))] fun J => ?_
   cases hb : (!t8) with
   | true =>
    replace h := h.1 (Tw.nt hb)
    refine At.cT 35 K29 K32 ?_
    refine At.s K30 K31 ?_
    refine At.rg 8 [0, 1, 2, 3] ?_
    refine Seq.u 36 (.slice p0 n0 c0) ?_
    refine Seq.u 37 (.int .i64 x1) ?_
    refine Seq.u 38 (.int .i64 x2) ?_
    refine Seq.o ?_
    refine OpTo.cl (some 39) call90 (h.cont fun v σ1 h2 => ?_); replace h := h2; clear h2
    obtain ⟨rfl, h⟩ := h
    refine Seq.done ?_
    refine At.L [(0, (.slice p0 n0 c0)), (1, (.int .i64 x1)), (2, (.int .i64 x2)), (3, (.int .i64 x3)), (8, (.bool t8)), (9, (.bool t9)), (10, (.int .i64 (x2 - x1)))] fun J => ?_
    refine At.rg 9 [0, 1, 2] ?_
    refine Seq.u 40 (.int .i64 x3) ?_
    obtain ⟨hi, h⟩ := h
    refine Seq.z 41 (.binOp .sub 3 (.tmp 40) (.const (.int .i64 1)) 3) 3 (.int .i64 (x3 - 1)) (Y.subI hi rfl rfl) ?_
    refine Seq.u 3 (.int .i64 (x3 - 1)) ?_
    refine Seq.done ?_
    refine At.L [(0, (.slice p0 n0 c0)), (1, (.int .i64 x1)), (2, (.int .i64 x2)), (3, (.int .i64 (x3 - 1))), (8, (.bool t8)), (9, (.bool t9)), (10, (.int .i64 (x2 - x1)))] fun J => ?_
    refine At.s K34 K35 ?_
    exact At.v [(0, (.slice p0 n0 c0)), (1, (.int .i64 x1)), (2, (.int .i64 x2)), (3, (.int .i64 (x3 - 1))), (8, (.bool t8)), (9, (.bool t9)), (10, (.int .i64 (x2 - x1)))] (h _)
   | false =>
    replace h := h.2 (Tw.nf hb)
    refine At.cF 35 K29 K32 ?_
    refine At.skip ?_
    refine At.s K34 K35 ?_
    exact At.v [(0, (.slice p0 n0 c0)), (1, (.int .i64 x1)), (2, (.int .i64 x2)), (3, (.int .i64 x3)), (8, (.bool t8)), (9, (.bool t9)), (10, (.int .i64 (x2 - x1)))] (h _)
theorem pt34_of {R : Ending → Hp → Prop} {p0 : Option Addr} {n0 : Nat} {c0 : Nat} {x1 : Int} {x2 : Int} {x3 : Int} {t8 : Bool} {t9 : Bool} {x10 : Int} {σ : Hp} (h : Spec prog 91 #[(.slice p0 n0 c0), (.int .i64 x1), (.int .i64 x2)] σ (Cont R (fun v σ1 => ∃ x46a : Int, ∃ x46b : Int, v = (.tuple #[(.int .i64 x46a), (.int .i64 x46b)]) ∧ ((x46b : Int) = 2 → Spec prog 92 #[(.slice p0 n0 c0), (.int .i64 x1), (.int .i64 x2)] σ1 (Cont R (fun v_2 σ1_2 => v_2 = (.tuple #[]) ∧ I64 (x2 - 1) ∧ I64 (x46a - x1) ∧ I64 ((x2 - 1) - (x46a - x1)) ∧ pt47 R p0 n0 c0 x1 x2 x3 t8 t9 x10 (((x2 - 1) - (x46a - x1))) 1 σ1_2))) ∧ (¬ ((x46b : Int) = 2) → pt47 R p0 n0 c0 x1 x2 x3 t8 t9 x10 x46a x46b σ1)))) : pt34 R p0 n0 c0 x1 x2 x3 t8 t9 x10 σ := by
 intro J
 show At (gl R) _ _ _ _
 refine At.rg 10 [0, 1, 2, 3, 4, 5, 6, 7, 8] ?_
 refine Seq.u 43 (.slice p0 n0 c0) ?_
 refine Seq.u 44 (.int .i64 x1) ?_
 refine Seq.u 45 (.int .i64 x2) ?_
 refine Seq.o ?_
 refine OpTo.cl (some 46) call91 (h.cont fun v σ1 h2 => ?_); replace h := h2; clear h2
 obtain ⟨x46a, x46b, rfl, h⟩ := h
 refine Seq.u 42 (.tuple #[(.int .i64 x46a), (.int .i64 x46b)]) ?_
 refine Seq.u 47 (.int .i64 x46a) ?_
 refine Seq.u 48 (.int .i64 x46b) ?_
 refine Seq.u 11 (.int .i64 x46a) ?_
 refine Seq.u 12 (.int .i64 x46b) ?_
 refine Seq.done ?_
 refine At.L [(0, (.slice p0 n0 c0)), (1, (.int .i64 x1)), (2, (.int .i64 x2)), (3, (.int .i64 x3)), (8, (.bool t8)), (9, (.bool t9)), (10, (.int .i64 x10)), (11, (.int .i64 x46a)), (12, (.int .i64 x46b))] fun J => ?_
 refine At.s K36 K45 ?_
 refine At.s K37 K38 ?_
 refine At.rg 11 [0, 1] ?_
 refine Seq.u 49 (.int .i64 x46b) ?_
 refine Seq.u 50 (.bool (decide ((x46b : Int) = 2))) ?_
 refine Seq.done ?_
 refine At.L [(0, (.slice p0 n0 c0)), (1, (.int .i64 x1)), (2, (.int .i64 x2)), (3, (.int .i64 x3)), (8, (.bool t8)), (9, (.bool t9)), (10, (.int .i64 x10)), (11, (.int .i64 x46a)), (12, (.int .i64 x46b)), (50, (.bool (decide ((x46b : Int) = 2))))] fun J => ?_
 cases hb : (decide ((x46b : Int) = 2)) with
 | true =>
  replace h := h.1 (of_decide_eq_true hb)
  refine At.cT 50 K39 K44 ?_
  refine At.s K40 K41 ?_
  refine At.rg 12 [0, 1, 2, 3] ?_
  refine Seq.u 51 (.slice p0 n0 c0) ?_
  refine Seq.u 52 (.int .i64 x1) ?_
  refine Seq.u 53 (.int .i64 x2) ?_
  refine Seq.o ?_
  refine OpTo.cl (some 54) call92 (h.cont fun v_2 σ1_2 h2 => ?_); replace h := h2; clear h2
  obtain ⟨rfl, h⟩ := h
  refine Seq.done ?_
  refine At.L [(0, (.slice p0 n0 c0)), (1, (.int .i64 x1)), (2, (.int .i64 x2)), (3, (.int .i64 x3)), (8, (.bool t8)), (9, (.bool t9)), (10, (.int .i64 x10)), (11, (.int .i64 x46a))] fun J => ?_
  refine At.s K42 K43 ?_
  refine At.rg 13 [0, 1, 2, 3, 4, 5, 6] ?_
  refine Seq.u 55 (.int .i64 x2) ?_
  obtain ⟨hi, h⟩ := h
  refine Seq.z 56 (.binOp .sub 3 (.tmp 55) (.const (.int .i64 1)) 3) 3 (.int .i64 (x2 - 1)) (Y.subI hi rfl rfl) ?_
  refine Seq.u 57 (.int .i64 x46a) ?_
  refine Seq.u 58 (.int .i64 x1) ?_
  obtain ⟨hi, h⟩ := h
  refine Seq.z 59 (.binOp .sub 3 (.tmp 57) (.tmp 58) 3) 3 (.int .i64 (x46a - x1)) (Y.subI hi rfl rfl) ?_
  obtain ⟨hi, h⟩ := h
  refine Seq.z 60 (.binOp .sub 3 (.tmp 56) (.tmp 59) 3) 3 (.int .i64 ((x2 - 1) - (x46a - x1))) (Y.subI hi rfl rfl) ?_
  refine Seq.u 11 (.int .i64 ((x2 - 1) - (x46a - x1))) ?_
  refine Seq.done ?_
  refine At.L [(0, (.slice p0 n0 c0)), (1, (.int .i64 x1)), (2, (.int .i64 x2)), (3, (.int .i64 x3)), (8, (.bool t8)), (9, (.bool t9)), (10, (.int .i64 x10)), (11, (.int .i64 ((x2 - 1) - (x46a - x1))))] fun J => ?_
  refine At.rg 14 [0] ?_
  refine Seq.u 12 (.int .i64 1) ?_
  refine Seq.done ?_
  refine At.L [(0, (.slice p0 n0 c0)), (1, (.int .i64 x1)), (2, (.int .i64 x2)), (3, (.int .i64 x3)), (8, (.bool t8)), (9, (.bool t9)), (10, (.int .i64 x10)), (11, (.int .i64 ((x2 - 1) - (x46a - x1)))), (12, (.int .i64 1))] fun J => ?_
  refine At.s K46 K55 ?_
  refine At.s K47 K48 ?_
  exact At.v [(0, (.slice p0 n0 c0)), (1, (.int .i64 x1)), (2, (.int .i64 x2)), (3, (.int .i64 x3)), (8, (.bool t8)), (9, (.bool t9)), (10, (.int .i64 x10)), (11, (.int .i64 ((x2 - 1) - (x46a - x1)))), (12, (.int .i64 1))] (h _)
 | false =>
  replace h := h.2 (of_decide_eq_false hb)
  refine At.cF 50 K39 K44 ?_
  refine At.skip ?_
  refine At.s K46 K55 ?_
  refine At.s K47 K48 ?_
  exact At.v [(0, (.slice p0 n0 c0)), (1, (.int .i64 x1)), (2, (.int .i64 x2)), (3, (.int .i64 x3)), (8, (.bool t8)), (9, (.bool t9)), (10, (.int .i64 x10)), (11, (.int .i64 x46a)), (12, (.int .i64 x46b))] (h _)
theorem pt47_of {R : Ending → Hp → Prop} {p0 : Option Addr} {n0 : Nat} {c0 : Nat} {x1 : Int} {x2 : Int} {x3 : Int} {t8 : Bool} {t9 : Bool} {x10 : Int} {x11 : Int} {x12 : Int} {σ : Hp} (h : (t8 = true → (t9 = true → ((x12 : Int) = 1 → Spec prog 93 #[(.slice p0 n0 c0), (.int .i64 x1), (.int .i64 x2)] σ (Cont R (fun v σ1 => ∃ t72 : Bool, v = (.bool t72) ∧ (t72 = true → R (.returned (.tuple #[])) σ1) ∧ (t72 = false → pt57 R p0 n0 c0 x1 x2 x3 true true x10 x11 σ1)))) ∧ (¬ ((x12 : Int) = 1) → pt57 R p0 n0 c0 x1 x2 x3 true true x10 x11 σ)) ∧ (t9 = false → pt57 R p0 n0 c0 x1 x2 x3 true false x10 x11 σ)) ∧ (t8 = false → pt57 R p0 n0 c0 x1 x2 x3 false t9 x10 x11 σ)) : pt47 R p0 n0 c0 x1 x2 x3 t8 t9 x10 x11 x12 σ := by
 intro J
 show At (gl R) _ _ _ _
 refine At.rg 15 [0, 1, 2, 3, 4, 5, 6, 7] ?_
 refine Seq.u 61 (.bool t8) ?_
 refine Seq.u 62 (.bool t8) ?_
 cases hb : t8 with
 | true =>
  replace h := h.1 hb
  refine Seq.u 63 (.bool t9) ?_
  refine Seq.u 64 (.bool t9) ?_
  refine Seq.u 65 (.bool t9) ?_
  cases hb : t9 with
  | true =>
   replace h := h.1 hb
   refine Seq.u 66 (.int .i64 x12) ?_
   refine Seq.u 67 (.bool (decide ((x12 : Int) = 1))) ?_
   refine Seq.u 68 (.bool (decide ((x12 : Int) = 1))) ?_
   refine Seq.done ?_
   refine At.L [(0, (.slice p0 n0 c0)), (1, (.int .i64 x1)), (2, (.int .i64 x2)), (3, (.int .i64 x3)), (8, (.bool true)), (9, (.bool true)), (10, (.int .i64 x10)), (11, (.int .i64 x11)), (68, (.bool (decide ((x12 : Int) = 1))))] fun J => ?_
   cases hb : (decide ((x12 : Int) = 1)) with
   | true =>
    replace h := h.1 (of_decide_eq_true hb)
    refine At.cT 68 K49 K54 ?_
    refine At.s K50 K51 ?_
    refine At.rg 16 [0, 1, 2, 3] ?_
    refine Seq.u 69 (.slice p0 n0 c0) ?_
    refine Seq.u 70 (.int .i64 x1) ?_
    refine Seq.u 71 (.int .i64 x2) ?_
    refine Seq.o ?_
    refine OpTo.cl (some 72) call93 (h.cont fun v σ1 h2 => ?_); replace h := h2; clear h2
    obtain ⟨t72, rfl, h⟩ := h
    refine Seq.done ?_
    refine At.L [(0, (.slice p0 n0 c0)), (1, (.int .i64 x1)), (2, (.int .i64 x2)), (3, (.int .i64 x3)), (8, (.bool true)), (9, (.bool true)), (10, (.int .i64 x10)), (11, (.int .i64 x11)), (72, (.bool t72))] fun J => ?_
    cases hb : t72 with
    | true =>
     replace h := h.1 hb
     refine At.cT 72 K52 K53 ?_
     exact At.rt [] [] func75 rfl h
    | false =>
     replace h := h.2 hb
     refine At.cF 72 K52 K53 ?_
     refine At.skip ?_
     refine At.s K56 K65 ?_
     refine At.s K57 K58 ?_
     exact At.v [(0, (.slice p0 n0 c0)), (1, (.int .i64 x1)), (2, (.int .i64 x2)), (3, (.int .i64 x3)), (8, (.bool true)), (9, (.bool true)), (10, (.int .i64 x10)), (11, (.int .i64 x11))] (h _)
   | false =>
    replace h := h.2 (of_decide_eq_false hb)
    refine At.cF 68 K49 K54 ?_
    refine At.skip ?_
    refine At.s K56 K65 ?_
    refine At.s K57 K58 ?_
    exact At.v [(0, (.slice p0 n0 c0)), (1, (.int .i64 x1)), (2, (.int .i64 x2)), (3, (.int .i64 x3)), (8, (.bool true)), (9, (.bool true)), (10, (.int .i64 x10)), (11, (.int .i64 x11))] (h _)
  | false =>
   replace h := h.2 hb
   refine Seq.n 66 ?_
   refine Seq.n 67 ?_
   refine Seq.u 68 (.bool false) ?_
   refine Seq.done ?_
   refine At.L [(0, (.slice p0 n0 c0)), (1, (.int .i64 x1)), (2, (.int .i64 x2)), (3, (.int .i64 x3)), (8, (.bool true)), (9, (.bool false)), (10, (.int .i64 x10)), (11, (.int .i64 x11)), (68, (.bool false))] fun J => ?_
   refine At.cF 68 K49 K54 ?_
   refine At.skip ?_
   refine At.s K56 K65 ?_
   refine At.s K57 K58 ?_
   exact At.v [(0, (.slice p0 n0 c0)), (1, (.int .i64 x1)), (2, (.int .i64 x2)), (3, (.int .i64 x3)), (8, (.bool true)), (9, (.bool false)), (10, (.int .i64 x10)), (11, (.int .i64 x11))] (h _)
 | false =>
  replace h := h.2 hb
  refine Seq.n 63 ?_
  refine Seq.u 64 (.bool false) ?_
  refine Seq.u 65 (.bool false) ?_
  refine Seq.n 66 ?_
  refine Seq.n 67 ?_
  refine Seq.u 68 (.bool false) ?_
  refine Seq.done ?_
  refine At.L [(0, (.slice p0 n0 c0)), (1, (.int .i64 x1)), (2, (.int .i64 x2)), (3, (.int .i64 x3)), (8, (.bool false)), (9, (.bool t9)), (10, (.int .i64 x10)), (11, (.int .i64 x11)), (68, (.bool false))] fun J => ?_
  refine At.cF 68 K49 K54 ?_
  refine At.skip ?_
  refine At.s K56 K65 ?_
  refine At.s K57 K58 ?_
  exact At.v [(0, (.slice p0 n0 c0)), (1, (.int .i64 x1)), (2, (.int .i64 x2)), (3, (.int .i64 x3)), (8, (.bool false)), (9, (.bool t9)), (10, (.int .i64 x10)), (11, (.int .i64 x11))] (h _)
theorem pt57_of {R : Ending → Hp → Prop} {p0 : Option Addr} {n0 : Nat} {c0 : Nat} {x1 : Int} {x2 : Int} {x3 : Int} {t8 : Bool} {t9 : Bool} {x10 : Int} {x11 : Int} {σ : Hp} (h : ((0 : Int) < x1 → I64 (x1 - 1) ∧ ∃ (b79 o79 : Nat), p0 = some ⟨b79, o79, none⟩ ∧ ((0 : Int) ≤ (x1 - 1) ∧ (x1 - 1) < (n0 : Int)) ∧ ∃ x80 : Int, Hp.ld σ ⟨b79, (o79 + Int.toNat (x1 - 1) * 1), none⟩ = some (.int .u32 x80) ∧ ((0 : Int) ≤ x11 ∧ x11 < (n0 : Int)) ∧ ∃ x84 : Int, Hp.ld σ ⟨b79, (o79 + Int.toNat x11 * 1), none⟩ = some (.int .u32 x84) ∧ Spec prog 94 #[(.int .u32 x80), (.int .u32 x84)] σ (Cont R (fun v σ1 => ∃ t85 : Bool, v = (.bool t85) ∧ (t85 = false → Spec prog 95 #[(.slice (some ⟨b79, o79, none⟩) n0 c0), (.int .i64 x1), (.int .i64 x2), (.int .i64 x11)] σ1 (Cont R (fun v_2 σ1_2 => ∃ x92 : Int, v_2 = (.int .i64 x92) ∧ pt8 R ((some ⟨b79, o79, none⟩)) n0 c0 x92 x2 x3 t8 t9 σ1_2))) ∧ (t85 = true → Spec prog 96 #[(.slice (some ⟨b79, o79, none⟩) n0 c0), (.int .i64 x1), (.int .i64 x2), (.int .i64 x11)] σ1 (Cont R (fun v_2 σ1_2 => ∃ x99a : Int, ∃ t99b : Bool, v_2 = (.tuple #[(.int .i64 x99a), (.bool t99b)]) ∧ I64 (x99a - x1) ∧ I64 (x2 - x99a) ∧ 8 ≠ (0 : Int) ∧ ∀ x110 : Int, x110 = IntKind.i64.wrap (Int.tdiv x10 8) → (((x99a - x1) : Int) < (x2 - x99a) → Spec prog 75 #[(.slice (some ⟨b79, o79, none⟩) n0 c0), (.int .i64 x1), (.int .i64 x99a), (.int .i64 x3)] σ1_2 (Cont R (fun v_3 σ1_3 => v_3 = (.tuple #[]) ∧ I64 (x99a + 1) ∧ pt8 R ((some ⟨b79, o79, none⟩)) n0 c0 ((x99a + 1)) x2 x3 ((decide ((x110 : Int) ≤ (x99a - x1)))) t99b σ1_3))) ∧ (¬ (((x99a - x1) : Int) < (x2 - x99a)) → I64 (x99a + 1) ∧ Spec prog 75 #[(.slice (some ⟨b79, o79, none⟩) n0 c0), (.int .i64 (x99a + 1)), (.int .i64 x2), (.int .i64 x3)] σ1_2 (Cont R (fun v_3 σ1_3 => v_3 = (.tuple #[]) ∧ pt8 R ((some ⟨b79, o79, none⟩)) n0 c0 x1 x99a x3 ((decide ((x110 : Int) ≤ (x2 - x99a)))) t99b σ1_3))))))))) ∧ (¬ ((0 : Int) < x1) → Spec prog 96 #[(.slice p0 n0 c0), (.int .i64 x1), (.int .i64 x2), (.int .i64 x11)] σ (Cont R (fun v σ1 => ∃ x99a : Int, ∃ t99b : Bool, v = (.tuple #[(.int .i64 x99a), (.bool t99b)]) ∧ I64 (x99a - x1) ∧ I64 (x2 - x99a) ∧ 8 ≠ (0 : Int) ∧ ∀ x110 : Int, x110 = IntKind.i64.wrap (Int.tdiv x10 8) → (((x99a - x1) : Int) < (x2 - x99a) → Spec prog 75 #[(.slice p0 n0 c0), (.int .i64 x1), (.int .i64 x99a), (.int .i64 x3)] σ1 (Cont R (fun v_2 σ1_2 => v_2 = (.tuple #[]) ∧ I64 (x99a + 1) ∧ pt8 R p0 n0 c0 ((x99a + 1)) x2 x3 ((decide ((x110 : Int) ≤ (x99a - x1)))) t99b σ1_2))) ∧ (¬ (((x99a - x1) : Int) < (x2 - x99a)) → I64 (x99a + 1) ∧ Spec prog 75 #[(.slice p0 n0 c0), (.int .i64 (x99a + 1)), (.int .i64 x2), (.int .i64 x3)] σ1 (Cont R (fun v_2 σ1_2 => v_2 = (.tuple #[]) ∧ pt8 R p0 n0 c0 x1 x99a x3 ((decide ((x110 : Int) ≤ (x2 - x99a)))) t99b σ1_2))))))) : pt57 R p0 n0 c0 x1 x2 x3 t8 t9 x10 x11 σ := by
 intro J
 show At (gl R) _ _ _ _
 refine At.draw (id := 17) (ops := cO K57) (n := 15) (q := (some [])) (plan := [(0, true), (1, true), (2, true), (3, true), (4, true), (5, true), (6, true), (7, true), (8, true), (9, true), (10, true), (11, true), (12, false), (13, true), (14, true)]) (tl := []) mixed (by kernel_rfl) (by kernel_rfl) ?_
 refine Head.u 73 (.int .i64 x1) ?_
 refine Head.u 74 (.bool (decide ((0 : Int) < x1))) ?_
 refine Head.u 75 (.bool (decide ((0 : Int) < x1))) ?_
 cases hb : (decide ((0 : Int) < x1)) with
 | true =>
  replace h := h.1 (of_decide_eq_true hb)
  refine Head.u 76 (.slice p0 n0 c0) ?_
  refine Head.u 77 (.int .i64 x1) ?_
  obtain ⟨hi, h⟩ := h
  refine Head.zg 78 (.binOp .sub 3 (.tmp 77) (.const (.int .i64 1)) 3) 3 (2, true) (.int .i64 (x1 - 1)) (Y.subI hi rfl rfl) ?_
  obtain ⟨b79, o79, hq, h⟩ := h
  subst hq
  obtain ⟨hi, h⟩ := h
  refine Head.zg 79 (.indexAddr 53 (.tmp 76) (.tmp 78)) 0 (2, true) (.pointer (some ⟨b79, (o79 + Int.toNat (x1 - 1) * 1), none⟩)) (Y.idx underlying53 sizeOf26 rfl rfl hi rfl) ?_
  obtain ⟨x80, hl, h⟩ := h
  refine Head.ygl b79 [[12]] rfl (by kernel_rfl) (d := (some 80)) (op := (.load 26 (.tmp 79))) (ty := 26) (gd := (some (2, true))) (v := (.int .u32 x80)) (by kernel_rfl) rfl rfl (Y.ld isAgg26 rfl (lim_ld hl)) ?_
  refine Head.u 81 (.slice (some ⟨b79, o79, none⟩) n0 c0) ?_
  refine Head.u 82 (.int .i64 x11) ?_
  obtain ⟨hi, h⟩ := h
  refine Head.zg 83 (.indexAddr 53 (.tmp 81) (.tmp 82)) 0 (2, true) (.pointer (some ⟨b79, (o79 + Int.toNat x11 * 1), none⟩)) (Y.idx underlying53 sizeOf26 rfl rfl hi rfl) ?_
  obtain ⟨x84, hl, h⟩ := h
  refine Head.ygl b79 [[12]] rfl (by kernel_rfl) (d := (some 84)) (op := (.load 26 (.tmp 83))) (ty := 26) (gd := (some (2, true))) (v := (.int .u32 x84)) (by kernel_rfl) rfl rfl (Y.ld isAgg26 rfl (lim_ld hl)) ?_
  refine Head.o (q' := (some [])) rfl ?_
  refine OpTo.cl (some 85) call94 (h.cont fun v σ1 h2 => ?_); replace h := h2; clear h2
  obtain ⟨t85, rfl, h⟩ := h
  refine ⟨⟨fun _ h => h, kp_q (L := []) Kp.nil⟩, ?_⟩
  refine Head.u 86 (.bool (!t85)) ?_
  refine Head.u 87 (.bool (!t85)) ?_
  refine Head.done ?_
  refine Seq.done ?_
  refine At.L [(0, (.slice (some ⟨b79, o79, none⟩) n0 c0)), (1, (.int .i64 x1)), (2, (.int .i64 x2)), (3, (.int .i64 x3)), (8, (.bool t8)), (9, (.bool t9)), (10, (.int .i64 x10)), (11, (.int .i64 x11)), (87, (.bool (!t85)))] fun J => ?_
  cases hb : (!t85) with
  | true =>
   replace h := h.1 (Tw.nt hb)
   refine At.cT 87 K59 K64 ?_
   refine At.s K60 K61 ?_
   refine At.rg 18 [0, 1, 2, 3, 4, 5] ?_
   refine Seq.u 88 (.slice (some ⟨b79, o79, none⟩) n0 c0) ?_
   refine Seq.u 89 (.int .i64 x1) ?_
   refine Seq.u 90 (.int .i64 x2) ?_
   refine Seq.u 91 (.int .i64 x11) ?_
   refine Seq.o ?_
   refine OpTo.cl (some 92) call95 (h.cont fun v_2 σ1_2 h2 => ?_); replace h := h2; clear h2
   obtain ⟨x92, rfl, h⟩ := h
   refine Seq.u 13 (.int .i64 x92) ?_
   refine Seq.done ?_
   refine At.L [(0, (.slice (some ⟨b79, o79, none⟩) n0 c0)), (2, (.int .i64 x2)), (3, (.int .i64 x3)), (8, (.bool t8)), (9, (.bool t9)), (13, (.int .i64 x92))] fun J => ?_
   refine At.s K62 K63 ?_
   refine At.rg 19 [0, 1] ?_
   refine Seq.u 93 (.int .i64 x92) ?_
   refine Seq.u 1 (.int .i64 x92) ?_
   refine Seq.done ?_
   refine At.L [(0, (.slice (some ⟨b79, o79, none⟩) n0 c0)), (1, (.int .i64 x92)), (2, (.int .i64 x2)), (3, (.int .i64 x3)), (8, (.bool t8)), (9, (.bool t9))] fun J => ?_
   refine At.x 1 [.inLoop K6, .inBlock 0] ?_
   refine At.inLoop ?_
   refine At.b 1 K7 ?_
   refine At.s K8 K9 ?_
   exact At.v [(0, (.slice (some ⟨b79, o79, none⟩) n0 c0)), (1, (.int .i64 x92)), (2, (.int .i64 x2)), (3, (.int .i64 x3)), (8, (.bool t8)), (9, (.bool t9))] (h _)
  | false =>
   replace h := h.2 (Tw.nf hb)
   refine At.cF 87 K59 K64 ?_
   refine At.skip ?_
   refine At.s K66 K67 ?_
   refine At.rg 20 [0, 1, 2, 3, 4, 5, 6, 7, 8, 9] ?_
   refine Seq.u 95 (.slice (some ⟨b79, o79, none⟩) n0 c0) ?_
   refine Seq.u 96 (.int .i64 x1) ?_
   refine Seq.u 97 (.int .i64 x2) ?_
   refine Seq.u 98 (.int .i64 x11) ?_
   refine Seq.o ?_
   refine OpTo.cl (some 99) call96 (h.cont fun v_2 σ1_2 h2 => ?_); replace h := h2; clear h2
   obtain ⟨x99a, t99b, rfl, h⟩ := h
   refine Seq.u 94 (.tuple #[(.int .i64 x99a), (.bool t99b)]) ?_
   refine Seq.u 100 (.int .i64 x99a) ?_
   refine Seq.u 101 (.bool t99b) ?_
   refine Seq.u 14 (.int .i64 x99a) ?_
   refine Seq.u 15 (.bool t99b) ?_
   refine Seq.done ?_
   refine At.L [(0, (.slice (some ⟨b79, o79, none⟩) n0 c0)), (1, (.int .i64 x1)), (2, (.int .i64 x2)), (3, (.int .i64 x3)), (10, (.int .i64 x10)), (14, (.int .i64 x99a)), (15, (.bool t99b))] fun J => ?_
   refine At.s K68 K69 ?_
   refine At.rg 21 [0, 1] ?_
   refine Seq.u 102 (.bool t99b) ?_
   refine Seq.u 9 (.bool t99b) ?_
   refine Seq.done ?_
   refine At.L [(0, (.slice (some ⟨b79, o79, none⟩) n0 c0)), (1, (.int .i64 x1)), (2, (.int .i64 x2)), (3, (.int .i64 x3)), (9, (.bool t99b)), (10, (.int .i64 x10)), (14, (.int .i64 x99a))] fun J => ?_
   refine At.s K70 K71 ?_
   refine At.rg 22 [0, 1, 2, 3, 4, 5, 6, 7] ?_
   refine Seq.u 103 (.int .i64 x99a) ?_
   refine Seq.u 104 (.int .i64 x1) ?_
   obtain ⟨hi, h⟩ := h
   refine Seq.z 105 (.binOp .sub 3 (.tmp 103) (.tmp 104) 3) 3 (.int .i64 (x99a - x1)) (Y.subI hi rfl rfl) ?_
   refine Seq.u 106 (.int .i64 x2) ?_
   refine Seq.u 107 (.int .i64 x99a) ?_
   obtain ⟨hi, h⟩ := h
   refine Seq.z 108 (.binOp .sub 3 (.tmp 106) (.tmp 107) 3) 3 (.int .i64 (x2 - x99a)) (Y.subI hi rfl rfl) ?_
   refine Seq.u 16 (.int .i64 (x99a - x1)) ?_
   refine Seq.u 17 (.int .i64 (x2 - x99a)) ?_
   refine Seq.done ?_
   refine At.L [(0, (.slice (some ⟨b79, o79, none⟩) n0 c0)), (1, (.int .i64 x1)), (2, (.int .i64 x2)), (3, (.int .i64 x3)), (9, (.bool t99b)), (10, (.int .i64 x10)), (14, (.int .i64 x99a)), (16, (.int .i64 (x99a - x1))), (17, (.int .i64 (x2 - x99a)))] fun J => ?_
   refine At.s K72 K73 ?_
   refine At.rg 23 [0, 1, 2] ?_
   refine Seq.u 109 (.int .i64 x10) ?_
   obtain ⟨hc, h⟩ := h
   obtain ⟨x110, hwx110⟩ : ∃ y, y = IntKind.i64.wrap (Int.tdiv x10 8) := ⟨_, rfl⟩
   replace h := h x110 hwx110
   refine Seq.y (d := (some 110)) (op := (.binOp .quo 3 (.tmp 109) (.const (.int .i64 8)) 3)) (ty := 3) (v := (.int .i64 x110)) (by kernel_rfl) rfl (hwx110 ▸ Y.quo hc rfl rfl) ?_
   refine Seq.u 18 (.int .i64 x110) ?_
   refine Seq.done ?_
   refine At.L [(0, (.slice (some ⟨b79, o79, none⟩) n0 c0)), (1, (.int .i64 x1)), (2, (.int .i64 x2)), (3, (.int .i64 x3)), (9, (.bool t99b)), (14, (.int .i64 x99a)), (16, (.int .i64 (x99a - x1))), (17, (.int .i64 (x2 - x99a))), (18, (.int .i64 x110))] fun J => ?_
   refine At.s K74 K75 ?_
   refine At.rg 24 [0, 1, 2] ?_
   refine Seq.u 111 (.int .i64 (x99a - x1)) ?_
   refine Seq.u 112 (.int .i64 (x2 - x99a)) ?_
   refine Seq.u 113 (.bool (decide (((x99a - x1) : Int) < (x2 - x99a)))) ?_
   refine Seq.done ?_
   refine At.L [(0, (.slice (some ⟨b79, o79, none⟩) n0 c0)), (1, (.int .i64 x1)), (2, (.int .i64 x2)), (3, (.int .i64 x3)), (9, (.bool t99b)), (14, (.int .i64 x99a)), (16, (.int .i64 (x99a - x1))), (17, (.int .i64 (x2 - x99a))), (18, (.int .i64 x110)), (113, (.bool (decide (((x99a - x1) : Int) < (x2 - x99a)))))] fun J => ?_
   cases hb : (decide (((x99a - x1) : Int) < (x2 - x99a))) with
   | true =>
    replace h := h.1 (of_decide_eq_true hb)
    refine At.cT 113 K76 K81 ?_
    refine At.s K77 K78 ?_
    refine At.rg 25 [0, 1, 2, 3] ?_
    refine Seq.u 114 (.int .i64 (x99a - x1)) ?_
    refine Seq.u 115 (.int .i64 x110) ?_
    refine Seq.u 116 (.bool (decide ((x110 : Int) ≤ (x99a - x1)))) ?_
    refine Seq.u 8 (.bool (decide ((x110 : Int) ≤ (x99a - x1)))) ?_
    refine Seq.done ?_
    refine At.L [(0, (.slice (some ⟨b79, o79, none⟩) n0 c0)), (1, (.int .i64 x1)), (2, (.int .i64 x2)), (3, (.int .i64 x3)), (8, (.bool (decide ((x110 : Int) ≤ (x99a - x1))))), (9, (.bool t99b)), (14, (.int .i64 x99a))] fun J => ?_
    refine At.s K79 K80 ?_
    refine At.rg 26 [0, 1, 2, 3, 4] ?_
    refine Seq.u 117 (.slice (some ⟨b79, o79, none⟩) n0 c0) ?_
    refine Seq.u 118 (.int .i64 x1) ?_
    refine Seq.u 119 (.int .i64 x99a) ?_
    refine Seq.u 120 (.int .i64 x3) ?_
    refine Seq.o ?_
    refine OpTo.cl (some 121) call75 (h.cont fun v_3 σ1_3 h2 => ?_); replace h := h2; clear h2
    obtain ⟨rfl, h⟩ := h
    refine Seq.done ?_
    refine At.L [(0, (.slice (some ⟨b79, o79, none⟩) n0 c0)), (2, (.int .i64 x2)), (3, (.int .i64 x3)), (8, (.bool (decide ((x110 : Int) ≤ (x99a - x1))))), (9, (.bool t99b)), (14, (.int .i64 x99a))] fun J => ?_
    refine At.rg 27 [0, 1, 2] ?_
    refine Seq.u 122 (.int .i64 x99a) ?_
    obtain ⟨hi, h⟩ := h
    refine Seq.z 123 (.binOp .add 3 (.tmp 122) (.const (.int .i64 1)) 3) 3 (.int .i64 (x99a + 1)) (Y.addI hi rfl rfl) ?_
    refine Seq.u 1 (.int .i64 (x99a + 1)) ?_
    refine Seq.done ?_
    refine At.L [(0, (.slice (some ⟨b79, o79, none⟩) n0 c0)), (1, (.int .i64 (x99a + 1))), (2, (.int .i64 x2)), (3, (.int .i64 x3)), (8, (.bool (decide ((x110 : Int) ≤ (x99a - x1))))), (9, (.bool t99b))] fun J => ?_
    refine At.inBlock ?_
    refine At.inLoop ?_
    refine At.b 1 K7 ?_
    refine At.s K8 K9 ?_
    exact At.v [(0, (.slice (some ⟨b79, o79, none⟩) n0 c0)), (1, (.int .i64 (x99a + 1))), (2, (.int .i64 x2)), (3, (.int .i64 x3)), (8, (.bool (decide ((x110 : Int) ≤ (x99a - x1))))), (9, (.bool t99b))] (h _)
   | false =>
    replace h := h.2 (of_decide_eq_false hb)
    refine At.cF 113 K76 K81 ?_
    refine At.s K82 K83 ?_
    refine At.rg 28 [0, 1, 2, 3] ?_
    refine Seq.u 124 (.int .i64 (x2 - x99a)) ?_
    refine Seq.u 125 (.int .i64 x110) ?_
    refine Seq.u 126 (.bool (decide ((x110 : Int) ≤ (x2 - x99a)))) ?_
    refine Seq.u 8 (.bool (decide ((x110 : Int) ≤ (x2 - x99a)))) ?_
    refine Seq.done ?_
    refine At.L [(0, (.slice (some ⟨b79, o79, none⟩) n0 c0)), (1, (.int .i64 x1)), (2, (.int .i64 x2)), (3, (.int .i64 x3)), (8, (.bool (decide ((x110 : Int) ≤ (x2 - x99a))))), (9, (.bool t99b)), (14, (.int .i64 x99a))] fun J => ?_
    refine At.s K84 K85 ?_
    refine At.rg 29 [0, 1, 2, 3, 4, 5] ?_
    refine Seq.u 127 (.slice (some ⟨b79, o79, none⟩) n0 c0) ?_
    refine Seq.u 128 (.int .i64 x99a) ?_
    obtain ⟨hi, h⟩ := h
    refine Seq.z 129 (.binOp .add 3 (.tmp 128) (.const (.int .i64 1)) 3) 3 (.int .i64 (x99a + 1)) (Y.addI hi rfl rfl) ?_
    refine Seq.u 130 (.int .i64 x2) ?_
    refine Seq.u 131 (.int .i64 x3) ?_
    refine Seq.o ?_
    refine OpTo.cl (some 132) call75 (h.cont fun v_3 σ1_3 h2 => ?_); replace h := h2; clear h2
    obtain ⟨rfl, h⟩ := h
    refine Seq.done ?_
    refine At.L [(0, (.slice (some ⟨b79, o79, none⟩) n0 c0)), (1, (.int .i64 x1)), (3, (.int .i64 x3)), (8, (.bool (decide ((x110 : Int) ≤ (x2 - x99a))))), (9, (.bool t99b)), (14, (.int .i64 x99a))] fun J => ?_
    refine At.rg 30 [0, 1] ?_
    refine Seq.u 133 (.int .i64 x99a) ?_
    refine Seq.u 2 (.int .i64 x99a) ?_
    refine Seq.done ?_
    refine At.L [(0, (.slice (some ⟨b79, o79, none⟩) n0 c0)), (1, (.int .i64 x1)), (2, (.int .i64 x99a)), (3, (.int .i64 x3)), (8, (.bool (decide ((x110 : Int) ≤ (x2 - x99a))))), (9, (.bool t99b))] fun J => ?_
    refine At.inBlock ?_
    refine At.inLoop ?_
    refine At.b 1 K7 ?_
    refine At.s K8 K9 ?_
    exact At.v [(0, (.slice (some ⟨b79, o79, none⟩) n0 c0)), (1, (.int .i64 x1)), (2, (.int .i64 x99a)), (3, (.int .i64 x3)), (8, (.bool (decide ((x110 : Int) ≤ (x2 - x99a))))), (9, (.bool t99b))] (h _)
 | false =>
  replace h := h.2 (of_decide_eq_false hb)
  refine Head.n 76 ?_
  refine Head.n 77 ?_
  refine Head.n 78 ?_
  refine Head.n 79 ?_
  refine Head.n 80 ?_
  refine Head.n 81 ?_
  refine Head.n 82 ?_
  refine Head.n 83 ?_
  refine Head.n 84 ?_
  refine Head.o rfl ?_
  refine OpTo.no (d := (some 85)) (op := (.call { callee := .value (.func 94), args := #[(.tmp 80), (.tmp 84)], argTypes := #[26, 26] })) (ty := 4) (gd := some (2, true)) (by kernel_rfl) rfl rfl ?_
  refine ⟨KeepQ.refl _ _ _, ?_⟩
  refine Head.n 86 ?_
  refine Head.u 87 (.bool false) ?_
  refine Head.done ?_
  refine Seq.done ?_
  refine At.L [(0, (.slice p0 n0 c0)), (1, (.int .i64 x1)), (2, (.int .i64 x2)), (3, (.int .i64 x3)), (8, (.bool t8)), (9, (.bool t9)), (10, (.int .i64 x10)), (11, (.int .i64 x11)), (87, (.bool false))] fun J => ?_
  refine At.cF 87 K59 K64 ?_
  refine At.skip ?_
  refine At.s K66 K67 ?_
  refine At.rg 20 [0, 1, 2, 3, 4, 5, 6, 7, 8, 9] ?_
  refine Seq.u 95 (.slice p0 n0 c0) ?_
  refine Seq.u 96 (.int .i64 x1) ?_
  refine Seq.u 97 (.int .i64 x2) ?_
  refine Seq.u 98 (.int .i64 x11) ?_
  refine Seq.o ?_
  refine OpTo.cl (some 99) call96 (h.cont fun v σ1 h2 => ?_); replace h := h2; clear h2
  obtain ⟨x99a, t99b, rfl, h⟩ := h
  refine Seq.u 94 (.tuple #[(.int .i64 x99a), (.bool t99b)]) ?_
  refine Seq.u 100 (.int .i64 x99a) ?_
  refine Seq.u 101 (.bool t99b) ?_
  refine Seq.u 14 (.int .i64 x99a) ?_
  refine Seq.u 15 (.bool t99b) ?_
  refine Seq.done ?_
  refine At.L [(0, (.slice p0 n0 c0)), (1, (.int .i64 x1)), (2, (.int .i64 x2)), (3, (.int .i64 x3)), (10, (.int .i64 x10)), (14, (.int .i64 x99a)), (15, (.bool t99b))] fun J => ?_
  refine At.s K68 K69 ?_
  refine At.rg 21 [0, 1] ?_
  refine Seq.u 102 (.bool t99b) ?_
  refine Seq.u 9 (.bool t99b) ?_
  refine Seq.done ?_
  refine At.L [(0, (.slice p0 n0 c0)), (1, (.int .i64 x1)), (2, (.int .i64 x2)), (3, (.int .i64 x3)), (9, (.bool t99b)), (10, (.int .i64 x10)), (14, (.int .i64 x99a))] fun J => ?_
  refine At.s K70 K71 ?_
  refine At.rg 22 [0, 1, 2, 3, 4, 5, 6, 7] ?_
  refine Seq.u 103 (.int .i64 x99a) ?_
  refine Seq.u 104 (.int .i64 x1) ?_
  obtain ⟨hi, h⟩ := h
  refine Seq.z 105 (.binOp .sub 3 (.tmp 103) (.tmp 104) 3) 3 (.int .i64 (x99a - x1)) (Y.subI hi rfl rfl) ?_
  refine Seq.u 106 (.int .i64 x2) ?_
  refine Seq.u 107 (.int .i64 x99a) ?_
  obtain ⟨hi, h⟩ := h
  refine Seq.z 108 (.binOp .sub 3 (.tmp 106) (.tmp 107) 3) 3 (.int .i64 (x2 - x99a)) (Y.subI hi rfl rfl) ?_
  refine Seq.u 16 (.int .i64 (x99a - x1)) ?_
  refine Seq.u 17 (.int .i64 (x2 - x99a)) ?_
  refine Seq.done ?_
  refine At.L [(0, (.slice p0 n0 c0)), (1, (.int .i64 x1)), (2, (.int .i64 x2)), (3, (.int .i64 x3)), (9, (.bool t99b)), (10, (.int .i64 x10)), (14, (.int .i64 x99a)), (16, (.int .i64 (x99a - x1))), (17, (.int .i64 (x2 - x99a)))] fun J => ?_
  refine At.s K72 K73 ?_
  refine At.rg 23 [0, 1, 2] ?_
  refine Seq.u 109 (.int .i64 x10) ?_
  obtain ⟨hc, h⟩ := h
  obtain ⟨x110, hwx110⟩ : ∃ y, y = IntKind.i64.wrap (Int.tdiv x10 8) := ⟨_, rfl⟩
  replace h := h x110 hwx110
  refine Seq.y (d := (some 110)) (op := (.binOp .quo 3 (.tmp 109) (.const (.int .i64 8)) 3)) (ty := 3) (v := (.int .i64 x110)) (by kernel_rfl) rfl (hwx110 ▸ Y.quo hc rfl rfl) ?_
  refine Seq.u 18 (.int .i64 x110) ?_
  refine Seq.done ?_
  refine At.L [(0, (.slice p0 n0 c0)), (1, (.int .i64 x1)), (2, (.int .i64 x2)), (3, (.int .i64 x3)), (9, (.bool t99b)), (14, (.int .i64 x99a)), (16, (.int .i64 (x99a - x1))), (17, (.int .i64 (x2 - x99a))), (18, (.int .i64 x110))] fun J => ?_
  refine At.s K74 K75 ?_
  refine At.rg 24 [0, 1, 2] ?_
  refine Seq.u 111 (.int .i64 (x99a - x1)) ?_
  refine Seq.u 112 (.int .i64 (x2 - x99a)) ?_
  refine Seq.u 113 (.bool (decide (((x99a - x1) : Int) < (x2 - x99a)))) ?_
  refine Seq.done ?_
  refine At.L [(0, (.slice p0 n0 c0)), (1, (.int .i64 x1)), (2, (.int .i64 x2)), (3, (.int .i64 x3)), (9, (.bool t99b)), (14, (.int .i64 x99a)), (16, (.int .i64 (x99a - x1))), (17, (.int .i64 (x2 - x99a))), (18, (.int .i64 x110)), (113, (.bool (decide (((x99a - x1) : Int) < (x2 - x99a)))))] fun J => ?_
  cases hb : (decide (((x99a - x1) : Int) < (x2 - x99a))) with
  | true =>
   replace h := h.1 (of_decide_eq_true hb)
   refine At.cT 113 K76 K81 ?_
   refine At.s K77 K78 ?_
   refine At.rg 25 [0, 1, 2, 3] ?_
   refine Seq.u 114 (.int .i64 (x99a - x1)) ?_
   refine Seq.u 115 (.int .i64 x110) ?_
   refine Seq.u 116 (.bool (decide ((x110 : Int) ≤ (x99a - x1)))) ?_
   refine Seq.u 8 (.bool (decide ((x110 : Int) ≤ (x99a - x1)))) ?_
   refine Seq.done ?_
   refine At.L [(0, (.slice p0 n0 c0)), (1, (.int .i64 x1)), (2, (.int .i64 x2)), (3, (.int .i64 x3)), (8, (.bool (decide ((x110 : Int) ≤ (x99a - x1))))), (9, (.bool t99b)), (14, (.int .i64 x99a))] fun J => ?_
   refine At.s K79 K80 ?_
   refine At.rg 26 [0, 1, 2, 3, 4] ?_
   refine Seq.u 117 (.slice p0 n0 c0) ?_
   refine Seq.u 118 (.int .i64 x1) ?_
   refine Seq.u 119 (.int .i64 x99a) ?_
   refine Seq.u 120 (.int .i64 x3) ?_
   refine Seq.o ?_
   refine OpTo.cl (some 121) call75 (h.cont fun v_2 σ1_2 h2 => ?_); replace h := h2; clear h2
   obtain ⟨rfl, h⟩ := h
   refine Seq.done ?_
   refine At.L [(0, (.slice p0 n0 c0)), (2, (.int .i64 x2)), (3, (.int .i64 x3)), (8, (.bool (decide ((x110 : Int) ≤ (x99a - x1))))), (9, (.bool t99b)), (14, (.int .i64 x99a))] fun J => ?_
   refine At.rg 27 [0, 1, 2] ?_
   refine Seq.u 122 (.int .i64 x99a) ?_
   obtain ⟨hi, h⟩ := h
   refine Seq.z 123 (.binOp .add 3 (.tmp 122) (.const (.int .i64 1)) 3) 3 (.int .i64 (x99a + 1)) (Y.addI hi rfl rfl) ?_
   refine Seq.u 1 (.int .i64 (x99a + 1)) ?_
   refine Seq.done ?_
   refine At.L [(0, (.slice p0 n0 c0)), (1, (.int .i64 (x99a + 1))), (2, (.int .i64 x2)), (3, (.int .i64 x3)), (8, (.bool (decide ((x110 : Int) ≤ (x99a - x1))))), (9, (.bool t99b))] fun J => ?_
   refine At.inBlock ?_
   refine At.inLoop ?_
   refine At.b 1 K7 ?_
   refine At.s K8 K9 ?_
   exact At.v [(0, (.slice p0 n0 c0)), (1, (.int .i64 (x99a + 1))), (2, (.int .i64 x2)), (3, (.int .i64 x3)), (8, (.bool (decide ((x110 : Int) ≤ (x99a - x1))))), (9, (.bool t99b))] (h _)
  | false =>
   replace h := h.2 (of_decide_eq_false hb)
   refine At.cF 113 K76 K81 ?_
   refine At.s K82 K83 ?_
   refine At.rg 28 [0, 1, 2, 3] ?_
   refine Seq.u 124 (.int .i64 (x2 - x99a)) ?_
   refine Seq.u 125 (.int .i64 x110) ?_
   refine Seq.u 126 (.bool (decide ((x110 : Int) ≤ (x2 - x99a)))) ?_
   refine Seq.u 8 (.bool (decide ((x110 : Int) ≤ (x2 - x99a)))) ?_
   refine Seq.done ?_
   refine At.L [(0, (.slice p0 n0 c0)), (1, (.int .i64 x1)), (2, (.int .i64 x2)), (3, (.int .i64 x3)), (8, (.bool (decide ((x110 : Int) ≤ (x2 - x99a))))), (9, (.bool t99b)), (14, (.int .i64 x99a))] fun J => ?_
   refine At.s K84 K85 ?_
   refine At.rg 29 [0, 1, 2, 3, 4, 5] ?_
   refine Seq.u 127 (.slice p0 n0 c0) ?_
   refine Seq.u 128 (.int .i64 x99a) ?_
   obtain ⟨hi, h⟩ := h
   refine Seq.z 129 (.binOp .add 3 (.tmp 128) (.const (.int .i64 1)) 3) 3 (.int .i64 (x99a + 1)) (Y.addI hi rfl rfl) ?_
   refine Seq.u 130 (.int .i64 x2) ?_
   refine Seq.u 131 (.int .i64 x3) ?_
   refine Seq.o ?_
   refine OpTo.cl (some 132) call75 (h.cont fun v_2 σ1_2 h2 => ?_); replace h := h2; clear h2
   obtain ⟨rfl, h⟩ := h
   refine Seq.done ?_
   refine At.L [(0, (.slice p0 n0 c0)), (1, (.int .i64 x1)), (3, (.int .i64 x3)), (8, (.bool (decide ((x110 : Int) ≤ (x2 - x99a))))), (9, (.bool t99b)), (14, (.int .i64 x99a))] fun J => ?_
   refine At.rg 30 [0, 1] ?_
   refine Seq.u 133 (.int .i64 x99a) ?_
   refine Seq.u 2 (.int .i64 x99a) ?_
   refine Seq.done ?_
   refine At.L [(0, (.slice p0 n0 c0)), (1, (.int .i64 x1)), (2, (.int .i64 x99a)), (3, (.int .i64 x3)), (8, (.bool (decide ((x110 : Int) ≤ (x2 - x99a))))), (9, (.bool t99b))] fun J => ?_
   refine At.inBlock ?_
   refine At.inLoop ?_
   refine At.b 1 K7 ?_
   refine At.s K8 K9 ?_
   exact At.v [(0, (.slice p0 n0 c0)), (1, (.int .i64 x1)), (2, (.int .i64 x99a)), (3, (.int .i64 x3)), (8, (.bool (decide ((x110 : Int) ≤ (x2 - x99a))))), (9, (.bool t99b))] (h _)
end slices_pdqsortOrdered_uint32
end TwR
end
section
namespace TwR
open Go Tw

theorem sizeW (w : World) : (Go.sizeOf 26).run prog w = .ok 1 w := Go.Proofs.Try.sizeOf26 w

theorem less_spec {R : Ending → Hp → Prop} {σ : Hp} {x y : Int} (h : R (.returned (.bool (decide (x < y)))) σ) : Spec prog cmp_Less_uint32.fid #[.int .u32 x, .int .u32 y] σ R := by
  refine cmp_Less_uint32.start (cmp_isNaN_uint32.start ⟨_, rfl, fun ht => ?_, fun _ => h⟩)
  simp at ht

def Asc (ys : List Int) (i : Nat) (p : Nat → Prop) : Prop := ∀ a b x y, a < b → b < i → p b → ys[a]? = some x → ys[b]? = some y → x ≤ y

theorem insertion_spec {R : Ending → Hp → Prop} {σ : Hp} {p : Option Addr} {n c : Nat} {xs : List Int} {Q : Int → Prop} (hQ : ∀ x ∈ xs, Q x) (ho : OwnI .u32 σ p n c xs)
    (h : ∀ σ' ys, (∀ y ∈ ys, Q y) → OwnI .u32 σ' p n c ys → Ext (σ.del p) (σ'.del p) → Asc ys n (fun _ => True) → R (.returned (.tuple #[])) σ') : Spec prog slices_insertionSortOrdered_uint32.fid #[.slice p n c, .int .i64 0, .int .i64 n] σ R := by
  have hb := ho.rd.big
  refine slices_insertionSortOrdered_uint32.start ⟨by unfold I64; omega, ?_⟩
  suffices H : ∀ d i : Nat, ∀ σ' ys, (∀ y ∈ ys, Q y) → n - i = d → 0 < i → OwnI .u32 σ' p n c ys → Ext (σ.del p) (σ'.del p) → Asc ys (min i n) (fun _ => True) → slices_insertionSortOrdered_uint32.pt6 R p n c 0 n i σ' from
    H (n - 1) 1 σ xs hQ rfl (by omega) ho (Ext.refl _) (fun a b x y hab hb' _ _ _ => by omega)
  intro d
  induction d with
  | zero =>
    intro i σ' ys hq hd hi hown hx hs
    refine slices_insertionSortOrdered_uint32.pt6_of ⟨fun hlt => by omega, fun _ => h σ' ys hq hown hx ?_⟩
    rwa [Nat.min_eq_right (by omega)] at hs
  | succ d ih =>
    intro i σ' ys hq hd hi hown hx hs
    have hin : i < n := by omega
    rw [Nat.min_eq_left (by omega)] at hs
    refine slices_insertionSortOrdered_uint32.pt6_of ⟨fun _ => ?_, fun hge => by omega⟩
    suffices H2 : ∀ j : Nat, ∀ σ' ys, (∀ y ∈ ys, Q y) → j ≤ i → OwnI .u32 σ' p n c ys → Ext (σ.del p) (σ'.del p) → Asc ys (i + 1) (fun b => b ≠ j) → slices_insertionSortOrdered_uint32.pt18 R p n c 0 n i j σ' from
      H2 i σ' ys hq (Nat.le_refl _) hown hx (fun a b x y hab hb' hne => hs a b x y hab (by omega) trivial)
    intro j
    induction j with
    | zero =>
      intro σ' ys hq _ hown hx hs
      refine slices_insertionSortOrdered_uint32.pt18_of ⟨fun hlt => by omega, fun _ => ⟨i64_succ hin hb, ih (i + 1) σ' ys hq (by omega) (by omega) hown hx ?_⟩⟩
      rw [Nat.min_eq_left (by omega)]
      exact fun a b x y hab hb' _ => hs a b x y hab hb' (by omega)
    | succ j ihj =>
      intro σ' ys hq hji hown hx hs
      refine slices_insertionSortOrdered_uint32.pt18_of ⟨fun _ => ?_, fun hge => by omega⟩
      obtain ⟨x, hxv⟩ := hown.rd.ex (k := j + 1) (by omega)
      obtain ⟨y, hyv⟩ := hown.rd.ex (k := j) (by omega)
      have hylen := hown.rd.1
      obtain ⟨b, o, hp, hl⟩ := hown.rd.at hxv
      obtain ⟨b', o', hp', hl'⟩ := hown.rd.at hyv
      rw [hp] at hp'; cases hp'
      have e : ((j + 1 : Nat) : Int) - 1 = (j : Nat) := by omega
      have hdone : ¬ x < y → Asc ys (min (i + 1) n) (fun _ => True) := by
        intro hf
        have hge : y ≤ x := by omega
        rw [Nat.min_eq_left (by omega)]
        intro a b' u v hab hbi _ hu hv
        by_cases hb1 : b' = j + 1
        · subst hb1
          rw [hxv] at hv; cases hv
          by_cases ha : a = j
          · subst ha; rw [hyv] at hu; cases hu; exact hge
          · have := hs a j u y (by omega) (by omega) (by omega) hu hyv
            omega
        · exact hs a b' u v hab (by omega) hb1 hu hv
      refine ⟨b, o, hp, by omega, x, by simpa using hl, by unfold I64; omega, by omega, y, by rw [e]; simpa using hl', less_spec ⟨_, rfl, fun ht => ?swap, fun hf => ⟨i64_succ hin hb, by rw [← hp]; exact ih (i + 1) σ' ys hq (by omega) (by omega) hown hx (hdone (by simpa using hf))⟩⟩⟩
      case swap =>
        have hlt : x < y := by simpa using ht
        refine ⟨by unfold I64; omega, by unfold I64; omega, by omega, y, by rw [e]; simpa using hl', by omega, x, by simpa using hl, by omega, ?_⟩
        suffices H3 : ∀ σ2, OwnI .u32 σ2 p n c (ys.set (j + 1) y) → Ext (σ'.del p) (σ2.del p) → ((0 : Int) ≤ ((j + 1 : Nat) : Int) - 1 ∧ ((j + 1 : Nat) : Int) - 1 < ((n : Nat) : Int)) ∧ Eff prog (Instr.storeAt 26 (.pointer (some ⟨b, (o + Int.toNat (((j + 1 : Nat) : Int) - 1) * 1), none⟩)) (.int .u32 x)) σ2 (fun _ σ1_3 => I64 (((j + 1 : Nat) : Int) - 1) ∧ slices_insertionSortOrdered_uint32.pt18 R (some ⟨b, o, none⟩) n c 0 n i (((j + 1 : Nat) : Int) - 1) σ1_3) by
          obtain ⟨b1, o1, hp1, heff⟩ := OwnI.stores hown (P := prog) (T := 26) (i := j + 1) (v := y) (by omega) sizeW H3
          rw [hp] at hp1; cases hp1
          simpa using heff
        intro σ2 hown2 hx2
        refine ⟨by omega, ?_⟩
        suffices H4 : ∀ σ3, OwnI .u32 σ3 p n c ((ys.set (j + 1) y).set j x) → Ext (σ2.del p) (σ3.del p) → I64 (((j + 1 : Nat) : Int) - 1) ∧ slices_insertionSortOrdered_uint32.pt18 R (some ⟨b, o, none⟩) n c 0 n i (((j + 1 : Nat) : Int) - 1) σ3 by
          obtain ⟨b3, o3, hp3, heff3⟩ := OwnI.stores hown2 (P := prog) (T := 26) (i := j) (v := x) (by omega) sizeW H4
          rw [hp] at hp3; cases hp3
          rw [e]; simpa [e] using heff3
        intro σ3 hown3 hx3
        have dummy : True := trivial
        · · refine ⟨by unfold I64; omega, ?_⟩
            rw [e, ← hp]
            have hq3 : ∀ z ∈ (ys.set (j + 1) y).set j x, Q z := fun z hz => by
              rcases List.mem_or_eq_of_mem_set hz with hz | rfl
              · rcases List.mem_or_eq_of_mem_set hz with hz | rfl
                · exact hq z hz
                · exact hq z (List.mem_of_getElem? hyv)
              · exact hq z (List.mem_of_getElem? hxv)
            refine ihj σ3 _ hq3 (by omega) hown3 ((hx.trans hx2).trans hx3) ?_
            intro a b' u v hab hbi hne hu hv
            rw [List.getElem?_set, List.getElem?_set] at hu hv
            simp only [List.length_set] at hu hv
            have fact := fun a b u v h1 h2 h3 h4 h5 => hs a b u v h1 h2 h3 h4 h5
            by_cases hb1 : b' = j + 1
            · subst hb1
              rw [if_neg (by omega), if_pos rfl, if_pos (by omega)] at hv
              cases hv
              by_cases ha : a = j
              · subst ha
                rw [if_pos rfl, if_pos (by omega)] at hu
                cases hu; omega
              · rw [if_neg (by omega), if_neg (by omega)] at hu
                exact fact a j u y (by omega) (by omega) (by omega) hu hyv
            · rw [if_neg (by omega), if_neg (by omega)] at hv
              by_cases ha : a = j
              · subst ha
                rw [if_pos rfl, if_pos (by omega)] at hu
                cases hu
                exact fact (a + 1) b' x v (by omega) (by omega) (by omega) hxv hv
              · rw [if_neg (by omega)] at hu
                by_cases ha1 : a = j + 1
                · subst ha1
                  rw [if_pos rfl, if_pos (by omega)] at hu
                  cases hu
                  exact fact j b' y v (by omega) (by omega) (by omega) hyv hv
                · rw [if_neg (by omega)] at hu
                  exact fact a b' u v hab (by omega) (by omega) hu hv
end TwR
end
section
/- written by gen.py: program points and what leads to them -/
set_option linter.unusedVariables false
set_option maxRecDepth 100000
namespace TwR
open Go Tw Go.Proofs.Try
namespace ring_Tokens
abbrev fid : Nat := 36
noncomputable def K0 : Code := f36.body.getD .skip
noncomputable def K1 := Tw.cl K0
noncomputable def K2 := Tw.cr K0
noncomputable def K3 := Tw.cl K2
noncomputable def K4 := Tw.cr K2
noncomputable def K5 := Tw.cl K4
noncomputable def K6 := Tw.cl K5
noncomputable def K7 := Tw.cr K5
noncomputable def K8 := Tw.cl K7
noncomputable def K9 := Tw.cl K8
noncomputable def K10 := Tw.cl K9
noncomputable def K11 := Tw.cl K10
noncomputable def K12 := Tw.cr K10
noncomputable def K13 := Tw.cl K12
noncomputable def K14 := Tw.cr K12
noncomputable def K15 := Tw.cr K9
noncomputable def K16 := Tw.cl K15
noncomputable def K17 := Tw.cl K16
noncomputable def K18 := Tw.cr K15
noncomputable def K19 := Tw.cr K4
noncomputable def K20 := Tw.cl K19
noncomputable def K21 := Tw.cr K19
noncomputable def K22 := Tw.cl K21
noncomputable def K23 := Tw.cr K21
noncomputable abbrev gl (R : Ending → Hp → Prop) : Gl := Gl.fn prog 36 22 R
def pt11 (R : Ending → Hp → Prop) (x0 : Int) (p3 : Option Addr) (n3 : Nat) (c3 : Nat) (x4 : Int) (σ : Hp) : Prop := ∀ (J : Env), At (gl R) [.code K11, .code K12, .code K15, .inLoop K9, .inBlock 0, .code K19] (upds J [(0, (.int .i64 x0)), (3, (.slice p3 n3 c3)), (4, (.int .u64 x4))]) [] σ
theorem start {R : Ending → Hp → Prop} {x0 : Int} {σ : Hp} (h : pt11 R x0 none 0 0 0 σ) : Spec prog 36 #[(.int .i64 x0)] σ R := by
 refine Spec.of_at (fn := f36) (c := K0) func36 (by kernel_rfl) (Nat.le_of_ble_eq_true (by kernel_rfl)) (fun e he => ?_)
 refine At.ofL (l := [(0, (.int .i64 x0))]) ⟨he 0, trivial⟩ (fun J => ?_)
 show At (gl R) _ _ _ _
 refine At.s K1 K2 ?_
 refine At.rg 0 [0] ?_
 refine Seq.u 2 (.slice none 0 0) ?_
 refine Seq.done ?_
 refine At.L [(0, (.int .i64 x0))] fun J => ?_
 refine At.s K3 K4 ?_
 refine At.rg 1 [0] ?_
 refine Seq.u 3 (.slice none 0 0) ?_
 refine Seq.done ?_
 refine At.L [(0, (.int .i64 x0)), (3, (.slice none 0 0))] fun J => ?_
 refine At.s K5 K19 ?_
 refine At.s K6 K7 ?_
 refine At.rg 2 [0] ?_
 refine Seq.u 4 (.int .u64 0) ?_
 refine Seq.done ?_
 refine At.L [(0, (.int .i64 x0)), (3, (.slice none 0 0)), (4, (.int .u64 0))] fun J => ?_
 refine At.b 0 K8 ?_
 refine At.loop (x := K9) (by kernel_rfl) ?_
 refine At.s K10 K15 ?_
 refine At.s K11 K12 ?_
 exact At.v [(0, (.int .i64 x0)), (3, (.slice none 0 0)), (4, (.int .u64 0))] (h _)
theorem pt11_of {R : Ending → Hp → Prop} {x0 : Int} {p3 : Option Addr} {n3 : Nat} {c3 : Nat} {x4 : Int} {σ : Hp} (h : ((x4 : Int) < 4 → ∀ x11 : Int, x11 = IntKind.u64.wrap x0 → Spec prog 40 #[(.slice none 0 0), (.int .u64 x11)] σ (Cont R (fun v σ1 => ∃ p12 : Option Addr, ∃ n12 : Nat, ∃ c12 : Nat, v = (.slice p12 n12 c12) ∧ Spec prog 40 #[(.slice p12 n12 c12), (.int .u64 x4)] σ1 (Cont R (fun v_2 σ1_2 => ∃ p14 : Option Addr, ∃ n14 : Nat, ∃ c14 : Nat, v_2 = (.slice p14 n14 c14) ∧ Spec prog 61 #[(.slice p14 n14 c14)] σ1_2 (Cont R (fun v_3 σ1_3 => ∃ x15 : Int, v_3 = (.int .u32 x15) ∧ ∀ b16 : Nat, σ1_3 b16 = none → Eff prog (Builtin.append_ #[53, 53] 53 #[(.slice p3 n3 c3), (.slice (some ⟨b16, 0, none⟩) 1 1)]) (Hp.set σ1_3 b16 (.cells #[(.int .u32 x15)] 26 (0, 0))) (fun v_4 σ1_4 => ∃ p17 : Option Addr, ∃ n17 : Nat, ∃ c17 : Nat, v_4 = (.slice p17 n17 c17) ∧ ∀ x8 : Int, x8 = IntKind.u64.wrap (x4 + 1) → pt11 R x0 p17 n17 c17 x8 σ1_4)))))))) ∧ (¬ ((x4 : Int) < 4) → Spec prog 62 #[(.slice p3 n3 c3)] σ (Cont R (fun v σ1 => v = (.tuple #[]) ∧ Spec prog 63 #[(.slice p3 n3 c3)] σ1 (Cont R (fun v_2 σ1_2 => ∃ p21 : Option Addr, ∃ n21 : Nat, ∃ c21 : Nat, v_2 = (.slice p21 n21 c21) ∧ R (.returned (.slice p21 n21 c21)) σ1_2)))))) : pt11 R x0 p3 n3 c3 x4 σ := by
 intro J
 show At (gl R) _ _ _ _
 refine At.rg 3 [0, 1] ?_
 refine Seq.u 5 (.int .u64 x4) ?_
 refine Seq.u 6 (.bool (decide ((x4 : Int) < 4))) ?_
 refine Seq.done ?_
 refine At.L [(0, (.int .i64 x0)), (3, (.slice p3 n3 c3)), (4, (.int .u64 x4)), (6, (.bool (decide ((x4 : Int) < 4))))] fun J => ?_
 cases hb : (decide ((x4 : Int) < 4)) with
 | true =>
  replace h := h.1 (of_decide_eq_true hb)
  refine At.cT 6 K13 K14 ?_
  refine At.skip ?_
  refine At.s K16 K18 ?_
  refine At.b 1 K17 ?_
  refine At.rg 5 [0, 1, 2, 3, 4, 5, 6, 7, 8, 9] ?_
  refine Seq.u 9 (.slice p3 n3 c3) ?_
  refine Seq.u 10 (.int .i64 x0) ?_
  obtain ⟨x11, hwx11⟩ : ∃ y, y = IntKind.u64.wrap x0 := ⟨_, rfl⟩
  replace h := h x11 hwx11
  refine Seq.y (d := (some 11)) (op := (.convert 3 22 (.tmp 10))) (ty := 22) (v := (.int .u64 x11)) (by kernel_rfl) rfl (hwx11 ▸ Y.conv (by kernel_rfl) underlying22 rfl) ?_
  refine Seq.o ?_
  refine OpTo.cl (some 12) call40 (h.cont fun v σ1 h2 => ?_); replace h := h2; clear h2
  obtain ⟨p12, n12, c12, rfl, h⟩ := h
  refine Seq.u 13 (.int .u64 x4) ?_
  refine Seq.o ?_
  refine OpTo.cl (some 14) call40 (h.cont fun v_2 σ1_2 h2 => ?_); replace h := h2; clear h2
  obtain ⟨p14, n14, c14, rfl, h⟩ := h
  refine Seq.o ?_
  refine OpTo.cl (some 15) call61 (h.cont fun v_3 σ1_3 h2 => ?_); replace h := h2; clear h2
  obtain ⟨x15, rfl, h⟩ := h
  refine Seq.o ?_
  refine OpTo.bslice (T := 53) (E := 26) (m := 1) (ps := #[(0, (.tmp 15))]) (d := (some 16)) (ty := 53) (gd := none) (vs := [(0, (.int .u32 x15))]) (cs := #[(.int .u32 x15)]) underlying53 (by kernel_rfl) rfl rfl rfl (by kernel_rfl) (fun b16 hn => ?_)
  replace h := h b16 hn
  refine Seq.o ?_
  refine OpTo.eff (d := (some 17)) (op := (.call { callee := .builtin .append, args := #[(.tmp 9), (.tmp 16)], argTypes := #[53, 53] })) (ty := 53) (gd := none) (by kernel_rfl) rfl rfl (Builtin.append_ #[53, 53] 53 #[(.slice p3 n3 c3), (.slice (some ⟨b16, 0, none⟩) 1 1)]) (fun o ho ht => exec_b_append rfl rfl o ho ht) (h.mono (fun v_4 σ1_4 h2 => ?_)); replace h := h2; clear h2
  obtain ⟨p17, n17, c17, rfl, h⟩ := h
  refine Seq.u 3 (.slice p17 n17 c17) ?_
  refine Seq.done ?_
  refine At.L [(0, (.int .i64 x0)), (3, (.slice p17 n17 c17)), (4, (.int .u64 x4))] fun J => ?_
  refine At.inBlock ?_
  refine At.rg 4 [0, 1, 2] ?_
  refine Seq.u 7 (.int .u64 x4) ?_
  obtain ⟨x8, hwx8⟩ : ∃ y, y = IntKind.u64.wrap (x4 + 1) := ⟨_, rfl⟩
  replace h := h x8 hwx8
  refine Seq.y (d := (some 8)) (op := (.binOp .add 22 (.tmp 7) (.const (.int .u64 1)) 22)) (ty := 22) (v := (.int .u64 x8)) (by kernel_rfl) rfl (hwx8 ▸ Y.add rfl rfl) ?_
  refine Seq.u 4 (.int .u64 x8) ?_
  refine Seq.done ?_
  refine At.L [(0, (.int .i64 x0)), (3, (.slice p17 n17 c17)), (4, (.int .u64 x8))] fun J => ?_
  refine At.inLoop ?_
  refine At.s K10 K15 ?_
  refine At.s K11 K12 ?_
  exact At.v [(0, (.int .i64 x0)), (3, (.slice p17 n17 c17)), (4, (.int .u64 x8))] (h _)
 | false =>
  replace h := h.2 (of_decide_eq_false hb)
  refine At.cF 6 K13 K14 ?_
  refine At.x 0 [.code K19] ?_
  refine At.s K20 K21 ?_
  refine At.rg 6 [0, 1] ?_
  refine Seq.u 18 (.slice p3 n3 c3) ?_
  refine Seq.o ?_
  refine OpTo.cl (some 19) call62 (h.cont fun v σ1 h2 => ?_); replace h := h2; clear h2
  obtain ⟨rfl, h⟩ := h
  refine Seq.done ?_
  refine At.L [(3, (.slice p3 n3 c3))] fun J => ?_
  refine At.s K22 K23 ?_
  refine At.rg 7 [0, 1, 2] ?_
  refine Seq.u 20 (.slice p3 n3 c3) ?_
  refine Seq.o ?_
  refine OpTo.cl (some 21) call63 (h.cont fun v_2 σ1_2 h2 => ?_); replace h := h2; clear h2
  obtain ⟨p21, n21, c21, rfl, h⟩ := h
  refine Seq.u 2 (.slice p21 n21 c21) ?_
  refine Seq.done ?_
  refine At.L [(2, (.slice p21 n21 c21))] fun J => ?_
  exact At.rt [.tmp 2] [(.slice p21 n21 c21)] func36 ⟨_, rfl, rfl⟩ h
end ring_Tokens
namespace ref2_PutUint
abbrev fid : Nat := 37
noncomputable def K0 : Code := f37.body.getD .skip
noncomputable def K1 := Tw.cl K0
noncomputable def K2 := Tw.cr K0
noncomputable def K3 := Tw.cl K2
noncomputable def K4 := Tw.cr K2
noncomputable def K5 := Tw.cl K4
noncomputable def K6 := Tw.cl K5
noncomputable def K7 := Tw.cl K6
noncomputable def K8 := Tw.cl K7
noncomputable def K9 := Tw.cl K8
noncomputable def K10 := Tw.cr K8
noncomputable def K11 := Tw.cl K10
noncomputable def K12 := Tw.cr K10
noncomputable def K13 := Tw.cr K7
noncomputable def K14 := Tw.cl K13
noncomputable def K15 := Tw.cl K14
noncomputable def K16 := Tw.cr K14
noncomputable def K17 := Tw.cr K4
noncomputable def K18 := Tw.cl K17
noncomputable def K19 := Tw.cr K17
noncomputable abbrev gl (R : Ending → Hp → Prop) : Gl := Gl.fn prog 37 25 R
def pt9 (R : Ending → Hp → Prop) (x1 : Int) (p5 : Option Addr) (n5 : Nat) (c5 : Nat) (σ : Hp) : Prop := ∀ (J : Env), At (gl R) [.code K9, .code K10, .code K13, .inLoop K7, .inBlock 0, .code K17] (upds J [(1, (.int .u64 x1)), (5, (.slice p5 n5 c5))]) [] σ
theorem start {R : Ending → Hp → Prop} {p0 : Option Addr} {n0 : Nat} {c0 : Nat} {x1 : Int} {σ : Hp} (h : ∀ b6 : Nat, σ b6 = none → Eff prog (Builtin.append_ #[37, 37] 37 #[(.slice (some ⟨b6, 0, none⟩) 0 0), (.slice p0 n0 c0)]) (Hp.set σ b6 (.cells #[] 5 (0, 0))) (fun v σ1 => ∃ p8 : Option Addr, ∃ n8 : Nat, ∃ c8 : Nat, v = (.slice p8 n8 c8) ∧ pt9 R x1 p8 n8 c8 σ1)) : Spec prog 37 #[(.slice p0 n0 c0), (.int .u64 x1)] σ R := by
 refine Spec.of_at (fn := f37) (c := K0) func37 (by kernel_rfl) (Nat.le_of_ble_eq_true (by kernel_rfl)) (fun e he => ?_)
 refine At.ofL (l := [(0, (.slice p0 n0 c0)), (1, (.int .u64 x1))]) ⟨he 0, he 1, trivial⟩ (fun J => ?_)
 show At (gl R) _ _ _ _
 refine At.s K1 K2 ?_
 refine At.rg 0 [0] ?_
 refine Seq.u 4 (.slice none 0 0) ?_
 refine Seq.done ?_
 refine At.L [(0, (.slice p0 n0 c0)), (1, (.int .u64 x1))] fun J => ?_
 refine At.s K3 K4 ?_
 refine At.rg 1 [0, 1, 2, 3] ?_
 refine Seq.o ?_
 refine OpTo.bslice (T := 37) (E := 5) (m := 0) (ps := #[]) (d := (some 6)) (ty := 37) (gd := none) (vs := []) (cs := #[]) underlying37 (by kernel_rfl) rfl rfl rfl (by kernel_rfl) (fun b6 hn => ?_)
 replace h := h b6 hn
 refine Seq.u 7 (.slice p0 n0 c0) ?_
 refine Seq.o ?_
 refine OpTo.eff (d := (some 8)) (op := (.call { callee := .builtin .append, args := #[(.tmp 6), (.tmp 7)], argTypes := #[37, 37] })) (ty := 37) (gd := none) (by kernel_rfl) rfl rfl (Builtin.append_ #[37, 37] 37 #[(.slice (some ⟨b6, 0, none⟩) 0 0), (.slice p0 n0 c0)]) (fun o ho ht => exec_b_append rfl rfl o ho ht) (h.mono (fun v σ1 h2 => ?_)); replace h := h2; clear h2
 obtain ⟨p8, n8, c8, rfl, h⟩ := h
 refine Seq.u 5 (.slice p8 n8 c8) ?_
 refine Seq.done ?_
 refine At.L [(1, (.int .u64 x1)), (5, (.slice p8 n8 c8))] fun J => ?_
 refine At.s K5 K17 ?_
 refine At.b 0 K6 ?_
 refine At.loop (x := K7) (by kernel_rfl) ?_
 refine At.s K8 K13 ?_
 refine At.s K9 K10 ?_
 exact At.v [(1, (.int .u64 x1)), (5, (.slice p8 n8 c8))] (h _)
theorem pt9_of {R : Ending → Hp → Prop} {x1 : Int} {p5 : Option Addr} {n5 : Nat} {c5 : Nat} {σ : Hp} (h : ((128 : Int) ≤ x1 → ∀ x13 : Int, x13 = Go.bits .and .u64 x1 127 → ∀ x14 : Int, x14 = Go.bits .or .u64 x13 128 → ∀ x15 : Int, x15 = IntKind.u8.wrap x14 → ∀ b16 : Nat, σ b16 = none → Eff prog (Builtin.append_ #[37, 37] 37 #[(.slice p5 n5 c5), (.slice (some ⟨b16, 0, none⟩) 1 1)]) (Hp.set σ b16 (.cells #[(.int .u8 x15)] 5 (0, 0))) (fun v σ1 => ∃ p17 : Option Addr, ∃ n17 : Nat, ∃ c17 : Nat, v = (.slice p17 n17 c17) ∧ ((0 : Int) ≤ 7 ∧ 7 ≤ ((IntKind.bits .u64 : Nat) : Int)) ∧ ∀ x19 : Int, x19 = x1 / 2 ^ Int.toNat 7 → pt9 R x19 p17 n17 c17 σ1)) ∧ (¬ ((128 : Int) ≤ x1) → ∀ x22 : Int, x22 = IntKind.u8.wrap x1 → ∀ b23 : Nat, σ b23 = none → Eff prog (Builtin.append_ #[37, 37] 37 #[(.slice p5 n5 c5), (.slice (some ⟨b23, 0, none⟩) 1 1)]) (Hp.set σ b23 (.cells #[(.int .u8 x22)] 5 (0, 0))) (fun v σ1 => ∃ p24 : Option Addr, ∃ n24 : Nat, ∃ c24 : Nat, v = (.slice p24 n24 c24) ∧ R (.returned (.slice p24 n24 c24)) σ1))) : pt9 R x1 p5 n5 c5 σ := by
 intro J
 show At (gl R) _ _ _ _
 refine At.rg 2 [0, 1] ?_
 refine Seq.u 9 (.int .u64 x1) ?_
 refine Seq.u 10 (.bool (decide ((128 : Int) ≤ x1))) ?_
 refine Seq.done ?_
 refine At.L [(1, (.int .u64 x1)), (5, (.slice p5 n5 c5)), (10, (.bool (decide ((128 : Int) ≤ x1))))] fun J => ?_
 cases hb : (decide ((128 : Int) ≤ x1)) with
 | true =>
  replace h := h.1 (of_decide_eq_true hb)
  refine At.cT 10 K11 K12 ?_
  refine At.skip ?_
  refine At.b 1 K14 ?_
  refine At.s K15 K16 ?_
  refine At.rg 3 [0, 1, 2, 3, 4, 5, 6, 7] ?_
  refine Seq.u 11 (.slice p5 n5 c5) ?_
  refine Seq.u 12 (.int .u64 x1) ?_
  obtain ⟨x13, hwx13⟩ : ∃ y, y = Go.bits .and .u64 x1 127 := ⟨_, rfl⟩
  replace h := h x13 hwx13
  refine Seq.y (d := (some 13)) (op := (.binOp .and 22 (.tmp 12) (.const (.int .u64 127)) 22)) (ty := 22) (v := (.int .u64 x13)) (by kernel_rfl) rfl (hwx13 ▸ Y.bits (by simp) rfl rfl) ?_
  obtain ⟨x14, hwx14⟩ : ∃ y, y = Go.bits .or .u64 x13 128 := ⟨_, rfl⟩
  replace h := h x14 hwx14
  refine Seq.y (d := (some 14)) (op := (.binOp .or 22 (.tmp 13) (.const (.int .u64 128)) 22)) (ty := 22) (v := (.int .u64 x14)) (by kernel_rfl) rfl (hwx14 ▸ Y.bits (by simp) rfl rfl) ?_
  obtain ⟨x15, hwx15⟩ : ∃ y, y = IntKind.u8.wrap x14 := ⟨_, rfl⟩
  replace h := h x15 hwx15
  refine Seq.y (d := (some 15)) (op := (.convert 22 5 (.tmp 14))) (ty := 5) (v := (.int .u8 x15)) (by kernel_rfl) rfl (hwx15 ▸ Y.conv (by kernel_rfl) underlying5 rfl) ?_
  refine Seq.o ?_
  refine OpTo.bslice (T := 37) (E := 5) (m := 1) (ps := #[(0, (.tmp 15))]) (d := (some 16)) (ty := 37) (gd := none) (vs := [(0, (.int .u8 x15))]) (cs := #[(.int .u8 x15)]) underlying37 (by kernel_rfl) rfl rfl rfl (by kernel_rfl) (fun b16 hn => ?_)
  replace h := h b16 hn
  refine Seq.o ?_
  refine OpTo.eff (d := (some 17)) (op := (.call { callee := .builtin .append, args := #[(.tmp 11), (.tmp 16)], argTypes := #[37, 37] })) (ty := 37) (gd := none) (by kernel_rfl) rfl rfl (Builtin.append_ #[37, 37] 37 #[(.slice p5 n5 c5), (.slice (some ⟨b16, 0, none⟩) 1 1)]) (fun o ho ht => exec_b_append rfl rfl o ho ht) (h.mono (fun v σ1 h2 => ?_)); replace h := h2; clear h2
  obtain ⟨p17, n17, c17, rfl, h⟩ := h
  refine Seq.u 5 (.slice p17 n17 c17) ?_
  refine Seq.done ?_
  refine At.L [(1, (.int .u64 x1)), (5, (.slice p17 n17 c17))] fun J => ?_
  refine At.rg 4 [0, 1, 2] ?_
  refine Seq.u 18 (.int .u64 x1) ?_
  obtain ⟨hc, h⟩ := h
  obtain ⟨x19, hwx19⟩ : ∃ y, y = x1 / 2 ^ Int.toNat 7 := ⟨_, rfl⟩
  replace h := h x19 hwx19
  refine Seq.y (d := (some 19)) (op := (.binOp .shr 22 (.tmp 18) (.const (.int .u64 7)) 90)) (ty := 22) (v := (.int .u64 x19)) (by kernel_rfl) rfl (hwx19 ▸ Y.shr hc.1 hc.2 rfl rfl) ?_
  refine Seq.u 1 (.int .u64 x19) ?_
  refine Seq.done ?_
  refine At.L [(1, (.int .u64 x19)), (5, (.slice p17 n17 c17))] fun J => ?_
  refine At.inBlock ?_
  refine At.inLoop ?_
  refine At.s K8 K13 ?_
  refine At.s K9 K10 ?_
  exact At.v [(1, (.int .u64 x19)), (5, (.slice p17 n17 c17))] (h _)
 | false =>
  replace h := h.2 (of_decide_eq_false hb)
  refine At.cF 10 K11 K12 ?_
  refine At.x 0 [.code K17] ?_
  refine At.s K18 K19 ?_
  refine At.rg 5 [0, 1, 2, 3, 4, 5] ?_
  refine Seq.u 20 (.slice p5 n5 c5) ?_
  refine Seq.u 21 (.int .u64 x1) ?_
  obtain ⟨x22, hwx22⟩ : ∃ y, y = IntKind.u8.wrap x1 := ⟨_, rfl⟩
  replace h := h x22 hwx22
  refine Seq.y (d := (some 22)) (op := (.convert 22 5 (.tmp 21))) (ty := 5) (v := (.int .u8 x22)) (by kernel_rfl) rfl (hwx22 ▸ Y.conv (by kernel_rfl) underlying5 rfl) ?_
  refine Seq.o ?_
  refine OpTo.bslice (T := 37) (E := 5) (m := 1) (ps := #[(0, (.tmp 22))]) (d := (some 23)) (ty := 37) (gd := none) (vs := [(0, (.int .u8 x22))]) (cs := #[(.int .u8 x22)]) underlying37 (by kernel_rfl) rfl rfl rfl (by kernel_rfl) (fun b23 hn => ?_)
  replace h := h b23 hn
  refine Seq.o ?_
  refine OpTo.eff (d := (some 24)) (op := (.call { callee := .builtin .append, args := #[(.tmp 20), (.tmp 23)], argTypes := #[37, 37] })) (ty := 37) (gd := none) (by kernel_rfl) rfl rfl (Builtin.append_ #[37, 37] 37 #[(.slice p5 n5 c5), (.slice (some ⟨b23, 0, none⟩) 1 1)]) (fun o ho ht => exec_b_append rfl rfl o ho ht) (h.mono (fun v σ1 h2 => ?_)); replace h := h2; clear h2
  obtain ⟨p24, n24, c24, rfl, h⟩ := h
  refine Seq.u 4 (.slice p24 n24 c24) ?_
  refine Seq.done ?_
  refine At.L [(4, (.slice p24 n24 c24))] fun J => ?_
  exact At.rt [.tmp 4] [(.slice p24 n24 c24)] func37 ⟨_, rfl, rfl⟩ h
end ref2_PutUint
namespace codec_PutUint
abbrev fid : Nat := 40
noncomputable def K0 : Code := f40.body.getD .skip
noncomputable def K1 := Tw.cl K0
noncomputable def K2 := Tw.cr K0
noncomputable def K3 := Tw.cl K2
noncomputable def K4 := Tw.cr K2
noncomputable def K5 := Tw.cl K4
noncomputable def K6 := Tw.cl K5
noncomputable def K7 := Tw.cl K6
noncomputable def K8 := Tw.cl K7
noncomputable def K9 := Tw.cl K8
noncomputable def K10 := Tw.cr K8
noncomputable def K11 := Tw.cl K10
noncomputable def K12 := Tw.cr K10
noncomputable def K13 := Tw.cr K7
noncomputable def K14 := Tw.cl K13
noncomputable def K15 := Tw.cl K14
noncomputable def K16 := Tw.cr K13
noncomputable def K17 := Tw.cr K4
noncomputable def K18 := Tw.cl K17
noncomputable def K19 := Tw.cr K17
noncomputable abbrev gl (R : Ending → Hp → Prop) : Gl := Gl.fn prog 40 24 R
def pt9 (R : Ending → Hp → Prop) (x1 : Int) (p5 : Option Addr) (n5 : Nat) (c5 : Nat) (σ : Hp) : Prop := ∀ (J : Env), At (gl R) [.code K9, .code K10, .code K13, .inLoop K7, .inBlock 0, .code K17] (upds J [(1, (.int .u64 x1)), (5, (.slice p5 n5 c5))]) [] σ
theorem start {R : Ending → Hp → Prop} {p0 : Option Addr} {n0 : Nat} {c0 : Nat} {x1 : Int} {σ : Hp} (h : ∀ b6 : Nat, σ b6 = none → Eff prog (Builtin.append_ #[37, 37] 37 #[(.slice (some ⟨b6, 0, none⟩) 0 0), (.slice p0 n0 c0)]) (Hp.set σ b6 (.cells #[] 5 (0, 0))) (fun v σ1 => ∃ p8 : Option Addr, ∃ n8 : Nat, ∃ c8 : Nat, v = (.slice p8 n8 c8) ∧ pt9 R x1 p8 n8 c8 σ1)) : Spec prog 40 #[(.slice p0 n0 c0), (.int .u64 x1)] σ R := by
 refine Spec.of_at (fn := f40) (c := K0) func40 (by kernel_rfl) (Nat.le_of_ble_eq_true (by kernel_rfl)) (fun e he => ?_)
 refine At.ofL (l := [(0, (.slice p0 n0 c0)), (1, (.int .u64 x1))]) ⟨he 0, he 1, trivial⟩ (fun J => ?_)
 show At (gl R) _ _ _ _
 refine At.s K1 K2 ?_
 refine At.rg 0 [0] ?_
 refine Seq.u 4 (.slice none 0 0) ?_
 refine Seq.done ?_
 refine At.L [(0, (.slice p0 n0 c0)), (1, (.int .u64 x1))] fun J => ?_
 refine At.s K3 K4 ?_
 refine At.rg 1 [0, 1, 2, 3] ?_
 refine Seq.o ?_
 refine OpTo.bslice (T := 37) (E := 5) (m := 0) (ps := #[]) (d := (some 6)) (ty := 37) (gd := none) (vs := []) (cs := #[]) underlying37 (by kernel_rfl) rfl rfl rfl (by kernel_rfl) (fun b6 hn => ?_)
 replace h := h b6 hn
 refine Seq.u 7 (.slice p0 n0 c0) ?_
 refine Seq.o ?_
 refine OpTo.eff (d := (some 8)) (op := (.call { callee := .builtin .append, args := #[(.tmp 6), (.tmp 7)], argTypes := #[37, 37] })) (ty := 37) (gd := none) (by kernel_rfl) rfl rfl (Builtin.append_ #[37, 37] 37 #[(.slice (some ⟨b6, 0, none⟩) 0 0), (.slice p0 n0 c0)]) (fun o ho ht => exec_b_append rfl rfl o ho ht) (h.mono (fun v σ1 h2 => ?_)); replace h := h2; clear h2
 obtain ⟨p8, n8, c8, rfl, h⟩ := h
 refine Seq.u 5 (.slice p8 n8 c8) ?_
 refine Seq.done ?_
 refine At.L [(1, (.int .u64 x1)), (5, (.slice p8 n8 c8))] fun J => ?_
 refine At.s K5 K17 ?_
 refine At.b 0 K6 ?_
 refine At.loop (x := K7) (by kernel_rfl) ?_
 refine At.s K8 K13 ?_
 refine At.s K9 K10 ?_
 exact At.v [(1, (.int .u64 x1)), (5, (.slice p8 n8 c8))] (h _)
theorem pt9_of {R : Ending → Hp → Prop} {x1 : Int} {p5 : Option Addr} {n5 : Nat} {c5 : Nat} {σ : Hp} (h : ((127 : Int) < x1 → ∀ x15 : Int, x15 = IntKind.u8.wrap x1 → ∀ x16 : Int, x16 = Go.bits .or .u8 x15 128 → ∀ b17 : Nat, σ b17 = none → Eff prog (Builtin.append_ #[37, 37] 37 #[(.slice p5 n5 c5), (.slice (some ⟨b17, 0, none⟩) 1 1)]) (Hp.set σ b17 (.cells #[(.int .u8 x16)] 5 (0, 0))) (fun v σ1 => ∃ p18 : Option Addr, ∃ n18 : Nat, ∃ c18 : Nat, v = (.slice p18 n18 c18) ∧ ((0 : Int) ≤ 7 ∧ 7 ≤ ((IntKind.bits .u64 : Nat) : Int)) ∧ ∀ x12 : Int, x12 = x1 / 2 ^ Int.toNat 7 → pt9 R x12 p18 n18 c18 σ1)) ∧ (¬ ((127 : Int) < x1) → ∀ x21 : Int, x21 = IntKind.u8.wrap x1 → ∀ b22 : Nat, σ b22 = none → Eff prog (Builtin.append_ #[37, 37] 37 #[(.slice p5 n5 c5), (.slice (some ⟨b22, 0, none⟩) 1 1)]) (Hp.set σ b22 (.cells #[(.int .u8 x21)] 5 (0, 0))) (fun v σ1 => ∃ p23 : Option Addr, ∃ n23 : Nat, ∃ c23 : Nat, v = (.slice p23 n23 c23) ∧ R (.returned (.slice p23 n23 c23)) σ1))) : pt9 R x1 p5 n5 c5 σ := by
 intro J
 show At (gl R) _ _ _ _
 refine At.rg 2 [0, 1] ?_
 refine Seq.u 9 (.int .u64 x1) ?_
 refine Seq.u 10 (.bool (decide ((127 : Int) < x1))) ?_
 refine Seq.done ?_
 refine At.L [(1, (.int .u64 x1)), (5, (.slice p5 n5 c5)), (10, (.bool (decide ((127 : Int) < x1))))] fun J => ?_
 cases hb : (decide ((127 : Int) < x1)) with
 | true =>
  replace h := h.1 (of_decide_eq_true hb)
  refine At.cT 10 K11 K12 ?_
  refine At.skip ?_
  refine At.s K14 K16 ?_
  refine At.b 1 K15 ?_
  refine At.rg 4 [0, 1, 2, 3, 4, 5, 6] ?_
  refine Seq.u 13 (.slice p5 n5 c5) ?_
  refine Seq.u 14 (.int .u64 x1) ?_
  obtain ⟨x15, hwx15⟩ : ∃ y, y = IntKind.u8.wrap x1 := ⟨_, rfl⟩
  replace h := h x15 hwx15
  refine Seq.y (d := (some 15)) (op := (.convert 22 5 (.tmp 14))) (ty := 5) (v := (.int .u8 x15)) (by kernel_rfl) rfl (hwx15 ▸ Y.conv (by kernel_rfl) underlying5 rfl) ?_
  obtain ⟨x16, hwx16⟩ : ∃ y, y = Go.bits .or .u8 x15 128 := ⟨_, rfl⟩
  replace h := h x16 hwx16
  refine Seq.y (d := (some 16)) (op := (.binOp .or 5 (.tmp 15) (.const (.int .u8 128)) 5)) (ty := 5) (v := (.int .u8 x16)) (by kernel_rfl) rfl (hwx16 ▸ Y.bits (by simp) rfl rfl) ?_
  refine Seq.o ?_
  refine OpTo.bslice (T := 37) (E := 5) (m := 1) (ps := #[(0, (.tmp 16))]) (d := (some 17)) (ty := 37) (gd := none) (vs := [(0, (.int .u8 x16))]) (cs := #[(.int .u8 x16)]) underlying37 (by kernel_rfl) rfl rfl rfl (by kernel_rfl) (fun b17 hn => ?_)
  replace h := h b17 hn
  refine Seq.o ?_
  refine OpTo.eff (d := (some 18)) (op := (.call { callee := .builtin .append, args := #[(.tmp 13), (.tmp 17)], argTypes := #[37, 37] })) (ty := 37) (gd := none) (by kernel_rfl) rfl rfl (Builtin.append_ #[37, 37] 37 #[(.slice p5 n5 c5), (.slice (some ⟨b17, 0, none⟩) 1 1)]) (fun o ho ht => exec_b_append rfl rfl o ho ht) (h.mono (fun v σ1 h2 => ?_)); replace h := h2; clear h2
  obtain ⟨p18, n18, c18, rfl, h⟩ := h
  refine Seq.u 5 (.slice p18 n18 c18) ?_
  refine Seq.done ?_
  refine At.L [(1, (.int .u64 x1)), (5, (.slice p18 n18 c18))] fun J => ?_
  refine At.inBlock ?_
  refine At.rg 3 [0, 1, 2] ?_
  refine Seq.u 11 (.int .u64 x1) ?_
  obtain ⟨hc, h⟩ := h
  obtain ⟨x12, hwx12⟩ : ∃ y, y = x1 / 2 ^ Int.toNat 7 := ⟨_, rfl⟩
  replace h := h x12 hwx12
  refine Seq.y (d := (some 12)) (op := (.binOp .shr 22 (.tmp 11) (.const (.int .u64 7)) 90)) (ty := 22) (v := (.int .u64 x12)) (by kernel_rfl) rfl (hwx12 ▸ Y.shr hc.1 hc.2 rfl rfl) ?_
  refine Seq.u 1 (.int .u64 x12) ?_
  refine Seq.done ?_
  refine At.L [(1, (.int .u64 x12)), (5, (.slice p18 n18 c18))] fun J => ?_
  refine At.inLoop ?_
  refine At.s K8 K13 ?_
  refine At.s K9 K10 ?_
  exact At.v [(1, (.int .u64 x12)), (5, (.slice p18 n18 c18))] (h _)
 | false =>
  replace h := h.2 (of_decide_eq_false hb)
  refine At.cF 10 K11 K12 ?_
  refine At.x 0 [.code K17] ?_
  refine At.s K18 K19 ?_
  refine At.rg 5 [0, 1, 2, 3, 4, 5] ?_
  refine Seq.u 19 (.slice p5 n5 c5) ?_
  refine Seq.u 20 (.int .u64 x1) ?_
  obtain ⟨x21, hwx21⟩ : ∃ y, y = IntKind.u8.wrap x1 := ⟨_, rfl⟩
  replace h := h x21 hwx21
  refine Seq.y (d := (some 21)) (op := (.convert 22 5 (.tmp 20))) (ty := 5) (v := (.int .u8 x21)) (by kernel_rfl) rfl (hwx21 ▸ Y.conv (by kernel_rfl) underlying5 rfl) ?_
  refine Seq.o ?_
  refine OpTo.bslice (T := 37) (E := 5) (m := 1) (ps := #[(0, (.tmp 21))]) (d := (some 22)) (ty := 37) (gd := none) (vs := [(0, (.int .u8 x21))]) (cs := #[(.int .u8 x21)]) underlying37 (by kernel_rfl) rfl rfl rfl (by kernel_rfl) (fun b22 hn => ?_)
  replace h := h b22 hn
  refine Seq.o ?_
  refine OpTo.eff (d := (some 23)) (op := (.call { callee := .builtin .append, args := #[(.tmp 19), (.tmp 22)], argTypes := #[37, 37] })) (ty := 37) (gd := none) (by kernel_rfl) rfl rfl (Builtin.append_ #[37, 37] 37 #[(.slice p5 n5 c5), (.slice (some ⟨b22, 0, none⟩) 1 1)]) (fun o ho ht => exec_b_append rfl rfl o ho ht) (h.mono (fun v σ1 h2 => ?_)); replace h := h2; clear h2
  obtain ⟨p23, n23, c23, rfl, h⟩ := h
  refine Seq.u 4 (.slice p23 n23 c23) ?_
  refine Seq.done ?_
  refine At.L [(4, (.slice p23 n23 c23))] fun J => ?_
  exact At.rt [.tmp 4] [(.slice p23 n23 c23)] func40 ⟨_, rfl, rfl⟩ h
end codec_PutUint
namespace codec_Uint
abbrev fid : Nat := 42
noncomputable def K0 : Code := f42.body.getD .skip
noncomputable def K1 := Tw.cl K0
noncomputable def K2 := Tw.cr K0
noncomputable def K3 := Tw.cl K2
noncomputable def K4 := Tw.cl K3
noncomputable def K5 := Tw.cr K3
noncomputable def K6 := Tw.cl K5
noncomputable def K7 := Tw.cl K6
noncomputable def K8 := Tw.cr K6
noncomputable def K9 := Tw.cr K5
noncomputable def K10 := Tw.cr K2
noncomputable def K11 := Tw.cl K10
noncomputable def K12 := Tw.cr K10
noncomputable def K13 := Tw.cl K12
noncomputable def K14 := Tw.cl K13
noncomputable def K15 := Tw.cr K13
noncomputable def K16 := Tw.cl K15
noncomputable def K17 := Tw.cl K16
noncomputable def K18 := Tw.cl K17
noncomputable def K19 := Tw.cl K18
noncomputable def K20 := Tw.cr K18
noncomputable def K21 := Tw.cl K20
noncomputable def K22 := Tw.cr K20
noncomputable def K23 := Tw.cr K17
noncomputable def K24 := Tw.cl K23
noncomputable def K25 := Tw.cl K24
noncomputable def K26 := Tw.cl K25
noncomputable def K27 := Tw.cr K25
noncomputable def K28 := Tw.cl K27
noncomputable def K29 := Tw.cl K28
noncomputable def K30 := Tw.cr K28
noncomputable def K31 := Tw.cl K30
noncomputable def K32 := Tw.cl K31
noncomputable def K33 := Tw.cr K31
noncomputable def K34 := Tw.cr K30
noncomputable def K35 := Tw.cr K27
noncomputable def K36 := Tw.cl K35
noncomputable def K37 := Tw.cr K35
noncomputable def K38 := Tw.cl K37
noncomputable def K39 := Tw.cr K37
noncomputable def K40 := Tw.cl K39
noncomputable def K41 := Tw.cl K40
noncomputable def K42 := Tw.cr K40
noncomputable def K43 := Tw.cr K39
noncomputable def K44 := Tw.cr K23
noncomputable def K45 := Tw.cr K12
noncomputable def K46 := Tw.cl K45
noncomputable def K47 := Tw.cr K45
noncomputable abbrev gl (R : Ending → Hp → Prop) : Gl := Gl.fn prog 42 61 R
def pt19 (R : Ending → Hp → Prop) (p0 : Option Addr) (n0 : Nat) (c0 : Nat) (x1 : Int) (x7 : Int) (x8 : Int) (σ : Hp) : Prop := ∀ (J : Env), At (gl R) [.code K19, .code K20, .code K23, .inLoop K17, .inBlock 0, .code K45] (upds J [(0, (.slice p0 n0 c0)), (1, (.int .i64 x1)), (7, (.int .u64 x7)), (8, (.int .i64 x8))]) [] σ
theorem start {R : Ending → Hp → Prop} {p0 : Option Addr} {n0 : Nat} {c0 : Nat} {x1 : Int} {σ : Hp} (h : ((x1 : Int) < 0 → R (.returned (.tuple #[(.int .u64 0), (.int .i64 0), (.int .i64 20)])) σ) ∧ (¬ ((x1 : Int) < 0) → (((n0 : Int) : Int) < x1 → R (.returned (.tuple #[(.int .u64 0), (.int .i64 0), (.int .i64 20)])) σ) ∧ (¬ (((n0 : Int) : Int) < x1) → pt19 R p0 n0 c0 x1 0 0 σ))) : Spec prog 42 #[(.slice p0 n0 c0), (.int .i64 x1)] σ R := by
 refine Spec.of_at (fn := f42) (c := K0) func42 (by kernel_rfl) (Nat.le_of_ble_eq_true (by kernel_rfl)) (fun e he => ?_)
 refine At.ofL (l := [(0, (.slice p0 n0 c0)), (1, (.int .i64 x1))]) ⟨he 0, he 1, trivial⟩ (fun J => ?_)
 show At (gl R) _ _ _ _
 refine At.s K1 K2 ?_
 refine At.rg 0 [0, 1, 2] ?_
 refine Seq.u 4 (.int .u64 0) ?_
 refine Seq.u 5 (.int .i64 0) ?_
 refine Seq.u 6 (.int .i64 0) ?_
 refine Seq.done ?_
 refine At.L [(0, (.slice p0 n0 c0)), (1, (.int .i64 x1))] fun J => ?_
 refine At.s K3 K10 ?_
 refine At.s K4 K5 ?_
 refine At.rg 1 [0, 1, 2, 3, 4, 5, 6, 7] ?_
 refine Seq.u 10 (.int .i64 x1) ?_
 refine Seq.u 11 (.bool (decide ((x1 : Int) < 0))) ?_
 refine Seq.u 12 (.bool (decide ((x1 : Int) < 0))) ?_
 cases hb : (decide ((x1 : Int) < 0)) with
 | true =>
  replace h := h.1 (of_decide_eq_true hb)
  refine Seq.n 13 ?_
  refine Seq.n 14 ?_
  refine Seq.n 15 ?_
  refine Seq.n 16 ?_
  refine Seq.u 17 (.bool true) ?_
  refine Seq.done ?_
  refine At.L [(0, (.slice p0 n0 c0)), (1, (.int .i64 x1)), (17, (.bool true))] fun J => ?_
  refine At.cT 17 K6 K9 ?_
  refine At.s K7 K8 ?_
  refine At.rg 2 [0, 1, 2] ?_
  refine Seq.u 4 (.int .u64 0) ?_
  refine Seq.u 5 (.int .i64 0) ?_
  refine Seq.u 6 (.int .i64 20) ?_
  refine Seq.done ?_
  refine At.L [(4, (.int .u64 0)), (5, (.int .i64 0)), (6, (.int .i64 20))] fun J => ?_
  exact At.rt [.tmp 4, .tmp 5, .tmp 6] [(.int .u64 0), (.int .i64 0), (.int .i64 20)] func42 ⟨_, rfl, ⟨_, rfl, ⟨_, rfl, rfl⟩⟩⟩ h
 | false =>
  replace h := h.2 (of_decide_eq_false hb)
  refine Seq.u 13 (.int .i64 x1) ?_
  refine Seq.u 14 (.slice p0 n0 c0) ?_
  refine Seq.zg 15 (.call { callee := .builtin .len, args := #[(.tmp 14)], argTypes := #[37] }) 3 (2, false) (.int .i64 (n0 : Int)) (Y.lenS underlying37 rfl rfl) ?_
  refine Seq.u 16 (.bool (decide (((n0 : Int) : Int) < x1))) ?_
  refine Seq.u 17 (.bool (decide (((n0 : Int) : Int) < x1))) ?_
  refine Seq.done ?_
  refine At.L [(0, (.slice p0 n0 c0)), (1, (.int .i64 x1)), (17, (.bool (decide (((n0 : Int) : Int) < x1))))] fun J => ?_
  cases hb : (decide (((n0 : Int) : Int) < x1)) with
  | true =>
   replace h := h.1 (of_decide_eq_true hb)
   refine At.cT 17 K6 K9 ?_
   refine At.s K7 K8 ?_
   refine At.rg 2 [0, 1, 2] ?_
   refine Seq.u 4 (.int .u64 0) ?_
   refine Seq.u 5 (.int .i64 0) ?_
   refine Seq.u 6 (.int .i64 20) ?_
   refine Seq.done ?_
   refine At.L [(4, (.int .u64 0)), (5, (.int .i64 0)), (6, (.int .i64 20))] fun J => ?_
   exact At.rt [.tmp 4, .tmp 5, .tmp 6] [(.int .u64 0), (.int .i64 0), (.int .i64 20)] func42 ⟨_, rfl, ⟨_, rfl, ⟨_, rfl, rfl⟩⟩⟩ h
  | false =>
   replace h := h.2 (of_decide_eq_false hb)
   refine At.cF 17 K6 K9 ?_
   refine At.skip ?_
   refine At.s K11 K12 ?_
   refine At.rg 3 [0] ?_
   refine Seq.u 7 (.int .u64 0) ?_
   refine Seq.done ?_
   refine At.L [(0, (.slice p0 n0 c0)), (1, (.int .i64 x1)), (7, (.int .u64 0))] fun J => ?_
   refine At.s K13 K45 ?_
   refine At.s K14 K15 ?_
   refine At.rg 4 [0] ?_
   refine Seq.u 8 (.int .i64 0) ?_
   refine Seq.done ?_
   refine At.L [(0, (.slice p0 n0 c0)), (1, (.int .i64 x1)), (7, (.int .u64 0)), (8, (.int .i64 0))] fun J => ?_
   refine At.b 0 K16 ?_
   refine At.loop (x := K17) (by kernel_rfl) ?_
   refine At.s K18 K23 ?_
   refine At.s K19 K20 ?_
   exact At.v [(0, (.slice p0 n0 c0)), (1, (.int .i64 x1)), (7, (.int .u64 0)), (8, (.int .i64 0))] (h _)
theorem pt19_of {R : Ending → Hp → Prop} {p0 : Option Addr} {n0 : Nat} {c0 : Nat} {x1 : Int} {x7 : Int} {x8 : Int} {σ : Hp} (h : I64 (x1 + x8) ∧ (((x1 + x8) : Int) < (n0 : Int) → I64 (x1 + x8) ∧ ∃ (b30 o30 : Nat), p0 = some ⟨b30, o30, none⟩ ∧ ((0 : Int) ≤ (x1 + x8) ∧ (x1 + x8) < (n0 : Int)) ∧ ∃ x31 : Int, Hp.ld σ ⟨b30, (o30 + Int.toNat (x1 + x8) * 1), none⟩ = some (.int .u8 x31) ∧ ((x8 : Int) = 9 → ((1 : Int) < x31 → R (.returned (.tuple #[(.int .u64 0), (.int .i64 0), (.int .i64 21)])) σ) ∧ (¬ ((1 : Int) < x31) → ((0 : Int) < x8 → ((x31 : Int) = 0 → R (.returned (.tuple #[(.int .u64 0), (.int .i64 0), (.int .i64 21)])) σ) ∧ (¬ ((x31 : Int) = 0) → ∀ x48 : Int, x48 = Go.bits .and .u8 x31 127 → ∀ x49 : Int, x49 = IntKind.u64.wrap x48 → I64 (7 * x8) ∧ ((0 : Int) ≤ (7 * x8) ∧ (7 * x8) ≤ ((IntKind.bits .u64 : Nat) : Int)) ∧ ∀ x52 : Int, x52 = IntKind.u64.wrap (x49 * 2 ^ Int.toNat (7 * x8)) → ∀ x53 : Int, x53 = Go.bits .or .u64 x7 x52 → ((x31 : Int) < 128 → I64 (x1 + x8) ∧ I64 ((x1 + x8) + 1) ∧ R (.returned (.tuple #[(.int .u64 x53), (.int .i64 ((x1 + x8) + 1)), (.int .i64 0)])) σ) ∧ (¬ ((x31 : Int) < 128) → I64 (x8 + 1) ∧ pt19 R ((some ⟨b30, o30, none⟩)) n0 c0 x1 x53 ((x8 + 1)) σ))) ∧ (¬ ((0 : Int) < x8) → ∀ x48 : Int, x48 = Go.bits .and .u8 x31 127 → ∀ x49 : Int, x49 = IntKind.u64.wrap x48 → I64 (7 * x8) ∧ ((0 : Int) ≤ (7 * x8) ∧ (7 * x8) ≤ ((IntKind.bits .u64 : Nat) : Int)) ∧ ∀ x52 : Int, x52 = IntKind.u64.wrap (x49 * 2 ^ Int.toNat (7 * x8)) → ∀ x53 : Int, x53 = Go.bits .or .u64 x7 x52 → ((x31 : Int) < 128 → I64 (x1 + x8) ∧ I64 ((x1 + x8) + 1) ∧ R (.returned (.tuple #[(.int .u64 x53), (.int .i64 ((x1 + x8) + 1)), (.int .i64 0)])) σ) ∧ (¬ ((x31 : Int) < 128) → I64 (x8 + 1) ∧ pt19 R ((some ⟨b30, o30, none⟩)) n0 c0 x1 x53 ((x8 + 1)) σ)))) ∧ (¬ ((x8 : Int) = 9) → ((0 : Int) < x8 → ((x31 : Int) = 0 → R (.returned (.tuple #[(.int .u64 0), (.int .i64 0), (.int .i64 21)])) σ) ∧ (¬ ((x31 : Int) = 0) → ∀ x48 : Int, x48 = Go.bits .and .u8 x31 127 → ∀ x49 : Int, x49 = IntKind.u64.wrap x48 → I64 (7 * x8) ∧ ((0 : Int) ≤ (7 * x8) ∧ (7 * x8) ≤ ((IntKind.bits .u64 : Nat) : Int)) ∧ ∀ x52 : Int, x52 = IntKind.u64.wrap (x49 * 2 ^ Int.toNat (7 * x8)) → ∀ x53 : Int, x53 = Go.bits .or .u64 x7 x52 → ((x31 : Int) < 128 → I64 (x1 + x8) ∧ I64 ((x1 + x8) + 1) ∧ R (.returned (.tuple #[(.int .u64 x53), (.int .i64 ((x1 + x8) + 1)), (.int .i64 0)])) σ) ∧ (¬ ((x31 : Int) < 128) → I64 (x8 + 1) ∧ pt19 R ((some ⟨b30, o30, none⟩)) n0 c0 x1 x53 ((x8 + 1)) σ))) ∧ (¬ ((0 : Int) < x8) → ∀ x48 : Int, x48 = Go.bits .and .u8 x31 127 → ∀ x49 : Int, x49 = IntKind.u64.wrap x48 → I64 (7 * x8) ∧ ((0 : Int) ≤ (7 * x8) ∧ (7 * x8) ≤ ((IntKind.bits .u64 : Nat) : Int)) ∧ ∀ x52 : Int, x52 = IntKind.u64.wrap (x49 * 2 ^ Int.toNat (7 * x8)) → ∀ x53 : Int, x53 = Go.bits .or .u64 x7 x52 → ((x31 : Int) < 128 → I64 (x1 + x8) ∧ I64 ((x1 + x8) + 1) ∧ R (.returned (.tuple #[(.int .u64 x53), (.int .i64 ((x1 + x8) + 1)), (.int .i64 0)])) σ) ∧ (¬ ((x31 : Int) < 128) → I64 (x8 + 1) ∧ pt19 R ((some ⟨b30, o30, none⟩)) n0 c0 x1 x53 ((x8 + 1)) σ)))) ∧ (¬ (((x1 + x8) : Int) < (n0 : Int)) → R (.returned (.tuple #[(.int .u64 0), (.int .i64 0), (.int .i64 20)])) σ)) : pt19 R p0 n0 c0 x1 x7 x8 σ := by
 intro J
 show At (gl R) _ _ _ _
 refine At.rg 5 [0, 1, 2, 3, 4, 5] ?_
 refine Seq.u 18 (.int .i64 x1) ?_
 refine Seq.u 19 (.int .i64 x8) ?_
 obtain ⟨hi, h⟩ := h
 refine Seq.z 20 (.binOp .add 3 (.tmp 18) (.tmp 19) 3) 3 (.int .i64 (x1 + x8)) (Y.addI hi rfl rfl) ?_
 refine Seq.u 21 (.slice p0 n0 c0) ?_
 refine Seq.z 22 (.call { callee := .builtin .len, args := #[(.tmp 21)], argTypes := #[37] }) 3 (.int .i64 (n0 : Int)) (Y.lenS underlying37 rfl rfl) ?_
 refine Seq.u 23 (.bool (decide (((x1 + x8) : Int) < (n0 : Int)))) ?_
 refine Seq.done ?_
 refine At.L [(0, (.slice p0 n0 c0)), (1, (.int .i64 x1)), (7, (.int .u64 x7)), (8, (.int .i64 x8)), (23, (.bool (decide (((x1 + x8) : Int) < (n0 : Int)))))] fun J => ?_
 cases hb : (decide (((x1 + x8) : Int) < (n0 : Int))) with
 | true =>
  replace h := h.1 (of_decide_eq_true hb)
  refine At.cT 23 K21 K22 ?_
  refine At.skip ?_
  refine At.s K24 K44 ?_
  refine At.b 1 K25 ?_
  refine At.s K26 K27 ?_
  refine At.rg 7 [0, 1, 2, 3, 4, 5, 6] ?_
  refine Seq.u 26 (.slice p0 n0 c0) ?_
  refine Seq.u 27 (.int .i64 x1) ?_
  refine Seq.u 28 (.int .i64 x8) ?_
  obtain ⟨hi, h⟩ := h
  refine Seq.z 29 (.binOp .add 3 (.tmp 27) (.tmp 28) 3) 3 (.int .i64 (x1 + x8)) (Y.addI hi rfl rfl) ?_
  obtain ⟨b30, o30, hq, h⟩ := h
  subst hq
  obtain ⟨hi, h⟩ := h
  refine Seq.z 30 (.indexAddr 37 (.tmp 26) (.tmp 29)) 0 (.pointer (some ⟨b30, (o30 + Int.toNat (x1 + x8) * 1), none⟩)) (Y.idx underlying37 sizeOf5 rfl rfl hi rfl) ?_
  obtain ⟨x31, hl, h⟩ := h
  refine Seq.z 31 (.load 5 (.tmp 30)) 5 (.int .u8 x31) (Y.ld isAgg5 rfl hl) ?_
  refine Seq.u 9 (.int .u8 x31) ?_
  refine Seq.done ?_
  refine At.L [(0, (.slice (some ⟨b30, o30, none⟩) n0 c0)), (1, (.int .i64 x1)), (7, (.int .u64 x7)), (8, (.int .i64 x8)), (9, (.int .u8 x31))] fun J => ?_
  refine At.s K28 K35 ?_
  refine At.s K29 K30 ?_
  refine At.rg 8 [0, 1, 2, 3, 4, 5, 6, 7, 8, 9, 10, 11, 12, 13] ?_
  refine Seq.u 32 (.int .i64 x8) ?_
  refine Seq.u 33 (.bool (decide ((x8 : Int) = 9))) ?_
  refine Seq.u 34 (.bool (decide ((x8 : Int) = 9))) ?_
  cases hb : (decide ((x8 : Int) = 9)) with
  | true =>
   replace h := h.1 (of_decide_eq_true hb)
   refine Seq.u 35 (.int .u8 x31) ?_
   refine Seq.u 36 (.bool (decide ((1 : Int) < x31))) ?_
   refine Seq.u 37 (.bool (decide ((1 : Int) < x31))) ?_
   refine Seq.u 38 (.bool (decide ((1 : Int) < x31))) ?_
   cases hb : (decide ((1 : Int) < x31)) with
   | true =>
    replace h := h.1 (of_decide_eq_true hb)
    refine Seq.n 39 ?_
    refine Seq.n 40 ?_
    refine Seq.n 41 ?_
    refine Seq.n 42 ?_
    refine Seq.n 43 ?_
    refine Seq.n 44 ?_
    refine Seq.u 45 (.bool true) ?_
    refine Seq.done ?_
    refine At.L [(0, (.slice (some ⟨b30, o30, none⟩) n0 c0)), (1, (.int .i64 x1)), (7, (.int .u64 x7)), (8, (.int .i64 x8)), (9, (.int .u8 x31)), (45, (.bool true))] fun J => ?_
    refine At.cT 45 K31 K34 ?_
    refine At.s K32 K33 ?_
    refine At.rg 9 [0, 1, 2] ?_
    refine Seq.u 4 (.int .u64 0) ?_
    refine Seq.u 5 (.int .i64 0) ?_
    refine Seq.u 6 (.int .i64 21) ?_
    refine Seq.done ?_
    refine At.L [(4, (.int .u64 0)), (5, (.int .i64 0)), (6, (.int .i64 21))] fun J => ?_
    exact At.rt [.tmp 4, .tmp 5, .tmp 6] [(.int .u64 0), (.int .i64 0), (.int .i64 21)] func42 ⟨_, rfl, ⟨_, rfl, ⟨_, rfl, rfl⟩⟩⟩ h
   | false =>
    replace h := h.2 (of_decide_eq_false hb)
    refine Seq.u 39 (.int .i64 x8) ?_
    refine Seq.u 40 (.bool (decide ((0 : Int) < x8))) ?_
    refine Seq.u 41 (.bool (decide ((0 : Int) < x8))) ?_
    cases hb : (decide ((0 : Int) < x8)) with
    | true =>
     replace h := h.1 (of_decide_eq_true hb)
     refine Seq.u 42 (.int .u8 x31) ?_
     refine Seq.u 43 (.bool (decide ((x31 : Int) = 0))) ?_
     refine Seq.u 44 (.bool (decide ((x31 : Int) = 0))) ?_
     refine Seq.u 45 (.bool (decide ((x31 : Int) = 0))) ?_
     refine Seq.done ?_
     refine At.L [(0, (.slice (some ⟨b30, o30, none⟩) n0 c0)), (1, (.int .i64 x1)), (7, (.int .u64 x7)), (8, (.int .i64 x8)), (9, (.int .u8 x31)), (45, (.bool (decide ((x31 : Int) = 0))))] fun J => ?_
     cases hb : (decide ((x31 : Int) = 0)) with
     | true =>
      replace h := h.1 (of_decide_eq_true hb)
      refine At.cT 45 K31 K34 ?_
      refine At.s K32 K33 ?_
      refine At.rg 9 [0, 1, 2] ?_
      refine Seq.u 4 (.int .u64 0) ?_
      refine Seq.u 5 (.int .i64 0) ?_
      refine Seq.u 6 (.int .i64 21) ?_
      refine Seq.done ?_
      refine At.L [(4, (.int .u64 0)), (5, (.int .i64 0)), (6, (.int .i64 21))] fun J => ?_
      exact At.rt [.tmp 4, .tmp 5, .tmp 6] [(.int .u64 0), (.int .i64 0), (.int .i64 21)] func42 ⟨_, rfl, ⟨_, rfl, ⟨_, rfl, rfl⟩⟩⟩ h
     | false =>
      replace h := h.2 (of_decide_eq_false hb)
      refine At.cF 45 K31 K34 ?_
      refine At.skip ?_
      refine At.s K36 K37 ?_
      refine At.rg 10 [0, 1, 2, 3, 4, 5, 6, 7, 8] ?_
      refine Seq.u 46 (.int .u64 x7) ?_
      refine Seq.u 47 (.int .u8 x31) ?_
      obtain ⟨x48, hwx48⟩ : ∃ y, y = Go.bits .and .u8 x31 127 := ⟨_, rfl⟩
      replace h := h x48 hwx48
      refine Seq.y (d := (some 48)) (op := (.binOp .and 5 (.tmp 47) (.const (.int .u8 127)) 5)) (ty := 5) (v := (.int .u8 x48)) (by kernel_rfl) rfl (hwx48 ▸ Y.bits (by simp) rfl rfl) ?_
      obtain ⟨x49, hwx49⟩ : ∃ y, y = IntKind.u64.wrap x48 := ⟨_, rfl⟩
      replace h := h x49 hwx49
      refine Seq.y (d := (some 49)) (op := (.convert 5 22 (.tmp 48))) (ty := 22) (v := (.int .u64 x49)) (by kernel_rfl) rfl (hwx49 ▸ Y.conv (by kernel_rfl) underlying22 rfl) ?_
      refine Seq.u 50 (.int .i64 x8) ?_
      obtain ⟨hi, h⟩ := h
      refine Seq.z 51 (.binOp .mul 3 (.const (.int .i64 7)) (.tmp 50) 3) 3 (.int .i64 (7 * x8)) (Y.mulI hi rfl rfl) ?_
      obtain ⟨hc, h⟩ := h
      obtain ⟨x52, hwx52⟩ : ∃ y, y = IntKind.u64.wrap (x49 * 2 ^ Int.toNat (7 * x8)) := ⟨_, rfl⟩
      replace h := h x52 hwx52
      refine Seq.y (d := (some 52)) (op := (.binOp .shl 22 (.tmp 49) (.tmp 51) 3)) (ty := 22) (v := (.int .u64 x52)) (by kernel_rfl) rfl (hwx52 ▸ Y.shl hc.1 hc.2 rfl rfl) ?_
      obtain ⟨x53, hwx53⟩ : ∃ y, y = Go.bits .or .u64 x7 x52 := ⟨_, rfl⟩
      replace h := h x53 hwx53
      refine Seq.y (d := (some 53)) (op := (.binOp .or 22 (.tmp 46) (.tmp 52) 22)) (ty := 22) (v := (.int .u64 x53)) (by kernel_rfl) rfl (hwx53 ▸ Y.bits (by simp) rfl rfl) ?_
      refine Seq.u 7 (.int .u64 x53) ?_
      refine Seq.done ?_
      refine At.L [(0, (.slice (some ⟨b30, o30, none⟩) n0 c0)), (1, (.int .i64 x1)), (7, (.int .u64 x53)), (8, (.int .i64 x8)), (9, (.int .u8 x31))] fun J => ?_
      refine At.s K38 K39 ?_
      refine At.rg 11 [0, 1] ?_
      refine Seq.u 54 (.int .u8 x31) ?_
      refine Seq.u 55 (.bool (decide ((x31 : Int) < 128))) ?_
      refine Seq.done ?_
      refine At.L [(0, (.slice (some ⟨b30, o30, none⟩) n0 c0)), (1, (.int .i64 x1)), (7, (.int .u64 x53)), (8, (.int .i64 x8)), (55, (.bool (decide ((x31 : Int) < 128))))] fun J => ?_
      cases hb : (decide ((x31 : Int) < 128)) with
      | true =>
       replace h := h.1 (of_decide_eq_true hb)
       refine At.cT 55 K40 K43 ?_
       refine At.s K41 K42 ?_
       refine At.rg 12 [0, 1, 2, 3, 4, 5, 6, 7] ?_
       refine Seq.u 56 (.int .u64 x53) ?_
       refine Seq.u 57 (.int .i64 x1) ?_
       refine Seq.u 58 (.int .i64 x8) ?_
       obtain ⟨hi, h⟩ := h
       refine Seq.z 59 (.binOp .add 3 (.tmp 57) (.tmp 58) 3) 3 (.int .i64 (x1 + x8)) (Y.addI hi rfl rfl) ?_
       obtain ⟨hi, h⟩ := h
       refine Seq.z 60 (.binOp .add 3 (.tmp 59) (.const (.int .i64 1)) 3) 3 (.int .i64 ((x1 + x8) + 1)) (Y.addI hi rfl rfl) ?_
       refine Seq.u 4 (.int .u64 x53) ?_
       refine Seq.u 5 (.int .i64 ((x1 + x8) + 1)) ?_
       refine Seq.u 6 (.int .i64 0) ?_
       refine Seq.done ?_
       refine At.L [(4, (.int .u64 x53)), (5, (.int .i64 ((x1 + x8) + 1))), (6, (.int .i64 0))] fun J => ?_
       exact At.rt [.tmp 4, .tmp 5, .tmp 6] [(.int .u64 x53), (.int .i64 ((x1 + x8) + 1)), (.int .i64 0)] func42 ⟨_, rfl, ⟨_, rfl, ⟨_, rfl, rfl⟩⟩⟩ h
      | false =>
       replace h := h.2 (of_decide_eq_false hb)
       refine At.cF 55 K40 K43 ?_
       refine At.skip ?_
       refine At.inBlock ?_
       refine At.rg 6 [0, 1, 2] ?_
       refine Seq.u 24 (.int .i64 x8) ?_
       obtain ⟨hi, h⟩ := h
       refine Seq.z 25 (.binOp .add 3 (.tmp 24) (.const (.int .i64 1)) 3) 3 (.int .i64 (x8 + 1)) (Y.addI hi rfl rfl) ?_
       refine Seq.u 8 (.int .i64 (x8 + 1)) ?_
       refine Seq.done ?_
       refine At.L [(0, (.slice (some ⟨b30, o30, none⟩) n0 c0)), (1, (.int .i64 x1)), (7, (.int .u64 x53)), (8, (.int .i64 (x8 + 1)))] fun J => ?_
       refine At.inLoop ?_
       refine At.s K18 K23 ?_
       refine At.s K19 K20 ?_
       exact At.v [(0, (.slice (some ⟨b30, o30, none⟩) n0 c0)), (1, (.int .i64 x1)), (7, (.int .u64 x53)), (8, (.int .i64 (x8 + 1)))] (h _)
    | false =>
     replace h := h.2 (of_decide_eq_false hb)
     refine Seq.n 42 ?_
     refine Seq.n 43 ?_
     refine Seq.u 44 (.bool false) ?_
     refine Seq.u 45 (.bool false) ?_
     refine Seq.done ?_
     refine At.L [(0, (.slice (some ⟨b30, o30, none⟩) n0 c0)), (1, (.int .i64 x1)), (7, (.int .u64 x7)), (8, (.int .i64 x8)), (9, (.int .u8 x31)), (45, (.bool false))] fun J => ?_
     refine At.cF 45 K31 K34 ?_
     refine At.skip ?_
     refine At.s K36 K37 ?_
     refine At.rg 10 [0, 1, 2, 3, 4, 5, 6, 7, 8] ?_
     refine Seq.u 46 (.int .u64 x7) ?_
     refine Seq.u 47 (.int .u8 x31) ?_
     obtain ⟨x48, hwx48⟩ : ∃ y, y = Go.bits .and .u8 x31 127 := ⟨_, rfl⟩
     replace h := h x48 hwx48
     refine Seq.y (d := (some 48)) (op := (.binOp .and 5 (.tmp 47) (.const (.int .u8 127)) 5)) (ty := 5) (v := (.int .u8 x48)) (by kernel_rfl) rfl (hwx48 ▸ Y.bits (by simp) rfl rfl) ?_
     obtain ⟨x49, hwx49⟩ : ∃ y, y = IntKind.u64.wrap x48 := ⟨_, rfl⟩
     replace h := h x49 hwx49
     refine Seq.y (d := (some 49)) (op := (.convert 5 22 (.tmp 48))) (ty := 22) (v := (.int .u64 x49)) (by kernel_rfl) rfl (hwx49 ▸ Y.conv (by kernel_rfl) underlying22 rfl) ?_
     refine Seq.u 50 (.int .i64 x8) ?_
     obtain ⟨hi, h⟩ := h
     refine Seq.z 51 (.binOp .mul 3 (.const (.int .i64 7)) (.tmp 50) 3) 3 (.int .i64 (7 * x8)) (Y.mulI hi rfl rfl) ?_
     obtain ⟨hc, h⟩ := h
     obtain ⟨x52, hwx52⟩ : ∃ y, y = IntKind.u64.wrap (x49 * 2 ^ Int.toNat (7 * x8)) := ⟨_, rfl⟩
     replace h := h x52 hwx52
     refine Seq.y (d := (some 52)) (op := (.binOp .shl 22 (.tmp 49) (.tmp 51) 3)) (ty := 22) (v := (.int .u64 x52)) (by kernel_rfl) rfl (hwx52 ▸ Y.shl hc.1 hc.2 rfl rfl) ?_
     obtain ⟨x53, hwx53⟩ : ∃ y, y = Go.bits .or .u64 x7 x52 := ⟨_, rfl⟩
     replace h := h x53 hwx53
     refine Seq.y (d := (some 53)) (op := (.binOp .or 22 (.tmp 46) (.tmp 52) 22)) (ty := 22) (v := (.int .u64 x53)) (by kernel_rfl) rfl (hwx53 ▸ Y.bits (by simp) rfl rfl) ?_
     refine Seq.u 7 (.int .u64 x53) ?_
     refine Seq.done ?_
     refine At.L [(0, (.slice (some ⟨b30, o30, none⟩) n0 c0)), (1, (.int .i64 x1)), (7, (.int .u64 x53)), (8, (.int .i64 x8)), (9, (.int .u8 x31))] fun J => ?_
     refine At.s K38 K39 ?_
     refine At.rg 11 [0, 1] ?_
     refine Seq.u 54 (.int .u8 x31) ?_
     refine Seq.u 55 (.bool (decide ((x31 : Int) < 128))) ?_
     refine Seq.done ?_
     refine At.L [(0, (.slice (some ⟨b30, o30, none⟩) n0 c0)), (1, (.int .i64 x1)), (7, (.int .u64 x53)), (8, (.int .i64 x8)), (55, (.bool (decide ((x31 : Int) < 128))))] fun J => ?_
     cases hb : (decide ((x31 : Int) < 128)) with
     | true =>
      replace h := h.1 (of_decide_eq_true hb)
      refine At.cT 55 K40 K43 ?_
      refine At.s K41 K42 ?_
      refine At.rg 12 [0, 1, 2, 3, 4, 5, 6, 7] ?_
      refine Seq.u 56 (.int .u64 x53) ?_
      refine Seq.u 57 (.int .i64 x1) ?_
      refine Seq.u 58 (.int .i64 x8) ?_
      obtain ⟨hi, h⟩ := h
      refine Seq.z 59 (.binOp .add 3 (.tmp 57) (.tmp 58) 3) 3 (.int .i64 (x1 + x8)) (Y.addI hi rfl rfl) ?_
      obtain ⟨hi, h⟩ := h
      refine Seq.z 60 (.binOp .add 3 (.tmp 59) (.const (.int .i64 1)) 3) 3 (.int .i64 ((x1 + x8) + 1)) (Y.addI hi rfl rfl) ?_
      refine Seq.u 4 (.int .u64 x53) ?_
      refine Seq.u 5 (.int .i64 ((x1 + x8) + 1)) ?_
      refine Seq.u 6 (.int .i64 0) ?_
      refine Seq.done ?_
      refine At.L [(4, (.int .u64 x53)), (5, (.int .i64 ((x1 + x8) + 1))), (6, (.int .i64 0))] fun J => ?_
      exact At.rt [.tmp 4, .tmp 5, .tmp 6] [(.int .u64 x53), (.int .i64 ((x1 + x8) + 1)), (.int .i64 0)] func42 ⟨_, rfl, ⟨_, rfl, ⟨_, rfl, rfl⟩⟩⟩ h
     | false =>
      replace h := h.2 (of_decide_eq_false hb)
      refine At.cF 55 K40 K43 ?_
      refine At.skip ?_
      refine At.inBlock ?_
      refine At.rg 6 [0, 1, 2] ?_
      refine Seq.u 24 (.int .i64 x8) ?_
      obtain ⟨hi, h⟩ := h
      refine Seq.z 25 (.binOp .add 3 (.tmp 24) (.const (.int .i64 1)) 3) 3 (.int .i64 (x8 + 1)) (Y.addI hi rfl rfl) ?_
      refine Seq.u 8 (.int .i64 (x8 + 1)) ?_
      refine Seq.done ?_
      refine At.L [(0, (.slice (some ⟨b30, o30, none⟩) n0 c0)), (1, (.int .i64 x1)), (7, (.int .u64 x53)), (8, (.int .i64 (x8 + 1)))] fun J => ?_
      refine At.inLoop ?_
      refine At.s K18 K23 ?_
      refine At.s K19 K20 ?_
      exact At.v [(0, (.slice (some ⟨b30, o30, none⟩) n0 c0)), (1, (.int .i64 x1)), (7, (.int .u64 x53)), (8, (.int .i64 (x8 + 1)))] (h _)
  | false =>
   replace h := h.2 (of_decide_eq_false hb)
   refine Seq.n 35 ?_
   refine Seq.n 36 ?_
   refine Seq.u 37 (.bool false) ?_
   refine Seq.u 38 (.bool false) ?_
   refine Seq.u 39 (.int .i64 x8) ?_
   refine Seq.u 40 (.bool (decide ((0 : Int) < x8))) ?_
   refine Seq.u 41 (.bool (decide ((0 : Int) < x8))) ?_
   cases hb : (decide ((0 : Int) < x8)) with
   | true =>
    replace h := h.1 (of_decide_eq_true hb)
    refine Seq.u 42 (.int .u8 x31) ?_
    refine Seq.u 43 (.bool (decide ((x31 : Int) = 0))) ?_
    refine Seq.u 44 (.bool (decide ((x31 : Int) = 0))) ?_
    refine Seq.u 45 (.bool (decide ((x31 : Int) = 0))) ?_
    refine Seq.done ?_
    refine At.L [(0, (.slice (some ⟨b30, o30, none⟩) n0 c0)), (1, (.int .i64 x1)), (7, (.int .u64 x7)), (8, (.int .i64 x8)), (9, (.int .u8 x31)), (45, (.bool (decide ((x31 : Int) = 0))))] fun J => ?_
    cases hb : (decide ((x31 : Int) = 0)) with
    | true =>
     replace h := h.1 (of_decide_eq_true hb)
     refine At.cT 45 K31 K34 ?_
     refine At.s K32 K33 ?_
     refine At.rg 9 [0, 1, 2] ?_
     refine Seq.u 4 (.int .u64 0) ?_
     refine Seq.u 5 (.int .i64 0) ?_
     refine Seq.u 6 (.int .i64 21) ?_
     refine Seq.done ?_
     refine At.L [(4, (.int .u64 0)), (5, (.int .i64 0)), (6, (.int .i64 21))] fun J => ?_
     exact At.rt [.tmp 4, .tmp 5, .tmp 6] [(.int .u64 0), (.int .i64 0), (.int .i64 21)] func42 ⟨_, rfl, ⟨_, rfl, ⟨_, rfl, rfl⟩⟩⟩ h
    | false =>
     replace h := h.2 (of_decide_eq_false hb)
     refine At.cF 45 K31 K34 ?_
     refine At.skip ?_
     refine At.s K36 K37 ?_
     refine At.rg 10 [0, 1, 2, 3, 4, 5, 6, 7, 8] ?_
     refine Seq.u 46 (.int .u64 x7) ?_
     refine Seq.u 47 (.int .u8 x31) ?_
     obtain ⟨x48, hwx48⟩ : ∃ y, y = Go.bits .and .u8 x31 127 := ⟨_, rfl⟩
     replace h := h x48 hwx48
     refine Seq.y (d := (some 48)) (op := (.binOp .and 5 (.tmp 47) (.const (.int .u8 127)) 5)) (ty := 5) (v := (.int .u8 x48)) (by kernel_rfl) rfl (hwx48 ▸ Y.bits (by simp) rfl rfl) ?_
     obtain ⟨x49, hwx49⟩ : ∃ y, y = IntKind.u64.wrap x48 := ⟨_, rfl⟩
     replace h := h x49 hwx49
     refine Seq.y (d := (some 49)) (op := (.convert 5 22 (.tmp 48))) (ty := 22) (v := (.int .u64 x49)) (by kernel_rfl) rfl (hwx49 ▸ Y.conv (by kernel_rfl) underlying22 rfl) ?_
     refine Seq.u 50 (.int .i64 x8) ?_
     obtain ⟨hi, h⟩ := h
     refine Seq.z 51 (.binOp .mul 3 (.const (.int .i64 7)) (.tmp 50) 3) 3 (.int .i64 (7 * x8)) (Y.mulI hi rfl rfl) ?_
     obtain ⟨hc, h⟩ := h
     obtain ⟨x52, hwx52⟩ : ∃ y, y = IntKind.u64.wrap (x49 * 2 ^ Int.toNat (7 * x8)) := ⟨_, rfl⟩
     replace h := h x52 hwx52
     refine Seq.y (d := (some 52)) (op := (.binOp .shl 22 (.tmp 49) (.tmp 51) 3)) (ty := 22) (v := (.int .u64 x52)) (by kernel_rfl) rfl (hwx52 ▸ Y.shl hc.1 hc.2 rfl rfl) ?_
     obtain ⟨x53, hwx53⟩ : ∃ y, y = Go.bits .or .u64 x7 x52 := ⟨_, rfl⟩
     replace h := h x53 hwx53
     refine Seq.y (d := (some 53)) (op := (.binOp .or 22 (.tmp 46) (.tmp 52) 22)) (ty := 22) (v := (.int .u64 x53)) (by kernel_rfl) rfl (hwx53 ▸ Y.bits (by simp) rfl rfl) ?_
     refine Seq.u 7 (.int .u64 x53) ?_
     refine Seq.done ?_
     refine At.L [(0, (.slice (some ⟨b30, o30, none⟩) n0 c0)), (1, (.int .i64 x1)), (7, (.int .u64 x53)), (8, (.int .i64 x8)), (9, (.int .u8 x31))] fun J => ?_
     refine At.s K38 K39 ?_
     refine At.rg 11 [0, 1] ?_
     refine Seq.u 54 (.int .u8 x31) ?_
     refine Seq.u 55 (.bool (decide ((x31 : Int) < 128))) ?_
     refine Seq.done ?_
     refine At.L [(0, (.slice (some ⟨b30, o30, none⟩) n0 c0)), (1, (.int .i64 x1)), (7, (.int .u64 x53)), (8, (.int .i64 x8)), (55, (.bool (decide ((x31 : Int) < 128))))] fun J => ?_
     cases hb : (decide ((x31 : Int) < 128)) with
     | true =>
      replace h := h.1 (of_decide_eq_true hb)
      refine At.cT 55 K40 K43 ?_
      refine At.s K41 K42 ?_
      refine At.rg 12 [0, 1, 2, 3, 4, 5, 6, 7] ?_
      refine Seq.u 56 (.int .u64 x53) ?_
      refine Seq.u 57 (.int .i64 x1) ?_
      refine Seq.u 58 (.int .i64 x8) ?_
      obtain ⟨hi, h⟩ := h
      refine Seq.z 59 (.binOp .add 3 (.tmp 57) (.tmp 58) 3) 3 (.int .i64 (x1 + x8)) (Y.addI hi rfl rfl) ?_
      obtain ⟨hi, h⟩ := h
      refine Seq.z 60 (.binOp .add 3 (.tmp 59) (.const (.int .i64 1)) 3) 3 (.int .i64 ((x1 + x8) + 1)) (Y.addI hi rfl rfl) ?_
      refine Seq.u 4 (.int .u64 x53) ?_
      refine Seq.u 5 (.int .i64 ((x1 + x8) + 1)) ?_
      refine Seq.u 6 (.int .i64 0) ?_
      refine Seq.done ?_
      refine At.L [(4, (.int .u64 x53)), (5, (.int .i64 ((x1 + x8) + 1))), (6, (.int .i64 0))] fun J => ?_
      exact At.rt [.tmp 4, .tmp 5, .tmp 6] [(.int .u64 x53), (.int .i64 ((x1 + x8) + 1)), (.int .i64 0)] func42 ⟨_, rfl, ⟨_, rfl, ⟨_, rfl, rfl⟩⟩⟩ h
     | false =>
      replace h := h.2 (of_decide_eq_false hb)
      refine At.cF 55 K40 K43 ?_
      refine At.skip ?_
      refine At.inBlock ?_
      refine At.rg 6 [0, 1, 2] ?_
      refine Seq.u 24 (.int .i64 x8) ?_
      obtain ⟨hi, h⟩ := h
      refine Seq.z 25 (.binOp .add 3 (.tmp 24) (.const (.int .i64 1)) 3) 3 (.int .i64 (x8 + 1)) (Y.addI hi rfl rfl) ?_
      refine Seq.u 8 (.int .i64 (x8 + 1)) ?_
      refine Seq.done ?_
      refine At.L [(0, (.slice (some ⟨b30, o30, none⟩) n0 c0)), (1, (.int .i64 x1)), (7, (.int .u64 x53)), (8, (.int .i64 (x8 + 1)))] fun J => ?_
      refine At.inLoop ?_
      refine At.s K18 K23 ?_
      refine At.s K19 K20 ?_
      exact At.v [(0, (.slice (some ⟨b30, o30, none⟩) n0 c0)), (1, (.int .i64 x1)), (7, (.int .u64 x53)), (8, (.int .i64 (x8 + 1)))] (h _)
   | false =>
    replace h := h.2 (of_decide_eq_false hb)
    refine Seq.n 42 ?_
    refine Seq.n 43 ?_
    refine Seq.u 44 (.bool false) ?_
    refine Seq.u 45 (.bool false) ?_
    refine Seq.done ?_
    refine At.L [(0, (.slice (some ⟨b30, o30, none⟩) n0 c0)), (1, (.int .i64 x1)), (7, (.int .u64 x7)), (8, (.int .i64 x8)), (9, (.int .u8 x31)), (45, (.bool false))] fun J => ?_
    refine At.cF 45 K31 K34 ?_
    refine At.skip ?_
    refine At.s K36 K37 ?_
    refine At.rg 10 [0, 1, 2, 3, 4, 5, 6, 7, 8] ?_
    refine Seq.u 46 (.int .u64 x7) ?_
    refine Seq.u 47 (.int .u8 x31) ?_
    obtain ⟨x48, hwx48⟩ : ∃ y, y = Go.bits .and .u8 x31 127 := ⟨_, rfl⟩
    replace h := h x48 hwx48
    refine Seq.y (d := (some 48)) (op := (.binOp .and 5 (.tmp 47) (.const (.int .u8 127)) 5)) (ty := 5) (v := (.int .u8 x48)) (by kernel_rfl) rfl (hwx48 ▸ Y.bits (by simp) rfl rfl) ?_
    obtain ⟨x49, hwx49⟩ : ∃ y, y = IntKind.u64.wrap x48 := ⟨_, rfl⟩
    replace h := h x49 hwx49
    refine Seq.y (d := (some 49)) (op := (.convert 5 22 (.tmp 48))) (ty := 22) (v := (.int .u64 x49)) (by kernel_rfl) rfl (hwx49 ▸ Y.conv (by kernel_rfl) underlying22 rfl) ?_
    refine Seq.u 50 (.int .i64 x8) ?_
    obtain ⟨hi, h⟩ := h
    refine Seq.z 51 (.binOp .mul 3 (.const (.int .i64 7)) (.tmp 50) 3) 3 (.int .i64 (7 * x8)) (Y.mulI hi rfl rfl) ?_
    obtain ⟨hc, h⟩ := h
    obtain ⟨x52, hwx52⟩ : ∃ y, y = IntKind.u64.wrap (x49 * 2 ^ Int.toNat (7 * x8)) := ⟨_, rfl⟩
    replace h := h x52 hwx52
    refine Seq.y (d := (some 52)) (op := (.binOp .shl 22 (.tmp 49) (.tmp 51) 3)) (ty := 22) (v := (.int .u64 x52)) (by kernel_rfl) rfl (hwx52 ▸ Y.shl hc.1 hc.2 rfl rfl) ?_
    obtain ⟨x53, hwx53⟩ : ∃ y, y = Go.bits .or .u64 x7 x52 := ⟨_, rfl⟩
    replace h := h x53 hwx53
    refine Seq.y (d := (some 53)) (op := (.binOp .or 22 (.tmp 46) (.tmp 52) 22)) (ty := 22) (v := (.int .u64 x53)) (by kernel_rfl) rfl (hwx53 ▸ Y.bits (by simp) rfl rfl) ?_
    refine Seq.u 7 (.int .u64 x53) ?_
    refine Seq.done ?_
    refine At.L [(0, (.slice (some ⟨b30, o30, none⟩) n0 c0)), (1, (.int .i64 x1)), (7, (.int .u64 x53)), (8, (.int .i64 x8)), (9, (.int .u8 x31))] fun J => ?_
    refine At.s K38 K39 ?_
    refine At.rg 11 [0, 1] ?_
    refine Seq.u 54 (.int .u8 x31) ?_
    refine Seq.u 55 (.bool (decide ((x31 : Int) < 128))) ?_
    refine Seq.done ?_
    refine At.L [(0, (.slice (some ⟨b30, o30, none⟩) n0 c0)), (1, (.int .i64 x1)), (7, (.int .u64 x53)), (8, (.int .i64 x8)), (55, (.bool (decide ((x31 : Int) < 128))))] fun J => ?_
    cases hb : (decide ((x31 : Int) < 128)) with
    | true =>
     replace h := h.1 (of_decide_eq_true hb)
     refine At.cT 55 K40 K43 ?_
     refine At.s K41 K42 ?_
     refine At.rg 12 [0, 1, 2, 3, 4, 5, 6, 7] ?_
     refine Seq.u 56 (.int .u64 x53) ?_
     refine Seq.u 57 (.int .i64 x1) ?_
     refine Seq.u 58 (.int .i64 x8) ?_
     obtain ⟨hi, h⟩ := h
     refine Seq.z 59 (.binOp .add 3 (.tmp 57) (.tmp 58) 3) 3 (.int .i64 (x1 + x8)) (Y.addI hi rfl rfl) ?_
     obtain ⟨hi, h⟩ := h
     refine Seq.z 60 (.binOp .add 3 (.tmp 59) (.const (.int .i64 1)) 3) 3 (.int .i64 ((x1 + x8) + 1)) (Y.addI hi rfl rfl) ?_
     refine Seq.u 4 (.int .u64 x53) ?_
     refine Seq.u 5 (.int .i64 ((x1 + x8) + 1)) ?_
     refine Seq.u 6 (.int .i64 0) ?_
     refine Seq.done ?_
     refine At.L [(4, (.int .u64 x53)), (5, (.int .i64 ((x1 + x8) + 1))), (6, (.int .i64 0))] fun J => ?_
     exact At.rt [.tmp 4, .tmp 5, .tmp 6] [(.int .u64 x53), (.int .i64 ((x1 + x8) + 1)), (.int .i64 0)] func42 ⟨_, rfl, ⟨_, rfl, ⟨_, rfl, rfl⟩⟩⟩ h
    | false =>
     replace h := h.2 (of_decide_eq_false hb)
     refine At.cF 55 K40 K43 ?_
     refine At.skip ?_
     refine At.inBlock ?_
     refine At.rg 6 [0, 1, 2] ?_
     refine Seq.u 24 (.int .i64 x8) ?_
     obtain ⟨hi, h⟩ := h
     refine Seq.z 25 (.binOp .add 3 (.tmp 24) (.const (.int .i64 1)) 3) 3 (.int .i64 (x8 + 1)) (Y.addI hi rfl rfl) ?_
     refine Seq.u 8 (.int .i64 (x8 + 1)) ?_
     refine Seq.done ?_
     refine At.L [(0, (.slice (some ⟨b30, o30, none⟩) n0 c0)), (1, (.int .i64 x1)), (7, (.int .u64 x53)), (8, (.int .i64 (x8 + 1)))] fun J => ?_
     refine At.inLoop ?_
     refine At.s K18 K23 ?_
     refine At.s K19 K20 ?_
     exact At.v [(0, (.slice (some ⟨b30, o30, none⟩) n0 c0)), (1, (.int .i64 x1)), (7, (.int .u64 x53)), (8, (.int .i64 (x8 + 1)))] (h _)
 | false =>
  replace h := h.2 (of_decide_eq_false hb)
  refine At.cF 23 K21 K22 ?_
  refine At.x 0 [.code K45] ?_
  refine At.s K46 K47 ?_
  refine At.rg 13 [0, 1, 2] ?_
  refine Seq.u 4 (.int .u64 0) ?_
  refine Seq.u 5 (.int .i64 0) ?_
  refine Seq.u 6 (.int .i64 20) ?_
  refine Seq.done ?_
  refine At.L [(4, (.int .u64 0)), (5, (.int .i64 0)), (6, (.int .i64 20))] fun J => ?_
  exact At.rt [.tmp 4, .tmp 5, .tmp 6] [(.int .u64 0), (.int .i64 0), (.int .i64 20)] func42 ⟨_, rfl, ⟨_, rfl, ⟨_, rfl, rfl⟩⟩⟩ h
end codec_Uint
end TwR
end
section
/- written by gen.py: program points and what leads to them -/
set_option linter.unusedVariables false
set_option maxRecDepth 100000
namespace TwR
open Go Tw Go.Proofs.Try
namespace ref2_Uint
abbrev fid : Nat := 64
noncomputable def K0 : Code := f64.body.getD .skip
noncomputable def K1 := Tw.cl K0
noncomputable def K2 := Tw.cr K0
noncomputable def K3 := Tw.cl K2
noncomputable def K4 := Tw.cl K3
noncomputable def K5 := Tw.cr K3
noncomputable def K6 := Tw.cl K5
noncomputable def K7 := Tw.cl K6
noncomputable def K8 := Tw.cr K6
noncomputable def K9 := Tw.cr K5
noncomputable def K10 := Tw.cr K2
noncomputable def K11 := Tw.cl K10
noncomputable def K12 := Tw.cr K10
noncomputable def K13 := Tw.cl K12
noncomputable def K14 := Tw.cr K12
noncomputable def K15 := Tw.cl K14
noncomputable def K16 := Tw.cl K15
noncomputable def K17 := Tw.cl K16
noncomputable def K18 := Tw.cl K17
noncomputable def K19 := Tw.cl K18
noncomputable def K20 := Tw.cl K19
noncomputable def K21 := Tw.cr K19
noncomputable def K22 := Tw.cl K21
noncomputable def K23 := Tw.cl K22
noncomputable def K24 := Tw.cr K22
noncomputable def K25 := Tw.cr K21
noncomputable def K26 := Tw.cr K18
noncomputable def K27 := Tw.cl K26
noncomputable def K28 := Tw.cr K26
noncomputable def K29 := Tw.cl K28
noncomputable def K30 := Tw.cl K29
noncomputable def K31 := Tw.cr K29
noncomputable def K32 := Tw.cl K31
noncomputable def K33 := Tw.cl K32
noncomputable def K34 := Tw.cr K32
noncomputable def K35 := Tw.cr K31
noncomputable def K36 := Tw.cr K28
noncomputable def K37 := Tw.cl K36
noncomputable def K38 := Tw.cr K36
noncomputable def K39 := Tw.cl K38
noncomputable def K40 := Tw.cr K38
noncomputable def K41 := Tw.cl K40
noncomputable def K42 := Tw.cl K41
noncomputable def K43 := Tw.cr K41
noncomputable def K44 := Tw.cr K40
noncomputable def K45 := Tw.cr K16
noncomputable abbrev gl (R : Ending → Hp → Prop) : Gl := Gl.fn prog 64 61 R
def pt20 (R : Ending → Hp → Prop) (p0 : Option Addr) (n0 : Nat) (c0 : Nat) (x1 : Int) (x7 : Int) (x8 : Int) (σ : Hp) : Prop := ∀ (J : Env), At (gl R) [.code K20, .code K21, .code K26, .inBlock 1, .code K45, .inLoop K16, .inBlock 0] (upds J [(0, (.slice p0 n0 c0)), (1, (.int .i64 x1)), (7, (.int .u64 x7)), (8, (.int .i64 x8))]) [] σ
theorem start {R : Ending → Hp → Prop} {p0 : Option Addr} {n0 : Nat} {c0 : Nat} {x1 : Int} {σ : Hp} (h : ((x1 : Int) < 0 → R (.returned (.tuple #[(.int .u64 0), (.int .i64 0), (.int .i64 20)])) σ) ∧ (¬ ((x1 : Int) < 0) → (((n0 : Int) : Int) < x1 → R (.returned (.tuple #[(.int .u64 0), (.int .i64 0), (.int .i64 20)])) σ) ∧ (¬ (((n0 : Int) : Int) < x1) → pt20 R p0 n0 c0 x1 0 0 σ))) : Spec prog 64 #[(.slice p0 n0 c0), (.int .i64 x1)] σ R := by
 refine Spec.of_at (fn := f64) (c := K0) func64 (by kernel_rfl) (Nat.le_of_ble_eq_true (by kernel_rfl)) (fun e he => ?_)
 refine At.ofL (l := [(0, (.slice p0 n0 c0)), (1, (.int .i64 x1))]) ⟨he 0, he 1, trivial⟩ (fun J => ?_)
 show At (gl R) _ _ _ _
 refine At.s K1 K2 ?_
 refine At.rg 0 [0, 1, 2] ?_
 refine Seq.u 4 (.int .u64 0) ?_
 refine Seq.u 5 (.int .i64 0) ?_
 refine Seq.u 6 (.int .i64 0) ?_
 refine Seq.done ?_
 refine At.L [(0, (.slice p0 n0 c0)), (1, (.int .i64 x1))] fun J => ?_
 refine At.s K3 K10 ?_
 refine At.s K4 K5 ?_
 refine At.rg 1 [0, 1, 2, 3, 4, 5, 6, 7] ?_
 refine Seq.u 10 (.int .i64 x1) ?_
 refine Seq.u 11 (.bool (decide ((x1 : Int) < 0))) ?_
 refine Seq.u 12 (.bool (decide ((x1 : Int) < 0))) ?_
 cases hb : (decide ((x1 : Int) < 0)) with
 | true =>
  replace h := h.1 (of_decide_eq_true hb)
  refine Seq.n 13 ?_
  refine Seq.n 14 ?_
  refine Seq.n 15 ?_
  refine Seq.n 16 ?_
  refine Seq.u 17 (.bool true) ?_
  refine Seq.done ?_
  refine At.L [(0, (.slice p0 n0 c0)), (1, (.int .i64 x1)), (17, (.bool true))] fun J => ?_
  refine At.cT 17 K6 K9 ?_
  refine At.s K7 K8 ?_
  refine At.rg 2 [0, 1, 2] ?_
  refine Seq.u 4 (.int .u64 0) ?_
  refine Seq.u 5 (.int .i64 0) ?_
  refine Seq.u 6 (.int .i64 20) ?_
  refine Seq.done ?_
  refine At.L [(4, (.int .u64 0)), (5, (.int .i64 0)), (6, (.int .i64 20))] fun J => ?_
  exact At.rt [.tmp 4, .tmp 5, .tmp 6] [(.int .u64 0), (.int .i64 0), (.int .i64 20)] func64 ⟨_, rfl, ⟨_, rfl, ⟨_, rfl, rfl⟩⟩⟩ h
 | false =>
  replace h := h.2 (of_decide_eq_false hb)
  refine Seq.u 13 (.int .i64 x1) ?_
  refine Seq.u 14 (.slice p0 n0 c0) ?_
  refine Seq.zg 15 (.call { callee := .builtin .len, args := #[(.tmp 14)], argTypes := #[37] }) 3 (2, false) (.int .i64 (n0 : Int)) (Y.lenS underlying37 rfl rfl) ?_
  refine Seq.u 16 (.bool (decide (((n0 : Int) : Int) < x1))) ?_
  refine Seq.u 17 (.bool (decide (((n0 : Int) : Int) < x1))) ?_
  refine Seq.done ?_
  refine At.L [(0, (.slice p0 n0 c0)), (1, (.int .i64 x1)), (17, (.bool (decide (((n0 : Int) : Int) < x1))))] fun J => ?_
  cases hb : (decide (((n0 : Int) : Int) < x1)) with
  | true =>
   replace h := h.1 (of_decide_eq_true hb)
   refine At.cT 17 K6 K9 ?_
   refine At.s K7 K8 ?_
   refine At.rg 2 [0, 1, 2] ?_
   refine Seq.u 4 (.int .u64 0) ?_
   refine Seq.u 5 (.int .i64 0) ?_
   refine Seq.u 6 (.int .i64 20) ?_
   refine Seq.done ?_
   refine At.L [(4, (.int .u64 0)), (5, (.int .i64 0)), (6, (.int .i64 20))] fun J => ?_
   exact At.rt [.tmp 4, .tmp 5, .tmp 6] [(.int .u64 0), (.int .i64 0), (.int .i64 20)] func64 ⟨_, rfl, ⟨_, rfl, ⟨_, rfl, rfl⟩⟩⟩ h
  | false =>
   replace h := h.2 (of_decide_eq_false hb)
   refine At.cF 17 K6 K9 ?_
   refine At.skip ?_
   refine At.s K11 K12 ?_
   refine At.rg 3 [0] ?_
   refine Seq.u 7 (.int .u64 0) ?_
   refine Seq.done ?_
   refine At.L [(0, (.slice p0 n0 c0)), (1, (.int .i64 x1)), (7, (.int .u64 0))] fun J => ?_
   refine At.s K13 K14 ?_
   refine At.rg 4 [0] ?_
   refine Seq.u 8 (.int .i64 0) ?_
   refine Seq.done ?_
   refine At.L [(0, (.slice p0 n0 c0)), (1, (.int .i64 x1)), (7, (.int .u64 0)), (8, (.int .i64 0))] fun J => ?_
   refine At.b 0 K15 ?_
   refine At.loop (x := K16) (by kernel_rfl) ?_
   refine At.s K17 K45 ?_
   refine At.b 1 K18 ?_
   refine At.s K19 K26 ?_
   refine At.s K20 K21 ?_
   exact At.v [(0, (.slice p0 n0 c0)), (1, (.int .i64 x1)), (7, (.int .u64 0)), (8, (.int .i64 0))] (h _)
theorem pt20_of {R : Ending → Hp → Prop} {p0 : Option Addr} {n0 : Nat} {c0 : Nat} {x1 : Int} {x7 : Int} {x8 : Int} {σ : Hp} (h : I64 (x1 + x8) ∧ (((n0 : Int) : Int) ≤ (x1 + x8) → R (.returned (.tuple #[(.int .u64 0), (.int .i64 0), (.int .i64 20)])) σ) ∧ (¬ (((n0 : Int) : Int) ≤ (x1 + x8)) → I64 (x1 + x8) ∧ ∃ (b30 o30 : Nat), p0 = some ⟨b30, o30, none⟩ ∧ ((0 : Int) ≤ (x1 + x8) ∧ (x1 + x8) < (n0 : Int)) ∧ ∃ x31 : Int, Hp.ld σ ⟨b30, (o30 + Int.toNat (x1 + x8) * 1), none⟩ = some (.int .u8 x31) ∧ ((x8 : Int) = 9 → ((1 : Int) < x31 → R (.returned (.tuple #[(.int .u64 0), (.int .i64 0), (.int .i64 21)])) σ) ∧ (¬ ((1 : Int) < x31) → ((0 : Int) < x8 → ((x31 : Int) = 0 → R (.returned (.tuple #[(.int .u64 0), (.int .i64 0), (.int .i64 21)])) σ) ∧ (¬ ((x31 : Int) = 0) → ∀ x48 : Int, x48 = Go.bits .and .u8 x31 127 → ∀ x49 : Int, x49 = IntKind.u64.wrap x48 → I64 (7 * x8) ∧ ((0 : Int) ≤ (7 * x8) ∧ (7 * x8) ≤ ((IntKind.bits .u64 : Nat) : Int)) ∧ ∀ x52 : Int, x52 = IntKind.u64.wrap (x49 * 2 ^ Int.toNat (7 * x8)) → ∀ x53 : Int, x53 = Go.bits .or .u64 x7 x52 → ((x31 : Int) < 128 → I64 (x1 + x8) ∧ I64 ((x1 + x8) + 1) ∧ R (.returned (.tuple #[(.int .u64 x53), (.int .i64 ((x1 + x8) + 1)), (.int .i64 0)])) σ) ∧ (¬ ((x31 : Int) < 128) → I64 (x8 + 1) ∧ pt20 R ((some ⟨b30, o30, none⟩)) n0 c0 x1 x53 ((x8 + 1)) σ))) ∧ (¬ ((0 : Int) < x8) → ∀ x48 : Int, x48 = Go.bits .and .u8 x31 127 → ∀ x49 : Int, x49 = IntKind.u64.wrap x48 → I64 (7 * x8) ∧ ((0 : Int) ≤ (7 * x8) ∧ (7 * x8) ≤ ((IntKind.bits .u64 : Nat) : Int)) ∧ ∀ x52 : Int, x52 = IntKind.u64.wrap (x49 * 2 ^ Int.toNat (7 * x8)) → ∀ x53 : Int, x53 = Go.bits .or .u64 x7 x52 → ((x31 : Int) < 128 → I64 (x1 + x8) ∧ I64 ((x1 + x8) + 1) ∧ R (.returned (.tuple #[(.int .u64 x53), (.int .i64 ((x1 + x8) + 1)), (.int .i64 0)])) σ) ∧ (¬ ((x31 : Int) < 128) → I64 (x8 + 1) ∧ pt20 R ((some ⟨b30, o30, none⟩)) n0 c0 x1 x53 ((x8 + 1)) σ)))) ∧ (¬ ((x8 : Int) = 9) → ((0 : Int) < x8 → ((x31 : Int) = 0 → R (.returned (.tuple #[(.int .u64 0), (.int .i64 0), (.int .i64 21)])) σ) ∧ (¬ ((x31 : Int) = 0) → ∀ x48 : Int, x48 = Go.bits .and .u8 x31 127 → ∀ x49 : Int, x49 = IntKind.u64.wrap x48 → I64 (7 * x8) ∧ ((0 : Int) ≤ (7 * x8) ∧ (7 * x8) ≤ ((IntKind.bits .u64 : Nat) : Int)) ∧ ∀ x52 : Int, x52 = IntKind.u64.wrap (x49 * 2 ^ Int.toNat (7 * x8)) → ∀ x53 : Int, x53 = Go.bits .or .u64 x7 x52 → ((x31 : Int) < 128 → I64 (x1 + x8) ∧ I64 ((x1 + x8) + 1) ∧ R (.returned (.tuple #[(.int .u64 x53), (.int .i64 ((x1 + x8) + 1)), (.int .i64 0)])) σ) ∧ (¬ ((x31 : Int) < 128) → I64 (x8 + 1) ∧ pt20 R ((some ⟨b30, o30, none⟩)) n0 c0 x1 x53 ((x8 + 1)) σ))) ∧ (¬ ((0 : Int) < x8) → ∀ x48 : Int, x48 = Go.bits .and .u8 x31 127 → ∀ x49 : Int, x49 = IntKind.u64.wrap x48 → I64 (7 * x8) ∧ ((0 : Int) ≤ (7 * x8) ∧ (7 * x8) ≤ ((IntKind.bits .u64 : Nat) : Int)) ∧ ∀ x52 : Int, x52 = IntKind.u64.wrap (x49 * 2 ^ Int.toNat (7 * x8)) → ∀ x53 : Int, x53 = Go.bits .or .u64 x7 x52 → ((x31 : Int) < 128 → I64 (x1 + x8) ∧ I64 ((x1 + x8) + 1) ∧ R (.returned (.tuple #[(.int .u64 x53), (.int .i64 ((x1 + x8) + 1)), (.int .i64 0)])) σ) ∧ (¬ ((x31 : Int) < 128) → I64 (x8 + 1) ∧ pt20 R ((some ⟨b30, o30, none⟩)) n0 c0 x1 x53 ((x8 + 1)) σ))))) : pt20 R p0 n0 c0 x1 x7 x8 σ := by
 intro J
 show At (gl R) _ _ _ _
 refine At.rg 6 [0, 1, 2, 3, 4, 5] ?_
 refine Seq.u 20 (.int .i64 x1) ?_
 refine Seq.u 21 (.int .i64 x8) ?_
 obtain ⟨hi, h⟩ := h
 refine Seq.z 22 (.binOp .add 3 (.tmp 20) (.tmp 21) 3) 3 (.int .i64 (x1 + x8)) (Y.addI hi rfl rfl) ?_
 refine Seq.u 23 (.slice p0 n0 c0) ?_
 refine Seq.z 24 (.call { callee := .builtin .len, args := #[(.tmp 23)], argTypes := #[37] }) 3 (.int .i64 (n0 : Int)) (Y.lenS underlying37 rfl rfl) ?_
 refine Seq.u 25 (.bool (decide (((n0 : Int) : Int) ≤ (x1 + x8)))) ?_
 refine Seq.done ?_
 refine At.L [(0, (.slice p0 n0 c0)), (1, (.int .i64 x1)), (7, (.int .u64 x7)), (8, (.int .i64 x8)), (25, (.bool (decide (((n0 : Int) : Int) ≤ (x1 + x8)))))] fun J => ?_
 cases hb : (decide (((n0 : Int) : Int) ≤ (x1 + x8))) with
 | true =>
  replace h := h.1 (of_decide_eq_true hb)
  refine At.cT 25 K22 K25 ?_
  refine At.s K23 K24 ?_
  refine At.rg 7 [0, 1, 2] ?_
  refine Seq.u 4 (.int .u64 0) ?_
  refine Seq.u 5 (.int .i64 0) ?_
  refine Seq.u 6 (.int .i64 20) ?_
  refine Seq.done ?_
  refine At.L [(4, (.int .u64 0)), (5, (.int .i64 0)), (6, (.int .i64 20))] fun J => ?_
  exact At.rt [.tmp 4, .tmp 5, .tmp 6] [(.int .u64 0), (.int .i64 0), (.int .i64 20)] func64 ⟨_, rfl, ⟨_, rfl, ⟨_, rfl, rfl⟩⟩⟩ h
 | false =>
  replace h := h.2 (of_decide_eq_false hb)
  refine At.cF 25 K22 K25 ?_
  refine At.skip ?_
  refine At.s K27 K28 ?_
  refine At.rg 8 [0, 1, 2, 3, 4, 5, 6] ?_
  refine Seq.u 26 (.slice p0 n0 c0) ?_
  refine Seq.u 27 (.int .i64 x1) ?_
  refine Seq.u 28 (.int .i64 x8) ?_
  obtain ⟨hi, h⟩ := h
  refine Seq.z 29 (.binOp .add 3 (.tmp 27) (.tmp 28) 3) 3 (.int .i64 (x1 + x8)) (Y.addI hi rfl rfl) ?_
  obtain ⟨b30, o30, hq, h⟩ := h
  subst hq
  obtain ⟨hi, h⟩ := h
  refine Seq.z 30 (.indexAddr 37 (.tmp 26) (.tmp 29)) 0 (.pointer (some ⟨b30, (o30 + Int.toNat (x1 + x8) * 1), none⟩)) (Y.idx underlying37 sizeOf5 rfl rfl hi rfl) ?_
  obtain ⟨x31, hl, h⟩ := h
  refine Seq.z 31 (.load 5 (.tmp 30)) 5 (.int .u8 x31) (Y.ld isAgg5 rfl hl) ?_
  refine Seq.u 9 (.int .u8 x31) ?_
  refine Seq.done ?_
  refine At.L [(0, (.slice (some ⟨b30, o30, none⟩) n0 c0)), (1, (.int .i64 x1)), (7, (.int .u64 x7)), (8, (.int .i64 x8)), (9, (.int .u8 x31))] fun J => ?_
  refine At.s K29 K36 ?_
  refine At.s K30 K31 ?_
  refine At.rg 9 [0, 1, 2, 3, 4, 5, 6, 7, 8, 9, 10, 11, 12, 13] ?_
  refine Seq.u 32 (.int .i64 x8) ?_
  refine Seq.u 33 (.bool (decide ((x8 : Int) = 9))) ?_
  refine Seq.u 34 (.bool (decide ((x8 : Int) = 9))) ?_
  cases hb : (decide ((x8 : Int) = 9)) with
  | true =>
   replace h := h.1 (of_decide_eq_true hb)
   refine Seq.u 35 (.int .u8 x31) ?_
   refine Seq.u 36 (.bool (decide ((1 : Int) < x31))) ?_
   refine Seq.u 37 (.bool (decide ((1 : Int) < x31))) ?_
   refine Seq.u 38 (.bool (decide ((1 : Int) < x31))) ?_
   cases hb : (decide ((1 : Int) < x31)) with
   | true =>
    replace h := h.1 (of_decide_eq_true hb)
    refine Seq.n 39 ?_
    refine Seq.n 40 ?_
    refine Seq.n 41 ?_
    refine Seq.n 42 ?_
    refine Seq.n 43 ?_
    refine Seq.n 44 ?_
    refine Seq.u 45 (.bool true) ?_
    refine Seq.done ?_
    refine At.L [(0, (.slice (some ⟨b30, o30, none⟩) n0 c0)), (1, (.int .i64 x1)), (7, (.int .u64 x7)), (8, (.int .i64 x8)), (9, (.int .u8 x31)), (45, (.bool true))] fun J => ?_
    refine At.cT 45 K32 K35 ?_
    refine At.s K33 K34 ?_
    refine At.rg 10 [0, 1, 2] ?_
    refine Seq.u 4 (.int .u64 0) ?_
    refine Seq.u 5 (.int .i64 0) ?_
    refine Seq.u 6 (.int .i64 21) ?_
    refine Seq.done ?_
    refine At.L [(4, (.int .u64 0)), (5, (.int .i64 0)), (6, (.int .i64 21))] fun J => ?_
    exact At.rt [.tmp 4, .tmp 5, .tmp 6] [(.int .u64 0), (.int .i64 0), (.int .i64 21)] func64 ⟨_, rfl, ⟨_, rfl, ⟨_, rfl, rfl⟩⟩⟩ h
   | false =>
    replace h := h.2 (of_decide_eq_false hb)
    refine Seq.u 39 (.int .i64 x8) ?_
    refine Seq.u 40 (.bool (decide ((0 : Int) < x8))) ?_
    refine Seq.u 41 (.bool (decide ((0 : Int) < x8))) ?_
    cases hb : (decide ((0 : Int) < x8)) with
    | true =>
     replace h := h.1 (of_decide_eq_true hb)
     refine Seq.u 42 (.int .u8 x31) ?_
     refine Seq.u 43 (.bool (decide ((x31 : Int) = 0))) ?_
     refine Seq.u 44 (.bool (decide ((x31 : Int) = 0))) ?_
     refine Seq.u 45 (.bool (decide ((x31 : Int) = 0))) ?_
     refine Seq.done ?_
     refine At.L [(0, (.slice (some ⟨b30, o30, none⟩) n0 c0)), (1, (.int .i64 x1)), (7, (.int .u64 x7)), (8, (.int .i64 x8)), (9, (.int .u8 x31)), (45, (.bool (decide ((x31 : Int) = 0))))] fun J => ?_
     cases hb : (decide ((x31 : Int) = 0)) with
     | true =>
      replace h := h.1 (of_decide_eq_true hb)
      refine At.cT 45 K32 K35 ?_
      refine At.s K33 K34 ?_
      refine At.rg 10 [0, 1, 2] ?_
      refine Seq.u 4 (.int .u64 0) ?_
      refine Seq.u 5 (.int .i64 0) ?_
      refine Seq.u 6 (.int .i64 21) ?_
      refine Seq.done ?_
      refine At.L [(4, (.int .u64 0)), (5, (.int .i64 0)), (6, (.int .i64 21))] fun J => ?_
      exact At.rt [.tmp 4, .tmp 5, .tmp 6] [(.int .u64 0), (.int .i64 0), (.int .i64 21)] func64 ⟨_, rfl, ⟨_, rfl, ⟨_, rfl, rfl⟩⟩⟩ h
     | false =>
      replace h := h.2 (of_decide_eq_false hb)
      refine At.cF 45 K32 K35 ?_
      refine At.skip ?_
      refine At.s K37 K38 ?_
      refine At.rg 11 [0, 1, 2, 3, 4, 5, 6, 7, 8] ?_
      refine Seq.u 46 (.int .u64 x7) ?_
      refine Seq.u 47 (.int .u8 x31) ?_
      obtain ⟨x48, hwx48⟩ : ∃ y, y = Go.bits .and .u8 x31 127 := ⟨_, rfl⟩
      replace h := h x48 hwx48
      refine Seq.y (d := (some 48)) (op := (.binOp .and 5 (.tmp 47) (.const (.int .u8 127)) 5)) (ty := 5) (v := (.int .u8 x48)) (by kernel_rfl) rfl (hwx48 ▸ Y.bits (by simp) rfl rfl) ?_
      obtain ⟨x49, hwx49⟩ : ∃ y, y = IntKind.u64.wrap x48 := ⟨_, rfl⟩
      replace h := h x49 hwx49
      refine Seq.y (d := (some 49)) (op := (.convert 5 22 (.tmp 48))) (ty := 22) (v := (.int .u64 x49)) (by kernel_rfl) rfl (hwx49 ▸ Y.conv (by kernel_rfl) underlying22 rfl) ?_
      refine Seq.u 50 (.int .i64 x8) ?_
      obtain ⟨hi, h⟩ := h
      refine Seq.z 51 (.binOp .mul 3 (.const (.int .i64 7)) (.tmp 50) 3) 3 (.int .i64 (7 * x8)) (Y.mulI hi rfl rfl) ?_
      obtain ⟨hc, h⟩ := h
      obtain ⟨x52, hwx52⟩ : ∃ y, y = IntKind.u64.wrap (x49 * 2 ^ Int.toNat (7 * x8)) := ⟨_, rfl⟩
      replace h := h x52 hwx52
      refine Seq.y (d := (some 52)) (op := (.binOp .shl 22 (.tmp 49) (.tmp 51) 3)) (ty := 22) (v := (.int .u64 x52)) (by kernel_rfl) rfl (hwx52 ▸ Y.shl hc.1 hc.2 rfl rfl) ?_
      obtain ⟨x53, hwx53⟩ : ∃ y, y = Go.bits .or .u64 x7 x52 := ⟨_, rfl⟩
      replace h := h x53 hwx53
      refine Seq.y (d := (some 53)) (op := (.binOp .or 22 (.tmp 46) (.tmp 52) 22)) (ty := 22) (v := (.int .u64 x53)) (by kernel_rfl) rfl (hwx53 ▸ Y.bits (by simp) rfl rfl) ?_
      refine Seq.u 7 (.int .u64 x53) ?_
      refine Seq.done ?_
      refine At.L [(0, (.slice (some ⟨b30, o30, none⟩) n0 c0)), (1, (.int .i64 x1)), (7, (.int .u64 x53)), (8, (.int .i64 x8)), (9, (.int .u8 x31))] fun J => ?_
      refine At.s K39 K40 ?_
      refine At.rg 12 [0, 1] ?_
      refine Seq.u 54 (.int .u8 x31) ?_
      refine Seq.u 55 (.bool (decide ((x31 : Int) < 128))) ?_
      refine Seq.done ?_
      refine At.L [(0, (.slice (some ⟨b30, o30, none⟩) n0 c0)), (1, (.int .i64 x1)), (7, (.int .u64 x53)), (8, (.int .i64 x8)), (55, (.bool (decide ((x31 : Int) < 128))))] fun J => ?_
      cases hb : (decide ((x31 : Int) < 128)) with
      | true =>
       replace h := h.1 (of_decide_eq_true hb)
       refine At.cT 55 K41 K44 ?_
       refine At.s K42 K43 ?_
       refine At.rg 13 [0, 1, 2, 3, 4, 5, 6, 7] ?_
       refine Seq.u 56 (.int .u64 x53) ?_
       refine Seq.u 57 (.int .i64 x1) ?_
       refine Seq.u 58 (.int .i64 x8) ?_
       obtain ⟨hi, h⟩ := h
       refine Seq.z 59 (.binOp .add 3 (.tmp 57) (.tmp 58) 3) 3 (.int .i64 (x1 + x8)) (Y.addI hi rfl rfl) ?_
       obtain ⟨hi, h⟩ := h
       refine Seq.z 60 (.binOp .add 3 (.tmp 59) (.const (.int .i64 1)) 3) 3 (.int .i64 ((x1 + x8) + 1)) (Y.addI hi rfl rfl) ?_
       refine Seq.u 4 (.int .u64 x53) ?_
       refine Seq.u 5 (.int .i64 ((x1 + x8) + 1)) ?_
       refine Seq.u 6 (.int .i64 0) ?_
       refine Seq.done ?_
       refine At.L [(4, (.int .u64 x53)), (5, (.int .i64 ((x1 + x8) + 1))), (6, (.int .i64 0))] fun J => ?_
       exact At.rt [.tmp 4, .tmp 5, .tmp 6] [(.int .u64 x53), (.int .i64 ((x1 + x8) + 1)), (.int .i64 0)] func64 ⟨_, rfl, ⟨_, rfl, ⟨_, rfl, rfl⟩⟩⟩ h
      | false =>
       replace h := h.2 (of_decide_eq_false hb)
       refine At.cF 55 K41 K44 ?_
       refine At.skip ?_
       refine At.inBlock ?_
       refine At.rg 5 [0, 1, 2] ?_
       refine Seq.u 18 (.int .i64 x8) ?_
       obtain ⟨hi, h⟩ := h
       refine Seq.z 19 (.binOp .add 3 (.tmp 18) (.const (.int .i64 1)) 3) 3 (.int .i64 (x8 + 1)) (Y.addI hi rfl rfl) ?_
       refine Seq.u 8 (.int .i64 (x8 + 1)) ?_
       refine Seq.done ?_
       refine At.L [(0, (.slice (some ⟨b30, o30, none⟩) n0 c0)), (1, (.int .i64 x1)), (7, (.int .u64 x53)), (8, (.int .i64 (x8 + 1)))] fun J => ?_
       refine At.inLoop ?_
       refine At.s K17 K45 ?_
       refine At.b 1 K18 ?_
       refine At.s K19 K26 ?_
       refine At.s K20 K21 ?_
       exact At.v [(0, (.slice (some ⟨b30, o30, none⟩) n0 c0)), (1, (.int .i64 x1)), (7, (.int .u64 x53)), (8, (.int .i64 (x8 + 1)))] (h _)
    | false =>
     replace h := h.2 (of_decide_eq_false hb)
     refine Seq.n 42 ?_
     refine Seq.n 43 ?_
     refine Seq.u 44 (.bool false) ?_
     refine Seq.u 45 (.bool false) ?_
     refine Seq.done ?_
     refine At.L [(0, (.slice (some ⟨b30, o30, none⟩) n0 c0)), (1, (.int .i64 x1)), (7, (.int .u64 x7)), (8, (.int .i64 x8)), (9, (.int .u8 x31)), (45, (.bool false))] fun J => ?_
     refine At.cF 45 K32 K35 ?_
     refine At.skip ?_
     refine At.s K37 K38 ?_
     refine At.rg 11 [0, 1, 2, 3, 4, 5, 6, 7, 8] ?_
     refine Seq.u 46 (.int .u64 x7) ?_
     refine Seq.u 47 (.int .u8 x31) ?_
     obtain ⟨x48, hwx48⟩ : ∃ y, y = Go.bits .and .u8 x31 127 := ⟨_, rfl⟩
     replace h := h x48 hwx48
     refine Seq.y (d := (some 48)) (op := (.binOp .and 5 (.tmp 47) (.const (.int .u8 127)) 5)) (ty := 5) (v := (.int .u8 x48)) (by kernel_rfl) rfl (hwx48 ▸ Y.bits (by simp) rfl rfl) ?_
     obtain ⟨x49, hwx49⟩ : ∃ y, y = IntKind.u64.wrap x48 := ⟨_, rfl⟩
     replace h := h x49 hwx49
     refine Seq.y (d := (some 49)) (op := (.convert 5 22 (.tmp 48))) (ty := 22) (v := (.int .u64 x49)) (by kernel_rfl) rfl (hwx49 ▸ Y.conv (by kernel_rfl) underlying22 rfl) ?_
     refine Seq.u 50 (.int .i64 x8) ?_
     obtain ⟨hi, h⟩ := h
     refine Seq.z 51 (.binOp .mul 3 (.const (.int .i64 7)) (.tmp 50) 3) 3 (.int .i64 (7 * x8)) (Y.mulI hi rfl rfl) ?_
     obtain ⟨hc, h⟩ := h
     obtain ⟨x52, hwx52⟩ : ∃ y, y = IntKind.u64.wrap (x49 * 2 ^ Int.toNat (7 * x8)) := ⟨_, rfl⟩
     replace h := h x52 hwx52
     refine Seq.y (d := (some 52)) (op := (.binOp .shl 22 (.tmp 49) (.tmp 51) 3)) (ty := 22) (v := (.int .u64 x52)) (by kernel_rfl) rfl (hwx52 ▸ Y.shl hc.1 hc.2 rfl rfl) ?_
     obtain ⟨x53, hwx53⟩ : ∃ y, y = Go.bits .or .u64 x7 x52 := ⟨_, rfl⟩
     replace h := h x53 hwx53
     refine Seq.y (d := (some 53)) (op := (.binOp .or 22 (.tmp 46) (.tmp 52) 22)) (ty := 22) (v := (.int .u64 x53)) (by kernel_rfl) rfl (hwx53 ▸ Y.bits (by simp) rfl rfl) ?_
     refine Seq.u 7 (.int .u64 x53) ?_
     refine Seq.done ?_
     refine At.L [(0, (.slice (some ⟨b30, o30, none⟩) n0 c0)), (1, (.int .i64 x1)), (7, (.int .u64 x53)), (8, (.int .i64 x8)), (9, (.int .u8 x31))] fun J => ?_
     refine At.s K39 K40 ?_
     refine At.rg 12 [0, 1] ?_
     refine Seq.u 54 (.int .u8 x31) ?_
     refine Seq.u 55 (.bool (decide ((x31 : Int) < 128))) ?_
     refine Seq.done ?_
     refine At.L [(0, (.slice (some ⟨b30, o30, none⟩) n0 c0)), (1, (.int .i64 x1)), (7, (.int .u64 x53)), (8, (.int .i64 x8)), (55, (.bool (decide ((x31 : Int) < 128))))] fun J => ?_
     cases hb : (decide ((x31 : Int) < 128)) with
     | true =>
      replace h := h.1 (of_decide_eq_true hb)
      refine At.cT 55 K41 K44 ?_
      refine At.s K42 K43 ?_
      refine At.rg 13 [0, 1, 2, 3, 4, 5, 6, 7] ?_
      refine Seq.u 56 (.int .u64 x53) ?_
      refine Seq.u 57 (.int .i64 x1) ?_
      refine Seq.u 58 (.int .i64 x8) ?_
      obtain ⟨hi, h⟩ := h
      refine Seq.z 59 (.binOp .add 3 (.tmp 57) (.tmp 58) 3) 3 (.int .i64 (x1 + x8)) (Y.addI hi rfl rfl) ?_
      obtain ⟨hi, h⟩ := h
      refine Seq.z 60 (.binOp .add 3 (.tmp 59) (.const (.int .i64 1)) 3) 3 (.int .i64 ((x1 + x8) + 1)) (Y.addI hi rfl rfl) ?_
      refine Seq.u 4 (.int .u64 x53) ?_
      refine Seq.u 5 (.int .i64 ((x1 + x8) + 1)) ?_
      refine Seq.u 6 (.int .i64 0) ?_
      refine Seq.done ?_
      refine At.L [(4, (.int .u64 x53)), (5, (.int .i64 ((x1 + x8) + 1))), (6, (.int .i64 0))] fun J => ?_
      exact At.rt [.tmp 4, .tmp 5, .tmp 6] [(.int .u64 x53), (.int .i64 ((x1 + x8) + 1)), (.int .i64 0)] func64 ⟨_, rfl, ⟨_, rfl, ⟨_, rfl, rfl⟩⟩⟩ h
     | false =>
      replace h := h.2 (of_decide_eq_false hb)
      refine At.cF 55 K41 K44 ?_
      refine At.skip ?_
      refine At.inBlock ?_
      refine At.rg 5 [0, 1, 2] ?_
      refine Seq.u 18 (.int .i64 x8) ?_
      obtain ⟨hi, h⟩ := h
      refine Seq.z 19 (.binOp .add 3 (.tmp 18) (.const (.int .i64 1)) 3) 3 (.int .i64 (x8 + 1)) (Y.addI hi rfl rfl) ?_
      refine Seq.u 8 (.int .i64 (x8 + 1)) ?_
      refine Seq.done ?_
      refine At.L [(0, (.slice (some ⟨b30, o30, none⟩) n0 c0)), (1, (.int .i64 x1)), (7, (.int .u64 x53)), (8, (.int .i64 (x8 + 1)))] fun J => ?_
      refine At.inLoop ?_
      refine At.s K17 K45 ?_
      refine At.b 1 K18 ?_
      refine At.s K19 K26 ?_
      refine At.s K20 K21 ?_
      exact At.v [(0, (.slice (some ⟨b30, o30, none⟩) n0 c0)), (1, (.int .i64 x1)), (7, (.int .u64 x53)), (8, (.int .i64 (x8 + 1)))] (h _)
  | false =>
   replace h := h.2 (of_decide_eq_false hb)
   refine Seq.n 35 ?_
   refine Seq.n 36 ?_
   refine Seq.u 37 (.bool false) ?_
   refine Seq.u 38 (.bool false) ?_
   refine Seq.u 39 (.int .i64 x8) ?_
   refine Seq.u 40 (.bool (decide ((0 : Int) < x8))) ?_
   refine Seq.u 41 (.bool (decide ((0 : Int) < x8))) ?_
   cases hb : (decide ((0 : Int) < x8)) with
   | true =>
    replace h := h.1 (of_decide_eq_true hb)
    refine Seq.u 42 (.int .u8 x31) ?_
    refine Seq.u 43 (.bool (decide ((x31 : Int) = 0))) ?_
    refine Seq.u 44 (.bool (decide ((x31 : Int) = 0))) ?_
    refine Seq.u 45 (.bool (decide ((x31 : Int) = 0))) ?_
    refine Seq.done ?_
    refine At.L [(0, (.slice (some ⟨b30, o30, none⟩) n0 c0)), (1, (.int .i64 x1)), (7, (.int .u64 x7)), (8, (.int .i64 x8)), (9, (.int .u8 x31)), (45, (.bool (decide ((x31 : Int) = 0))))] fun J => ?_
    cases hb : (decide ((x31 : Int) = 0)) with
    | true =>
     replace h := h.1 (of_decide_eq_true hb)
     refine At.cT 45 K32 K35 ?_
     refine At.s K33 K34 ?_
     refine At.rg 10 [0, 1, 2] ?_
     refine Seq.u 4 (.int .u64 0) ?_
     refine Seq.u 5 (.int .i64 0) ?_
     refine Seq.u 6 (.int .i64 21) ?_
     refine Seq.done ?_
     refine At.L [(4, (.int .u64 0)), (5, (.int .i64 0)), (6, (.int .i64 21))] fun J => ?_
     exact At.rt [.tmp 4, .tmp 5, .tmp 6] [(.int .u64 0), (.int .i64 0), (.int .i64 21)] func64 ⟨_, rfl, ⟨_, rfl, ⟨_, rfl, rfl⟩⟩⟩ h
    | false =>
     replace h := h.2 (of_decide_eq_false hb)
     refine At.cF 45 K32 K35 ?_
     refine At.skip ?_
     refine At.s K37 K38 ?_
     refine At.rg 11 [0, 1, 2, 3, 4, 5, 6, 7, 8] ?_
     refine Seq.u 46 (.int .u64 x7) ?_
     refine Seq.u 47 (.int .u8 x31) ?_
     obtain ⟨x48, hwx48⟩ : ∃ y, y = Go.bits .and .u8 x31 127 := ⟨_, rfl⟩
     replace h := h x48 hwx48
     refine Seq.y (d := (some 48)) (op := (.binOp .and 5 (.tmp 47) (.const (.int .u8 127)) 5)) (ty := 5) (v := (.int .u8 x48)) (by kernel_rfl) rfl (hwx48 ▸ Y.bits (by simp) rfl rfl) ?_
     obtain ⟨x49, hwx49⟩ : ∃ y, y = IntKind.u64.wrap x48 := ⟨_, rfl⟩
     replace h := h x49 hwx49
     refine Seq.y (d := (some 49)) (op := (.convert 5 22 (.tmp 48))) (ty := 22) (v := (.int .u64 x49)) (by kernel_rfl) rfl (hwx49 ▸ Y.conv (by kernel_rfl) underlying22 rfl) ?_
     refine Seq.u 50 (.int .i64 x8) ?_
     obtain ⟨hi, h⟩ := h
     refine Seq.z 51 (.binOp .mul 3 (.const (.int .i64 7)) (.tmp 50) 3) 3 (.int .i64 (7 * x8)) (Y.mulI hi rfl rfl) ?_
     obtain ⟨hc, h⟩ := h
     obtain ⟨x52, hwx52⟩ : ∃ y, y = IntKind.u64.wrap (x49 * 2 ^ Int.toNat (7 * x8)) := ⟨_, rfl⟩
     replace h := h x52 hwx52
     refine Seq.y (d := (some 52)) (op := (.binOp .shl 22 (.tmp 49) (.tmp 51) 3)) (ty := 22) (v := (.int .u64 x52)) (by kernel_rfl) rfl (hwx52 ▸ Y.shl hc.1 hc.2 rfl rfl) ?_
     obtain ⟨x53, hwx53⟩ : ∃ y, y = Go.bits .or .u64 x7 x52 := ⟨_, rfl⟩
     replace h := h x53 hwx53
     refine Seq.y (d := (some 53)) (op := (.binOp .or 22 (.tmp 46) (.tmp 52) 22)) (ty := 22) (v := (.int .u64 x53)) (by kernel_rfl) rfl (hwx53 ▸ Y.bits (by simp) rfl rfl) ?_
     refine Seq.u 7 (.int .u64 x53) ?_
     refine Seq.done ?_
     refine At.L [(0, (.slice (some ⟨b30, o30, none⟩) n0 c0)), (1, (.int .i64 x1)), (7, (.int .u64 x53)), (8, (.int .i64 x8)), (9, (.int .u8 x31))] fun J => ?_
     refine At.s K39 K40 ?_
     refine At.rg 12 [0, 1] ?_
     refine Seq.u 54 (.int .u8 x31) ?_
     refine Seq.u 55 (.bool (decide ((x31 : Int) < 128))) ?_
     refine Seq.done ?_
     refine At.L [(0, (.slice (some ⟨b30, o30, none⟩) n0 c0)), (1, (.int .i64 x1)), (7, (.int .u64 x53)), (8, (.int .i64 x8)), (55, (.bool (decide ((x31 : Int) < 128))))] fun J => ?_
     cases hb : (decide ((x31 : Int) < 128)) with
     | true =>
      replace h := h.1 (of_decide_eq_true hb)
      refine At.cT 55 K41 K44 ?_
      refine At.s K42 K43 ?_
      refine At.rg 13 [0, 1, 2, 3, 4, 5, 6, 7] ?_
      refine Seq.u 56 (.int .u64 x53) ?_
      refine Seq.u 57 (.int .i64 x1) ?_
      refine Seq.u 58 (.int .i64 x8) ?_
      obtain ⟨hi, h⟩ := h
      refine Seq.z 59 (.binOp .add 3 (.tmp 57) (.tmp 58) 3) 3 (.int .i64 (x1 + x8)) (Y.addI hi rfl rfl) ?_
      obtain ⟨hi, h⟩ := h
      refine Seq.z 60 (.binOp .add 3 (.tmp 59) (.const (.int .i64 1)) 3) 3 (.int .i64 ((x1 + x8) + 1)) (Y.addI hi rfl rfl) ?_
      refine Seq.u 4 (.int .u64 x53) ?_
      refine Seq.u 5 (.int .i64 ((x1 + x8) + 1)) ?_
      refine Seq.u 6 (.int .i64 0) ?_
      refine Seq.done ?_
      refine At.L [(4, (.int .u64 x53)), (5, (.int .i64 ((x1 + x8) + 1))), (6, (.int .i64 0))] fun J => ?_
      exact At.rt [.tmp 4, .tmp 5, .tmp 6] [(.int .u64 x53), (.int .i64 ((x1 + x8) + 1)), (.int .i64 0)] func64 ⟨_, rfl, ⟨_, rfl, ⟨_, rfl, rfl⟩⟩⟩ h
     | false =>
      replace h := h.2 (of_decide_eq_false hb)
      refine At.cF 55 K41 K44 ?_
      refine At.skip ?_
      refine At.inBlock ?_
      refine At.rg 5 [0, 1, 2] ?_
      refine Seq.u 18 (.int .i64 x8) ?_
      obtain ⟨hi, h⟩ := h
      refine Seq.z 19 (.binOp .add 3 (.tmp 18) (.const (.int .i64 1)) 3) 3 (.int .i64 (x8 + 1)) (Y.addI hi rfl rfl) ?_
      refine Seq.u 8 (.int .i64 (x8 + 1)) ?_
      refine Seq.done ?_
      refine At.L [(0, (.slice (some ⟨b30, o30, none⟩) n0 c0)), (1, (.int .i64 x1)), (7, (.int .u64 x53)), (8, (.int .i64 (x8 + 1)))] fun J => ?_
      refine At.inLoop ?_
      refine At.s K17 K45 ?_
      refine At.b 1 K18 ?_
      refine At.s K19 K26 ?_
      refine At.s K20 K21 ?_
      exact At.v [(0, (.slice (some ⟨b30, o30, none⟩) n0 c0)), (1, (.int .i64 x1)), (7, (.int .u64 x53)), (8, (.int .i64 (x8 + 1)))] (h _)
   | false =>
    replace h := h.2 (of_decide_eq_false hb)
    refine Seq.n 42 ?_
    refine Seq.n 43 ?_
    refine Seq.u 44 (.bool false) ?_
    refine Seq.u 45 (.bool false) ?_
    refine Seq.done ?_
    refine At.L [(0, (.slice (some ⟨b30, o30, none⟩) n0 c0)), (1, (.int .i64 x1)), (7, (.int .u64 x7)), (8, (.int .i64 x8)), (9, (.int .u8 x31)), (45, (.bool false))] fun J => ?_
    refine At.cF 45 K32 K35 ?_
    refine At.skip ?_
    refine At.s K37 K38 ?_
    refine At.rg 11 [0, 1, 2, 3, 4, 5, 6, 7, 8] ?_
    refine Seq.u 46 (.int .u64 x7) ?_
    refine Seq.u 47 (.int .u8 x31) ?_
    obtain ⟨x48, hwx48⟩ : ∃ y, y = Go.bits .and .u8 x31 127 := ⟨_, rfl⟩
    replace h := h x48 hwx48
    refine Seq.y (d := (some 48)) (op := (.binOp .and 5 (.tmp 47) (.const (.int .u8 127)) 5)) (ty := 5) (v := (.int .u8 x48)) (by kernel_rfl) rfl (hwx48 ▸ Y.bits (by simp) rfl rfl) ?_
    obtain ⟨x49, hwx49⟩ : ∃ y, y = IntKind.u64.wrap x48 := ⟨_, rfl⟩
    replace h := h x49 hwx49
    refine Seq.y (d := (some 49)) (op := (.convert 5 22 (.tmp 48))) (ty := 22) (v := (.int .u64 x49)) (by kernel_rfl) rfl (hwx49 ▸ Y.conv (by kernel_rfl) underlying22 rfl) ?_
    refine Seq.u 50 (.int .i64 x8) ?_
    obtain ⟨hi, h⟩ := h
    refine Seq.z 51 (.binOp .mul 3 (.const (.int .i64 7)) (.tmp 50) 3) 3 (.int .i64 (7 * x8)) (Y.mulI hi rfl rfl) ?_
    obtain ⟨hc, h⟩ := h
    obtain ⟨x52, hwx52⟩ : ∃ y, y = IntKind.u64.wrap (x49 * 2 ^ Int.toNat (7 * x8)) := ⟨_, rfl⟩
    replace h := h x52 hwx52
    refine Seq.y (d := (some 52)) (op := (.binOp .shl 22 (.tmp 49) (.tmp 51) 3)) (ty := 22) (v := (.int .u64 x52)) (by kernel_rfl) rfl (hwx52 ▸ Y.shl hc.1 hc.2 rfl rfl) ?_
    obtain ⟨x53, hwx53⟩ : ∃ y, y = Go.bits .or .u64 x7 x52 := ⟨_, rfl⟩
    replace h := h x53 hwx53
    refine Seq.y (d := (some 53)) (op := (.binOp .or 22 (.tmp 46) (.tmp 52) 22)) (ty := 22) (v := (.int .u64 x53)) (by kernel_rfl) rfl (hwx53 ▸ Y.bits (by simp) rfl rfl) ?_
    refine Seq.u 7 (.int .u64 x53) ?_
    refine Seq.done ?_
    refine At.L [(0, (.slice (some ⟨b30, o30, none⟩) n0 c0)), (1, (.int .i64 x1)), (7, (.int .u64 x53)), (8, (.int .i64 x8)), (9, (.int .u8 x31))] fun J => ?_
    refine At.s K39 K40 ?_
    refine At.rg 12 [0, 1] ?_
    refine Seq.u 54 (.int .u8 x31) ?_
    refine Seq.u 55 (.bool (decide ((x31 : Int) < 128))) ?_
    refine Seq.done ?_
    refine At.L [(0, (.slice (some ⟨b30, o30, none⟩) n0 c0)), (1, (.int .i64 x1)), (7, (.int .u64 x53)), (8, (.int .i64 x8)), (55, (.bool (decide ((x31 : Int) < 128))))] fun J => ?_
    cases hb : (decide ((x31 : Int) < 128)) with
    | true =>
     replace h := h.1 (of_decide_eq_true hb)
     refine At.cT 55 K41 K44 ?_
     refine At.s K42 K43 ?_
     refine At.rg 13 [0, 1, 2, 3, 4, 5, 6, 7] ?_
     refine Seq.u 56 (.int .u64 x53) ?_
     refine Seq.u 57 (.int .i64 x1) ?_
     refine Seq.u 58 (.int .i64 x8) ?_
     obtain ⟨hi, h⟩ := h
     refine Seq.z 59 (.binOp .add 3 (.tmp 57) (.tmp 58) 3) 3 (.int .i64 (x1 + x8)) (Y.addI hi rfl rfl) ?_
     obtain ⟨hi, h⟩ := h
     refine Seq.z 60 (.binOp .add 3 (.tmp 59) (.const (.int .i64 1)) 3) 3 (.int .i64 ((x1 + x8) + 1)) (Y.addI hi rfl rfl) ?_
     refine Seq.u 4 (.int .u64 x53) ?_
     refine Seq.u 5 (.int .i64 ((x1 + x8) + 1)) ?_
     refine Seq.u 6 (.int .i64 0) ?_
     refine Seq.done ?_
     refine At.L [(4, (.int .u64 x53)), (5, (.int .i64 ((x1 + x8) + 1))), (6, (.int .i64 0))] fun J => ?_
     exact At.rt [.tmp 4, .tmp 5, .tmp 6] [(.int .u64 x53), (.int .i64 ((x1 + x8) + 1)), (.int .i64 0)] func64 ⟨_, rfl, ⟨_, rfl, ⟨_, rfl, rfl⟩⟩⟩ h
    | false =>
     replace h := h.2 (of_decide_eq_false hb)
     refine At.cF 55 K41 K44 ?_
     refine At.skip ?_
     refine At.inBlock ?_
     refine At.rg 5 [0, 1, 2] ?_
     refine Seq.u 18 (.int .i64 x8) ?_
     obtain ⟨hi, h⟩ := h
     refine Seq.z 19 (.binOp .add 3 (.tmp 18) (.const (.int .i64 1)) 3) 3 (.int .i64 (x8 + 1)) (Y.addI hi rfl rfl) ?_
     refine Seq.u 8 (.int .i64 (x8 + 1)) ?_
     refine Seq.done ?_
     refine At.L [(0, (.slice (some ⟨b30, o30, none⟩) n0 c0)), (1, (.int .i64 x1)), (7, (.int .u64 x53)), (8, (.int .i64 (x8 + 1)))] fun J => ?_
     refine At.inLoop ?_
     refine At.s K17 K45 ?_
     refine At.b 1 K18 ?_
     refine At.s K19 K26 ?_
     refine At.s K20 K21 ?_
     exact At.v [(0, (.slice (some ⟨b30, o30, none⟩) n0 c0)), (1, (.int .i64 x1)), (7, (.int .u64 x53)), (8, (.int .i64 (x8 + 1)))] (h _)
end ref2_Uint
namespace label_FNV
abbrev fid : Nat := 61
noncomputable def K0 : Code := f61.body.getD .skip
noncomputable def K1 := Tw.cl K0
noncomputable def K2 := Tw.cr K0
noncomputable def K3 := Tw.cl K2
noncomputable def K4 := Tw.cr K2
noncomputable def K5 := Tw.cl K4
noncomputable def K6 := Tw.cl K5
noncomputable def K7 := Tw.cr K5
noncomputable def K8 := Tw.cl K7
noncomputable def K9 := Tw.cl K8
noncomputable def K10 := Tw.cl K9
noncomputable def K11 := Tw.cr K9
noncomputable def K12 := Tw.cl K11
noncomputable def K13 := Tw.cl K12
noncomputable def K14 := Tw.cr K12
noncomputable def K15 := Tw.cr K11
noncomputable def K16 := Tw.cl K15
noncomputable def K17 := Tw.cl K16
noncomputable def K18 := Tw.cl K17
noncomputable def K19 := Tw.cr K17
noncomputable def K20 := Tw.cr K15
noncomputable def K21 := Tw.cr K4
noncomputable def K22 := Tw.cl K21
noncomputable def K23 := Tw.cr K21
noncomputable abbrev gl (R : Ending → Hp → Prop) : Gl := Gl.fn prog 61 19 R
def pt10 (R : Ending → Hp → Prop) (x3 : Int) (p6 : Option Addr) (n6 : Nat) (c6 : Nat) (x7 : Int) (x8 : Int) (σ : Hp) : Prop := ∀ (J : Env), At (gl R) [.code K10, .code K11, .inLoop K9, .inBlock 0, .code K21] (upds J [(3, (.int .u32 x3)), (6, (.slice p6 n6 c6)), (7, (.int .i64 x7)), (8, (.int .i64 x8))]) [] σ
theorem start {R : Ending → Hp → Prop} {p0 : Option Addr} {n0 : Nat} {c0 : Nat} {σ : Hp} (h : pt10 R 2166136261 p0 n0 c0 ((n0 : Int)) 0 σ) : Spec prog 61 #[(.slice p0 n0 c0)] σ R := by
 refine Spec.of_at (fn := f61) (c := K0) func61 (by kernel_rfl) (Nat.le_of_ble_eq_true (by kernel_rfl)) (fun e he => ?_)
 refine At.ofL (l := [(0, (.slice p0 n0 c0))]) ⟨he 0, trivial⟩ (fun J => ?_)
 show At (gl R) _ _ _ _
 refine At.s K1 K2 ?_
 refine At.rg 0 [0] ?_
 refine Seq.u 2 (.int .u32 0) ?_
 refine Seq.done ?_
 refine At.L [(0, (.slice p0 n0 c0))] fun J => ?_
 refine At.s K3 K4 ?_
 refine At.rg 1 [0] ?_
 refine Seq.u 3 (.int .u32 2166136261) ?_
 refine Seq.done ?_
 refine At.L [(0, (.slice p0 n0 c0)), (3, (.int .u32 2166136261))] fun J => ?_
 refine At.s K5 K21 ?_
 refine At.s K6 K7 ?_
 refine At.rg 2 [0, 1, 2] ?_
 refine Seq.u 6 (.slice p0 n0 c0) ?_
 refine Seq.z 7 (.call { callee := .builtin .len, args := #[(.tmp 6)], argTypes := #[37] }) 3 (.int .i64 (n0 : Int)) (Y.lenS underlying37 rfl rfl) ?_
 refine Seq.u 8 (.int .i64 0) ?_
 refine Seq.done ?_
 refine At.L [(3, (.int .u32 2166136261)), (6, (.slice p0 n0 c0)), (7, (.int .i64 (n0 : Int))), (8, (.int .i64 0))] fun J => ?_
 refine At.b 0 K8 ?_
 refine At.loop (x := K9) (by kernel_rfl) ?_
 refine At.s K10 K11 ?_
 exact At.v [(3, (.int .u32 2166136261)), (6, (.slice p0 n0 c0)), (7, (.int .i64 (n0 : Int))), (8, (.int .i64 0))] (h _)
theorem pt10_of {R : Ending → Hp → Prop} {x3 : Int} {p6 : Option Addr} {n6 : Nat} {c6 : Nat} {x7 : Int} {x8 : Int} {σ : Hp} (h : ((x8 : Int) < x7 → ∃ (b10 o10 : Nat), p6 = some ⟨b10, o10, none⟩ ∧ ((0 : Int) ≤ x8 ∧ x8 < (n6 : Int)) ∧ ∃ x11 : Int, Hp.ld σ ⟨b10, (o10 + Int.toNat x8 * 1), none⟩ = some (.int .u8 x11) ∧ ∀ x14 : Int, x14 = IntKind.u32.wrap x11 → ∀ x15 : Int, x15 = Go.bits .xor .u32 x3 x14 → ∀ x16 : Int, x16 = IntKind.u32.wrap (x15 * 16777619) → I64 (x8 + 1) ∧ pt10 R x16 ((some ⟨b10, o10, none⟩)) n6 c6 x7 ((x8 + 1)) σ) ∧ (¬ ((x8 : Int) < x7) → R (.returned (.int .u32 x3)) σ)) : pt10 R x3 p6 n6 c6 x7 x8 σ := by
 intro J
 show At (gl R) _ _ _ _
 refine At.rg 3 [0] ?_
 refine Seq.u 9 (.bool (decide ((x8 : Int) < x7))) ?_
 refine Seq.done ?_
 refine At.L [(3, (.int .u32 x3)), (6, (.slice p6 n6 c6)), (7, (.int .i64 x7)), (8, (.int .i64 x8)), (9, (.bool (decide ((x8 : Int) < x7))))] fun J => ?_
 refine At.s K12 K15 ?_
 cases hb : (decide ((x8 : Int) < x7)) with
 | true =>
  replace h := h.1 (of_decide_eq_true hb)
  refine At.cT 9 K13 K14 ?_
  refine At.skip ?_
  refine At.s K16 K20 ?_
  refine At.b 1 K17 ?_
  refine At.s K18 K19 ?_
  refine At.rg 4 [0, 1, 2] ?_
  obtain ⟨b10, o10, hq, h⟩ := h
  subst hq
  obtain ⟨hi, h⟩ := h
  refine Seq.z 10 (.indexAddr 37 (.tmp 6) (.tmp 8)) 0 (.pointer (some ⟨b10, (o10 + Int.toNat x8 * 1), none⟩)) (Y.idx underlying37 sizeOf5 rfl rfl hi rfl) ?_
  obtain ⟨x11, hl, h⟩ := h
  refine Seq.z 11 (.load 5 (.tmp 10)) 5 (.int .u8 x11) (Y.ld isAgg5 rfl hl) ?_
  refine Seq.u 5 (.int .u8 x11) ?_
  refine Seq.done ?_
  refine At.L [(3, (.int .u32 x3)), (5, (.int .u8 x11)), (6, (.slice (some ⟨b10, o10, none⟩) n6 c6)), (7, (.int .i64 x7)), (8, (.int .i64 x8))] fun J => ?_
  refine At.rg 5 [0, 1, 2, 3, 4, 5] ?_
  refine Seq.u 12 (.int .u32 x3) ?_
  refine Seq.u 13 (.int .u8 x11) ?_
  obtain ⟨x14, hwx14⟩ : ∃ y, y = IntKind.u32.wrap x11 := ⟨_, rfl⟩
  replace h := h x14 hwx14
  refine Seq.y (d := (some 14)) (op := (.convert 5 26 (.tmp 13))) (ty := 26) (v := (.int .u32 x14)) (by kernel_rfl) rfl (hwx14 ▸ Y.conv (by kernel_rfl) underlying26 rfl) ?_
  obtain ⟨x15, hwx15⟩ : ∃ y, y = Go.bits .xor .u32 x3 x14 := ⟨_, rfl⟩
  replace h := h x15 hwx15
  refine Seq.y (d := (some 15)) (op := (.binOp .xor 26 (.tmp 12) (.tmp 14) 26)) (ty := 26) (v := (.int .u32 x15)) (by kernel_rfl) rfl (hwx15 ▸ Y.bits (by simp) rfl rfl) ?_
  obtain ⟨x16, hwx16⟩ : ∃ y, y = IntKind.u32.wrap (x15 * 16777619) := ⟨_, rfl⟩
  replace h := h x16 hwx16
  refine Seq.y (d := (some 16)) (op := (.binOp .mul 26 (.tmp 15) (.const (.int .u32 16777619)) 26)) (ty := 26) (v := (.int .u32 x16)) (by kernel_rfl) rfl (hwx16 ▸ Y.mul rfl rfl) ?_
  refine Seq.u 3 (.int .u32 x16) ?_
  refine Seq.done ?_
  refine At.L [(3, (.int .u32 x16)), (6, (.slice (some ⟨b10, o10, none⟩) n6 c6)), (7, (.int .i64 x7)), (8, (.int .i64 x8))] fun J => ?_
  refine At.inBlock ?_
  refine At.rg 6 [0, 1] ?_
  obtain ⟨hi, h⟩ := h
  refine Seq.z 17 (.binOp .add 3 (.tmp 8) (.const (.int .i64 1)) 3) 3 (.int .i64 (x8 + 1)) (Y.addI hi rfl rfl) ?_
  refine Seq.u 8 (.int .i64 (x8 + 1)) ?_
  refine Seq.done ?_
  refine At.L [(3, (.int .u32 x16)), (6, (.slice (some ⟨b10, o10, none⟩) n6 c6)), (7, (.int .i64 x7)), (8, (.int .i64 (x8 + 1)))] fun J => ?_
  refine At.inLoop ?_
  refine At.s K10 K11 ?_
  exact At.v [(3, (.int .u32 x16)), (6, (.slice (some ⟨b10, o10, none⟩) n6 c6)), (7, (.int .i64 x7)), (8, (.int .i64 (x8 + 1)))] (h _)
 | false =>
  replace h := h.2 (of_decide_eq_false hb)
  refine At.cF 9 K13 K14 ?_
  refine At.x 0 [.code K21] ?_
  refine At.s K22 K23 ?_
  refine At.rg 7 [0, 1] ?_
  refine Seq.u 18 (.int .u32 x3) ?_
  refine Seq.u 2 (.int .u32 x3) ?_
  refine Seq.done ?_
  refine At.L [(2, (.int .u32 x3))] fun J => ?_
  exact At.rt [.tmp 2] [(.int .u32 x3)] func61 ⟨_, rfl, rfl⟩ h
end label_FNV
namespace ref9_Reader_Uint
abbrev fid : Nat := 38
noncomputable def K0 : Code := f38.body.getD .skip
noncomputable def K1 := Tw.cl K0
noncomputable def K2 := Tw.cr K0
noncomputable def K3 := Tw.cl K2
noncomputable def K4 := Tw.cl K3
noncomputable def K5 := Tw.cr K3
noncomputable def K6 := Tw.cl K5
noncomputable def K7 := Tw.cl K6
noncomputable def K8 := Tw.cr K6
noncomputable def K9 := Tw.cr K5
noncomputable def K10 := Tw.cr K2
noncomputable def K11 := Tw.cl K10
noncomputable def K12 := Tw.cr K10
noncomputable def K13 := Tw.cl K12
noncomputable def K14 := Tw.cr K12
noncomputable def K15 := Tw.cl K14
noncomputable def K16 := Tw.cr K14
noncomputable def K17 := Tw.cl K16
noncomputable def K18 := Tw.cr K16
noncomputable abbrev gl (R : Ending → Hp → Prop) : Gl := Gl.fn prog 38 33 R
theorem start {R : Ending → Hp → Prop} {q0 : Option Addr} {σ : Hp} (h : ∃ (b7 o7 : Nat), q0 = some ⟨b7, o7, none⟩ ∧ ∃ t9 : Bool, Hp.ld σ ⟨b7, (o7 + 2), none⟩ = some (.bool t9) ∧ (t9 = true → R (.returned (.int .u64 0)) σ) ∧ (t9 = false → ∃ p14 : Option Addr, ∃ n14 : Nat, ∃ c14 : Nat, Hp.ld σ ⟨b7, o7, none⟩ = some (.slice p14 n14 c14) ∧ ∃ x18 : Int, Hp.ld σ ⟨b7, (o7 + 1), none⟩ = some (.int .i64 x18) ∧ Spec prog 64 #[(.slice p14 n14 c14), (.int .i64 x18)] σ (Cont R (fun v σ1 => ∃ x19a : Int, ∃ x19b : Int, ∃ x19c : Int, v = (.tuple #[(.int .u64 x19a), (.int .i64 x19b), (.int .i64 x19c)]) ∧ Eff prog (Instr.storeAt 4 (.pointer (some ⟨b7, (o7 + 2), none⟩)) (.bool (decide ((x19c : Int) ≠ 0)))) σ1 (fun _ σ1_2 => Eff prog (Instr.storeAt 3 (.pointer (some ⟨b7, (o7 + 1), none⟩)) (.int .i64 x19b)) σ1_2 (fun _ σ1_3 => R (.returned (.int .u64 x19a)) σ1_3)))))) : Spec prog 38 #[(.pointer q0)] σ R := by
 refine Spec.of_at (fn := f38) (c := K0) func38 (by kernel_rfl) (Nat.le_of_ble_eq_true (by kernel_rfl)) (fun e he => ?_)
 refine At.ofL (l := [(0, (.pointer q0))]) ⟨he 0, trivial⟩ (fun J => ?_)
 show At (gl R) _ _ _ _
 refine At.s K1 K2 ?_
 refine At.rg 0 [0] ?_
 refine Seq.u 2 (.int .u64 0) ?_
 refine Seq.done ?_
 refine At.L [(0, (.pointer q0))] fun J => ?_
 refine At.s K3 K10 ?_
 refine At.s K4 K5 ?_
 refine At.rg 1 [0, 1, 2, 3] ?_
 refine Seq.u 6 (.pointer q0) ?_
 obtain ⟨b7, o7, hq, h⟩ := h
 subst hq
 refine Seq.z 7 (.nilCheck (.tmp 6)) 0 (.pointer (some ⟨b7, o7, none⟩)) (Y.nilCheck rfl) ?_
 refine Seq.z 8 (.fieldAddr 65 (.tmp 7) 2) 0 (.pointer (some ⟨b7, (o7 + 2), none⟩)) (Y.fieldAddr (fd := (fieldOf prog 65 2)) underlying65 (by kernel_rfl) sizeOf4 rfl rfl) ?_
 obtain ⟨t9, hl, h⟩ := h
 refine Seq.z 9 (.load 4 (.tmp 8)) 4 (.bool t9) (Y.ld isAgg4 rfl hl) ?_
 refine Seq.done ?_
 refine At.L [(0, (.pointer (some ⟨b7, o7, none⟩))), (9, (.bool t9))] fun J => ?_
 cases hb : t9 with
 | true =>
  replace h := h.1 hb
  refine At.cT 9 K6 K9 ?_
  refine At.s K7 K8 ?_
  refine At.rg 2 [0] ?_
  refine Seq.u 2 (.int .u64 0) ?_
  refine Seq.done ?_
  refine At.L [(2, (.int .u64 0))] fun J => ?_
  exact At.rt [.tmp 2] [(.int .u64 0)] func38 ⟨_, rfl, rfl⟩ h
 | false =>
  replace h := h.2 hb
  refine At.cF 9 K6 K9 ?_
  refine At.skip ?_
  refine At.s K11 K12 ?_
  refine At.draw (id := 3) (ops := cO K11) (n := 16) (q := (some [])) (plan := [(0, true), (1, true), (2, true), (3, true), (4, true), (5, true), (6, true), (7, true), (8, false), (9, true), (10, true), (11, true), (12, true), (13, true), (14, true), (15, true)]) (tl := []) mixed (by kernel_rfl) (by kernel_rfl) ?_
  refine Head.u 11 (.pointer (some ⟨b7, o7, none⟩)) ?_
  refine Head.z 12 (.nilCheck (.tmp 11)) 0 (.pointer (some ⟨b7, o7, none⟩)) (Y.nilCheck rfl) ?_
  refine Head.z 13 (.fieldAddr 65 (.tmp 12) 0) 0 (.pointer (some ⟨b7, o7, none⟩)) (Y.fieldAddr (fd := (fieldOf prog 65 0)) underlying65 (by kernel_rfl) sizeOf37 rfl rfl) ?_
  obtain ⟨p14, n14, c14, hl, h⟩ := h
  refine Head.yl b7 [[8]] rfl (by kernel_rfl) (d := (some 14)) (op := (.load 37 (.tmp 13))) (ty := 37) (v := (.slice p14 n14 c14)) (by kernel_rfl) rfl (Y.ld isAgg37 rfl (lim_ld hl)) ?_
  refine Head.u 15 (.pointer (some ⟨b7, o7, none⟩)) ?_
  refine Head.z 16 (.nilCheck (.tmp 15)) 0 (.pointer (some ⟨b7, o7, none⟩)) (Y.nilCheck rfl) ?_
  refine Head.z 17 (.fieldAddr 65 (.tmp 16) 1) 0 (.pointer (some ⟨b7, (o7 + 1), none⟩)) (Y.fieldAddr (fd := (fieldOf prog 65 1)) underlying65 (by kernel_rfl) sizeOf3 rfl rfl) ?_
  obtain ⟨x18, hl, h⟩ := h
  refine Head.yl b7 [[8]] rfl (by kernel_rfl) (d := (some 18)) (op := (.load 3 (.tmp 17))) (ty := 3) (v := (.int .i64 x18)) (by kernel_rfl) rfl (Y.ld isAgg3 rfl (lim_ld hl)) ?_
  refine Head.o (q' := (some [])) rfl ?_
  refine OpTo.cl (some 19) call64 (h.cont fun v σ1 h2 => ?_); replace h := h2; clear h2
  obtain ⟨x19a, x19b, x19c, rfl, h⟩ := h
  refine ⟨⟨fun _ h => h, kp_q (L := []) Kp.nil⟩, ?_⟩
  refine Head.u 10 (.tuple #[(.int .u64 x19a), (.int .i64 x19b), (.int .i64 x19c)]) ?_
  refine Head.u 20 (.int .u64 x19a) ?_
  refine Head.u 21 (.int .i64 x19b) ?_
  refine Head.u 22 (.int .i64 x19c) ?_
  refine Head.u 3 (.int .u64 x19a) ?_
  refine Head.u 4 (.int .i64 x19b) ?_
  refine Head.u 5 (.int .i64 x19c) ?_
  refine Head.done ?_
  refine Seq.done ?_
  refine At.L [(0, (.pointer (some ⟨b7, o7, none⟩))), (3, (.int .u64 x19a)), (4, (.int .i64 x19b)), (5, (.int .i64 x19c))] fun J => ?_
  refine At.s K13 K14 ?_
  refine At.rg 4 [0, 1, 2, 3, 4, 5] ?_
  refine Seq.u 23 (.pointer (some ⟨b7, o7, none⟩)) ?_
  refine Seq.u 24 (.int .i64 x19c) ?_
  refine Seq.u 25 (.bool (decide ((x19c : Int) ≠ 0))) ?_
  refine Seq.z 26 (.nilCheck (.tmp 23)) 0 (.pointer (some ⟨b7, o7, none⟩)) (Y.nilCheck rfl) ?_
  refine Seq.z 27 (.fieldAddr 65 (.tmp 26) 2) 0 (.pointer (some ⟨b7, (o7 + 2), none⟩)) (Y.fieldAddr (fd := (fieldOf prog 65 2)) underlying65 (by kernel_rfl) sizeOf4 rfl rfl) ?_
  refine Seq.o ?_
  refine OpTo.store (T := 4) (ty := 0) (x := (.tmp 27)) (y := (.tmp 25)) (p := (.pointer (some ⟨b7, (o7 + 2), none⟩))) (v := (.bool (decide ((x19c : Int) ≠ 0)))) (gd := none) (by kernel_rfl) rfl rfl rfl (h.mono (fun _ σ1_2 h2 => ?_)); replace h := h2; clear h2
  refine Seq.done ?_
  refine At.L [(0, (.pointer (some ⟨b7, o7, none⟩))), (3, (.int .u64 x19a)), (4, (.int .i64 x19b))] fun J => ?_
  refine At.s K15 K16 ?_
  refine At.rg 5 [0, 1, 2, 3, 4] ?_
  refine Seq.u 28 (.pointer (some ⟨b7, o7, none⟩)) ?_
  refine Seq.u 29 (.int .i64 x19b) ?_
  refine Seq.z 30 (.nilCheck (.tmp 28)) 0 (.pointer (some ⟨b7, o7, none⟩)) (Y.nilCheck rfl) ?_
  refine Seq.z 31 (.fieldAddr 65 (.tmp 30) 1) 0 (.pointer (some ⟨b7, (o7 + 1), none⟩)) (Y.fieldAddr (fd := (fieldOf prog 65 1)) underlying65 (by kernel_rfl) sizeOf3 rfl rfl) ?_
  refine Seq.o ?_
  refine OpTo.store (T := 3) (ty := 0) (x := (.tmp 31)) (y := (.tmp 29)) (p := (.pointer (some ⟨b7, (o7 + 1), none⟩))) (v := (.int .i64 x19b)) (gd := none) (by kernel_rfl) rfl rfl rfl (h.mono (fun _ σ1_3 h2 => ?_)); replace h := h2; clear h2
  refine Seq.done ?_
  refine At.L [(3, (.int .u64 x19a))] fun J => ?_
  refine At.s K17 K18 ?_
  refine At.rg 6 [0, 1] ?_
  refine Seq.u 32 (.int .u64 x19a) ?_
  refine Seq.u 2 (.int .u64 x19a) ?_
  refine Seq.done ?_
  refine At.L [(2, (.int .u64 x19a))] fun J => ?_
  exact At.rt [.tmp 2] [(.int .u64 x19a)] func38 ⟨_, rfl, rfl⟩ h
end ref9_Reader_Uint
namespace ring_Decode_1
abbrev fid : Nat := 41
noncomputable def K0 : Code := f41.body.getD .skip
noncomputable def K1 := Tw.cl K0
noncomputable def K2 := Tw.cr K0
noncomputable def K3 := Tw.cl K2
noncomputable def K4 := Tw.cr K2
noncomputable def K5 := Tw.cl K4
noncomputable def K6 := Tw.cr K4
noncomputable def K7 := Tw.cl K6
noncomputable def K8 := Tw.cl K7
noncomputable def K9 := Tw.cr K7
noncomputable def K10 := Tw.cl K9
noncomputable def K11 := Tw.cl K10
noncomputable def K12 := Tw.cr K10
noncomputable def K13 := Tw.cr K9
noncomputable def K14 := Tw.cr K6
noncomputable def K15 := Tw.cl K14
noncomputable def K16 := Tw.cr K14
noncomputable def K17 := Tw.cl K16
noncomputable def K18 := Tw.cr K16
noncomputable abbrev gl (R : Ending → Hp → Prop) : Gl := Gl.fn prog 41 29 R
theorem start {R : Ending → Hp → Prop} {x0 : Int} {b1 : Nat} {b2 : Nat} {b3 : Nat} {σ : Hp} (h : ∃ p10 : Option Addr, ∃ n10 : Nat, ∃ c10 : Nat, Hp.ld σ ⟨b1, 0, none⟩ = some (.slice p10 n10 c10) ∧ ∃ x11 : Int, Hp.ld σ ⟨b2, 0, none⟩ = some (.int .i64 x11) ∧ Spec prog 42 #[(.slice p10 n10 c10), (.int .i64 x11)] σ (Cont R (fun v σ1 => ∃ x12a : Int, ∃ x12b : Int, ∃ x12c : Int, v = (.tuple #[(.int .u64 x12a), (.int .i64 x12b), (.int .i64 x12c)]) ∧ ∃ t16 : Bool, Hp.ld σ1 ⟨b3, 0, none⟩ = some (.bool t16) ∧ (t16 = true → Eff prog (Instr.storeAt 4 (.pointer (some ⟨b3, 0, none⟩)) (.bool true)) σ1 (fun _ σ1_2 => ∃ t26 : Bool, Hp.ld σ1_2 ⟨b3, 0, none⟩ = some (.bool t26) ∧ (t26 = true → R (.returned (.int .u64 0)) σ1_2) ∧ (t26 = false → Eff prog (Instr.storeAt 3 (.pointer (some ⟨b2, 0, none⟩)) (.int .i64 x12b)) σ1_2 (fun _ σ1_3 => R (.returned (.int .u64 x12a)) σ1_3)))) ∧ (t16 = false → ((x12c : Int) ≠ 0 → Eff prog (Instr.storeAt 4 (.pointer (some ⟨b3, 0, none⟩)) (.bool true)) σ1 (fun _ σ1_2 => ∃ t26 : Bool, Hp.ld σ1_2 ⟨b3, 0, none⟩ = some (.bool t26) ∧ (t26 = true → R (.returned (.int .u64 0)) σ1_2) ∧ (t26 = false → Eff prog (Instr.storeAt 3 (.pointer (some ⟨b2, 0, none⟩)) (.int .i64 x12b)) σ1_2 (fun _ σ1_3 => R (.returned (.int .u64 x12a)) σ1_3)))) ∧ (¬ ((x12c : Int) ≠ 0) → Eff prog (Instr.storeAt 4 (.pointer (some ⟨b3, 0, none⟩)) (.bool (decide ((x0 : Int) < x12a)))) σ1 (fun _ σ1_2 => ∃ t26 : Bool, Hp.ld σ1_2 ⟨b3, 0, none⟩ = some (.bool t26) ∧ (t26 = true → R (.returned (.int .u64 0)) σ1_2) ∧ (t26 = false → Eff prog (Instr.storeAt 3 (.pointer (some ⟨b2, 0, none⟩)) (.int .i64 x12b)) σ1_2 (fun _ σ1_3 => R (.returned (.int .u64 x12a)) σ1_3)))))))) : Spec prog 41 #[(.int .u64 x0), (.pointer (some ⟨b1, 0, none⟩)), (.pointer (some ⟨b2, 0, none⟩)), (.pointer (some ⟨b3, 0, none⟩))] σ R := by
 refine Spec.of_at (fn := f41) (c := K0) func41 (by kernel_rfl) (Nat.le_of_ble_eq_true (by kernel_rfl)) (fun e he => ?_)
 refine At.ofL (l := [(0, (.int .u64 x0)), (1, (.pointer (some ⟨b1, 0, none⟩))), (2, (.pointer (some ⟨b2, 0, none⟩))), (3, (.pointer (some ⟨b3, 0, none⟩)))]) ⟨he 0, he 1, he 2, he 3, trivial⟩ (fun J => ?_)
 show At (gl R) _ _ _ _
 refine At.s K1 K2 ?_
 refine At.rg 0 [0] ?_
 refine Seq.u 5 (.int .u64 0) ?_
 refine Seq.done ?_
 refine At.L [(0, (.int .u64 x0)), (1, (.pointer (some ⟨b1, 0, none⟩))), (2, (.pointer (some ⟨b2, 0, none⟩))), (3, (.pointer (some ⟨b3, 0, none⟩)))] fun J => ?_
 refine At.s K3 K4 ?_
 refine At.rg 1 [0, 1, 2, 3, 4, 5, 6, 7, 8, 9] ?_
 obtain ⟨p10, n10, c10, hl, h⟩ := h
 refine Seq.z 10 (.load 37 (.tmp 1)) 37 (.slice p10 n10 c10) (Y.ld isAgg37 rfl hl) ?_
 obtain ⟨x11, hl, h⟩ := h
 refine Seq.z 11 (.load 3 (.tmp 2)) 3 (.int .i64 x11) (Y.ld isAgg3 rfl hl) ?_
 refine Seq.o ?_
 refine OpTo.cl (some 12) call42 (h.cont fun v σ1 h2 => ?_); replace h := h2; clear h2
 obtain ⟨x12a, x12b, x12c, rfl, h⟩ := h
 refine Seq.u 9 (.tuple #[(.int .u64 x12a), (.int .i64 x12b), (.int .i64 x12c)]) ?_
 refine Seq.u 13 (.int .u64 x12a) ?_
 refine Seq.u 14 (.int .i64 x12b) ?_
 refine Seq.u 15 (.int .i64 x12c) ?_
 refine Seq.u 6 (.int .u64 x12a) ?_
 refine Seq.u 7 (.int .i64 x12b) ?_
 refine Seq.u 8 (.int .i64 x12c) ?_
 refine Seq.done ?_
 refine At.L [(0, (.int .u64 x0)), (2, (.pointer (some ⟨b2, 0, none⟩))), (3, (.pointer (some ⟨b3, 0, none⟩))), (6, (.int .u64 x12a)), (7, (.int .i64 x12b)), (8, (.int .i64 x12c))] fun J => ?_
 refine At.s K5 K6 ?_
 refine At.rg 2 [0, 1, 2, 3, 4, 5, 6, 7, 8, 9, 10] ?_
 obtain ⟨t16, hl, h⟩ := h
 refine Seq.z 16 (.load 4 (.tmp 3)) 4 (.bool t16) (Y.ld isAgg4 rfl hl) ?_
 refine Seq.u 17 (.bool t16) ?_
 cases hb : t16 with
 | true =>
  replace h := h.1 hb
  refine Seq.n 18 ?_
  refine Seq.n 19 ?_
  refine Seq.u 20 (.bool true) ?_
  refine Seq.u 21 (.bool true) ?_
  refine Seq.n 22 ?_
  refine Seq.n 23 ?_
  refine Seq.n 24 ?_
  refine Seq.u 25 (.bool true) ?_
  refine Seq.o ?_
  refine OpTo.store (T := 4) (ty := 0) (x := (.tmp 3)) (y := (.tmp 25)) (p := (.pointer (some ⟨b3, 0, none⟩))) (v := (.bool true)) (gd := none) (by kernel_rfl) rfl rfl rfl (h.mono (fun _ σ1_2 h2 => ?_)); replace h := h2; clear h2
  refine Seq.done ?_
  refine At.L [(2, (.pointer (some ⟨b2, 0, none⟩))), (3, (.pointer (some ⟨b3, 0, none⟩))), (6, (.int .u64 x12a)), (7, (.int .i64 x12b))] fun J => ?_
  refine At.s K7 K14 ?_
  refine At.s K8 K9 ?_
  refine At.rg 3 [0] ?_
  obtain ⟨t26, hl, h⟩ := h
  refine Seq.z 26 (.load 4 (.tmp 3)) 4 (.bool t26) (Y.ld isAgg4 rfl hl) ?_
  refine Seq.done ?_
  refine At.L [(2, (.pointer (some ⟨b2, 0, none⟩))), (6, (.int .u64 x12a)), (7, (.int .i64 x12b)), (26, (.bool t26))] fun J => ?_
  cases hb : t26 with
  | true =>
   replace h := h.1 hb
   refine At.cT 26 K10 K13 ?_
   refine At.s K11 K12 ?_
   refine At.rg 4 [0] ?_
   refine Seq.u 5 (.int .u64 0) ?_
   refine Seq.done ?_
   refine At.L [(5, (.int .u64 0))] fun J => ?_
   exact At.rt [.tmp 5] [(.int .u64 0)] func41 ⟨_, rfl, rfl⟩ h
  | false =>
   replace h := h.2 hb
   refine At.cF 26 K10 K13 ?_
   refine At.skip ?_
   refine At.s K15 K16 ?_
   refine At.rg 5 [0, 1] ?_
   refine Seq.u 27 (.int .i64 x12b) ?_
   refine Seq.o ?_
   refine OpTo.store (T := 3) (ty := 0) (x := (.tmp 2)) (y := (.tmp 27)) (p := (.pointer (some ⟨b2, 0, none⟩))) (v := (.int .i64 x12b)) (gd := none) (by kernel_rfl) rfl rfl rfl (h.mono (fun _ σ1_3 h2 => ?_)); replace h := h2; clear h2
   refine Seq.done ?_
   refine At.L [(6, (.int .u64 x12a))] fun J => ?_
   refine At.s K17 K18 ?_
   refine At.rg 6 [0, 1] ?_
   refine Seq.u 28 (.int .u64 x12a) ?_
   refine Seq.u 5 (.int .u64 x12a) ?_
   refine Seq.done ?_
   refine At.L [(5, (.int .u64 x12a))] fun J => ?_
   exact At.rt [.tmp 5] [(.int .u64 x12a)] func41 ⟨_, rfl, rfl⟩ h
 | false =>
  replace h := h.2 hb
  refine Seq.u 18 (.int .i64 x12c) ?_
  refine Seq.u 19 (.bool (decide ((x12c : Int) ≠ 0))) ?_
  refine Seq.u 20 (.bool (decide ((x12c : Int) ≠ 0))) ?_
  refine Seq.u 21 (.bool (decide ((x12c : Int) ≠ 0))) ?_
  cases hb : (decide ((x12c : Int) ≠ 0)) with
  | true =>
   replace h := h.1 (of_decide_eq_true hb)
   refine Seq.n 22 ?_
   refine Seq.n 23 ?_
   refine Seq.n 24 ?_
   refine Seq.u 25 (.bool true) ?_
   refine Seq.o ?_
   refine OpTo.store (T := 4) (ty := 0) (x := (.tmp 3)) (y := (.tmp 25)) (p := (.pointer (some ⟨b3, 0, none⟩))) (v := (.bool true)) (gd := none) (by kernel_rfl) rfl rfl rfl (h.mono (fun _ σ1_2 h2 => ?_)); replace h := h2; clear h2
   refine Seq.done ?_
   refine At.L [(2, (.pointer (some ⟨b2, 0, none⟩))), (3, (.pointer (some ⟨b3, 0, none⟩))), (6, (.int .u64 x12a)), (7, (.int .i64 x12b))] fun J => ?_
   refine At.s K7 K14 ?_
   refine At.s K8 K9 ?_
   refine At.rg 3 [0] ?_
   obtain ⟨t26, hl, h⟩ := h
   refine Seq.z 26 (.load 4 (.tmp 3)) 4 (.bool t26) (Y.ld isAgg4 rfl hl) ?_
   refine Seq.done ?_
   refine At.L [(2, (.pointer (some ⟨b2, 0, none⟩))), (6, (.int .u64 x12a)), (7, (.int .i64 x12b)), (26, (.bool t26))] fun J => ?_
   cases hb : t26 with
   | true =>
    replace h := h.1 hb
    refine At.cT 26 K10 K13 ?_
    refine At.s K11 K12 ?_
    refine At.rg 4 [0] ?_
    refine Seq.u 5 (.int .u64 0) ?_
    refine Seq.done ?_
    refine At.L [(5, (.int .u64 0))] fun J => ?_
    exact At.rt [.tmp 5] [(.int .u64 0)] func41 ⟨_, rfl, rfl⟩ h
   | false =>
    replace h := h.2 hb
    refine At.cF 26 K10 K13 ?_
    refine At.skip ?_
    refine At.s K15 K16 ?_
    refine At.rg 5 [0, 1] ?_
    refine Seq.u 27 (.int .i64 x12b) ?_
    refine Seq.o ?_
    refine OpTo.store (T := 3) (ty := 0) (x := (.tmp 2)) (y := (.tmp 27)) (p := (.pointer (some ⟨b2, 0, none⟩))) (v := (.int .i64 x12b)) (gd := none) (by kernel_rfl) rfl rfl rfl (h.mono (fun _ σ1_3 h2 => ?_)); replace h := h2; clear h2
    refine Seq.done ?_
    refine At.L [(6, (.int .u64 x12a))] fun J => ?_
    refine At.s K17 K18 ?_
    refine At.rg 6 [0, 1] ?_
    refine Seq.u 28 (.int .u64 x12a) ?_
    refine Seq.u 5 (.int .u64 x12a) ?_
    refine Seq.done ?_
    refine At.L [(5, (.int .u64 x12a))] fun J => ?_
    exact At.rt [.tmp 5] [(.int .u64 x12a)] func41 ⟨_, rfl, rfl⟩ h
  | false =>
   replace h := h.2 (of_decide_eq_false hb)
   refine Seq.u 22 (.int .u64 x12a) ?_
   refine Seq.u 23 (.int .u64 x0) ?_
   refine Seq.u 24 (.bool (decide ((x0 : Int) < x12a))) ?_
   refine Seq.u 25 (.bool (decide ((x0 : Int) < x12a))) ?_
   refine Seq.o ?_
   refine OpTo.store (T := 4) (ty := 0) (x := (.tmp 3)) (y := (.tmp 25)) (p := (.pointer (some ⟨b3, 0, none⟩))) (v := (.bool (decide ((x0 : Int) < x12a)))) (gd := none) (by kernel_rfl) rfl rfl rfl (h.mono (fun _ σ1_2 h2 => ?_)); replace h := h2; clear h2
   refine Seq.done ?_
   refine At.L [(2, (.pointer (some ⟨b2, 0, none⟩))), (3, (.pointer (some ⟨b3, 0, none⟩))), (6, (.int .u64 x12a)), (7, (.int .i64 x12b))] fun J => ?_
   refine At.s K7 K14 ?_
   refine At.s K8 K9 ?_
   refine At.rg 3 [0] ?_
   obtain ⟨t26, hl, h⟩ := h
   refine Seq.z 26 (.load 4 (.tmp 3)) 4 (.bool t26) (Y.ld isAgg4 rfl hl) ?_
   refine Seq.done ?_
   refine At.L [(2, (.pointer (some ⟨b2, 0, none⟩))), (6, (.int .u64 x12a)), (7, (.int .i64 x12b)), (26, (.bool t26))] fun J => ?_
   cases hb : t26 with
   | true =>
    replace h := h.1 hb
    refine At.cT 26 K10 K13 ?_
    refine At.s K11 K12 ?_
    refine At.rg 4 [0] ?_
    refine Seq.u 5 (.int .u64 0) ?_
    refine Seq.done ?_
    refine At.L [(5, (.int .u64 0))] fun J => ?_
    exact At.rt [.tmp 5] [(.int .u64 0)] func41 ⟨_, rfl, rfl⟩ h
   | false =>
    replace h := h.2 hb
    refine At.cF 26 K10 K13 ?_
    refine At.skip ?_
    refine At.s K15 K16 ?_
    refine At.rg 5 [0, 1] ?_
    refine Seq.u 27 (.int .i64 x12b) ?_
    refine Seq.o ?_
    refine OpTo.store (T := 3) (ty := 0) (x := (.tmp 2)) (y := (.tmp 27)) (p := (.pointer (some ⟨b2, 0, none⟩))) (v := (.int .i64 x12b)) (gd := none) (by kernel_rfl) rfl rfl rfl (h.mono (fun _ σ1_3 h2 => ?_)); replace h := h2; clear h2
    refine Seq.done ?_
    refine At.L [(6, (.int .u64 x12a))] fun J => ?_
    refine At.s K17 K18 ?_
    refine At.rg 6 [0, 1] ?_
    refine Seq.u 28 (.int .u64 x12a) ?_
    refine Seq.u 5 (.int .u64 x12a) ?_
    refine Seq.done ?_
    refine At.L [(5, (.int .u64 x12a))] fun J => ?_
    exact At.rt [.tmp 5] [(.int .u64 x12a)] func41 ⟨_, rfl, rfl⟩ h
end ring_Decode_1
end TwR
end
section
/- written by gen.py: program points and what leads to them -/
set_option linter.unusedVariables false
set_option maxRecDepth 100000
namespace TwR
open Go Tw Go.Proofs.Try
namespace ref13_Encode
abbrev fid : Nat := 15
noncomputable def K0 : Code := f15.body.getD .skip
noncomputable def K1 := Tw.cl K0
noncomputable def K2 := Tw.cr K0
noncomputable def K3 := Tw.cl K2
noncomputable def K4 := Tw.cl K3
noncomputable def K5 := Tw.cr K3
noncomputable def K6 := Tw.cl K5
noncomputable def K7 := Tw.cr K5
noncomputable def K8 := Tw.cl K7
noncomputable def K9 := Tw.cl K8
noncomputable def K10 := Tw.cr K8
noncomputable def K11 := Tw.cr K7
noncomputable def K12 := Tw.cr K2
noncomputable def K13 := Tw.cl K12
noncomputable def K14 := Tw.cr K12
noncomputable def K15 := Tw.cl K14
noncomputable def K16 := Tw.cl K15
noncomputable def K17 := Tw.cr K15
noncomputable def K18 := Tw.cl K17
noncomputable def K19 := Tw.cl K18
noncomputable def K20 := Tw.cl K19
noncomputable def K21 := Tw.cl K20
noncomputable def K22 := Tw.cr K20
noncomputable def K23 := Tw.cl K22
noncomputable def K24 := Tw.cr K22
noncomputable def K25 := Tw.cr K19
noncomputable def K26 := Tw.cl K25
noncomputable def K27 := Tw.cl K26
noncomputable def K28 := Tw.cl K27
noncomputable def K29 := Tw.cr K27
noncomputable def K30 := Tw.cl K29
noncomputable def K31 := Tw.cr K29
noncomputable def K32 := Tw.cl K31
noncomputable def K33 := Tw.cr K31
noncomputable def K34 := Tw.cl K33
noncomputable def K35 := Tw.cl K34
noncomputable def K36 := Tw.cl K35
noncomputable def K37 := Tw.cl K36
noncomputable def K38 := Tw.cr K36
noncomputable def K39 := Tw.cl K38
noncomputable def K40 := Tw.cr K38
noncomputable def K41 := Tw.cr K35
noncomputable def K42 := Tw.cl K41
noncomputable def K43 := Tw.cl K42
noncomputable def K44 := Tw.cr K41
noncomputable def K45 := Tw.cr K25
noncomputable def K46 := Tw.cr K14
noncomputable def K47 := Tw.cl K46
noncomputable def K48 := Tw.cr K46
noncomputable abbrev gl (R : Ending → Hp → Prop) : Gl := Gl.fn prog 15 64 R
def pt21 (R : Ending → Hp → Prop) (x1a : Int) (p1b : Option Addr) (n1b : Nat) (c1b : Nat) (p5 : Option Addr) (n5 : Nat) (c5 : Nat) (x6 : Int) (σ : Hp) : Prop := ∀ (J : Env) (b1 : Nat), At (gl R) [.code K21, .code K22, .code K25, .inLoop K19, .inBlock 0, .code K46] (upds J [(1, (.pointer (some ⟨b1, 0, none⟩))), (5, (.slice p5 n5 c5)), (6, (.int .i64 x6))]) [(b1, .cells #[(.int .u64 x1a), (.slice p1b n1b c1b)] 25 (0, 0))] σ
def pt37 (R : Ending → Hp → Prop) (x1a : Int) (p1b : Option Addr) (n1b : Nat) (c1b : Nat) (p5 : Option Addr) (n5 : Nat) (c5 : Nat) (x6 : Int) (x7a : Int) (x7b : Int) (p7c : Option Addr) (n7c : Nat) (c7c : Nat) (x8 : Int) (σ : Hp) : Prop := ∀ (J : Env) (b1 : Nat) (b7 : Nat), At (gl R) [.code K37, .code K38, .code K41, .inLoop K35, .inBlock 2, .inBlock 1, .code K45, .inLoop K19, .inBlock 0, .code K46] (upds J [(1, (.pointer (some ⟨b1, 0, none⟩))), (5, (.slice p5 n5 c5)), (6, (.int .i64 x6)), (7, (.pointer (some ⟨b7, 0, none⟩))), (8, (.int .i64 x8))]) [(b7, .cells #[(.int .i64 x7a), (.int .i64 x7b), (.slice p7c n7c c7c)] 55 (0, 0)), (b1, .cells #[(.int .u64 x1a), (.slice p1b n1b c1b)] 25 (0, 0))] σ
theorem start {R : Ending → Hp → Prop} {x0a : Int} {p0b : Option Addr} {n0b : Nat} {c0b : Nat} {σ : Hp} (h : Spec prog 29 #[(.agg #[(.int .u64 x0a), (.slice p0b n0b c0b)])] σ (Cont R (fun v σ1 => ∃ x10 : Int, v = (.int .i64 x10) ∧ ((x10 : Int) ≠ 0 → R (.returned (.tuple #[(.slice none 0 0), (.int .i64 x10)])) σ1) ∧ (¬ ((x10 : Int) ≠ 0) → ∀ x20 : Int, x20 = IntKind.u64.wrap (n0b : Int) → Spec prog 37 #[(.slice none 0 0), (.int .u64 x0a)] σ1 (Cont R (fun v_2 σ1_2 => ∃ p16 : Option Addr, ∃ n16 : Nat, ∃ c16 : Nat, v_2 = (.slice p16 n16 c16) ∧ Spec prog 37 #[(.slice p16 n16 c16), (.int .u64 x20)] σ1_2 (Cont R (fun v_3 σ1_3 => ∃ p21 : Option Addr, ∃ n21 : Nat, ∃ c21 : Nat, v_3 = (.slice p21 n21 c21) ∧ pt21 R x0a p0b n0b c0b p21 n21 c21 0 σ1_3)))))))) : Spec prog 15 #[(.agg #[(.int .u64 x0a), (.slice p0b n0b c0b)])] σ R := by
 refine Spec.of_at (fn := f15) (c := K0) func15 (by kernel_rfl) (Nat.le_of_ble_eq_true (by kernel_rfl)) (fun e he => ?_)
 refine At.ofL (l := [(0, (.agg #[(.int .u64 x0a), (.slice p0b n0b c0b)]))]) ⟨he 0, trivial⟩ (fun J => ?_)
 show At (gl R) _ _ _ _
 refine At.s K1 K2 ?_
 refine At.rg 0 [0, 1, 2] ?_
 refine Seq.o ?_
 refine OpTo.box (T := 25) (d := (some 1)) (ty := 0) (x := (.tmp 0)) (gd := none) (cs := #[(.int .u64 x0a), (.slice p0b n0b c0b)]) (by kernel_rfl) rfl rfl rfl (fun b1 => ?_)
 refine Seq.u 2 (.slice none 0 0) ?_
 refine Seq.u 3 (.int .i64 0) ?_
 refine Seq.done ?_
 refine At.L [(1, (.pointer (some ⟨b1, 0, none⟩)))] fun J => ?_
 refine At.s K3 K12 ?_
 refine At.s K4 K5 ?_
 refine At.rg 1 [0, 1, 2] ?_
 refine Seq.z 9 (.load 25 (.tmp 1)) 25 (.agg #[(.int .u64 x0a), (.slice p0b n0b c0b)]) (Y.ldab (vs := [(.int .u64 x0a), (.slice p0b n0b c0b)]) isAgg25 sizeOf25 rfl rfl (List.mem_cons_self ..) rfl) ?_
 refine Seq.o ?_
 refine OpTo.cl (some 10) call29 (h.cont fun v σ1 h2 => ?_); replace h := h2; clear h2
 obtain ⟨x10, rfl, h⟩ := h
 refine Seq.u 4 (.int .i64 x10) ?_
 refine Seq.done ?_
 refine At.L [(1, (.pointer (some ⟨b1, 0, none⟩))), (4, (.int .i64 x10))] fun J => ?_
 refine At.s K6 K7 ?_
 refine At.rg 2 [0, 1] ?_
 refine Seq.u 11 (.int .i64 x10) ?_
 refine Seq.u 12 (.bool (decide ((x10 : Int) ≠ 0))) ?_
 refine Seq.done ?_
 refine At.L [(1, (.pointer (some ⟨b1, 0, none⟩))), (4, (.int .i64 x10)), (12, (.bool (decide ((x10 : Int) ≠ 0))))] fun J => ?_
 cases hb : (decide ((x10 : Int) ≠ 0)) with
 | true =>
  replace h := h.1 (of_decide_eq_true hb)
  refine At.cT 12 K8 K11 ?_
  refine At.s K9 K10 ?_
  refine At.rg 3 [0, 1, 2] ?_
  refine Seq.u 13 (.int .i64 x10) ?_
  refine Seq.u 2 (.slice none 0 0) ?_
  refine Seq.u 3 (.int .i64 x10) ?_
  refine Seq.done ?_
  refine At.L [(2, (.slice none 0 0)), (3, (.int .i64 x10))] fun J => ?_
  exact At.rt [.tmp 2, .tmp 3] [(.slice none 0 0), (.int .i64 x10)] func15 ⟨_, rfl, ⟨_, rfl, rfl⟩⟩ h
 | false =>
  replace h := h.2 (of_decide_eq_false hb)
  refine At.cF 12 K8 K11 ?_
  refine At.skip ?_
  refine At.s K13 K14 ?_
  refine At.draw (id := 4) (ops := cO K13) (n := 9) (q := (some [])) (plan := [(0, true), (1, true), (3, true), (4, true), (5, true), (6, true), (2, false), (7, false), (8, true)]) (tl := []) mixed (by kernel_rfl) (by kernel_rfl) ?_
  refine Head.z 14 (.fieldAddr 25 (.tmp 1) 0) 0 (.pointer (some ⟨b1, 0, none⟩)) (Y.fieldAddr (fd := (fieldOf prog 25 0)) underlying25 (by kernel_rfl) sizeOf22 rfl rfl) ?_
  refine Head.z 15 (.load 22 (.tmp 14)) 22 (.int .u64 x0a) (Y.ldb isAgg22 rfl (List.mem_cons_self ..) rfl) ?_
  refine Head.z 17 (.fieldAddr 25 (.tmp 1) 1) 0 (.pointer (some ⟨b1, 1, none⟩)) (Y.fieldAddr (fd := (fieldOf prog 25 1)) underlying25 (by kernel_rfl) sizeOf23 rfl rfl) ?_
  refine Head.z 18 (.load 23 (.tmp 17)) 23 (.slice p0b n0b c0b) (Y.ldb isAgg23 rfl (List.mem_cons_self ..) rfl) ?_
  refine Head.z 19 (.call { callee := .builtin .len, args := #[(.tmp 18)], argTypes := #[23] }) 3 (.int .i64 (n0b : Int)) (Y.lenS underlying23 rfl rfl) ?_
  obtain ⟨x20, hwx20⟩ : ∃ y, y = IntKind.u64.wrap (n0b : Int) := ⟨_, rfl⟩
  replace h := h x20 hwx20
  refine Head.y (d := (some 20)) (op := (.convert 3 22 (.tmp 19))) (ty := 22) (v := (.int .u64 x20)) (by kernel_rfl) rfl (hwx20 ▸ Y.conv (by kernel_rfl) underlying22 rfl) ?_
  refine Head.o (q' := (some [])) rfl ?_
  refine OpTo.cl (some 16) call37 (h.cont fun v_2 σ1_2 h2 => ?_); replace h := h2; clear h2
  obtain ⟨p16, n16, c16, rfl, h⟩ := h
  refine ⟨⟨fun _ h => h, kp_q (L := []) Kp.nil⟩, ?_⟩
  refine Head.o (q' := (some [])) rfl ?_
  refine OpTo.cl (some 21) call37 (h.cont fun v_3 σ1_3 h2 => ?_); replace h := h2; clear h2
  obtain ⟨p21, n21, c21, rfl, h⟩ := h
  refine ⟨⟨fun _ h => h, kp_q (L := []) Kp.nil⟩, ?_⟩
  refine Head.u 5 (.slice p21 n21 c21) ?_
  refine Head.done ?_
  refine Seq.done ?_
  refine At.L [(1, (.pointer (some ⟨b1, 0, none⟩))), (5, (.slice p21 n21 c21))] fun J => ?_
  refine At.s K15 K46 ?_
  refine At.s K16 K17 ?_
  refine At.rg 5 [0] ?_
  refine Seq.u 6 (.int .i64 0) ?_
  refine Seq.done ?_
  refine At.L [(1, (.pointer (some ⟨b1, 0, none⟩))), (5, (.slice p21 n21 c21)), (6, (.int .i64 0))] fun J => ?_
  refine At.b 0 K18 ?_
  refine At.loop (x := K19) (by kernel_rfl) ?_
  refine At.s K20 K25 ?_
  refine At.s K21 K22 ?_
  exact At.v [(1, (.pointer (some ⟨b1, 0, none⟩))), (5, (.slice p21 n21 c21)), (6, (.int .i64 0))] (h _ b1)
theorem pt21_of {R : Ending → Hp → Prop} {x1a : Int} {p1b : Option Addr} {n1b : Nat} {c1b : Nat} {p5 : Option Addr} {n5 : Nat} {c5 : Nat} {x6 : Int} {σ : Hp} (h : ((x6 : Int) < (n1b : Int) → ∃ (b32 o32 : Nat), p1b = some ⟨b32, o32, none⟩ ∧ ((0 : Int) ≤ x6 ∧ x6 < (n1b : Int)) ∧ ∃ x33a : Int, ∃ x33b : Int, ∃ p33c : Option Addr, ∃ n33c : Nat, ∃ c33c : Nat, LdL σ b32 (o32 + Int.toNat x6 * 3) [(.int .i64 x33a), (.int .i64 x33b), (.slice p33c n33c c33c)] ∧ ∀ x37 : Int, x37 = IntKind.u64.wrap x33a → ∀ x41 : Int, x41 = IntKind.u64.wrap x33b → ∀ x46 : Int, x46 = IntKind.u64.wrap (n33c : Int) → Spec prog 37 #[(.slice p5 n5 c5), (.int .u64 x37)] σ (Cont R (fun v σ1 => ∃ p38 : Option Addr, ∃ n38 : Nat, ∃ c38 : Nat, v = (.slice p38 n38 c38) ∧ Spec prog 37 #[(.slice p38 n38 c38), (.int .u64 x41)] σ1 (Cont R (fun v_2 σ1_2 => ∃ p42 : Option Addr, ∃ n42 : Nat, ∃ c42 : Nat, v_2 = (.slice p42 n42 c42) ∧ Spec prog 37 #[(.slice p42 n42 c42), (.int .u64 x46)] σ1_2 (Cont R (fun v_3 σ1_3 => ∃ p47 : Option Addr, ∃ n47 : Nat, ∃ c47 : Nat, v_3 = (.slice p47 n47 c47) ∧ pt37 R x1a ((some ⟨b32, o32, none⟩)) n1b c1b p47 n47 c47 x6 x33a x33b p33c n33c c33c 0 σ1_3))))))) ∧ (¬ ((x6 : Int) < (n1b : Int)) → R (.returned (.tuple #[(.slice p5 n5 c5), (.int .i64 0)])) σ)) : pt21 R x1a p1b n1b c1b p5 n5 c5 x6 σ := by
 intro J b1
 show At (gl R) _ _ _ _
 refine At.rg 6 [0, 1, 2, 3, 4] ?_
 refine Seq.u 22 (.int .i64 x6) ?_
 refine Seq.z 23 (.fieldAddr 25 (.tmp 1) 1) 0 (.pointer (some ⟨b1, 1, none⟩)) (Y.fieldAddr (fd := (fieldOf prog 25 1)) underlying25 (by kernel_rfl) sizeOf23 rfl rfl) ?_
 refine Seq.z 24 (.load 23 (.tmp 23)) 23 (.slice p1b n1b c1b) (Y.ldb isAgg23 rfl (List.mem_cons_self ..) rfl) ?_
 refine Seq.z 25 (.call { callee := .builtin .len, args := #[(.tmp 24)], argTypes := #[23] }) 3 (.int .i64 (n1b : Int)) (Y.lenS underlying23 rfl rfl) ?_
 refine Seq.u 26 (.bool (decide ((x6 : Int) < (n1b : Int)))) ?_
 refine Seq.done ?_
 refine At.L [(1, (.pointer (some ⟨b1, 0, none⟩))), (5, (.slice p5 n5 c5)), (6, (.int .i64 x6)), (26, (.bool (decide ((x6 : Int) < (n1b : Int)))))] fun J => ?_
 cases hb : (decide ((x6 : Int) < (n1b : Int))) with
 | true =>
  replace h := h.1 (of_decide_eq_true hb)
  refine At.cT 26 K23 K24 ?_
  refine At.skip ?_
  refine At.s K26 K45 ?_
  refine At.b 1 K27 ?_
  refine At.s K28 K29 ?_
  refine At.rg 8 [0, 1, 2, 3, 4, 5, 6] ?_
  refine Seq.z 29 (.fieldAddr 25 (.tmp 1) 1) 0 (.pointer (some ⟨b1, 1, none⟩)) (Y.fieldAddr (fd := (fieldOf prog 25 1)) underlying25 (by kernel_rfl) sizeOf23 rfl rfl) ?_
  refine Seq.z 30 (.load 23 (.tmp 29)) 23 (.slice p1b n1b c1b) (Y.ldb isAgg23 rfl (List.mem_cons_self ..) rfl) ?_
  refine Seq.u 31 (.int .i64 x6) ?_
  obtain ⟨b32, o32, hq, h⟩ := h
  subst hq
  obtain ⟨hi, h⟩ := h
  refine Seq.z 32 (.indexAddr 23 (.tmp 30) (.tmp 31)) 0 (.pointer (some ⟨b32, (o32 + Int.toNat x6 * 3), none⟩)) (Y.idx underlying23 sizeOf55 rfl rfl hi rfl) ?_
  obtain ⟨x33a, x33b, p33c, n33c, c33c, hl, h⟩ := h
  refine Seq.z 33 (.load 55 (.tmp 32)) 55 (.agg #[(.int .i64 x33a), (.int .i64 x33b), (.slice p33c n33c c33c)]) (Y.lda isAgg55 sizeOf55 rfl rfl hl) ?_
  refine Seq.o ?_
  refine OpTo.alloc (T := 55) (d := (some 7)) (ty := 0)  (gd := none) (cs := #[(.int .i64 0), (.int .i64 0), (.slice none 0 0)]) (by kernel_rfl) rfl rfl zeroValue55 rfl (fun b7 => ?_)
  refine Seq.o ?_
  refine OpTo.storeb (T := 55) (ty := 0) (x := (.tmp 7)) (y := (.tmp 33)) (t := 55) (j := 0) (b := b7) (o := 0) (c' := #[(.int .i64 x33a), (.int .i64 x33b), (.slice p33c n33c c33c)]) (v := (.agg #[(.int .i64 x33a), (.int .i64 x33b), (.slice p33c n33c c33c)])) (gd := none) (by kernel_rfl) rfl sizeOf55 rfl rfl rfl rfl rfl rfl rfl ?_
  simp only [List.set]
  refine Seq.done ?_
  refine At.L [(1, (.pointer (some ⟨b1, 0, none⟩))), (5, (.slice p5 n5 c5)), (6, (.int .i64 x6)), (7, (.pointer (some ⟨b7, 0, none⟩)))] fun J => ?_
  refine At.s K30 K31 ?_
  refine At.draw (id := 9) (ops := cO K30) (n := 15) (q := (some [])) (plan := [(0, true), (1, true), (2, true), (3, true), (5, true), (6, true), (7, true), (9, true), (10, true), (11, true), (12, true), (4, false), (8, false), (13, false), (14, true)]) (tl := []) mixed (by kernel_rfl) (by kernel_rfl) ?_
  refine Head.u 34 (.slice p5 n5 c5) ?_
  refine Head.z 35 (.fieldAddr 55 (.tmp 7) 0) 0 (.pointer (some ⟨b7, 0, none⟩)) (Y.fieldAddr (fd := (fieldOf prog 55 0)) underlying55 (by kernel_rfl) sizeOf3 rfl rfl) ?_
  refine Head.z 36 (.load 3 (.tmp 35)) 3 (.int .i64 x33a) (Y.ldb isAgg3 rfl (List.mem_cons_self ..) rfl) ?_
  obtain ⟨x37, hwx37⟩ : ∃ y, y = IntKind.u64.wrap x33a := ⟨_, rfl⟩
  replace h := h x37 hwx37
  refine Head.y (d := (some 37)) (op := (.convert 3 22 (.tmp 36))) (ty := 22) (v := (.int .u64 x37)) (by kernel_rfl) rfl (hwx37 ▸ Y.conv (by kernel_rfl) underlying22 rfl) ?_
  refine Head.z 39 (.fieldAddr 55 (.tmp 7) 1) 0 (.pointer (some ⟨b7, 1, none⟩)) (Y.fieldAddr (fd := (fieldOf prog 55 1)) underlying55 (by kernel_rfl) sizeOf3 rfl rfl) ?_
  refine Head.z 40 (.load 3 (.tmp 39)) 3 (.int .i64 x33b) (Y.ldb isAgg3 rfl (List.mem_cons_self ..) rfl) ?_
  obtain ⟨x41, hwx41⟩ : ∃ y, y = IntKind.u64.wrap x33b := ⟨_, rfl⟩
  replace h := h x41 hwx41
  refine Head.y (d := (some 41)) (op := (.convert 3 22 (.tmp 40))) (ty := 22) (v := (.int .u64 x41)) (by kernel_rfl) rfl (hwx41 ▸ Y.conv (by kernel_rfl) underlying22 rfl) ?_
  refine Head.z 43 (.fieldAddr 55 (.tmp 7) 2) 0 (.pointer (some ⟨b7, 2, none⟩)) (Y.fieldAddr (fd := (fieldOf prog 55 2)) underlying55 (by kernel_rfl) sizeOf53 rfl rfl) ?_
  refine Head.z 44 (.load 53 (.tmp 43)) 53 (.slice p33c n33c c33c) (Y.ldb isAgg53 rfl (List.mem_cons_self ..) rfl) ?_
  refine Head.z 45 (.call { callee := .builtin .len, args := #[(.tmp 44)], argTypes := #[53] }) 3 (.int .i64 (n33c : Int)) (Y.lenS underlying53 rfl rfl) ?_
  obtain ⟨x46, hwx46⟩ : ∃ y, y = IntKind.u64.wrap (n33c : Int) := ⟨_, rfl⟩
  replace h := h x46 hwx46
  refine Head.y (d := (some 46)) (op := (.convert 3 22 (.tmp 45))) (ty := 22) (v := (.int .u64 x46)) (by kernel_rfl) rfl (hwx46 ▸ Y.conv (by kernel_rfl) underlying22 rfl) ?_
  refine Head.o (q' := (some [])) rfl ?_
  refine OpTo.cl (some 38) call37 (h.cont fun v σ1 h2 => ?_); replace h := h2; clear h2
  obtain ⟨p38, n38, c38, rfl, h⟩ := h
  refine ⟨⟨fun _ h => h, kp_q (L := []) Kp.nil⟩, ?_⟩
  refine Head.o (q' := (some [])) rfl ?_
  refine OpTo.cl (some 42) call37 (h.cont fun v_2 σ1_2 h2 => ?_); replace h := h2; clear h2
  obtain ⟨p42, n42, c42, rfl, h⟩ := h
  refine ⟨⟨fun _ h => h, kp_q (L := []) Kp.nil⟩, ?_⟩
  refine Head.o (q' := (some [])) rfl ?_
  refine OpTo.cl (some 47) call37 (h.cont fun v_3 σ1_3 h2 => ?_); replace h := h2; clear h2
  obtain ⟨p47, n47, c47, rfl, h⟩ := h
  refine ⟨⟨fun _ h => h, kp_q (L := []) Kp.nil⟩, ?_⟩
  refine Head.u 5 (.slice p47 n47 c47) ?_
  refine Head.done ?_
  refine Seq.done ?_
  refine At.L [(1, (.pointer (some ⟨b1, 0, none⟩))), (5, (.slice p47 n47 c47)), (6, (.int .i64 x6)), (7, (.pointer (some ⟨b7, 0, none⟩)))] fun J => ?_
  refine At.s K32 K33 ?_
  refine At.rg 10 [0] ?_
  refine Seq.u 8 (.int .i64 0) ?_
  refine Seq.done ?_
  refine At.L [(1, (.pointer (some ⟨b1, 0, none⟩))), (5, (.slice p47 n47 c47)), (6, (.int .i64 x6)), (7, (.pointer (some ⟨b7, 0, none⟩))), (8, (.int .i64 0))] fun J => ?_
  refine At.b 2 K34 ?_
  refine At.loop (x := K35) (by kernel_rfl) ?_
  refine At.s K36 K41 ?_
  refine At.s K37 K38 ?_
  exact At.v [(1, (.pointer (some ⟨b1, 0, none⟩))), (5, (.slice p47 n47 c47)), (6, (.int .i64 x6)), (7, (.pointer (some ⟨b7, 0, none⟩))), (8, (.int .i64 0))] (h _ b1 b7)
 | false =>
  replace h := h.2 (of_decide_eq_false hb)
  refine At.cF 26 K23 K24 ?_
  refine At.x 0 [.code K46] ?_
  refine At.s K47 K48 ?_
  refine At.rg 14 [0, 1, 2] ?_
  refine Seq.u 63 (.slice p5 n5 c5) ?_
  refine Seq.u 2 (.slice p5 n5 c5) ?_
  refine Seq.u 3 (.int .i64 0) ?_
  refine Seq.done ?_
  refine At.L [(2, (.slice p5 n5 c5)), (3, (.int .i64 0))] fun J => ?_
  exact At.rt [.tmp 2, .tmp 3] [(.slice p5 n5 c5), (.int .i64 0)] func15 ⟨_, rfl, ⟨_, rfl, rfl⟩⟩ h
theorem pt37_of {R : Ending → Hp → Prop} {x1a : Int} {p1b : Option Addr} {n1b : Nat} {c1b : Nat} {p5 : Option Addr} {n5 : Nat} {c5 : Nat} {x6 : Int} {x7a : Int} {x7b : Int} {p7c : Option Addr} {n7c : Nat} {c7c : Nat} {x8 : Int} {σ : Hp} (h : ((x8 : Int) < (n7c : Int) → ∃ (b59 o59 : Nat), p7c = some ⟨b59, o59, none⟩ ∧ ((0 : Int) ≤ x8 ∧ x8 < (n7c : Int)) ∧ ∃ x60 : Int, Hp.ld σ ⟨b59, (o59 + Int.toNat x8 * 1), none⟩ = some (.int .u32 x60) ∧ ∀ x61 : Int, x61 = IntKind.u64.wrap x60 → Spec prog 37 #[(.slice p5 n5 c5), (.int .u64 x61)] σ (Cont R (fun v σ1 => ∃ p62 : Option Addr, ∃ n62 : Nat, ∃ c62 : Nat, v = (.slice p62 n62 c62) ∧ I64 (x8 + 1) ∧ pt37 R x1a p1b n1b c1b p62 n62 c62 x6 x7a x7b ((some ⟨b59, o59, none⟩)) n7c c7c ((x8 + 1)) σ1))) ∧ (¬ ((x8 : Int) < (n7c : Int)) → I64 (x6 + 1) ∧ pt21 R x1a p1b n1b c1b p5 n5 c5 ((x6 + 1)) σ)) : pt37 R x1a p1b n1b c1b p5 n5 c5 x6 x7a x7b p7c n7c c7c x8 σ := by
 intro J b1 b7
 show At (gl R) _ _ _ _
 refine At.rg 11 [0, 1, 2, 3, 4] ?_
 refine Seq.u 48 (.int .i64 x8) ?_
 refine Seq.z 49 (.fieldAddr 55 (.tmp 7) 2) 0 (.pointer (some ⟨b7, 2, none⟩)) (Y.fieldAddr (fd := (fieldOf prog 55 2)) underlying55 (by kernel_rfl) sizeOf53 rfl rfl) ?_
 refine Seq.z 50 (.load 53 (.tmp 49)) 53 (.slice p7c n7c c7c) (Y.ldb isAgg53 rfl (List.mem_cons_self ..) rfl) ?_
 refine Seq.z 51 (.call { callee := .builtin .len, args := #[(.tmp 50)], argTypes := #[53] }) 3 (.int .i64 (n7c : Int)) (Y.lenS underlying53 rfl rfl) ?_
 refine Seq.u 52 (.bool (decide ((x8 : Int) < (n7c : Int)))) ?_
 refine Seq.done ?_
 refine At.L [(1, (.pointer (some ⟨b1, 0, none⟩))), (5, (.slice p5 n5 c5)), (6, (.int .i64 x6)), (7, (.pointer (some ⟨b7, 0, none⟩))), (8, (.int .i64 x8)), (52, (.bool (decide ((x8 : Int) < (n7c : Int)))))] fun J => ?_
 cases hb : (decide ((x8 : Int) < (n7c : Int))) with
 | true =>
  replace h := h.1 (of_decide_eq_true hb)
  refine At.cT 52 K39 K40 ?_
  refine At.skip ?_
  refine At.s K42 K44 ?_
  refine At.b 3 K43 ?_
  refine At.rg 13 [0, 1, 2, 3, 4, 5, 6, 7, 8] ?_
  refine Seq.u 55 (.slice p5 n5 c5) ?_
  refine Seq.z 56 (.fieldAddr 55 (.tmp 7) 2) 0 (.pointer (some ⟨b7, 2, none⟩)) (Y.fieldAddr (fd := (fieldOf prog 55 2)) underlying55 (by kernel_rfl) sizeOf53 rfl rfl) ?_
  refine Seq.z 57 (.load 53 (.tmp 56)) 53 (.slice p7c n7c c7c) (Y.ldb isAgg53 rfl (List.mem_cons_self ..) rfl) ?_
  refine Seq.u 58 (.int .i64 x8) ?_
  obtain ⟨b59, o59, hq, h⟩ := h
  subst hq
  obtain ⟨hi, h⟩ := h
  refine Seq.z 59 (.indexAddr 53 (.tmp 57) (.tmp 58)) 0 (.pointer (some ⟨b59, (o59 + Int.toNat x8 * 1), none⟩)) (Y.idx underlying53 sizeOf26 rfl rfl hi rfl) ?_
  obtain ⟨x60, hl, h⟩ := h
  refine Seq.z 60 (.load 26 (.tmp 59)) 26 (.int .u32 x60) (Y.ld isAgg26 rfl hl) ?_
  obtain ⟨x61, hwx61⟩ : ∃ y, y = IntKind.u64.wrap x60 := ⟨_, rfl⟩
  replace h := h x61 hwx61
  refine Seq.y (d := (some 61)) (op := (.convert 26 22 (.tmp 60))) (ty := 22) (v := (.int .u64 x61)) (by kernel_rfl) rfl (hwx61 ▸ Y.conv (by kernel_rfl) underlying22 rfl) ?_
  refine Seq.o ?_
  refine OpTo.cl (some 62) call37 (h.cont fun v σ1 h2 => ?_); replace h := h2; clear h2
  obtain ⟨p62, n62, c62, rfl, h⟩ := h
  refine Seq.u 5 (.slice p62 n62 c62) ?_
  refine Seq.done ?_
  refine At.L [(1, (.pointer (some ⟨b1, 0, none⟩))), (5, (.slice p62 n62 c62)), (6, (.int .i64 x6)), (7, (.pointer (some ⟨b7, 0, none⟩))), (8, (.int .i64 x8))] fun J => ?_
  refine At.inBlock ?_
  refine At.rg 12 [0, 1, 2] ?_
  refine Seq.u 53 (.int .i64 x8) ?_
  obtain ⟨hi, h⟩ := h
  refine Seq.z 54 (.binOp .add 3 (.tmp 53) (.const (.int .i64 1)) 3) 3 (.int .i64 (x8 + 1)) (Y.addI hi rfl rfl) ?_
  refine Seq.u 8 (.int .i64 (x8 + 1)) ?_
  refine Seq.done ?_
  refine At.L [(1, (.pointer (some ⟨b1, 0, none⟩))), (5, (.slice p62 n62 c62)), (6, (.int .i64 x6)), (7, (.pointer (some ⟨b7, 0, none⟩))), (8, (.int .i64 (x8 + 1)))] fun J => ?_
  refine At.inLoop ?_
  refine At.s K36 K41 ?_
  refine At.s K37 K38 ?_
  exact At.v [(1, (.pointer (some ⟨b1, 0, none⟩))), (5, (.slice p62 n62 c62)), (6, (.int .i64 x6)), (7, (.pointer (some ⟨b7, 0, none⟩))), (8, (.int .i64 (x8 + 1)))] (h _ b1 b7)
 | false =>
  replace h := h.2 (of_decide_eq_false hb)
  refine At.cF 52 K39 K40 ?_
  refine At.x 2 [.inBlock 1, .code K45, .inLoop K19, .inBlock 0, .code K46] ?_
  refine At.inBlock ?_
  refine At.rg 7 [0, 1, 2] ?_
  refine Seq.u 27 (.int .i64 x6) ?_
  obtain ⟨hi, h⟩ := h
  refine Seq.z 28 (.binOp .add 3 (.tmp 27) (.const (.int .i64 1)) 3) 3 (.int .i64 (x6 + 1)) (Y.addI hi rfl rfl) ?_
  refine Seq.u 6 (.int .i64 (x6 + 1)) ?_
  refine Seq.done ?_
  refine At.L [(1, (.pointer (some ⟨b1, 0, none⟩))), (5, (.slice p5 n5 c5)), (6, (.int .i64 (x6 + 1)))] fun J => ?_
  refine At.inLoop ?_
  refine At.s K20 K25 ?_
  refine At.s K21 K22 ?_
  refine At.sub (bx' := [(b1, .cells #[(.int .u64 x1a), (.slice p1b n1b c1b)] 25 (0, 0))]) (.cons _ (.cons_cons _ .slnil)) ?_
  exact At.v [(1, (.pointer (some ⟨b1, 0, none⟩))), (5, (.slice p5 n5 c5)), (6, (.int .i64 (x6 + 1)))] (h _ b1)
end ref13_Encode
end TwR
end
