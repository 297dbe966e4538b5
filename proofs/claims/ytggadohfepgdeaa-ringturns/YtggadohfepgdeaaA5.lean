/-
  Part 5 of the proof that the law RingTurnsSaid of the given program answers true for every input of the given statement; the input reads behind the call as it did. (The texts: GC GC RF RG RH RI RJ RK RL TwL GF ShelfR RN RO RP RQ RR RS RT.)
-/
import Derived.Test.YtggadohfepgdeaaA4
import Derived.Laws.Bits64b
import Derived.Shelf.SlSortCmp.NoneTotal
import Derived.Ground.SlsfProg
import Derived.Test.YtggadohfepgdeaaProg
set_option linter.all false
section
/- written by gen.py: program points and what leads to them -/
set_option linter.unusedVariables false
set_option maxRecDepth 100000
namespace TwR
open Go Tw Go.Proofs.Try
namespace ref13_Decode
abbrev fid : Nat := 16
noncomputable def K0 : Code := f16.body.getD .skip
noncomputable def K1 := Tw.cl K0
noncomputable def K2 := Tw.cr K0
noncomputable def K3 := Tw.cl K2
noncomputable def K4 := Tw.cr K2
noncomputable def K5 := Tw.cl K4
noncomputable def K6 := Tw.cr K4
noncomputable def K7 := Tw.cl K6
noncomputable def K8 := Tw.cl K7
noncomputable def K9 := Tw.cr K7
noncomputable def K10 := Tw.cl K9
noncomputable def K11 := Tw.cl K10
noncomputable def K12 := Tw.cl K11
noncomputable def K13 := Tw.cl K12
noncomputable def K14 := Tw.cr K12
noncomputable def K15 := Tw.cl K14
noncomputable def K16 := Tw.cr K14
noncomputable def K17 := Tw.cr K11
noncomputable def K18 := Tw.cl K17
noncomputable def K19 := Tw.cl K18
noncomputable def K20 := Tw.cl K19
noncomputable def K21 := Tw.cr K19
noncomputable def K22 := Tw.cl K21
noncomputable def K23 := Tw.cr K21
noncomputable def K24 := Tw.cl K23
noncomputable def K25 := Tw.cl K24
noncomputable def K26 := Tw.cr K24
noncomputable def K27 := Tw.cl K26
noncomputable def K28 := Tw.cl K27
noncomputable def K29 := Tw.cl K28
noncomputable def K30 := Tw.cl K29
noncomputable def K31 := Tw.cr K29
noncomputable def K32 := Tw.cl K31
noncomputable def K33 := Tw.cr K31
noncomputable def K34 := Tw.cr K28
noncomputable def K35 := Tw.cl K34
noncomputable def K36 := Tw.cl K35
noncomputable def K37 := Tw.cl K36
noncomputable def K38 := Tw.cr K36
noncomputable def K39 := Tw.cl K38
noncomputable def K40 := Tw.cr K38
noncomputable def K41 := Tw.cr K34
noncomputable def K42 := Tw.cr K23
noncomputable def K43 := Tw.cr K17
noncomputable def K44 := Tw.cr K6
noncomputable def K45 := Tw.cl K44
noncomputable def K46 := Tw.cr K44
noncomputable def K47 := Tw.cl K46
noncomputable def K48 := Tw.cl K47
noncomputable def K49 := Tw.cr K47
noncomputable def K50 := Tw.cl K49
noncomputable def K51 := Tw.cl K50
noncomputable def K52 := Tw.cr K50
noncomputable def K53 := Tw.cr K49
noncomputable def K54 := Tw.cr K46
noncomputable def K55 := Tw.cl K54
noncomputable def K56 := Tw.cr K54
noncomputable abbrev gl (R : Ending → Hp → Prop) : Gl := Gl.fn prog 16 105 R
def pt13 (R : Ending → Hp → Prop) (p0 : Option Addr) (n0 : Nat) (c0 : Nat) (x2a : Int) (p2b : Option Addr) (n2b : Nat) (c2b : Nat) (q4 : Option Addr) (x5a : Int) (p5b : Option Addr) (n5b : Nat) (c5b : Nat) (x6 : Int) (σ : Hp) : Prop := ∀ (J : Env) (b2 : Nat) (b5 : Nat), At (gl R) [.code K13, .code K14, .code K17, .inLoop K11, .inBlock 0, .code K44] (upds J [(0, (.slice p0 n0 c0)), (2, (.pointer (some ⟨b2, 0, none⟩))), (4, (.pointer q4)), (5, (.pointer (some ⟨b5, 0, none⟩))), (6, (.int .u64 x6))]) [(b5, .cells #[(.int .u64 x5a), (.slice p5b n5b c5b)] 25 (0, 0)), (b2, .cells #[(.int .u64 x2a), (.slice p2b n2b c2b)] 25 (0, 0))] σ
def pt30 (R : Ending → Hp → Prop) (p0 : Option Addr) (n0 : Nat) (c0 : Nat) (x2a : Int) (p2b : Option Addr) (n2b : Nat) (c2b : Nat) (q4 : Option Addr) (x5a : Int) (p5b : Option Addr) (n5b : Nat) (c5b : Nat) (x6 : Int) (x9a : Int) (x9b : Int) (p9c : Option Addr) (n9c : Nat) (c9c : Nat) (x10 : Int) (σ : Hp) : Prop := ∀ (J : Env) (b2 : Nat) (b5 : Nat) (b9 : Nat), At (gl R) [.code K30, .code K31, .code K34, .inLoop K28, .inBlock 2, .code K42, .inBlock 1, .code K43, .inLoop K11, .inBlock 0, .code K44] (upds J [(0, (.slice p0 n0 c0)), (2, (.pointer (some ⟨b2, 0, none⟩))), (4, (.pointer q4)), (5, (.pointer (some ⟨b5, 0, none⟩))), (6, (.int .u64 x6)), (9, (.pointer (some ⟨b9, 0, none⟩))), (10, (.int .u64 x10))]) [(b9, .cells #[(.int .i64 x9a), (.int .i64 x9b), (.slice p9c n9c c9c)] 55 (0, 0)), (b5, .cells #[(.int .u64 x5a), (.slice p5b n5b c5b)] 25 (0, 0)), (b2, .cells #[(.int .u64 x2a), (.slice p2b n2b c2b)] 25 (0, 0))] σ
theorem start {R : Ending → Hp → Prop} {p0 : Option Addr} {n0 : Nat} {c0 : Nat} {σ : Hp} (h : ∀ b16 : Nat, σ b16 = none → Spec prog 38 #[(.pointer (some ⟨b16, 0, none⟩))] (Hp.set σ b16 (.cells #[(.slice p0 n0 c0), (.int .i64 0), (.bool false)] 65 (0, 0))) (Cont R (fun v σ1 => ∃ x18 : Int, v = (.int .u64 x18) ∧ Spec prog 38 #[(.pointer (some ⟨b16, 0, none⟩))] σ1 (Cont R (fun v_2 σ1_2 => ∃ x21 : Int, v_2 = (.int .u64 x21) ∧ pt13 R p0 n0 c0 0 none 0 0 ((some ⟨b16, 0, none⟩)) x18 none 0 0 x21 σ1_2))))) : Spec prog 16 #[(.slice p0 n0 c0)] σ R := by
 refine Spec.of_at (fn := f16) (c := K0) func16 (by kernel_rfl) (Nat.le_of_ble_eq_true (by kernel_rfl)) (fun e he => ?_)
 refine At.ofL (l := [(0, (.slice p0 n0 c0))]) ⟨he 0, trivial⟩ (fun J => ?_)
 show At (gl R) _ _ _ _
 refine At.s K1 K2 ?_
 refine At.rg 0 [0, 1] ?_
 refine Seq.o ?_
 refine OpTo.alloc (T := 25) (d := (some 2)) (ty := 0)  (gd := none) (cs := #[(.int .u64 0), (.slice none 0 0)]) (by kernel_rfl) rfl rfl zeroValue25 rfl (fun b2 => ?_)
 refine Seq.u 3 (.int .i64 0) ?_
 refine Seq.done ?_
 refine At.L [(0, (.slice p0 n0 c0)), (2, (.pointer (some ⟨b2, 0, none⟩)))] fun J => ?_
 refine At.s K3 K4 ?_
 refine At.rg 1 [0, 1, 2, 3] ?_
 refine Seq.u 14 (.slice p0 n0 c0) ?_
 refine Seq.z 15 (.build 65 #[(0, (.tmp 14))]) 65 (.agg #[(.slice p0 n0 c0), (.int .i64 0), (.bool false)]) (Y.build (vs := [(0, (.slice p0 n0 c0))]) rfl (by kernel_rfl)) ?_
 refine Seq.o ?_
 refine OpTo.boxO (T := 65) (d := (some 16)) (ty := 63) (x := (.tmp 15)) (gd := none) (cs := #[(.slice p0 n0 c0), (.int .i64 0), (.bool false)]) (by kernel_rfl) rfl rfl rfl (fun b16 hn => ?_)
 replace h := h b16 hn
 refine Seq.u 4 (.pointer (some ⟨b16, 0, none⟩)) ?_
 refine Seq.done ?_
 refine At.L [(0, (.slice p0 n0 c0)), (2, (.pointer (some ⟨b2, 0, none⟩))), (4, (.pointer (some ⟨b16, 0, none⟩)))] fun J => ?_
 refine At.s K5 K6 ?_
 refine At.rg 2 [0, 1, 2, 3, 4] ?_
 refine Seq.u 17 (.pointer (some ⟨b16, 0, none⟩)) ?_
 refine Seq.o ?_
 refine OpTo.cl (some 18) call38 (h.cont fun v σ1 h2 => ?_); replace h := h2; clear h2
 obtain ⟨x18, rfl, h⟩ := h
 refine Seq.z 19 (.build 25 #[(0, (.tmp 18))]) 25 (.agg #[(.int .u64 x18), (.slice none 0 0)]) (Y.build (vs := [(0, (.int .u64 x18))]) rfl (by kernel_rfl)) ?_
 refine Seq.o ?_
 refine OpTo.alloc (T := 25) (d := (some 5)) (ty := 0)  (gd := none) (cs := #[(.int .u64 0), (.slice none 0 0)]) (by kernel_rfl) rfl rfl zeroValue25 rfl (fun b5 => ?_)
 refine Seq.o ?_
 refine OpTo.storeb (T := 25) (ty := 0) (x := (.tmp 5)) (y := (.tmp 19)) (t := 25) (j := 0) (b := b5) (o := 0) (c' := #[(.int .u64 x18), (.slice none 0 0)]) (v := (.agg #[(.int .u64 x18), (.slice none 0 0)])) (gd := none) (by kernel_rfl) rfl sizeOf25 rfl rfl rfl rfl rfl rfl rfl ?_
 simp only [List.set]
 refine Seq.done ?_
 refine At.L [(0, (.slice p0 n0 c0)), (2, (.pointer (some ⟨b2, 0, none⟩))), (4, (.pointer (some ⟨b16, 0, none⟩))), (5, (.pointer (some ⟨b5, 0, none⟩)))] fun J => ?_
 refine At.s K7 K44 ?_
 refine At.s K8 K9 ?_
 refine At.rg 3 [0, 1, 2] ?_
 refine Seq.u 20 (.pointer (some ⟨b16, 0, none⟩)) ?_
 refine Seq.o ?_
 refine OpTo.cl (some 21) call38 (h.cont fun v_2 σ1_2 h2 => ?_); replace h := h2; clear h2
 obtain ⟨x21, rfl, h⟩ := h
 refine Seq.u 6 (.int .u64 x21) ?_
 refine Seq.done ?_
 refine At.L [(0, (.slice p0 n0 c0)), (2, (.pointer (some ⟨b2, 0, none⟩))), (4, (.pointer (some ⟨b16, 0, none⟩))), (5, (.pointer (some ⟨b5, 0, none⟩))), (6, (.int .u64 x21))] fun J => ?_
 refine At.b 0 K10 ?_
 refine At.loop (x := K11) (by kernel_rfl) ?_
 refine At.s K12 K17 ?_
 refine At.s K13 K14 ?_
 exact At.v [(0, (.slice p0 n0 c0)), (2, (.pointer (some ⟨b2, 0, none⟩))), (4, (.pointer (some ⟨b16, 0, none⟩))), (5, (.pointer (some ⟨b5, 0, none⟩))), (6, (.int .u64 x21))] (h _ b2 b5)
theorem pt13_of {R : Ending → Hp → Prop} {p0 : Option Addr} {n0 : Nat} {c0 : Nat} {x2a : Int} {p2b : Option Addr} {n2b : Nat} {c2b : Nat} {q4 : Option Addr} {x5a : Int} {p5b : Option Addr} {n5b : Nat} {c5b : Nat} {x6 : Int} {σ : Hp} (h : ((0 : Int) < x6 → ∃ (b26 o26 : Nat), q4 = some ⟨b26, o26, none⟩ ∧ ∃ t28 : Bool, Hp.ld σ ⟨b26, (o26 + 2), none⟩ = some (.bool t28) ∧ (t28 = false → Spec prog 38 #[(.pointer (some ⟨b26, o26, none⟩))] σ (Cont R (fun v σ1 => ∃ x34 : Int, v = (.int .u64 x34) ∧ Spec prog 38 #[(.pointer (some ⟨b26, o26, none⟩))] σ1 (Cont R (fun v_2 σ1_2 => ∃ x36 : Int, v_2 = (.int .u64 x36) ∧ ∀ x39 : Int, x39 = IntKind.i64.wrap (if (1048576 : Int) < x34 then 1048576 else x34) → ∀ x42 : Int, x42 = IntKind.i64.wrap (if (1048576 : Int) < x36 then 1048576 else x36) → Spec prog 38 #[(.pointer (some ⟨b26, o26, none⟩))] σ1_2 (Cont R (fun v_3 σ1_3 => ∃ x45 : Int, v_3 = (.int .u64 x45) ∧ pt30 R p0 n0 c0 x2a p2b n2b c2b ((some ⟨b26, o26, none⟩)) x5a p5b n5b c5b x6 x39 x42 none 0 0 x45 σ1_3))))))) ∧ (t28 = true → Spec prog 15 #[(.agg #[(.int .u64 x5a), (.slice p5b n5b c5b)])] σ (Cont R (fun v σ1 => ∃ p85a : Option Addr, ∃ n85a : Nat, ∃ c85a : Nat, ∃ x85b : Int, v = (.tuple #[(.slice p85a n85a c85a), (.int .i64 x85b)]) ∧ ∃ t91 : Bool, Hp.ld σ1 ⟨b26, (o26 + 2), none⟩ = some (.bool t91) ∧ (t91 = true → R (.returned (.tuple #[(.agg #[(.int .u64 0), (.slice none 0 0)]), (.int .i64 130)])) σ1) ∧ (t91 = false → ((x85b : Int) ≠ 0 → R (.returned (.tuple #[(.agg #[(.int .u64 0), (.slice none 0 0)]), (.int .i64 130)])) σ1) ∧ (¬ ((x85b : Int) ≠ 0) → Eff prog (convert 37 9 (.slice p85a n85a c85a)) σ1 (fun v_2 σ1_2 => ∃ s98 : ByteArray, v_2 = (.string s98) ∧ Eff prog (convert 37 9 (.slice p0 n0 c0)) σ1_2 (fun v_3 σ1_3 => ∃ s100 : ByteArray, v_3 = (.string s100) ∧ ((ByteArray.toList s98 == ByteArray.toList s100) = false → R (.returned (.tuple #[(.agg #[(.int .u64 0), (.slice none 0 0)]), (.int .i64 130)])) σ1_3) ∧ ((ByteArray.toList s98 == ByteArray.toList s100) = true → R (.returned (.tuple #[(.agg #[(.int .u64 x5a), (.slice p5b n5b c5b)]), (.int .i64 0)])) σ1_3))))))))) ∧ (¬ ((0 : Int) < x6) → Spec prog 15 #[(.agg #[(.int .u64 x5a), (.slice p5b n5b c5b)])] σ (Cont R (fun v σ1 => ∃ p85a : Option Addr, ∃ n85a : Nat, ∃ c85a : Nat, ∃ x85b : Int, v = (.tuple #[(.slice p85a n85a c85a), (.int .i64 x85b)]) ∧ ∃ (b89 o89 : Nat), q4 = some ⟨b89, o89, none⟩ ∧ ∃ t91 : Bool, Hp.ld σ1 ⟨b89, (o89 + 2), none⟩ = some (.bool t91) ∧ (t91 = true → R (.returned (.tuple #[(.agg #[(.int .u64 0), (.slice none 0 0)]), (.int .i64 130)])) σ1) ∧ (t91 = false → ((x85b : Int) ≠ 0 → R (.returned (.tuple #[(.agg #[(.int .u64 0), (.slice none 0 0)]), (.int .i64 130)])) σ1) ∧ (¬ ((x85b : Int) ≠ 0) → Eff prog (convert 37 9 (.slice p85a n85a c85a)) σ1 (fun v_2 σ1_2 => ∃ s98 : ByteArray, v_2 = (.string s98) ∧ Eff prog (convert 37 9 (.slice p0 n0 c0)) σ1_2 (fun v_3 σ1_3 => ∃ s100 : ByteArray, v_3 = (.string s100) ∧ ((ByteArray.toList s98 == ByteArray.toList s100) = false → R (.returned (.tuple #[(.agg #[(.int .u64 0), (.slice none 0 0)]), (.int .i64 130)])) σ1_3) ∧ ((ByteArray.toList s98 == ByteArray.toList s100) = true → R (.returned (.tuple #[(.agg #[(.int .u64 x5a), (.slice p5b n5b c5b)]), (.int .i64 0)])) σ1_3))))))))) : pt13 R p0 n0 c0 x2a p2b n2b c2b q4 x5a p5b n5b c5b x6 σ := by
 intro J b2 b5
 show At (gl R) _ _ _ _
 refine At.rg 4 [0, 1, 2, 3, 4, 5, 6, 7, 8] ?_
 refine Seq.u 22 (.int .u64 x6) ?_
 refine Seq.u 23 (.bool (decide ((0 : Int) < x6))) ?_
 refine Seq.u 24 (.bool (decide ((0 : Int) < x6))) ?_
 cases hb : (decide ((0 : Int) < x6)) with
 | true =>
  replace h := h.1 (of_decide_eq_true hb)
  refine Seq.u 25 (.pointer q4) ?_
  obtain ⟨b26, o26, hq, h⟩ := h
  subst hq
  refine Seq.zg 26 (.nilCheck (.tmp 25)) 0 (2, true) (.pointer (some ⟨b26, o26, none⟩)) (Y.nilCheck rfl) ?_
  refine Seq.zg 27 (.fieldAddr 65 (.tmp 26) 2) 0 (2, true) (.pointer (some ⟨b26, (o26 + 2), none⟩)) (Y.fieldAddr (fd := (fieldOf prog 65 2)) underlying65 (by kernel_rfl) sizeOf4 rfl rfl) ?_
  obtain ⟨t28, hl, h⟩ := h
  refine Seq.zg 28 (.load 4 (.tmp 27)) 4 (2, true) (.bool t28) (Y.ld isAgg4 rfl hl) ?_
  refine Seq.u 29 (.bool (!t28)) ?_
  refine Seq.u 30 (.bool (!t28)) ?_
  refine Seq.done ?_
  refine At.L [(0, (.slice p0 n0 c0)), (2, (.pointer (some ⟨b2, 0, none⟩))), (4, (.pointer (some ⟨b26, o26, none⟩))), (5, (.pointer (some ⟨b5, 0, none⟩))), (6, (.int .u64 x6)), (30, (.bool (!t28)))] fun J => ?_
  cases hb : (!t28) with
  | true =>
   replace h := h.1 (Tw.nt hb)
   refine At.cT 30 K15 K16 ?_
   refine At.skip ?_
   refine At.s K18 K43 ?_
   refine At.b 1 K19 ?_
   refine At.s K20 K21 ?_
   refine At.rg 6 [0, 1, 2, 3, 4, 5] ?_
   refine Seq.u 33 (.pointer (some ⟨b26, o26, none⟩)) ?_
   refine Seq.o ?_
   refine OpTo.cl (some 34) call38 (h.cont fun v σ1 h2 => ?_); replace h := h2; clear h2
   obtain ⟨x34, rfl, h⟩ := h
   refine Seq.u 35 (.pointer (some ⟨b26, o26, none⟩)) ?_
   refine Seq.o ?_
   refine OpTo.cl (some 36) call38 (h.cont fun v_2 σ1_2 h2 => ?_); replace h := h2; clear h2
   obtain ⟨x36, rfl, h⟩ := h
   refine Seq.u 7 (.int .u64 x34) ?_
   refine Seq.u 8 (.int .u64 x36) ?_
   refine Seq.done ?_
   refine At.L [(0, (.slice p0 n0 c0)), (2, (.pointer (some ⟨b2, 0, none⟩))), (4, (.pointer (some ⟨b26, o26, none⟩))), (5, (.pointer (some ⟨b5, 0, none⟩))), (6, (.int .u64 x6)), (7, (.int .u64 x34)), (8, (.int .u64 x36))] fun J => ?_
   refine At.s K22 K23 ?_
   refine At.rg 7 [0, 1, 2, 3, 4, 5, 6, 7, 8] ?_
   refine Seq.u 37 (.int .u64 x34) ?_
   refine Seq.z 38 (.call { callee := .builtin .min, args := #[(.tmp 37), (.const (.int .u64 1048576))], argTypes := #[22, 22] }) 22 (.int .u64 (if (1048576 : Int) < x34 then 1048576 else x34)) (Y.min2 rfl rfl) ?_
   obtain ⟨x39, hwx39⟩ : ∃ y, y = IntKind.i64.wrap (if (1048576 : Int) < x34 then 1048576 else x34) := ⟨_, rfl⟩
   replace h := h x39 hwx39
   refine Seq.y (d := (some 39)) (op := (.convert 22 3 (.tmp 38))) (ty := 3) (v := (.int .i64 x39)) (by kernel_rfl) rfl (hwx39 ▸ Y.conv (by kernel_rfl) underlying3 rfl) ?_
   refine Seq.u 40 (.int .u64 x36) ?_
   refine Seq.z 41 (.call { callee := .builtin .min, args := #[(.tmp 40), (.const (.int .u64 1048576))], argTypes := #[22, 22] }) 22 (.int .u64 (if (1048576 : Int) < x36 then 1048576 else x36)) (Y.min2 rfl rfl) ?_
   obtain ⟨x42, hwx42⟩ : ∃ y, y = IntKind.i64.wrap (if (1048576 : Int) < x36 then 1048576 else x36) := ⟨_, rfl⟩
   replace h := h x42 hwx42
   refine Seq.y (d := (some 42)) (op := (.convert 22 3 (.tmp 41))) (ty := 3) (v := (.int .i64 x42)) (by kernel_rfl) rfl (hwx42 ▸ Y.conv (by kernel_rfl) underlying3 rfl) ?_
   refine Seq.z 43 (.build 55 #[(0, (.tmp 39)), (1, (.tmp 42))]) 55 (.agg #[(.int .i64 x39), (.int .i64 x42), (.slice none 0 0)]) (Y.build (vs := [(0, (.int .i64 x39)), (1, (.int .i64 x42))]) rfl (by kernel_rfl)) ?_
   refine Seq.o ?_
   refine OpTo.alloc (T := 55) (d := (some 9)) (ty := 0)  (gd := none) (cs := #[(.int .i64 0), (.int .i64 0), (.slice none 0 0)]) (by kernel_rfl) rfl rfl zeroValue55 rfl (fun b9 => ?_)
   refine Seq.o ?_
   refine OpTo.storeb (T := 55) (ty := 0) (x := (.tmp 9)) (y := (.tmp 43)) (t := 55) (j := 0) (b := b9) (o := 0) (c' := #[(.int .i64 x39), (.int .i64 x42), (.slice none 0 0)]) (v := (.agg #[(.int .i64 x39), (.int .i64 x42), (.slice none 0 0)])) (gd := none) (by kernel_rfl) rfl sizeOf55 rfl rfl rfl rfl rfl rfl rfl ?_
   simp only [List.set]
   refine Seq.done ?_
   refine At.L [(0, (.slice p0 n0 c0)), (2, (.pointer (some ⟨b2, 0, none⟩))), (4, (.pointer (some ⟨b26, o26, none⟩))), (5, (.pointer (some ⟨b5, 0, none⟩))), (6, (.int .u64 x6)), (9, (.pointer (some ⟨b9, 0, none⟩)))] fun J => ?_
   refine At.s K24 K42 ?_
   refine At.s K25 K26 ?_
   refine At.rg 8 [0, 1, 2] ?_
   refine Seq.u 44 (.pointer (some ⟨b26, o26, none⟩)) ?_
   refine Seq.o ?_
   refine OpTo.cl (some 45) call38 (h.cont fun v_3 σ1_3 h2 => ?_); replace h := h2; clear h2
   obtain ⟨x45, rfl, h⟩ := h
   refine Seq.u 10 (.int .u64 x45) ?_
   refine Seq.done ?_
   refine At.L [(0, (.slice p0 n0 c0)), (2, (.pointer (some ⟨b2, 0, none⟩))), (4, (.pointer (some ⟨b26, o26, none⟩))), (5, (.pointer (some ⟨b5, 0, none⟩))), (6, (.int .u64 x6)), (9, (.pointer (some ⟨b9, 0, none⟩))), (10, (.int .u64 x45))] fun J => ?_
   refine At.b 2 K27 ?_
   refine At.loop (x := K28) (by kernel_rfl) ?_
   refine At.s K29 K34 ?_
   refine At.s K30 K31 ?_
   exact At.v [(0, (.slice p0 n0 c0)), (2, (.pointer (some ⟨b2, 0, none⟩))), (4, (.pointer (some ⟨b26, o26, none⟩))), (5, (.pointer (some ⟨b5, 0, none⟩))), (6, (.int .u64 x6)), (9, (.pointer (some ⟨b9, 0, none⟩))), (10, (.int .u64 x45))] (h _ b2 b5 b9)
  | false =>
   replace h := h.2 (Tw.nf hb)
   refine At.cF 30 K15 K16 ?_
   refine At.x 0 [.code K44] ?_
   refine At.s K45 K46 ?_
   refine At.rg 15 [0, 1, 2, 3, 4, 5, 6] ?_
   refine Seq.z 84 (.load 25 (.tmp 5)) 25 (.agg #[(.int .u64 x5a), (.slice p5b n5b c5b)]) (Y.ldab (vs := [(.int .u64 x5a), (.slice p5b n5b c5b)]) isAgg25 sizeOf25 rfl rfl (List.mem_cons_self ..) rfl) ?_
   refine Seq.o ?_
   refine OpTo.cl (some 85) call15 (h.cont fun v σ1 h2 => ?_); replace h := h2; clear h2
   obtain ⟨p85a, n85a, c85a, x85b, rfl, h⟩ := h
   refine Seq.u 83 (.tuple #[(.slice p85a n85a c85a), (.int .i64 x85b)]) ?_
   refine Seq.u 86 (.slice p85a n85a c85a) ?_
   refine Seq.u 87 (.int .i64 x85b) ?_
   refine Seq.u 12 (.slice p85a n85a c85a) ?_
   refine Seq.u 13 (.int .i64 x85b) ?_
   refine Seq.done ?_
   refine At.L [(0, (.slice p0 n0 c0)), (2, (.pointer (some ⟨b2, 0, none⟩))), (4, (.pointer (some ⟨b26, o26, none⟩))), (5, (.pointer (some ⟨b5, 0, none⟩))), (12, (.slice p85a n85a c85a)), (13, (.int .i64 x85b))] fun J => ?_
   refine At.s K47 K54 ?_
   refine At.s K48 K49 ?_
   refine At.rg 16 [0, 1, 2, 3, 4, 5, 6, 7, 8, 9, 10, 11, 12, 13, 14] ?_
   refine Seq.u 88 (.pointer (some ⟨b26, o26, none⟩)) ?_
   refine Seq.z 89 (.nilCheck (.tmp 88)) 0 (.pointer (some ⟨b26, o26, none⟩)) (Y.nilCheck rfl) ?_
   refine Seq.z 90 (.fieldAddr 65 (.tmp 89) 2) 0 (.pointer (some ⟨b26, (o26 + 2), none⟩)) (Y.fieldAddr (fd := (fieldOf prog 65 2)) underlying65 (by kernel_rfl) sizeOf4 rfl rfl) ?_
   obtain ⟨t91, hl, h⟩ := h
   refine Seq.z 91 (.load 4 (.tmp 90)) 4 (.bool t91) (Y.ld isAgg4 rfl hl) ?_
   refine Seq.u 92 (.bool t91) ?_
   cases hb : t91 with
   | true =>
    replace h := h.1 hb
    refine Seq.n 93 ?_
    refine Seq.n 94 ?_
    refine Seq.u 95 (.bool true) ?_
    refine Seq.u 96 (.bool true) ?_
    refine Seq.n 97 ?_
    refine Seq.n 98 ?_
    refine Seq.n 99 ?_
    refine Seq.n 100 ?_
    refine Seq.n 101 ?_
    refine Seq.u 102 (.bool true) ?_
    refine Seq.done ?_
    refine At.L [(2, (.pointer (some ⟨b2, 0, none⟩))), (5, (.pointer (some ⟨b5, 0, none⟩))), (102, (.bool true))] fun J => ?_
    refine At.cT 102 K50 K53 ?_
    refine At.s K51 K52 ?_
    refine At.rg 17 [0, 1, 2] ?_
    refine Seq.z 103 (.build 25 #[]) 25 (.agg #[(.int .u64 0), (.slice none 0 0)]) (Y.build (vs := []) rfl (by kernel_rfl)) ?_
    refine Seq.o ?_
    refine OpTo.storeb (T := 25) (ty := 0) (x := (.tmp 2)) (y := (.tmp 103)) (t := 25) (j := 1) (b := b2) (o := 0) (c' := #[(.int .u64 0), (.slice none 0 0)]) (v := (.agg #[(.int .u64 0), (.slice none 0 0)])) (gd := none) (by kernel_rfl) rfl sizeOf25 rfl rfl rfl rfl rfl rfl rfl ?_
    simp only [List.set]
    refine Seq.u 3 (.int .i64 130) ?_
    refine Seq.done ?_
    refine At.L [(2, (.pointer (some ⟨b2, 0, none⟩))), (3, (.int .i64 130))] fun J => ?_
    exact At.rt [.cell 2 25, .tmp 3] [(.agg #[(.int .u64 0), (.slice none 0 0)]), (.int .i64 130)] func16 ⟨_, _, rfl, ⟨_, rfl, ldab_run isAgg25 sizeOf25 rfl (.tail _ (List.mem_cons_self ..))⟩, ⟨_, rfl, rfl⟩⟩ h
   | false =>
    replace h := h.2 hb
    refine Seq.u 93 (.int .i64 x85b) ?_
    refine Seq.u 94 (.bool (decide ((x85b : Int) ≠ 0))) ?_
    refine Seq.u 95 (.bool (decide ((x85b : Int) ≠ 0))) ?_
    refine Seq.u 96 (.bool (decide ((x85b : Int) ≠ 0))) ?_
    cases hb : (decide ((x85b : Int) ≠ 0)) with
    | true =>
     replace h := h.1 (of_decide_eq_true hb)
     refine Seq.n 97 ?_
     refine Seq.n 98 ?_
     refine Seq.n 99 ?_
     refine Seq.n 100 ?_
     refine Seq.n 101 ?_
     refine Seq.u 102 (.bool true) ?_
     refine Seq.done ?_
     refine At.L [(2, (.pointer (some ⟨b2, 0, none⟩))), (5, (.pointer (some ⟨b5, 0, none⟩))), (102, (.bool true))] fun J => ?_
     refine At.cT 102 K50 K53 ?_
     refine At.s K51 K52 ?_
     refine At.rg 17 [0, 1, 2] ?_
     refine Seq.z 103 (.build 25 #[]) 25 (.agg #[(.int .u64 0), (.slice none 0 0)]) (Y.build (vs := []) rfl (by kernel_rfl)) ?_
     refine Seq.o ?_
     refine OpTo.storeb (T := 25) (ty := 0) (x := (.tmp 2)) (y := (.tmp 103)) (t := 25) (j := 1) (b := b2) (o := 0) (c' := #[(.int .u64 0), (.slice none 0 0)]) (v := (.agg #[(.int .u64 0), (.slice none 0 0)])) (gd := none) (by kernel_rfl) rfl sizeOf25 rfl rfl rfl rfl rfl rfl rfl ?_
     simp only [List.set]
     refine Seq.u 3 (.int .i64 130) ?_
     refine Seq.done ?_
     refine At.L [(2, (.pointer (some ⟨b2, 0, none⟩))), (3, (.int .i64 130))] fun J => ?_
     exact At.rt [.cell 2 25, .tmp 3] [(.agg #[(.int .u64 0), (.slice none 0 0)]), (.int .i64 130)] func16 ⟨_, _, rfl, ⟨_, rfl, ldab_run isAgg25 sizeOf25 rfl (.tail _ (List.mem_cons_self ..))⟩, ⟨_, rfl, rfl⟩⟩ h
    | false =>
     replace h := h.2 (of_decide_eq_false hb)
     refine Seq.u 97 (.slice p85a n85a c85a) ?_
     refine Seq.o ?_
     refine OpTo.eff (d := (some 98)) (op := (.convert 37 9 (.tmp 97))) (ty := 9) (gd := (some (8, false))) (by kernel_rfl) rfl rfl (convert 37 9 (.slice p85a n85a c85a)) (fun o ho ht => by simp only [execOp, ho]; rfl) (h.mono (fun v_2 σ1_2 h2 => ?_)); replace h := h2; clear h2
     obtain ⟨s98, rfl, h⟩ := h
     refine Seq.u 99 (.slice p0 n0 c0) ?_
     refine Seq.o ?_
     refine OpTo.eff (d := (some 100)) (op := (.convert 37 9 (.tmp 99))) (ty := 9) (gd := (some (8, false))) (by kernel_rfl) rfl rfl (convert 37 9 (.slice p0 n0 c0)) (fun o ho ht => by simp only [execOp, ho]; rfl) (h.mono (fun v_3 σ1_3 h2 => ?_)); replace h := h2; clear h2
     obtain ⟨s100, rfl, h⟩ := h
     refine Seq.zg 101 (.binOp .neq 9 (.tmp 98) (.tmp 100) 9) 4 (8, false) (.bool (!(ByteArray.toList s98 == ByteArray.toList s100))) (Y.neqS underlying9 rfl rfl) ?_
     refine Seq.u 102 (.bool (!(ByteArray.toList s98 == ByteArray.toList s100))) ?_
     refine Seq.done ?_
     refine At.L [(2, (.pointer (some ⟨b2, 0, none⟩))), (5, (.pointer (some ⟨b5, 0, none⟩))), (102, (.bool (!(ByteArray.toList s98 == ByteArray.toList s100))))] fun J => ?_
     cases hb : (!(ByteArray.toList s98 == ByteArray.toList s100)) with
     | true =>
      replace h := h.1 (Tw.nt hb)
      refine At.cT 102 K50 K53 ?_
      refine At.s K51 K52 ?_
      refine At.rg 17 [0, 1, 2] ?_
      refine Seq.z 103 (.build 25 #[]) 25 (.agg #[(.int .u64 0), (.slice none 0 0)]) (Y.build (vs := []) rfl (by kernel_rfl)) ?_
      refine Seq.o ?_
      refine OpTo.storeb (T := 25) (ty := 0) (x := (.tmp 2)) (y := (.tmp 103)) (t := 25) (j := 1) (b := b2) (o := 0) (c' := #[(.int .u64 0), (.slice none 0 0)]) (v := (.agg #[(.int .u64 0), (.slice none 0 0)])) (gd := none) (by kernel_rfl) rfl sizeOf25 rfl rfl rfl rfl rfl rfl rfl ?_
      simp only [List.set]
      refine Seq.u 3 (.int .i64 130) ?_
      refine Seq.done ?_
      refine At.L [(2, (.pointer (some ⟨b2, 0, none⟩))), (3, (.int .i64 130))] fun J => ?_
      exact At.rt [.cell 2 25, .tmp 3] [(.agg #[(.int .u64 0), (.slice none 0 0)]), (.int .i64 130)] func16 ⟨_, _, rfl, ⟨_, rfl, ldab_run isAgg25 sizeOf25 rfl (.tail _ (List.mem_cons_self ..))⟩, ⟨_, rfl, rfl⟩⟩ h
     | false =>
      replace h := h.2 (Tw.nf hb)
      refine At.cF 102 K50 K53 ?_
      refine At.skip ?_
      refine At.s K55 K56 ?_
      refine At.rg 18 [0, 1, 2] ?_
      refine Seq.z 104 (.load 25 (.tmp 5)) 25 (.agg #[(.int .u64 x5a), (.slice p5b n5b c5b)]) (Y.ldab (vs := [(.int .u64 x5a), (.slice p5b n5b c5b)]) isAgg25 sizeOf25 rfl rfl (List.mem_cons_self ..) rfl) ?_
      refine Seq.o ?_
      refine OpTo.storeb (T := 25) (ty := 0) (x := (.tmp 2)) (y := (.tmp 104)) (t := 25) (j := 1) (b := b2) (o := 0) (c' := #[(.int .u64 x5a), (.slice p5b n5b c5b)]) (v := (.agg #[(.int .u64 x5a), (.slice p5b n5b c5b)])) (gd := none) (by kernel_rfl) rfl sizeOf25 rfl rfl rfl rfl rfl rfl rfl ?_
      simp only [List.set]
      refine Seq.u 3 (.int .i64 0) ?_
      refine Seq.done ?_
      refine At.L [(2, (.pointer (some ⟨b2, 0, none⟩))), (3, (.int .i64 0))] fun J => ?_
      exact At.rt [.cell 2 25, .tmp 3] [(.agg #[(.int .u64 x5a), (.slice p5b n5b c5b)]), (.int .i64 0)] func16 ⟨_, _, rfl, ⟨_, rfl, ldab_run isAgg25 sizeOf25 rfl (.tail _ (List.mem_cons_self ..))⟩, ⟨_, rfl, rfl⟩⟩ h
 | false =>
  replace h := h.2 (of_decide_eq_false hb)
  refine Seq.n 25 ?_
  refine Seq.n 26 ?_
  refine Seq.n 27 ?_
  refine Seq.n 28 ?_
  refine Seq.n 29 ?_
  refine Seq.u 30 (.bool false) ?_
  refine Seq.done ?_
  refine At.L [(0, (.slice p0 n0 c0)), (2, (.pointer (some ⟨b2, 0, none⟩))), (4, (.pointer q4)), (5, (.pointer (some ⟨b5, 0, none⟩))), (6, (.int .u64 x6)), (30, (.bool false))] fun J => ?_
  refine At.cF 30 K15 K16 ?_
  refine At.x 0 [.code K44] ?_
  refine At.s K45 K46 ?_
  refine At.rg 15 [0, 1, 2, 3, 4, 5, 6] ?_
  refine Seq.z 84 (.load 25 (.tmp 5)) 25 (.agg #[(.int .u64 x5a), (.slice p5b n5b c5b)]) (Y.ldab (vs := [(.int .u64 x5a), (.slice p5b n5b c5b)]) isAgg25 sizeOf25 rfl rfl (List.mem_cons_self ..) rfl) ?_
  refine Seq.o ?_
  refine OpTo.cl (some 85) call15 (h.cont fun v σ1 h2 => ?_); replace h := h2; clear h2
  obtain ⟨p85a, n85a, c85a, x85b, rfl, h⟩ := h
  refine Seq.u 83 (.tuple #[(.slice p85a n85a c85a), (.int .i64 x85b)]) ?_
  refine Seq.u 86 (.slice p85a n85a c85a) ?_
  refine Seq.u 87 (.int .i64 x85b) ?_
  refine Seq.u 12 (.slice p85a n85a c85a) ?_
  refine Seq.u 13 (.int .i64 x85b) ?_
  refine Seq.done ?_
  refine At.L [(0, (.slice p0 n0 c0)), (2, (.pointer (some ⟨b2, 0, none⟩))), (4, (.pointer q4)), (5, (.pointer (some ⟨b5, 0, none⟩))), (12, (.slice p85a n85a c85a)), (13, (.int .i64 x85b))] fun J => ?_
  refine At.s K47 K54 ?_
  refine At.s K48 K49 ?_
  refine At.rg 16 [0, 1, 2, 3, 4, 5, 6, 7, 8, 9, 10, 11, 12, 13, 14] ?_
  refine Seq.u 88 (.pointer q4) ?_
  obtain ⟨b89, o89, hq, h⟩ := h
  subst hq
  refine Seq.z 89 (.nilCheck (.tmp 88)) 0 (.pointer (some ⟨b89, o89, none⟩)) (Y.nilCheck rfl) ?_
  refine Seq.z 90 (.fieldAddr 65 (.tmp 89) 2) 0 (.pointer (some ⟨b89, (o89 + 2), none⟩)) (Y.fieldAddr (fd := (fieldOf prog 65 2)) underlying65 (by kernel_rfl) sizeOf4 rfl rfl) ?_
  obtain ⟨t91, hl, h⟩ := h
  refine Seq.z 91 (.load 4 (.tmp 90)) 4 (.bool t91) (Y.ld isAgg4 rfl hl) ?_
  refine Seq.u 92 (.bool t91) ?_
  cases hb : t91 with
  | true =>
   replace h := h.1 hb
   refine Seq.n 93 ?_
   refine Seq.n 94 ?_
   refine Seq.u 95 (.bool true) ?_
   refine Seq.u 96 (.bool true) ?_
   refine Seq.n 97 ?_
   refine Seq.n 98 ?_
   refine Seq.n 99 ?_
   refine Seq.n 100 ?_
   refine Seq.n 101 ?_
   refine Seq.u 102 (.bool true) ?_
   refine Seq.done ?_
   refine At.L [(2, (.pointer (some ⟨b2, 0, none⟩))), (5, (.pointer (some ⟨b5, 0, none⟩))), (102, (.bool true))] fun J => ?_
   refine At.cT 102 K50 K53 ?_
   refine At.s K51 K52 ?_
   refine At.rg 17 [0, 1, 2] ?_
   refine Seq.z 103 (.build 25 #[]) 25 (.agg #[(.int .u64 0), (.slice none 0 0)]) (Y.build (vs := []) rfl (by kernel_rfl)) ?_
   refine Seq.o ?_
   refine OpTo.storeb (T := 25) (ty := 0) (x := (.tmp 2)) (y := (.tmp 103)) (t := 25) (j := 1) (b := b2) (o := 0) (c' := #[(.int .u64 0), (.slice none 0 0)]) (v := (.agg #[(.int .u64 0), (.slice none 0 0)])) (gd := none) (by kernel_rfl) rfl sizeOf25 rfl rfl rfl rfl rfl rfl rfl ?_
   simp only [List.set]
   refine Seq.u 3 (.int .i64 130) ?_
   refine Seq.done ?_
   refine At.L [(2, (.pointer (some ⟨b2, 0, none⟩))), (3, (.int .i64 130))] fun J => ?_
   exact At.rt [.cell 2 25, .tmp 3] [(.agg #[(.int .u64 0), (.slice none 0 0)]), (.int .i64 130)] func16 ⟨_, _, rfl, ⟨_, rfl, ldab_run isAgg25 sizeOf25 rfl (.tail _ (List.mem_cons_self ..))⟩, ⟨_, rfl, rfl⟩⟩ h
  | false =>
   replace h := h.2 hb
   refine Seq.u 93 (.int .i64 x85b) ?_
   refine Seq.u 94 (.bool (decide ((x85b : Int) ≠ 0))) ?_
   refine Seq.u 95 (.bool (decide ((x85b : Int) ≠ 0))) ?_
   refine Seq.u 96 (.bool (decide ((x85b : Int) ≠ 0))) ?_
   cases hb : (decide ((x85b : Int) ≠ 0)) with
   | true =>
    replace h := h.1 (of_decide_eq_true hb)
    refine Seq.n 97 ?_
    refine Seq.n 98 ?_
    refine Seq.n 99 ?_
    refine Seq.n 100 ?_
    refine Seq.n 101 ?_
    refine Seq.u 102 (.bool true) ?_
    refine Seq.done ?_
    refine At.L [(2, (.pointer (some ⟨b2, 0, none⟩))), (5, (.pointer (some ⟨b5, 0, none⟩))), (102, (.bool true))] fun J => ?_
    refine At.cT 102 K50 K53 ?_
    refine At.s K51 K52 ?_
    refine At.rg 17 [0, 1, 2] ?_
    refine Seq.z 103 (.build 25 #[]) 25 (.agg #[(.int .u64 0), (.slice none 0 0)]) (Y.build (vs := []) rfl (by kernel_rfl)) ?_
    refine Seq.o ?_
    refine OpTo.storeb (T := 25) (ty := 0) (x := (.tmp 2)) (y := (.tmp 103)) (t := 25) (j := 1) (b := b2) (o := 0) (c' := #[(.int .u64 0), (.slice none 0 0)]) (v := (.agg #[(.int .u64 0), (.slice none 0 0)])) (gd := none) (by kernel_rfl) rfl sizeOf25 rfl rfl rfl rfl rfl rfl rfl ?_
    simp only [List.set]
    refine Seq.u 3 (.int .i64 130) ?_
    refine Seq.done ?_
    refine At.L [(2, (.pointer (some ⟨b2, 0, none⟩))), (3, (.int .i64 130))] fun J => ?_
    exact At.rt [.cell 2 25, .tmp 3] [(.agg #[(.int .u64 0), (.slice none 0 0)]), (.int .i64 130)] func16 ⟨_, _, rfl, ⟨_, rfl, ldab_run isAgg25 sizeOf25 rfl (.tail _ (List.mem_cons_self ..))⟩, ⟨_, rfl, rfl⟩⟩ h
   | false =>
    replace h := h.2 (of_decide_eq_false hb)
    refine Seq.u 97 (.slice p85a n85a c85a) ?_
    refine Seq.o ?_
    refine OpTo.eff (d := (some 98)) (op := (.convert 37 9 (.tmp 97))) (ty := 9) (gd := (some (8, false))) (by kernel_rfl) rfl rfl (convert 37 9 (.slice p85a n85a c85a)) (fun o ho ht => by simp only [execOp, ho]; rfl) (h.mono (fun v_2 σ1_2 h2 => ?_)); replace h := h2; clear h2
    obtain ⟨s98, rfl, h⟩ := h
    refine Seq.u 99 (.slice p0 n0 c0) ?_
    refine Seq.o ?_
    refine OpTo.eff (d := (some 100)) (op := (.convert 37 9 (.tmp 99))) (ty := 9) (gd := (some (8, false))) (by kernel_rfl) rfl rfl (convert 37 9 (.slice p0 n0 c0)) (fun o ho ht => by simp only [execOp, ho]; rfl) (h.mono (fun v_3 σ1_3 h2 => ?_)); replace h := h2; clear h2
    obtain ⟨s100, rfl, h⟩ := h
    refine Seq.zg 101 (.binOp .neq 9 (.tmp 98) (.tmp 100) 9) 4 (8, false) (.bool (!(ByteArray.toList s98 == ByteArray.toList s100))) (Y.neqS underlying9 rfl rfl) ?_
    refine Seq.u 102 (.bool (!(ByteArray.toList s98 == ByteArray.toList s100))) ?_
    refine Seq.done ?_
    refine At.L [(2, (.pointer (some ⟨b2, 0, none⟩))), (5, (.pointer (some ⟨b5, 0, none⟩))), (102, (.bool (!(ByteArray.toList s98 == ByteArray.toList s100))))] fun J => ?_
    cases hb : (!(ByteArray.toList s98 == ByteArray.toList s100)) with
    | true =>
     replace h := h.1 (Tw.nt hb)
     refine At.cT 102 K50 K53 ?_
     refine At.s K51 K52 ?_
     refine At.rg 17 [0, 1, 2] ?_
     refine Seq.z 103 (.build 25 #[]) 25 (.agg #[(.int .u64 0), (.slice none 0 0)]) (Y.build (vs := []) rfl (by kernel_rfl)) ?_
     refine Seq.o ?_
     refine OpTo.storeb (T := 25) (ty := 0) (x := (.tmp 2)) (y := (.tmp 103)) (t := 25) (j := 1) (b := b2) (o := 0) (c' := #[(.int .u64 0), (.slice none 0 0)]) (v := (.agg #[(.int .u64 0), (.slice none 0 0)])) (gd := none) (by kernel_rfl) rfl sizeOf25 rfl rfl rfl rfl rfl rfl rfl ?_
     simp only [List.set]
     refine Seq.u 3 (.int .i64 130) ?_
     refine Seq.done ?_
     refine At.L [(2, (.pointer (some ⟨b2, 0, none⟩))), (3, (.int .i64 130))] fun J => ?_
     exact At.rt [.cell 2 25, .tmp 3] [(.agg #[(.int .u64 0), (.slice none 0 0)]), (.int .i64 130)] func16 ⟨_, _, rfl, ⟨_, rfl, ldab_run isAgg25 sizeOf25 rfl (.tail _ (List.mem_cons_self ..))⟩, ⟨_, rfl, rfl⟩⟩ h
    | false =>
     replace h := h.2 (Tw.nf hb)
     refine At.cF 102 K50 K53 ?_
     refine At.skip ?_
     refine At.s K55 K56 ?_
     refine At.rg 18 [0, 1, 2] ?_
     refine Seq.z 104 (.load 25 (.tmp 5)) 25 (.agg #[(.int .u64 x5a), (.slice p5b n5b c5b)]) (Y.ldab (vs := [(.int .u64 x5a), (.slice p5b n5b c5b)]) isAgg25 sizeOf25 rfl rfl (List.mem_cons_self ..) rfl) ?_
     refine Seq.o ?_
     refine OpTo.storeb (T := 25) (ty := 0) (x := (.tmp 2)) (y := (.tmp 104)) (t := 25) (j := 1) (b := b2) (o := 0) (c' := #[(.int .u64 x5a), (.slice p5b n5b c5b)]) (v := (.agg #[(.int .u64 x5a), (.slice p5b n5b c5b)])) (gd := none) (by kernel_rfl) rfl sizeOf25 rfl rfl rfl rfl rfl rfl rfl ?_
     simp only [List.set]
     refine Seq.u 3 (.int .i64 0) ?_
     refine Seq.done ?_
     refine At.L [(2, (.pointer (some ⟨b2, 0, none⟩))), (3, (.int .i64 0))] fun J => ?_
     exact At.rt [.cell 2 25, .tmp 3] [(.agg #[(.int .u64 x5a), (.slice p5b n5b c5b)]), (.int .i64 0)] func16 ⟨_, _, rfl, ⟨_, rfl, ldab_run isAgg25 sizeOf25 rfl (.tail _ (List.mem_cons_self ..))⟩, ⟨_, rfl, rfl⟩⟩ h
theorem pt30_of {R : Ending → Hp → Prop} {p0 : Option Addr} {n0 : Nat} {c0 : Nat} {x2a : Int} {p2b : Option Addr} {n2b : Nat} {c2b : Nat} {q4 : Option Addr} {x5a : Int} {p5b : Option Addr} {n5b : Nat} {c5b : Nat} {x6 : Int} {x9a : Int} {x9b : Int} {p9c : Option Addr} {n9c : Nat} {c9c : Nat} {x10 : Int} {σ : Hp} (h : ((0 : Int) < x10 → ∃ (b50 o50 : Nat), q4 = some ⟨b50, o50, none⟩ ∧ ∃ t52 : Bool, Hp.ld σ ⟨b50, (o50 + 2), none⟩ = some (.bool t52) ∧ (t52 = false → Spec prog 38 #[(.pointer (some ⟨b50, o50, none⟩))] σ (Cont R (fun v σ1 => ∃ x58 : Int, v = (.int .u64 x58) ∧ ∃ t63 : Bool, Hp.ld σ1 ⟨b50, (o50 + 2), none⟩ = some (.bool t63) ∧ (t63 = true → Eff prog (Instr.storeAt 4 (.pointer (some ⟨b50, (o50 + 2), none⟩)) (.bool true)) σ1 (fun _ σ1_2 => ∀ x73 : Int, x73 = IntKind.u32.wrap x58 → ∀ b74 : Nat, σ1_2 b74 = none → Eff prog (Builtin.append_ #[53, 53] 53 #[(.slice p9c n9c c9c), (.slice (some ⟨b74, 0, none⟩) 1 1)]) (Hp.set σ1_2 b74 (.cells #[(.int .u32 x73)] 26 (0, 0))) (fun v_2 σ1_3 => ∃ p75 : Option Addr, ∃ n75 : Nat, ∃ c75 : Nat, v_2 = (.slice p75 n75 c75) ∧ ∀ x56 : Int, x56 = IntKind.u64.wrap (x10 - 1) → pt30 R p0 n0 c0 x2a p2b n2b c2b ((some ⟨b50, o50, none⟩)) x5a p5b n5b c5b x6 x9a x9b p75 n75 c75 x56 σ1_3))) ∧ (t63 = false → Eff prog (Instr.storeAt 4 (.pointer (some ⟨b50, (o50 + 2), none⟩)) (.bool (decide ((4294967295 : Int) < x58)))) σ1 (fun _ σ1_2 => ∀ x73 : Int, x73 = IntKind.u32.wrap x58 → ∀ b74 : Nat, σ1_2 b74 = none → Eff prog (Builtin.append_ #[53, 53] 53 #[(.slice p9c n9c c9c), (.slice (some ⟨b74, 0, none⟩) 1 1)]) (Hp.set σ1_2 b74 (.cells #[(.int .u32 x73)] 26 (0, 0))) (fun v_2 σ1_3 => ∃ p75 : Option Addr, ∃ n75 : Nat, ∃ c75 : Nat, v_2 = (.slice p75 n75 c75) ∧ ∀ x56 : Int, x56 = IntKind.u64.wrap (x10 - 1) → pt30 R p0 n0 c0 x2a p2b n2b c2b ((some ⟨b50, o50, none⟩)) x5a p5b n5b c5b x6 x9a x9b p75 n75 c75 x56 σ1_3)))))) ∧ (t52 = true → ∀ b80 : Nat, σ b80 = none → Eff prog (Builtin.append_ #[23, 23] 23 #[(.slice p5b n5b c5b), (.slice (some ⟨b80, 0, none⟩) 1 1)]) (Hp.set σ b80 (.cells #[(.int .i64 x9a), (.int .i64 x9b), (.slice p9c n9c c9c)] 55 (0, 0))) (fun v σ1 => ∃ p81 : Option Addr, ∃ n81 : Nat, ∃ c81 : Nat, v = (.slice p81 n81 c81) ∧ ∀ x32 : Int, x32 = IntKind.u64.wrap (x6 - 1) → pt13 R p0 n0 c0 x2a p2b n2b c2b ((some ⟨b50, o50, none⟩)) x5a p81 n81 c81 x32 σ1))) ∧ (¬ ((0 : Int) < x10) → ∀ b80 : Nat, σ b80 = none → Eff prog (Builtin.append_ #[23, 23] 23 #[(.slice p5b n5b c5b), (.slice (some ⟨b80, 0, none⟩) 1 1)]) (Hp.set σ b80 (.cells #[(.int .i64 x9a), (.int .i64 x9b), (.slice p9c n9c c9c)] 55 (0, 0))) (fun v σ1 => ∃ p81 : Option Addr, ∃ n81 : Nat, ∃ c81 : Nat, v = (.slice p81 n81 c81) ∧ ∀ x32 : Int, x32 = IntKind.u64.wrap (x6 - 1) → pt13 R p0 n0 c0 x2a p2b n2b c2b q4 x5a p81 n81 c81 x32 σ1))) : pt30 R p0 n0 c0 x2a p2b n2b c2b q4 x5a p5b n5b c5b x6 x9a x9b p9c n9c c9c x10 σ := by
 intro J b2 b5 b9
 show At (gl R) _ _ _ _
 refine At.rg 9 [0, 1, 2, 3, 4, 5, 6, 7, 8] ?_
 refine Seq.u 46 (.int .u64 x10) ?_
 refine Seq.u 47 (.bool (decide ((0 : Int) < x10))) ?_
 refine Seq.u 48 (.bool (decide ((0 : Int) < x10))) ?_
 cases hb : (decide ((0 : Int) < x10)) with
 | true =>
  replace h := h.1 (of_decide_eq_true hb)
  refine Seq.u 49 (.pointer q4) ?_
  obtain ⟨b50, o50, hq, h⟩ := h
  subst hq
  refine Seq.zg 50 (.nilCheck (.tmp 49)) 0 (2, true) (.pointer (some ⟨b50, o50, none⟩)) (Y.nilCheck rfl) ?_
  refine Seq.zg 51 (.fieldAddr 65 (.tmp 50) 2) 0 (2, true) (.pointer (some ⟨b50, (o50 + 2), none⟩)) (Y.fieldAddr (fd := (fieldOf prog 65 2)) underlying65 (by kernel_rfl) sizeOf4 rfl rfl) ?_
  obtain ⟨t52, hl, h⟩ := h
  refine Seq.zg 52 (.load 4 (.tmp 51)) 4 (2, true) (.bool t52) (Y.ld isAgg4 rfl hl) ?_
  refine Seq.u 53 (.bool (!t52)) ?_
  refine Seq.u 54 (.bool (!t52)) ?_
  refine Seq.done ?_
  refine At.L [(0, (.slice p0 n0 c0)), (2, (.pointer (some ⟨b2, 0, none⟩))), (4, (.pointer (some ⟨b50, o50, none⟩))), (5, (.pointer (some ⟨b5, 0, none⟩))), (6, (.int .u64 x6)), (9, (.pointer (some ⟨b9, 0, none⟩))), (10, (.int .u64 x10)), (54, (.bool (!t52)))] fun J => ?_
  cases hb : (!t52) with
  | true =>
   replace h := h.1 (Tw.nt hb)
   refine At.cT 54 K32 K33 ?_
   refine At.skip ?_
   refine At.s K35 K41 ?_
   refine At.b 3 K36 ?_
   refine At.s K37 K38 ?_
   refine At.rg 11 [0, 1, 2] ?_
   refine Seq.u 57 (.pointer (some ⟨b50, o50, none⟩)) ?_
   refine Seq.o ?_
   refine OpTo.cl (some 58) call38 (h.cont fun v σ1 h2 => ?_); replace h := h2; clear h2
   obtain ⟨x58, rfl, h⟩ := h
   refine Seq.u 11 (.int .u64 x58) ?_
   refine Seq.done ?_
   refine At.L [(0, (.slice p0 n0 c0)), (2, (.pointer (some ⟨b2, 0, none⟩))), (4, (.pointer (some ⟨b50, o50, none⟩))), (5, (.pointer (some ⟨b5, 0, none⟩))), (6, (.int .u64 x6)), (9, (.pointer (some ⟨b9, 0, none⟩))), (10, (.int .u64 x10)), (11, (.int .u64 x58))] fun J => ?_
   refine At.s K39 K40 ?_
   refine At.rg 12 [0, 1, 2, 3, 4, 5, 6, 7, 8, 9, 10, 11] ?_
   refine Seq.u 59 (.pointer (some ⟨b50, o50, none⟩)) ?_
   refine Seq.u 60 (.pointer (some ⟨b50, o50, none⟩)) ?_
   refine Seq.z 61 (.nilCheck (.tmp 60)) 0 (.pointer (some ⟨b50, o50, none⟩)) (Y.nilCheck rfl) ?_
   refine Seq.z 62 (.fieldAddr 65 (.tmp 61) 2) 0 (.pointer (some ⟨b50, (o50 + 2), none⟩)) (Y.fieldAddr (fd := (fieldOf prog 65 2)) underlying65 (by kernel_rfl) sizeOf4 rfl rfl) ?_
   obtain ⟨t63, hl, h⟩ := h
   refine Seq.z 63 (.load 4 (.tmp 62)) 4 (.bool t63) (Y.ld isAgg4 rfl hl) ?_
   refine Seq.u 64 (.bool t63) ?_
   cases hb : t63 with
   | true =>
    replace h := h.1 hb
    refine Seq.n 65 ?_
    refine Seq.n 66 ?_
    refine Seq.u 67 (.bool true) ?_
    refine Seq.z 68 (.nilCheck (.tmp 59)) 0 (.pointer (some ⟨b50, o50, none⟩)) (Y.nilCheck rfl) ?_
    refine Seq.z 69 (.fieldAddr 65 (.tmp 68) 2) 0 (.pointer (some ⟨b50, (o50 + 2), none⟩)) (Y.fieldAddr (fd := (fieldOf prog 65 2)) underlying65 (by kernel_rfl) sizeOf4 rfl rfl) ?_
    refine Seq.o ?_
    refine OpTo.store (T := 4) (ty := 0) (x := (.tmp 69)) (y := (.tmp 67)) (p := (.pointer (some ⟨b50, (o50 + 2), none⟩))) (v := (.bool true)) (gd := none) (by kernel_rfl) rfl rfl rfl (h.mono (fun _ σ1_2 h2 => ?_)); replace h := h2; clear h2
    refine Seq.done ?_
    refine At.L [(0, (.slice p0 n0 c0)), (2, (.pointer (some ⟨b2, 0, none⟩))), (4, (.pointer (some ⟨b50, o50, none⟩))), (5, (.pointer (some ⟨b5, 0, none⟩))), (6, (.int .u64 x6)), (9, (.pointer (some ⟨b9, 0, none⟩))), (10, (.int .u64 x10)), (11, (.int .u64 x58))] fun J => ?_
    refine At.rg 13 [0, 1, 2, 3, 4, 5, 6, 7] ?_
    refine Seq.z 70 (.fieldAddr 55 (.tmp 9) 2) 0 (.pointer (some ⟨b9, 2, none⟩)) (Y.fieldAddr (fd := (fieldOf prog 55 2)) underlying55 (by kernel_rfl) sizeOf53 rfl rfl) ?_
    refine Seq.z 71 (.load 53 (.tmp 70)) 53 (.slice p9c n9c c9c) (Y.ldb isAgg53 rfl (List.mem_cons_self ..) rfl) ?_
    refine Seq.u 72 (.int .u64 x58) ?_
    obtain ⟨x73, hwx73⟩ : ∃ y, y = IntKind.u32.wrap x58 := ⟨_, rfl⟩
    replace h := h x73 hwx73
    refine Seq.y (d := (some 73)) (op := (.convert 22 26 (.tmp 72))) (ty := 26) (v := (.int .u32 x73)) (by kernel_rfl) rfl (hwx73 ▸ Y.conv (by kernel_rfl) underlying26 rfl) ?_
    refine Seq.o ?_
    refine OpTo.bslice (T := 53) (E := 26) (m := 1) (ps := #[(0, (.tmp 73))]) (d := (some 74)) (ty := 53) (gd := none) (vs := [(0, (.int .u32 x73))]) (cs := #[(.int .u32 x73)]) underlying53 (by kernel_rfl) rfl rfl rfl (by kernel_rfl) (fun b74 hn => ?_)
    replace h := h b74 hn
    refine Seq.o ?_
    refine OpTo.eff (d := (some 75)) (op := (.call { callee := .builtin .append, args := #[(.tmp 71), (.tmp 74)], argTypes := #[53, 53] })) (ty := 53) (gd := none) (by kernel_rfl) rfl rfl (Builtin.append_ #[53, 53] 53 #[(.slice p9c n9c c9c), (.slice (some ⟨b74, 0, none⟩) 1 1)]) (fun o ho ht => exec_b_append rfl rfl o ho ht) (h.mono (fun v_2 σ1_3 h2 => ?_)); replace h := h2; clear h2
    obtain ⟨p75, n75, c75, rfl, h⟩ := h
    refine Seq.z 76 (.fieldAddr 55 (.tmp 9) 2) 0 (.pointer (some ⟨b9, 2, none⟩)) (Y.fieldAddr (fd := (fieldOf prog 55 2)) underlying55 (by kernel_rfl) sizeOf53 rfl rfl) ?_
    refine Seq.o ?_
    refine OpTo.storeb (T := 53) (ty := 0) (x := (.tmp 76)) (y := (.tmp 75)) (t := 55) (j := 0) (b := b9) (o := 2) (c' := #[(.int .i64 x9a), (.int .i64 x9b), (.slice p75 n75 c75)]) (v := (.slice p75 n75 c75)) (gd := none) (by kernel_rfl) rfl sizeOf53 rfl rfl rfl rfl rfl rfl rfl ?_
    simp only [List.set]
    refine Seq.done ?_
    refine At.L [(0, (.slice p0 n0 c0)), (2, (.pointer (some ⟨b2, 0, none⟩))), (4, (.pointer (some ⟨b50, o50, none⟩))), (5, (.pointer (some ⟨b5, 0, none⟩))), (6, (.int .u64 x6)), (9, (.pointer (some ⟨b9, 0, none⟩))), (10, (.int .u64 x10))] fun J => ?_
    refine At.inBlock ?_
    refine At.rg 10 [0, 1, 2] ?_
    refine Seq.u 55 (.int .u64 x10) ?_
    obtain ⟨x56, hwx56⟩ : ∃ y, y = IntKind.u64.wrap (x10 - 1) := ⟨_, rfl⟩
    replace h := h x56 hwx56
    refine Seq.y (d := (some 56)) (op := (.binOp .sub 22 (.tmp 55) (.const (.int .u64 1)) 22)) (ty := 22) (v := (.int .u64 x56)) (by kernel_rfl) rfl (hwx56 ▸ Y.sub rfl rfl) ?_
    refine Seq.u 10 (.int .u64 x56) ?_
    refine Seq.done ?_
    refine At.L [(0, (.slice p0 n0 c0)), (2, (.pointer (some ⟨b2, 0, none⟩))), (4, (.pointer (some ⟨b50, o50, none⟩))), (5, (.pointer (some ⟨b5, 0, none⟩))), (6, (.int .u64 x6)), (9, (.pointer (some ⟨b9, 0, none⟩))), (10, (.int .u64 x56))] fun J => ?_
    refine At.inLoop ?_
    refine At.s K29 K34 ?_
    refine At.s K30 K31 ?_
    exact At.v [(0, (.slice p0 n0 c0)), (2, (.pointer (some ⟨b2, 0, none⟩))), (4, (.pointer (some ⟨b50, o50, none⟩))), (5, (.pointer (some ⟨b5, 0, none⟩))), (6, (.int .u64 x6)), (9, (.pointer (some ⟨b9, 0, none⟩))), (10, (.int .u64 x56))] (h _ b2 b5 b9)
   | false =>
    replace h := h.2 hb
    refine Seq.u 65 (.int .u64 x58) ?_
    refine Seq.u 66 (.bool (decide ((4294967295 : Int) < x58))) ?_
    refine Seq.u 67 (.bool (decide ((4294967295 : Int) < x58))) ?_
    refine Seq.z 68 (.nilCheck (.tmp 59)) 0 (.pointer (some ⟨b50, o50, none⟩)) (Y.nilCheck rfl) ?_
    refine Seq.z 69 (.fieldAddr 65 (.tmp 68) 2) 0 (.pointer (some ⟨b50, (o50 + 2), none⟩)) (Y.fieldAddr (fd := (fieldOf prog 65 2)) underlying65 (by kernel_rfl) sizeOf4 rfl rfl) ?_
    refine Seq.o ?_
    refine OpTo.store (T := 4) (ty := 0) (x := (.tmp 69)) (y := (.tmp 67)) (p := (.pointer (some ⟨b50, (o50 + 2), none⟩))) (v := (.bool (decide ((4294967295 : Int) < x58)))) (gd := none) (by kernel_rfl) rfl rfl rfl (h.mono (fun _ σ1_2 h2 => ?_)); replace h := h2; clear h2
    refine Seq.done ?_
    refine At.L [(0, (.slice p0 n0 c0)), (2, (.pointer (some ⟨b2, 0, none⟩))), (4, (.pointer (some ⟨b50, o50, none⟩))), (5, (.pointer (some ⟨b5, 0, none⟩))), (6, (.int .u64 x6)), (9, (.pointer (some ⟨b9, 0, none⟩))), (10, (.int .u64 x10)), (11, (.int .u64 x58))] fun J => ?_
    refine At.rg 13 [0, 1, 2, 3, 4, 5, 6, 7] ?_
    refine Seq.z 70 (.fieldAddr 55 (.tmp 9) 2) 0 (.pointer (some ⟨b9, 2, none⟩)) (Y.fieldAddr (fd := (fieldOf prog 55 2)) underlying55 (by kernel_rfl) sizeOf53 rfl rfl) ?_
    refine Seq.z 71 (.load 53 (.tmp 70)) 53 (.slice p9c n9c c9c) (Y.ldb isAgg53 rfl (List.mem_cons_self ..) rfl) ?_
    refine Seq.u 72 (.int .u64 x58) ?_
    obtain ⟨x73, hwx73⟩ : ∃ y, y = IntKind.u32.wrap x58 := ⟨_, rfl⟩
    replace h := h x73 hwx73
    refine Seq.y (d := (some 73)) (op := (.convert 22 26 (.tmp 72))) (ty := 26) (v := (.int .u32 x73)) (by kernel_rfl) rfl (hwx73 ▸ Y.conv (by kernel_rfl) underlying26 rfl) ?_
    refine Seq.o ?_
    refine OpTo.bslice (T := 53) (E := 26) (m := 1) (ps := #[(0, (.tmp 73))]) (d := (some 74)) (ty := 53) (gd := none) (vs := [(0, (.int .u32 x73))]) (cs := #[(.int .u32 x73)]) underlying53 (by kernel_rfl) rfl rfl rfl (by kernel_rfl) (fun b74 hn => ?_)
    replace h := h b74 hn
    refine Seq.o ?_
    refine OpTo.eff (d := (some 75)) (op := (.call { callee := .builtin .append, args := #[(.tmp 71), (.tmp 74)], argTypes := #[53, 53] })) (ty := 53) (gd := none) (by kernel_rfl) rfl rfl (Builtin.append_ #[53, 53] 53 #[(.slice p9c n9c c9c), (.slice (some ⟨b74, 0, none⟩) 1 1)]) (fun o ho ht => exec_b_append rfl rfl o ho ht) (h.mono (fun v_2 σ1_3 h2 => ?_)); replace h := h2; clear h2
    obtain ⟨p75, n75, c75, rfl, h⟩ := h
    refine Seq.z 76 (.fieldAddr 55 (.tmp 9) 2) 0 (.pointer (some ⟨b9, 2, none⟩)) (Y.fieldAddr (fd := (fieldOf prog 55 2)) underlying55 (by kernel_rfl) sizeOf53 rfl rfl) ?_
    refine Seq.o ?_
    refine OpTo.storeb (T := 53) (ty := 0) (x := (.tmp 76)) (y := (.tmp 75)) (t := 55) (j := 0) (b := b9) (o := 2) (c' := #[(.int .i64 x9a), (.int .i64 x9b), (.slice p75 n75 c75)]) (v := (.slice p75 n75 c75)) (gd := none) (by kernel_rfl) rfl sizeOf53 rfl rfl rfl rfl rfl rfl rfl ?_
    simp only [List.set]
    refine Seq.done ?_
    refine At.L [(0, (.slice p0 n0 c0)), (2, (.pointer (some ⟨b2, 0, none⟩))), (4, (.pointer (some ⟨b50, o50, none⟩))), (5, (.pointer (some ⟨b5, 0, none⟩))), (6, (.int .u64 x6)), (9, (.pointer (some ⟨b9, 0, none⟩))), (10, (.int .u64 x10))] fun J => ?_
    refine At.inBlock ?_
    refine At.rg 10 [0, 1, 2] ?_
    refine Seq.u 55 (.int .u64 x10) ?_
    obtain ⟨x56, hwx56⟩ : ∃ y, y = IntKind.u64.wrap (x10 - 1) := ⟨_, rfl⟩
    replace h := h x56 hwx56
    refine Seq.y (d := (some 56)) (op := (.binOp .sub 22 (.tmp 55) (.const (.int .u64 1)) 22)) (ty := 22) (v := (.int .u64 x56)) (by kernel_rfl) rfl (hwx56 ▸ Y.sub rfl rfl) ?_
    refine Seq.u 10 (.int .u64 x56) ?_
    refine Seq.done ?_
    refine At.L [(0, (.slice p0 n0 c0)), (2, (.pointer (some ⟨b2, 0, none⟩))), (4, (.pointer (some ⟨b50, o50, none⟩))), (5, (.pointer (some ⟨b5, 0, none⟩))), (6, (.int .u64 x6)), (9, (.pointer (some ⟨b9, 0, none⟩))), (10, (.int .u64 x56))] fun J => ?_
    refine At.inLoop ?_
    refine At.s K29 K34 ?_
    refine At.s K30 K31 ?_
    exact At.v [(0, (.slice p0 n0 c0)), (2, (.pointer (some ⟨b2, 0, none⟩))), (4, (.pointer (some ⟨b50, o50, none⟩))), (5, (.pointer (some ⟨b5, 0, none⟩))), (6, (.int .u64 x6)), (9, (.pointer (some ⟨b9, 0, none⟩))), (10, (.int .u64 x56))] (h _ b2 b5 b9)
  | false =>
   replace h := h.2 (Tw.nf hb)
   refine At.cF 54 K32 K33 ?_
   refine At.x 2 [.code K42, .inBlock 1, .code K43, .inLoop K11, .inBlock 0, .code K44] ?_
   refine At.rg 14 [0, 1, 2, 3, 4, 5, 6] ?_
   refine Seq.z 77 (.fieldAddr 25 (.tmp 5) 1) 0 (.pointer (some ⟨b5, 1, none⟩)) (Y.fieldAddr (fd := (fieldOf prog 25 1)) underlying25 (by kernel_rfl) sizeOf23 rfl rfl) ?_
   refine Seq.z 78 (.load 23 (.tmp 77)) 23 (.slice p5b n5b c5b) (Y.ldb isAgg23 rfl (.tail _ (List.mem_cons_self ..)) rfl) ?_
   refine Seq.z 79 (.load 55 (.tmp 9)) 55 (.agg #[(.int .i64 x9a), (.int .i64 x9b), (.slice p9c n9c c9c)]) (Y.ldab (vs := [(.int .i64 x9a), (.int .i64 x9b), (.slice p9c n9c c9c)]) isAgg55 sizeOf55 rfl rfl (List.mem_cons_self ..) rfl) ?_
   refine Seq.o ?_
   refine OpTo.bslice (T := 23) (E := 55) (m := 1) (ps := #[(0, (.tmp 79))]) (d := (some 80)) (ty := 23) (gd := none) (vs := [(0, (.agg #[(.int .i64 x9a), (.int .i64 x9b), (.slice p9c n9c c9c)]))]) (cs := #[(.int .i64 x9a), (.int .i64 x9b), (.slice p9c n9c c9c)]) underlying23 (by kernel_rfl) rfl rfl rfl (by kernel_rfl) (fun b80 hn => ?_)
   replace h := h b80 hn
   refine Seq.o ?_
   refine OpTo.eff (d := (some 81)) (op := (.call { callee := .builtin .append, args := #[(.tmp 78), (.tmp 80)], argTypes := #[23, 23] })) (ty := 23) (gd := none) (by kernel_rfl) rfl rfl (Builtin.append_ #[23, 23] 23 #[(.slice p5b n5b c5b), (.slice (some ⟨b80, 0, none⟩) 1 1)]) (fun o ho ht => exec_b_append rfl rfl o ho ht) (h.mono (fun v σ1 h2 => ?_)); replace h := h2; clear h2
   obtain ⟨p81, n81, c81, rfl, h⟩ := h
   refine Seq.z 82 (.fieldAddr 25 (.tmp 5) 1) 0 (.pointer (some ⟨b5, 1, none⟩)) (Y.fieldAddr (fd := (fieldOf prog 25 1)) underlying25 (by kernel_rfl) sizeOf23 rfl rfl) ?_
   refine Seq.o ?_
   refine OpTo.storeb (T := 23) (ty := 0) (x := (.tmp 82)) (y := (.tmp 81)) (t := 25) (j := 1) (b := b5) (o := 1) (c' := #[(.int .u64 x5a), (.slice p81 n81 c81)]) (v := (.slice p81 n81 c81)) (gd := none) (by kernel_rfl) rfl sizeOf23 rfl rfl rfl rfl rfl rfl rfl ?_
   simp only [List.set]
   refine Seq.done ?_
   refine At.L [(0, (.slice p0 n0 c0)), (2, (.pointer (some ⟨b2, 0, none⟩))), (4, (.pointer (some ⟨b50, o50, none⟩))), (5, (.pointer (some ⟨b5, 0, none⟩))), (6, (.int .u64 x6))] fun J => ?_
   refine At.inBlock ?_
   refine At.rg 5 [0, 1, 2] ?_
   refine Seq.u 31 (.int .u64 x6) ?_
   obtain ⟨x32, hwx32⟩ : ∃ y, y = IntKind.u64.wrap (x6 - 1) := ⟨_, rfl⟩
   replace h := h x32 hwx32
   refine Seq.y (d := (some 32)) (op := (.binOp .sub 22 (.tmp 31) (.const (.int .u64 1)) 22)) (ty := 22) (v := (.int .u64 x32)) (by kernel_rfl) rfl (hwx32 ▸ Y.sub rfl rfl) ?_
   refine Seq.u 6 (.int .u64 x32) ?_
   refine Seq.done ?_
   refine At.L [(0, (.slice p0 n0 c0)), (2, (.pointer (some ⟨b2, 0, none⟩))), (4, (.pointer (some ⟨b50, o50, none⟩))), (5, (.pointer (some ⟨b5, 0, none⟩))), (6, (.int .u64 x32))] fun J => ?_
   refine At.inLoop ?_
   refine At.s K12 K17 ?_
   refine At.s K13 K14 ?_
   refine At.sub (bx' := [(b5, .cells #[(.int .u64 x5a), (.slice p81 n81 c81)] 25 (0, 0)), (b2, .cells #[(.int .u64 x2a), (.slice p2b n2b c2b)] 25 (0, 0))]) (.cons _ (.cons_cons _ (.cons_cons _ .slnil))) ?_
   exact At.v [(0, (.slice p0 n0 c0)), (2, (.pointer (some ⟨b2, 0, none⟩))), (4, (.pointer (some ⟨b50, o50, none⟩))), (5, (.pointer (some ⟨b5, 0, none⟩))), (6, (.int .u64 x32))] (h _ b2 b5)
 | false =>
  replace h := h.2 (of_decide_eq_false hb)
  refine Seq.n 49 ?_
  refine Seq.n 50 ?_
  refine Seq.n 51 ?_
  refine Seq.n 52 ?_
  refine Seq.n 53 ?_
  refine Seq.u 54 (.bool false) ?_
  refine Seq.done ?_
  refine At.L [(0, (.slice p0 n0 c0)), (2, (.pointer (some ⟨b2, 0, none⟩))), (4, (.pointer q4)), (5, (.pointer (some ⟨b5, 0, none⟩))), (6, (.int .u64 x6)), (9, (.pointer (some ⟨b9, 0, none⟩))), (10, (.int .u64 x10)), (54, (.bool false))] fun J => ?_
  refine At.cF 54 K32 K33 ?_
  refine At.x 2 [.code K42, .inBlock 1, .code K43, .inLoop K11, .inBlock 0, .code K44] ?_
  refine At.rg 14 [0, 1, 2, 3, 4, 5, 6] ?_
  refine Seq.z 77 (.fieldAddr 25 (.tmp 5) 1) 0 (.pointer (some ⟨b5, 1, none⟩)) (Y.fieldAddr (fd := (fieldOf prog 25 1)) underlying25 (by kernel_rfl) sizeOf23 rfl rfl) ?_
  refine Seq.z 78 (.load 23 (.tmp 77)) 23 (.slice p5b n5b c5b) (Y.ldb isAgg23 rfl (.tail _ (List.mem_cons_self ..)) rfl) ?_
  refine Seq.z 79 (.load 55 (.tmp 9)) 55 (.agg #[(.int .i64 x9a), (.int .i64 x9b), (.slice p9c n9c c9c)]) (Y.ldab (vs := [(.int .i64 x9a), (.int .i64 x9b), (.slice p9c n9c c9c)]) isAgg55 sizeOf55 rfl rfl (List.mem_cons_self ..) rfl) ?_
  refine Seq.o ?_
  refine OpTo.bslice (T := 23) (E := 55) (m := 1) (ps := #[(0, (.tmp 79))]) (d := (some 80)) (ty := 23) (gd := none) (vs := [(0, (.agg #[(.int .i64 x9a), (.int .i64 x9b), (.slice p9c n9c c9c)]))]) (cs := #[(.int .i64 x9a), (.int .i64 x9b), (.slice p9c n9c c9c)]) underlying23 (by kernel_rfl) rfl rfl rfl (by kernel_rfl) (fun b80 hn => ?_)
  replace h := h b80 hn
  refine Seq.o ?_
  refine OpTo.eff (d := (some 81)) (op := (.call { callee := .builtin .append, args := #[(.tmp 78), (.tmp 80)], argTypes := #[23, 23] })) (ty := 23) (gd := none) (by kernel_rfl) rfl rfl (Builtin.append_ #[23, 23] 23 #[(.slice p5b n5b c5b), (.slice (some ⟨b80, 0, none⟩) 1 1)]) (fun o ho ht => exec_b_append rfl rfl o ho ht) (h.mono (fun v σ1 h2 => ?_)); replace h := h2; clear h2
  obtain ⟨p81, n81, c81, rfl, h⟩ := h
  refine Seq.z 82 (.fieldAddr 25 (.tmp 5) 1) 0 (.pointer (some ⟨b5, 1, none⟩)) (Y.fieldAddr (fd := (fieldOf prog 25 1)) underlying25 (by kernel_rfl) sizeOf23 rfl rfl) ?_
  refine Seq.o ?_
  refine OpTo.storeb (T := 23) (ty := 0) (x := (.tmp 82)) (y := (.tmp 81)) (t := 25) (j := 1) (b := b5) (o := 1) (c' := #[(.int .u64 x5a), (.slice p81 n81 c81)]) (v := (.slice p81 n81 c81)) (gd := none) (by kernel_rfl) rfl sizeOf23 rfl rfl rfl rfl rfl rfl rfl ?_
  simp only [List.set]
  refine Seq.done ?_
  refine At.L [(0, (.slice p0 n0 c0)), (2, (.pointer (some ⟨b2, 0, none⟩))), (4, (.pointer q4)), (5, (.pointer (some ⟨b5, 0, none⟩))), (6, (.int .u64 x6))] fun J => ?_
  refine At.inBlock ?_
  refine At.rg 5 [0, 1, 2] ?_
  refine Seq.u 31 (.int .u64 x6) ?_
  obtain ⟨x32, hwx32⟩ : ∃ y, y = IntKind.u64.wrap (x6 - 1) := ⟨_, rfl⟩
  replace h := h x32 hwx32
  refine Seq.y (d := (some 32)) (op := (.binOp .sub 22 (.tmp 31) (.const (.int .u64 1)) 22)) (ty := 22) (v := (.int .u64 x32)) (by kernel_rfl) rfl (hwx32 ▸ Y.sub rfl rfl) ?_
  refine Seq.u 6 (.int .u64 x32) ?_
  refine Seq.done ?_
  refine At.L [(0, (.slice p0 n0 c0)), (2, (.pointer (some ⟨b2, 0, none⟩))), (4, (.pointer q4)), (5, (.pointer (some ⟨b5, 0, none⟩))), (6, (.int .u64 x32))] fun J => ?_
  refine At.inLoop ?_
  refine At.s K12 K17 ?_
  refine At.s K13 K14 ?_
  refine At.sub (bx' := [(b5, .cells #[(.int .u64 x5a), (.slice p81 n81 c81)] 25 (0, 0)), (b2, .cells #[(.int .u64 x2a), (.slice p2b n2b c2b)] 25 (0, 0))]) (.cons _ (.cons_cons _ (.cons_cons _ .slnil))) ?_
  exact At.v [(0, (.slice p0 n0 c0)), (2, (.pointer (some ⟨b2, 0, none⟩))), (4, (.pointer q4)), (5, (.pointer (some ⟨b5, 0, none⟩))), (6, (.int .u64 x32))] (h _ b2 b5)
end ref13_Decode
end TwR
end
section
/- written by gen.py: program points and what leads to them -/
set_option linter.unusedVariables false
set_option maxRecDepth 100000
namespace TwR
open Go Tw Go.Proofs.Try
namespace ring_Encode
abbrev fid : Nat := 18
noncomputable def K0 : Code := f18.body.getD .skip
noncomputable def K1 := Tw.cl K0
noncomputable def K2 := Tw.cr K0
noncomputable def K3 := Tw.cl K2
noncomputable def K4 := Tw.cl K3
noncomputable def K5 := Tw.cr K3
noncomputable def K6 := Tw.cl K5
noncomputable def K7 := Tw.cr K5
noncomputable def K8 := Tw.cl K7
noncomputable def K9 := Tw.cl K8
noncomputable def K10 := Tw.cr K8
noncomputable def K11 := Tw.cr K7
noncomputable def K12 := Tw.cr K2
noncomputable def K13 := Tw.cl K12
noncomputable def K14 := Tw.cr K12
noncomputable def K15 := Tw.cl K14
noncomputable def K16 := Tw.cl K15
noncomputable def K17 := Tw.cr K15
noncomputable def K18 := Tw.cl K17
noncomputable def K19 := Tw.cl K18
noncomputable def K20 := Tw.cl K19
noncomputable def K21 := Tw.cr K19
noncomputable def K22 := Tw.cl K21
noncomputable def K23 := Tw.cl K22
noncomputable def K24 := Tw.cr K22
noncomputable def K25 := Tw.cr K21
noncomputable def K26 := Tw.cl K25
noncomputable def K27 := Tw.cl K26
noncomputable def K28 := Tw.cl K27
noncomputable def K29 := Tw.cr K27
noncomputable def K30 := Tw.cl K29
noncomputable def K31 := Tw.cl K30
noncomputable def K32 := Tw.cr K30
noncomputable def K33 := Tw.cl K32
noncomputable def K34 := Tw.cl K33
noncomputable def K35 := Tw.cl K34
noncomputable def K36 := Tw.cr K34
noncomputable def K37 := Tw.cl K36
noncomputable def K38 := Tw.cl K37
noncomputable def K39 := Tw.cr K37
noncomputable def K40 := Tw.cr K36
noncomputable def K41 := Tw.cl K40
noncomputable def K42 := Tw.cl K41
noncomputable def K43 := Tw.cl K42
noncomputable def K44 := Tw.cr K42
noncomputable def K45 := Tw.cr K40
noncomputable def K46 := Tw.cr K29
noncomputable def K47 := Tw.cl K46
noncomputable def K48 := Tw.cr K46
noncomputable def K49 := Tw.cl K48
noncomputable def K50 := Tw.cl K49
noncomputable def K51 := Tw.cl K50
noncomputable def K52 := Tw.cr K50
noncomputable def K53 := Tw.cl K52
noncomputable def K54 := Tw.cl K53
noncomputable def K55 := Tw.cr K53
noncomputable def K56 := Tw.cr K52
noncomputable def K57 := Tw.cl K56
noncomputable def K58 := Tw.cl K57
noncomputable def K59 := Tw.cl K58
noncomputable def K60 := Tw.cr K58
noncomputable def K61 := Tw.cr K56
noncomputable def K62 := Tw.cr K25
noncomputable def K63 := Tw.cr K14
noncomputable def K64 := Tw.cl K63
noncomputable def K65 := Tw.cr K63
noncomputable abbrev gl (R : Ending → Hp → Prop) : Gl := Gl.fn prog 18 64 R
def pt20 (R : Ending → Hp → Prop) (p5 : Option Addr) (n5 : Nat) (c5 : Nat) (p26 : Option Addr) (n26 : Nat) (c26 : Nat) (x27 : Int) (x28 : Int) (σ : Hp) : Prop := ∀ (J : Env), At (gl R) [.code K20, .code K21, .inLoop K19, .inBlock 0, .code K63] (upds J [(5, (.slice p5 n5 c5)), (26, (.slice p26 n26 c26)), (27, (.int .i64 x27)), (28, (.int .i64 x28))]) [] σ
def pt35 (R : Ending → Hp → Prop) (p5 : Option Addr) (n5 : Nat) (c5 : Nat) (x7a : Int) (x7b : Int) (p7c : Option Addr) (n7c : Nat) (c7c : Nat) (p26 : Option Addr) (n26 : Nat) (c26 : Nat) (x27 : Int) (x28 : Int) (p39 : Option Addr) (n39 : Nat) (c39 : Nat) (x40 : Int) (x41 : Int) (σ : Hp) : Prop := ∀ (J : Env) (b7 : Nat), At (gl R) [.code K35, .code K36, .inLoop K34, .inBlock 2, .code K46, .inBlock 1, .code K62, .inLoop K19, .inBlock 0, .code K63] (upds J [(5, (.slice p5 n5 c5)), (7, (.pointer (some ⟨b7, 0, none⟩))), (26, (.slice p26 n26 c26)), (27, (.int .i64 x27)), (28, (.int .i64 x28)), (39, (.slice p39 n39 c39)), (40, (.int .i64 x40)), (41, (.int .i64 x41))]) [(b7, .cells #[(.int .i64 x7a), (.int .i64 x7b), (.slice p7c n7c c7c)] 55 (0, 0))] σ
def pt51 (R : Ending → Hp → Prop) (p5 : Option Addr) (n5 : Nat) (c5 : Nat) (p26 : Option Addr) (n26 : Nat) (c26 : Nat) (x27 : Int) (x28 : Int) (p51 : Option Addr) (n51 : Nat) (c51 : Nat) (x52 : Int) (x53 : Int) (σ : Hp) : Prop := ∀ (J : Env), At (gl R) [.code K51, .code K52, .inLoop K50, .inBlock 4, .inBlock 1, .code K62, .inLoop K19, .inBlock 0, .code K63] (upds J [(5, (.slice p5 n5 c5)), (26, (.slice p26 n26 c26)), (27, (.int .i64 x27)), (28, (.int .i64 x28)), (51, (.slice p51 n51 c51)), (52, (.int .i64 x52)), (53, (.int .i64 x53))]) [] σ
theorem start {R : Ending → Hp → Prop} {x0a : Int} {p0b : Option Addr} {n0b : Nat} {c0b : Nat} {σ : Hp} (h : Spec prog 32 #[(.agg #[(.int .u64 x0a), (.slice p0b n0b c0b)])] σ (Cont R (fun v σ1 => ∃ x13 : Int, v = (.int .i64 x13) ∧ ((x13 : Int) ≠ 0 → R (.returned (.tuple #[(.slice none 0 0), (.int .i64 x13)])) σ1) ∧ (¬ ((x13 : Int) ≠ 0) → ∀ x23 : Int, x23 = IntKind.u64.wrap (n0b : Int) → Spec prog 40 #[(.slice none 0 0), (.int .u64 x0a)] σ1 (Cont R (fun v_2 σ1_2 => ∃ p19 : Option Addr, ∃ n19 : Nat, ∃ c19 : Nat, v_2 = (.slice p19 n19 c19) ∧ Spec prog 40 #[(.slice p19 n19 c19), (.int .u64 x23)] σ1_2 (Cont R (fun v_3 σ1_3 => ∃ p24 : Option Addr, ∃ n24 : Nat, ∃ c24 : Nat, v_3 = (.slice p24 n24 c24) ∧ pt20 R p24 n24 c24 p0b n0b c0b ((n0b : Int)) 0 σ1_3)))))))) : Spec prog 18 #[(.agg #[(.int .u64 x0a), (.slice p0b n0b c0b)])] σ R := by
 refine Spec.of_at (fn := f18) (c := K0) func18 (by kernel_rfl) (Nat.le_of_ble_eq_true (by kernel_rfl)) (fun e he => ?_)
 refine At.ofL (l := [(0, (.agg #[(.int .u64 x0a), (.slice p0b n0b c0b)]))]) ⟨he 0, trivial⟩ (fun J => ?_)
 show At (gl R) _ _ _ _
 refine At.s K1 K2 ?_
 refine At.rg 0 [0, 1, 2] ?_
 refine Seq.o ?_
 refine OpTo.box (T := 25) (d := (some 1)) (ty := 0) (x := (.tmp 0)) (gd := none) (cs := #[(.int .u64 x0a), (.slice p0b n0b c0b)]) (by kernel_rfl) rfl rfl rfl (fun b1 => ?_)
 refine Seq.u 2 (.slice none 0 0) ?_
 refine Seq.u 3 (.int .i64 0) ?_
 refine Seq.done ?_
 refine At.L [(1, (.pointer (some ⟨b1, 0, none⟩)))] fun J => ?_
 refine At.s K3 K12 ?_
 refine At.s K4 K5 ?_
 refine At.rg 1 [0, 1, 2] ?_
 refine Seq.z 12 (.load 25 (.tmp 1)) 25 (.agg #[(.int .u64 x0a), (.slice p0b n0b c0b)]) (Y.ldab (vs := [(.int .u64 x0a), (.slice p0b n0b c0b)]) isAgg25 sizeOf25 rfl rfl (List.mem_cons_self ..) rfl) ?_
 refine Seq.o ?_
 refine OpTo.cl (some 13) call32 (h.cont fun v σ1 h2 => ?_); replace h := h2; clear h2
 obtain ⟨x13, rfl, h⟩ := h
 refine Seq.u 4 (.int .i64 x13) ?_
 refine Seq.done ?_
 refine At.L [(1, (.pointer (some ⟨b1, 0, none⟩))), (4, (.int .i64 x13))] fun J => ?_
 refine At.s K6 K7 ?_
 refine At.rg 2 [0, 1] ?_
 refine Seq.u 14 (.int .i64 x13) ?_
 refine Seq.u 15 (.bool (decide ((x13 : Int) ≠ 0))) ?_
 refine Seq.done ?_
 refine At.L [(1, (.pointer (some ⟨b1, 0, none⟩))), (4, (.int .i64 x13)), (15, (.bool (decide ((x13 : Int) ≠ 0))))] fun J => ?_
 cases hb : (decide ((x13 : Int) ≠ 0)) with
 | true =>
  replace h := h.1 (of_decide_eq_true hb)
  refine At.cT 15 K8 K11 ?_
  refine At.s K9 K10 ?_
  refine At.rg 3 [0, 1, 2] ?_
  refine Seq.u 16 (.int .i64 x13) ?_
  refine Seq.u 2 (.slice none 0 0) ?_
  refine Seq.u 3 (.int .i64 x13) ?_
  refine Seq.done ?_
  refine At.L [(2, (.slice none 0 0)), (3, (.int .i64 x13))] fun J => ?_
  exact At.rt [.tmp 2, .tmp 3] [(.slice none 0 0), (.int .i64 x13)] func18 ⟨_, rfl, ⟨_, rfl, rfl⟩⟩ h
 | false =>
  replace h := h.2 (of_decide_eq_false hb)
  refine At.cF 15 K8 K11 ?_
  refine At.skip ?_
  refine At.s K13 K14 ?_
  refine At.draw (id := 4) (ops := cO K13) (n := 9) (q := (some [])) (plan := [(0, true), (1, true), (3, true), (4, true), (5, true), (6, true), (2, false), (7, false), (8, true)]) (tl := []) mixed (by kernel_rfl) (by kernel_rfl) ?_
  refine Head.z 17 (.fieldAddr 25 (.tmp 1) 0) 0 (.pointer (some ⟨b1, 0, none⟩)) (Y.fieldAddr (fd := (fieldOf prog 25 0)) underlying25 (by kernel_rfl) sizeOf22 rfl rfl) ?_
  refine Head.z 18 (.load 22 (.tmp 17)) 22 (.int .u64 x0a) (Y.ldb isAgg22 rfl (List.mem_cons_self ..) rfl) ?_
  refine Head.z 20 (.fieldAddr 25 (.tmp 1) 1) 0 (.pointer (some ⟨b1, 1, none⟩)) (Y.fieldAddr (fd := (fieldOf prog 25 1)) underlying25 (by kernel_rfl) sizeOf23 rfl rfl) ?_
  refine Head.z 21 (.load 23 (.tmp 20)) 23 (.slice p0b n0b c0b) (Y.ldb isAgg23 rfl (List.mem_cons_self ..) rfl) ?_
  refine Head.z 22 (.call { callee := .builtin .len, args := #[(.tmp 21)], argTypes := #[23] }) 3 (.int .i64 (n0b : Int)) (Y.lenS underlying23 rfl rfl) ?_
  obtain ⟨x23, hwx23⟩ : ∃ y, y = IntKind.u64.wrap (n0b : Int) := ⟨_, rfl⟩
  replace h := h x23 hwx23
  refine Head.y (d := (some 23)) (op := (.convert 3 22 (.tmp 22))) (ty := 22) (v := (.int .u64 x23)) (by kernel_rfl) rfl (hwx23 ▸ Y.conv (by kernel_rfl) underlying22 rfl) ?_
  refine Head.o (q' := (some [])) rfl ?_
  refine OpTo.cl (some 19) call40 (h.cont fun v_2 σ1_2 h2 => ?_); replace h := h2; clear h2
  obtain ⟨p19, n19, c19, rfl, h⟩ := h
  refine ⟨⟨fun _ h => h, kp_q (L := []) Kp.nil⟩, ?_⟩
  refine Head.o (q' := (some [])) rfl ?_
  refine OpTo.cl (some 24) call40 (h.cont fun v_3 σ1_3 h2 => ?_); replace h := h2; clear h2
  obtain ⟨p24, n24, c24, rfl, h⟩ := h
  refine ⟨⟨fun _ h => h, kp_q (L := []) Kp.nil⟩, ?_⟩
  refine Head.u 5 (.slice p24 n24 c24) ?_
  refine Head.done ?_
  refine Seq.done ?_
  refine At.L [(1, (.pointer (some ⟨b1, 0, none⟩))), (5, (.slice p24 n24 c24))] fun J => ?_
  refine At.s K15 K63 ?_
  refine At.s K16 K17 ?_
  refine At.rg 5 [0, 1, 2, 3] ?_
  refine Seq.z 25 (.fieldAddr 25 (.tmp 1) 1) 0 (.pointer (some ⟨b1, 1, none⟩)) (Y.fieldAddr (fd := (fieldOf prog 25 1)) underlying25 (by kernel_rfl) sizeOf23 rfl rfl) ?_
  refine Seq.z 26 (.load 23 (.tmp 25)) 23 (.slice p0b n0b c0b) (Y.ldb isAgg23 rfl (List.mem_cons_self ..) rfl) ?_
  refine Seq.z 27 (.call { callee := .builtin .len, args := #[(.tmp 26)], argTypes := #[23] }) 3 (.int .i64 (n0b : Int)) (Y.lenS underlying23 rfl rfl) ?_
  refine Seq.u 28 (.int .i64 0) ?_
  refine Seq.done ?_
  refine At.L [(5, (.slice p24 n24 c24)), (26, (.slice p0b n0b c0b)), (27, (.int .i64 (n0b : Int))), (28, (.int .i64 0))] fun J => ?_
  refine At.b 0 K18 ?_
  refine At.loop (x := K19) (by kernel_rfl) ?_
  refine At.s K20 K21 ?_
  refine At.sub (bx' := []) (.cons _ .slnil) ?_
  exact At.v [(5, (.slice p24 n24 c24)), (26, (.slice p0b n0b c0b)), (27, (.int .i64 (n0b : Int))), (28, (.int .i64 0))] (h _)
theorem pt20_of {R : Ending → Hp → Prop} {p5 : Option Addr} {n5 : Nat} {c5 : Nat} {p26 : Option Addr} {n26 : Nat} {c26 : Nat} {x27 : Int} {x28 : Int} {σ : Hp} (h : ((x28 : Int) < x27 → ∃ (b30 o30 : Nat), p26 = some ⟨b30, o30, none⟩ ∧ ((0 : Int) ≤ x28 ∧ x28 < (n26 : Int)) ∧ ∃ x31a : Int, ∃ x31b : Int, ∃ p31c : Option Addr, ∃ n31c : Nat, ∃ c31c : Nat, LdL σ b30 (o30 + Int.toNat x28 * 3) [(.int .i64 x31a), (.int .i64 x31b), (.slice p31c n31c c31c)] ∧ ∀ b39 : Nat, σ b39 = none → pt35 R p5 n5 c5 x31a x31b p31c n31c c31c ((some ⟨b30, o30, none⟩)) n26 c26 x27 x28 ((some ⟨b39, 0, none⟩)) 3 3 3 0 (Hp.set σ b39 (.cells #[(.int .i64 x31a), (.int .i64 x31b), (.int .i64 (n31c : Int))] 3 (0, 0)))) ∧ (¬ ((x28 : Int) < x27) → R (.returned (.tuple #[(.slice p5 n5 c5), (.int .i64 0)])) σ)) : pt20 R p5 n5 c5 p26 n26 c26 x27 x28 σ := by
 intro J
 show At (gl R) _ _ _ _
 refine At.rg 6 [0] ?_
 refine Seq.u 29 (.bool (decide ((x28 : Int) < x27))) ?_
 refine Seq.done ?_
 refine At.L [(5, (.slice p5 n5 c5)), (26, (.slice p26 n26 c26)), (27, (.int .i64 x27)), (28, (.int .i64 x28)), (29, (.bool (decide ((x28 : Int) < x27))))] fun J => ?_
 refine At.s K22 K25 ?_
 cases hb : (decide ((x28 : Int) < x27)) with
 | true =>
  replace h := h.1 (of_decide_eq_true hb)
  refine At.cT 29 K23 K24 ?_
  refine At.skip ?_
  refine At.s K26 K62 ?_
  refine At.b 1 K27 ?_
  refine At.s K28 K29 ?_
  refine At.rg 7 [0, 1, 2, 3] ?_
  obtain ⟨b30, o30, hq, h⟩ := h
  subst hq
  obtain ⟨hi, h⟩ := h
  refine Seq.z 30 (.indexAddr 23 (.tmp 26) (.tmp 28)) 0 (.pointer (some ⟨b30, (o30 + Int.toNat x28 * 3), none⟩)) (Y.idx underlying23 sizeOf55 rfl rfl hi rfl) ?_
  obtain ⟨x31a, x31b, p31c, n31c, c31c, hl, h⟩ := h
  refine Seq.z 31 (.load 55 (.tmp 30)) 55 (.agg #[(.int .i64 x31a), (.int .i64 x31b), (.slice p31c n31c c31c)]) (Y.lda isAgg55 sizeOf55 rfl rfl hl) ?_
  refine Seq.o ?_
  refine OpTo.alloc (T := 55) (d := (some 7)) (ty := 0)  (gd := none) (cs := #[(.int .i64 0), (.int .i64 0), (.slice none 0 0)]) (by kernel_rfl) rfl rfl zeroValue55 rfl (fun b7 => ?_)
  refine Seq.o ?_
  refine OpTo.storeb (T := 55) (ty := 0) (x := (.tmp 7)) (y := (.tmp 31)) (t := 55) (j := 0) (b := b7) (o := 0) (c' := #[(.int .i64 x31a), (.int .i64 x31b), (.slice p31c n31c c31c)]) (v := (.agg #[(.int .i64 x31a), (.int .i64 x31b), (.slice p31c n31c c31c)])) (gd := none) (by kernel_rfl) rfl sizeOf55 rfl rfl rfl rfl rfl rfl rfl ?_
  simp only [List.set]
  refine Seq.done ?_
  refine At.L [(5, (.slice p5 n5 c5)), (7, (.pointer (some ⟨b7, 0, none⟩))), (26, (.slice (some ⟨b30, o30, none⟩) n26 c26)), (27, (.int .i64 x27)), (28, (.int .i64 x28))] fun J => ?_
  refine At.s K30 K46 ?_
  refine At.s K31 K32 ?_
  refine At.rg 8 [0, 1, 2, 3, 4, 5, 6, 7, 8, 9] ?_
  refine Seq.z 32 (.fieldAddr 55 (.tmp 7) 0) 0 (.pointer (some ⟨b7, 0, none⟩)) (Y.fieldAddr (fd := (fieldOf prog 55 0)) underlying55 (by kernel_rfl) sizeOf3 rfl rfl) ?_
  refine Seq.z 33 (.load 3 (.tmp 32)) 3 (.int .i64 x31a) (Y.ldb isAgg3 rfl (List.mem_cons_self ..) rfl) ?_
  refine Seq.z 34 (.fieldAddr 55 (.tmp 7) 1) 0 (.pointer (some ⟨b7, 1, none⟩)) (Y.fieldAddr (fd := (fieldOf prog 55 1)) underlying55 (by kernel_rfl) sizeOf3 rfl rfl) ?_
  refine Seq.z 35 (.load 3 (.tmp 34)) 3 (.int .i64 x31b) (Y.ldb isAgg3 rfl (List.mem_cons_self ..) rfl) ?_
  refine Seq.z 36 (.fieldAddr 55 (.tmp 7) 2) 0 (.pointer (some ⟨b7, 2, none⟩)) (Y.fieldAddr (fd := (fieldOf prog 55 2)) underlying55 (by kernel_rfl) sizeOf53 rfl rfl) ?_
  refine Seq.z 37 (.load 53 (.tmp 36)) 53 (.slice p31c n31c c31c) (Y.ldb isAgg53 rfl (List.mem_cons_self ..) rfl) ?_
  refine Seq.z 38 (.call { callee := .builtin .len, args := #[(.tmp 37)], argTypes := #[53] }) 3 (.int .i64 (n31c : Int)) (Y.lenS underlying53 rfl rfl) ?_
  refine Seq.o ?_
  refine OpTo.bslice (T := 27) (E := 3) (m := 3) (ps := #[(0, (.tmp 33)), (1, (.tmp 35)), (2, (.tmp 38))]) (d := (some 39)) (ty := 27) (gd := none) (vs := [(0, (.int .i64 x31a)), (1, (.int .i64 x31b)), (2, (.int .i64 (n31c : Int)))]) (cs := #[(.int .i64 x31a), (.int .i64 x31b), (.int .i64 (n31c : Int))]) underlying27 (by kernel_rfl) rfl rfl rfl (by kernel_rfl) (fun b39 hn => ?_)
  replace h := h b39 hn
  refine Seq.z 40 (.call { callee := .builtin .len, args := #[(.tmp 39)], argTypes := #[27] }) 3 (.int .i64 3) (Y.lenS underlying27 rfl rfl) ?_
  refine Seq.u 41 (.int .i64 0) ?_
  refine Seq.done ?_
  refine At.L [(5, (.slice p5 n5 c5)), (7, (.pointer (some ⟨b7, 0, none⟩))), (26, (.slice (some ⟨b30, o30, none⟩) n26 c26)), (27, (.int .i64 x27)), (28, (.int .i64 x28)), (39, (.slice (some ⟨b39, 0, none⟩) 3 3)), (40, (.int .i64 3)), (41, (.int .i64 0))] fun J => ?_
  refine At.b 2 K33 ?_
  refine At.loop (x := K34) (by kernel_rfl) ?_
  refine At.s K35 K36 ?_
  exact At.v [(5, (.slice p5 n5 c5)), (7, (.pointer (some ⟨b7, 0, none⟩))), (26, (.slice (some ⟨b30, o30, none⟩) n26 c26)), (27, (.int .i64 x27)), (28, (.int .i64 x28)), (39, (.slice (some ⟨b39, 0, none⟩) 3 3)), (40, (.int .i64 3)), (41, (.int .i64 0))] (h _ b7)
 | false =>
  replace h := h.2 (of_decide_eq_false hb)
  refine At.cF 29 K23 K24 ?_
  refine At.x 0 [.code K63] ?_
  refine At.s K64 K65 ?_
  refine At.rg 19 [0, 1, 2] ?_
  refine Seq.u 63 (.slice p5 n5 c5) ?_
  refine Seq.u 2 (.slice p5 n5 c5) ?_
  refine Seq.u 3 (.int .i64 0) ?_
  refine Seq.done ?_
  refine At.L [(2, (.slice p5 n5 c5)), (3, (.int .i64 0))] fun J => ?_
  exact At.rt [.tmp 2, .tmp 3] [(.slice p5 n5 c5), (.int .i64 0)] func18 ⟨_, rfl, ⟨_, rfl, rfl⟩⟩ h
theorem pt35_of {R : Ending → Hp → Prop} {p5 : Option Addr} {n5 : Nat} {c5 : Nat} {x7a : Int} {x7b : Int} {p7c : Option Addr} {n7c : Nat} {c7c : Nat} {p26 : Option Addr} {n26 : Nat} {c26 : Nat} {x27 : Int} {x28 : Int} {p39 : Option Addr} {n39 : Nat} {c39 : Nat} {x40 : Int} {x41 : Int} {σ : Hp} (h : ((x41 : Int) < x40 → ∃ (b43 o43 : Nat), p39 = some ⟨b43, o43, none⟩ ∧ ((0 : Int) ≤ x41 ∧ x41 < (n39 : Int)) ∧ ∃ x44 : Int, Hp.ld σ ⟨b43, (o43 + Int.toNat x41 * 1), none⟩ = some (.int .i64 x44) ∧ ∀ x47 : Int, x47 = IntKind.u64.wrap x44 → Spec prog 40 #[(.slice p5 n5 c5), (.int .u64 x47)] σ (Cont R (fun v σ1 => ∃ p48 : Option Addr, ∃ n48 : Nat, ∃ c48 : Nat, v = (.slice p48 n48 c48) ∧ I64 (x41 + 1) ∧ pt35 R p48 n48 c48 x7a x7b p7c n7c c7c p26 n26 c26 x27 x28 ((some ⟨b43, o43, none⟩)) n39 c39 x40 ((x41 + 1)) σ1))) ∧ (¬ ((x41 : Int) < x40) → pt51 R p5 n5 c5 p26 n26 c26 x27 x28 p7c n7c c7c ((n7c : Int)) 0 σ)) : pt35 R p5 n5 c5 x7a x7b p7c n7c c7c p26 n26 c26 x27 x28 p39 n39 c39 x40 x41 σ := by
 intro J b7
 show At (gl R) _ _ _ _
 refine At.rg 9 [0] ?_
 refine Seq.u 42 (.bool (decide ((x41 : Int) < x40))) ?_
 refine Seq.done ?_
 refine At.L [(5, (.slice p5 n5 c5)), (7, (.pointer (some ⟨b7, 0, none⟩))), (26, (.slice p26 n26 c26)), (27, (.int .i64 x27)), (28, (.int .i64 x28)), (39, (.slice p39 n39 c39)), (40, (.int .i64 x40)), (41, (.int .i64 x41)), (42, (.bool (decide ((x41 : Int) < x40))))] fun J => ?_
 refine At.s K37 K40 ?_
 cases hb : (decide ((x41 : Int) < x40)) with
 | true =>
  replace h := h.1 (of_decide_eq_true hb)
  refine At.cT 42 K38 K39 ?_
  refine At.skip ?_
  refine At.s K41 K45 ?_
  refine At.b 3 K42 ?_
  refine At.s K43 K44 ?_
  refine At.rg 10 [0, 1, 2] ?_
  obtain ⟨b43, o43, hq, h⟩ := h
  subst hq
  obtain ⟨hi, h⟩ := h
  refine Seq.z 43 (.indexAddr 27 (.tmp 39) (.tmp 41)) 0 (.pointer (some ⟨b43, (o43 + Int.toNat x41 * 1), none⟩)) (Y.idx underlying27 sizeOf3 rfl rfl hi rfl) ?_
  obtain ⟨x44, hl, h⟩ := h
  refine Seq.z 44 (.load 3 (.tmp 43)) 3 (.int .i64 x44) (Y.ld isAgg3 rfl hl) ?_
  refine Seq.u 9 (.int .i64 x44) ?_
  refine Seq.done ?_
  refine At.L [(5, (.slice p5 n5 c5)), (7, (.pointer (some ⟨b7, 0, none⟩))), (9, (.int .i64 x44)), (26, (.slice p26 n26 c26)), (27, (.int .i64 x27)), (28, (.int .i64 x28)), (39, (.slice (some ⟨b43, o43, none⟩) n39 c39)), (40, (.int .i64 x40)), (41, (.int .i64 x41))] fun J => ?_
  refine At.rg 11 [0, 1, 2, 3, 4] ?_
  refine Seq.u 45 (.slice p5 n5 c5) ?_
  refine Seq.u 46 (.int .i64 x44) ?_
  obtain ⟨x47, hwx47⟩ : ∃ y, y = IntKind.u64.wrap x44 := ⟨_, rfl⟩
  replace h := h x47 hwx47
  refine Seq.y (d := (some 47)) (op := (.convert 3 22 (.tmp 46))) (ty := 22) (v := (.int .u64 x47)) (by kernel_rfl) rfl (hwx47 ▸ Y.conv (by kernel_rfl) underlying22 rfl) ?_
  refine Seq.o ?_
  refine OpTo.cl (some 48) call40 (h.cont fun v σ1 h2 => ?_); replace h := h2; clear h2
  obtain ⟨p48, n48, c48, rfl, h⟩ := h
  refine Seq.u 5 (.slice p48 n48 c48) ?_
  refine Seq.done ?_
  refine At.L [(5, (.slice p48 n48 c48)), (7, (.pointer (some ⟨b7, 0, none⟩))), (26, (.slice p26 n26 c26)), (27, (.int .i64 x27)), (28, (.int .i64 x28)), (39, (.slice (some ⟨b43, o43, none⟩) n39 c39)), (40, (.int .i64 x40)), (41, (.int .i64 x41))] fun J => ?_
  refine At.inBlock ?_
  refine At.rg 12 [0, 1] ?_
  obtain ⟨hi, h⟩ := h
  refine Seq.z 49 (.binOp .add 3 (.tmp 41) (.const (.int .i64 1)) 3) 3 (.int .i64 (x41 + 1)) (Y.addI hi rfl rfl) ?_
  refine Seq.u 41 (.int .i64 (x41 + 1)) ?_
  refine Seq.done ?_
  refine At.L [(5, (.slice p48 n48 c48)), (7, (.pointer (some ⟨b7, 0, none⟩))), (26, (.slice p26 n26 c26)), (27, (.int .i64 x27)), (28, (.int .i64 x28)), (39, (.slice (some ⟨b43, o43, none⟩) n39 c39)), (40, (.int .i64 x40)), (41, (.int .i64 (x41 + 1)))] fun J => ?_
  refine At.inLoop ?_
  refine At.s K35 K36 ?_
  exact At.v [(5, (.slice p48 n48 c48)), (7, (.pointer (some ⟨b7, 0, none⟩))), (26, (.slice p26 n26 c26)), (27, (.int .i64 x27)), (28, (.int .i64 x28)), (39, (.slice (some ⟨b43, o43, none⟩) n39 c39)), (40, (.int .i64 x40)), (41, (.int .i64 (x41 + 1)))] (h _ b7)
 | false =>
  replace h := h.2 (of_decide_eq_false hb)
  refine At.cF 42 K38 K39 ?_
  refine At.x 2 [.code K46, .inBlock 1, .code K62, .inLoop K19, .inBlock 0, .code K63] ?_
  refine At.s K47 K48 ?_
  refine At.rg 13 [0, 1, 2, 3] ?_
  refine Seq.z 50 (.fieldAddr 55 (.tmp 7) 2) 0 (.pointer (some ⟨b7, 2, none⟩)) (Y.fieldAddr (fd := (fieldOf prog 55 2)) underlying55 (by kernel_rfl) sizeOf53 rfl rfl) ?_
  refine Seq.z 51 (.load 53 (.tmp 50)) 53 (.slice p7c n7c c7c) (Y.ldb isAgg53 rfl (List.mem_cons_self ..) rfl) ?_
  refine Seq.z 52 (.call { callee := .builtin .len, args := #[(.tmp 51)], argTypes := #[53] }) 3 (.int .i64 (n7c : Int)) (Y.lenS underlying53 rfl rfl) ?_
  refine Seq.u 53 (.int .i64 0) ?_
  refine Seq.done ?_
  refine At.L [(5, (.slice p5 n5 c5)), (26, (.slice p26 n26 c26)), (27, (.int .i64 x27)), (28, (.int .i64 x28)), (51, (.slice p7c n7c c7c)), (52, (.int .i64 (n7c : Int))), (53, (.int .i64 0))] fun J => ?_
  refine At.b 4 K49 ?_
  refine At.loop (x := K50) (by kernel_rfl) ?_
  refine At.s K51 K52 ?_
  refine At.sub (bx' := []) (.cons _ .slnil) ?_
  exact At.v [(5, (.slice p5 n5 c5)), (26, (.slice p26 n26 c26)), (27, (.int .i64 x27)), (28, (.int .i64 x28)), (51, (.slice p7c n7c c7c)), (52, (.int .i64 (n7c : Int))), (53, (.int .i64 0))] (h _)
theorem pt51_of {R : Ending → Hp → Prop} {p5 : Option Addr} {n5 : Nat} {c5 : Nat} {p26 : Option Addr} {n26 : Nat} {c26 : Nat} {x27 : Int} {x28 : Int} {p51 : Option Addr} {n51 : Nat} {c51 : Nat} {x52 : Int} {x53 : Int} {σ : Hp} (h : ((x53 : Int) < x52 → ∃ (b55 o55 : Nat), p51 = some ⟨b55, o55, none⟩ ∧ ((0 : Int) ≤ x53 ∧ x53 < (n51 : Int)) ∧ ∃ x56 : Int, Hp.ld σ ⟨b55, (o55 + Int.toNat x53 * 1), none⟩ = some (.int .u32 x56) ∧ ∀ x59 : Int, x59 = IntKind.u64.wrap x56 → Spec prog 40 #[(.slice p5 n5 c5), (.int .u64 x59)] σ (Cont R (fun v σ1 => ∃ p60 : Option Addr, ∃ n60 : Nat, ∃ c60 : Nat, v = (.slice p60 n60 c60) ∧ I64 (x53 + 1) ∧ pt51 R p60 n60 c60 p26 n26 c26 x27 x28 ((some ⟨b55, o55, none⟩)) n51 c51 x52 ((x53 + 1)) σ1))) ∧ (¬ ((x53 : Int) < x52) → I64 (x28 + 1) ∧ pt20 R p5 n5 c5 p26 n26 c26 x27 ((x28 + 1)) σ)) : pt51 R p5 n5 c5 p26 n26 c26 x27 x28 p51 n51 c51 x52 x53 σ := by
 intro J
 show At (gl R) _ _ _ _
 refine At.rg 14 [0] ?_
 refine Seq.u 54 (.bool (decide ((x53 : Int) < x52))) ?_
 refine Seq.done ?_
 refine At.L [(5, (.slice p5 n5 c5)), (26, (.slice p26 n26 c26)), (27, (.int .i64 x27)), (28, (.int .i64 x28)), (51, (.slice p51 n51 c51)), (52, (.int .i64 x52)), (53, (.int .i64 x53)), (54, (.bool (decide ((x53 : Int) < x52))))] fun J => ?_
 refine At.s K53 K56 ?_
 cases hb : (decide ((x53 : Int) < x52)) with
 | true =>
  replace h := h.1 (of_decide_eq_true hb)
  refine At.cT 54 K54 K55 ?_
  refine At.skip ?_
  refine At.s K57 K61 ?_
  refine At.b 5 K58 ?_
  refine At.s K59 K60 ?_
  refine At.rg 15 [0, 1, 2] ?_
  obtain ⟨b55, o55, hq, h⟩ := h
  subst hq
  obtain ⟨hi, h⟩ := h
  refine Seq.z 55 (.indexAddr 53 (.tmp 51) (.tmp 53)) 0 (.pointer (some ⟨b55, (o55 + Int.toNat x53 * 1), none⟩)) (Y.idx underlying53 sizeOf26 rfl rfl hi rfl) ?_
  obtain ⟨x56, hl, h⟩ := h
  refine Seq.z 56 (.load 26 (.tmp 55)) 26 (.int .u32 x56) (Y.ld isAgg26 rfl hl) ?_
  refine Seq.u 11 (.int .u32 x56) ?_
  refine Seq.done ?_
  refine At.L [(5, (.slice p5 n5 c5)), (11, (.int .u32 x56)), (26, (.slice p26 n26 c26)), (27, (.int .i64 x27)), (28, (.int .i64 x28)), (51, (.slice (some ⟨b55, o55, none⟩) n51 c51)), (52, (.int .i64 x52)), (53, (.int .i64 x53))] fun J => ?_
  refine At.rg 16 [0, 1, 2, 3, 4] ?_
  refine Seq.u 57 (.slice p5 n5 c5) ?_
  refine Seq.u 58 (.int .u32 x56) ?_
  obtain ⟨x59, hwx59⟩ : ∃ y, y = IntKind.u64.wrap x56 := ⟨_, rfl⟩
  replace h := h x59 hwx59
  refine Seq.y (d := (some 59)) (op := (.convert 26 22 (.tmp 58))) (ty := 22) (v := (.int .u64 x59)) (by kernel_rfl) rfl (hwx59 ▸ Y.conv (by kernel_rfl) underlying22 rfl) ?_
  refine Seq.o ?_
  refine OpTo.cl (some 60) call40 (h.cont fun v σ1 h2 => ?_); replace h := h2; clear h2
  obtain ⟨p60, n60, c60, rfl, h⟩ := h
  refine Seq.u 5 (.slice p60 n60 c60) ?_
  refine Seq.done ?_
  refine At.L [(5, (.slice p60 n60 c60)), (26, (.slice p26 n26 c26)), (27, (.int .i64 x27)), (28, (.int .i64 x28)), (51, (.slice (some ⟨b55, o55, none⟩) n51 c51)), (52, (.int .i64 x52)), (53, (.int .i64 x53))] fun J => ?_
  refine At.inBlock ?_
  refine At.rg 17 [0, 1] ?_
  obtain ⟨hi, h⟩ := h
  refine Seq.z 61 (.binOp .add 3 (.tmp 53) (.const (.int .i64 1)) 3) 3 (.int .i64 (x53 + 1)) (Y.addI hi rfl rfl) ?_
  refine Seq.u 53 (.int .i64 (x53 + 1)) ?_
  refine Seq.done ?_
  refine At.L [(5, (.slice p60 n60 c60)), (26, (.slice p26 n26 c26)), (27, (.int .i64 x27)), (28, (.int .i64 x28)), (51, (.slice (some ⟨b55, o55, none⟩) n51 c51)), (52, (.int .i64 x52)), (53, (.int .i64 (x53 + 1)))] fun J => ?_
  refine At.inLoop ?_
  refine At.s K51 K52 ?_
  exact At.v [(5, (.slice p60 n60 c60)), (26, (.slice p26 n26 c26)), (27, (.int .i64 x27)), (28, (.int .i64 x28)), (51, (.slice (some ⟨b55, o55, none⟩) n51 c51)), (52, (.int .i64 x52)), (53, (.int .i64 (x53 + 1)))] (h _)
 | false =>
  replace h := h.2 (of_decide_eq_false hb)
  refine At.cF 54 K54 K55 ?_
  refine At.x 4 [.inBlock 1, .code K62, .inLoop K19, .inBlock 0, .code K63] ?_
  refine At.inBlock ?_
  refine At.rg 18 [0, 1] ?_
  obtain ⟨hi, h⟩ := h
  refine Seq.z 62 (.binOp .add 3 (.tmp 28) (.const (.int .i64 1)) 3) 3 (.int .i64 (x28 + 1)) (Y.addI hi rfl rfl) ?_
  refine Seq.u 28 (.int .i64 (x28 + 1)) ?_
  refine Seq.done ?_
  refine At.L [(5, (.slice p5 n5 c5)), (26, (.slice p26 n26 c26)), (27, (.int .i64 x27)), (28, (.int .i64 (x28 + 1)))] fun J => ?_
  refine At.inLoop ?_
  refine At.s K20 K21 ?_
  exact At.v [(5, (.slice p5 n5 c5)), (26, (.slice p26 n26 c26)), (27, (.int .i64 x27)), (28, (.int .i64 (x28 + 1)))] (h _)
end ring_Encode
namespace slices_Compact_uint32
abbrev fid : Nat := 63
noncomputable def K0 : Code := f63.body.getD .skip
noncomputable def K1 := Tw.cl K0
noncomputable def K2 := Tw.cr K0
noncomputable def K3 := Tw.cl K2
noncomputable def K4 := Tw.cl K3
noncomputable def K5 := Tw.cr K3
noncomputable def K6 := Tw.cl K5
noncomputable def K7 := Tw.cl K6
noncomputable def K8 := Tw.cr K6
noncomputable def K9 := Tw.cr K5
noncomputable def K10 := Tw.cr K2
noncomputable def K11 := Tw.cl K10
noncomputable def K12 := Tw.cl K11
noncomputable def K13 := Tw.cr K11
noncomputable def K14 := Tw.cl K13
noncomputable def K15 := Tw.cl K14
noncomputable def K16 := Tw.cl K15
noncomputable def K17 := Tw.cl K16
noncomputable def K18 := Tw.cr K16
noncomputable def K19 := Tw.cl K18
noncomputable def K20 := Tw.cr K18
noncomputable def K21 := Tw.cr K15
noncomputable def K22 := Tw.cl K21
noncomputable def K23 := Tw.cl K22
noncomputable def K24 := Tw.cl K23
noncomputable def K25 := Tw.cr K23
noncomputable def K26 := Tw.cl K25
noncomputable def K27 := Tw.cl K26
noncomputable def K28 := Tw.cr K26
noncomputable def K29 := Tw.cl K28
noncomputable def K30 := Tw.cl K29
noncomputable def K31 := Tw.cr K29
noncomputable def K32 := Tw.cl K31
noncomputable def K33 := Tw.cl K32
noncomputable def K34 := Tw.cl K33
noncomputable def K35 := Tw.cl K34
noncomputable def K36 := Tw.cr K34
noncomputable def K37 := Tw.cl K36
noncomputable def K38 := Tw.cr K36
noncomputable def K39 := Tw.cr K33
noncomputable def K40 := Tw.cl K39
noncomputable def K41 := Tw.cl K40
noncomputable def K42 := Tw.cl K41
noncomputable def K43 := Tw.cr K41
noncomputable def K44 := Tw.cl K43
noncomputable def K45 := Tw.cl K44
noncomputable def K46 := Tw.cr K44
noncomputable def K47 := Tw.cr K43
noncomputable def K48 := Tw.cr K39
noncomputable def K49 := Tw.cr K28
noncomputable def K50 := Tw.cl K49
noncomputable def K51 := Tw.cr K49
noncomputable def K52 := Tw.cl K51
noncomputable def K53 := Tw.cr K51
noncomputable def K54 := Tw.cr K25
noncomputable def K55 := Tw.cr K21
noncomputable def K56 := Tw.cr K10
noncomputable def K57 := Tw.cl K56
noncomputable def K58 := Tw.cr K56
noncomputable abbrev gl (R : Ending → Hp → Prop) : Gl := Gl.fn prog 63 61 R
def pt17 (R : Ending → Hp → Prop) (p0 : Option Addr) (n0 : Nat) (c0 : Nat) (x3 : Int) (σ : Hp) : Prop := ∀ (J : Env), At (gl R) [.code K17, .code K18, .code K21, .inLoop K15, .inBlock 0, .code K56] (upds J [(0, (.slice p0 n0 c0)), (3, (.int .i64 x3))]) [] σ
def pt35 (R : Ending → Hp → Prop) (p0 : Option Addr) (n0 : Nat) (c0 : Nat) (x3 : Int) (p4 : Option Addr) (n4 : Nat) (c4 : Nat) (x5 : Int) (σ : Hp) : Prop := ∀ (J : Env), At (gl R) [.code K35, .code K36, .code K39, .inLoop K33, .inBlock 2, .code K49, .inBlock 1, .code K55, .inLoop K15, .inBlock 0, .code K56] (upds J [(0, (.slice p0 n0 c0)), (3, (.int .i64 x3)), (4, (.slice p4 n4 c4)), (5, (.int .i64 x5))]) [] σ
def pt48 (R : Ending → Hp → Prop) (p0 : Option Addr) (n0 : Nat) (c0 : Nat) (x3 : Int) (p4 : Option Addr) (n4 : Nat) (c4 : Nat) (x5 : Int) (σ : Hp) : Prop := ∀ (J : Env), At (gl R) [.code K48, .inLoop K33, .inBlock 2, .code K49, .inBlock 1, .code K55, .inLoop K15, .inBlock 0, .code K56] (upds J [(0, (.slice p0 n0 c0)), (3, (.int .i64 x3)), (4, (.slice p4 n4 c4)), (5, (.int .i64 x5))]) [] σ
theorem start {R : Ending → Hp → Prop} {p0 : Option Addr} {n0 : Nat} {c0 : Nat} {σ : Hp} (h : (((n0 : Int) : Int) < 2 → R (.returned (.slice p0 n0 c0)) σ) ∧ (¬ (((n0 : Int) : Int) < 2) → pt17 R p0 n0 c0 1 σ)) : Spec prog 63 #[(.slice p0 n0 c0)] σ R := by
 refine Spec.of_at (fn := f63) (c := K0) func63 (by kernel_rfl) (Nat.le_of_ble_eq_true (by kernel_rfl)) (fun e he => ?_)
 refine At.ofL (l := [(0, (.slice p0 n0 c0))]) ⟨he 0, trivial⟩ (fun J => ?_)
 show At (gl R) _ _ _ _
 refine At.s K1 K2 ?_
 refine At.rg 0 [0] ?_
 refine Seq.u 2 (.slice none 0 0) ?_
 refine Seq.done ?_
 refine At.L [(0, (.slice p0 n0 c0))] fun J => ?_
 refine At.s K3 K10 ?_
 refine At.s K4 K5 ?_
 refine At.rg 1 [0, 1, 2] ?_
 refine Seq.u 6 (.slice p0 n0 c0) ?_
 refine Seq.z 7 (.call { callee := .builtin .len, args := #[(.tmp 6)], argTypes := #[53] }) 3 (.int .i64 (n0 : Int)) (Y.lenS underlying53 rfl rfl) ?_
 refine Seq.u 8 (.bool (decide (((n0 : Int) : Int) < 2))) ?_
 refine Seq.done ?_
 refine At.L [(0, (.slice p0 n0 c0)), (8, (.bool (decide (((n0 : Int) : Int) < 2))))] fun J => ?_
 cases hb : (decide (((n0 : Int) : Int) < 2)) with
 | true =>
  replace h := h.1 (of_decide_eq_true hb)
  refine At.cT 8 K6 K9 ?_
  refine At.s K7 K8 ?_
  refine At.rg 2 [0, 1] ?_
  refine Seq.u 9 (.slice p0 n0 c0) ?_
  refine Seq.u 2 (.slice p0 n0 c0) ?_
  refine Seq.done ?_
  refine At.L [(2, (.slice p0 n0 c0))] fun J => ?_
  exact At.rt [.tmp 2] [(.slice p0 n0 c0)] func63 ⟨_, rfl, rfl⟩ h
 | false =>
  replace h := h.2 (of_decide_eq_false hb)
  refine At.cF 8 K6 K9 ?_
  refine At.skip ?_
  refine At.s K11 K56 ?_
  refine At.s K12 K13 ?_
  refine At.rg 3 [0] ?_
  refine Seq.u 3 (.int .i64 1) ?_
  refine Seq.done ?_
  refine At.L [(0, (.slice p0 n0 c0)), (3, (.int .i64 1))] fun J => ?_
  refine At.b 0 K14 ?_
  refine At.loop (x := K15) (by kernel_rfl) ?_
  refine At.s K16 K21 ?_
  refine At.s K17 K18 ?_
  exact At.v [(0, (.slice p0 n0 c0)), (3, (.int .i64 1))] (h _)
theorem pt17_of {R : Ending → Hp → Prop} {p0 : Option Addr} {n0 : Nat} {c0 : Nat} {x3 : Int} {σ : Hp} (h : ((x3 : Int) < (n0 : Int) → ∃ (b18 o18 : Nat), p0 = some ⟨b18, o18, none⟩ ∧ ((0 : Int) ≤ x3 ∧ x3 < (n0 : Int)) ∧ ∃ x19 : Int, Hp.ld σ ⟨b18, (o18 + Int.toNat x3 * 1), none⟩ = some (.int .u32 x19) ∧ I64 (x3 - 1) ∧ ((0 : Int) ≤ (x3 - 1) ∧ (x3 - 1) < (n0 : Int)) ∧ ∃ x24 : Int, Hp.ld σ ⟨b18, (o18 + Int.toNat (x3 - 1) * 1), none⟩ = some (.int .u32 x24) ∧ ((x19 : Int) = x24 → ((0 : Int) ≤ x3 ∧ x3 ≤ (n0 : Int)) ∧ pt35 R ((some ⟨b18, o18, none⟩)) n0 c0 x3 ((slP (some ⟨b18, o18, none⟩) (Int.toNat x3) c0 1)) ((n0 - Int.toNat x3)) ((c0 - Int.toNat x3)) 1 σ) ∧ (¬ ((x19 : Int) = x24) → I64 (x3 + 1) ∧ pt17 R ((some ⟨b18, o18, none⟩)) n0 c0 ((x3 + 1)) σ)) ∧ (¬ ((x3 : Int) < (n0 : Int)) → R (.returned (.slice p0 n0 c0)) σ)) : pt17 R p0 n0 c0 x3 σ := by
 intro J
 show At (gl R) _ _ _ _
 refine At.rg 4 [0, 1, 2, 3] ?_
 refine Seq.u 10 (.int .i64 x3) ?_
 refine Seq.u 11 (.slice p0 n0 c0) ?_
 refine Seq.z 12 (.call { callee := .builtin .len, args := #[(.tmp 11)], argTypes := #[53] }) 3 (.int .i64 (n0 : Int)) (Y.lenS underlying53 rfl rfl) ?_
 refine Seq.u 13 (.bool (decide ((x3 : Int) < (n0 : Int)))) ?_
 refine Seq.done ?_
 refine At.L [(0, (.slice p0 n0 c0)), (3, (.int .i64 x3)), (13, (.bool (decide ((x3 : Int) < (n0 : Int)))))] fun J => ?_
 cases hb : (decide ((x3 : Int) < (n0 : Int))) with
 | true =>
  replace h := h.1 (of_decide_eq_true hb)
  refine At.cT 13 K19 K20 ?_
  refine At.skip ?_
  refine At.s K22 K55 ?_
  refine At.b 1 K23 ?_
  refine At.s K24 K25 ?_
  refine At.draw (id := 6) (ops := cO K24) (n := 10) (q := none) (plan := [(0, true), (1, true), (2, true), (3, true), (4, true), (5, true), (6, true), (7, true), (8, true), (9, true)]) (tl := []) mixed (by kernel_rfl) (by kernel_rfl) ?_
  refine Head.u 16 (.slice p0 n0 c0) ?_
  refine Head.u 17 (.int .i64 x3) ?_
  obtain ⟨b18, o18, hq, h⟩ := h
  subst hq
  obtain ⟨hi, h⟩ := h
  refine Head.z 18 (.indexAddr 53 (.tmp 16) (.tmp 17)) 0 (.pointer (some ⟨b18, (o18 + Int.toNat x3 * 1), none⟩)) (Y.idx underlying53 sizeOf26 rfl rfl hi rfl) ?_
  obtain ⟨x19, hl, h⟩ := h
  refine Head.z 19 (.load 26 (.tmp 18)) 26 (.int .u32 x19) (Y.ld isAgg26 rfl hl) ?_
  refine Head.u 20 (.slice (some ⟨b18, o18, none⟩) n0 c0) ?_
  refine Head.u 21 (.int .i64 x3) ?_
  obtain ⟨hi, h⟩ := h
  refine Head.z 22 (.binOp .sub 3 (.tmp 21) (.const (.int .i64 1)) 3) 3 (.int .i64 (x3 - 1)) (Y.subI hi rfl rfl) ?_
  obtain ⟨hi, h⟩ := h
  refine Head.z 23 (.indexAddr 53 (.tmp 20) (.tmp 22)) 0 (.pointer (some ⟨b18, (o18 + Int.toNat (x3 - 1) * 1), none⟩)) (Y.idx underlying53 sizeOf26 rfl rfl hi rfl) ?_
  obtain ⟨x24, hl, h⟩ := h
  refine Head.z 24 (.load 26 (.tmp 23)) 26 (.int .u32 x24) (Y.ld isAgg26 rfl hl) ?_
  refine Head.u 25 (.bool (decide ((x19 : Int) = x24))) ?_
  refine Head.done ?_
  refine Seq.done ?_
  refine At.L [(0, (.slice (some ⟨b18, o18, none⟩) n0 c0)), (3, (.int .i64 x3)), (25, (.bool (decide ((x19 : Int) = x24))))] fun J => ?_
  cases hb : (decide ((x19 : Int) = x24)) with
  | true =>
   replace h := h.1 (of_decide_eq_true hb)
   refine At.cT 25 K26 K54 ?_
   refine At.s K27 K28 ?_
   refine At.rg 7 [0, 1, 2, 3] ?_
   refine Seq.u 26 (.slice (some ⟨b18, o18, none⟩) n0 c0) ?_
   refine Seq.u 27 (.int .i64 x3) ?_
   obtain ⟨hs, h⟩ := h
   refine Seq.z 28 (.slice 53 (.tmp 26) (some (.tmp 27)) none none) 53 (.slice (slP (some ⟨b18, o18, none⟩) (Int.toNat x3) c0 1) (n0 - Int.toNat x3) (c0 - Int.toNat x3)) (Y.sll underlying53 sizeOf26 rfl rfl hs) ?_
   refine Seq.u 4 (.slice (slP (some ⟨b18, o18, none⟩) (Int.toNat x3) c0 1) (n0 - Int.toNat x3) (c0 - Int.toNat x3)) ?_
   refine Seq.done ?_
   refine At.L [(0, (.slice (some ⟨b18, o18, none⟩) n0 c0)), (3, (.int .i64 x3)), (4, (.slice (slP (some ⟨b18, o18, none⟩) (Int.toNat x3) c0 1) (n0 - Int.toNat x3) (c0 - Int.toNat x3)))] fun J => ?_
   refine At.s K29 K49 ?_
   refine At.s K30 K31 ?_
   refine At.rg 8 [0] ?_
   refine Seq.u 5 (.int .i64 1) ?_
   refine Seq.done ?_
   refine At.L [(0, (.slice (some ⟨b18, o18, none⟩) n0 c0)), (3, (.int .i64 x3)), (4, (.slice (slP (some ⟨b18, o18, none⟩) (Int.toNat x3) c0 1) (n0 - Int.toNat x3) (c0 - Int.toNat x3))), (5, (.int .i64 1))] fun J => ?_
   refine At.b 2 K32 ?_
   refine At.loop (x := K33) (by kernel_rfl) ?_
   refine At.s K34 K39 ?_
   refine At.s K35 K36 ?_
   exact At.v [(0, (.slice (some ⟨b18, o18, none⟩) n0 c0)), (3, (.int .i64 x3)), (4, (.slice (slP (some ⟨b18, o18, none⟩) (Int.toNat x3) c0 1) (n0 - Int.toNat x3) (c0 - Int.toNat x3))), (5, (.int .i64 1))] (h _)
  | false =>
   replace h := h.2 (of_decide_eq_false hb)
   refine At.cF 25 K26 K54 ?_
   refine At.skip ?_
   refine At.inBlock ?_
   refine At.rg 5 [0, 1, 2] ?_
   refine Seq.u 14 (.int .i64 x3) ?_
   obtain ⟨hi, h⟩ := h
   refine Seq.z 15 (.binOp .add 3 (.tmp 14) (.const (.int .i64 1)) 3) 3 (.int .i64 (x3 + 1)) (Y.addI hi rfl rfl) ?_
   refine Seq.u 3 (.int .i64 (x3 + 1)) ?_
   refine Seq.done ?_
   refine At.L [(0, (.slice (some ⟨b18, o18, none⟩) n0 c0)), (3, (.int .i64 (x3 + 1)))] fun J => ?_
   refine At.inLoop ?_
   refine At.s K16 K21 ?_
   refine At.s K17 K18 ?_
   exact At.v [(0, (.slice (some ⟨b18, o18, none⟩) n0 c0)), (3, (.int .i64 (x3 + 1)))] (h _)
 | false =>
  replace h := h.2 (of_decide_eq_false hb)
  refine At.cF 13 K19 K20 ?_
  refine At.x 0 [.code K56] ?_
  refine At.s K57 K58 ?_
  refine At.rg 16 [0, 1] ?_
  refine Seq.u 60 (.slice p0 n0 c0) ?_
  refine Seq.u 2 (.slice p0 n0 c0) ?_
  refine Seq.done ?_
  refine At.L [(2, (.slice p0 n0 c0))] fun J => ?_
  exact At.rt [.tmp 2] [(.slice p0 n0 c0)] func63 ⟨_, rfl, rfl⟩ h
theorem pt35_of {R : Ending → Hp → Prop} {p0 : Option Addr} {n0 : Nat} {c0 : Nat} {x3 : Int} {p4 : Option Addr} {n4 : Nat} {c4 : Nat} {x5 : Int} {σ : Hp} (h : ((x5 : Int) < (n4 : Int) → ∃ (b37 o37 : Nat), p4 = some ⟨b37, o37, none⟩ ∧ ((0 : Int) ≤ x5 ∧ x5 < (n4 : Int)) ∧ ∃ x38 : Int, Hp.ld σ ⟨b37, (o37 + Int.toNat x5 * 1), none⟩ = some (.int .u32 x38) ∧ I64 (x5 - 1) ∧ ((0 : Int) ≤ (x5 - 1) ∧ (x5 - 1) < (n4 : Int)) ∧ ∃ x43 : Int, Hp.ld σ ⟨b37, (o37 + Int.toNat (x5 - 1) * 1), none⟩ = some (.int .u32 x43) ∧ ((x38 : Int) ≠ x43 → ((0 : Int) ≤ x5 ∧ x5 < (n4 : Int)) ∧ ∃ x50 : Int, Hp.ld σ ⟨b37, (o37 + Int.toNat x5 * 1), none⟩ = some (.int .u32 x50) ∧ ∃ (b51 o51 : Nat), p0 = some ⟨b51, o51, none⟩ ∧ ((0 : Int) ≤ x3 ∧ x3 < (n0 : Int)) ∧ Eff prog (Instr.storeAt 26 (.pointer (some ⟨b51, (o51 + Int.toNat x3 * 1), none⟩)) (.int .u32 x50)) σ (fun _ σ1 => I64 (x3 + 1) ∧ pt48 R ((some ⟨b51, o51, none⟩)) n0 c0 ((x3 + 1)) ((some ⟨b37, o37, none⟩)) n4 c4 x5 σ1)) ∧ (¬ ((x38 : Int) ≠ x43) → pt48 R p0 n0 c0 x3 ((some ⟨b37, o37, none⟩)) n4 c4 x5 σ)) ∧ (¬ ((x5 : Int) < (n4 : Int)) → ((0 : Int) ≤ x3 ∧ x3 ≤ (n0 : Int)) ∧ Eff prog (Builtin.clear_ #[53] 0 #[(.slice (slP p0 (Int.toNat x3) c0 1) (n0 - Int.toNat x3) (c0 - Int.toNat x3))]) σ (fun v σ1 => ((0 : Int) ≤ x3 ∧ x3 ≤ (c0 : Int)) ∧ R (.returned (.slice p0 (Int.toNat x3) c0)) σ1))) : pt35 R p0 n0 c0 x3 p4 n4 c4 x5 σ := by
 intro J
 show At (gl R) _ _ _ _
 refine At.rg 9 [0, 1, 2, 3] ?_
 refine Seq.u 29 (.int .i64 x5) ?_
 refine Seq.u 30 (.slice p4 n4 c4) ?_
 refine Seq.z 31 (.call { callee := .builtin .len, args := #[(.tmp 30)], argTypes := #[53] }) 3 (.int .i64 (n4 : Int)) (Y.lenS underlying53 rfl rfl) ?_
 refine Seq.u 32 (.bool (decide ((x5 : Int) < (n4 : Int)))) ?_
 refine Seq.done ?_
 refine At.L [(0, (.slice p0 n0 c0)), (3, (.int .i64 x3)), (4, (.slice p4 n4 c4)), (5, (.int .i64 x5)), (32, (.bool (decide ((x5 : Int) < (n4 : Int)))))] fun J => ?_
 cases hb : (decide ((x5 : Int) < (n4 : Int))) with
 | true =>
  replace h := h.1 (of_decide_eq_true hb)
  refine At.cT 32 K37 K38 ?_
  refine At.skip ?_
  refine At.s K40 K48 ?_
  refine At.b 3 K41 ?_
  refine At.s K42 K43 ?_
  refine At.draw (id := 11) (ops := cO K42) (n := 10) (q := none) (plan := [(0, true), (1, true), (2, true), (3, true), (4, true), (5, true), (6, true), (7, true), (8, true), (9, true)]) (tl := []) mixed (by kernel_rfl) (by kernel_rfl) ?_
  refine Head.u 35 (.slice p4 n4 c4) ?_
  refine Head.u 36 (.int .i64 x5) ?_
  obtain ⟨b37, o37, hq, h⟩ := h
  subst hq
  obtain ⟨hi, h⟩ := h
  refine Head.z 37 (.indexAddr 53 (.tmp 35) (.tmp 36)) 0 (.pointer (some ⟨b37, (o37 + Int.toNat x5 * 1), none⟩)) (Y.idx underlying53 sizeOf26 rfl rfl hi rfl) ?_
  obtain ⟨x38, hl, h⟩ := h
  refine Head.z 38 (.load 26 (.tmp 37)) 26 (.int .u32 x38) (Y.ld isAgg26 rfl hl) ?_
  refine Head.u 39 (.slice (some ⟨b37, o37, none⟩) n4 c4) ?_
  refine Head.u 40 (.int .i64 x5) ?_
  obtain ⟨hi, h⟩ := h
  refine Head.z 41 (.binOp .sub 3 (.tmp 40) (.const (.int .i64 1)) 3) 3 (.int .i64 (x5 - 1)) (Y.subI hi rfl rfl) ?_
  obtain ⟨hi, h⟩ := h
  refine Head.z 42 (.indexAddr 53 (.tmp 39) (.tmp 41)) 0 (.pointer (some ⟨b37, (o37 + Int.toNat (x5 - 1) * 1), none⟩)) (Y.idx underlying53 sizeOf26 rfl rfl hi rfl) ?_
  obtain ⟨x43, hl, h⟩ := h
  refine Head.z 43 (.load 26 (.tmp 42)) 26 (.int .u32 x43) (Y.ld isAgg26 rfl hl) ?_
  refine Head.u 44 (.bool (decide ((x38 : Int) ≠ x43))) ?_
  refine Head.done ?_
  refine Seq.done ?_
  refine At.L [(0, (.slice p0 n0 c0)), (3, (.int .i64 x3)), (4, (.slice (some ⟨b37, o37, none⟩) n4 c4)), (5, (.int .i64 x5)), (44, (.bool (decide ((x38 : Int) ≠ x43))))] fun J => ?_
  cases hb : (decide ((x38 : Int) ≠ x43)) with
  | true =>
   replace h := h.1 (of_decide_eq_true hb)
   refine At.cT 44 K44 K47 ?_
   refine At.s K45 K46 ?_
   refine At.rg 12 [0, 1, 2, 3, 4, 5, 6, 7] ?_
   refine Seq.u 45 (.slice p0 n0 c0) ?_
   refine Seq.u 46 (.int .i64 x3) ?_
   refine Seq.u 47 (.slice (some ⟨b37, o37, none⟩) n4 c4) ?_
   refine Seq.u 48 (.int .i64 x5) ?_
   obtain ⟨hi, h⟩ := h
   refine Seq.z 49 (.indexAddr 53 (.tmp 47) (.tmp 48)) 0 (.pointer (some ⟨b37, (o37 + Int.toNat x5 * 1), none⟩)) (Y.idx underlying53 sizeOf26 rfl rfl hi rfl) ?_
   obtain ⟨x50, hl, h⟩ := h
   refine Seq.z 50 (.load 26 (.tmp 49)) 26 (.int .u32 x50) (Y.ld isAgg26 rfl hl) ?_
   obtain ⟨b51, o51, hq, h⟩ := h
   subst hq
   obtain ⟨hi, h⟩ := h
   refine Seq.z 51 (.indexAddr 53 (.tmp 45) (.tmp 46)) 0 (.pointer (some ⟨b51, (o51 + Int.toNat x3 * 1), none⟩)) (Y.idx underlying53 sizeOf26 rfl rfl hi rfl) ?_
   refine Seq.o ?_
   refine OpTo.store (T := 26) (ty := 0) (x := (.tmp 51)) (y := (.tmp 50)) (p := (.pointer (some ⟨b51, (o51 + Int.toNat x3 * 1), none⟩))) (v := (.int .u32 x50)) (gd := none) (by kernel_rfl) rfl rfl rfl (h.mono (fun _ σ1 h2 => ?_)); replace h := h2; clear h2
   refine Seq.done ?_
   refine At.L [(0, (.slice (some ⟨b51, o51, none⟩) n0 c0)), (3, (.int .i64 x3)), (4, (.slice (some ⟨b37, o37, none⟩) n4 c4)), (5, (.int .i64 x5))] fun J => ?_
   refine At.rg 13 [0, 1, 2] ?_
   refine Seq.u 52 (.int .i64 x3) ?_
   obtain ⟨hi, h⟩ := h
   refine Seq.z 53 (.binOp .add 3 (.tmp 52) (.const (.int .i64 1)) 3) 3 (.int .i64 (x3 + 1)) (Y.addI hi rfl rfl) ?_
   refine Seq.u 3 (.int .i64 (x3 + 1)) ?_
   refine Seq.done ?_
   refine At.L [(0, (.slice (some ⟨b51, o51, none⟩) n0 c0)), (3, (.int .i64 (x3 + 1))), (4, (.slice (some ⟨b37, o37, none⟩) n4 c4)), (5, (.int .i64 x5))] fun J => ?_
   refine At.inBlock ?_
   exact At.v [(0, (.slice (some ⟨b51, o51, none⟩) n0 c0)), (3, (.int .i64 (x3 + 1))), (4, (.slice (some ⟨b37, o37, none⟩) n4 c4)), (5, (.int .i64 x5))] (h _)
  | false =>
   replace h := h.2 (of_decide_eq_false hb)
   refine At.cF 44 K44 K47 ?_
   refine At.skip ?_
   refine At.inBlock ?_
   exact At.v [(0, (.slice p0 n0 c0)), (3, (.int .i64 x3)), (4, (.slice (some ⟨b37, o37, none⟩) n4 c4)), (5, (.int .i64 x5))] (h _)
 | false =>
  replace h := h.2 (of_decide_eq_false hb)
  refine At.cF 32 K37 K38 ?_
  refine At.x 2 [.code K49, .inBlock 1, .code K55, .inLoop K15, .inBlock 0, .code K56] ?_
  refine At.s K50 K51 ?_
  refine At.rg 14 [0, 1, 2, 3] ?_
  refine Seq.u 54 (.slice p0 n0 c0) ?_
  refine Seq.u 55 (.int .i64 x3) ?_
  obtain ⟨hs, h⟩ := h
  refine Seq.z 56 (.slice 53 (.tmp 54) (some (.tmp 55)) none none) 53 (.slice (slP p0 (Int.toNat x3) c0 1) (n0 - Int.toNat x3) (c0 - Int.toNat x3)) (Y.sll underlying53 sizeOf26 rfl rfl hs) ?_
  refine Seq.o ?_
  refine OpTo.eff (d := none) (op := (.call { callee := .builtin .clear, args := #[(.tmp 56)], argTypes := #[53] })) (ty := 0) (gd := none) (by kernel_rfl) rfl rfl (Builtin.clear_ #[53] 0 #[(.slice (slP p0 (Int.toNat x3) c0 1) (n0 - Int.toNat x3) (c0 - Int.toNat x3))]) (fun o ho ht => exec_b_clear rfl o ho ht) (h.mono (fun v σ1 h2 => ?_)); replace h := h2; clear h2
  refine Seq.done ?_
  refine At.L [(0, (.slice p0 n0 c0)), (3, (.int .i64 x3))] fun J => ?_
  refine At.s K52 K53 ?_
  refine At.rg 15 [0, 1, 2, 3] ?_
  refine Seq.u 57 (.slice p0 n0 c0) ?_
  refine Seq.u 58 (.int .i64 x3) ?_
  obtain ⟨hs, h⟩ := h
  refine Seq.z 59 (.slice 53 (.tmp 57) none (some (.tmp 58)) none) 53 (.slice p0 (Int.toNat x3) c0) (Y.slh underlying53 sizeOf26 rfl rfl hs) ?_
  refine Seq.u 2 (.slice p0 (Int.toNat x3) c0) ?_
  refine Seq.done ?_
  refine At.L [(2, (.slice p0 (Int.toNat x3) c0))] fun J => ?_
  exact At.rt [.tmp 2] [(.slice p0 (Int.toNat x3) c0)] func63 ⟨_, rfl, rfl⟩ h
theorem pt48_of {R : Ending → Hp → Prop} {p0 : Option Addr} {n0 : Nat} {c0 : Nat} {x3 : Int} {p4 : Option Addr} {n4 : Nat} {c4 : Nat} {x5 : Int} {σ : Hp} (h : I64 (x5 + 1) ∧ pt35 R p0 n0 c0 x3 p4 n4 c4 ((x5 + 1)) σ) : pt48 R p0 n0 c0 x3 p4 n4 c4 x5 σ := by
 intro J
 show At (gl R) _ _ _ _
 refine At.rg 10 [0, 1, 2] ?_
 refine Seq.u 33 (.int .i64 x5) ?_
 obtain ⟨hi, h⟩ := h
 refine Seq.z 34 (.binOp .add 3 (.tmp 33) (.const (.int .i64 1)) 3) 3 (.int .i64 (x5 + 1)) (Y.addI hi rfl rfl) ?_
 refine Seq.u 5 (.int .i64 (x5 + 1)) ?_
 refine Seq.done ?_
 refine At.L [(0, (.slice p0 n0 c0)), (3, (.int .i64 x3)), (4, (.slice p4 n4 c4)), (5, (.int .i64 (x5 + 1)))] fun J => ?_
 refine At.inLoop ?_
 refine At.s K34 K39 ?_
 refine At.s K35 K36 ?_
 exact At.v [(0, (.slice p0 n0 c0)), (3, (.int .i64 x3)), (4, (.slice p4 n4 c4)), (5, (.int .i64 (x5 + 1)))] (h _)
end slices_Compact_uint32
end TwR
end
section
namespace TwR
open Go Tw

/-! Numbers as bytes -/
def uv (x : Nat) : List Int := if h : 128 ≤ x then ((x % 128 + 128 : Nat) : Int) :: uv (x / 128) else [(x : Int)]
termination_by x
decreasing_by omega

theorem uv_big {x : Nat} (h : 128 ≤ x) : uv x = ((x % 128 + 128 : Nat) : Int) :: uv (x / 128) := by rw [uv, dif_pos h]
theorem uv_small {x : Nat} (h : ¬ 128 ≤ x) : uv x = [(x : Int)] := by rw [uv, dif_neg h]
theorem uv_len : ∀ (k x : Nat), x < 128 ^ (k + 1) → (uv x).length ≤ k + 1
  | 0, x, h => by rw [uv_small (by simpa using h)]; simp
  | k + 1, x, h => by
    by_cases hx : 128 ≤ x
    · rw [uv_big hx]
      have := uv_len k (x / 128) (by rw [Nat.div_lt_iff_lt_mul (by decide)]; rw [Nat.pow_succ] at h; exact h)
      simp; omega
    · rw [uv_small hx]; simp
theorem uv_len10 {x : Nat} (h : x < 18446744073709551616) : (uv x).length ≤ 10 := uv_len 9 x (by omega)

set_option maxRecDepth 100000 in
theorem or_u8 : ∀ y : Fin 256, Go.bits .or .u8 (y.1 : Int) 128 = ((y.1 % 128 + 128 : Nat) : Int) := by decide
set_option maxRecDepth 100000 in
theorem or_128 : ∀ y : Fin 128, (y.1 ||| 128) = y.1 + 128 := by decide

theorem putUint_spec {R : Ending → Hp → Prop} {σ : Hp} {p : Option Addr} {n c x : Nat} {xs : List Int} (hr : RdI .u8 σ p n xs) (hn : n ≤ 70368744177664) (hx : x < 18446744073709551616)
    (h : ∀ p' n' c' σ', OwnI .u8 (σ.new σ') p' n' c' (xs ++ uv x) → Ext σ σ' → R (.returned (.slice p' n' c')) σ') : Spec prog codec_PutUint.fid #[.slice p n c, .int .u64 x] σ R := by
  refine codec_PutUint.start fun b hb => ?_
  refine app_eff Own.empty ((RdC.of_map hr).mono (.set hb)) OneC.map_int (by omega) fun p' c' σ' hown hext => ?_
  have hq : ∀ a : Addr, (some (⟨b, 0, none⟩ : Addr)) = some a → σ a.block = none := fun a ha => by cases ha; exact hb
  have ho := Own.to_new hown (new_block hq hext (.set hb))
  have he := ext_new hq hext (.set hb)
  refine ⟨p', 0 + n, c', rfl, ?_⟩
  rw [Nat.zero_add] at ho ⊢
  have hlen := hr.1
  suffices H : ∀ (k x n' : Nat) p' c' σ' ys, x < 128 ^ (k + 1) → n' + k ≤ n + 9 → OwnI .u8 (σ.new σ') p' n' c' ys → Ext σ σ' → (∀ p' n' c' σ', OwnI .u8 (σ.new σ') p' n' c' (ys ++ uv x) → Ext σ σ' → R (.returned (.slice p' n' c')) σ') → codec_PutUint.pt9 R x p' n' c' σ' from
    H 9 x n p' c' σ' xs (by omega) (by omega) ho he h
  intro k
  induction k with
  | zero =>
    intro x n' p' c' σ' ys hx hn' ho he h
    refine codec_PutUint.pt9_of ⟨fun hlt => by omega, fun _ x21 hx21 b2 hb2 => ?_⟩
    have hxx : x21 = (x : Int) := by rw [hx21]; simp [IntKind.wrap, IntKind.bits, IntKind.signed]; omega
    subst hxx
    refine OwnI.app1 he ho (by omega) (fun p2 c2 σ2 ho2 he2 _ => ⟨p2, n' + 1, c2, rfl, h _ _ _ _ ?_ he2⟩) hb2
    rw [uv_small (by omega)]; exact ho2
  | succ k ih =>
    intro x n' p' c' σ' ys hx hn' ho he h
    refine codec_PutUint.pt9_of ⟨fun hlt x15 hx15 x16 hx16 b2 hb2 => ?_, fun hge x21 hx21 b2 hb2 => ?_⟩
    · have h15 : x15 = ((x % 256 : Nat) : Int) := by rw [hx15]; simp [IntKind.wrap, IntKind.bits, IntKind.signed]
      have h16 : x16 = ((x % 128 + 128 : Nat) : Int) := by
        rw [hx16, h15, or_u8 ⟨x % 256, Nat.mod_lt _ (by decide)⟩]
        have : x % 256 % 128 = x % 128 := by omega
        rw [this]
      subst h16
      refine OwnI.app1 he ho (by omega) (fun p2 c2 σ2 ho2 he2 _ => ⟨p2, n' + 1, c2, rfl, by simp [IntKind.bits], fun x12 hx12 => ?_⟩) hb2
      have h12 : x12 = ((x / 128 : Nat) : Int) := by rw [hx12]; simp
      subst h12
      refine ih (x / 128) (n' + 1) p2 c2 σ2 _ (by rw [Nat.div_lt_iff_lt_mul (by decide)]; rw [Nat.pow_succ] at hx; exact hx) (by omega) ho2 he2 fun p3 n3 c3 σ3 ho3 he3 => h p3 n3 c3 σ3 ?_ he3
      rw [uv_big (by omega)]
      simpa using ho3
    · have hxx : x21 = (x : Int) := by rw [hx21]; simp [IntKind.wrap, IntKind.bits, IntKind.signed]; omega
      subst hxx
      refine OwnI.app1 he ho (by omega) (fun p2 c2 σ2 ho2 he2 _ => ⟨p2, n' + 1, c2, rfl, h _ _ _ _ ?_ he2⟩) hb2
      rw [uv_small (by omega)]; exact ho2

theorem and_127 {x : Nat} (hx : x < 18446744073709551616) : Go.bits .and .u64 (x : Int) 127 = ((x % 128 : Nat) : Int) := by
  have := bits_and_u64_nat x 127 hx (by decide)
  rw [show ((127 : Nat) : Int) = 127 from rfl] at this
  rw [this, Nat.and_two_pow_sub_one_eq_mod x 7]
theorem or_128u {x : Nat} : Go.bits .or .u64 ((x % 128 : Nat) : Int) 128 = ((x % 128 + 128 : Nat) : Int) := by
  have hm := Nat.mod_lt x (show 128 > 0 by decide)
  have := bits_or_u64_nat (x % 128) 128 (by omega) (by decide)
  rw [show ((128 : Nat) : Int) = 128 from rfl] at this
  rw [this, or_128 ⟨x % 128, hm⟩]

theorem refPutUint_spec {R : Ending → Hp → Prop} {σ : Hp} {p : Option Addr} {n c x : Nat} {xs : List Int} (hr : RdI .u8 σ p n xs) (hn : n ≤ 70368744177664) (hx : x < 18446744073709551616)
    (h : ∀ p' n' c' σ', OwnI .u8 (σ.new σ') p' n' c' (xs ++ uv x) → Ext σ σ' → R (.returned (.slice p' n' c')) σ') : Spec prog ref2_PutUint.fid #[.slice p n c, .int .u64 x] σ R := by
  refine ref2_PutUint.start fun b hb => ?_
  refine app_eff Own.empty ((RdC.of_map hr).mono (.set hb)) OneC.map_int (by omega) fun p' c' σ' hown hext => ?_
  have hq : ∀ a : Addr, (some (⟨b, 0, none⟩ : Addr)) = some a → σ a.block = none := fun a ha => by cases ha; exact hb
  have ho := Own.to_new hown (new_block hq hext (.set hb))
  have he := ext_new hq hext (.set hb)
  refine ⟨p', 0 + n, c', rfl, ?_⟩
  rw [Nat.zero_add] at ho ⊢
  have hlen := hr.1
  suffices H : ∀ (k x n' : Nat) p' c' σ' ys, x < 128 ^ (k + 1) → x < 18446744073709551616 → n' + k ≤ n + 9 → OwnI .u8 (σ.new σ') p' n' c' ys → Ext σ σ' → (∀ p' n' c' σ', OwnI .u8 (σ.new σ') p' n' c' (ys ++ uv x) → Ext σ σ' → R (.returned (.slice p' n' c')) σ') → ref2_PutUint.pt9 R x p' n' c' σ' from
    H 9 x n p' c' σ' xs (by omega) hx (by omega) ho he h
  intro k
  induction k with
  | zero =>
    intro x n' p' c' σ' ys hx _ hn' ho he h
    refine ref2_PutUint.pt9_of ⟨fun hlt => by omega, fun _ x21 hx21 b2 hb2 => ?_⟩
    have hxx : x21 = (x : Int) := by rw [hx21]; simp [IntKind.wrap, IntKind.bits, IntKind.signed]; omega
    subst hxx
    refine OwnI.app1 he ho (by omega) (fun p2 c2 σ2 ho2 he2 _ => ⟨p2, n' + 1, c2, rfl, h _ _ _ _ ?_ he2⟩) hb2
    rw [uv_small (by omega)]; exact ho2
  | succ k ih =>
    intro x n' p' c' σ' ys hx hx64 hn' ho he h
    refine ref2_PutUint.pt9_of ⟨fun hlt x13 hx13 x14 hx14 x15 hx15 b2 hb2 => ?_, fun hge x21 hx21 b2 hb2 => ?_⟩
    · rw [and_127 hx64] at hx13
      subst hx13
      rw [or_128u] at hx14
      subst hx14
      have h16 : x15 = ((x % 128 + 128 : Nat) : Int) := by
        rw [hx15]; simp [IntKind.wrap, IntKind.bits, IntKind.signed]; omega
      subst h16
      refine OwnI.app1 he ho (by omega) (fun p2 c2 σ2 ho2 he2 _ => ⟨p2, n' + 1, c2, rfl, by simp [IntKind.bits], fun x12 hx12 => ?_⟩) hb2
      have h12 : x12 = ((x / 128 : Nat) : Int) := by rw [hx12]; simp
      subst h12
      refine ih (x / 128) (n' + 1) p2 c2 σ2 _ (by rw [Nat.div_lt_iff_lt_mul (by decide)]; rw [Nat.pow_succ] at hx; exact hx) (by omega) (by omega) ho2 he2 fun p3 n3 c3 σ3 ho3 he3 => h p3 n3 c3 σ3 ?_ he3
      rw [uv_big (by omega)]
      simpa using ho3
    · have hxx : x21 = (x : Int) := by rw [hx21]; simp [IntKind.wrap, IntKind.bits, IntKind.signed]; omega
      subst hxx
      refine OwnI.app1 he ho (by omega) (fun p2 c2 σ2 ho2 he2 _ => ⟨p2, n' + 1, c2, rfl, h _ _ _ _ ?_ he2⟩) hb2
      rw [uv_small (by omega)]; exact ho2

theorem fnv_spec {R : Ending → Hp → Prop} {σ : Hp} {p : Option Addr} {n c : Nat} {xs : List Int} (hr : RdI .u8 σ p n xs) (h : ∀ x, 0 ≤ x ∧ x < 4294967296 → R (.returned (.int .u32 x)) σ) : Spec prog label_FNV.fid #[.slice p n c] σ R := by
  refine label_FNV.start ?_
  suffices H : ∀ d k : Nat, ∀ x : Int, 0 ≤ x ∧ x < 4294967296 → n - k = d → k ≤ n → label_FNV.pt10 R x p n c n k σ from H n 0 _ (by decide) rfl (by omega)
  intro d
  induction d with
  | zero =>
    intro k x hx hd hk
    exact label_FNV.pt10_of ⟨fun hlt => by omega, fun _ => h x hx⟩
  | succ d ih =>
    intro k x hx hd hk
    refine label_FNV.pt10_of ⟨fun hlt => ?_, fun hge => by omega⟩
    obtain ⟨y, hy⟩ := hr.ex (k := k) (by omega)
    obtain ⟨b, o, rfl, hl⟩ := hr.at hy
    exact ⟨b, o, rfl, by omega, y, by simpa using hl, fun _ _ _ _ x16 hx16 => ⟨i64_succ (by omega) hr.big, ih (k + 1) x16 (by rw [hx16]; simp [IntKind.wrap, IntKind.bits, IntKind.signed]; omega) (by omega) (by omega)⟩⟩
end TwR
end
section
namespace TwR
open Go Tw

set_option maxRecDepth 100000 in
theorem len_spec {R : Ending → Hp → Prop} {σ : Hp} {n : Nat} (hn : n < 256) (h : ∀ x, R (.returned (.int .i64 x)) σ) : Spec prog math_bits_Len.fid #[.int .u64 n] σ R := by
  refine math_bits_Len.start (math_bits_Len64.start ⟨fun h1 => by omega, fun _ => math_bits_Len64.pt12_of ⟨fun h1 => by omega, fun _ => math_bits_Len64.pt20_of ⟨fun h1 => by omega, fun _ => math_bits_Len64.pt27_of fun x hx => ?_⟩⟩⟩)
  have : x = (n : Int) := by rw [hx]; simp [IntKind.wrap, IntKind.bits, IntKind.signed]; omega
  subst this
  refine ⟨_, by omega, Array.getElem?_eq_getElem (by show Int.toNat (n : Int) < 256; omega), fun x23 hx23 => ⟨?_, _, rfl, h _⟩⟩
  generalize hu : UInt8.toNat _ = u at hx23
  have hu2 : u < 256 := by rw [← hu]; exact UInt8.toNat_lt _
  rw [hx23, IntKind.wrap_i64]
  unfold I64
  omega

theorem sort_spec {R : Ending → Hp → Prop} {σ : Hp} {p : Option Addr} {n c : Nat} {xs : List Int} {Q : Int → Prop} (hQ : ∀ x ∈ xs, Q x) (ho : OwnI .u32 σ p n c xs) (hn : n ≤ 12)
    (h : ∀ σ' ys, (∀ y ∈ ys, Q y) → OwnI .u32 σ' p n c ys → Ext (σ.del p) (σ'.del p) → Asc ys n (fun _ => True) → R (.returned (.tuple #[])) σ') : Spec prog slices_Sort_uint32.fid #[.slice p n c] σ R := by
  refine slices_Sort_uint32.start fun x8 hx8 => ?_
  have : x8 = (n : Int) := by rw [hx8]; simp [IntKind.wrap, IntKind.bits, IntKind.signed]; omega
  subst this
  refine len_spec (by omega) fun x => ⟨x, rfl, slices_pdqsortOrdered_uint32.start (slices_pdqsortOrdered_uint32.pt8_of ⟨by unfold I64; omega, fun _ => ?_, fun hgt => by omega⟩)⟩
  refine insertion_spec hQ ho fun σ' ys h0 h1 h2 h3 => ⟨rfl, rfl, h σ' ys h0 h1 h2 h3⟩

theorem rise_of_get {xs : List Int} (h : ∀ (a b : Nat) (x y : Int), a < b → xs[a]? = some x → xs[b]? = some y → x < y) : Rise xs :=
  (List.pairwise_iff_getElem (R := ((· < ·) : Int → Int → Prop))).2 fun i j hi hj hij => h i j _ _ hij (List.getElem?_eq_getElem hi) (List.getElem?_eq_getElem hj)
theorem rise_get {xs : List Int} (h : Rise xs) {a b : Nat} {x y : Int} (hab : a < b) (hx : xs[a]? = some x) (hy : xs[b]? = some y) : x < y := by
  unfold Rise at h
  have := (List.pairwise_iff_getElem (R := ((· < ·) : Int → Int → Prop))).1 h a b (List.getElem?_eq_some_iff.1 hx).1 (List.getElem?_eq_some_iff.1 hy).1 hab
  rwa [(List.getElem?_eq_some_iff.1 hx).2, (List.getElem?_eq_some_iff.1 hy).2] at this

theorem zero26 : ∀ z w, (zeroValue 26).run prog w = .ok z w → OneC z.cells.toList := fun z w h => by
  rw [show (zeroValue 26).run prog w = _ from Go.Proofs.Try.zeroValue26 w] at h
  cases h
  intro u hu
  simp [Value.cells] at hu
  subst hu; rfl

theorem compact_spec {R : Ending → Hp → Prop} {σ : Hp} {p : Option Addr} {n c : Nat} {xs : List Int} {Q : Int → Prop} (hQ : ∀ x ∈ xs, Q x) (ho : OwnI .u32 σ p n c xs) (hs : Asc xs n (fun _ => True)) (hn0 : 0 < n)
    (h : ∀ σ' m ys, (∀ y ∈ ys, Q y) → OwnI .u32 σ' p m c ys → Ext (σ.del p) (σ'.del p) → Rise ys → 0 < m → m ≤ n → R (.returned (.slice p m c)) σ') : Spec prog slices_Compact_uint32.fid #[.slice p n c] σ R := by
  have hb := ho.rd.big
  have hxl := ho.rd.1
  refine slices_Compact_uint32.start ⟨fun hlt => h σ n xs hQ ho (Ext.refl _) (rise_small (by omega)) hn0 (Nat.le_refl _), fun hge => ?_⟩
  suffices H : ∀ d k : Nat, n - k = d → 0 < k → k ≤ n → Rise (xs.take k) → slices_Compact_uint32.pt17 R p n c k σ from H (n - 1) 1 rfl (by omega) (by omega) (rise_small (by simp; omega))
  intro d
  induction d with
  | zero =>
    intro k hd hk hkn hri
    refine slices_Compact_uint32.pt17_of ⟨fun hlt => by omega, fun _ => h σ n xs hQ ho (Ext.refl _) ?_ hn0 (Nat.le_refl _)⟩
    rwa [List.take_of_length_le (by omega)] at hri
  | succ d ih =>
    intro k hd hk hkn hri
    refine slices_Compact_uint32.pt17_of ⟨fun hlt => ?_, fun hge => by omega⟩
    have hk' : k < n := by omega
    obtain ⟨x, hx⟩ := ho.rd.ex hk'
    obtain ⟨y, hy⟩ := ho.rd.ex (k := k - 1) (by omega)
    obtain ⟨b, o, hp, hl⟩ := ho.rd.at hx
    obtain ⟨b', o', he, hl'⟩ := ho.rd.at hy
    rw [hp] at he; cases he
    have e : ((k : Int) - 1) = ((k - 1 : Nat) : Int) := by omega
    have hyx : y ≤ x := hs (k - 1) k y x (by omega) hk' trivial hy hx
    refine ⟨b, o, hp, by omega, x, by simpa using hl, by unfold I64; omega, by omega, y, by rw [e]; simpa using hl', fun heq => ⟨by omega, ?_⟩, fun hne => ⟨i64_succ hk' hb, by rw [← hp]; exact ih (k + 1) (by omega) (by omega) (by omega) (rise_snoc hk hy hx hri (by omega))⟩⟩
    rw [← hp]
    -- the inner loop
    have hcap : n ≤ c := ho.room.1
    suffices H2 : ∀ d2 i j : Nat, ∀ σ' zs, (∀ z ∈ zs, Q z) → n - i = d2 → i ≤ n → 0 < j → j < i → k < i → OwnI .u32 σ' p n c zs → Ext (σ.del p) (σ'.del p) → (∀ a, i ≤ a + 1 → zs[a]? = xs[a]?) → Rise (zs.take j) → zs[j - 1]? = xs[i - 1]? →
        slices_Compact_uint32.pt35 R p n c j (slP p k c 1) (n - k) (c - k) ((i - k : Nat) : Int) σ' by
      have := H2 (n - (k + 1)) (k + 1) k σ xs hQ rfl (by omega) hk (by omega) (by omega) ho (Ext.refl _) (fun _ _ => rfl) hri (by rw [hy, show k + 1 - 1 = k by omega, hx]; simp; omega)
      simpa using this
    intro d2
    induction d2 with
    | zero =>
      intro i j σ' zs hqz hd2 hin hj0 hji hki hown hxt hag hrj hlast
      refine slices_Compact_uint32.pt35_of ⟨fun hlt => by omega, fun _ => ⟨by omega, ?_⟩⟩
      obtain ⟨_, L, hC, hL⟩ := hown.room
      refine clear_eff (s := 1) (j := j) (L := L) (by simpa using hC) (by simp; omega) zero26 fun σ2 ws hws hC2 hx2 => ⟨by omega, ?_⟩
      refine h σ2 j (zs.take j) (fun z hz => hqz z (List.mem_of_mem_take hz)) ?_ (hxt.trans hx2) hrj hj0 (by omega)
      have := hC2.own (n := j) (by omega) (by omega)
      have hLl : L.length = c * 1 := hC.1
      suffices he : List.take (j * 1) (over L (j * 1) ws) = (zs.take j).map (.int .u32) by
        show Own 1 σ2 p j c ((zs.take j).map (.int .u32))
        rw [← he]; exact this
      unfold over
      rw [List.append_assoc, List.take_append_of_le_length (by simp; omega), List.take_take, Nat.min_self]
      rw [List.map_take, ← hL, List.take_take, Nat.mul_one, Nat.mul_one, Nat.min_eq_left (by omega)]
    | succ d2 ih2 =>
      intro i j σ' zs hqz hd2 hin hj0 hji hki hown hxt hag hrj hlast
      have hzl := hown.rd.1
      refine slices_Compact_uint32.pt35_of ⟨fun hlt => ?_, fun hge => by omega⟩
      have hi' : i < n := by omega
      obtain ⟨u, hu⟩ := hown.rd.ex hi'
      obtain ⟨v, hv⟩ := hown.rd.ex (k := i - 1) (by omega)
      obtain ⟨b1, o1, he1, hl1⟩ := hown.rd.at hu
      obtain ⟨b2, o2, he2, hl2⟩ := hown.rd.at hv
      rw [hp] at he1 he2; cases he1; cases he2
      have huo : xs[i]? = some u := by rw [← hag i (by omega)]; exact hu
      have hvo : xs[i - 1]? = some v := by rw [← hag (i - 1) (by omega)]; exact hv
      have hvu : v ≤ u := hs (i - 1) i v u (by omega) hi' trivial hvo huo
      have hsl : slP p k c 1 = some ⟨b, o + k, none⟩ := by rw [hp]; simp [slP, show c ≠ k by omega, add_some]
      have e1 : o + k + (i - k) = o + i := by omega
      have e2 : ((i - k : Nat) : Int) - 1 = ((i - 1 - k : Nat) : Int) := by omega
      have e3 : o + k + (i - 1 - k) = o + (i - 1) := by omega
      have hlu : Hp.ld σ' ⟨b, o + k + Int.toNat ((i - k : Nat) : Int) * 1, none⟩ = some (.int .u32 u) := by
        rw [Int.toNat_natCast, Nat.mul_one, e1]; simpa using hl1
      have hlv : Hp.ld σ' ⟨b, o + k + Int.toNat (((i - k : Nat) : Int) - 1) * 1, none⟩ = some (.int .u32 v) := by
        rw [e2, Int.toNat_natCast, Nat.mul_one, e3]; simpa using hl2
      refine ⟨b, o + k, hsl, by omega, u, hlu, by unfold I64; omega, by omega, v, hlv, fun hne => ⟨by omega, u, hlu, b, o, hp, by omega, ?_⟩, fun heq => slices_Compact_uint32.pt48_of ⟨by unfold I64; omega, ?_⟩⟩
      · suffices H3 : ∀ σ2, OwnI .u32 σ2 p n c (zs.set j u) → Ext (σ'.del p) (σ2.del p) → I64 ((j : Int) + 1) ∧ slices_Compact_uint32.pt48 R (some ⟨b, o, none⟩) n c ((j : Int) + 1) (some ⟨b, o + k, none⟩) (n - k) (c - k) ((i - k : Nat) : Int) σ2 by
          obtain ⟨b3, o3, hp3, heff⟩ := OwnI.stores hown (P := prog) (T := 26) (i := j) (v := u) (by omega) sizeW H3
          rw [hp] at hp3; cases hp3
          simpa using heff
        intro σ2 hown2 hx2
        refine ⟨by unfold I64; omega, slices_Compact_uint32.pt48_of ⟨by unfold I64; omega, ?_⟩⟩
        rw [← hp, ← hsl]
        have hqz2 : ∀ z ∈ zs.set j u, Q z := fun z hz => by
          rcases List.mem_or_eq_of_mem_set hz with hz | rfl
          · exact hqz z hz
          · exact hqz z (List.mem_of_getElem? hu)
        have := ih2 (i + 1) (j + 1) σ2 (zs.set j u) hqz2 (by omega) (by omega) (by omega) (by omega) (by omega) hown2 (hxt.trans hx2) (fun a ha => by rw [List.getElem?_set_ne (by omega)]; exact hag a (by omega)) ?_ ?_
        · have e4 : ((i + 1 - k : Nat) : Int) = ((i - k : Nat) : Int) + 1 := by omega
          rw [e4] at this; exact this
        · have hvj : (zs.set j u)[j - 1]? = some v := by rw [List.getElem?_set_ne (by omega), hlast, hvo]
          have huj : (zs.set j u)[j]? = some u := by rw [List.getElem?_set_self (by omega)]
          refine rise_snoc hj0 hvj huj ?_ (by omega)
          rw [List.take_set_of_le (by omega)]; exact hrj
        · rw [show j + 1 - 1 = j by omega, show i + 1 - 1 = i by omega, List.getElem?_set_self (by omega), huo]
      · rw [← hsl]
        have := ih2 (i + 1) j σ' zs hqz (by omega) (by omega) hj0 (by omega) (by omega) hown hxt (fun a ha => hag a (by omega)) hrj (by rw [hlast, hvo, show i + 1 - 1 = i by omega, huo]; simp; omega)
        have e4 : ((i + 1 - k : Nat) : Int) = ((i - k : Nat) : Int) + 1 := by omega
        rw [e4] at this; exact this
end TwR
end
section
namespace TwR
open Go Tw

theorem Ext.to_own {σ σ1 σ2 : Hp} {p : Option Addr} (h0 : Ext σ σ1) (hp : ∀ a, p = some a → σ a.block = none) (hx : Ext (σ1.del p) (σ2.del p)) : Ext σ σ2 := fun b o hb => by
  have h1 := h0 b o hb
  exact (del_some.1 (hx b o (del_some.2 ⟨fun a ha he => (by rw [he, hp a ha] at hb; cases hb), h1⟩))).2

theorem tokens_spec {R : Ending → Hp → Prop} {σ : Hp} {x : Nat} (hx : x < 16)
    (h : ∀ p n c σ' ys, (∀ y ∈ ys, 0 ≤ y ∧ y < 4294967296) → RdI .u32 (σ.new σ') p n ys → Ext σ σ' → Rise ys → 0 < n → n ≤ 4 → R (.returned (.slice p n c)) σ') : Spec prog ring_Tokens.fid #[.int .i64 x] σ R := by
  refine ring_Tokens.start ?_
  suffices H : ∀ d k : Nat, ∀ p c σ' ys, (∀ y ∈ ys, 0 ≤ y ∧ y < 4294967296) → 4 - k = d → k ≤ 4 → Ext σ σ' → OwnI .u32 (σ.new σ') p k c ys → ring_Tokens.pt11 R x p k c k σ' from H 4 0 none 0 σ [] (by simp) rfl (by omega) (.refl σ) OwnI.nil
  intro d
  induction d with
  | zero =>
    intro k p c σ' ys hq hd hk hext hown
    have hk4 : k = 4 := by omega
    subst hk4
    refine ring_Tokens.pt11_of ⟨fun hlt => by omega, fun _ => ?_⟩
    have hpn := hown.new_none
    refine sort_spec hq (Own.mono (Ext.of_new σ σ') hown) (by omega) fun σ2 zs hqz hown2 hx2 hasc => ⟨rfl, ?_⟩
    refine compact_spec hqz hown2 hasc (by omega) fun σ3 m ws hqw hown3 hx3 hri hm hm4 => ⟨_, _, _, rfl, h _ _ _ _ ws hqw (OwnI.rd (Own.to_new hown3 hpn)) ?_ hri hm hm4⟩
    exact Ext.to_own hext hpn (hx2.trans hx3)
  | succ d ih =>
    intro k p c σ' ys hq hd hk hext hown
    refine ring_Tokens.pt11_of ⟨fun _ x11 hx11 => ?_, fun hge => by omega⟩
    have h11 : x11 = (x : Int) := by rw [hx11]; simp [IntKind.wrap, IntKind.bits, IntKind.signed]; omega
    subst h11
    have hnil : RdI .u8 σ' none 0 [] := RdS.nil
    refine putUint_spec hnil (by omega) (by omega) fun p1 n1 c1 σ1 ho1 he1 => ⟨_, _, _, rfl, ?_⟩
    have hl1 := ho1.rd.1
    have := uv_len10 (x := x) (by omega)
    simp only [List.nil_append] at hl1
    refine putUint_spec (ho1.rd.mono (Ext.of_new _ _)) (by omega) (by omega) fun p2 n2 c2 σ2 ho2 he2 => ⟨_, _, _, rfl, ?_⟩
    refine fnv_spec (ho2.rd.mono (Ext.of_new _ _)) fun t ht => ⟨t, rfl, fun b16 hb16 => ?_⟩
    refine OwnI.app1 ((hext.trans he1).trans he2) (Own.mono (Ext.new_mono (he1.trans he2)) hown) (by omega) (fun p3 c3 σ3 ho3 he3 _ => ⟨_, _, _, rfl, fun x8 hx8 => ?_⟩) hb16
    have h8 : x8 = ((k + 1 : Nat) : Int) := by rw [hx8]; simp [IntKind.wrap, IntKind.bits, IntKind.signed]; omega
    subst h8
    exact ih (k + 1) p3 c3 σ3 _ (fun y hy => by
      rcases List.mem_append.1 hy with hy | hy
      · exact hq y hy
      · simp at hy; subst hy; exact ht) (by omega) (by omega) he3 ho3
end TwR
end
section
namespace TwR
open Go Tw

theorem EMem.one (σ : Hp) (vs : List Value) (m : Mem) (h : EMem σ vs m) : OneC vs := by
  obtain ⟨p, n, c, rfl, _⟩ := h
  exact oneC_mem

theorem zeroM : ∀ z w, (zeroValue 55).run prog w = .ok z w → OneC z.cells.toList := fun z w h => by
  rw [show (zeroValue 55).run prog w = _ from Go.Proofs.Try.zeroValue55 w] at h
  cases h
  intro u hu
  simp [Value.cells] at hu
  rcases hu with rfl | rfl | rfl <;> rfl

theorem sl3 (p : Option Addr) (n c i j : Nat) (hij : i ≤ j) (hj : j ≤ n) (hn : n ≤ c) (σ : Hp) : ∃ p' n' c', YF prog (Instr.sliceAt 23 (.slice p n c) (some (.int .i64 i)) (some (.int .i64 j)) (some (.int .i64 n))) σ (.slice p' n' c') := by
  have hT : prog.underlying 23 = some (.slice (prog.elem 23)) := by
    have h1 := Go.Proofs.Try.underlying23
    rw [elem_of h1]; exact h1
  have hE : prog.elem 23 = 55 := elem_of Go.Proofs.Try.underlying23
  refine ⟨slP p i n 3, j - i, n - i, fun w hs => ?_⟩
  have h1 := run_sliceAt_slice (P := prog) (w := w) 23 (.slice p n c) (some (.int .i64 i)) (some (.int .i64 j)) (some (.int .i64 n)) hT
  have h2 := run_slice_lhm (P := prog) (w := w) 23 p n c hT .i64 .i64 .i64 i j n (by omega) (by omega) (by omega) (by omega)
  rw [h1, h2, hE, show (Go.sizeOf 55).run prog w = _ from Go.Proofs.Try.sizeOf55 w]
  simp [sliced, slP]

theorem delete_spec {R : Ending → Hp → Prop} {σ : Hp} {p : Option Addr} {n c i : Nat} {ms : List Mem} (ho : OwnM σ p n c ms) (hi : i < n)
    (h : ∀ σ', OwnM σ' p (n - 1) c (ms.eraseIdx i) → Ext (σ.del p) (σ'.del p) → R (.returned (.slice p (n - 1) c)) σ') : Spec prog slices_Delete_Member.fid #[.slice p n c, .int .i64 i, .int .i64 (i + 1)] σ R := by
  obtain ⟨hlen, cs, hown, hch⟩ := ho
  obtain ⟨hnc, L, hC, hL⟩ := hown.room
  have hb := hown.2.1
  have hLl := hC.1
  obtain ⟨p3, n3, c3, hy⟩ := sl3 p n c i (i + 1) (by omega) (by omega) hnc σ
  refine slices_Delete_Member.start ⟨p3, n3, c3, by simpa using hy, fun he => by omega, fun _ => ⟨by omega, by omega, ?_⟩⟩
  have e1 : Int.toNat ((i : Int) + 1) = i + 1 := by omega
  simp only [Int.toNat_natCast, e1]
  have hcl := hown.1
  have hrd := hC.rd (i := i + 1) (n := n - (i + 1)) (by omega) (by omega)
  have hsub : (L.drop ((i + 1) * 3)).take ((n - (i + 1)) * 3) = cs.drop ((i + 1) * 3) := by
    rw [← hL, List.drop_take]; congr 1; omega
  rw [hsub] at hrd
  have h1 : OneC (cs.drop ((i + 1) * 3)) := fun u hu => hch.oneC EMem.one (by decide) u (List.mem_of_mem_drop hu)
  have hn1 : i + (n - (i + 1)) = n - 1 := by omega
  refine app_fit hC (by omega) hrd h1 fun σ1 hC1 hx1 => ?_
  rw [hn1]
  refine ⟨p, n - 1, c, rfl, by omega, ?_⟩
  simp only [Int.toNat_natCast, show n - (n - 1) = 1 by omega]
  refine clear_eff hC1 (by omega) zeroM fun σ2 zs hzs hC2 hx2 => ?_
  have hown2 := hC2.own (n := n - 1) (by omega) (by omega)
  have hch' : Ch 3 EMem (σ.del p) (cs.take (i * 3) ++ cs.drop ((i + 1) * 3)) (ms.eraseIdx i) := by
    rw [List.eraseIdx_eq_take_drop_succ]
    exact (hch.take i).append (hch.drop (i + 1))
  have hcells : List.take ((n - 1) * 3) (over (over L (i * 3) (cs.drop ((i + 1) * 3))) ((n - 1) * 3) zs) = cs.take (i * 3) ++ cs.drop ((i + 1) * 3) := by
    have hdl : (cs.drop ((i + 1) * 3)).length = (n - (i + 1)) * 3 := by rw [List.length_drop, hcl]; omega
    have hol : (over L (i * 3) (cs.drop ((i + 1) * 3))).length = L.length := over_length (by rw [hdl]; omega)
    have htl : (L.take (i * 3)).length = i * 3 := by rw [List.length_take]; omega
    have : List.take ((n - 1) * 3) (over L (i * 3) (cs.drop ((i + 1) * 3))) = cs.take (i * 3) ++ cs.drop ((i + 1) * 3) := by
      unfold over
      rw [List.take_append_of_le_length (by rw [List.length_append, htl, hdl]; omega)]
      rw [List.take_of_length_le (by rw [List.length_append, htl, hdl]; omega)]
      rw [← hL, List.take_take, Nat.min_eq_left (by omega)]
    rw [← this]
    generalize over L (i * 3) (cs.drop ((i + 1) * 3)) = M at hol
    unfold over
    rw [List.append_assoc, List.take_append_of_le_length (by rw [List.length_take, hol]; omega), List.take_take, Nat.min_self]
  rw [hcells] at hown2
  exact h σ2 ⟨by rw [List.length_eraseIdx, if_pos (by omega), hlen], _, hown2, hch'.mono EMem.mono (hx1.trans hx2)⟩ (hx1.trans hx2)
end TwR
end
section
namespace TwR
open Go Tw

theorem list_ins {cs vs : List Value} {i n : Nat} (hcl : cs.length = n * 3) (hi : i ≤ n) : (cs.take (i * 3) ++ vs ++ cs.drop (i * 3)).length = n * 3 + vs.length := by
  simp only [List.length_append, List.length_take, List.length_drop]; omega

/-- Over a room: first the tail one place on, then the new. -/
theorem over_ins {L vs : List Value} {i n : Nat} (hl : (n + 1) * 3 ≤ L.length) (hi : i ≤ n) (hv : vs.length = 3) :
    List.take ((n + 1) * 3) (over (over L ((i + 1) * 3) ((L.take (n * 3)).drop (i * 3))) (i * 3) vs) = (L.take (n * 3)).take (i * 3) ++ vs ++ (L.take (n * 3)).drop (i * 3) := by
  have hd : ((L.take (n * 3)).drop (i * 3)).length = n * 3 - i * 3 := by simp; omega
  refine List.ext_getElem? fun k => ?_
  unfold over
  rw [List.getElem?_take, List.take_take, Nat.min_eq_left (by omega)]
  have ht : ∀ M : List Value, (n + 1) * 3 ≤ M.length → (M.take (i * 3)).length = i * 3 := fun M h => by rw [List.length_take]; omega
  have hM : (List.take ((i + 1) * 3) L ++ List.drop (i * 3) (List.take (n * 3) L) ++ List.drop ((i + 1) * 3 + (List.drop (i * 3) (List.take (n * 3) L)).length) L).length = L.length := by
    simp only [List.length_append, List.length_take, List.length_drop]; omega
  by_cases hk : k < (n + 1) * 3
  · rw [if_pos hk]
    by_cases h1 : k < i * 3
    · rw [List.append_assoc, List.getElem?_append_left (by rw [ht _ (by omega)]; omega), List.getElem?_take, if_pos h1, List.append_assoc, List.getElem?_append_left (by rw [List.length_take]; omega), List.getElem?_take, if_pos (by omega),
        List.append_assoc, List.getElem?_append_left (by rw [List.length_take]; omega), List.getElem?_take, if_pos h1]
    · by_cases h2 : k < i * 3 + 3
      · rw [List.append_assoc, List.getElem?_append_right (by rw [ht _ (by omega)]; omega), ht _ (by omega), List.getElem?_append_left (by omega),
          List.append_assoc, List.getElem?_append_right (by rw [List.length_take]; omega), List.length_take, Nat.min_eq_left (by omega), List.getElem?_append_left (by omega)]
      · rw [List.getElem?_append_right (by rw [List.length_append, ht _ (by omega)]; omega), List.length_append, ht _ (by omega), hv, List.getElem?_drop, show i * 3 + 3 + (k - (i * 3 + 3)) = k by omega,
          List.append_assoc, List.getElem?_append_right (by rw [List.length_take]; omega), List.length_take, Nat.min_eq_left (by omega), List.getElem?_append_left (by omega),
          List.getElem?_append_right (by rw [List.length_append, List.length_take]; omega), List.length_append, List.length_take, Nat.min_eq_left (by omega), hv, show (i + 1) * 3 = i * 3 + 3 by omega]
  · rw [if_neg hk, eq_comm, List.getElem?_eq_none]
    simp only [List.length_append, List.length_take, List.length_drop]; omega
end TwR
namespace TwR
open Go Tw

theorem ov_run (args : Array Value) (w : World) : (callFunc 76 args).run prog w = ((Extern.SlicesOverlaps.overlaps #[23, 23] #[4] args).run prog w).andThen (fun v w => .ok (.value v) w) :=
  run_callFunc_extern Go.Proofs.Try.func76 (by kernel_rfl) (by kernel_rfl) (by kernel_rfl) (e := Extern.SlicesOverlaps.overlaps #[23, 23] #[4]) (by kernel_rfl) args w

theorem over_ins2 {L cs vs rest : List Value} {i n : Nat} (hl : (n + 1) * 3 ≤ L.length) (hi : i ≤ n) (hv : vs.length = 3) (hc : L.take (i * 3) = cs) (hr : rest.length = (n - i) * 3) :
    List.take ((n + 1) * 3) (over (over L (i * 3) vs) ((i + 1) * 3) rest) = cs ++ vs ++ rest := by
  have hcl : cs.length = i * 3 := by rw [← hc, List.length_take]; omega
  have h1 : (over L (i * 3) vs).length = L.length := over_length (by omega)
  have h2 : List.take ((i + 1) * 3) (over L (i * 3) vs) = cs ++ vs := by
    unfold over
    rw [hc, List.take_append_of_le_length (by rw [List.length_append]; omega), List.take_of_length_le (by rw [List.length_append]; omega)]
  generalize over L (i * 3) vs = M at *
  unfold over
  rw [h2, List.take_append_of_le_length (by simp only [List.length_append]; omega), List.take_of_length_le (by simp only [List.length_append]; omega)]

theorem insert_spec {R : Ending → Hp → Prop} {σ : Hp} {p : Option Addr} {n c i bv : Nat} {ms : List Mem} {vs : List Value} {Tv : TypeId} {x : Mem} (ho : OwnM σ p n c ms) (hi : i ≤ n) (hn : n ≤ 1048576)
    (hv : σ bv = some (.cells vs.toArray Tv (0, 0))) (hpv : ∀ a, p = some a → a.block ≠ bv) (he : EMem (σ.del p) vs x)
    (h : ∀ p' c' σ', OwnM σ' p' (n + 1) c' (ms.take i ++ [x] ++ ms.drop i) → Ext (σ.del p) (σ'.del p') → R (.returned (.slice p' (n + 1) c')) σ') :
    Spec prog slices_Insert_Member.fid #[.slice p n c, .int .i64 i, .slice (some ⟨bv, 0, none⟩) 1 1] σ R := by
  obtain ⟨hlen, cs, hown, hch⟩ := ho
  obtain ⟨hnc, L, hC, hL⟩ := hown.room
  have hb := hown.2.1
  have hcl := hown.1
  have hLl := hC.1
  have hvl : vs.length = 3 := by obtain ⟨q, k, c, rfl, _⟩ := he; rfl
  have hv1 : OneC vs := EMem.one _ _ _ he
  have hvr : ∀ σ' : Hp, σ' bv = some (.cells vs.toArray Tv (0, 0)) → RdC 3 σ' (some ⟨bv, 0, none⟩) 1 vs := fun σ' h => ⟨by rw [hvl], by omega, .inr ⟨bv, 0, rfl, LdL.of fun j v hj => by simp [Hp.ld, h, hj]⟩⟩
  have hvd : (σ.del p) bv = some (.cells vs.toArray Tv (0, 0)) := del_some.2 ⟨fun a ha he => hpv a ha he.symm, hv⟩
  have fin : ∀ p' c' σ' cells, Own 3 σ' p' (n + 1) c' cells → cells = cs.take (i * 3) ++ vs ++ cs.drop (i * 3) → Ext (σ.del p) (σ'.del p') → R (.returned (.slice p' (n + 1) c')) σ' := by
    rintro p' c' σ' _ hown' rfl hx
    refine h p' c' σ' ⟨by simp only [List.length_append, List.length_take, List.length_drop, List.length_singleton]; omega, _, hown', ?_⟩ hx
    exact (((hch.take i).append (Ch.one hvl he)).append (hch.drop i)).mono EMem.mono hx
  refine slices_Insert_Member.start ⟨by omega, fun h0 => by omega, fun _ => ⟨fun hend => ?_, fun hmid => ⟨by unfold I64; omega, fun hroom => ?_, fun hroom => ?_⟩⟩⟩
  · -- at the end
    have hin : i = n := by omega
    refine app_eff hown (hvr σ hv) hv1 (by omega) fun p' c' σ' ho' hx' => ⟨p', n + 1, c', rfl, fin p' c' σ' _ ho' ?_ hx'⟩
    rw [hin, ← hcl, List.take_length, List.drop_length, List.append_nil]
  · -- no room
    refine ⟨by omega, by unfold I64; omega, by unfold I64; omega, ?_⟩
    have e1 : (((n : Nat) : Int) + ((1 : Nat) : Int)) - (i : Int) = ((n + 1 - i : Nat) : Int) := by omega
    have e2 : (((n : Nat) : Int) + 1) - (i : Int) = ((n + 1 - i : Nat) : Int) := by omega
    simp only [Int.toNat_natCast, e1, e2]
    refine app_make_eff Go.Proofs.Try.underlying3 (hown.take hi) (by omega) (by omega) fun p' c' L' σ1 hC1 hc1 hL1 hx1 hxd hf => ?_
    have hin : i + (n + 1 - i) = n + 1 := by omega
    rw [hin] at hc1 ⊢
    refine ⟨p', n + 1, c', rfl, by omega, ?_⟩
    refine copy_eff (k := 1) hC1 (by omega) (by omega) (hvr σ1 (hx1 _ _ hv)) hv1 fun σ2 hC2 hx2 => ⟨_, rfl, by unfold I64; omega, by omega, by omega, ?_⟩
    have e3 : Int.toNat ((i : Int) + ((1 : Nat) : Int)) = i + 1 := by omega
    have e4 : Int.toNat ((i : Int) + 1) = i + 1 := by omega
    simp only [e3, e4]
    have hx12 : Ext σ σ2 := (hxd.trans hx2).trans (Ext.of_del _ _)
    have hrd := (hC.rd (i := i) (n := n - i) (by omega) (by omega)).mono hx12
    have hsub : (L.drop (i * 3)).take ((n - i) * 3) = cs.drop (i * 3) := by
      rw [← hL, List.drop_take]; congr 1; omega
    rw [hsub] at hrd
    have hd1 : OneC (cs.drop (i * 3)) := fun u hu => hch.oneC EMem.one (by decide) u (List.mem_of_mem_drop hu)
    refine copy_eff (k := n - i) hC2 (by omega) (by omega) hrd hd1 fun σ3 hC3 hx3 => ⟨_, rfl, ?_⟩
    have hown3 := hC3.own (n := n + 1) (by omega) (by omega)
    have hl1 : (n + 1) * 3 ≤ L'.length := by rw [hC1.1]; exact Nat.mul_le_mul_right 3 hc1
    have hdl : (cs.drop (i * 3)).length = (n - i) * 3 := by rw [List.length_drop, hcl]; omega
    rw [over_ins2 hl1 hi hvl hL1 hdl] at hown3
    refine fin p' c' σ3 _ hown3 rfl ?_
    exact (Ext.of_del σ p).trans ((hxd.trans hx2).trans hx3)
  · -- room
    have hroom' : n + 1 ≤ c := by omega
    refine ⟨by unfold I64; omega, by omega, by unfold I64; omega, by omega, ?_⟩
    have e3 : Int.toNat ((i : Int) + ((1 : Nat) : Int)) = i + 1 := by omega
    have e4 : Int.toNat ((i : Int) + 1) = i + 1 := by omega
    have e5 : Int.toNat ((n : Int) + ((1 : Nat) : Int)) = n + 1 := by omega
    have e6 : Int.toNat ((n : Int) + 1) = n + 1 := by omega
    simp only [e3, e4, e5, e6, Int.toNat_natCast]
    refine ⟨false, ?_, fun _ => ⟨by unfold I64; omega, by omega, by omega, ?_⟩, fun hf => by cases hf⟩
    · rcases hC.2 with ⟨_, hc0⟩ | ⟨b, o, arr, T, rfl, hblk, hsz, _⟩
      · omega
      · have hs1 : ∃ o', slP (some ⟨b, o, none⟩) (i + 1) c 3 = some ⟨b, o', none⟩ := by
          unfold slP
          split
          · exact ⟨o, rfl⟩
          · exact ⟨o + (i + 1) * 3, by simp [add_some]⟩
        obtain ⟨o', hs1⟩ := hs1
        exact overlaps_no (T := 23) (tR := 4) Go.Proofs.Try.func76 (ov_run _) rfl hs1 hv hblk (fun e => hpv _ rfl e.symm) (by omega)
    · have hrd := hC.rd (i := i) (n := n - i) (by omega) (by omega)
      have hsub : (L.drop (i * 3)).take ((n - i) * 3) = (L.take (n * 3)).drop (i * 3) := by
        rw [List.drop_take]; congr 1; omega
      rw [hsub] at hrd
      have hd1 : OneC ((L.take (n * 3)).drop (i * 3)) := by
        rw [hL]; exact fun u hu => hch.oneC EMem.one (by decide) u (List.mem_of_mem_drop hu)
      refine copy_eff (k := n - i) hC (by omega) (by omega) hrd hd1 fun σ1 hC1 hx1 => ⟨_, rfl, by omega, ?_⟩
      have hv2 : σ1 bv = some (.cells vs.toArray Tv (0, 0)) := Ext.of_del _ _ _ _ (hx1 _ _ hvd)
      refine copy_eff (k := 1) hC1 (by omega) (by omega) (hvr σ1 hv2) hv1 fun σ2 hC2 hx2 => ⟨_, rfl, ?_⟩
      have hown2 := hC2.own (n := n + 1) (by omega) (by omega)
      rw [over_ins (by rw [hLl]; exact Nat.mul_le_mul_right 3 hroom') hi hvl, hL] at hown2
      exact fin p c σ2 _ hown2 rfl (hx1.trans hx2)
end TwR
end
section
set_option linter.unusedVariables false
namespace TwR
open Go Tw

theorem Hp.set_comm {σ : Hp} {a b : Nat} {o u : Obj} (h : a ≠ b) : (σ.set a o).set b u = (σ.set b u).set a o := by
  funext k
  simp only [Hp.set]
  by_cases h1 : k = a
  · subst h1; simp [h]
  · simp [h1]

theorem ld_same {σ : Hp} {b o : Nat} {cs : Array Value} {t : TypeId} {v : Value} (h : cs[o]? = some v) : Hp.ld (σ.set b (.cells cs t (0, 0))) ⟨b, o, none⟩ = some v := by
  simp [Hp.ld, Hp.set_same, h]

/-- A ring that may be is small. -/
theorem rise_len : ∀ (xs : List Int) (N : Nat) (a : Int), Rise xs → (∀ x ∈ xs, a ≤ x ∧ x < a + N) → xs.length ≤ N
  | [], _, _, _, _ => Nat.zero_le _
  | x :: xs, 0, a, _, h => by have := h x (List.mem_cons_self ..); omega
  | x :: xs, N + 1, a, hr, h => by
    have hx := h x (List.mem_cons_self ..)
    unfold Rise at hr
    rw [List.pairwise_cons] at hr
    have := rise_len xs N (a + 1) hr.2 (fun y hy => by have h1 := h y (List.mem_cons_of_mem _ hy); have h2 := hr.1 y hy; push_cast at h1; omega)
    simp; omega

theorem OkR.len {ms : List Mem} (h : OkR ms) : ms.length ≤ 16 := by
  have := rise_len (ids ms) 16 0 h.2 (fun x hx => by
    obtain ⟨m, hm, rfl⟩ := List.mem_map.1 hx
    have := h.1 m hm
    exact ⟨this.1, by have := this.2.1; omega⟩)
  simpa [ids] using this
theorem OkR.small {ms : List Mem} (h : OkR ms) : Small ms := ⟨by have := h.len; omega, fun m hm => by have := (h.1 m hm).2.2.2.2.2.1; omega⟩

/-! What the changes do -/
def CJoin (ms : List Mem) (x code : Int) (ms' : List Mem) : Prop :=
  (place ms x ≠ -1 ∧ code = 131) ∨ (place ms x = -1 ∧ code = 0 ∧ ∃ i t, i ≤ ms.length ∧ (∀ m ∈ ms.take i, m.id < x) ∧ (∀ m, ms[i]? = some m → ¬ m.id < x) ∧ Rise t ∧ 1 ≤ t.length ∧ t.length ≤ 4 ∧ (∀ y ∈ t, 0 ≤ y ∧ y < 4294967296) ∧ ms' = ms.take i ++ [⟨x, 1, t⟩] ++ ms.drop i)
def CTurn (f t : Int) (ms : List Mem) (x code : Int) (ms' : List Mem) : Prop :=
  (place ms x = -1 ∧ code = 131) ∨ ∃ (k : Nat) (m : Mem), place ms x = k ∧ ms[k]? = some m ∧ ((m.state ≠ f ∧ code = 132) ∨ (m.state = f ∧ code = 0 ∧ ms' = ms.set k { m with state := t }))
def CGone (ms : List Mem) (x code : Int) (ms' : List Mem) : Prop :=
  (place ms x = -1 ∧ code = 131) ∨ ∃ (k : Nat) (m : Mem), place ms x = k ∧ ms[k]? = some m ∧ ((m.state ≠ 3 ∧ code = 132) ∨ (m.state = 3 ∧ code = 0 ∧ ms' = ms.eraseIdx k))

abbrev cell (τ : Hp) (b : Nat) (e : Int) (p : Option Addr) (n c : Nat) : Hp := τ.set b (.cells #[.int .u64 e, .slice p n c] 25 (0, 0))

/-- A change, on a ring in a cell of its own. -/
def ByOk (f : Nat) (C : List Mem → Int → Int → List Mem → Prop) : Prop := ∀ (R : Ending → Hp → Prop) (τ : Hp) (b : Nat) (e x : Int) (p : Option Addr) (n c : Nat) (ms : List Mem), OwnM τ p n c ms → τ b = none → OkR ms → 0 ≤ x → x < 16 →
  (∀ code ms', C ms x code ms' → code ≠ 0 → R (.returned (.int .i64 code)) (cell τ b e p n c)) →
  (∀ p' n' c' τ' ms', C ms x 0 ms' → OwnM τ' p' n' c' ms' → Ext (τ.del p) (τ'.del p') → τ' b = none → R (.returned (.int .i64 0)) (cell τ' b e p' n' c')) →
  Spec prog f #[.agg #[.pointer (some ⟨b, 0, none⟩), .int .i64 x, .int .i64 (place ms x)]] (cell τ b e p n c) R

theorem sizeS (w : World) : (Go.sizeOf 23).run prog w = .ok 1 w := Go.Proofs.Try.sizeOf23 w
theorem sizeI (w : World) : (Go.sizeOf 3).run prog w = .ok 1 w := Go.Proofs.Try.sizeOf3 w

/-- The slice in the cell is another one. -/
theorem cell_store {τ : Hp} {b : Nat} {e : Int} {p q : Option Addr} {n c m d : Nat} {Φ : Unit → Hp → Prop} (h : Φ () (cell τ b e q m d)) :
    Eff prog (Instr.storeAt 23 (.pointer (some ⟨b, 0 + 1, none⟩)) (.slice q m d)) (cell τ b e p n c) Φ := by
  refine Eff.store sizeS (Hp.set_same _ _ _) rfl (by simp) (by simp [Value.cells, Value.oneCell']) ?_
  simp only [cell, Hp.set_set]
  exact h

theorem place_lt {ms : List Mem} {k : Nat} {m : Mem} (h : ms[k]? = some m) : k < ms.length := (List.getElem?_eq_some_iff.1 h).1

/-- A member's state is written. -/
theorem OwnM.state {τ : Hp} {p : Option Addr} {n c k : Nat} {ms : List Mem} {m : Mem} {t : Int} {Ψ : Hp → Prop} (ho : OwnM τ p n c ms) (hm : ms[k]? = some m)
    (h : ∀ τ', OwnM τ' p n c (ms.set k { m with state := t }) → Ext (τ.del p) (τ'.del p) → Ψ τ') :
    ∃ b o, p = some ⟨b, o, none⟩ ∧ Eff prog (Instr.storeAt 3 (.pointer (some ⟨b, o + k * 3 + 1, none⟩)) (.int .i64 t)) τ (fun _ => Ψ) := by
  obtain ⟨hlen, cs, hown, hch⟩ := ho
  have hk : k < n := by rw [← hlen]; exact (List.getElem?_eq_some_iff.1 hm).1
  have hown0 := hown
  obtain ⟨h1, h0, h2⟩ := hown
  rcases h2 with ⟨_, hn, _⟩ | ⟨b, o, arr, T', rfl, hblk, hnc, hsz, hcs⟩
  · omega
  · have hle : (k + 1) * 3 ≤ c * 3 := by omega
    refine ⟨b, o, rfl, Eff.store sizeI hblk rfl (by omega) (by simp [Value.cells, Value.oneCell']) (h _ ⟨by simp [hlen], cs.set (k * 3 + 1) (.int .i64 t), ⟨by simpa using h1, h0, .inr ⟨b, o, _, T', rfl, Hp.set_same _ _ _, hnc, by rw [wrt_size]; exact hsz, ?_⟩⟩, ?_⟩ (by rw [Hp.del_set_same]; exact Ext.refl _))⟩
    · show ((wrt arr (o + k * 3 + 1) [.int .i64 t]).toList.drop o).take (n * 3) = _
      rw [show o + k * 3 + 1 = o + (k * 3 + 1) by omega, wrt_over (by simp; omega) (by omega), hcs]
      unfold over
      rw [List.set_eq_take_append_cons_drop, if_pos (by omega)]
      simp
    · rw [Hp.del_set_same]
      refine ⟨by simp [hch.1], fun i y hy => ?_⟩
      rw [List.getElem?_set] at hy
      have hkm : k < ms.length := by omega
      obtain ⟨q, j, d, hv, hq⟩ := hch.2 k m hm
      by_cases hik : k = i
      · subst hik
        rw [if_pos rfl, if_pos hkm] at hy
        cases hy
        refine ⟨q, j, d, ?_, hq⟩
        have hd : (cs.drop (k * 3)).take 3 = [.int .i64 m.id, .int .i64 m.state, .slice q j d] := hv
        have : ((cs.set (k * 3 + 1) (.int .i64 t)).drop (k * 3)).take 3 = ((cs.drop (k * 3)).take 3).set 1 (.int .i64 t) := by
          rw [List.drop_set, if_neg (by omega), List.take_set]
          congr 1; omega
        rw [this, hd]; rfl
      · rw [if_neg hik] at hy
        have := hch.2 i y hy
        have he : ((cs.set (k * 3 + 1) (.int .i64 t)).drop (i * 3)).take 3 = (cs.drop (i * 3)).take 3 := by
          rw [List.drop_set]
          split
          · rfl
          · rw [List.take_set_of_le (by omega)]
        rw [he]; exact this

theorem turn_spec (f t : Int) : ∀ (R : Ending → Hp → Prop) (τ : Hp) (b : Nat) (e x : Int) (p : Option Addr) (n c : Nat) (ms : List Mem), OwnM τ p n c ms → τ b = none →
  (∀ code ms', CTurn f t ms x code ms' → code ≠ 0 → R (.returned (.int .i64 code)) (cell τ b e p n c)) →
  (∀ τ' ms', CTurn f t ms x 0 ms' → OwnM τ' p n c ms' → Ext (τ.del p) (τ'.del p) → τ' b = none → R (.returned (.int .i64 0)) (cell τ' b e p n c)) →
  Spec prog ring_change_turn.fid #[.agg #[.pointer (some ⟨b, 0, none⟩), .int .i64 x, .int .i64 (place ms x)], .int .i64 f, .int .i64 t] (cell τ b e p n c) R := by
  intro R τ b e x p n c ms ho hb herr hok
  refine ring_change_turn.start ⟨fun hlt => ?_, fun hge => ?_⟩
  · rcases place_cases ms x with ⟨h1, _⟩ | ⟨k, m, hk, _⟩
    · exact herr 131 ms (.inl ⟨h1, rfl⟩) (by decide)
    · omega
  · rcases place_cases ms x with ⟨h1, _⟩ | ⟨k, m, hk, hm, hid, hno⟩
    · omega
    · have hx : Ext τ (cell τ b e p n c) := .set hb
      obtain ⟨b2, o2, q, j, d, hp, hl, _⟩ := RdM.at' (OwnL.rd EMem.mono ho) hm
      have hl := hl.mono hx
      have hkn : k < n := by rw [← ho.1]; exact (List.getElem?_eq_some_iff.1 hm).1
      rw [hk]
      refine ⟨b, 0, rfl, p, n, c, ld_same rfl, b2, o2, hp, by omega, m.state, by simpa using hl.2.1, fun hne => ?_, fun heq => ?_⟩
      · exact herr 132 ms (.inr ⟨k, m, hk, hm, .inl ⟨hne, rfl⟩⟩) (by decide)
      · refine ⟨p, n, c, ld_same rfl, b2, o2, hp, by omega, ?_⟩
        simp only [Int.toNat_natCast]
        refine Eff.frame1 hb ?_
        obtain ⟨b3, o3, hp3, heff⟩ := OwnM.state ho hm (t := t) (Ψ := fun τ' => τ' b = none → R (.returned (.int .i64 0)) (cell τ' b e p n c)) (fun τ' ho' hx' hn => hok τ' _ (.inr ⟨k, m, hk, hm, .inr ⟨by omega, rfl, rfl⟩⟩) ho' hx' hn)
        rw [hp] at hp3; cases hp3
        exact heff

theorem activate_by : ByOk ring_change_activate.fid (CTurn 1 2) := fun R τ b e x p n c ms ho hb _ _ _ herr hok =>
  ring_change_activate.start (turn_spec 1 2 _ τ b e x p n c ms ho hb (fun code ms' hc hne => ⟨_, rfl, herr code ms' hc hne⟩) fun τ' ms' hc ho' hx hn => ⟨_, rfl, hok p n c τ' ms' hc ho' hx hn⟩)
theorem leave_by : ByOk ring_change_leave.fid (CTurn 2 3) := fun R τ b e x p n c ms ho hb _ _ _ herr hok =>
  ring_change_leave.start (turn_spec 2 3 _ τ b e x p n c ms ho hb (fun code ms' hc hne => ⟨_, rfl, herr code ms' hc hne⟩) fun τ' ms' hc ho' hx hn => ⟨_, rfl, hok p n c τ' ms' hc ho' hx hn⟩)
theorem gone_by : ByOk ring_change_gone.fid CGone := fun R τ b e x p n c ms ho hb hms _ _ herr hok => by
  refine ring_change_gone.start (turn_spec 3 3 _ τ b e x p n c ms ho hb (fun code ms' hc hne => ⟨_, rfl, fun h0 => absurd h0 hne, fun _ => ring_change_gone.pt11_of ?_⟩) fun τ' ms' hc ho' hx hn => ⟨_, rfl, fun _ => ?_, fun h0 => absurd rfl h0⟩)
  · rcases hc with ⟨h1, h2⟩ | ⟨k, m, hk, hm, ⟨h1, h2⟩ | ⟨_, h2, _⟩⟩
    · exact herr code ms (.inl ⟨h1, h2⟩) hne
    · exact herr code ms (.inr ⟨k, m, hk, hm, .inl ⟨h1, h2⟩⟩) hne
    · exact absurd h2 hne
  · rcases hc with ⟨_, h2⟩ | ⟨k, m, hk, hm, ⟨_, h2⟩ | ⟨h1, _, h3⟩⟩
    · exact absurd h2 (by decide)
    · exact absurd h2 (by decide)
    · have hms' : ms' = ms := by
        rw [h3, show ({ m with state := 3 } : Mem) = m by rw [← h1]]
        obtain ⟨hlt, heq⟩ := List.getElem?_eq_some_iff.1 hm
        rw [← heq, List.set_getElem_self]
      have hkn : k < n := by have := ho'.1; rw [hms'] at this; rw [← this]; exact place_lt hm
      have hb2 := ho.1
      have hlen := hms.len
      rw [hk]
      refine ⟨b, 0, rfl, p, n, c, ld_same rfl, by unfold I64; omega, ?_⟩
      refine Spec.frame1 hn (delete_spec ho' hkn fun τ2 ho2 hx2 hn2 => ⟨p, n - 1, c, rfl, cell_store ?_⟩)
      rw [hms'] at ho2
      exact ring_change_gone.pt11_of (hok p (n - 1) c τ2 _ (.inr ⟨k, m, hk, hm, .inr ⟨h1, rfl, rfl⟩⟩) ho2 (hx.trans hx2) hn2)

theorem EMem.mk {σ : Hp} {p : Option Addr} {n c : Nat} {x s : Int} {t : List Int} (h : RdI .u32 σ p n t) : EMem σ [.int .i64 x, .int .i64 s, .slice p n c] ⟨x, s, t⟩ := ⟨p, n, c, rfl, h⟩

theorem join_by : ByOk ring_change_join.fid CJoin := fun R τ b e x p n c ms ho hb hms hx0 hx16 herr hok => by
  have hlen := hms.len
  have hn := ho.1
  have hrd := OwnL.rd EMem.mono ho
  have hxc : Ext τ (cell τ b e p n c) := .set hb
  obtain ⟨x, rfl⟩ : ∃ y : Nat, x = y := ⟨x.toNat, by omega⟩
  refine ring_change_join.start ⟨fun hge => herr 131 ms (.inl ⟨by omega, rfl⟩) (by decide), fun hlt => ?_⟩
  have hpl : place ms x = -1 := by rcases place_cases ms x with ⟨h1, _⟩ | ⟨k, m, hk, _⟩ <;> omega
  rw [hpl]
  -- the place is found: what is done
  have fin : ∀ i : Nat, i ≤ n → (∀ m ∈ ms.take i, m.id < x) → (∀ m, ms[i]? = some m → ¬ m.id < x) →
      ∃ p37 : Option Addr, ∃ n37 : Nat, ∃ c37 : Nat, Hp.ld (cell τ b e p n c) ⟨b, (0 + 1), none⟩ = some (.slice p37 n37 c37) ∧ Spec prog ring_Tokens.fid #[(.int .i64 x)] (cell τ b e p n c) (Cont R (fun v σ1 => ∃ p43 : Option Addr, ∃ n43 : Nat, ∃ c43 : Nat, v = (.slice p43 n43 c43) ∧ Kp [b] (cell τ b e p n c) σ1 ∧ ∀ b45 : Nat, σ1 b45 = none → Spec prog slices_Insert_Member.fid #[(.slice p37 n37 c37), (.int .i64 i), (.slice (some ⟨b45, 0, none⟩) 1 1)] (Hp.set σ1 b45 (.cells #[(.int .i64 x), (.int .i64 1), (.slice p43 n43 c43)] 55 (0, 0))) (Cont R (fun v_2 σ1_2 => ∃ p46 : Option Addr, ∃ n46 : Nat, ∃ c46 : Nat, v_2 = (.slice p46 n46 c46) ∧ Eff prog (Instr.storeAt 23 (.pointer (some ⟨b, (0 + 1), none⟩)) (.slice p46 n46 c46)) σ1_2 (fun _ σ1_3 => R (.returned (.int .i64 0)) σ1_3))))) := by
    intro i hi hlo hhi
    refine ⟨p, n, c, ld_same rfl, Spec.frame1 hb (tokens_spec (by omega) fun q j d τ1 t hq4 ht hx1 hri hj0 hj4 hn1 => ⟨q, j, d, rfl, fun k hk u hu => ?_, fun b2 hb2 => ?_⟩)⟩
    · simp only [List.mem_singleton] at hk
      subst hk
      simp only [cell, Hp.set_same] at hu ⊢; exact hu
    · have hne : b2 ≠ b := fun h => by rw [h, Hp.set_same] at hb2; cases hb2
      have hb2' : τ1 b2 = none := by rw [Hp.set_ne hne] at hb2; exact hb2
      rw [Hp.set_comm (Ne.symm hne)]
      have hx2 : Ext τ1 (τ1.set b2 (.cells #[.int .i64 x, .int .i64 1, .slice q j d] 55 (0, 0))) := .set hb2'
      have ho1 : OwnM (τ1.set b2 (.cells #[.int .i64 x, .int .i64 1, .slice q j d] 55 (0, 0))) p n c ms := ho.mono EMem.mono (hx1.trans hx2)
      have hpb : ∀ a, p = some a → τ a.block ≠ none := ho.block
      refine Spec.frame1 (Hp.set_none (Ne.symm hne) hn1) ?_
      refine insert_spec (vs := [.int .i64 x, .int .i64 1, .slice q j d]) (x := ⟨x, 1, t⟩) ho1 hi (by omega) (Hp.set_same _ _ _) (fun a ha h => hpb a ha (ext_none hx1 (h ▸ hb2'))) (EMem.mk ?_) fun p' c' τ2 ho2 hxo hn2 => ⟨p', n + 1, c', rfl, cell_store ?_⟩
      · exact ht.mono ((Ext.new_del hpb).trans (hx2.del p))
      · refine hok p' (n + 1) c' τ2 _ (.inr ⟨hpl, rfl, i, t, by omega, hlo, hhi, hri, by have := ht.1; omega, by have := ht.1; omega, hq4, rfl⟩) ho2 ?_ hn2
        exact ((hx1.trans hx2).del p).trans hxo
  suffices H : ∀ d i : Nat, n - i = d → i ≤ n → (∀ m ∈ ms.take i, m.id < x) → ring_change_join.pt17 R (some ⟨b, 0, none⟩) x (-1) i (cell τ b e p n c) from H n 0 rfl (by omega) (by simp)
  intro d
  induction d with
  | zero =>
    intro i hd hi hlo
    exact ring_change_join.pt17_of ⟨b, 0, rfl, p, n, c, ld_same rfl, fun hlt => by omega, fun _ => fin i hi hlo (fun m hm => by have := place_lt hm; omega)⟩
  | succ d ih =>
    intro i hd hi hlo
    obtain ⟨m, hm⟩ := hrd.ex (k := i) (by omega)
    obtain ⟨b2, o2, q, j, d2, hp, hl, _⟩ := RdM.at' hrd hm
    have hl := hl.mono hxc
    refine ring_change_join.pt17_of ⟨b, 0, rfl, p, n, c, ld_same rfl, fun _ => ⟨p, n, c, ld_same rfl, b2, o2, hp, by omega, m.id, by simpa using hl.1, fun hlt => ⟨by unfold I64; omega, ih (i + 1) (by omega) (by omega) ?_⟩, fun hge => fin i hi hlo (fun m' hm' => by rw [hm] at hm'; cases hm'; exact hge)⟩, fun hge => by omega⟩
    intro m' hm'
    rw [List.take_add_one, hm] at hm'
    simp only [Option.toList, List.mem_append, List.mem_singleton] at hm'
    rcases hm' with hm' | rfl
    · exact hlo m' hm'
    · exact hlt
end TwR
end
section
set_option linter.unusedVariables false
namespace TwR
open Go Tw

abbrev vRing (e : Int) (p : Option Addr) (n c : Nat) : Value := .agg #[.int .u64 e, .slice p n c]
abbrev top64 : Int := 18446744073709551615
def Fit (ms : List Mem) (e x : Int) : Prop := OkR ms ∧ e ≠ top64 ∧ 0 ≤ x ∧ x < 16
instance (ms : List Mem) (e x : Int) : Decidable (Fit ms e x) := by unfold Fit; infer_instance

theorem size25 (w : World) : (Go.sizeOf 25).run prog w = .ok 2 w := Go.Proofs.Try.sizeOf25 w
theorem size22 (w : World) : (Go.sizeOf 22).run prog w = .ok 1 w := Go.Proofs.Try.sizeOf22 w

theorem changed_spec {f : Nat} {C : List Mem → Int → Int → List Mem → Prop} (hby : ByOk f C) (hen : Enters prog f) {R : Ending → Hp → Prop} {σ : Hp} {e x : Int} {p : Option Addr} {n c : Nat} {ms : List Mem} (hr : RdM σ p n ms) (hs : Small ms) (he : 0 ≤ e ∧ e ≤ top64)
    (bad : ¬ Fit ms e x → R (.returned (.tuple #[vRing 0 none 0 0, .int .i64 130])) σ)
    (err : Fit ms e x → ∀ code ms', C ms x code ms' → code ≠ 0 → R (.returned (.tuple #[vRing 0 none 0 0, .int .i64 code])) σ)
    (ok : Fit ms e x → ∀ p' n' c' σ' ms', C ms x 0 ms' → RdM σ' p' n' ms' → Ext σ σ' → R (.returned (.tuple #[vRing (e + 1) p' n' c', .int .i64 0])) σ') :
    Spec prog ring_changed.fid #[vRing e p n c, .int .i64 x, .func (.func f) #[] #[]] σ R := by
  refine Spec.drop (ring_changed.start (check_spec hr hs ⟨_, rfl, fun hne => ?_, fun heq => ⟨fun h1 => ?_, fun h1 => id_spec ⟨_, rfl, fun hf => ?_, fun ht => ?_⟩⟩⟩))
  · exact .mk (.refl σ) (bad fun h => hne (by simp [chk, h.1]))
  · exact .mk (.refl σ) (bad fun h => h.2.1 h1)
  · exact .mk (.refl σ) (bad fun h => by simp at hf; have := h.2.2; omega)
  · have hok : OkR ms := Decidable.byContradiction fun hn => heq (by simp [chk, hn])
    have hx : 0 ≤ x ∧ x < 16 := by simpa using ht
    have hfit : Fit ms e x := ⟨hok, h1, hx⟩
    refine copyRing'_spec hr hs fun p1 c1 τ ho hx1 => ⟨e, p1, n, c1, rfl, fun b hb => ?_⟩
    refine Eff.store size25 (Hp.set_same _ _ _) rfl (by simp) (by simp [Value.cells, Value.oneCell']) ?_
    rw [Hp.set_set]
    refine ⟨e, ld_same rfl, fun x28 hx28 => ?_⟩
    have h28 : x28 = e + 1 := by rw [hx28]; simp [IntKind.wrap, IntKind.bits, IntKind.signed]; simp [top64] at h1 he; omega
    subst h28
    refine Eff.store size22 (Hp.set_same _ _ _) rfl (by simp [wrt_size]) (by simp [Value.cells, Value.oneCell']) ?_
    rw [Hp.set_set]
    have hcell : (τ.set b (.cells (wrt (wrt #[.int .u64 0, .slice none 0 0] 0 (Value.agg #[.int .u64 e, .slice p1 n c1]).cells.toList) 0 (Value.int .u64 (e + 1)).cells.toList) 25 (0, 0))) = cell τ b (e + 1) p1 n c1 := by
      simp [cell, wrt, Value.cells]
    rw [hcell]
    have hpn : ∀ a, p1 = some a → σ a.block = none := let ⟨_, _, h, _⟩ := ho; h.new_none
    have ho1 : OwnM τ p1 n c1 ms := ho.mono EMem.mono (Ext.of_new σ τ)
    have hxc : Ext σ (cell τ b (e + 1) p1 n c1) := hx1.trans (.set hb)
    refine member_spec (hr.mono' hxc) ⟨_, rfl, f, #[], #[], rfl, hen, ?_⟩
    refine hby _ τ b (e + 1) x p1 n c1 ms ho1 hb hok hx.1 hx.2 (fun code ms' hC hne => ⟨_, rfl, fun _ => .mk hxc (err hfit code ms' hC hne), fun h0 => absurd hne h0⟩) fun p' n' c' τ' ms' hC ho' hx' hn => ⟨_, rfl, fun h0 => absurd rfl h0, fun _ => ⟨e + 1, p', n', c', ⟨ld_same rfl, ld_same rfl, trivial⟩, ?_⟩⟩
    have hxx : Ext σ τ' := ext_new hpn hx' hx1
    exact .mk (.refl _) (ok hfit p' n' c' _ ms' hC ((OwnL.rd EMem.mono ho').mono EMem.mono (.set hn)) (hxx.trans (.set hn)))

theorem en46 : Enters prog ring_change_join.fid := fun args w => Go.Proofs.Try.call46 args w
theorem en47 : Enters prog ring_change_activate.fid := fun args w => Go.Proofs.Try.call47 args w
theorem en48 : Enters prog ring_change_leave.fid := fun args w => Go.Proofs.Try.call48 args w
theorem en49 : Enters prog ring_change_gone.fid := fun args w => Go.Proofs.Try.call49 args w

section
variable {R : Ending → Hp → Prop} {σ : Hp} {e x : Int} {p : Option Addr} {n c : Nat} {ms : List Mem}

/-- What a change of a ring answers. -/
def ChR (C : List Mem → Int → Int → List Mem → Prop) (ms : List Mem) (e x : Int) (σ : Hp) (Φ : Int → Option Addr → Nat → Nat → Int → Hp → Prop) : Prop :=
  (¬ Fit ms e x → Φ 0 none 0 0 130 σ) ∧ (Fit ms e x → ∀ code ms', C ms x code ms' → code ≠ 0 → Φ 0 none 0 0 code σ) ∧
  (Fit ms e x → ∀ p' n' c' σ' ms', C ms x 0 ms' → RdM σ' p' n' ms' → Ext σ σ' → Φ (e + 1) p' n' c' 0 σ')

theorem joinR_spec (hr : RdM σ p n ms) (hs : Small ms) (he : 0 ≤ e ∧ e ≤ top64) (h : ChR CJoin ms e x σ fun e' p' n' c' code σ' => R (.returned (.tuple #[vRing e' p' n' c', .int .i64 code])) σ') : Spec prog ring_Join.fid #[vRing e p n c, .int .i64 x] σ R :=
  ring_Join.start (changed_spec join_by en46 hr hs he (fun hb => ⟨_, _, _, _, _, rfl, h.1 hb⟩) (fun hf code ms' hC hne => ⟨_, _, _, _, _, rfl, h.2.1 hf code ms' hC hne⟩) fun hf p' n' c' σ' ms' hC hr' hx => ⟨_, _, _, _, _, rfl, h.2.2 hf p' n' c' σ' ms' hC hr' hx⟩)
theorem activateR_spec (hr : RdM σ p n ms) (hs : Small ms) (he : 0 ≤ e ∧ e ≤ top64) (h : ChR (CTurn 1 2) ms e x σ fun e' p' n' c' code σ' => R (.returned (.tuple #[vRing e' p' n' c', .int .i64 code])) σ') : Spec prog ring_Activate.fid #[vRing e p n c, .int .i64 x] σ R :=
  ring_Activate.start (changed_spec activate_by en47 hr hs he (fun hb => ⟨_, _, _, _, _, rfl, h.1 hb⟩) (fun hf code ms' hC hne => ⟨_, _, _, _, _, rfl, h.2.1 hf code ms' hC hne⟩) fun hf p' n' c' σ' ms' hC hr' hx => ⟨_, _, _, _, _, rfl, h.2.2 hf p' n' c' σ' ms' hC hr' hx⟩)
theorem leaveR_spec (hr : RdM σ p n ms) (hs : Small ms) (he : 0 ≤ e ∧ e ≤ top64) (h : ChR (CTurn 2 3) ms e x σ fun e' p' n' c' code σ' => R (.returned (.tuple #[vRing e' p' n' c', .int .i64 code])) σ') : Spec prog ring_Leave.fid #[vRing e p n c, .int .i64 x] σ R :=
  ring_Leave.start (changed_spec leave_by en48 hr hs he (fun hb => ⟨_, _, _, _, _, rfl, h.1 hb⟩) (fun hf code ms' hC hne => ⟨_, _, _, _, _, rfl, h.2.1 hf code ms' hC hne⟩) fun hf p' n' c' σ' ms' hC hr' hx => ⟨_, _, _, _, _, rfl, h.2.2 hf p' n' c' σ' ms' hC hr' hx⟩)
theorem goneR_spec (hr : RdM σ p n ms) (hs : Small ms) (he : 0 ≤ e ∧ e ≤ top64) (h : ChR CGone ms e x σ fun e' p' n' c' code σ' => R (.returned (.tuple #[vRing e' p' n' c', .int .i64 code])) σ') : Spec prog ring_Gone.fid #[vRing e p n c, .int .i64 x] σ R :=
  ring_Gone.start (changed_spec gone_by en49 hr hs he (fun hb => ⟨_, _, _, _, _, rfl, h.1 hb⟩) (fun hf code ms' hC hne => ⟨_, _, _, _, _, rfl, h.2.1 hf code ms' hC hne⟩) fun hf p' n' c' σ' ms' hC hr' hx => ⟨_, _, _, _, _, rfl, h.2.2 hf p' n' c' σ' ms' hC hr' hx⟩)
end
end TwR
end
section
/-
  Tw, part L: several cells beside what a call knows.
-/
namespace Tw
open Go

def sets (τ : Hp) : List (Nat × Obj) → Hp
  | [] => τ
  | (b, o) :: L => (sets τ L).set b o

abbrev names (L : List (Nat × Obj)) : List Nat := L.map Prod.fst

section
variable {τ : Hp} {L : List (Nat × Obj)} {b i : Nat} {o o' : Obj}

theorem sets_not (h : b ∉ names L) : sets τ L b = τ b := by
  induction L with
  | nil => rfl
  | cons p L ih =>
    simp only [names, List.map_cons, List.mem_cons, not_or] at h
    simp only [sets, Hp.set_ne h.1]
    exact ih h.2

theorem sets_get : ∀ {L : List (Nat × Obj)} {i : Nat}, (names L).Nodup → L[i]? = some (b, o) → sets τ L b = some o
  | p :: L, 0, _, h => by simp at h; subst h; exact Hp.set_same _ _ _
  | p :: L, i + 1, hn, h => by
    simp only [List.getElem?_cons_succ] at h
    have hm : b ∈ names L := List.mem_map.2 ⟨_, List.mem_of_getElem? h, rfl⟩
    have hn := List.nodup_cons.1 (show (p.1 :: names L).Nodup from hn)
    have hne : b ≠ p.1 := fun e => hn.1 (e ▸ hm)
    simp only [sets, Hp.set_ne hne]
    exact sets_get hn.2 h

theorem Hp.set_swap {σ : Hp} {a b : Nat} {o u : Obj} (h : a ≠ b) : (σ.set a o).set b u = (σ.set b u).set a o := by
  funext k
  simp only [Hp.set]
  by_cases h1 : k = a
  · subst h1; simp [h]
  · simp [h1]

theorem sets_set : ∀ {L : List (Nat × Obj)} {i : Nat}, (names L).Nodup → L[i]? = some (b, o) → (sets τ L).set b o' = sets τ (L.set i (b, o'))
  | p :: L, 0, _, h => by simp at h; subst h; exact Hp.set_set
  | p :: L, i + 1, hn, h => by
    simp only [List.getElem?_cons_succ] at h
    have hm : b ∈ names L := List.mem_map.2 ⟨_, List.mem_of_getElem? h, rfl⟩
    have hn := List.nodup_cons.1 (show (p.1 :: names L).Nodup from hn)
    have hne : b ≠ p.1 := fun e => hn.1 (e ▸ hm)
    simp only [sets, List.set_cons_succ]
    rw [Hp.set_swap (Ne.symm hne), sets_set hn.2 h]

theorem sets_fresh : ∀ {L : List (Nat × Obj)}, b ∉ names L → (sets τ L).set b o = sets (τ.set b o) L
  | [], _ => rfl
  | p :: L, h => by
    simp only [names, List.map_cons, List.mem_cons, not_or] at h
    simp only [sets]
    rw [Hp.set_swap (Ne.symm h.1), sets_fresh h.2]

theorem sets_some : ∀ {L : List (Nat × Obj)}, b ∈ names L → sets τ L b ≠ none
  | p :: L, h => by
    by_cases hb : b = p.1
    · subst hb; simp only [sets, Hp.set_same]; simp
    · simp only [names, List.map_cons, List.mem_cons] at h
      simp only [sets, Hp.set_ne hb]
      exact sets_some (h.resolve_left hb)

theorem sets_none (h : sets τ L b = none) : b ∉ names L ∧ τ b = none := by
  have hs : ∀ {L : List (Nat × Obj)}, b ∉ names L → sets τ L b = τ b := sets_not
  have hn : b ∉ names L := fun hm => sets_some hm h
  exact ⟨hn, (hs hn).symm.trans h⟩

/-- None of the cells is known below. -/
def Off (L : List (Nat × Obj)) (τ : Hp) : Prop := ∀ b ∈ names L, τ b = none

theorem Off.ext {τ : Hp} : ∀ {L : List (Nat × Obj)}, (names L).Nodup → Off L τ → Ext τ (sets τ L)
  | [], _, _ => .refl τ
  | p :: L, hn, h => by
    have hn := List.nodup_cons.1 (show (p.1 :: names L).Nodup from hn)
    have ih := Off.ext hn.2 (fun b hb => h b (List.mem_cons_of_mem _ hb))
    refine ih.trans (.set ?_)
    rw [sets_not hn.1]
    exact h _ (List.mem_cons_self ..)

theorem Off.set {τ : Hp} {b : Nat} {o : Obj} (h : Off L τ) (hb : b ∉ names L) : Off L (τ.set b o) := fun c hc => by
  have hne : c ≠ b := fun e => hb (e ▸ hc)
  rw [Hp.set_ne hne]; exact h c hc
theorem Off.less {τ τ' : Hp} (hx : Ext τ τ') (h : Off L τ') : Off L τ := fun c hc => ext_none hx (h c hc)
end

theorem Spec.frameL {P : Program} {f : FuncId} {args : Array Value} {τ : Hp} : ∀ {L : List (Nat × Obj)} {R : Ending → Hp → Prop}, (names L).Nodup → Off L τ →
    Spec P f args τ (fun e τ' => Off L τ' → R e (sets τ' L)) → Spec P f args (sets τ L) R
  | [], R, _, _, h => h.mono fun e τ' hr => hr (fun b hb => by cases hb)
  | p :: L, R, hn, ho, h => by
    have hn := List.nodup_cons.1 (show (p.1 :: names L).Nodup from hn)
    refine Spec.frame1 (by rw [sets_not hn.1]; exact ho _ (List.mem_cons_self ..)) ?_
    refine Spec.frameL hn.2 (fun b hb => ho b (List.mem_cons_of_mem _ hb)) (h.mono fun e τ' hr hoff hnone => hr fun b hb => ?_)
    rcases List.mem_cons.1 (show b ∈ p.1 :: names L from hb) with rfl | hb
    · rw [sets_not hn.1] at hnone; exact hnone
    · exact hoff b hb

theorem Eff.frameL {P : Program} {α : Type} {m : Sem α} {τ : Hp} : ∀ {L : List (Nat × Obj)} {Φ : α → Hp → Prop}, (names L).Nodup → Off L τ →
    Eff P m τ (fun v τ' => Off L τ' → Φ v (sets τ' L)) → Eff P m (sets τ L) Φ
  | [], R, _, _, h => h.mono fun e τ' hr => hr (fun b hb => by cases hb)
  | p :: L, R, hn, ho, h => by
    have hn := List.nodup_cons.1 (show (p.1 :: names L).Nodup from hn)
    refine Eff.frame1 (by rw [sets_not hn.1]; exact ho _ (List.mem_cons_self ..)) ?_
    refine Eff.frameL hn.2 (fun b hb => ho b (List.mem_cons_of_mem _ hb)) (h.mono fun e τ' hr hoff hnone => hr fun b hb => ?_)
    rcases List.mem_cons.1 (show b ∈ p.1 :: names L from hb) with rfl | hb
    · rw [sets_not hn.1] at hnone; exact hnone
    · exact hoff b hb

/-- A cell is written. -/
theorem Eff.storeL {P : Program} {τ : Hp} {L : List (Nat × Obj)} {i b n o : Nat} {T t : TypeId} {c c' : Array Value} {v : Value} {Φ : Unit → Hp → Prop} (hz : ∀ w, (Go.sizeOf T).run P w = .ok n w) (hn : (names L).Nodup) (hi : L[i]? = some (b, .cells c t (0, 0)))
    (hv : v.cells.size = n) (hl : Nat.ble (o + n) c.size = true) (h1 : (v.cells.toList.all fun u => u.oneCell') = true) (hc : wrt c o v.cells.toList = c') (h : Φ () (sets τ (L.set i (b, .cells c' t (0, 0))))) :
    Eff P (Instr.storeAt T (.pointer (some ⟨b, o, none⟩)) v) (sets τ L) Φ := by
  subst hc
  refine Eff.store hz (sets_get hn hi) hv (Nat.le_of_ble_eq_true hl) (fun u hu => List.all_eq_true.1 h1 u hu) ?_
  rw [sets_set hn hi]; exact h

theorem ldL {τ : Hp} {L : List (Nat × Obj)} {i b o : Nat} {t : TypeId} {c : Array Value} {v : Value} (hn : (names L).Nodup) (hi : L[i]? = some (b, .cells c t (0, 0))) (h : c[o]? = some v) : Hp.ld (sets τ L) ⟨b, o, none⟩ = some v := by
  simp [Hp.ld, sets_get hn hi, h]
end Tw
namespace Tw
open Go

/-- A call that knows nothing: the world grows, and may draw. -/
theorem Spec.grown {P : Program} {f : FuncId} {args : Array Value} {R : Ending → Hp → Prop} (h : Spec P f args (fun _ => none) R) (w : World) :
    Calls P f args w (fun e w' => (∃ σ, R e σ) ∧ ∃ q os, w' = { w with heap := w.heap ++ os, drawn := w.drawn + q }) := by
  refine (h w (fun b => b < w.heap.size) (fun b o hb => by cases hb) (fun b hb => ⟨hb, rfl⟩)).mono ?_
  rintro e w' ⟨σ, hr, hf⟩
  refine ⟨⟨σ, hr⟩, ?_⟩
  obtain ⟨h1, h2, q, h3⟩ := hf.os
  refine ⟨q, w'.heap.extract w.heap.size w'.heap.size, ?_⟩
  have hh : w'.heap = w.heap ++ w'.heap.extract w.heap.size w'.heap.size := by
    apply Array.ext_getElem?
    intro i
    rw [Array.getElem?_append]
    split
    · rename_i hi
      exact (hf.prot i hi).2
    · rename_i hi
      rw [Array.getElem?_extract]
      have := hf.grow
      split
      · congr 1; omega
      · rename_i h2
        exact Array.getElem?_eq_none (by omega)
  cases w with
  | mk heap tape drawn os output =>
    cases w' with
    | mk heap' tape' drawn' os' output' =>
      have h4 := hf.out
      simp only at h1 h2 h3 h4 hh ⊢
      subst h1 h2 h3 h4
      rw [← hh]
end Tw
end
section
/- written by gen.py: program points and what leads to them -/
set_option linter.unusedVariables false
set_option maxRecDepth 100000
namespace TwR
open Go Tw Go.Proofs.Try
namespace ring_Replicas
abbrev fid : Nat := 10
noncomputable def K0 : Code := f10.body.getD .skip
noncomputable def K1 := Tw.cl K0
noncomputable def K2 := Tw.cr K0
noncomputable def K3 := Tw.cl K2
noncomputable def K4 := Tw.cl K3
noncomputable def K5 := Tw.cr K3
noncomputable def K6 := Tw.cl K5
noncomputable def K7 := Tw.cl K6
noncomputable def K8 := Tw.cr K6
noncomputable def K9 := Tw.cr K5
noncomputable def K10 := Tw.cr K2
noncomputable def K11 := Tw.cl K10
noncomputable def K12 := Tw.cr K10
noncomputable def K13 := Tw.cl K12
noncomputable def K14 := Tw.cl K13
noncomputable def K15 := Tw.cr K13
noncomputable def K16 := Tw.cl K15
noncomputable def K17 := Tw.cl K16
noncomputable def K18 := Tw.cr K16
noncomputable def K19 := Tw.cl K18
noncomputable def K20 := Tw.cl K19
noncomputable def K21 := Tw.cl K20
noncomputable def K22 := Tw.cr K20
noncomputable def K23 := Tw.cl K22
noncomputable def K24 := Tw.cr K22
noncomputable def K25 := Tw.cr K19
noncomputable def K26 := Tw.cl K25
noncomputable def K27 := Tw.cr K25
noncomputable def K28 := Tw.cl K27
noncomputable def K29 := Tw.cl K28
noncomputable def K30 := Tw.cr K28
noncomputable def K31 := Tw.cr K27
noncomputable def K32 := Tw.cr K12
noncomputable def K33 := Tw.cl K32
noncomputable def K34 := Tw.cr K32
def K35 : Code := .ret
noncomputable abbrev gl (R : Ending → Hp → Prop) : Gl := Gl.fn prog 10 38 R
def pt17 (R : Ending → Hp → Prop) (l : Nat) (r0 : Loop) (b5 : Nat) (b6 : Nat) (b7 : Nat) (b8 : Nat) (x24 : Int) (σ : Hp) : Prop := ∀ (J : Env), At (Gl.round prog 10 38 l R) [.code K17, .beginRound, .code K18] (upds J [(5, (.pointer (some ⟨b5, 0, none⟩))), (6, (.pointer (some ⟨b6, 0, none⟩))), (7, (.pointer (some ⟨b7, 0, none⟩))), (8, (.pointer (some ⟨b8, 0, none⟩))), (24, (.int .i64 x24))]) [] σ
def pt26 (R : Ending → Hp → Prop) (l : Nat) (r0 : Loop) (b5 : Nat) (b6 : Nat) (b7 : Nat) (b8 : Nat) (σ : Hp) : Prop := ∀ (J : Env), At (Gl.round prog 10 38 l R) [.code K26, .code K27, .inBlock 1] (upds J [(5, (.pointer (some ⟨b5, 0, none⟩))), (6, (.pointer (some ⟨b6, 0, none⟩))), (7, (.pointer (some ⟨b7, 0, none⟩))), (8, (.pointer (some ⟨b8, 0, none⟩)))]) [] σ
theorem start {R : Ending → Hp → Prop} {x0a : Int} {p0b : Option Addr} {n0b : Nat} {c0b : Nat} {x1 : Int} {x2 : Int} {σ : Hp} (h : ∀ b5 : Nat, σ b5 = none → ∀ b6 : Nat, (Hp.set σ b5 (.cells #[(.int .i64 x2)] 3 (0, 0))) b6 = none → ∀ b7 : Nat, (Hp.set (Hp.set σ b5 (.cells #[(.int .i64 x2)] 3 (0, 0))) b6 (.cells #[(.slice none 0 0)] 27 (0, 0))) b7 = none → Spec prog 32 #[(.agg #[(.int .u64 x0a), (.slice p0b n0b c0b)])] (Hp.set (Hp.set (Hp.set σ b5 (.cells #[(.int .i64 x2)] 3 (0, 0))) b6 (.cells #[(.slice none 0 0)] 27 (0, 0))) b7 (.cells #[(.int .i64 0)] 28 (0, 0))) (Cont R (fun v σ1 => ∃ x11 : Int, v = (.int .i64 x11) ∧ ((x11 : Int) ≠ 0 → Eff prog (Instr.storeAt 27 (.pointer (some ⟨b6, 0, none⟩)) (.slice none 0 0)) σ1 (fun _ σ1_2 => Eff prog (Instr.storeAt 28 (.pointer (some ⟨b7, 0, none⟩)) (.int .i64 130)) σ1_2 (fun _ σ1_3 => ∃ pr6 : Option Addr, ∃ nr6 : Nat, ∃ cr6 : Nat, ∃ xr7 : Int, Hp.ld σ1_3 ⟨b6, 0, none⟩ = some (.slice pr6 nr6 cr6) ∧ Hp.ld σ1_3 ⟨b7, 0, none⟩ = some (.int .i64 xr7) ∧ R (.returned (.tuple #[(.slice pr6 nr6 cr6), (.int .i64 xr7)])) σ1_3))) ∧ (¬ ((x11 : Int) ≠ 0) → ∃ x14 : Int, Hp.ld σ1 ⟨b5, 0, none⟩ = some (.int .i64 x14) ∧ ((x14 : Int) < 1 → Eff prog (Instr.storeAt 27 (.pointer (some ⟨b6, 0, none⟩)) (.slice none 0 0)) σ1 (fun _ σ1_2 => Eff prog (Instr.storeAt 28 (.pointer (some ⟨b7, 0, none⟩)) (.int .i64 130)) σ1_2 (fun _ σ1_3 => ∃ pr6 : Option Addr, ∃ nr6 : Nat, ∃ cr6 : Nat, ∃ xr7 : Int, Hp.ld σ1_3 ⟨b6, 0, none⟩ = some (.slice pr6 nr6 cr6) ∧ Hp.ld σ1_3 ⟨b7, 0, none⟩ = some (.int .i64 xr7) ∧ R (.returned (.tuple #[(.slice pr6 nr6 cr6), (.int .i64 xr7)])) σ1_3))) ∧ (¬ ((x14 : Int) < 1) → ∃ x18 : Int, Hp.ld σ1 ⟨b5, 0, none⟩ = some (.int .i64 x18) ∧ ((5 : Int) < x18 → Eff prog (Instr.storeAt 27 (.pointer (some ⟨b6, 0, none⟩)) (.slice none 0 0)) σ1 (fun _ σ1_2 => Eff prog (Instr.storeAt 28 (.pointer (some ⟨b7, 0, none⟩)) (.int .i64 130)) σ1_2 (fun _ σ1_3 => ∃ pr6 : Option Addr, ∃ nr6 : Nat, ∃ cr6 : Nat, ∃ xr7 : Int, Hp.ld σ1_3 ⟨b6, 0, none⟩ = some (.slice pr6 nr6 cr6) ∧ Hp.ld σ1_3 ⟨b7, 0, none⟩ = some (.int .i64 xr7) ∧ R (.returned (.tuple #[(.slice pr6 nr6 cr6), (.int .i64 xr7)])) σ1_3))) ∧ (¬ ((5 : Int) < x18) → ∀ b8 : Nat, σ1 b8 = none → Spec prog 33 #[(.agg #[(.int .u64 x0a), (.slice p0b n0b c0b)]), (.int .u32 x1)] (Hp.set σ1 b8 (.cells #[(.slice none 0 0)] 27 (0, 0))) (Cont R (fun v_2 σ1_2 => ∃ v23 : Value, v23 = v_2 ∧ ∃ (gf : Nat) (lb : Array Value), v23 = .func (.func gf) #[] lb ∧ Enters prog gf ∧ ∀ (D_2 l_2 : Nat) (r0_2 : Loop), D_2 ≠ l_2 → σ1_2 D_2 = none → σ1_2 l_2 = none → (∀ (R2 : Ending → Hp → Prop) (σ2 : Hp) (xy24 : Int), σ2 l_2 = some (.loop (lp r0_2 .ready none)) → pt17 R2 l_2 r0_2 b5 b6 b7 b8 xy24 σ2 → YSpec prog l_2 #[(.int .i64 xy24)] σ2 R2) → Spec prog gf (#[.func (.yield l_2) #[] #[]] ++ lb) (Hp.set (Hp.set σ1_2 D_2 (.deferred (some []))) l_2 (.loop (lp r0_2 .ready none))) (fun en σ1_3 => ∃ (v : Value) (s : LoopState) (p : Option Code), en = .returned v ∧ σ1_3 l_2 = some (.loop (lp r0_2 s p)) ∧ s ≠ .busy ∧ ((p = none ∧ Eff prog (Instr.storeAt 27 (.pointer (some ⟨b6, 0, none⟩)) (.slice none 0 0)) (Hp.set σ1_3 l_2 (.loop (lp r0_2 .exhausted none))) (fun _ σ1_4 => Eff prog (Instr.storeAt 28 (.pointer (some ⟨b7, 0, none⟩)) (.int .i64 133)) σ1_4 (fun _ σ1_5 => ∃ pr6 : Option Addr, ∃ nr6 : Nat, ∃ cr6 : Nat, ∃ xr7 : Int, σ1_5 D_2 = some (.deferred (some [])) ∧ Hp.ld (Hp.set σ1_5 D_2 (.deferred none)) ⟨b6, 0, none⟩ = some (.slice pr6 nr6 cr6) ∧ Hp.ld (Hp.set σ1_5 D_2 (.deferred none)) ⟨b7, 0, none⟩ = some (.int .i64 xr7) ∧ R (.returned (.tuple #[(.slice pr6 nr6 cr6), (.int .i64 xr7)])) (Hp.set σ1_5 D_2 (.deferred none))))) ∨ (p = (some .ret) ∧ ∃ pr6_2 : Option Addr, ∃ nr6_2 : Nat, ∃ cr6_2 : Nat, ∃ xr7_2 : Int, (Hp.set σ1_3 l_2 (.loop (lp r0_2 .exhausted (some .ret)))) D_2 = some (.deferred (some [])) ∧ Hp.ld (Hp.set (Hp.set σ1_3 l_2 (.loop (lp r0_2 .exhausted (some .ret)))) D_2 (.deferred none)) ⟨b6, 0, none⟩ = some (.slice pr6_2 nr6_2 cr6_2) ∧ Hp.ld (Hp.set (Hp.set σ1_3 l_2 (.loop (lp r0_2 .exhausted (some .ret)))) D_2 (.deferred none)) ⟨b7, 0, none⟩ = some (.int .i64 xr7_2) ∧ R (.returned (.tuple #[(.slice pr6_2 nr6_2 cr6_2), (.int .i64 xr7_2)])) (Hp.set (Hp.set σ1_3 l_2 (.loop (lp r0_2 .exhausted (some .ret)))) D_2 (.deferred none))))))))))))) : Spec prog 10 #[(.agg #[(.int .u64 x0a), (.slice p0b n0b c0b)]), (.int .u32 x1), (.int .i64 x2)] σ R := by
  refine Spec.of_at (fn := f10) (c := K0) func10 (by kernel_rfl) (Nat.le_of_ble_eq_true (by kernel_rfl)) (fun e he => ?_)
  refine At.ofL (l := [(0, (.agg #[(.int .u64 x0a), (.slice p0b n0b c0b)])), (1, (.int .u32 x1)), (2, (.int .i64 x2))]) ⟨he 0, he 1, he 2, trivial⟩ (fun J => ?_)
  show At (gl R) _ _ _ _
  refine At.s K1 K2 ?_
  refine At.rg 0 [0, 1, 2, 3] ?_
  refine Seq.o ?_
  refine OpTo.box (T := 25) (d := (some 3)) (ty := 0) (x := (.tmp 0)) (gd := none) (cs := #[(.int .u64 x0a), (.slice p0b n0b c0b)]) (by kernel_rfl) rfl rfl rfl (fun b3 => ?_)
  refine Seq.o ?_
  refine OpTo.boxO (T := 3) (d := (some 5)) (ty := 0) (x := (.tmp 2)) (gd := none) (cs := #[(.int .i64 x2)]) (by kernel_rfl) rfl rfl rfl (fun b5 hn => ?_)
  replace h := h b5 hn
  refine Seq.o ?_
  refine OpTo.allocO (T := 27) (d := (some 6)) (ty := 0)  (gd := none) (cs := #[(.slice none 0 0)]) (by kernel_rfl) rfl rfl zeroValue27 rfl (fun b6 hn => ?_)
  replace h := h b6 hn
  refine Seq.o ?_
  refine OpTo.allocO (T := 28) (d := (some 7)) (ty := 0)  (gd := none) (cs := #[(.int .i64 0)]) (by kernel_rfl) rfl rfl zeroValue28 rfl (fun b7 hn => ?_)
  replace h := h b7 hn
  refine Seq.done ?_
  refine At.L [(1, (.int .u32 x1)), (3, (.pointer (some ⟨b3, 0, none⟩))), (5, (.pointer (some ⟨b5, 0, none⟩))), (6, (.pointer (some ⟨b6, 0, none⟩))), (7, (.pointer (some ⟨b7, 0, none⟩)))] fun J => ?_
  refine At.s K3 K10 ?_
  refine At.s K4 K5 ?_
  refine At.rg 1 [0, 1, 2, 3, 4, 5, 6, 7, 8, 9, 10] ?_
  refine Seq.z 10 (.load 25 (.tmp 3)) 25 (.agg #[(.int .u64 x0a), (.slice p0b n0b c0b)]) (Y.ldab (vs := [(.int .u64 x0a), (.slice p0b n0b c0b)]) isAgg25 sizeOf25 rfl rfl (List.mem_cons_self ..) rfl) ?_
  refine Seq.o ?_
  refine OpTo.cl (some 11) call32 (h.cont fun v σ1 h2 => ?_); replace h := h2; clear h2
  obtain ⟨x11, rfl, h⟩ := h
  refine Seq.u 12 (.bool (decide ((x11 : Int) ≠ 0))) ?_
  refine Seq.u 13 (.bool (decide ((x11 : Int) ≠ 0))) ?_
  cases hb : (decide ((x11 : Int) ≠ 0)) with
  | true =>
    replace h := h.1 (of_decide_eq_true hb)
    refine Seq.n 14 ?_
    refine Seq.n 15 ?_
    refine Seq.u 16 (.bool true) ?_
    refine Seq.u 17 (.bool true) ?_
    refine Seq.n 18 ?_
    refine Seq.n 19 ?_
    refine Seq.u 20 (.bool true) ?_
    refine Seq.done ?_
    refine At.L [(1, (.int .u32 x1)), (3, (.pointer (some ⟨b3, 0, none⟩))), (5, (.pointer (some ⟨b5, 0, none⟩))), (6, (.pointer (some ⟨b6, 0, none⟩))), (7, (.pointer (some ⟨b7, 0, none⟩))), (20, (.bool true))] fun J => ?_
    refine At.cT 20 K6 K9 ?_
    refine At.s K7 K8 ?_
    refine At.rg 2 [0, 1] ?_
    refine Seq.o ?_
    refine OpTo.store (T := 27) (ty := 0) (x := (.tmp 6)) (y := (.const (.slice none 0 0))) (p := (.pointer (some ⟨b6, 0, none⟩))) (v := (.slice none 0 0)) (gd := none) (by kernel_rfl) rfl rfl rfl (h.mono (fun _ σ1_2 h2 => ?_)); replace h := h2; clear h2
    refine Seq.o ?_
    refine OpTo.store (T := 28) (ty := 0) (x := (.tmp 7)) (y := (.const (.int .i64 130))) (p := (.pointer (some ⟨b7, 0, none⟩))) (v := (.int .i64 130)) (gd := none) (by kernel_rfl) rfl rfl rfl (h.mono (fun _ σ1_3 h2 => ?_)); replace h := h2; clear h2
    refine Seq.done ?_
    refine At.L [(6, (.pointer (some ⟨b6, 0, none⟩))), (7, (.pointer (some ⟨b7, 0, none⟩)))] fun J => ?_
    obtain ⟨pr6, nr6, cr6, xr7, hr6, hr7, h⟩ := h
    exact At.rt [.cell 6 27, .cell 7 28] [(.slice pr6 nr6 cr6), (.int .i64 xr7)] func10 ⟨_, _, rfl, ⟨_, rfl, ldo_run isAgg27 hr6⟩, ⟨_, _, rfl, ⟨_, rfl, ldo_run isAgg28 hr7⟩, rfl⟩⟩ h
  | false =>
    replace h := h.2 (of_decide_eq_false hb)
    obtain ⟨x14, hl, h⟩ := h
    refine Seq.zg 14 (.load 3 (.tmp 5)) 3 (3, false) (.int .i64 x14) (Y.ld isAgg3 rfl hl) ?_
    refine Seq.u 15 (.bool (decide ((x14 : Int) < 1))) ?_
    refine Seq.u 16 (.bool (decide ((x14 : Int) < 1))) ?_
    refine Seq.u 17 (.bool (decide ((x14 : Int) < 1))) ?_
    cases hb : (decide ((x14 : Int) < 1)) with
    | true =>
      replace h := h.1 (of_decide_eq_true hb)
      refine Seq.n 18 ?_
      refine Seq.n 19 ?_
      refine Seq.u 20 (.bool true) ?_
      refine Seq.done ?_
      refine At.L [(1, (.int .u32 x1)), (3, (.pointer (some ⟨b3, 0, none⟩))), (5, (.pointer (some ⟨b5, 0, none⟩))), (6, (.pointer (some ⟨b6, 0, none⟩))), (7, (.pointer (some ⟨b7, 0, none⟩))), (20, (.bool true))] fun J => ?_
      refine At.cT 20 K6 K9 ?_
      refine At.s K7 K8 ?_
      refine At.rg 2 [0, 1] ?_
      refine Seq.o ?_
      refine OpTo.store (T := 27) (ty := 0) (x := (.tmp 6)) (y := (.const (.slice none 0 0))) (p := (.pointer (some ⟨b6, 0, none⟩))) (v := (.slice none 0 0)) (gd := none) (by kernel_rfl) rfl rfl rfl (h.mono (fun _ σ1_2 h2 => ?_)); replace h := h2; clear h2
      refine Seq.o ?_
      refine OpTo.store (T := 28) (ty := 0) (x := (.tmp 7)) (y := (.const (.int .i64 130))) (p := (.pointer (some ⟨b7, 0, none⟩))) (v := (.int .i64 130)) (gd := none) (by kernel_rfl) rfl rfl rfl (h.mono (fun _ σ1_3 h2 => ?_)); replace h := h2; clear h2
      refine Seq.done ?_
      refine At.L [(6, (.pointer (some ⟨b6, 0, none⟩))), (7, (.pointer (some ⟨b7, 0, none⟩)))] fun J => ?_
      obtain ⟨pr6, nr6, cr6, xr7, hr6, hr7, h⟩ := h
      exact At.rt [.cell 6 27, .cell 7 28] [(.slice pr6 nr6 cr6), (.int .i64 xr7)] func10 ⟨_, _, rfl, ⟨_, rfl, ldo_run isAgg27 hr6⟩, ⟨_, _, rfl, ⟨_, rfl, ldo_run isAgg28 hr7⟩, rfl⟩⟩ h
    | false =>
      replace h := h.2 (of_decide_eq_false hb)
      obtain ⟨x18, hl, h⟩ := h
      refine Seq.zg 18 (.load 3 (.tmp 5)) 3 (7, false) (.int .i64 x18) (Y.ld isAgg3 rfl hl) ?_
      refine Seq.u 19 (.bool (decide ((5 : Int) < x18))) ?_
      refine Seq.u 20 (.bool (decide ((5 : Int) < x18))) ?_
      refine Seq.done ?_
      refine At.L [(1, (.int .u32 x1)), (3, (.pointer (some ⟨b3, 0, none⟩))), (5, (.pointer (some ⟨b5, 0, none⟩))), (6, (.pointer (some ⟨b6, 0, none⟩))), (7, (.pointer (some ⟨b7, 0, none⟩))), (20, (.bool (decide ((5 : Int) < x18))))] fun J => ?_
      cases hb : (decide ((5 : Int) < x18)) with
      | true =>
        replace h := h.1 (of_decide_eq_true hb)
        refine At.cT 20 K6 K9 ?_
        refine At.s K7 K8 ?_
        refine At.rg 2 [0, 1] ?_
        refine Seq.o ?_
        refine OpTo.store (T := 27) (ty := 0) (x := (.tmp 6)) (y := (.const (.slice none 0 0))) (p := (.pointer (some ⟨b6, 0, none⟩))) (v := (.slice none 0 0)) (gd := none) (by kernel_rfl) rfl rfl rfl (h.mono (fun _ σ1_2 h2 => ?_)); replace h := h2; clear h2
        refine Seq.o ?_
        refine OpTo.store (T := 28) (ty := 0) (x := (.tmp 7)) (y := (.const (.int .i64 130))) (p := (.pointer (some ⟨b7, 0, none⟩))) (v := (.int .i64 130)) (gd := none) (by kernel_rfl) rfl rfl rfl (h.mono (fun _ σ1_3 h2 => ?_)); replace h := h2; clear h2
        refine Seq.done ?_
        refine At.L [(6, (.pointer (some ⟨b6, 0, none⟩))), (7, (.pointer (some ⟨b7, 0, none⟩)))] fun J => ?_
        obtain ⟨pr6, nr6, cr6, xr7, hr6, hr7, h⟩ := h
        exact At.rt [.cell 6 27, .cell 7 28] [(.slice pr6 nr6 cr6), (.int .i64 xr7)] func10 ⟨_, _, rfl, ⟨_, rfl, ldo_run isAgg27 hr6⟩, ⟨_, _, rfl, ⟨_, rfl, ldo_run isAgg28 hr7⟩, rfl⟩⟩ h
      | false =>
        replace h := h.2 (of_decide_eq_false hb)
        refine At.cF 20 K6 K9 ?_
        refine At.skip ?_
        refine At.s K11 K12 ?_
        refine At.rg 3 [0] ?_
        refine Seq.o ?_
        refine OpTo.allocO (T := 27) (d := (some 8)) (ty := 0)  (gd := none) (cs := #[(.slice none 0 0)]) (by kernel_rfl) rfl rfl zeroValue27 rfl (fun b8 hn => ?_)
        replace h := h b8 hn
        refine Seq.done ?_
        refine At.L [(1, (.int .u32 x1)), (3, (.pointer (some ⟨b3, 0, none⟩))), (5, (.pointer (some ⟨b5, 0, none⟩))), (6, (.pointer (some ⟨b6, 0, none⟩))), (7, (.pointer (some ⟨b7, 0, none⟩))), (8, (.pointer (some ⟨b8, 0, none⟩)))] fun J => ?_
        refine At.s K13 K32 ?_
        refine At.s K14 K15 ?_
        refine At.rg 4 [0, 1, 2] ?_
        refine Seq.z 21 (.load 25 (.tmp 3)) 25 (.agg #[(.int .u64 x0a), (.slice p0b n0b c0b)]) (Y.ldab (vs := [(.int .u64 x0a), (.slice p0b n0b c0b)]) isAgg25 sizeOf25 rfl rfl (List.mem_cons_self ..) rfl) ?_
        refine Seq.u 22 (.int .u32 x1) ?_
        refine Seq.o ?_
        refine OpTo.cl (some 23) call33 (h.cont fun v_2 σ1_2 h2 => ?_); replace h := h2; clear h2
        obtain ⟨v23, rfl, h⟩ := h
        refine Seq.done ?_
        refine At.L [(5, (.pointer (some ⟨b5, 0, none⟩))), (6, (.pointer (some ⟨b6, 0, none⟩))), (7, (.pointer (some ⟨b7, 0, none⟩))), (8, (.pointer (some ⟨b8, 0, none⟩))), (23, v23)] fun J => ?_
        refine At.b 0 K16 ?_
        obtain ⟨gf, lb, hgv, hen, h⟩ := h
        refine At.range (gop := (.tmp 23)) (ps := #[24]) (assign := K17) (body := K18) (gf := gf) (lb := lb) (by kernel_rfl) rfl rfl hgv hen (fun D_2 l_2 r0_2 hDl hD hl hrf hrp hra hrb hrs hre => ?_)
        refine (h D_2 l_2 r0_2 hDl hD hl (fun R2 σ2 xy24 hσ2 hp => YSpec.of_at (n := 38) hσ2 hrp hrs (by decide) hre (fn := f10) (by rw [hrf]; exact func10) ?_)).mono (fun en σ1_3 h => ?_)
        · rw [hrf, hra, hrb]
          exact At.v [(5, (.pointer (some ⟨b5, 0, none⟩))), (6, (.pointer (some ⟨b6, 0, none⟩))), (7, (.pointer (some ⟨b7, 0, none⟩))), (8, (.pointer (some ⟨b8, 0, none⟩))), (24, (.int .i64 xy24))] (hp _)
        obtain ⟨v, s, p, he, hσl, hs, h⟩ := h
        refine ⟨v, s, p, he, hσl, hs, ?_⟩
        rcases h with h | h
        · obtain ⟨rfl, h⟩ := h
          show At (Gl.behind prog 10 38 D_2 R) [.inBlock 0, .code K32] _ _ _
          refine At.inBlock ?_
          refine At.s K33 K34 ?_
          refine At.rg 10 [0, 1] ?_
          refine Seq.o ?_
          refine OpTo.store (T := 27) (ty := 0) (x := (.tmp 6)) (y := (.const (.slice none 0 0))) (p := (.pointer (some ⟨b6, 0, none⟩))) (v := (.slice none 0 0)) (gd := none) (by kernel_rfl) rfl rfl rfl (h.mono (fun _ σ1_4 h2 => ?_)); replace h := h2; clear h2
          refine Seq.o ?_
          refine OpTo.store (T := 28) (ty := 0) (x := (.tmp 7)) (y := (.const (.int .i64 133))) (p := (.pointer (some ⟨b7, 0, none⟩))) (v := (.int .i64 133)) (gd := none) (by kernel_rfl) rfl rfl rfl (h.mono (fun _ σ1_5 h2 => ?_)); replace h := h2; clear h2
          refine Seq.done ?_
          refine At.L [(6, (.pointer (some ⟨b6, 0, none⟩))), (7, (.pointer (some ⟨b7, 0, none⟩)))] fun J => ?_
          obtain ⟨pr6, nr6, cr6, xr7, hmk, hr6, hr7, h⟩ := h
          exact At.retV (rs := [.cell 6 27, .cell 7 28]) (vs := [(.slice pr6 nr6 cr6), (.int .i64 xr7)]) (by kernel_rfl) func10 (by kernel_rfl) ⟨_, _, rfl, ⟨_, rfl, ldo_run isAgg27 hr6⟩, ⟨_, _, rfl, ⟨_, rfl, ldo_run isAgg28 hr7⟩, rfl⟩⟩ h rfl (marks1 hmk)
        · obtain ⟨rfl, h⟩ := h
          show At (Gl.behind prog 10 38 D_2 R) [.code K35, .inBlock 0, .code K32] _ _ _
          obtain ⟨pr6_2, nr6_2, cr6_2, xr7_2, hmk, hr6_2, hr7_2, h⟩ := h
          exact At.retV (rs := [.cell 6 27, .cell 7 28]) (vs := [(.slice pr6_2 nr6_2 cr6_2), (.int .i64 xr7_2)]) (by kernel_rfl) func10 (by kernel_rfl) ⟨_, _, rfl, ⟨_, rfl, ldo_run isAgg27 hr6_2⟩, ⟨_, _, rfl, ⟨_, rfl, ldo_run isAgg28 hr7_2⟩, rfl⟩⟩ h rfl (marks1 hmk)
theorem pt17_of {R : Ending → Hp → Prop} {l : Nat} {r0 : Loop} {b5 : Nat} {b6 : Nat} {b7 : Nat} {b8 : Nat} {x24 : Int} {σ : Hp} (h : σ l = some (.loop (lp r0 .ready none)) ∧ ∃ p25 : Option Addr, ∃ n25 : Nat, ∃ c25 : Nat, Hp.ld (Hp.set σ l (.loop (lp r0 .busy none))) ⟨b8, 0, none⟩ = some (.slice p25 n25 c25) ∧ Spec prog 34 #[(.slice p25 n25 c25), (.int .i64 x24)] (Hp.set σ l (.loop (lp r0 .busy none))) (Cont (NP R) (fun v σ1 => ∃ t27 : Bool, v = (.bool t27) ∧ (t27 = false → ∃ p29 : Option Addr, ∃ n29 : Nat, ∃ c29 : Nat, Hp.ld σ1 ⟨b8, 0, none⟩ = some (.slice p29 n29 c29) ∧ ∀ b31 : Nat, σ1 b31 = none → Eff prog (Builtin.append_ #[27, 27] 27 #[(.slice p29 n29 c29), (.slice (some ⟨b31, 0, none⟩) 1 1)]) (Hp.set σ1 b31 (.cells #[(.int .i64 x24)] 3 (0, 0))) (fun v_2 σ1_2 => ∃ p32 : Option Addr, ∃ n32 : Nat, ∃ c32 : Nat, v_2 = (.slice p32 n32 c32) ∧ Eff prog (Instr.storeAt 27 (.pointer (some ⟨b8, 0, none⟩)) (.slice p32 n32 c32)) σ1_2 (fun _ σ1_3 => pt26 R l r0 b5 b6 b7 b8 σ1_3))) ∧ (t27 = true → pt26 R l r0 b5 b6 b7 b8 σ1)))) : pt17 R l r0 b5 b6 b7 b8 x24 σ := by
 intro J
 show At (Gl.round prog 10 38 l R) _ _ _ _
 refine At.rg 5 [0] ?_
 refine Seq.u 9 (.int .i64 x24) ?_
 refine Seq.done ?_
 refine At.L [(5, (.pointer (some ⟨b5, 0, none⟩))), (6, (.pointer (some ⟨b6, 0, none⟩))), (7, (.pointer (some ⟨b7, 0, none⟩))), (8, (.pointer (some ⟨b8, 0, none⟩))), (9, (.int .i64 x24))] fun J => ?_
 obtain ⟨hbr, h⟩ := h
 refine At.beginRound rfl hbr ?_
 refine At.b 1 K19 ?_
 refine At.s K20 K25 ?_
 refine At.s K21 K22 ?_
 refine At.rg 6 [0, 1, 2, 3] ?_
 obtain ⟨p25, n25, c25, hl, h⟩ := h
 refine Seq.z 25 (.load 27 (.tmp 8)) 27 (.slice p25 n25 c25) (Y.ld isAgg27 rfl hl) ?_
 refine Seq.u 26 (.int .i64 x24) ?_
 refine Seq.o ?_
 refine OpTo.cl (some 27) call34 (h.cont fun v σ1 h2 => ?_); replace h := h2; clear h2
 obtain ⟨t27, rfl, h⟩ := h
 refine Seq.u 28 (.bool (!t27)) ?_
 refine Seq.done ?_
 refine At.L [(5, (.pointer (some ⟨b5, 0, none⟩))), (6, (.pointer (some ⟨b6, 0, none⟩))), (7, (.pointer (some ⟨b7, 0, none⟩))), (8, (.pointer (some ⟨b8, 0, none⟩))), (9, (.int .i64 x24)), (28, (.bool (!t27)))] fun J => ?_
 cases hb : (!t27) with
 | true =>
  replace h := h.1 (Tw.nt hb)
  refine At.cT 28 K23 K24 ?_
  refine At.rg 7 [0, 1, 2, 3, 4] ?_
  obtain ⟨p29, n29, c29, hl, h⟩ := h
  refine Seq.z 29 (.load 27 (.tmp 8)) 27 (.slice p29 n29 c29) (Y.ld isAgg27 rfl hl) ?_
  refine Seq.u 30 (.int .i64 x24) ?_
  refine Seq.o ?_
  refine OpTo.bslice (T := 27) (E := 3) (m := 1) (ps := #[(0, (.tmp 30))]) (d := (some 31)) (ty := 27) (gd := none) (vs := [(0, (.int .i64 x24))]) (cs := #[(.int .i64 x24)]) underlying27 (by kernel_rfl) rfl rfl rfl (by kernel_rfl) (fun b31 hn => ?_)
  replace h := h b31 hn
  refine Seq.o ?_
  refine OpTo.eff (d := (some 32)) (op := (.call { callee := .builtin .append, args := #[(.tmp 29), (.tmp 31)], argTypes := #[27, 27] })) (ty := 27) (gd := none) (by kernel_rfl) rfl rfl (Builtin.append_ #[27, 27] 27 #[(.slice p29 n29 c29), (.slice (some ⟨b31, 0, none⟩) 1 1)]) (fun o ho ht => exec_b_append rfl rfl o ho ht) (h.mono (fun v_2 σ1_2 h2 => ?_)); replace h := h2; clear h2
  obtain ⟨p32, n32, c32, rfl, h⟩ := h
  refine Seq.o ?_
  refine OpTo.store (T := 27) (ty := 0) (x := (.tmp 8)) (y := (.tmp 32)) (p := (.pointer (some ⟨b8, 0, none⟩))) (v := (.slice p32 n32 c32)) (gd := none) (by kernel_rfl) rfl rfl rfl (h.mono (fun _ σ1_3 h2 => ?_)); replace h := h2; clear h2
  refine Seq.done ?_
  refine At.L [(5, (.pointer (some ⟨b5, 0, none⟩))), (6, (.pointer (some ⟨b6, 0, none⟩))), (7, (.pointer (some ⟨b7, 0, none⟩))), (8, (.pointer (some ⟨b8, 0, none⟩)))] fun J => ?_
  refine At.s K26 K27 ?_
  exact At.v [(5, (.pointer (some ⟨b5, 0, none⟩))), (6, (.pointer (some ⟨b6, 0, none⟩))), (7, (.pointer (some ⟨b7, 0, none⟩))), (8, (.pointer (some ⟨b8, 0, none⟩)))] (h _)
 | false =>
  replace h := h.2 (Tw.nf hb)
  refine At.cF 28 K23 K24 ?_
  refine At.skip ?_
  refine At.s K26 K27 ?_
  exact At.v [(5, (.pointer (some ⟨b5, 0, none⟩))), (6, (.pointer (some ⟨b6, 0, none⟩))), (7, (.pointer (some ⟨b7, 0, none⟩))), (8, (.pointer (some ⟨b8, 0, none⟩)))] (h _)
theorem pt26_of {R : Ending → Hp → Prop} {l : Nat} {r0 : Loop} {b5 : Nat} {b6 : Nat} {b7 : Nat} {b8 : Nat} {σ : Hp} (h : ∃ p33 : Option Addr, ∃ n33 : Nat, ∃ c33 : Nat, Hp.ld σ ⟨b8, 0, none⟩ = some (.slice p33 n33 c33) ∧ ∃ x35 : Int, Hp.ld σ ⟨b5, 0, none⟩ = some (.int .i64 x35) ∧ (((n33 : Int) : Int) = x35 → ∃ p37 : Option Addr, ∃ n37 : Nat, ∃ c37 : Nat, Hp.ld σ ⟨b8, 0, none⟩ = some (.slice p37 n37 c37) ∧ Eff prog (Instr.storeAt 27 (.pointer (some ⟨b6, 0, none⟩)) (.slice p37 n37 c37)) σ (fun _ σ1 => Eff prog (Instr.storeAt 28 (.pointer (some ⟨b7, 0, none⟩)) (.int .i64 0)) σ1 (fun _ σ1_2 => σ1_2 l = some (.loop (lp r0 .busy none)) ∧ R (.returned (.bool false)) (Hp.set σ1_2 l (.loop (lp r0 .done (some .ret))))))) ∧ (¬ (((n33 : Int) : Int) = x35) → σ l = some (.loop (lp r0 .busy none)) ∧ R (.returned (.bool true)) (Hp.set σ l (.loop (lp r0 .ready none))))) : pt26 R l r0 b5 b6 b7 b8 σ := by
 intro J
 show At (Gl.round prog 10 38 l R) _ _ _ _
 refine At.rg 8 [0, 1, 2, 3] ?_
 obtain ⟨p33, n33, c33, hl, h⟩ := h
 refine Seq.z 33 (.load 27 (.tmp 8)) 27 (.slice p33 n33 c33) (Y.ld isAgg27 rfl hl) ?_
 refine Seq.z 34 (.call { callee := .builtin .len, args := #[(.tmp 33)], argTypes := #[27] }) 3 (.int .i64 (n33 : Int)) (Y.lenS underlying27 rfl rfl) ?_
 obtain ⟨x35, hl, h⟩ := h
 refine Seq.z 35 (.load 3 (.tmp 5)) 3 (.int .i64 x35) (Y.ld isAgg3 rfl hl) ?_
 refine Seq.u 36 (.bool (decide (((n33 : Int) : Int) = x35))) ?_
 refine Seq.done ?_
 refine At.L [(6, (.pointer (some ⟨b6, 0, none⟩))), (7, (.pointer (some ⟨b7, 0, none⟩))), (8, (.pointer (some ⟨b8, 0, none⟩))), (36, (.bool (decide (((n33 : Int) : Int) = x35))))] fun J => ?_
 cases hb : (decide (((n33 : Int) : Int) = x35)) with
 | true =>
  replace h := h.1 (of_decide_eq_true hb)
  refine At.cT 36 K28 K31 ?_
  refine At.s K29 K30 ?_
  refine At.rg 9 [0, 1, 2] ?_
  obtain ⟨p37, n37, c37, hl, h⟩ := h
  refine Seq.z 37 (.load 27 (.tmp 8)) 27 (.slice p37 n37 c37) (Y.ld isAgg27 rfl hl) ?_
  refine Seq.o ?_
  refine OpTo.store (T := 27) (ty := 0) (x := (.tmp 6)) (y := (.tmp 37)) (p := (.pointer (some ⟨b6, 0, none⟩))) (v := (.slice p37 n37 c37)) (gd := none) (by kernel_rfl) rfl rfl rfl (h.mono (fun _ σ1 h2 => ?_)); replace h := h2; clear h2
  refine Seq.o ?_
  refine OpTo.store (T := 28) (ty := 0) (x := (.tmp 7)) (y := (.const (.int .i64 0))) (p := (.pointer (some ⟨b7, 0, none⟩))) (v := (.int .i64 0)) (gd := none) (by kernel_rfl) rfl rfl rfl (h.mono (fun _ σ1_2 h2 => ?_)); replace h := h2; clear h2
  refine Seq.done ?_
  refine At.L [] fun J => ?_
  exact At.roundRet (by kernel_rfl) rfl h.1 h.2
 | false =>
  replace h := h.2 (of_decide_eq_false hb)
  refine At.cF 36 K28 K31 ?_
  refine At.skip ?_
  refine At.inBlock ?_
  exact At.roundEnd rfl h.1 h.2
end ring_Replicas
namespace cmp_isNaN_int
abbrev fid : Nat := 74
noncomputable def K0 : Code := f74.body.getD .skip
noncomputable def K1 := Tw.cl K0
noncomputable def K2 := Tw.cr K0
noncomputable def K3 := Tw.cl K2
noncomputable def K4 := Tw.cr K2
noncomputable abbrev gl (R : Ending → Hp → Prop) : Gl := Gl.fn prog 74 6 R
theorem start {R : Ending → Hp → Prop} {x0 : Int} {σ : Hp} (h : R (.returned (.bool (decide ((x0 : Int) ≠ x0)))) σ) : Spec prog 74 #[(.int .i64 x0)] σ R := by
 refine Spec.of_at (fn := f74) (c := K0) func74 (by kernel_rfl) (Nat.le_of_ble_eq_true (by kernel_rfl)) (fun e he => ?_)
 refine At.ofL (l := [(0, (.int .i64 x0))]) ⟨he 0, trivial⟩ (fun J => ?_)
 show At (gl R) _ _ _ _
 refine At.s K1 K2 ?_
 refine At.rg 0 [0] ?_
 refine Seq.u 2 (.bool false) ?_
 refine Seq.done ?_
 refine At.L [(0, (.int .i64 x0))] fun J => ?_
 refine At.s K3 K4 ?_
 refine At.rg 1 [0, 1, 2, 3] ?_
 refine Seq.u 3 (.int .i64 x0) ?_
 refine Seq.u 4 (.int .i64 x0) ?_
 refine Seq.u 5 (.bool (decide ((x0 : Int) ≠ x0))) ?_
 refine Seq.u 2 (.bool (decide ((x0 : Int) ≠ x0))) ?_
 refine Seq.done ?_
 refine At.L [(2, (.bool (decide ((x0 : Int) ≠ x0))))] fun J => ?_
 exact At.rt [.tmp 2] [(.bool (decide ((x0 : Int) ≠ x0)))] func74 ⟨_, rfl, rfl⟩ h
end cmp_isNaN_int
end TwR
end
section
/- The shelf's contract of slices.SortFunc at this dump (printed by the kit's tool lay-plain). -/
namespace Go.Proofs
open Go.Shelf
def Try.sortSpot_ren : Go.Shelf.Ren := ⟨fun | 6 => 54 | 15 => 72 | 14 => 71 | 28 => 86 | 29 => 87 | 20 => 78 | 21 => 79 | 22 => 80 | 23 => 81 | 24 => 82 | 25 => 83 | 26 => 84 | 27 => 85 | 46 => 98 | 47 => 99 | 48 => 100 | 49 => 101 | 50 => 102 | 57 => 107 | n => n, fun | 22 => 79 | 24 => 81 | 25 => 86 | 3 => 3 | 39 => 90 | 0 => 0 | 53 => 26 | 55 => 22 | 4 => 4 | 46 => 104 | 45 => 103 | 50 => 108 | 5 => 5 | 9 => 9 | 66 => 118 | 70 => 121 | 76 => 126 | 77 => 127 | n => n, fun | n => n⟩
theorem Try.sortSpot : Go.Proofs.SlLaysF0.n6 Try.prog Try.sortSpot_ren := {
  mixed := by kernel_rfl
  f6 := ⟨Try.f54.name, by decide, Try.func54.trans (congrArg some (by kernel_rfl))⟩
  f14 := ⟨Try.f71.name, by decide, Try.func71.trans (congrArg some (by kernel_rfl))⟩
  f15 := Try.func72.trans (congrArg some (by kernel_rfl))
  f20 := ⟨Try.f78.name, by decide, Try.func78.trans (congrArg some (by kernel_rfl))⟩
  f21 := ⟨Try.f79.name, by decide, Try.func79.trans (congrArg some (by kernel_rfl))⟩
  f22 := ⟨Try.f80.name, by decide, Try.func80.trans (congrArg some (by kernel_rfl))⟩
  f23 := ⟨Try.f81.name, by decide, Try.func81.trans (congrArg some (by kernel_rfl))⟩
  f24 := ⟨Try.f82.name, by decide, Try.func82.trans (congrArg some (by kernel_rfl))⟩
  f25 := ⟨Try.f83.name, by decide, Try.func83.trans (congrArg some (by kernel_rfl))⟩
  f26 := ⟨Try.f84.name, by decide, Try.func84.trans (congrArg some (by kernel_rfl))⟩
  f27 := ⟨Try.f85.name, by decide, Try.func85.trans (congrArg some (by kernel_rfl))⟩
  f28 := Try.func86.trans (congrArg some (by kernel_rfl))
  f29 := Try.func87.trans (congrArg some (by kernel_rfl))
  f46 := ⟨Try.f98.name, by decide, Try.func98.trans (congrArg some (by kernel_rfl))⟩
  f47 := Try.func99.trans (congrArg some (by kernel_rfl))
  f48 := Try.func100.trans (congrArg some (by kernel_rfl))
  f49 := ⟨Try.f101.name, by decide, Try.func101.trans (congrArg some (by kernel_rfl))⟩
  f50 := ⟨Try.f102.name, by decide, Try.func102.trans (congrArg some (by kernel_rfl))⟩
  f57 := ⟨Try.f107.name, by decide, Try.func107.trans (congrArg some (by kernel_rfl))⟩
  t0 := Try.underlying0
  a0 := Try.isAgg0
  z0 := Try.sizeOf0
  v0 := Try.zeroValue0
  t3 := Try.underlying3
  a3 := Try.isAgg3
  z3 := Try.sizeOf3
  v3 := Try.zeroValue3
  t4 := Try.underlying4
  a4 := Try.isAgg4
  z4 := Try.sizeOf4
  v4 := Try.zeroValue4
  t5 := Try.underlying5
  a5 := Try.isAgg5
  z5 := Try.sizeOf5
  v5 := Try.zeroValue5
  t9 := Try.underlying9
  a9 := Try.isAgg9
  z9 := Try.sizeOf9
  v9 := Try.zeroValue9
  t22 := Try.underlying79
  a22 := Try.isAgg79
  z22 := Try.sizeOf79
  v22 := Try.zeroValue79
  t25 := Try.underlying86
  a25 := Try.isAgg86
  z25 := Try.sizeOf86
  v25 := Try.zeroValue86
  t39 := Try.underlying90
  a39 := Try.isAgg90
  z39 := Try.sizeOf90
  v39 := Try.zeroValue90
  t45 := Try.underlying103
  a45 := Try.isAgg103
  z45 := Try.sizeOf103
  v45 := Try.zeroValue103
  t46 := Try.underlying104
  a46 := Try.isAgg104
  z46 := Try.sizeOf104
  v46 := Try.zeroValue104
  t50 := Try.underlying108
  a50 := Try.isAgg108
  z50 := Try.sizeOf108
  v50 := Try.zeroValue108
  t53 := Try.underlying26
  a53 := Try.isAgg26
  z53 := Try.sizeOf26
  v53 := Try.zeroValue26
  t55 := Try.underlying22
  a55 := Try.isAgg22
  z55 := Try.sizeOf22
  v55 := Try.zeroValue22
  t66 := Try.underlying118
  a66 := Try.isAgg118
  z66 := Try.sizeOf118
  v66 := Try.zeroValue118
  t70 := Try.underlying121
  a70 := Try.isAgg121
  z70 := Try.sizeOf121
  v70 := Try.zeroValue121
  t76 := Try.underlying126
  a76 := Try.isAgg126
  z76 := Try.sizeOf126
  v76 := Try.zeroValue126
  t77 := Try.underlying127
  a77 := Try.isAgg127
  z77 := Try.sizeOf127
  v77 := Try.zeroValue127 }
end Go.Proofs
end
section
set_option linter.unusedVariables false
namespace TwR
open Go Tw

/-! Spots: a token, a member. -/
abbrev Spot := Int × Int
def encS (x : Spot) : List Value := [.int .u32 x.1, .int .i64 x.2]
def cfS (x y : Spot) : Int := if x.1 < y.1 then -1 else if y.1 < x.1 then 1 else if x.2 < y.2 then -1 else if y.2 < x.2 then 1 else 0

theorem cmpW_spec {R : Ending → Hp → Prop} {σ : Hp} {x y : Int} (h : R (.returned (.int .i64 (if x < y then -1 else if y < x then 1 else 0))) σ) : Spec prog cmp_Compare_uint32.fid #[.int .u32 x, .int .u32 y] σ R := by
  refine cmp_Compare_uint32.start (cmp_isNaN_uint32.start ⟨_, rfl, cmp_isNaN_uint32.start ⟨_, rfl, fun ht => by simp at ht, fun _ => ⟨fun ht => by simp at ht, fun _ => ⟨fun h1 => ?_, fun h1 => ⟨fun h2 => ?_, fun h2 => ?_⟩⟩⟩⟩⟩)
  · simpa [h1] using h
  · simpa [h1, h2] using h
  · simpa [h1, h2] using h
theorem cmpI_spec {R : Ending → Hp → Prop} {σ : Hp} {x y : Int} (h : R (.returned (.int .i64 (if x < y then -1 else if y < x then 1 else 0))) σ) : Spec prog cmp_Compare_int.fid #[.int .i64 x, .int .i64 y] σ R := by
  refine cmp_Compare_int.start (cmp_isNaN_int.start ⟨_, rfl, cmp_isNaN_int.start ⟨_, rfl, fun ht => by simp at ht, fun _ => ⟨fun ht => by simp at ht, fun _ => ⟨fun h1 => ?_, fun h1 => ⟨fun h2 => ?_, fun h2 => ?_⟩⟩⟩⟩⟩)
  · simpa [h1] using h
  · simpa [h1, h2] using h
  · simpa [h1, h2] using h

theorem closure_spec {R : Ending → Hp → Prop} {σ : Hp} {x y : Spot} (h : ∀ σ', R (.returned (.int .i64 (cfS x y))) σ') : Spec prog ring_circle_1.fid #[.agg #[.int .u32 x.1, .int .i64 x.2], .agg #[.int .u32 y.1, .int .i64 y.2]] σ R := by
  refine ring_circle_1.start (cmpW_spec ⟨_, rfl, cmpI_spec ⟨_, rfl, fun b hb => ?_⟩⟩)
  generalize hu : (if x.1 < y.1 then (-1 : Int) else if y.1 < x.1 then 1 else 0) = u
  generalize hv : (if x.2 < y.2 then (-1 : Int) else if y.2 < x.2 then 1 else 0) = v
  have hcf : cfS x y = if u = 0 then v else u := by
    unfold cfS
    rw [← hu, ← hv]
    by_cases h1 : x.1 < y.1
    · simp [h1]
    · by_cases h2 : y.1 < x.1
      · simp [h1, h2]
      · simp [h1, h2]
  refine cmp_Or_int.start (cmp_Or_int.pt10_of ⟨fun _ => ⟨b, 0, rfl, by omega, u, by simp [Hp.ld, Hp.set_same], fun h0 => ⟨_, rfl, ?_⟩, fun h0 => ⟨by unfold I64; omega, cmp_Or_int.pt10_of ⟨fun _ => ⟨b, 0, rfl, by omega, v, by simp [Hp.ld, Hp.set_same], fun h1 => ⟨_, rfl, ?_⟩, fun h1 => ⟨by unfold I64; omega, cmp_Or_int.pt10_of ⟨fun h2 => by omega, fun _ => ⟨_, rfl, ?_⟩⟩⟩⟩, fun h2 => by omega⟩⟩⟩, fun h2 => by omega⟩)
  · have := h (σ.set b (.cells #[.int .i64 u, .int .i64 v] 3 (0, 0)))
    rw [hcf, if_neg h0] at this; exact this
  · have h0 : u = 0 := Decidable.byContradiction h0
    have := h (σ.set b (.cells #[.int .i64 u, .int .i64 v] 3 (0, 0)))
    rw [hcf, if_pos h0] at this; exact this
  · have h0 : u = 0 := Decidable.byContradiction h0
    have h1 : v = 0 := Decidable.byContradiction h1
    have := h (σ.set b (.cells #[.int .i64 u, .int .i64 v] 3 (0, 0)))
    rw [hcf, if_pos h0] at this
    simpa [h1] using this

theorem closure_calls (x y : Spot) (W : World) : Calls prog 55 #[.agg (encS x).toArray, .agg (encS y).toArray] W fun e w' => e = .returned (.int .i64 (cfS x y)) ∧ ∃ q os, w' = Sort.grow (W.drewN q) os :=
  (Spec.grown (closure_spec (R := fun e _ => e = .returned (.int .i64 (cfS x y))) fun _ => rfl) W).mono fun e w' ⟨⟨_, he⟩, q, os, hw⟩ => ⟨he, q, os, hw⟩

theorem ltS (x y : Spot) : Proofs.ltOf cfS x y = decide (x.1 < y.1 ∨ (x.1 = y.1 ∧ x.2 < y.2)) := by
  unfold Proofs.ltOf cfS
  by_cases h1 : x.1 < y.1
  · simp [h1]
  · by_cases h2 : y.1 < x.1
    · simp [h1, h2]; omega
    · by_cases h3 : x.2 < y.2
      · simp [h1, h2, h3]; omega
      · by_cases h4 : y.2 < x.2
        · simp [h1, h2, h3, h4]
        · simp [h1, h2, h3, h4]
theorem swoS : Sort.SWO (Proofs.ltOf cfS) where
  irrefl x := by rw [ltS]; simp
  trans x y z h1 h2 := by rw [ltS] at *; simp at *; omega
  ntrans x y z h1 h2 := by rw [ltS] at *; simp at *; omega
theorem totS (x y : Spot) (h1 : Proofs.ltOf cfS x y = false) (h2 : Proofs.ltOf cfS y x = false) : x = y := by
  rw [ltS] at *
  simp at h1 h2
  exact Prod.ext (by omega) (by omega)

/-- The spots in order. -/
def sorted (xs : List Spot) : List Spot := xs.mergeSort fun x y => !(Proofs.ltOf cfS) y x
theorem sorted_len (xs : List Spot) : (sorted xs).length = xs.length := List.length_mergeSort _

theorem flat_get {α : Type} {enc : α → List Value} {k : Nat} (hk : ∀ x, (enc x).length = k) (h0 : 0 < k) : ∀ (xs : List α) (j : Nat), (xs.flatMap enc)[j]? = (xs[j / k]?).bind fun x => (enc x)[j % k]?
  | [], j => by simp
  | x :: xs, j => by
    rw [List.flatMap_cons, List.getElem?_append, hk]
    by_cases hj : j < k
    · rw [if_pos hj, Nat.div_eq_of_lt hj, Nat.mod_eq_of_lt hj]; simp
    · rw [if_neg hj, flat_get hk h0 xs, show j / k = (j - k) / k + 1 by rw [← Nat.add_div_right _ h0]; congr 1; omega, show (j - k) % k = j % k by rw [Nat.mod_eq_sub_mod (by omega : j ≥ k)]]
      simp
theorem flat_len {α : Type} {enc : α → List Value} {k : Nat} (hk : ∀ x, (enc x).length = k) : ∀ (xs : List α), (xs.flatMap enc).length = xs.length * k
  | [] => by simp
  | x :: xs => by rw [List.flatMap_cons, List.length_append, flat_len hk xs, hk, List.length_cons, Nat.add_mul]; omega

theorem flatK_get (d : List Spot) (j : Nat) (hj : j < d.length * 2) : (d.flatMap encS)[j]? = some (Sort.flatK encS 2 d.toArray)[j]! := by
  rw [flat_get (k := 2) (fun _ => rfl) (by decide), Sort.get_flatK _ _ _ _ (by simpa using hj)]
  have hlt : j / 2 < d.length := by omega
  rw [List.getElem?_eq_getElem hlt]
  have h2 : j % 2 < (encS d[j / 2]).length := Nat.mod_lt _ (by decide)
  simp only [Option.bind_some]
  rw [List.getElem?_eq_getElem h2]
  have e1 : d.toArray[j / 2]! = d[j / 2] := by simp [hlt]
  rw [e1, getElem!_pos (encS d[j / 2]) (j % 2) h2]

theorem cells_own {σ : Hp} {w : World} (hs : Sat σ w) {b o m d : Nat} {cs : List Value} (h : Own 2 σ (some ⟨b, o, none⟩) m d cs) (hm : m ≠ 0) :
    ∃ arr T, σ b = some (.cells arr T (0, 0)) ∧ w.heap[b]? = some (.cells arr T (0, 0)) ∧ m ≤ d ∧ o + d * 2 ≤ arr.size ∧ (arr.toList.drop o).take (m * 2) = cs := by
  rcases h.2.2 with ⟨h1, h2, _⟩ | ⟨b', o', arr, T, hp, hb, hmd, hsz, hcs⟩
  · exact absurd h2 hm
  · cases hp
    exact ⟨arr, T, hb, hs _ _ hb, hmd, hsz, hcs⟩

theorem putCells_get (F arr : Array Value) (o j : Nat) : (Sort.putCells id o F arr)[j]? = if o ≤ j ∧ j < o + F.size then (arr[j]?).map fun _ => F[j - o]! else arr[j]? := by
  simp only [Sort.putCells, Array.getElem?_mapIdx, id]
  by_cases h : o ≤ j ∧ j < o + F.size
  · rw [if_pos h]; simp [h]
  · rw [if_neg h]
    cases arr[j]? with
    | none => rfl
    | some v => simp only [Option.map_some]; rw [if_neg h]

/-- The spots are sorted. -/
theorem sortSpots_spec {R : Ending → Hp → Prop} {σ : Hp} {q : Option Addr} {m d : Nat} {xs : List Spot} (ho : Own 2 σ q m d (xs.flatMap encS)) (hm : xs.length = m) (hsz : m < 4611686018427387904)
    (h : ∀ σ', Own 2 σ' q m d ((sorted xs).flatMap encS) → Ext (σ.del q) (σ'.del q) → R (.returned (.tuple #[])) σ') : Spec prog slices_SortFunc_spot.fid #[.slice q m d, .func (.func 55) #[] #[]] σ R := by
  intro w F hs hF
  by_cases hm0 : m = 0
  · subst hm0
    have hx : xs = [] := List.eq_nil_of_length_eq_zero hm
    subst hx
    have hcon := Proofs.AnyF.slices_SortFunc_none Proofs.Try.sortSpot q d (.func (.func 55) #[] #[]) w
    change Calls prog 54 _ _ _ at hcon
    refine hcon.mono ?_
    rintro e w' ⟨rfl, rfl⟩
    exact ⟨σ, h σ (by simpa [sorted] using ho) (Ext.refl _), hs, fun b hb => ⟨(hF b hb).2, rfl⟩, .same rfl rfl rfl, rfl, Nat.le_refl _⟩
  · obtain ⟨b, o, rfl⟩ : ∃ b o, q = some ⟨b, o, none⟩ := by
      rcases ho.2.2 with ⟨_, h2, _⟩ | ⟨b', o', arr, T, hp, _⟩
      · exact absurd h2 hm0
      · exact ⟨b', o', hp⟩
    obtain ⟨arr, T, hb, hw, hmd, harr, hcs⟩ := cells_own hs ho hm0
    have hsize : (Sort.flatK encS 2 xs.toArray).size = m * 2 := by simp [hm]
    have hget : ∀ j, j < m * 2 → arr[o + j]? = some (Sort.flatK encS 2 xs.toArray)[j]! := fun j hj => by
      rw [← flatK_get xs j (by omega), ← hcs, List.getElem?_take, if_pos hj, List.getElem?_drop, Array.getElem?_toList]
    have hH : Sort.HoldsK encS 2 w b o xs.toArray := fun j hj => by
      rw [hsize] at hj
      refine ⟨?_, by simp [World.frozen?, hw]⟩
      simp only [World.cell?, hw, id]
      simpa using hget j hj
    have hblk : b < w.heap.size := (Array.getElem?_eq_some_iff.1 hw).1
    have eg : ∀ args w, (callFunc 55 args).run prog w = .ok (.enter 55 args) w := fun args w => Proofs.Try.call55 args w
    have hcmp : Proofs.CmpLays prog 55 #[] encS 2 cfS b o xs.toArray.size w := fun _ _ _ _ x y => closure_calls x y _
    have hcon := Proofs.AnyQ.slices_SortFunc_total Proofs.Try.sortSpot 2 Proofs.Try.isAgg81 Proofs.Try.sizeOf81 encS (fun _ => rfl) (fun x v hv => by simp [encS] at hv; rcases hv with rfl | rfl <;> rfl) cfS swoS 55 #[] b o d xs.toArray w eg hcmp hH hblk (by simpa [hm] using hsz) totS
    change Calls prog 54 _ _ _ at hcon
    rw [show xs.toArray.size = m by simpa using hm] at hcon
    rw [show (xs.toArray.toList.mergeSort fun x y => !Proofs.ltOf cfS y x) = sorted xs from rfl] at hcon
    refine hcon.mono ?_
    rintro e w' ⟨rfl, n, os, rfl⟩
    let F2 := Sort.flatK encS 2 (sorted xs).toArray
    have hF2 : F2.size = m * 2 := by simp [F2, sorted_len, hm]
    have hheap : ∀ k, (Proofs.sortWorldK encS 2 w b o n (sorted xs).toArray os).heap[k]? = if k < w.heap.size then (if b = k then (w.heap[k]?).map (Sort.onCells (Sort.putCells id o F2)) else w.heap[k]?) else os[k - w.heap.size]? := fun k => by
      simp only [Proofs.sortWorldK, Sort.grow, Sort.putRowK, Sort.putRow, Sort.mapBlock, Sort.ahead, Array.getElem?_append, Array.size_modify, Array.getElem?_modify]
      rfl
    refine ⟨σ.set b (.cells (Sort.putCells id o F2 arr) T (0, 0)), h _ ⟨by rw [flat_len (k := 2) (fun _ => rfl), sorted_len, hm], by omega, .inr ⟨b, o, _, T, rfl, Hp.set_same _ _ _, hmd, by simpa [Sort.putCells] using harr, ?_⟩⟩ (by rw [Hp.del_set_same]; exact Ext.refl _), ?_⟩
    · refine List.ext_getElem? fun j => ?_
      rw [List.getElem?_take]
      by_cases hj : j < m * 2
      · rw [if_pos hj, List.getElem?_drop, Array.getElem?_toList, putCells_get, if_pos (by omega), flatK_get _ _ (by rw [sorted_len]; omega), hget j hj]
        simp [F2]
      · rw [if_neg hj, List.getElem?_eq_none (by rw [flat_len (k := 2) (fun _ => rfl), sorted_len]; omega)]
    · refine ⟨fun k u hk => ?_, fun k hk => ?_, ⟨rfl, rfl, n, rfl⟩, rfl, by simp [Proofs.sortWorldK, Sort.grow, Sort.putRowK, Sort.putRow, Sort.mapBlock, Sort.ahead]⟩
      · rw [hheap]
        by_cases hkb : k = b
        · subst hkb
          rw [Hp.set_same] at hk; cases hk
          rw [if_pos hblk, if_pos rfl, hw]; rfl
        · rw [Hp.set_ne hkb] at hk
          have := hs k u hk
          rw [if_pos (Array.getElem?_eq_some_iff.1 this).1, if_neg (Ne.symm hkb)]; exact this
      · have hkb : k ≠ b := fun e => by have := (hF k hk).2; rw [e, hb] at this; cases this
        refine ⟨by rw [Hp.set_ne hkb]; exact (hF k hk).2, ?_⟩
        rw [hheap, if_pos (hF k hk).1, if_neg (Ne.symm hkb)]
end TwR
end
section
set_option linter.unusedVariables false
namespace TwR
open Go Tw

def spotsOf (m : Mem) : List Spot := if m.state = 2 then m.toks.map (fun t => (t, m.id)) else []
def spots (ms : List Mem) : List Spot := ms.flatMap spotsOf

theorem spotsOf_len (m : Mem) (N : Nat) (h : m.toks.length ≤ N) : (spotsOf m).length ≤ N := by
  unfold spotsOf; split <;> simp; exact h
theorem spots_len : ∀ (ms : List Mem) (N : Nat), (∀ m ∈ ms, m.toks.length ≤ N) → (spots ms).length ≤ ms.length * N
  | [], N, _ => by simp [spots]
  | m :: ms, N, h => by
    have h1 := spots_len ms N (fun x hx => h x (List.mem_cons_of_mem _ hx))
    have h2 := spotsOf_len m N (h m (List.mem_cons_self ..))
    simp only [spots, List.flatMap_cons, List.length_append, List.length_cons, Nat.add_mul] at *
    omega
theorem spots_snoc {ms : List Mem} {i : Nat} {m : Mem} (h : ms[i]? = some m) : spots (ms.take (i + 1)) = spots (ms.take i) ++ spotsOf m := by
  simp [spots, List.take_add_one, h]

theorem Hp.none_of_set {σ : Hp} {b k : Nat} {o : Obj} (h : (σ.set b o) k = none) : k ≠ b ∧ σ k = none := by
  have hne : k ≠ b := fun e => by rw [e, Hp.set_same] at h; cases h
  exact ⟨hne, by rw [Hp.set_ne hne] at h; exact h⟩

abbrev c5 (τ : Hp) (b : Nat) (q : Option Addr) (m d : Nat) : Hp := τ.set b (.cells #[.slice q m d] 79 (0, 0))
theorem size79 (w : World) : (Go.sizeOf 79).run prog w = .ok 1 w := Go.Proofs.Try.sizeOf79 w

def ESpot (_ : Hp) (vs : List Value) (x : Spot) : Prop := vs = encS x
theorem ESpot.mono : Mono ESpot := fun _ _ _ _ _ h => h
theorem Ch_spot {σ : Hp} : ∀ {xs : List Spot}, Ch 2 ESpot σ (xs.flatMap encS) xs := fun {xs} => by
  refine ⟨flat_len (k := 2) (fun _ => rfl) xs, fun i x hx => ?_⟩
  show _ = encS x
  refine List.ext_getElem? fun j => ?_
  rw [List.getElem?_take]
  by_cases hj : j < 2
  · rw [if_pos hj, List.getElem?_drop, flat_get (k := 2) (fun _ => rfl) (by decide), show (i * 2 + j) / 2 = i by omega, show (i * 2 + j) % 2 = j by omega, hx]; rfl
  · rw [if_neg hj, List.getElem?_eq_none (by show 2 ≤ j; omega)]

theorem oneC_spot {x : Spot} : OneC (encS x) := by
  intro u hu
  simp [encS] at hu
  rcases hu with rfl | rfl <;> rfl

/-- What the circle tells: its closure over the sorted spots and the place to begin at. -/
theorem circle_spec {R : Ending → Hp → Prop} {σ : Hp} {e hash : Int} {p : Option Addr} {n c : Nat} {ms : List Mem} (hr : RdM σ p n ms) (hok : OkR ms)
    (h : ∀ b5 b10 q m d τ k, τ b5 = none → τ b10 = none → b5 ≠ b10 → Ext σ τ → RdS 2 ESpot (σ.new τ) q m (sorted (spots ms)) → k ≤ m → (∀ s ∈ (sorted (spots ms)).take k, s.1 < hash) → (∀ s, (sorted (spots ms))[k]? = some s → ¬ s.1 < hash) →
      R (.returned (.func (.func 59) #[] #[.pointer (some ⟨b5, 0, none⟩), .pointer (some ⟨b10, 0, none⟩)])) ((c5 τ b5 q m d).set b10 (.cells #[.int .i64 k] 3 (0, 0)))) :
    Spec prog ring_circle.fid #[vRing e p n c, .int .u32 hash] σ R := by
  have hn : ms.length = n := hr.1
  have hlen := hok.len
  refine ring_circle.start fun b5 hb5 => ?_
  have hrest : ∀ q m d τ, m = (spots ms).length → τ b5 = none → Ext σ τ → Own 2 (σ.new τ) q m d ((spots ms).flatMap encS) → ∃ p37 : Option Addr, ∃ n37 : Nat, ∃ c37 : Nat, Hp.ld (c5 τ b5 q m d) ⟨b5, 0, none⟩ = some (.slice p37 n37 c37) ∧ Spec prog slices_SortFunc_spot.fid #[(.slice p37 n37 c37), (.func (.func 55) #[] #[])] (c5 τ b5 q m d) (Cont R (fun v σ1 => v = (.tuple #[]) ∧ ∀ b10 : Nat, σ1 b10 = none → Eff prog (Instr.storeAt 3 (.pointer (some ⟨b10, 0, none⟩)) (.int .i64 0)) (Hp.set σ1 b10 (.cells #[(.int .i64 0)] 3 (0, 0))) (fun _ σ1_2 => ring_circle.pt49 R hash b5 b10 σ1_2))) := by
    intro q m d τ hm hb hx ho
    refine ⟨q, m, d, ld_same rfl, Spec.frame1 hb ?_⟩
    have hbig : m ≤ 1024 := by
      have h1 := spots_len ms 64 (fun x hx => (hok.1 x hx).2.2.2.2.2.1)
      omega
    refine sortSpots_spec (ho.mono (Ext.of_new σ τ)) hm.symm (by omega) fun τ' ho' hx' hn' => ⟨rfl, fun b10 hb10 => ?_⟩
    obtain ⟨hne, hb10'⟩ := Hp.none_of_set hb10
    refine Eff.store sizeI (Hp.set_same _ _ _) rfl (by simp) (by simp [Value.cells, Value.oneCell']) ?_
    rw [Hp.set_set]
    have hxt : Ext σ τ' := ext_new ho.new_none hx' hx
    have hL : (sorted (spots ms)).length = m := by rw [sorted_len, hm]
    have hrn : RdS 2 ESpot (σ.new τ') q m (sorted (spots ms)) := ⟨hL, _, (Own.to_new ho' (new_block ho.new_none hx' hx)).rd, Ch_spot⟩
    have hrd : RdS 2 ESpot τ' q m (sorted (spots ms)) := hrn.mono ESpot.mono (Ext.of_new σ τ')
    suffices H : ∀ g k, m - k = g → k ≤ m → (∀ s ∈ (sorted (spots ms)).take k, s.1 < hash) → ring_circle.pt49 R hash b5 b10 ((c5 τ' b5 q m d).set b10 (.cells #[.int .i64 k] 3 (0, 0))) from by
      have := H m 0 rfl (by omega) (by simp)
      simpa [wrt, Value.cells] using this
    intro g
    induction g with
    | zero =>
      intro k hg hk hlo
      refine ring_circle.pt49_of ⟨k, ld_same rfl, q, m, d, by rw [Hp.set_comm hne.symm]; exact ld_same rfl, fun hlt => by omega, fun _ => ?_⟩
      exact h b5 b10 q m d τ' k hn' hb10' hne.symm hxt hrn hk hlo (fun s hs => by have := (List.getElem?_eq_some_iff.1 hs).1; omega)
    | succ g ih =>
      intro k hg hk hlo
      obtain ⟨s, hs⟩ := hrd.ex (k := k) (by omega)
      obtain ⟨b, o, vs, hq, hv, hl⟩ := RdS.idx hrd hs
      have hv : vs = encS s := hv
      subst hv
      have hxx : Ext τ' ((c5 τ' b5 q m d).set b10 (.cells #[.int .i64 k] 3 (0, 0))) := (Ext.set hn').trans (.set hb10)
      refine ring_circle.pt49_of ⟨k, ld_same rfl, q, m, d, by rw [Hp.set_comm hne.symm]; exact ld_same rfl, fun hlt => ⟨q, m, d, by rw [Hp.set_comm hne.symm]; exact ld_same rfl, k, ld_same rfl, b, o, hq, by omega, s.1, by simpa using hxx.ld hl.1, fun ht => ⟨k, ld_same rfl, by unfold I64; omega, ?_⟩, fun ht => ?_⟩, fun hge => by omega⟩
      · refine Eff.store sizeI (Hp.set_same _ _ _) rfl (by simp) (by simp [Value.cells, Value.oneCell']) ?_
        rw [Hp.set_set]
        have := ih (k + 1) (by omega) (by omega) (fun s' hs' => by
          rw [List.take_add_one, hs] at hs'
          simp only [Option.toList, List.mem_append, List.mem_singleton] at hs'
          rcases hs' with hs' | rfl
          · exact hlo s' hs'
          · exact ht)
        simpa [wrt, Value.cells] using this
      · exact h b5 b10 q m d τ' k hn' hb10' hne.symm hxt hrn hk hlo (fun s' hs' => by rw [hs] at hs'; cases hs'; exact ht)
  suffices H : ∀ g i : Nat, ∀ q m d τ, n - i = g → i ≤ n → m = (spots (ms.take i)).length → τ b5 = none → Ext σ τ → Own 2 (σ.new τ) q m d ((spots (ms.take i)).flatMap encS) → ring_circle.pt10 R hash b5 p n c n i (c5 τ b5 q m d) from
    H n 0 none 0 0 σ rfl (by omega) rfl hb5 (.refl σ) .nil
  intro g
  induction g with
  | zero =>
    intro i q m d τ hg hi hm hb hx ho
    refine ring_circle.pt10_of ⟨fun hlt => by omega, fun _ => ?_⟩
    rw [List.take_of_length_le (by omega)] at hm ho
    exact hrest q m d τ hm hb hx ho
  | succ g ih =>
    intro i q m d τ hg hi hm hb hx ho
    refine ring_circle.pt10_of ⟨fun hlt => ?_, fun hge => by omega⟩
    obtain ⟨mm, hmm⟩ := hr.ex (k := i) (by omega)
    obtain ⟨b, o, q1, j, d1, rfl, hl, ht⟩ := hr.at' hmm
    have hmem : mm ∈ ms := List.mem_of_getElem? hmm
    have hok1 := hok.1 mm hmem
    have hj : mm.toks.length = j := ht.1
    have hj64 : j ≤ 64 := by rw [← hj]; exact hok1.2.2.2.2.2.1
    have hacc : (spots (ms.take i)).length ≤ i * 64 := by
      have h1 := spots_len (ms.take i) 64 (fun x hx => (hok.1 x (List.mem_of_mem_take hx)).2.2.2.2.2.1)
      rw [List.length_take] at h1
      have : min i ms.length * 64 ≤ i * 64 := Nat.mul_le_mul_right _ (Nat.min_le_left ..)
      omega
    refine ⟨b, o, rfl, by omega, mm.id, mm.state, q1, j, d1, by simpa using hl.mono (hx.trans (.set hb)), ?_⟩
    suffices H2 : ∀ g2 k : Nat, ∀ q m d τ, j - k = g2 → k ≤ j → m = (spots (ms.take i) ++ (if mm.state = 2 then (mm.toks.take k).map (fun t => (t, mm.id)) else [])).length → τ b5 = none → Ext σ τ → Own 2 (σ.new τ) q m d ((spots (ms.take i) ++ (if mm.state = 2 then (mm.toks.take k).map (fun t => (t, mm.id)) else [])).flatMap encS) →
        ring_circle.pt24 R hash b5 mm.id mm.state q1 j d1 (some ⟨b, o, none⟩) n c n i q1 j d1 j k (c5 τ b5 q m d) from
      H2 j 0 q m d τ rfl (by omega) (by simpa using hm) hb hx (by simpa using ho)
    intro g2
    induction g2 with
    | zero =>
      intro k q m d τ hg2 hk hm hb hx ho
      refine ring_circle.pt24_of ⟨fun hlt => by omega, fun _ => ⟨by unfold I64; omega, ih (i + 1) q m d τ (by omega) (by omega) ?_ hb hx ?_⟩⟩
      all_goals rw [List.take_of_length_le (by omega : mm.toks.length ≤ k)] at *
      · rw [spots_snoc hmm]; exact hm
      · rw [spots_snoc hmm]; exact ho
    | succ g2 ih2 =>
      intro k q m d τ hg2 hk hm hb hx ho
      obtain ⟨t, htk⟩ := ht.ex (k := k) (by omega)
      obtain ⟨b2, o2, rfl, hl2⟩ := ht.at htk
      refine ring_circle.pt24_of ⟨fun _ => ⟨b2, o2, rfl, by omega, t, by simpa using (hx.trans (.set hb)).ld hl2, fun h2 => ?_, fun h2 => ?_⟩, fun hge => by omega⟩
      · refine ⟨q, m, d, ld_same rfl, fun b33 hb33 => ?_⟩
        obtain ⟨hne, hb33'⟩ := Hp.none_of_set hb33
        rw [Hp.set_comm hne.symm]
        rw [if_pos h2] at hm ho
        have hmlen : m ≤ 2048 := by rw [hm]; simp; omega
        refine Eff.frame1 (Hp.set_none hne.symm hb) (app_lit (m := 1) (ys := encS (t, mm.id)) hx ho rfl oneC_spot (by omega) (fun q' d' τ' ho' hx' _ hn' => ⟨q', m + 1, d', rfl, ?_⟩) hb33')
        refine Eff.store size79 (Hp.set_same _ _ _) rfl (by simp) (by simp [Value.cells, Value.oneCell']) ?_
        rw [Hp.set_set]
        have e1 : mm.toks.take (k + 1) = mm.toks.take k ++ [t] := take_succ' htk
        have := ih2 (k + 1) q' (m + 1) d' τ' (by omega) (by omega) (by rw [if_pos h2, e1, hm]; simp; omega) hn' hx' (by
          rw [if_pos h2, e1, List.map_append, ← List.append_assoc, List.flatMap_append]
          simpa using ho')
        refine ring_circle.pt38_of ⟨by unfold I64; omega, ?_⟩
        simpa [wrt, Value.cells] using this
      · rw [if_neg h2] at hm ho
        exact ring_circle.pt38_of ⟨by unfold I64; omega, ih2 (k + 1) q m d τ (by omega) (by omega) (by rw [if_neg h2]; exact hm) hb hx (by rw [if_neg h2]; exact ho)⟩
end TwR
end
section
set_option linter.unusedVariables false
namespace TwR
open Go Tw

/-! The circle as a list. -/
def circ (ms : List Mem) (hash : Int) : List Spot := (sorted (spots ms)).dropWhile (fun s => decide (s.1 < hash)) ++ (sorted (spots ms)).takeWhile (fun s => decide (s.1 < hash))

def dd : List Int → List Int → List Int
  | acc, [] => acc
  | acc, x :: xs => if x ∈ acc then dd acc xs else dd (acc ++ [x]) xs

/-- The members on the circle, once each. -/
def round (ms : List Mem) (hash : Int) : List Int := dd [] ((circ ms hash).map Prod.snd)

theorem dd_ext : ∀ (xs acc : List Int), ∃ E, dd acc xs = acc ++ E
  | [], acc => ⟨[], by simp [dd]⟩
  | x :: xs, acc => by
    unfold dd
    split
    · exact dd_ext xs acc
    · obtain ⟨E, hE⟩ := dd_ext xs (acc ++ [x])
      exact ⟨x :: E, by rw [hE]; simp⟩
theorem dd_app : ∀ (xs ys acc : List Int), dd acc (xs ++ ys) = dd (dd acc xs) ys
  | [], ys, acc => rfl
  | x :: xs, ys, acc => by
    simp only [List.cons_append, dd]
    split <;> exact dd_app xs ys _
theorem dd_mem : ∀ (xs acc : List Int) (y : Int), y ∈ dd acc xs ↔ y ∈ acc ∨ y ∈ xs
  | [], acc, y => by simp [dd]
  | x :: xs, acc, y => by
    unfold dd
    split
    · rename_i h
      rw [dd_mem xs acc y, List.mem_cons]
      constructor
      · rintro (h1 | h1)
        · exact .inl h1
        · exact .inr (.inr h1)
      · rintro (h1 | rfl | h1)
        · exact .inl h1
        · exact .inl h
        · exact .inr h1
    · rw [dd_mem xs _ y]; simp [or_assoc]
theorem dd_nodup : ∀ (xs acc : List Int), acc.Nodup → (dd acc xs).Nodup
  | [], acc, h => h
  | x :: xs, acc, h => by
    unfold dd
    split
    · exact dd_nodup xs acc h
    · rename_i hx
      refine dd_nodup xs _ ?_
      rw [List.nodup_append]
      exact ⟨h, by simp, fun a ha b hb => by simp at hb; subst hb; exact fun e => hx (e ▸ ha)⟩

/-- Each is the first that was not met. -/
theorem dd_first : ∀ (xs acc : List Int) (k : Nat) (x : Int), acc.length ≤ k → (dd acc xs)[k]? = some x → ∃ pre suf, xs = pre ++ x :: suf ∧ (∀ y ∈ pre, y ∈ (dd acc xs).take k) ∧ x ∉ (dd acc xs).take k
  | [], acc, k, x, hk, h => by
    have := (List.getElem?_eq_some_iff.1 h).1
    simp [dd] at this; omega
  | z :: xs, acc, k, x, hk, h => by
    unfold dd at h ⊢
    split
    · rename_i hz
      rw [if_pos hz] at h
      obtain ⟨pre, suf, h1, h2, h3⟩ := dd_first xs acc k x hk h
      refine ⟨z :: pre, suf, by rw [h1]; rfl, fun y hy => ?_, h3⟩
      rcases List.mem_cons.1 hy with rfl | hy
      · obtain ⟨E, hE⟩ := dd_ext xs acc
        rw [hE]
        exact List.mem_of_mem_take (i := acc.length) (by rw [List.take_take, Nat.min_eq_left hk, List.take_left]; exact hz)
      · exact h2 y hy
    · rename_i hz
      rw [if_neg hz] at h
      obtain ⟨E, hE⟩ := dd_ext xs (acc ++ [z])
      by_cases hka : k = acc.length
      · subst hka
        rw [hE] at h
        simp at h
        subst h
        refine ⟨[], xs, rfl, by simp, ?_⟩
        rw [hE, List.append_assoc, List.take_left]; exact hz
      · obtain ⟨pre, suf, h1, h2, h3⟩ := dd_first xs (acc ++ [z]) k x (by simp; omega) h
        refine ⟨z :: pre, suf, by rw [h1]; rfl, fun y hy => ?_, h3⟩
        rcases List.mem_cons.1 hy with rfl | hy
        · rw [hE]
          exact List.mem_of_mem_take (i := (acc ++ [y]).length) (by rw [List.take_take, Nat.min_eq_left (by simp; omega), List.take_left]; simp)
        · exact h2 y hy

/-! The order -/
def leS (x y : Spot) : Prop := x.1 < y.1 ∨ (x.1 = y.1 ∧ x.2 ≤ y.2)
theorem sorted_pw (xs : List Spot) : (sorted xs).Pairwise leS := by
  have h := List.pairwise_mergeSort (le := fun x y => !(Proofs.ltOf cfS) y x) (fun a b c h1 h2 => by simp only [ltS] at *; simp at *; omega) (fun a b => by simp only [ltS]; simp; omega) xs
  refine h.imp fun {a b} hab => ?_
  simp only [ltS] at hab
  unfold leS
  simp at hab
  omega
theorem sorted_mem {xs : List Spot} {x : Spot} : x ∈ sorted xs ↔ x ∈ xs := (List.mergeSort_perm xs _).mem_iff

theorem circ_mem {ms : List Mem} {hash : Int} {s : Spot} : s ∈ circ ms hash ↔ s ∈ spots ms := by
  unfold circ
  rw [List.mem_append, or_comm, ← List.mem_append, List.takeWhile_append_dropWhile, sorted_mem]

def kd (hash t : Int) : Int := (t - hash) % 4294967296
def leK (hash : Int) (x y : Spot) : Prop := kd hash x.1 < kd hash y.1 ∨ (kd hash x.1 = kd hash y.1 ∧ x.2 ≤ y.2)
def W32 (t : Int) : Prop := 0 ≤ t ∧ t < 4294967296

theorem mem_dropWhile {xs : List Spot} {hash : Int} (h : xs.Pairwise leS) : ∀ s ∈ xs.dropWhile (fun s => decide (s.1 < hash)), hash ≤ s.1 := by
  induction xs with
  | nil => simp
  | cons x xs ih =>
    rw [List.pairwise_cons] at h
    intro s hs
    by_cases hx : x.1 < hash
    · simp only [List.dropWhile, decide_eq_true hx] at hs
      exact ih h.2 s hs
    · simp only [List.dropWhile, decide_eq_false hx] at hs
      rcases List.mem_cons.1 hs with rfl | hs
      · omega
      · have := h.1 s hs
        unfold leS at this; omega
theorem mem_takeWhile {xs : List Spot} {hash : Int} : ∀ s ∈ xs.takeWhile (fun s => decide (s.1 < hash)), s.1 < hash := by
  induction xs with
  | nil => simp
  | cons x xs ih =>
    intro s hs
    by_cases hx : x.1 < hash
    · simp only [List.takeWhile, decide_eq_true hx] at hs
      rcases List.mem_cons.1 hs with rfl | hs
      · exact hx
      · exact ih s hs
    · simp only [List.takeWhile, decide_eq_false hx] at hs; cases hs

theorem circ_pw {ms : List Mem} {hash : Int} (hh : W32 hash) (ht : ∀ s ∈ spots ms, W32 s.1) : (circ ms hash).Pairwise (leK hash) := by
  have hp := sorted_pw (spots ms)
  have hm : ∀ s ∈ sorted (spots ms), W32 s.1 := fun s hs => ht s (sorted_mem.1 hs)
  unfold W32 at *
  have hsub1 := List.dropWhile_sublist (l := sorted (spots ms)) (fun s => decide (s.1 < hash))
  have hsub2 := List.takeWhile_sublist (l := sorted (spots ms)) (fun s => decide (s.1 < hash))
  have hp1 := hp.sublist hsub1
  have hp2 := hp.sublist hsub2
  have g1 := mem_dropWhile (hash := hash) hp
  have g2 := mem_takeWhile (xs := sorted (spots ms)) (hash := hash)
  unfold circ
  rw [List.pairwise_append]
  refine ⟨List.Pairwise.imp_of_mem (fun {a b} ha hb hab => ?_) hp1, List.Pairwise.imp_of_mem (fun {a b} ha hb hab => ?_) hp2, fun a ha b hb => ?_⟩
  · have a1 := g1 a ha; have b1 := g1 b hb; have a2 := hm a (hsub1.subset ha); have b2 := hm b (hsub1.subset hb)
    unfold leS at hab; unfold leK kd
    rw [Int.emod_eq_of_lt (by omega) (by omega), Int.emod_eq_of_lt (by omega) (by omega)]
    omega
  · have a1 := g2 a ha; have b1 := g2 b hb; have a2 := hm a (hsub2.subset ha); have b2 := hm b (hsub2.subset hb)
    unfold leS at hab; unfold leK kd
    have ea : (a.1 - hash) % 4294967296 = a.1 - hash + 4294967296 := by omega
    have eb : (b.1 - hash) % 4294967296 = b.1 - hash + 4294967296 := by omega
    rw [ea, eb]; omega
  · have a1 := g1 a ha; have b1 := g2 b hb; have a2 := hm a (hsub1.subset ha); have b2 := hm b (hsub2.subset hb)
    unfold leK kd
    have ea : (a.1 - hash) % 4294967296 = a.1 - hash := by omega
    have eb : (b.1 - hash) % 4294967296 = b.1 - hash + 4294967296 := by omega
    rw [ea, eb]; omega

/-! The document's next -/
def better (hash : Int) (b : Option Spot) (s : Spot) : Option Spot :=
  match b with
  | none => some s
  | some u => if kd hash s.1 < kd hash u.1 then some s else some u
def pick (hash : Int) (xs : List Spot) : Option Spot := xs.foldl (better hash) none

theorem pick_inv (hash : Int) : ∀ (xs pre : List Spot) (b : Option Spot), (pre ++ xs).Pairwise (fun a b => a.2 ≤ b.2) → (match b with | none => pre = [] | some u => u ∈ pre ∧ ∀ s ∈ pre, leK hash u s) →
    match xs.foldl (better hash) b with | none => pre ++ xs = [] | some u => u ∈ pre ++ xs ∧ ∀ s ∈ pre ++ xs, leK hash u s
  | [], pre, b, hp, h => by simpa using h
  | x :: xs, pre, b, hp, h => by
    rw [List.foldl_cons]
    have := pick_inv hash xs (pre ++ [x]) (better hash b x) (by simpa using hp) ?_
    · simpa using this
    · cases b with
      | none =>
        subst h
        simp only [better]
        exact ⟨by simp, fun s hs => by simp at hs; subst hs; exact .inr ⟨rfl, Int.le_refl _⟩⟩
      | some u =>
        obtain ⟨h1, h2⟩ := h
        unfold better
        by_cases hx : kd hash x.1 < kd hash u.1
        · simp only [if_pos hx]
          refine ⟨by simp, fun s hs => ?_⟩
          rw [List.mem_append, List.mem_singleton] at hs
          rcases hs with hs | rfl
          · have := h2 s hs; unfold leK at *; omega
          · exact .inr ⟨rfl, Int.le_refl _⟩
        · simp only [if_neg hx]
          refine ⟨by simp [h1], fun s hs => ?_⟩
          rw [List.mem_append, List.mem_singleton] at hs
          rcases hs with hs | rfl
          · exact h2 s hs
          · have hp' : (pre ++ ([s] ++ xs)).Pairwise (fun a b => a.2 ≤ b.2) := by simpa using hp
            have := (List.pairwise_append.1 hp').2.2 u h1 s (by simp)
            unfold leK; omega

theorem pick_some {hash : Int} {xs : List Spot} (hp : xs.Pairwise (fun a b => a.2 ≤ b.2)) (hne : xs ≠ []) : ∃ u, pick hash xs = some u ∧ u ∈ xs ∧ ∀ s ∈ xs, leK hash u s := by
  have := pick_inv hash xs [] none (by simpa using hp) rfl
  unfold pick
  cases h : xs.foldl (better hash) none with
  | none => rw [h] at this; exact absurd this hne
  | some u => rw [h] at this; exact ⟨u, rfl, by simpa using this⟩

/-- The document's next is the first on the circle that was not met. -/
theorem pick_first {ms : List Mem} {hash : Int} {met pre suf : List Int} {x : Int} (hh : W32 hash) (ht : ∀ s ∈ spots ms, W32 s.1) (hids : (spots ms).Pairwise (fun a b => a.2 ≤ b.2))
    (hsp : (circ ms hash).map Prod.snd = pre ++ x :: suf) (hpre : ∀ y ∈ pre, y ∈ met) (hx : x ∉ met) : ∃ u, pick hash ((spots ms).filter fun s => decide (s.2 ∉ met)) = some u ∧ u.2 = x := by
  obtain ⟨A, B0, hA, hpa, hB⟩ := List.map_eq_append_iff.1 hsp
  obtain ⟨c, B, hB0, hcx, hBs⟩ := List.map_eq_cons_iff.1 hB
  subst hB0
  have hc : c ∈ circ ms hash := by rw [hA]; simp
  have hcand : c ∈ (spots ms).filter fun s => decide (s.2 ∉ met) := List.mem_filter.2 ⟨circ_mem.1 hc, by simpa [hcx] using hx⟩
  obtain ⟨u, hu, hum, hmin⟩ := pick_some (hash := hash) (hids.sublist (List.filter_sublist (p := fun s => decide (s.2 ∉ met)))) (List.ne_nil_of_mem hcand)
  refine ⟨u, hu, ?_⟩
  have h1 := hmin c hcand
  have hpw := circ_pw hh ht
  rw [hA] at hpw
  have humem : u ∈ A ++ c :: B := by rw [← hA]; exact circ_mem.2 (List.mem_filter.1 hum).1
  have hnu : u.2 ∉ met := by simpa using (List.mem_filter.1 hum).2
  rw [List.mem_append, List.mem_cons] at humem
  rcases humem with h2 | rfl | h2
  · exact absurd (hpre u.2 (by rw [← hpa]; exact List.mem_map.2 ⟨u, h2, rfl⟩)) hnu
  · exact hcx
  · have h3 := (List.pairwise_cons.1 (List.pairwise_append.1 hpw).2.1).1 u h2
    unfold leK at h1 h3
    rw [← hcx]; omega

/-! How many -/
theorem nodup_le : ∀ (A B : List Int), A.Nodup → (∀ x ∈ A, x ∈ B) → A.length ≤ B.length
  | [], B, _, _ => Nat.zero_le _
  | a :: A, B, hn, h => by
    rw [List.nodup_cons] at hn
    have ha := h a (List.mem_cons_self ..)
    have := nodup_le A (B.erase a) hn.2 (fun x hx => (List.mem_erase_of_ne (fun (e : x = a) => hn.1 (by rw [← e]; exact hx))).2 (h x (List.mem_cons_of_mem _ hx)))
    rw [List.length_erase_of_mem ha] at this
    have hb : 0 < B.length := List.length_pos_of_mem ha
    simp; omega
theorem nodup_eq {A B : List Int} (ha : A.Nodup) (hb : B.Nodup) (h : ∀ x, x ∈ A ↔ x ∈ B) : A.length = B.length :=
  Nat.le_antisymm (nodup_le A B ha fun x hx => (h x).1 hx) (nodup_le B A hb fun x hx => (h x).2 hx)

def actives (ms : List Mem) : List Int := (ms.filter fun m => decide (m.state = 2)).map Mem.id
theorem spots_id {ms : List Mem} (hok : OkR ms) (x : Int) : x ∈ (spots ms).map Prod.snd ↔ x ∈ actives ms := by
  unfold spots actives
  simp only [List.mem_map, List.mem_flatMap, List.mem_filter, decide_eq_true_eq]
  constructor
  · rintro ⟨s, ⟨m, hm, hs⟩, rfl⟩
    unfold spotsOf at hs
    split at hs
    · rename_i h2
      obtain ⟨t, ht, rfl⟩ := List.mem_map.1 hs
      exact ⟨m, ⟨hm, h2⟩, rfl⟩
    · cases hs
  · rintro ⟨m, ⟨hm, h2⟩, rfl⟩
    have h1 := (hok.1 m hm).2.2.2.2.1
    cases hto : m.toks with
    | nil => rw [hto] at h1; simp at h1
    | cons t ts => exact ⟨(t, m.id), ⟨m, hm, by unfold spotsOf; rw [if_pos h2, hto]; simp⟩, rfl⟩
theorem rise_nodup {xs : List Int} (h : Rise xs) : xs.Nodup := List.Pairwise.imp (fun {a b} (hab : a < b) => by omega) h
theorem round_mem {ms : List Mem} {hash x : Int} (hok : OkR ms) : x ∈ round ms hash ↔ x ∈ actives ms := by
  unfold round
  rw [dd_mem, ← spots_id hok]
  simp only [List.not_mem_nil, false_or, List.mem_map]
  constructor
  · rintro ⟨s, hs, rfl⟩; exact ⟨s, circ_mem.1 hs, rfl⟩
  · rintro ⟨s, hs, rfl⟩; exact ⟨s, circ_mem.2 hs, rfl⟩
theorem round_nodup (ms : List Mem) (hash : Int) : (round ms hash).Nodup := dd_nodup _ _ List.nodup_nil
theorem round_len {ms : List Mem} {hash : Int} (hok : OkR ms) : (round ms hash).length = (actives ms).length :=
  nodup_eq (round_nodup ms hash) ((rise_nodup hok.2).sublist ((List.filter_sublist).map _)) fun x => round_mem hok

theorem spots_ids {ms : List Mem} (hok : OkR ms) : (spots ms).Pairwise (fun a b => a.2 ≤ b.2) := by
  unfold spots
  rw [List.pairwise_flatMap]
  refine ⟨fun m hm => ?_, ?_⟩
  · unfold spotsOf
    split
    · rw [List.pairwise_map]
      exact List.pairwise_of_forall fun _ _ => Int.le_refl _
    · exact List.Pairwise.nil
  · have h := hok.2
    unfold Rise ids at h
    rw [List.pairwise_map] at h
    refine h.imp fun {a b} hab x hx y hy => ?_
    have hxa : x.2 = a.id := by unfold spotsOf at hx; split at hx; · (obtain ⟨t, _, rfl⟩ := List.mem_map.1 hx; rfl)
                                · cases hx
    have hyb : y.2 = b.id := by unfold spotsOf at hy; split at hy; · (obtain ⟨t, _, rfl⟩ := List.mem_map.1 hy; rfl)
                                · cases hy
    omega
end TwR
end
section
set_option linter.unusedVariables false
namespace TwR
open Go Tw

/-! The document's next, and its replicas. -/
def pickId (b : Option Spot) : Int := match b with | none => -1 | some u => u.2
def pickKd (hash : Int) (b : Option Spot) : Int := match b with | none => 0 | some u => kd hash u.1
abbrev cands (met : List Int) (xs : List Spot) : List Spot := xs.filter fun s => decide (s.2 ∉ met)

theorem better_eq {hash : Int} {b : Option Spot} {s : Spot} (hb : ∀ u, b = some u → 0 ≤ u.2) : (pickId b < 0 ∨ kd hash s.1 < pickKd hash b → better hash b s = some s) ∧ (¬ pickId b < 0 → ¬ kd hash s.1 < pickKd hash b → better hash b s = b) := by
  cases b with
  | none => exact ⟨fun _ => rfl, fun h => absurd (show pickId none < 0 by decide) h⟩
  | some u =>
    have := hb u rfl
    simp only [pickId, pickKd, better]
    refine ⟨fun h => if_pos ?_, fun h1 h2 => if_neg h2⟩
    rcases h with h | h
    · omega
    · exact h

theorem cands_act {met : List Int} {m : Mem} (h1 : m.state = 2) (h2 : m.id ∉ met) : cands met (spotsOf m) = m.toks.map fun t => (t, m.id) := by
  unfold cands spotsOf
  rw [if_pos h1, List.filter_eq_self]
  intro s hs
  obtain ⟨t, _, rfl⟩ := List.mem_map.1 hs
  simpa using h2
theorem cands_not {met : List Int} {m : Mem} (h : m.state ≠ 2 ∨ m.id ∈ met) : cands met (spotsOf m) = [] := by
  unfold cands spotsOf
  split
  · rename_i h1
    rw [List.filter_eq_nil_iff]
    intro s hs
    obtain ⟨t, _, rfl⟩ := List.mem_map.1 hs
    simpa using h.resolve_left (fun h2 => h2 h1)
  · rfl

theorem next_spec {R : Ending → Hp → Prop} {σ : Hp} {e hash : Int} {p q : Option Addr} {n c j d : Nat} {ms : List Mem} {met : List Int} (hr : RdM σ p n ms) (hok : OkR ms) (hq : RdI .i64 σ q j met)
    (h : R (.returned (.int .i64 (pickId (pick hash (cands met (spots ms)))))) σ) : Spec prog ref13_next.fid #[vRing e p n c, .int .u32 hash, .slice q j d] σ R := by
  refine ref13_next.start ?_
  have hn : ms.length = n := hr.1
  have hlen := hok.len
  have step : ∀ i m, ms[i]? = some m → cands met (spots (ms.take (i + 1))) = cands met (spots (ms.take i)) ++ cands met (spotsOf m) := fun i m hm => by
    rw [spots_snoc hm]; exact List.filter_append ..
  suffices H : ∀ g i : Nat, ∀ b : Option Spot, n - i = g → i ≤ n → (∀ u, b = some u → 0 ≤ u.2) → b = (cands met (spots (ms.take i))).foldl (better hash) none → ref13_next.pt11 R hash q j d e p n c (pickId b) (pickKd hash b) i σ from
    H n 0 none rfl (by omega) (fun u hu => by cases hu) (by simp [spots, cands])
  intro g
  induction g with
  | zero =>
    intro i b hg hi hb0 hb
    refine ref13_next.pt11_of ⟨fun hlt => by omega, fun _ => ?_⟩
    rw [List.take_of_length_le (by omega)] at hb
    rw [hb]; exact h
  | succ g ih =>
    intro i b hg hi hb0 hb
    obtain ⟨m, hm⟩ := hr.ex (k := i) (by omega)
    obtain ⟨b1, o1, q1, j1, d1, rfl, hl, ht⟩ := hr.at' hm
    have hok1 := hok.1 m (List.mem_of_getElem? hm)
    have hj : m.toks.length = j1 := ht.1
    have hnext : cands met (spotsOf m) = [] → ref13_next.pt47 R hash q j d e (some ⟨b1, o1, none⟩) n c (pickId b) (pickKd hash b) i σ := fun hnil =>
      ref13_next.pt47_of ⟨by unfold I64; omega, ih (i + 1) b (by omega) (by omega) hb0 (by rw [step i m hm, hnil, List.append_nil]; exact hb)⟩
    refine ref13_next.pt11_of ⟨fun _ => ⟨b1, o1, rfl, by omega, m.id, m.state, q1, j1, d1, by simpa using hl, fun hne => hnext (cands_not (.inl hne)), fun heq => has_spec hq ⟨_, rfl, fun ht1 => hnext (cands_not (.inr (by simpa using ht1))), fun hf => ?_⟩⟩, fun hge => by omega⟩
    have hst : m.state = 2 := Decidable.byContradiction fun h => heq (by omega)
    have hnm : m.id ∉ met := by simpa using hf
    have hc := cands_act hst hnm
    suffices H2 : ∀ g2 k : Nat, ∀ b : Option Spot, j1 - k = g2 → k ≤ j1 → (∀ u, b = some u → 0 ≤ u.2) → b = (cands met (spots (ms.take i)) ++ (m.toks.take k).map fun t => (t, m.id)).foldl (better hash) none →
        ref13_next.pt31 R hash q j d e (some ⟨b1, o1, none⟩) n c (pickId b) (pickKd hash b) i m.id m.state q1 j1 d1 k σ from H2 j1 0 b rfl (by omega) hb0 (by simpa using hb)
    intro g2
    induction g2 with
    | zero =>
      intro k b hg2 hk hb0 hb
      refine ref13_next.pt31_of ⟨fun hlt => by omega, fun _ => ref13_next.pt47_of ⟨by unfold I64; omega, ih (i + 1) b (by omega) (by omega) hb0 ?_⟩⟩
      rw [List.take_of_length_le (show m.toks.length ≤ k by omega)] at hb
      rw [step i m hm, hc]; exact hb
    | succ g2 ih2 =>
      intro k b hg2 hk hb0 hb
      obtain ⟨t, htk⟩ := ht.ex (k := k) (by omega)
      obtain ⟨b2, o2, rfl, hl2⟩ := ht.at htk
      have e1 : m.toks.take (k + 1) = m.toks.take k ++ [t] := take_succ' htk
      have hbe := better_eq (hash := hash) (b := b) (s := (t, m.id)) hb0
      have hfold : better hash b (t, m.id) = (cands met (spots (ms.take i)) ++ (m.toks.take (k + 1)).map fun t => (t, m.id)).foldl (better hash) none := by
        rw [e1, List.map_append, ← List.append_assoc, List.foldl_append, ← hb]; rfl
      have hid : 0 ≤ m.id := hok1.1
      have up : better hash b (t, m.id) = some (t, m.id) → ref13_next.pt46 R hash q j d e (some ⟨b1, o1, none⟩) n c m.id (kd hash t) i m.id m.state (some ⟨b2, o2, none⟩) j1 d1 k σ := fun hs =>
        ref13_next.pt46_of ⟨i64_succ (by omega) ht.big, ih2 (k + 1) (some (t, m.id)) (by omega) (by omega) (fun u hu => by cases hu; exact hid) (by rw [← hs]; exact hfold)⟩
      refine ref13_next.pt31_of ⟨fun _ => ⟨b2, o2, rfl, by omega, t, by simpa using hl2, fun x47 hx47 => ?_⟩, fun hge => by omega⟩
      have h47 : x47 = kd hash t := by rw [hx47]; simp [kd, IntKind.wrap, IntKind.bits, IntKind.signed]
      subst h47
      refine ⟨fun h1 => up (hbe.1 (.inl h1)), fun h1 => ⟨fun h2 => up (hbe.1 (.inr h2)), fun h2 => ?_⟩⟩
      exact ref13_next.pt46_of ⟨i64_succ (by omega) ht.big, ih2 (k + 1) b (by omega) (by omega) hb0 (by rw [← hfold]; exact (hbe.2 h1 h2).symm)⟩

/-- What who keeps a hash is, for both. -/
structure RepR (ms : List Mem) (hash rf : Int) (σ : Hp) (Φ : Option Addr → Nat → Nat → Int → Hp → Prop) : Prop where
  bad : ¬ (OkR ms ∧ 1 ≤ rf ∧ rf ≤ 5) → Φ none 0 0 130 σ
  few : OkR ms → 1 ≤ rf → rf ≤ 5 → ((actives ms).length : Int) < rf → Φ none 0 0 133 σ
  ok : OkR ms → 1 ≤ rf → rf ≤ 5 → ∀ k : Nat, rf = k → k ≤ (actives ms).length → ∀ q d σ', OwnI .i64 (σ.new σ') q k d ((round ms hash).take k) → Ext σ σ' → Φ q k d 0 σ'

theorem refReplicas_spec {R : Ending → Hp → Prop} {σ : Hp} {e hash rf : Int} {p : Option Addr} {n c : Nat} {ms : List Mem} (hr : RdM σ p n ms) (ht : ∀ m ∈ ms, ∀ t ∈ m.toks, W32 t) (hh : W32 hash)
    (h : RepR ms hash rf σ fun q k d code σ' => R (.returned (.tuple #[.slice q k d, .int .i64 code])) σ') : Spec prog ref13_Replicas.fid #[vRing e p n c, .int .u32 hash, .int .i64 rf] σ R := by
  have hts : ∀ s ∈ spots ms, W32 s.1 := fun s hs => by
    obtain ⟨m, hm, hs⟩ := List.mem_flatMap.1 hs
    unfold spotsOf at hs
    split at hs
    · obtain ⟨t, ht1, rfl⟩ := List.mem_map.1 hs; exact ht m hm t ht1
    · cases hs
  refine ref13_Replicas.start (refCheck_spec hr ⟨_, rfl, fun hne => h.bad fun hb => hne (by simp [chk, hb.1]), fun heq => ⟨fun h1 => h.bad fun hb => by omega, fun h1 => ⟨fun h2 => h.bad fun hb => by omega, fun h2 => ?_⟩⟩⟩)
  have hok : OkR ms := Decidable.byContradiction fun hn => heq (by simp [chk, hn])
  have hn : ms.length = n := hr.1
  have hlen := hok.len
  obtain ⟨k0, rfl⟩ : ∃ k : Nat, rf = k := ⟨rf.toNat, by omega⟩
  have hids := spots_ids hok
  have hrl := round_len (hash := hash) hok
  -- the rounds
  have rounds : k0 ≤ (actives ms).length → ∀ g k : Nat, ∀ q d σ', k0 - k = g → k ≤ k0 → Ext σ σ' → OwnI .i64 (σ.new σ') q k d ((round ms hash).take k) → ref13_Replicas.pt46 R hash k0 e p n c q k d σ' := by
    intro hk0 g
    induction g with
    | zero =>
      intro k q d σ' hg hk hx ho
      obtain rfl : k = k0 := by omega
      exact ref13_Replicas.pt46_of ⟨fun hlt => by omega, fun _ => h.ok hok (by omega) (by omega) k rfl hk0 q d σ' ho hx⟩
    | succ g ih =>
      intro k q d σ' hg hk hx ho
      obtain ⟨x, hxk⟩ : ∃ x, (round ms hash)[k]? = some x := ⟨_, List.getElem?_eq_getElem (by omega)⟩
      obtain ⟨pre, suf, hsp, hpre, hxn⟩ := dd_first _ [] k x (by simp) hxk
      obtain ⟨u, hu, hux⟩ := pick_first hh hts hids hsp hpre hxn
      refine ref13_Replicas.pt46_of ⟨fun _ => next_spec (hr.mono' hx) hok (ho.rd.mono (Ext.of_new σ σ')) ⟨_, rfl, fun b50 hb50 => ?_⟩, fun hge => by omega⟩
      rw [show pick hash (cands ((round ms hash).take k) (spots ms)) = some u from hu]
      refine OwnI.app1 hx ho (by omega) (fun q' d' σ2 ho2 hx2 _ => ⟨q', k + 1, d', rfl, ih (k + 1) q' d' σ2 (by omega) (by omega) hx2 ?_⟩) hb50
      rw [take_succ' hxk, ← hux]; exact ho2
  have hact : ∀ i m, ms[i]? = some m → (actives (ms.take (i + 1))).length = (actives (ms.take i)).length + (if m.state = 2 then 1 else 0) := fun i m hm => by
    unfold actives
    rw [List.take_add_one, hm]
    simp only [Option.toList, List.filter_append, List.map_append, List.length_append, List.length_map, Nat.add_left_cancel_iff]
    by_cases h2 : m.state = 2 <;> simp [h2]
  suffices H : ∀ g i : Nat, n - i = g → i ≤ n → ref13_Replicas.pt19 R hash k0 e p n c ((actives (ms.take i)).length : Nat) i σ from by
    have := H n 0 rfl (by omega); simpa [actives] using this
  intro g
  induction g with
  | zero =>
    intro i hg hi
    rw [List.take_of_length_le (by omega)]
    refine ref13_Replicas.pt19_of ⟨fun hlt => by omega, fun _ => ⟨fun hlt => h.few hok (by omega) (by omega) hlt, fun hge => rounds (by omega) k0 0 none 0 σ rfl (by omega) (.refl σ) (by simpa using OwnI.nil)⟩⟩
  | succ g ih =>
    intro i hg hi
    obtain ⟨m, hm⟩ := hr.ex (k := i) (by omega)
    obtain ⟨b1, o1, q1, j1, d1, rfl, hl, _⟩ := hr.at' hm
    have hle : (actives (ms.take i)).length ≤ i := by
      unfold actives
      rw [List.length_map]
      have := List.length_filter_le (fun m : Mem => decide (m.state = 2)) (ms.take i)
      rw [List.length_take] at this; omega
    have ha := hact i m hm
    refine ref13_Replicas.pt19_of ⟨fun _ => ⟨b1, o1, rfl, by omega, m.state, by simpa using hl.2.1, fun h2 => ⟨by unfold I64; omega, ref13_Replicas.pt30_of ⟨by unfold I64; omega, ?_⟩⟩, fun h2 => ref13_Replicas.pt30_of ⟨by unfold I64; omega, ?_⟩⟩, fun hge => by omega⟩
    · have := ih (i + 1) (by omega) (by omega)
      rw [ha, if_pos (by omega)] at this
      exact this
    · have := ih (i + 1) (by omega) (by omega)
      rw [ha, if_neg (fun h => h2 (by omega))] at this
      exact this
end TwR
end
section
set_option linter.unusedVariables false
namespace TwR
open Go Tw

theorem index_spec {R : Ending → Hp → Prop} {σ : Hp} {p : Option Addr} {n c : Nat} {x : Int} {xs : List Int} (hr : RdI .i64 σ p n xs) (h : ∀ i : Int, (0 ≤ i ↔ x ∈ xs) → R (.returned (.int .i64 i)) σ) :
    Spec prog slices_Index_int.fid #[.slice p n c, .int .i64 x] σ R := by
  refine slices_Index_int.start ?_
  suffices H : ∀ d k : Nat, n - k = d → k ≤ n → x ∉ xs.take k → slices_Index_int.pt8 R p n c x n k σ from H n 0 rfl (Nat.zero_le _) (by simp)
  intro d
  induction d with
  | zero =>
    intro k hd hk hno
    refine slices_Index_int.pt8_of ⟨fun hlt => by omega, fun _ => h (-1) ?_⟩
    rw [List.take_of_length_le (by rw [hr.1]; omega)] at hno
    exact ⟨fun h => absurd h (by decide), fun h => absurd h hno⟩
  | succ d ih =>
    intro k hd hk hno
    obtain ⟨y, hy⟩ := hr.ex (k := k) (by omega)
    obtain ⟨b, o, rfl, hl⟩ := hr.at hy
    refine slices_Index_int.pt8_of ⟨fun _ => ⟨b, o, rfl, by omega, y, by simpa using hl, fun he => h k ⟨fun _ => ?_, fun _ => by omega⟩, fun hne => ⟨i64_succ (by omega) hr.big, ih (k + 1) (by omega) (by omega) ?_⟩⟩, fun hge => by omega⟩
    · rw [show x = y by omega]; exact List.mem_of_getElem? hy
    · rw [mem_take_succ hy]
      rintro (h1 | h1)
      · exact hno h1
      · exact hne (by omega)
theorem contains_spec {R : Ending → Hp → Prop} {σ : Hp} {p : Option Addr} {n c : Nat} {x : Int} {xs : List Int} (hr : RdI .i64 σ p n xs) (h : R (.returned (.bool (decide (x ∈ xs)))) σ) :
    Spec prog slices_Contains_int.fid #[.slice p n c, .int .i64 x] σ R :=
  slices_Contains_int.start (index_spec hr fun i hi => ⟨i, rfl, by rw [show decide (0 ≤ i) = decide (x ∈ xs) by by_cases hx : x ∈ xs <;> simp [hx, hi]]; exact h⟩)

abbrev lst (b5 b6 b7 b8 D l : Nat) (rf : Int) (o6 : Value) (o7 : Int) (q : Option Addr) (n d : Nat) (lo : Loop) : List (Nat × Obj) :=
  [(l, .loop lo), (D, .deferred (some [])), (b8, .cells #[.slice q n d] 27 (0, 0)), (b7, .cells #[.int .i64 o7] 28 (0, 0)), (b6, .cells #[o6] 27 (0, 0)), (b5, .cells #[.int .i64 rf] 3 (0, 0))]

theorem lst_loop {B : Hp} {b5 b6 b7 b8 D l : Nat} {rf : Int} {o6 : Value} {o7 : Int} {q : Option Addr} {n d : Nat} {lo lo' : Loop} : (sets B (lst b5 b6 b7 b8 D l rf o6 o7 q n d lo)).set l (.loop lo') = sets B (lst b5 b6 b7 b8 D l rf o6 o7 q n d lo') := Hp.set_set

theorem size27 (w : World) : (Go.sizeOf 27).run prog w = .ok 1 w := Go.Proofs.Try.sizeOf27 w
theorem size28 (w : World) : (Go.sizeOf 28).run prog w = .ok 1 w := Go.Proofs.Try.sizeOf28 w

section
variable {b5 b6 b7 b8 D l : Nat}
def Nd (b5 b6 b7 b8 D l : Nat) : Prop := [l, D, b8, b7, b6, b5].Nodup
def OffB (b5 b6 b7 b8 D l : Nat) (B : Hp) : Prop := ∀ b ∈ [l, D, b8, b7, b6, b5], B b = none

theorem round_end {R2 : Ending → Hp → Prop} {σ B : Hp} {r0 : Loop} {n k0 d : Nat} {q : Option Addr} {out : List Int} (hn : Nd b5 b6 b7 b8 D l)
    (ready : n ≠ k0 → R2 (.returned (.bool true)) (sets B (lst b5 b6 b7 b8 D l k0 (.slice none 0 0) 0 q n d (lp r0 .ready none))))
    (stop : n = k0 → R2 (.returned (.bool false)) (sets B (lst b5 b6 b7 b8 D l k0 (.slice q n d) 0 q n d (lp r0 .done (some .ret))))) :
    ring_Replicas.pt26 R2 l r0 b5 b6 b7 b8 (sets B (lst b5 b6 b7 b8 D l k0 (.slice none 0 0) 0 q n d (lp r0 .busy none))) := by
  refine ring_Replicas.pt26_of ⟨q, n, d, ldL (i := 2) hn rfl rfl, k0, ldL (i := 5) hn rfl rfl, fun he => ⟨q, n, d, ldL (i := 2) hn rfl rfl, ?_⟩, fun hne => ⟨sets_get (i := 0) hn rfl, ?_⟩⟩
  · refine Eff.storeL (i := 4) (c := #[.slice none 0 0]) size27 hn rfl rfl rfl rfl rfl ?_
    refine Eff.storeL (i := 3) (c := #[.int .i64 0]) size28 hn rfl rfl rfl rfl rfl ?_
    refine ⟨sets_get (i := 0) hn rfl, ?_⟩
    have hst := stop (by omega)
    rw [← lst_loop (lo := lp r0 .busy none)] at hst
    exact hst
  · have hre := ready (by omega)
    rw [← lst_loop (lo := lp r0 .busy none)] at hre
    exact hre

theorem round_step {R2 : Ending → Hp → Prop} {σ B : Hp} {r0 : Loop} {n k0 d : Nat} {q : Option Addr} {out : List Int} {x : Int} (hn : Nd b5 b6 b7 b8 D l) (hoff : OffB b5 b6 b7 b8 D l B) (hx : Ext σ B) (ho : OwnI .i64 (σ.new B) q n d out) (hnk : n < k0) (hk5 : k0 ≤ 5)
    (ready : ∀ q' n' d' B' out', out' = (if x ∈ out then out else out ++ [x]) → n' = out'.length → n' < k0 → OffB b5 b6 b7 b8 D l B' → Ext σ B' → OwnI .i64 (σ.new B') q' n' d' out' → Ext ((σ.new B).del q) ((σ.new B').del q') → R2 (.returned (.bool true)) (sets B' (lst b5 b6 b7 b8 D l k0 (.slice none 0 0) 0 q' n' d' (lp r0 .ready none))))
    (stop : ∀ q' d' B' out', out' = (if x ∈ out then out else out ++ [x]) → k0 = out'.length → OffB b5 b6 b7 b8 D l B' → Ext σ B' → OwnI .i64 (σ.new B') q' k0 d' out' → R2 (.returned (.bool false)) (sets B' (lst b5 b6 b7 b8 D l k0 (.slice q' k0 d') 0 q' k0 d' (lp r0 .done (some .ret))))) :
    ring_Replicas.pt17 R2 l r0 b5 b6 b7 b8 x (sets B (lst b5 b6 b7 b8 D l k0 (.slice none 0 0) 0 q n d (lp r0 .ready none))) := by
  have hol : out.length = n := ho.rd.1
  have hoffL : ∀ lo o6 o7 q n d, Off (lst b5 b6 b7 b8 D l k0 o6 o7 q n d lo) B := fun _ _ _ _ _ _ => hoff
  refine ring_Replicas.pt17_of ⟨sets_get (i := 0) hn rfl, ?_⟩
  rw [show Hp.set (sets B (lst b5 b6 b7 b8 D l k0 (.slice none 0 0) 0 q n d (lp r0 .ready none))) l (.loop (lp r0 .busy none)) = sets B (lst b5 b6 b7 b8 D l k0 (.slice none 0 0) 0 q n d (lp r0 .busy none)) from lst_loop]
  change ∃ p25 : Option Addr, ∃ n25 : Nat, ∃ c25 : Nat, Hp.ld (sets B (lst b5 b6 b7 b8 D l k0 (.slice none 0 0) 0 q n d (lp r0 .busy none))) ⟨b8, 0, none⟩ = some (.slice p25 n25 c25) ∧ Spec prog slices_Contains_int.fid #[.slice p25 n25 c25, .int .i64 x] (sets B (lst b5 b6 b7 b8 D l k0 (.slice none 0 0) 0 q n d (lp r0 .busy none))) _
  have hxb : Ext B (sets B (lst b5 b6 b7 b8 D l k0 (.slice none 0 0) 0 q n d (lp r0 .busy none))) := Off.ext (hn : (names (lst b5 b6 b7 b8 D l k0 (.slice none 0 0) 0 q n d (lp r0 .busy none))).Nodup) hoff
  refine ⟨q, n, d, ldL (i := 2) hn rfl rfl, contains_spec (ho.rd.mono ((Ext.of_new σ B).trans hxb)) ⟨_, rfl, fun hf => ?_, fun ht => ?_⟩⟩
  · have hnx : x ∉ out := by simpa using hf
    refine ⟨q, n, d, ldL (i := 2) hn rfl rfl, fun b31 hb31 => ?_⟩
    obtain ⟨hnot, hB⟩ := sets_none hb31
    rw [sets_fresh hnot]
    refine Eff.frameL hn (Off.set (L := lst b5 b6 b7 b8 D l k0 (.slice none 0 0) 0 q n d (lp r0 .busy none)) hoff hnot) (OwnI.app1 hx ho (by omega) (fun q' d' B' ho' hx' hxd hoff' => ⟨q', n + 1, d', rfl, ?_⟩) hB)
    refine Eff.storeL (i := 2) (c := #[.slice q n d]) size27 hn rfl rfl rfl rfl rfl ?_
    have hlen : (out ++ [x]).length = n + 1 := by simp [hol]
    refine round_end (σ := σ) (out := out) hn (fun hne => ready q' (n + 1) d' B' (out ++ [x]) (by rw [if_neg hnx]) hlen.symm (by omega) hoff' hx' ho' hxd) fun he => ?_
    subst he
    exact stop q' d' B' (out ++ [x]) (by rw [if_neg hnx]) hlen.symm hoff' hx' ho'
  · have hxo : x ∈ out := by simpa using ht
    refine round_end (σ := σ) (out := out) hn (fun hne => ready q n d B out (by rw [if_pos hxo]) hol.symm hnk hoff hx ho (.refl _)) fun he => by omega
end

/-! The circle once round -/
theorem tw_of : ∀ (L : List Spot) (k : Nat) (hash : Int), (∀ s ∈ L.take k, s.1 < hash) → (∀ s, L[k]? = some s → ¬ s.1 < hash) → L.takeWhile (fun s => decide (s.1 < hash)) = L.take k ∧ L.dropWhile (fun s => decide (s.1 < hash)) = L.drop k
  | [], k, hash, _, _ => by simp
  | x :: L, 0, hash, _, h2 => by
    have := h2 x rfl
    simp [List.takeWhile, List.dropWhile, decide_eq_false this]
  | x :: L, k + 1, hash, h1, h2 => by
    have hx : x.1 < hash := h1 x (by simp)
    have ih := tw_of L k hash (fun s hs => h1 s (by simp [hs])) (fun s hs => h2 s (by simpa using hs))
    simp [List.takeWhile, List.dropWhile, decide_eq_true hx, ih.1, ih.2]

theorem circ_get {ms : List Mem} {hash : Int} {k m j : Nat} (hm : (sorted (spots ms)).length = m) (hk : k ≤ m) (h1 : ∀ s ∈ (sorted (spots ms)).take k, s.1 < hash) (h2 : ∀ s, (sorted (spots ms))[k]? = some s → ¬ s.1 < hash) (hj : j < m) :
    (circ ms hash)[j]? = (sorted (spots ms))[(k + j) % m]? := by
  obtain ⟨e1, e2⟩ := tw_of _ k hash h1 h2
  unfold circ
  rw [e1, e2, List.getElem?_append, List.length_drop, hm]
  by_cases hj1 : j < m - k
  · rw [if_pos hj1, List.getElem?_drop, Nat.mod_eq_of_lt (by omega)]
  · rw [if_neg hj1, List.getElem?_take, if_pos (by omega), show (k + j) % m = j - (m - k) by rw [Nat.mod_eq_sub_mod (by omega), Nat.mod_eq_of_lt (by omega)]; omega]
theorem circ_len {ms : List Mem} {hash : Int} : (circ ms hash).length = (spots ms).length := by
  unfold circ
  rw [List.length_append, Nat.add_comm, ← List.length_append, List.takeWhile_append_dropWhile, sorted_len]

/-- The function that tells the circle: whatever holds behind each of its calls. -/
theorem circle2_spec {R : Ending → Hp → Prop} {σ0 : Hp} {c10 c5 l k m d : Nat} {q : Option Addr} {ms : List Mem} {hash : Int} {I : Nat → Hp → Prop} {S : Hp → Prop}
    (hm : (sorted (spots ms)).length = m) (hm9 : m ≤ 1024) (hk : k ≤ m) (h1 : ∀ s ∈ (sorted (spots ms)).take k, s.1 < hash) (h2 : ∀ s, (sorted (spots ms))[k]? = some s → ¬ s.1 < hash)
    (hI : ∀ j σ, I j σ → Hp.ld σ ⟨c5, 0, none⟩ = some (.slice q m d) ∧ Hp.ld σ ⟨c10, 0, none⟩ = some (.int .i64 k) ∧ RdS 2 ESpot σ q m (sorted (spots ms)))
    (hstep : ∀ j σ s, I j σ → (circ ms hash)[j]? = some s → YSpec prog l #[.int .i64 s.2] σ (fun e σ' => (e = .returned (.bool true) ∧ I (j + 1) σ') ∨ (e = .returned (.bool false) ∧ S σ')))
    (hend : ∀ σ, I m σ → R (.returned (.tuple #[])) σ) (hstop : ∀ σ, S σ → R (.returned (.tuple #[])) σ) (h0 : I 0 σ0) :
    Spec prog ring_circle_2.fid #[.func (.yield l) #[] #[], .pointer (some ⟨c5, 0, none⟩), .pointer (some ⟨c10, 0, none⟩)] σ0 R := by
  refine ring_circle_2.start ⟨q, m, d, (hI 0 σ0 h0).1, ?_⟩
  suffices H : ∀ g j : Nat, ∀ σ, m - j = g → j ≤ m → I j σ → ring_circle_2.pt5 R (.func (.yield l) #[] #[]) c5 c10 m j σ from H m 0 σ0 rfl (by omega) h0
  intro g
  induction g with
  | zero =>
    intro j σ hg hj hi
    obtain rfl : j = m := by omega
    exact ring_circle_2.pt5_of ⟨fun hlt => by omega, fun _ => hend σ hi⟩
  | succ g ih =>
    intro j σ hg hj hi
    obtain ⟨f1, f2, f3⟩ := hI j σ hi
    have hjm : j < m := by omega
    have hmod : (k + j) % m < m := Nat.mod_lt _ (by omega)
    obtain ⟨s, hs⟩ := f3.ex hmod
    obtain ⟨b, o, vs, hq, hv, hl⟩ := RdS.idx f3 hs
    have hv : vs = encS s := hv
    subst hv
    have hcs : (circ ms hash)[j]? = some s := by rw [circ_get hm hk h1 h2 hjm]; exact hs
    refine ring_circle_2.pt5_of ⟨fun _ => ⟨q, m, d, f1, k, f2, by unfold I64; omega, q, m, d, f1, by omega, fun x17 hx17 => ?_⟩, fun hge => by omega⟩
    have h17 : x17 = (((k + j) % m : Nat) : Int) := by
      rw [hx17, Int.tmod_eq_emod_of_nonneg (by omega), Int.natCast_emod, Int.natCast_add]
    subst h17
    refine ⟨b, o, hq, by omega, s.2, by rw [Int.toNat_natCast]; exact hl.2.1, l, rfl, (hstep j σ s hi hcs).mono fun e σ' he => ?_⟩
    rcases he with ⟨rfl, hi'⟩ | ⟨rfl, hs'⟩
    · exact ⟨true, rfl, fun h => (by cases h), fun _ => ⟨by unfold I64; omega, ih (j + 1) σ' (by omega) (by omega) hi'⟩⟩
    · exact ⟨false, rfl, fun _ => hstop σ' hs', fun h => by cases h⟩
end TwR
end
section
set_option linter.unusedVariables false
namespace TwR
open Go Tw

theorem en59 : Enters prog ring_circle_2.fid := fun args w => Go.Proofs.Try.call59 args w

/-- What the circle leaves in memory. -/
def Circ (c5 c10 k m d : Nat) (q : Option Addr) (ms : List Mem) (X : Hp) : Prop :=
  X c5 = some (.cells #[.slice q m d] 79 (0, 0)) ∧ X c10 = some (.cells #[.int .i64 k] 3 (0, 0)) ∧ RdS 2 ESpot X q m (sorted (spots ms))
theorem Circ.mono {c5 c10 k m d : Nat} {q : Option Addr} {ms : List Mem} {X Y : Hp} (h : Ext X Y) (g : Circ c5 c10 k m d q ms X) : Circ c5 c10 k m d q ms Y :=
  ⟨h _ _ g.1, h _ _ g.2.1, g.2.2.mono ESpot.mono h⟩

theorem lst_end {B : Hp} {b5 b6 b7 b8 D l : Nat} {rf o7 : Int} {o6 : Value} {q : Option Addr} {n d : Nat} {lo : Loop} (hn : Nd b5 b6 b7 b8 D l) (hoff : OffB b5 b6 b7 b8 D l B) :
    Hp.ld ((sets B (lst b5 b6 b7 b8 D l rf o6 o7 q n d lo)).set D (.deferred none)) ⟨b6, 0, none⟩ = some o6 ∧ Hp.ld ((sets B (lst b5 b6 b7 b8 D l rf o6 o7 q n d lo)).set D (.deferred none)) ⟨b7, 0, none⟩ = some (.int .i64 o7) ∧
      Ext B ((sets B (lst b5 b6 b7 b8 D l rf o6 o7 q n d lo)).set D (.deferred none)) := by
  have key : (sets B (lst b5 b6 b7 b8 D l rf o6 o7 q n d lo)).set D (.deferred none) = sets B ((lst b5 b6 b7 b8 D l rf o6 o7 q n d lo).set 1 (D, .deferred none)) := sets_set (L := lst b5 b6 b7 b8 D l rf o6 o7 q n d lo) (i := 1) hn rfl
  rw [key]
  exact ⟨ldL (i := 4) hn rfl rfl, ldL (i := 3) hn rfl rfl, Off.ext (L := (lst b5 b6 b7 b8 D l rf o6 o7 q n d lo).set 1 (D, .deferred none)) hn hoff⟩

theorem take_dd {ids : List Int} {j : Nat} {x : Int} (hx : ids[j]? = some x) : dd [] (ids.take (j + 1)) = if x ∈ dd [] (ids.take j) then dd [] (ids.take j) else dd [] (ids.take j) ++ [x] := by
  rw [take_succ' hx, dd_app]; rfl

theorem replicas_spec {R : Ending → Hp → Prop} {σ : Hp} {e hash rf : Int} {p : Option Addr} {n c : Nat} {ms : List Mem} (hr : RdM σ p n ms) (hs : Small ms)
    (h : RepR ms hash rf σ fun q k d code σ' => R (.returned (.tuple #[.slice q k d, .int .i64 code])) σ') : Spec prog ring_Replicas.fid #[vRing e p n c, .int .u32 hash, .int .i64 rf] σ R := by
  refine Spec.drop (ring_Replicas.start fun b5 hb5 b6 hb6 b7 hb7 => ?_)
  obtain ⟨n65, hb6'⟩ := Hp.none_of_set hb6
  obtain ⟨n76, hb7'⟩ := Hp.none_of_set hb7
  obtain ⟨n75, hb7''⟩ := Hp.none_of_set hb7'
  let L3 : Int → List (Nat × Obj) := fun o7 => [(b7, .cells #[.int .i64 o7] 28 (0, 0)), (b6, .cells #[.slice none 0 0] 27 (0, 0)), (b5, .cells #[.int .i64 rf] 3 (0, 0))]
  have hn3 : ∀ o7, (names (L3 o7)).Nodup := fun o7 => by simp [L3, names]; omega
  have ho3 : ∀ o7, Off (L3 o7) σ := fun o7 b hb => by
    simp [L3, names] at hb
    rcases hb with rfl | rfl | rfl
    · exact hb7''
    · exact hb6'
    · exact hb5
  have hx3 : ∀ o7, Ext σ (sets σ (L3 o7)) := fun o7 => Off.ext (hn3 o7) (ho3 o7)
  have hbad : ¬ (OkR ms ∧ 1 ≤ rf ∧ rf ≤ 5) → Eff prog (Instr.storeAt 27 (.pointer (some ⟨b6, 0, none⟩)) (.slice none 0 0)) (sets σ (L3 0)) (fun _ σ1_2 => Eff prog (Instr.storeAt 28 (.pointer (some ⟨b7, 0, none⟩)) (.int .i64 130)) σ1_2 (fun _ σ1_3 => ∃ pr6 : Option Addr, ∃ nr6 : Nat, ∃ cr6 : Nat, ∃ xr7 : Int, Hp.ld σ1_3 ⟨b6, 0, none⟩ = some (.slice pr6 nr6 cr6) ∧ Hp.ld σ1_3 ⟨b7, 0, none⟩ = some (.int .i64 xr7) ∧ Drop R (.returned (.tuple #[(.slice pr6 nr6 cr6), (.int .i64 xr7)])) σ1_3)) := fun hb => by
    refine Eff.storeL (i := 1) (c := #[.slice none 0 0]) size27 (hn3 0) rfl rfl rfl rfl rfl ?_
    refine Eff.storeL (i := 0) (c := #[.int .i64 0]) size28 (hn3 0) rfl rfl rfl rfl rfl ?_
    exact ⟨none, 0, 0, 130, ldL (L := L3 130) (i := 1) (hn3 130) rfl rfl, ldL (L := L3 130) (i := 0) (hn3 130) rfl rfl, .mk (hx3 130) (h.bad hb)⟩
  show Spec prog ring_Check.fid #[vRing e p n c] (sets σ (L3 0)) _
  refine check_spec (hr.mono' (hx3 0)) hs ⟨_, rfl, fun hne => hbad fun hb => hne (by simp [chk, hb.1]), fun heq => ⟨rf, ldL (i := 2) (hn3 0) rfl rfl, fun h1 => hbad fun hb => by omega, fun h1 => ⟨rf, ldL (i := 2) (hn3 0) rfl rfl, fun h2 => hbad fun hb => by omega, fun h2 b8 hb8 => ?_⟩⟩⟩
  have hok : OkR ms := Decidable.byContradiction fun hn => heq (by simp [chk, hn])
  have hlen := hok.len
  obtain ⟨k0, rfl⟩ : ∃ k : Nat, rf = k := ⟨rf.toNat, by omega⟩
  obtain ⟨n8, hb8'⟩ := sets_none hb8
  let L4 : List (Nat × Obj) := (b8, .cells #[.slice none 0 0] 27 (0, 0)) :: L3 0
  have hn4 : (names L4).Nodup := List.nodup_cons.2 ⟨n8, hn3 0⟩
  have ho4 : Off L4 σ := fun b hb => by
    rcases List.mem_cons.1 hb with rfl | hb
    · exact hb8'
    · exact ho3 0 b hb
  show Spec prog ring_circle.fid #[vRing e p n c, .int .u32 hash] (sets σ L4) _
  refine Spec.frameL hn4 ho4 (circle_spec hr hok fun c5v c10 cq m cd τ k hc5 hc10 hcc hxt hrd hk hlo hhi hoff => ⟨_, rfl, 59, _, rfl, en59, fun D l r0 hDl hD hl hy => ?_⟩)
  generalize hB0 : (c5 τ c5v cq m cd).set c10 (.cells #[.int .i64 k] 3 (0, 0)) = B0 at *
  obtain ⟨nD, hDB⟩ := sets_none hD
  obtain ⟨nl, hlB⟩ := sets_none hl
  have hNd : Nd b5 b6 b7 b8 D l := by
    simp only [L4, L3, names, List.map_cons, List.map_nil, List.mem_cons, List.not_mem_nil, or_false, not_or] at nD nl n8
    unfold Nd
    simp only [List.nodup_cons, List.mem_cons, List.not_mem_nil, or_false, not_or, List.nodup_nil, not_false_eq_true, and_true]
    omega
  have hOff0 : OffB b5 b6 b7 b8 D l B0 := fun b hb => by
    simp only [List.mem_cons, List.not_mem_nil, or_false] at hb
    rcases hb with rfl | rfl | rfl | rfl | rfl | rfl
    · exact hlB
    · exact hDB
    · exact hoff b (by simp [L4, L3, names])
    · exact hoff b (by simp [L4, L3, names])
    · exact hoff b (by simp [L4, L3, names])
    · exact hoff b (by simp [L4, L3, names])
  have hxB0 : Ext σ B0 := by
    rw [← hB0]
    exact hxt.trans ((Ext.set hc5).trans (.set (Hp.set_none hcc.symm hc10)))
  have hCirc0 : Circ c5v c10 k m cd cq ms (σ.new B0) := by
    have hs5 : σ c5v = none := ext_none hxt hc5
    have hs10 : σ c10 = none := ext_none hxt hc10
    refine ⟨new_some.2 ⟨hs5, ?_⟩, new_some.2 ⟨hs10, ?_⟩, hrd.mono ESpot.mono (Ext.new_mono ?_)⟩
    · rw [← hB0, Hp.set_ne hcc]; exact Hp.set_same _ _ _
    · rw [← hB0]; exact Hp.set_same _ _ _
    · rw [← hB0]; exact (Ext.set hc5).trans (.set (Hp.set_none hcc.symm hc10))
  have hm : (sorted (spots ms)).length = m := hrd.1
  have hm1024 : m ≤ 1024 := by
    have h1 := spots_len ms 64 (fun x hx => (hok.1 x hx).2.2.2.2.2.1)
    rw [sorted_len] at hm; omega
  have hrl := round_len (hash := hash) hok
  let idsL := (circ ms hash).map Prod.snd
  have hidl : idsL.length = m := by simp [idsL, circ_len, ← hm, sorted_len]
  have hofx : ∀ {B : Hp} (o6 : Value) (o7 : Int) (q : Option Addr) (n d : Nat) (lo : Loop), OffB b5 b6 b7 b8 D l B → Ext B (sets B (lst b5 b6 b7 b8 D l k0 o6 o7 q n d lo)) := fun o6 o7 q n d lo ho => Off.ext (L := lst b5 b6 b7 b8 D l k0 o6 o7 q n d lo) hNd ho
  rw [show (#[.func (.yield l) #[] #[]] ++ #[.pointer (some ⟨c5v, 0, none⟩), .pointer (some ⟨c10, 0, none⟩)] : Array Value) = #[.func (.yield l) #[] #[], .pointer (some ⟨c5v, 0, none⟩), .pointer (some ⟨c10, 0, none⟩)] from rfl]
  show Spec prog ring_circle_2.fid _ (sets B0 (lst b5 b6 b7 b8 D l k0 (.slice none 0 0) 0 none 0 0 (lp r0 .ready none))) _
  refine circle2_spec (hash := hash) (q := cq) (d := cd) (ms := ms) (I := fun j σ' => ∃ B qo no d out, σ' = sets B (lst b5 b6 b7 b8 D l k0 (.slice none 0 0) 0 qo no d (lp r0 .ready none)) ∧ OffB b5 b6 b7 b8 D l B ∧ Ext σ B ∧ OwnI .i64 (σ.new B) qo no d out ∧ out = dd [] (idsL.take j) ∧ no < k0 ∧ Circ c5v c10 k m cd cq ms ((σ.new B).del qo))
    (S := fun σ' => ∃ B qo d, σ' = sets B (lst b5 b6 b7 b8 D l k0 (.slice qo k0 d) 0 qo k0 d (lp r0 .done (some .ret))) ∧ OffB b5 b6 b7 b8 D l B ∧ Ext σ B ∧ OwnI .i64 (σ.new B) qo k0 d ((round ms hash).take k0) ∧ k0 ≤ (round ms hash).length) hm hm1024 hk hlo hhi ?_ ?_ ?_ ?_ ?_
  · rintro j _ ⟨B, qo, no, d, out, rfl, hoB, hxB, ho, hout, hno, hC⟩
    have hC := hC.mono (((Ext.of_del (σ.new B) qo).trans (Ext.of_new σ B)).trans (hofx (.slice none 0 0) 0 qo no d (lp r0 .ready none) hoB))
    exact ⟨by simp [Hp.ld, hC.1], by simp [Hp.ld, hC.2.1], hC.2.2⟩
  · rintro j _ s ⟨B, qo, no, d, out, rfl, hoB, hxB, ho, hout, hno, hC⟩ hs
    have hidj : idsL[j]? = some s.2 := by simp [idsL, hs]
    have hstep := take_dd hidj
    have hol : out.length = no := ho.rd.1
    refine hy _ _ s.2 (sets_get (i := 0) hNd rfl) (round_step hNd hoB hxB ho hno (by omega) (fun q' n' d' B' out' ho1 hn1 hlt hoff' hx' ho' hxd => .inl ⟨rfl, B', q', n', d', out', rfl, hoff', hx', ho', ?_, hlt, hC.mono hxd⟩) fun q' d' B' out' ho1 hn1 hoff' hx' ho' => .inr ⟨rfl, B', q', d', rfl, hoff', hx', ?_, ?_⟩)
    · rw [ho1, hstep, hout]
    all_goals
      have hout' : out' = dd [] (idsL.take (j + 1)) := by rw [ho1, hstep, hout]
      obtain ⟨E, hE⟩ := dd_ext (idsL.drop (j + 1)) out'
      have hround : round ms hash = out' ++ E := by
        rw [← hE, hout', ← dd_app, List.take_append_drop]; rfl
    · have ht : (round ms hash).take k0 = out' := by rw [hround, hn1, List.take_left]
      rw [ht]; exact ho'
    · rw [hround, hn1]; simp
  · rintro _ ⟨B, qo, no, d, out, rfl, hoB, hxB, ho, hout, hno, hC⟩
    rw [List.take_of_length_le (by omega)] at hout
    have hol : out.length = no := ho.rd.1
    have hfew : (actives ms).length < k0 := by rw [← hrl]; show (dd [] idsL).length < k0; rw [← hout]; omega
    refine ⟨_, .ready, none, rfl, sets_get (i := 0) hNd rfl, by decide, .inl ⟨rfl, ?_⟩⟩
    rw [lst_loop]
    refine Eff.storeL (i := 4) (c := #[.slice none 0 0]) size27 hNd rfl rfl rfl rfl rfl ?_
    refine Eff.storeL (i := 3) (c := #[.int .i64 0]) size28 hNd rfl rfl rfl rfl rfl ?_
    obtain ⟨e1, e2, e3⟩ := lst_end (B := B) (rf := k0) (o7 := 133) (o6 := .slice none 0 0) (q := qo) (n := no) (d := d) (lo := lp r0 .exhausted none) hNd hoB
    exact ⟨none, 0, 0, 133, sets_get (i := 1) hNd rfl, e1, e2, .mk (hxB.trans e3) (h.few hok (by omega) (by omega) (by omega))⟩
  · rintro _ ⟨B, qo, d, rfl, hoB, hxB, ho, hle⟩
    refine ⟨_, .done, some .ret, rfl, sets_get (i := 0) hNd rfl, by decide, .inr ⟨rfl, ?_⟩⟩
    rw [lst_loop]
    obtain ⟨e1, e2, e3⟩ := lst_end (B := B) (rf := k0) (o7 := 0) (o6 := .slice qo k0 d) (q := qo) (n := k0) (d := d) (lo := lp r0 .exhausted (some .ret)) hNd hoB
    exact ⟨qo, k0, d, 0, sets_get (i := 1) hNd rfl, e1, e2, .mk e3 (h.ok hok (by omega) (by omega) k0 rfl (by omega) qo d B ho hxB)⟩
  · exact ⟨B0, none, 0, 0, [], rfl, hOff0, hxB0, OwnI.nil, by simp [dd], by omega, hCirc0⟩
end TwR
end
section
set_option linter.unusedVariables false
namespace TwR
open Go Tw

/-! Numbers out of bytes -/
def By8 (bs : List Int) : Prop := ∀ x ∈ bs, 0 ≤ x ∧ x < 256
/-- At a place lie a number's bytes. -/
def UvAt (bs : List Int) (i w : Nat) : Prop := w < 18446744073709551616 ∧ ∃ rest, bs.drop i = uv w ++ rest

theorem uv_cons (x : Nat) : ∃ c t, uv x = c :: t ∧ (128 ≤ x → c = ((x % 128 + 128 : Nat) : Int) ∧ t = uv (x / 128)) ∧ (x < 128 → c = (x : Int) ∧ t = []) := by
  by_cases h : 128 ≤ x
  · exact ⟨_, _, uv_big h, fun _ => ⟨rfl, rfl⟩, fun h2 => by omega⟩
  · exact ⟨_, _, uv_small h, fun h2 => by omega, fun _ => ⟨rfl, rfl⟩⟩
theorem uv_by8 : ∀ (k x : Nat), x < 128 ^ (k + 1) → By8 (uv x)
  | 0, x, h => by
    rw [uv_small (by simpa using h)]
    intro y hy; simp at hy; subst hy; simp at h; omega
  | k + 1, x, h => by
    by_cases hx : 128 ≤ x
    · rw [uv_big hx]
      intro y hy
      rcases List.mem_cons.1 hy with rfl | hy
      · omega
      · exact uv_by8 k (x / 128) (by rw [Nat.div_lt_iff_lt_mul (by decide)]; rw [Nat.pow_succ] at h; exact h) y hy
    · rw [uv_small hx]
      intro y hy; simp at hy; subst hy; omega
theorem uv_pos (x : Nat) : 0 < (uv x).length := by
  obtain ⟨c, t, h, _⟩ := uv_cons x; rw [h]; simp

set_option maxRecDepth 100000 in
theorem and_u8 : ∀ y : Fin 256, Go.bits .and .u8 (y.1 : Int) 127 = ((y.1 % 128 : Nat) : Int) := by decide

theorem or_shift {acc c k : Nat} (ha : acc < 2 ^ (7 * k)) (hk : k ≤ 9) (hc : c * 2 ^ (7 * k) < 18446744073709551616) : Go.bits .or .u64 (acc : Int) ((c * 2 ^ (7 * k) : Nat) : Int) = ((acc + c * 2 ^ (7 * k) : Nat) : Int) := by
  have hp : 2 ^ (7 * k) ≤ 2 ^ 63 := Nat.pow_le_pow_right (by decide) (by omega)
  rw [bits_or_u64_nat acc _ (by omega) hc]
  congr 1
  rw [Nat.or_comm, Nat.mul_comm, ← Nat.two_pow_add_eq_or_of_lt ha, Nat.add_comm]

/-- The value so far. -/
def So (bs : List Int) (i k acc : Nat) : Prop := ∀ w, UvAt bs i w → acc = w % 2 ^ (7 * k) ∧ (∃ rest, bs.drop (i + k) = uv (w / 2 ^ (7 * k)) ++ rest) ∧ (0 < k → 0 < w / 2 ^ (7 * k)) ∧ (uv w).length = k + (uv (w / 2 ^ (7 * k))).length

theorem So.zero {bs : List Int} {i : Nat} : So bs i 0 0 := fun w ⟨hw, rest, hr⟩ => by
  refine ⟨by simp [Nat.mod_one], ⟨rest, by simpa using hr⟩, fun h => by omega, by simp⟩

theorem So.byte {bs : List Int} {i k acc w : Nat} {c : Int} (h : So bs i k acc) (hw : UvAt bs i w) (hc : bs[i + k]? = some c) :
    (128 ≤ w / 2 ^ (7 * k) → c = ((w / 2 ^ (7 * k) % 128 + 128 : Nat) : Int)) ∧ (w / 2 ^ (7 * k) < 128 → c = ((w / 2 ^ (7 * k) : Nat) : Int)) := by
  obtain ⟨_, ⟨rest, hr⟩, _, _⟩ := h w hw
  obtain ⟨c', t, he, h1, h2⟩ := uv_cons (w / 2 ^ (7 * k))
  have : (bs.drop (i + k))[0]? = some c := by rw [List.getElem?_drop]; simpa using hc
  rw [hr, he] at this
  simp at this
  subst this
  exact ⟨fun h => (h1 h).1, fun h => (h2 h).1⟩

theorem So.next {bs : List Int} {i k acc a' : Nat} {c : Nat} (h : So bs i k acc) (hc : bs[i + k]? = some (c : Int)) (hge : 128 ≤ c) (ha' : acc < 2 ^ (7 * k) → a' = acc + (c % 128) * 2 ^ (7 * k)) : So bs i (k + 1) a' := fun w hw => by
  obtain ⟨h1, ⟨rest, hr⟩, h3, h4⟩ := h w hw
  obtain ⟨g1, g2⟩ := h.byte hw hc
  have hp : 0 < 2 ^ (7 * k) := Nat.two_pow_pos _
  have hbig : 128 ≤ w / 2 ^ (7 * k) := by
    rcases Nat.lt_or_ge (w / 2 ^ (7 * k)) 128 with hlt | hge'
    · have := g2 hlt; omega
    · exact hge'
  have hcv : c = w / 2 ^ (7 * k) % 128 + 128 := by have := g1 hbig; omega
  have e1 : 2 ^ (7 * (k + 1)) = 2 ^ (7 * k) * 128 := by rw [Nat.mul_succ, Nat.pow_add]
  have e2 : w / 2 ^ (7 * (k + 1)) = w / 2 ^ (7 * k) / 128 := by rw [e1, Nat.div_div_eq_div_mul]
  rw [e2]
  rw [uv_big hbig] at hr h4
  refine ⟨?_, ⟨rest, ?_⟩, fun _ => by omega, by simp at h4; omega⟩
  · rw [ha' (by rw [h1]; exact Nat.mod_lt _ hp), e1, Nat.mod_mul, ← h1, show c % 128 = w / 2 ^ (7 * k) % 128 by omega, Nat.mul_comm (2 ^ (7 * k))]
  · rw [show i + (k + 1) = (i + k) + 1 by omega, ← List.drop_drop, hr]; rfl

theorem So.last {bs : List Int} {i k acc c w : Nat} (h : So bs i k acc) (hc : bs[i + k]? = some (c : Int)) (hlt : c < 128) (hw : UvAt bs i w) : acc + c * 2 ^ (7 * k) = w ∧ (uv w).length = k + 1 := by
  obtain ⟨h1, ⟨rest, hr⟩, h3, h4⟩ := h w hw
  obtain ⟨g1, g2⟩ := h.byte hw hc
  have hsm : w / 2 ^ (7 * k) < 128 := by
    rcases Nat.lt_or_ge (w / 2 ^ (7 * k)) 128 with hlt | hge'
    · exact hlt
    · have := g1 hge'; omega
  have hcv : c = w / 2 ^ (7 * k) := by have := g2 hsm; omega
  rw [uv_small (x := w / 2 ^ (7 * k)) (by omega)] at h4
  refine ⟨?_, by simpa using h4⟩
  rw [hcv, h1, Nat.mul_comm (w / 2 ^ (7 * k))]
  exact Nat.mod_add_div w (2 ^ (7 * k))

/-- What reading a number gives. -/
structure UintR (bs : List Int) (n i : Nat) (Φ : Int → Int → Int → Prop) : Prop where
  err : (∀ w, ¬ UvAt bs i w) → ∀ code : Int, code ≠ 0 → Φ 0 0 code
  ok : ∀ v to : Nat, i < to → to ≤ n → v < 18446744073709551616 → (∀ w, UvAt bs i w → v = w ∧ to = i + (uv w).length) → Φ v to 0

theorem UintR.no9 {bs : List Int} {i acc : Nat} {c : Int} (h : So bs i 9 acc) (hc : bs[i + 9]? = some c) (h1 : 1 < c) : ∀ w, ¬ UvAt bs i w := fun w hw => by
  obtain ⟨g1, g2⟩ := h.byte hw hc
  have : w / 2 ^ (7 * 9) < 2 := by have := hw.1; omega
  have := g2 (by omega)
  omega
theorem UintR.no0 {bs : List Int} {i k acc : Nat} {c : Int} (h : So bs i k acc) (hk : 0 < k) (hc : bs[i + k]? = some c) (h0 : c = 0) : ∀ w, ¬ UvAt bs i w := fun w hw => by
  obtain ⟨g1, g2⟩ := h.byte hw hc
  have := (h w hw).2.2.1 hk
  rcases Nat.lt_or_ge (w / 2 ^ (7 * k)) 128 with hlt | hge'
  · have := g2 hlt; omega
  · have := g1 hge'; omega
theorem UintR.noEnd {bs : List Int} {i k acc : Nat} (h : So bs i k acc) (he : bs.length ≤ i + k) : ∀ w, ¬ UvAt bs i w := fun w hw => by
  obtain ⟨_, ⟨rest, hr⟩, _, _⟩ := h w hw
  rw [List.drop_eq_nil_of_le he] at hr
  have := uv_pos (w / 2 ^ (7 * k))
  have := congrArg List.length hr
  simp at this; omega

theorem uint_core {bs : List Int} {n i k acc c : Nat} (hk : k ≤ 9) (hc256 : c < 256) (h9 : k = 9 → c ≤ 1) (hacc : acc < 2 ^ (7 * k)) :
    IntKind.u64.wrap (IntKind.u64.wrap (Go.bits .and .u8 (c : Int) 127) * 2 ^ Int.toNat (7 * (k : Int))) = ((c % 128 * 2 ^ (7 * k) : Nat) : Int) ∧ c % 128 * 2 ^ (7 * k) < 18446744073709551616 ∧ acc + c % 128 * 2 ^ (7 * k) < 2 ^ (7 * (k + 1)) ∧ acc + c % 128 * 2 ^ (7 * k) < 18446744073709551616 := by
  have e0 : IntKind.u64.wrap (Go.bits .and .u8 (c : Int) 127) = ((c % 128 : Nat) : Int) := by
    rw [and_u8 ⟨c, hc256⟩]; simp [IntKind.wrap, IntKind.bits, IntKind.signed]; omega
  have e1 : Int.toNat (7 * (k : Int)) = 7 * k := by omega
  have hm : c % 128 < 128 := Nat.mod_lt _ (by decide)
  have hlt : c % 128 * 2 ^ (7 * k) < 18446744073709551616 := by
    by_cases h : k = 9
    · subst h
      have := h9 rfl
      have : c % 128 ≤ 1 := by omega
      exact Nat.lt_of_le_of_lt (Nat.mul_le_mul_right (2 ^ (7 * 9)) this) (by decide)
    · have hp : 2 ^ (7 * k) ≤ 2 ^ 56 := Nat.pow_le_pow_right (by decide) (by omega)
      exact Nat.lt_of_le_of_lt (Nat.mul_le_mul (show c % 128 ≤ 127 by omega) hp) (by decide)
  refine ⟨?_, hlt, ?_, ?_⟩
  · rw [e0, e1, show (((c % 128 : Nat) : Int) * 2 ^ (7 * k)) = ((c % 128 * 2 ^ (7 * k) : Nat) : Int) by rw [Int.natCast_mul, Int.natCast_pow]; rfl]
    generalize c % 128 * 2 ^ (7 * k) = y at hlt
    simp [IntKind.wrap, IntKind.bits, IntKind.signed]; omega
  · rw [show 2 ^ (7 * (k + 1)) = 2 ^ (7 * k) * 128 by rw [Nat.mul_succ, Nat.pow_add]]
    have : c % 128 * 2 ^ (7 * k) ≤ 127 * 2 ^ (7 * k) := Nat.mul_le_mul_right _ (by omega)
    omega
  · by_cases h : k = 9
    · subst h
      have := h9 rfl
      have h1 : c % 128 ≤ 1 := by omega
      have h2 : c % 128 * 2 ^ (7 * 9) ≤ 1 * 2 ^ (7 * 9) := Nat.mul_le_mul_right _ h1
      have h3 : acc < 9223372036854775808 := hacc
      have h4 : 1 * 2 ^ (7 * 9) = 9223372036854775808 := by decide
      omega
    · have hp : 2 ^ (7 * k) ≤ 2 ^ 56 := Nat.pow_le_pow_right (by decide) (by omega)
      have h2 : c % 128 * 2 ^ (7 * k) ≤ 127 * 2 ^ 56 := Nat.mul_le_mul (by omega) hp
      have h3 : (2 : Nat) ^ 56 = 72057594037927936 := by decide
      omega

theorem uint_spec {R : Ending → Hp → Prop} {σ : Hp} {p : Option Addr} {n c0 i : Nat} {bs : List Int} (hr : RdI .u8 σ p n bs) (h8 : By8 bs) (hi : i ≤ n)
    (h : UintR bs n i fun v to code => R (.returned (.tuple #[.int .u64 v, .int .i64 to, .int .i64 code])) σ) : Spec prog codec_Uint.fid #[.slice p n c0, .int .i64 i] σ R := by
  have hbl : bs.length = n := hr.1
  have hbig := hr.big
  refine codec_Uint.start ⟨fun h0 => by omega, fun _ => ⟨fun h0 => by omega, fun _ => ?_⟩⟩
  suffices H : ∀ d k acc : Nat, 9 - k = d → k ≤ 9 → i + k ≤ n → acc < 2 ^ (7 * k) → So bs i k acc → codec_Uint.pt19 R p n c0 i acc k σ from H 9 0 0 rfl (by omega) (by omega) (by decide) So.zero
  intro d
  have body : ∀ k acc : Nat, (∀ a', k < 9 → i + (k + 1) ≤ n → a' < 2 ^ (7 * (k + 1)) → So bs i (k + 1) a' → codec_Uint.pt19 R p n c0 i a' (k + 1 : Nat) σ) → k ≤ 9 → i + k ≤ n → acc < 2 ^ (7 * k) → So bs i k acc → codec_Uint.pt19 R p n c0 i acc k σ := by
    intro k acc rec hk hin hacc hso
    have hp63 : 2 ^ (7 * k) ≤ 2 ^ 63 := Nat.pow_le_pow_right (by decide) (by omega)
    refine codec_Uint.pt19_of ⟨by unfold I64; omega, fun hlt => ?_, fun hge => h.err (UintR.noEnd hso (by omega)) 20 (by decide)⟩
    obtain ⟨x, hx⟩ := hr.ex (k := i + k) (by omega)
    obtain ⟨b, o, rfl, hl⟩ := hr.at hx
    have hx8 := h8 x (List.mem_of_getElem? hx)
    obtain ⟨c, rfl⟩ : ∃ c : Nat, x = c := ⟨x.toNat, by omega⟩
    have e0 : Int.toNat ((i : Int) + (k : Int)) = i + k := by omega
    have core : (k = 9 → c ≤ 1) → ∀ x48 : Int, x48 = Go.bits .and .u8 (c : Int) 127 → ∀ x49 : Int, x49 = IntKind.u64.wrap x48 → I64 (7 * (k : Int)) ∧ ((0 : Int) ≤ (7 * (k : Int)) ∧ (7 * (k : Int)) ≤ ((IntKind.bits .u64 : Nat) : Int)) ∧ ∀ x52 : Int, x52 = IntKind.u64.wrap (x49 * 2 ^ Int.toNat (7 * (k : Int))) → ∀ x53 : Int, x53 = Go.bits .or .u64 (acc : Int) x52 → (((c : Int) : Int) < 128 → I64 ((i : Int) + (k : Int)) ∧ I64 (((i : Int) + (k : Int)) + 1) ∧ R (.returned (.tuple #[(.int .u64 x53), (.int .i64 (((i : Int) + (k : Int)) + 1)), (.int .i64 0)])) σ) ∧ (¬ (((c : Int) : Int) < 128) → I64 ((k : Int) + 1) ∧ codec_Uint.pt19 R (some ⟨b, o, none⟩) n c0 i x53 ((k : Int) + 1) σ) := by
      intro h9 x48 hx48 x49 hx49
      refine ⟨by unfold I64; omega, ⟨by omega, by simp [IntKind.bits]; omega⟩, fun x52 hx52 x53 hx53 => ?_⟩
      obtain ⟨f1, f2, f3, f4⟩ := uint_core (bs := bs) (n := n) (i := i) hk (by omega) h9 hacc
      rw [hx49, hx48, f1] at hx52
      subst hx52
      rw [or_shift hacc hk f2] at hx53
      subst hx53
      refine ⟨fun hc => ⟨by unfold I64; omega, by unfold I64; omega, ?_⟩, fun hc => ⟨by unfold I64; omega, ?_⟩⟩
      · have hc' : c < 128 := by omega
        have e5 : c % 128 = c := Nat.mod_eq_of_lt hc'
        have := h.ok (acc + c % 128 * 2 ^ (7 * k)) (i + k + 1) (by omega) (by omega) (by omega) (fun w hw => by
          obtain ⟨g1, g2⟩ := hso.last hx hc' hw
          rw [e5]; exact ⟨g1, by omega⟩)
        have e4 : (((i + k + 1 : Nat)) : Int) = (i : Int) + k + 1 := by omega
        rw [e4] at this; exact this
      · exact rec _ (by rcases Nat.lt_or_ge k 9 with h1 | h1; · exact h1
                        · have := h9 (by omega); omega) (by omega) f3 (hso.next hx (by omega) fun _ => rfl)
    have rest : (k = 9 → c ≤ 1) → ((0 : Int) < (k : Int) → (((c : Int)) = 0 → R (.returned (.tuple #[(.int .u64 0), (.int .i64 0), (.int .i64 21)])) σ) ∧ (¬ (((c : Int)) = 0) → _)) ∧ (¬ ((0 : Int) < (k : Int)) → _) := fun h9 =>
      ⟨fun hk0 => ⟨fun hc0 => h.err (UintR.no0 hso (by omega) hx hc0) 21 (by decide), fun _ => core h9⟩, fun _ => core h9⟩
    refine ⟨by unfold I64; omega, b, o, rfl, by omega, c, by rw [e0]; simpa using hl, fun hk9 => ⟨fun hc1 => ?_, fun hc1 => rest fun _ => by omega⟩, fun hk9 => rest fun h => by omega⟩
    have : k = 9 := by omega
    subst this
    exact h.err (UintR.no9 hso hx hc1) 21 (by decide)
  induction d with
  | zero =>
    intro k acc hd hk hin hacc hso
    exact body k acc (fun a' h1 => by omega) hk hin hacc hso
  | succ d ih =>
    intro k acc hd hk hin hacc hso
    exact body k acc (fun a' h1 h2 h3 h4 => ih (k + 1) a' (by omega) (by omega) h2 h3 h4) hk hin hacc hso
theorem refUint_spec {R : Ending → Hp → Prop} {σ : Hp} {p : Option Addr} {n c0 i : Nat} {bs : List Int} (hr : RdI .u8 σ p n bs) (h8 : By8 bs) (hi : i ≤ n)
    (h : UintR bs n i fun v to code => R (.returned (.tuple #[.int .u64 v, .int .i64 to, .int .i64 code])) σ) : Spec prog ref2_Uint.fid #[.slice p n c0, .int .i64 i] σ R := by
  have hbl : bs.length = n := hr.1
  have hbig := hr.big
  refine ref2_Uint.start ⟨fun h0 => by omega, fun _ => ⟨fun h0 => by omega, fun _ => ?_⟩⟩
  suffices H : ∀ d k acc : Nat, 9 - k = d → k ≤ 9 → i + k ≤ n → acc < 2 ^ (7 * k) → So bs i k acc → ref2_Uint.pt20 R p n c0 i acc k σ from H 9 0 0 rfl (by omega) (by omega) (by decide) So.zero
  intro d
  have body : ∀ k acc : Nat, (∀ a', k < 9 → i + (k + 1) ≤ n → a' < 2 ^ (7 * (k + 1)) → So bs i (k + 1) a' → ref2_Uint.pt20 R p n c0 i a' (k + 1 : Nat) σ) → k ≤ 9 → i + k ≤ n → acc < 2 ^ (7 * k) → So bs i k acc → ref2_Uint.pt20 R p n c0 i acc k σ := by
    intro k acc rec hk hin hacc hso
    have hp63 : 2 ^ (7 * k) ≤ 2 ^ 63 := Nat.pow_le_pow_right (by decide) (by omega)
    refine ref2_Uint.pt20_of ⟨by unfold I64; omega, fun hge => h.err (UintR.noEnd hso (by omega)) 20 (by decide), fun hlt => ?_⟩
    obtain ⟨x, hx⟩ := hr.ex (k := i + k) (by omega)
    obtain ⟨b, o, rfl, hl⟩ := hr.at hx
    have hx8 := h8 x (List.mem_of_getElem? hx)
    obtain ⟨c, rfl⟩ : ∃ c : Nat, x = c := ⟨x.toNat, by omega⟩
    have e0 : Int.toNat ((i : Int) + (k : Int)) = i + k := by omega
    have core : (k = 9 → c ≤ 1) → ∀ x48 : Int, x48 = Go.bits .and .u8 (c : Int) 127 → ∀ x49 : Int, x49 = IntKind.u64.wrap x48 → I64 (7 * (k : Int)) ∧ ((0 : Int) ≤ (7 * (k : Int)) ∧ (7 * (k : Int)) ≤ ((IntKind.bits .u64 : Nat) : Int)) ∧ ∀ x52 : Int, x52 = IntKind.u64.wrap (x49 * 2 ^ Int.toNat (7 * (k : Int))) → ∀ x53 : Int, x53 = Go.bits .or .u64 (acc : Int) x52 → (((c : Int) : Int) < 128 → I64 ((i : Int) + (k : Int)) ∧ I64 (((i : Int) + (k : Int)) + 1) ∧ R (.returned (.tuple #[(.int .u64 x53), (.int .i64 (((i : Int) + (k : Int)) + 1)), (.int .i64 0)])) σ) ∧ (¬ (((c : Int) : Int) < 128) → I64 ((k : Int) + 1) ∧ ref2_Uint.pt20 R (some ⟨b, o, none⟩) n c0 i x53 ((k : Int) + 1) σ) := by
      intro h9 x48 hx48 x49 hx49
      refine ⟨by unfold I64; omega, ⟨by omega, by simp [IntKind.bits]; omega⟩, fun x52 hx52 x53 hx53 => ?_⟩
      obtain ⟨f1, f2, f3, f4⟩ := uint_core (bs := bs) (n := n) (i := i) hk (by omega) h9 hacc
      rw [hx49, hx48, f1] at hx52
      subst hx52
      rw [or_shift hacc hk f2] at hx53
      subst hx53
      refine ⟨fun hc => ⟨by unfold I64; omega, by unfold I64; omega, ?_⟩, fun hc => ⟨by unfold I64; omega, ?_⟩⟩
      · have hc' : c < 128 := by omega
        have e5 : c % 128 = c := Nat.mod_eq_of_lt hc'
        have := h.ok (acc + c % 128 * 2 ^ (7 * k)) (i + k + 1) (by omega) (by omega) (by omega) (fun w hw => by
          obtain ⟨g1, g2⟩ := hso.last hx hc' hw
          rw [e5]; exact ⟨g1, by omega⟩)
        have e4 : (((i + k + 1 : Nat)) : Int) = (i : Int) + k + 1 := by omega
        rw [e4] at this; exact this
      · exact rec _ (by rcases Nat.lt_or_ge k 9 with h1 | h1; · exact h1
                        · have := h9 (by omega); omega) (by omega) f3 (hso.next hx (by omega) fun _ => rfl)
    have rest : (k = 9 → c ≤ 1) → ((0 : Int) < (k : Int) → (((c : Int)) = 0 → R (.returned (.tuple #[(.int .u64 0), (.int .i64 0), (.int .i64 21)])) σ) ∧ (¬ (((c : Int)) = 0) → _)) ∧ (¬ ((0 : Int) < (k : Int)) → _) := fun h9 =>
      ⟨fun hk0 => ⟨fun hc0 => h.err (UintR.no0 hso (by omega) hx hc0) 21 (by decide), fun _ => core h9⟩, fun _ => core h9⟩
    refine ⟨by unfold I64; omega, b, o, rfl, by omega, c, by rw [e0]; simpa using hl, fun hk9 => ⟨fun hc1 => ?_, fun hc1 => rest fun _ => by omega⟩, fun hk9 => rest fun h => by omega⟩
    have : k = 9 := by omega
    subst this
    exact h.err (UintR.no9 hso hx hc1) 21 (by decide)
  induction d with
  | zero =>
    intro k acc hd hk hin hacc hso
    exact body k acc (fun a' h1 => by omega) hk hin hacc hso
  | succ d ih =>
    intro k acc hd hk hin hacc hso
    exact body k acc (fun a' h1 h2 h3 h4 => ih (k + 1) a' (by omega) (by omega) h2 h3 h4) hk hin hacc hso
end TwR
end
