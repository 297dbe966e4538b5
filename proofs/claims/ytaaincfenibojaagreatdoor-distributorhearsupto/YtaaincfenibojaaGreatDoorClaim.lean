/-
  The law DistributorHears of the given program answers true for every input that can be read and is of bulk at most 1048576, and what comes in reads behind the call as it did.
-/
import Derived.Test.YtaaincfenibojaaGreatDoorA6
set_option linter.all false
namespace TwW.Rw
open Go Tw TwW Go.ChangeShapes Go.WideShapes Go.ChangeAt Go.RowKit Go.Deep Go.Proofs.Tryz Go.Proofs.YtaaincfenibojaaGreatDoor
theorem tB {α : Type} : ∀ l : List α, (l.map fun _ => 1).sum = l.length := fun l => by induction l with
 | nil => rfl
 | cons a l ih => simp; omega
theorem AHP {σ : Hp} : ∀ {cs : List Value} {xs : List Bool}, Ch 1 EBo σ cs xs → cs = xs.map .bool := by
 rintro cs xs ⟨h1, h2⟩
 refine List.ext_getElem? fun i => ?_
 rw [List.getElem?_map]
 cases hx : xs[i]? with
 | none =>
   have := List.getElem?_eq_none_iff.1 hx
   simp only [Option.map_none]
   exact List.getElem?_eq_none_iff.2 (by omega)
 | some x =>
   have := h2 i x hx
   simp only [EBo] at this
   have h3 := congrArg (·[0]?) this
   simp at h3
   simpa using h3

section
variable {H : Type} {enc : TypeId × Value → H} {W : World} {base : Nat} {v : Value} {d : DataW H} {ps : List MemPlace} {r : Reach}
set_option maxRecDepth 100000 in
theorem dz (hv : Value.okWide prog W r base 51 v) (h : DataW.Trod enc prog W 0 (fun _ => true) true 51 v d ps) (hw : Rows.uptoBulk d ≤ 1048576) : ∃ p n c bs, v = .slice p n c ∧ VJ (full W) p n bs ∧ n ≤ 1048576 := by
 obtain ⟨a, l, c, rfl⟩ := okWide_slice underlying51 hv
 obtain ⟨fuel, hf⟩ := h
 obtain ⟨xs, ⟨p, n, c', e, _, hr⟩, hI, hz⟩ := Rq.slice (s := 1) (sz := fun _ => 1) underlying51 (by kernel_rfl) (by decide) (Rq.bool underlying4) hf hw
 have e' : [Value.slice a l c] = [.slice p n c'] := by simpa [Value.cells] using e
 cases e'
 have hz' : (xs.map fun _ => 1).sum + 1 ≤ Rows.uptoBulk d := hz
 rw [tB] at hz'
 obtain ⟨hx, cs, h1, h2⟩ := hr
 rw [AHP h2] at h1
 exact ⟨a, l, c, xs, rfl, h1, by omega⟩
set_option maxRecDepth 100000 in
theorem tC (hv : Value.okWide prog W r base 56 v) (h : DataW.Trod enc prog W 0 (fun _ => true) true 56 v d ps) (hw : Rows.uptoBulk d ≤ 1048576) : ∃ p n c xs, v = .slice p n c ∧ CA .i64 (full W) p n xs := by
 obtain ⟨a, l, c, rfl⟩ := okWide_slice underlying56 hv
 obtain ⟨fuel, hf⟩ := h
 obtain ⟨xs, ⟨p, n, c', e, _, hr⟩, _, _⟩ := Rq.slice (s := 1) (sz := fun _ => 1) underlying56 (by kernel_rfl) (by decide) (Rq.int underlying2) hf hw
 have e' : [Value.slice a l c] = [.slice p n c'] := by simpa [Value.cells] using e
 cases e'
 exact ⟨a, l, c, xs, rfl, hr⟩
end
end TwW.Rw
namespace Go.Proofs.YtaaincfenibojaaGreatDoor.distributorHears
open Go Tw TwW TwW.Rw Go.ChangeShapes Go.WideShapes Go.ChangeAt Go.RowKit Go.Deep
open Go.Proofs.Tryz (f4 func4 params4)

theorem reads (os : Os) {H : Type} (enc : TypeId × Value → H) : ∃ places, DataW.whole enc prog ((OD os).forCall (fun _ _ => 0) ⟨#[], #[.slice none 0 0, .slice none 0 0, .slice none 0 0, .int .i64 0, .int .i64 0], []⟩).memory f4.params.toList Rows.distributorHearsSpec.vars false (#[.slice none 0 0, .slice none 0 0, .slice none 0 0, .int .i64 0, .int .i64 0] : Array Value).toList 8 = some ([.nil, .nil, .nil, .lit (.int .i64 0), .lit (.int .i64 0)], [], places) :=
 ⟨[], by kernel_rfl⟩

set_option maxRecDepth 100000 in
theorem lifted (os : Os) (started : os.Started) (H : Type) (enc : TypeId × Value → H) (F : Stop.Interp) :
   ReturnsInHanded {} Go.Proofs.Tryz.checked os 4 .any ((Rows.OpenSpec.upto Rows.distributorHearsSpec).preRow enc prog f4 Rows.distributorHearsUptoRow.domain false Rows.distributorHearsUptoRow.laid) (((Rows.OpenSpec.upto Rows.distributorHearsSpec).at F).post enc prog f4 false true false false) := by
 obtain ⟨places, hx⟩ := reads os enc
 refine returnsInHanded_of_row (C := Go.Proofs.Tryz.checked) (s := Rows.OpenSpec.upto Rows.distributorHearsSpec) own started (by kernel_rfl) func4
   (witness_row_atRef (enc := enc) (C := Go.Proofs.Tryz.checked) false (OD os) #[.slice none 0 0, .slice none 0 0, .slice none 0 0, .int .i64 0, .int .i64 0] rfl (by kernel_rfl) (by kernel_rfl) (by kernel_rfl)
     (OpenSpec.preRow_of_cond 8 hx (by kernel_rfl) (fun k hk => by cases hk; kernel_rfl) (by kernel_rfl) (nc os _))) ?_
 intro W base args ds gs before AHQ hW _ AHR _ hL _ _
 have iP : ∀ (j : Nat) t v, f4.params[j]? = some t → args[j]? = some v → Value.okWide prog W .any base t v := AHQ
 have hk := of_decide_eq_true (AHR _ rfl)
 have hW' := hW
 obtain ⟨p, q, hA0, hV, rfl, hfz, u7⟩ := hW
 have hA : DataW.TrodAll enc prog W 0 (fun _ => true) true f4.params.toList args.toList ds p := hA0
 rw [params4] at hA iP
 obtain ⟨v0, vs0, d0, ds0, p0, q0, JY, rfl, rfl, h0, r0⟩ := trodAll_cons hA
 obtain ⟨v1, vs1, d1, ds1, p1, q1, rfl, rfl, rfl, h1, r1⟩ := trodAll_cons r0
 obtain ⟨v2, vs2, d2, ds2, p2, q2, rfl, rfl, rfl, h2, r2⟩ := trodAll_cons r1
 obtain ⟨v3, vs3, d3, ds3, p3, q3, rfl, rfl, rfl, h3, r3⟩ := trodAll_cons r2
 obtain ⟨v4, vs4, d4, ds4, p4, q4, rfl, rfl, rfl, h4, r4⟩ := trodAll_cons r3
 obtain ⟨rfl, rfl, rfl⟩ := trodAll_nil r4
 obtain rfl : args = #[v0, v1, v2, v3, v4] := by cases args; simp_all
 obtain ⟨rfl, rfl⟩ := trodVars_none hV
 simp only [List.append_nil, Rows.uptoBulkAll] at hk
 obtain ⟨a0, n0, c0, ws, rfl, hr0, hz0⟩ := dz (iP 0 51 v0 rfl rfl) h0 (by omega)
 obtain ⟨a1, n1, c1, ls, rfl, aV⟩ := tC (iP 1 56 v1 rfl rfl) h1 (by omega)
 obtain ⟨a2, n2, c2, hs, rfl, US, hz2⟩ := dz (iP 2 51 v2 rfl rfl) h2 (by omega)
 obtain ⟨x3, rfl, rfl, _, w3⟩ := open_int Go.Proofs.Tryz.underlying2 (iP 3 2 v3 rfl rfl) h3
 obtain ⟨x4, rfl, rfl, _, w4⟩ := open_int Go.Proofs.Tryz.underlying2 (iP 4 2 v4 rfl rfl) h4
 exact zz (by kernel_rfl) rfl rfl ⟨rfl, rfl, rfl⟩ hW' (bW (AG0 hL) hr0 aV US (by omega) fun σ' hx => ⟨rfl, hx⟩)

theorem c1 : (Rows.distributorHearsUptoRow.inPlace == prog.inPlace 4) = true := by kernel_rfl
theorem c2 : (Rows.distributorHearsUptoRow.unfollowed == prog.unfollowed 4) = true := by kernel_rfl
theorem c3 : (Rows.distributorHearsUptoRow.recurses == prog.recurses 4) = true := by kernel_rfl
theorem c4 : (Rows.distributorHearsUptoRow.named == prog.varsNamed 4) = true := by kernel_rfl
theorem closed : joinedFacts prog 4 f4 (Rows.OpenSpec.upto Rows.distributorHearsSpec).bare Rows.distributorHearsUptoRow = true :=
 CN (CN (CN (CN (CN (CN (CN (CN (CN (CN (CN (CN (CN (CN (CN (CN (CN (CN (CN (CN (CN (CN (CN (CN (CN (CN (CN (CN (CN (CN (CN
   (by as_aux_lemma => kernel_rfl) laidOut) AG1) (by as_aux_lemma => kernel_rfl)) (by as_aux_lemma => kernel_rfl)) rfl) z7) rfl) z8) c1) c2) c3) c4)
   (by as_aux_lemma => kernel_rfl)) (by as_aux_lemma => kernel_rfl)) (by as_aux_lemma => kernel_rfl)) (by as_aux_lemma => kernel_rfl)) (by as_aux_lemma => kernel_rfl)) (by as_aux_lemma => kernel_rfl)) (by as_aux_lemma => kernel_rfl)) (by as_aux_lemma => kernel_rfl)) (by as_aux_lemma => kernel_rfl)) keys) rfl) heard) enters) AG2) makes)
   (by as_aux_lemma => kernel_rfl)) (by as_aux_lemma => kernel_rfl)) (by as_aux_lemma => kernel_rfl)) (by as_aux_lemma => kernel_rfl)

theorem said : Rows.DistributorHearsUptoSaid :=
 OpenClaim.holds_of_cond 4 f4 rfl rfl rfl rfl rfl rfl rfl ⟨rfl, rfl, rfl, rfl, rfl⟩ rfl rfl rfl rfl rfl (by as_aux_lemma => kernel_rfl) func4 closed
   (of_decide_eq_true (by as_aux_lemma => kernel_rfl)) (by unfold Func.isWrapper; first | (rw [if_pos (by decide +kernel)]; kernel_rfl) | (rw [if_neg (by decide +kernel)]; exact ⟨rfl, rfl⟩))
   (fun os started H enc _ F => by rw [OpenClaim.pre_eq_preRow]; exact lifted os started H enc F)

set_option maxRecDepth 100000 in
theorem plain (f : FuncId) (fn : Func) (hf : Tryz.pinned.checked.prog.funcNamed "tidewrack/tidewracklaw24.DistributorHears" = some f) (NL : Tryz.pinned.checked.prog.funcs[f]? = some fn) :
   true = Tryz.pinned.checked.prog.looks [] ∧ ∀ (j : Nat) t, fn.params[j]? = some t → Tryz.pinned.checked.prog.wantsStandIn t = false := by
 obtain rfl : f = 4 := Option.some.inj ((show prog.funcNamed "tidewrack/tidewracklaw24.DistributorHears" = some 4 by kernel_rfl).symm.trans hf) |>.symm
 obtain rfl : fn = f4 := (Option.some.inj (func4.symm.trans NL)).symm
 refine ⟨by kernel_rfl, fun j t ht => ?_⟩
 rw [params4] at ht
 have := Array.mem_of_getElem? ht
 simp only [List.mem_toArray, List.mem_cons, List.not_mem_nil, or_false] at this
 rcases this with rfl | rfl | rfl | rfl | rfl
 · exact (show prog.wantsStandIn 51 = false by kernel_rfl)
 · exact (show prog.wantsStandIn 56 = false by kernel_rfl)
 · exact (show prog.wantsStandIn 51 = false by kernel_rfl)
 · exact (show prog.wantsStandIn 2 = false by kernel_rfl)
 · exact (show prog.wantsStandIn 2 = false by kernel_rfl)

theorem proved : Rows.DistributorHearsUptoCardSaid :=
 Claim7.holds_tied_plain_at .later [] _ _ _ _ said (fun _ h => by cases h) (by as_aux_lemma => kernel_rfl) (fun _ h => by cases h) distributorHearsUpto_row_tie rfl ⟨rfl, rfl⟩ (by as_aux_lemma => kernel_rfl) rfl plain (by as_aux_lemma => kernel_rfl)
end Go.Proofs.YtaaincfenibojaaGreatDoor.distributorHears
