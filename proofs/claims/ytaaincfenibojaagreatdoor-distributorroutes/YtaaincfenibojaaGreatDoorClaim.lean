/-
  The law DistributorRoutes of the given program answers true for every input that can be read, and what comes in reads behind the call as it did.
-/
import Derived.Test.YtaaincfenibojaaGreatDoorA6
set_option linter.all false
namespace Go.Proofs.YtaaincfenibojaaGreatDoor.distributorRoutes
open Go Tw TwW TwW.Rw Go.ChangeShapes Go.WideShapes Go.ChangeAt Go.RowKit Go.Deep
open Go.Proofs.Tryz (f5 func5 params5)

theorem reads (os : Os) {H : Type} (enc : TypeId × Value → H) : ∃ places, DataW.whole enc prog ((Nu os).forCall (fun _ _ => 0) ⟨#[], #[.int .i64 0, .int .i64 0, .slice none 0 0], []⟩).memory f5.params.toList Rows.distributorRoutesSpec.vars false (#[.int .i64 0, .int .i64 0, .slice none 0 0] : Array Value).toList 8 = some ([.lit (.int .i64 0), .lit (.int .i64 0), .nil], [], places) :=
 ⟨[], by kernel_rfl⟩

set_option maxRecDepth 100000 in
theorem lifted (os : Os) (started : os.Started) (H : Type) (enc : TypeId × Value → H) (F : Stop.Interp) :
   ReturnsInHanded {} Go.Proofs.Tryz.checked os 5 .any ((OpenSpec.ofChange Rows.distributorRoutesSpec).preRow enc prog f5 Rows.distributorRoutesRow.domain false Rows.distributorRoutesRow.laid) (((OpenSpec.ofChange Rows.distributorRoutesSpec).at F).post enc prog f5 false true false false) := by
 obtain ⟨places, hx⟩ := reads os enc
 refine returnsInHanded_of_row (C := Go.Proofs.Tryz.checked) (s := OpenSpec.ofChange Rows.distributorRoutesSpec) own started (by kernel_rfl) func5
   (witness_row_atRef (enc := enc) (C := Go.Proofs.Tryz.checked) false (Nu os) #[.int .i64 0, .int .i64 0, .slice none 0 0] rfl (by kernel_rfl) (by kernel_rfl) (by kernel_rfl)
     (OpenSpec.preRow_of_cond 8 hx (by kernel_rfl) (fun k hk => by cases hk) (by kernel_rfl) (mz os _))) ?_
 intro W base args ds gs before AGS hW _ _ yQ hL _ _
 have sC : ∀ (j : Nat) t v, f5.params[j]? = some t → args[j]? = some v → Value.okWide prog W .any base t v := AGS
 have hW' := hW
 obtain ⟨p, q, hA0, hV, rfl, hfz, uL⟩ := hW
 have hA : DataW.TrodAll enc prog W 0 (fun _ => true) true f5.params.toList args.toList ds p := hA0
 have AGT : (DataW.weightsEach prog f5.params.toList ds).all (· ≤ reachBytes) = true := by
   obtain ⟨rfl, rfl⟩ := trodVars_none hV
   refine show (DataW.weightsEach Go.Proofs.Tryz.checked.prog f5.params.toList ds).all (· ≤ reachBytes) = true from ?_
   simpa [show ((OpenSpec.ofChange Rows.distributorRoutesSpec).bare.plain.varTypes Go.Proofs.Tryz.checked.prog) = [] from rfl] using yQ
 rw [params5] at hA sC AGT
 obtain ⟨v0, vs0, d0, ds0, p0, q0, JK, rfl, rfl, h0, r0⟩ := trodAll_cons hA
 obtain ⟨v1, vs1, d1, ds1, p1, q1, rfl, rfl, rfl, h1, r1⟩ := trodAll_cons r0
 obtain ⟨v2, vs2, d2, ds2, p2, q2, rfl, rfl, rfl, h2, r2⟩ := trodAll_cons r1
 obtain ⟨rfl, rfl, rfl⟩ := trodAll_nil r2
 obtain rfl : args = #[v0, v1, v2] := by cases args; simp_all
 obtain ⟨rfl, rfl⟩ := trodVars_none hV
 have hw : ∀ n ∈ DataW.weightsEach prog [3, 3, 46] [d0, d1, d2], n ≤ reachBytes := fun n hn => of_decide_eq_true (List.all_eq_true.1 AGT n hn)
 obtain ⟨x0, rfl, rfl, _, w0⟩ := open_int Go.Proofs.Tryz.underlying3 (sC 0 3 v0 rfl rfl) h0
 obtain ⟨x1, rfl, rfl, _, w1⟩ := open_int Go.Proofs.Tryz.underlying3 (sC 1 3 v1 rfl rfl) h1
 obtain ⟨p2, n2, c2, ss, rfl, SJ, h40, h32⟩ := nC (sC 2 46 v2 rfl rfl) h2 fun n hn => hw n (M1 (j := 2) rfl rfl hn)
 exact zZ (by kernel_rfl) rfl rfl ⟨rfl, rfl, rfl⟩ hW' (YH (AGI hL) SJ h40 h32 fun σ' hx => ⟨rfl, hx⟩)

theorem c1 : (Rows.distributorRoutesRow.inPlace == prog.inPlace 5) = true := by kernel_rfl
theorem c2 : (Rows.distributorRoutesRow.unfollowed == prog.unfollowed 5) = true := by kernel_rfl
theorem c3 : (Rows.distributorRoutesRow.recurses == prog.recurses 5) = true := by kernel_rfl
theorem c4 : (Rows.distributorRoutesRow.named == prog.varsNamed 5) = true := by kernel_rfl
theorem closed : joinedFacts prog 5 f5 (OpenSpec.ofChange Rows.distributorRoutesSpec).bare Rows.distributorRoutesRow = true :=
 CK (CK (CK (CK (CK (CK (CK (CK (CK (CK (CK (CK (CK (CK (CK (CK (CK (CK (CK (CK (CK (CK (CK (CK (CK (CK (CK (CK (CK (CK (CK
   (by as_aux_lemma => kernel_rfl) laidOut) AGJ) (by as_aux_lemma => kernel_rfl)) (by as_aux_lemma => kernel_rfl)) rfl) za) rfl) zb) c1) c2) c3) c4)
   (by as_aux_lemma => kernel_rfl)) (by as_aux_lemma => kernel_rfl)) (by as_aux_lemma => kernel_rfl)) (by as_aux_lemma => kernel_rfl)) (by as_aux_lemma => kernel_rfl)) (by as_aux_lemma => kernel_rfl)) (by as_aux_lemma => kernel_rfl)) (by as_aux_lemma => kernel_rfl)) (by as_aux_lemma => kernel_rfl)) keys) rfl) heard) enters) AGK) makes)
   (by as_aux_lemma => kernel_rfl)) (by as_aux_lemma => kernel_rfl)) (by as_aux_lemma => kernel_rfl)) (by as_aux_lemma => kernel_rfl)

theorem said : Rows.DistributorRoutesSaid :=
 OpenClaim.holds_of_cond 5 f5 rfl rfl rfl rfl rfl rfl rfl ⟨rfl, rfl, rfl, rfl, rfl⟩ rfl rfl rfl rfl rfl (by as_aux_lemma => kernel_rfl) func5 closed
   (of_decide_eq_true (by as_aux_lemma => kernel_rfl)) (by unfold Func.isWrapper; first | (rw [if_pos (by decide +kernel)]; kernel_rfl) | (rw [if_neg (by decide +kernel)]; exact ⟨rfl, rfl⟩))
   (fun os started H enc _ F => by rw [OpenClaim.pre_eq_preRow]; exact lifted os started H enc F)

set_option maxRecDepth 100000 in
theorem plain (f : FuncId) (fn : Func) (hf : Tryz.pinned.checked.prog.funcNamed "tidewrack/tidewracklaw24.DistributorRoutes" = some f) (M3 : Tryz.pinned.checked.prog.funcs[f]? = some fn) :
   true = Tryz.pinned.checked.prog.looks [] ∧ ∀ (j : Nat) t, fn.params[j]? = some t → Tryz.pinned.checked.prog.wantsStandIn t = false := by
 obtain rfl : f = 5 := Option.some.inj ((show prog.funcNamed "tidewrack/tidewracklaw24.DistributorRoutes" = some 5 by kernel_rfl).symm.trans hf) |>.symm
 obtain rfl : fn = f5 := (Option.some.inj (func5.symm.trans M3)).symm
 refine ⟨by kernel_rfl, fun j t ht => ?_⟩
 rw [params5] at ht
 have := Array.mem_of_getElem? ht
 simp only [List.mem_toArray, List.mem_cons, List.not_mem_nil, or_false] at this
 rcases this with rfl | rfl | rfl
 · exact (show prog.wantsStandIn 3 = false by kernel_rfl)
 · exact (show prog.wantsStandIn 3 = false by kernel_rfl)
 · exact (show prog.wantsStandIn 46 = false by kernel_rfl)

theorem proved : Rows.DistributorRoutesCardSaid :=
 Claim7.holds_tied_plain_at .later [] _ _ _ _ said (fun _ h => by cases h) (by as_aux_lemma => kernel_rfl) (fun _ h => by cases h) distributorRoutes_row_tie rfl ⟨rfl, rfl⟩ (by as_aux_lemma => kernel_rfl) rfl plain (by as_aux_lemma => kernel_rfl)
end Go.Proofs.YtaaincfenibojaaGreatDoor.distributorRoutes
