/-
  The law DistributorQuorum of the given program answers true for every input that can be read, and what comes in reads behind the call as it did.
-/
import Derived.Test.YtaaincfenibojaaGreatDoorA6
set_option linter.all false
namespace Go.Proofs.YtaaincfenibojaaGreatDoor.distributorQuorum
open Go Tw TwW TwW.Rw Go.ChangeShapes Go.WideShapes Go.ChangeAt Go.RowKit Go.Deep
open Go.Proofs.Tryz (f3 func3 params3)

theorem reads (os : Os) {H : Type} (enc : TypeId × Value → H) : ∃ places, DataW.whole enc prog ((N2 os).forCall (fun _ _ => 0) ⟨#[], #[.int .i64 0, .int .i64 0, .agg #[.slice none 0 0, .int .i64 0, .int .u64 0], .slice none 0 0, .slice none 0 0], []⟩).memory f3.params.toList Rows.distributorQuorumSpec.vars false (#[.int .i64 0, .int .i64 0, .agg #[.slice none 0 0, .int .i64 0, .int .u64 0], .slice none 0 0, .slice none 0 0] : Array Value).toList 8 = some ([.lit (.int .i64 0), .lit (.int .i64 0), .agg [.nil, .lit (.int .i64 0), .lit (.int .u64 0)], .nil, .nil], [], places) :=
 ⟨[], by kernel_rfl⟩

set_option maxRecDepth 100000 in
theorem lifted (os : Os) (started : os.Started) (H : Type) (enc : TypeId × Value → H) (F : Stop.Interp) :
   ReturnsInHanded {} Go.Proofs.Tryz.checked os 3 .any ((OpenSpec.ofChange Rows.distributorQuorumSpec).preRow enc prog f3 Rows.distributorQuorumRow.domain false Rows.distributorQuorumRow.laid) (((OpenSpec.ofChange Rows.distributorQuorumSpec).at F).post enc prog f3 false true false false) := by
 obtain ⟨places, hx⟩ := reads os enc
 refine returnsInHanded_of_row (C := Go.Proofs.Tryz.checked) (s := OpenSpec.ofChange Rows.distributorQuorumSpec) own started (by kernel_rfl) func3
   (witness_row_atRef (enc := enc) (C := Go.Proofs.Tryz.checked) false (N2 os) #[.int .i64 0, .int .i64 0, .agg #[.slice none 0 0, .int .i64 0, .int .u64 0], .slice none 0 0, .slice none 0 0] rfl (by kernel_rfl) (by kernel_rfl) (by kernel_rfl)
     (OpenSpec.preRow_of_cond 8 hx (by kernel_rfl) (fun k hk => by cases hk) (by kernel_rfl) (mq os _))) ?_
 intro W base args ds gs before AGb hW _ _ yY hL _ _
 have gv : ∀ (j : Nat) t v, f3.params[j]? = some t → args[j]? = some v → Value.okWide prog W .any base t v := AGb
 have hW' := hW
 obtain ⟨p, q, hA0, hV, rfl, hfz, uG⟩ := hW
 have hA : DataW.TrodAll enc prog W 0 (fun _ => true) true f3.params.toList args.toList ds p := hA0
 have AGc : (DataW.weightsEach prog f3.params.toList ds).all (· ≤ reachBytes) = true := by
   obtain ⟨rfl, rfl⟩ := trodVars_none hV
   refine show (DataW.weightsEach Go.Proofs.Tryz.checked.prog f3.params.toList ds).all (· ≤ reachBytes) = true from ?_
   simpa [show ((OpenSpec.ofChange Rows.distributorQuorumSpec).bare.plain.varTypes Go.Proofs.Tryz.checked.prog) = [] from rfl] using yY
 rw [params3] at hA gv AGc
 obtain ⟨v0, vs0, d0, ds0, p0, q0, JD, rfl, rfl, h0, r0⟩ := trodAll_cons hA
 obtain ⟨v1, vs1, d1, ds1, p1, q1, rfl, rfl, rfl, h1, r1⟩ := trodAll_cons r0
 obtain ⟨v2, vs2, d2, ds2, p2, q2, rfl, rfl, rfl, h2, r2⟩ := trodAll_cons r1
 obtain ⟨v3, vs3, d3, ds3, p3, q3, rfl, rfl, rfl, h3, r3⟩ := trodAll_cons r2
 obtain ⟨v4, vs4, d4, ds4, p4, q4, rfl, rfl, rfl, h4, r4⟩ := trodAll_cons r3
 obtain ⟨rfl, rfl, rfl⟩ := trodAll_nil r4
 obtain rfl : args = #[v0, v1, v2, v3, v4] := by cases args; simp_all
 obtain ⟨rfl, rfl⟩ := trodVars_none hV
 have hw : ∀ n ∈ DataW.weightsEach prog [3, 3, 25, 26, 26] [d0, d1, d2, d3, d4], n ≤ reachBytes := fun n hn => of_decide_eq_true (List.all_eq_true.1 AGc n hn)
 obtain ⟨x0, rfl, rfl, _, w0⟩ := open_int Go.Proofs.Tryz.underlying3 (gv 0 3 v0 rfl rfl) h0
 obtain ⟨x1, rfl, rfl, _, w1⟩ := open_int Go.Proofs.Tryz.underlying3 (gv 1 3 v1 rfl rfl) h1
 obtain ⟨p2, n2, c2, t, u, ls, rfl, UB⟩ := r7 (gv 2 25 v2 rfl rfl) h2 fun n hn => hw n (Ga (j := 2) rfl rfl hn)
 obtain ⟨p3, n3, c3, ns, rfl, hr3⟩ := di (gv 3 26 v3 rfl rfl) h3 fun n hn => hw n (Ga (j := 3) rfl rfl hn)
 obtain ⟨p4, n4, c4, fx, rfl, hr4⟩ := di (gv 4 26 v4 rfl rfl) h4 fun n hn => hw n (Ga (j := 4) rfl rfl hn)
 exact zh (by kernel_rfl) rfl rfl ⟨rfl, rfl, rfl⟩ hW' (YY (AGY hL) UB hr3 hr4 fun σ' hx => ⟨rfl, hx⟩)

theorem c1 : (Rows.distributorQuorumRow.inPlace == prog.inPlace 3) = true := by kernel_rfl
theorem c2 : (Rows.distributorQuorumRow.unfollowed == prog.unfollowed 3) = true := by kernel_rfl
theorem c3 : (Rows.distributorQuorumRow.recurses == prog.recurses 3) = true := by kernel_rfl
theorem c4 : (Rows.distributorQuorumRow.named == prog.varsNamed 3) = true := by kernel_rfl
theorem closed : joinedFacts prog 3 f3 (OpenSpec.ofChange Rows.distributorQuorumSpec).bare Rows.distributorQuorumRow = true :=
 CH (CH (CH (CH (CH (CH (CH (CH (CH (CH (CH (CH (CH (CH (CH (CH (CH (CH (CH (CH (CH (CH (CH (CH (CH (CH (CH (CH (CH (CH (CH
   (by as_aux_lemma => kernel_rfl) laidOut) AGZ) (by as_aux_lemma => kernel_rfl)) (by as_aux_lemma => kernel_rfl)) rfl) zi) rfl) zj) c1) c2) c3) c4)
   (by as_aux_lemma => kernel_rfl)) (by as_aux_lemma => kernel_rfl)) (by as_aux_lemma => kernel_rfl)) (by as_aux_lemma => kernel_rfl)) (by as_aux_lemma => kernel_rfl)) (by as_aux_lemma => kernel_rfl)) (by as_aux_lemma => kernel_rfl)) (by as_aux_lemma => kernel_rfl)) (by as_aux_lemma => kernel_rfl)) keys) rfl) heard) enters) AGa) makes)
   (by as_aux_lemma => kernel_rfl)) (by as_aux_lemma => kernel_rfl)) (by as_aux_lemma => kernel_rfl)) (by as_aux_lemma => kernel_rfl)

theorem said : Rows.DistributorQuorumSaid :=
 OpenClaim.holds_of_cond 3 f3 rfl rfl rfl rfl rfl rfl rfl ⟨rfl, rfl, rfl, rfl, rfl⟩ rfl rfl rfl rfl rfl (by as_aux_lemma => kernel_rfl) func3 closed
   (of_decide_eq_true (by as_aux_lemma => kernel_rfl)) (by unfold Func.isWrapper; first | (rw [if_pos (by decide +kernel)]; kernel_rfl) | (rw [if_neg (by decide +kernel)]; exact ⟨rfl, rfl⟩))
   (fun os started H enc _ F => by rw [OpenClaim.pre_eq_preRow]; exact lifted os started H enc F)

set_option maxRecDepth 100000 in
theorem plain (f : FuncId) (fn : Func) (hf : Tryz.pinned.checked.prog.funcNamed "tidewrack/tidewracklaw24.DistributorQuorum" = some f) (M8 : Tryz.pinned.checked.prog.funcs[f]? = some fn) :
   true = Tryz.pinned.checked.prog.looks [] ∧ ∀ (j : Nat) t, fn.params[j]? = some t → Tryz.pinned.checked.prog.wantsStandIn t = false := by
 obtain rfl : f = 3 := Option.some.inj ((show prog.funcNamed "tidewrack/tidewracklaw24.DistributorQuorum" = some 3 by kernel_rfl).symm.trans hf) |>.symm
 obtain rfl : fn = f3 := (Option.some.inj (func3.symm.trans M8)).symm
 refine ⟨by kernel_rfl, fun j t ht => ?_⟩
 rw [params3] at ht
 have := Array.mem_of_getElem? ht
 simp only [List.mem_toArray, List.mem_cons, List.not_mem_nil, or_false] at this
 rcases this with rfl | rfl | rfl | rfl | rfl
 · exact (show prog.wantsStandIn 3 = false by kernel_rfl)
 · exact (show prog.wantsStandIn 3 = false by kernel_rfl)
 · exact (show prog.wantsStandIn 25 = false by kernel_rfl)
 · exact (show prog.wantsStandIn 26 = false by kernel_rfl)
 · exact (show prog.wantsStandIn 26 = false by kernel_rfl)

theorem proved : Rows.DistributorQuorumCardSaid :=
 Claim7.holds_tied_plain_at .later [] _ _ _ _ said (fun _ h => by cases h) (by as_aux_lemma => kernel_rfl) (fun _ h => by cases h) distributorQuorum_row_tie rfl ⟨rfl, rfl⟩ (by as_aux_lemma => kernel_rfl) rfl plain (by as_aux_lemma => kernel_rfl)
end Go.Proofs.YtaaincfenibojaaGreatDoor.distributorQuorum
