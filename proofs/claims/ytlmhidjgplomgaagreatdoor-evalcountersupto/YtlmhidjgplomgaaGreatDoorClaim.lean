/-
  The law EvalCounters of the given program answers true for every input that can be read and is of bulk at most 1048576, and what comes in reads behind the call as it did.
-/
import Derived.Test.YtlmhidjgplomgaaGreatDoorA6
set_option linter.all false
namespace Go.Proofs.YtlmhidjgplomgaaGreatDoor.evalCounters
open Go Tw TwW TwW.Rw Go.ChangeShapes Go.WideShapes Go.ChangeAt Go.RowKit Go.Deep
open Go.Proofs.Tryz (f7 func7 params7)
theorem c1 : (Rows.evalCountersUptoRow.inPlace == prog.inPlace 7) = true := by kernel_rfl
theorem c2 : (Rows.evalCountersUptoRow.unfollowed == prog.unfollowed 7) = true := by kernel_rfl
theorem c3 : (Rows.evalCountersUptoRow.recurses == prog.recurses 7) = true := by kernel_rfl
theorem c4 : (Rows.evalCountersUptoRow.named == prog.varsNamed 7) = true := by kernel_rfl
theorem closed : joinedFacts prog 7 f7 (Rows.OpenSpec.upto Rows.evalCountersSpec).bare Rows.evalCountersUptoRow = true :=
 BR (BR (BR (BR (BR (BR (BR (BR (BR (BR (BR (BR (BR (BR (BR (BR (BR (BR (BR (BR (BR (BR (BR (BR (BR (BR (BR (BR (BR (BR (BR
   (by as_aux_lemma => kernel_rfl) laidOut) AF4) (by as_aux_lemma => kernel_rfl)) (by as_aux_lemma => kernel_rfl)) rfl) zV) rfl) zW) c1) c2) c3) c4)
   (by as_aux_lemma => kernel_rfl)) (by as_aux_lemma => kernel_rfl)) (by as_aux_lemma => kernel_rfl)) (by as_aux_lemma => kernel_rfl)) (by as_aux_lemma => kernel_rfl)) (by as_aux_lemma => kernel_rfl)) (by as_aux_lemma => kernel_rfl)) (by as_aux_lemma => kernel_rfl)) (by as_aux_lemma => kernel_rfl)) keys) rfl) heard) enters) AF5) makes)
   (by as_aux_lemma => kernel_rfl)) (by as_aux_lemma => kernel_rfl)) (by as_aux_lemma => kernel_rfl)) (by as_aux_lemma => kernel_rfl)

theorem said : Rows.EvalCountersUptoSaid :=
 OpenClaim.holds_of_cond 7 f7 rfl rfl rfl rfl rfl rfl rfl ⟨rfl, rfl, rfl, rfl, rfl⟩ rfl rfl rfl rfl rfl (by as_aux_lemma => kernel_rfl) func7 closed
   (of_decide_eq_true (by as_aux_lemma => kernel_rfl)) (by unfold Func.isWrapper; first | (rw [if_pos (by decide +kernel)]; kernel_rfl) | (rw [if_neg (by decide +kernel)]; exact ⟨rfl, rfl⟩))
   (fun os started H enc _ F => by rw [OpenClaim.pre_eq_preRow]; exact lifted os started H enc F)

set_option maxRecDepth 100000 in
theorem plain (f : FuncId) (fn : Func) (hf : Tryz.pinned.checked.prog.funcNamed "tidewrack/tidewracklaw22.EvalCounters" = some f) (Pr : Tryz.pinned.checked.prog.funcs[f]? = some fn) :
   true = Tryz.pinned.checked.prog.looks [] ∧ ∀ (j : Nat) t, fn.params[j]? = some t → Tryz.pinned.checked.prog.wantsStandIn t = false := by
 obtain rfl : f = 7 := Option.some.inj ((show prog.funcNamed "tidewrack/tidewracklaw22.EvalCounters" = some 7 by kernel_rfl).symm.trans hf) |>.symm
 obtain rfl : fn = f7 := (Option.some.inj (func7.symm.trans Pr)).symm
 refine ⟨by kernel_rfl, fun j t ht => ?_⟩
 rw [params7] at ht
 have := Array.mem_of_getElem? ht
 simp only [List.mem_toArray, List.mem_cons, List.not_mem_nil, or_false] at this
 rcases this with rfl | rfl | rfl
 · exact (show prog.wantsStandIn 57 = false by kernel_rfl)
 · exact (show prog.wantsStandIn 3 = false by kernel_rfl)
 · exact (show prog.wantsStandIn 3 = false by kernel_rfl)

theorem proved : Rows.EvalCountersUptoCardSaid :=
 Claim7.holds_tied_plain_at .later [] _ _ _ _ said (fun _ h => by cases h) (by as_aux_lemma => kernel_rfl) (fun _ h => by cases h) evalCountersUpto_row_tie rfl ⟨rfl, rfl⟩ (by as_aux_lemma => kernel_rfl) rfl plain (by as_aux_lemma => kernel_rfl)
end Go.Proofs.YtlmhidjgplomgaaGreatDoor.evalCounters
