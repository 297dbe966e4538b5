/-
  The law EvalSets of the given program answers true for every input that can be read and is of bulk at most 1048576, and what comes in reads behind the call as it did.
-/
import Derived.Test.YtlmhidjgplomgaaGreatDoorA6
set_option linter.all false
namespace Go.Proofs.YtlmhidjgplomgaaGreatDoor.evalSets
open Go Tw TwW TwW.Rw Go.ChangeShapes Go.WideShapes Go.ChangeAt Go.RowKit Go.Deep
open Go.Proofs.Tryz (f4 func4 params4)
theorem c1 : (Rows.evalSetsUptoRow.inPlace == prog.inPlace 4) = true := by kernel_rfl
theorem c2 : (Rows.evalSetsUptoRow.unfollowed == prog.unfollowed 4) = true := by kernel_rfl
theorem c3 : (Rows.evalSetsUptoRow.recurses == prog.recurses 4) = true := by kernel_rfl
theorem c4 : (Rows.evalSetsUptoRow.named == prog.varsNamed 4) = true := by kernel_rfl
theorem closed : joinedFacts prog 4 f4 (Rows.OpenSpec.upto Rows.evalSetsSpec).bare Rows.evalSetsUptoRow = true :=
 Be (Be (Be (Be (Be (Be (Be (Be (Be (Be (Be (Be (Be (Be (Be (Be (Be (Be (Be (Be (Be (Be (Be (Be (Be (Be (Be (Be (Be (Be (Be
   (by as_aux_lemma => kernel_rfl) laidOut) AIj) (by as_aux_lemma => kernel_rfl)) (by as_aux_lemma => kernel_rfl)) rfl) ABr) rfl) ABs) c1) c2) c3) c4)
   (by as_aux_lemma => kernel_rfl)) (by as_aux_lemma => kernel_rfl)) (by as_aux_lemma => kernel_rfl)) (by as_aux_lemma => kernel_rfl)) (by as_aux_lemma => kernel_rfl)) (by as_aux_lemma => kernel_rfl)) (by as_aux_lemma => kernel_rfl)) (by as_aux_lemma => kernel_rfl)) (by as_aux_lemma => kernel_rfl)) keys) rfl) heard) enters) AIk) makes)
   (by as_aux_lemma => kernel_rfl)) (by as_aux_lemma => kernel_rfl)) (by as_aux_lemma => kernel_rfl)) (by as_aux_lemma => kernel_rfl)

theorem said : Rows.EvalSetsUptoSaid :=
 OpenClaim.holds_of_cond 4 f4 rfl rfl rfl rfl rfl rfl rfl ⟨rfl,rfl,rfl,rfl,rfl⟩ rfl rfl rfl rfl rfl (by as_aux_lemma => kernel_rfl) func4 closed
   (of_decide_eq_true (by as_aux_lemma => kernel_rfl)) (by unfold Func.isWrapper; first | (rw [if_pos (by decide +kernel)]; kernel_rfl) | (rw [if_neg (by decide +kernel)]; exact ⟨rfl,rfl⟩))
   (fun os started H enc _ F => by rw [OpenClaim.pre_eq_preRow]; exact lifted os started H enc F)

set_option maxRecDepth 100000 in
theorem plain (f : FuncId) (fn : Func) (hf : Tryz.pinned.checked.prog.funcNamed "tidewrack/tidewracklaw22.EvalSets" = some f) (Qu : Tryz.pinned.checked.prog.funcs[f]? = some fn) :
   true = Tryz.pinned.checked.prog.looks [] ∧ ∀ (j : Nat) t,fn.params[j]? = some t → Tryz.pinned.checked.prog.wantsStandIn t = false := by
 obtain rfl : f = 4 := Option.some.inj ((show prog.funcNamed "tidewrack/tidewracklaw22.EvalSets" = some 4 by kernel_rfl).symm.trans hf) |>.symm
 obtain rfl : fn = f4 := (Option.some.inj (func4.symm.trans Qu)).symm
 refine ⟨by kernel_rfl,fun j t ht => ?_⟩
 rw [params4] at ht
 have := Array.mem_of_getElem? ht
 simp only [List.mem_toArray,List.mem_cons,List.not_mem_nil,or_false] at this
 rcases this with rfl | rfl | rfl | rfl
 · exact (show prog.wantsStandIn 23 = false by kernel_rfl)
 · exact (show prog.wantsStandIn 2 = false by kernel_rfl)
 · exact (show prog.wantsStandIn 9 = false by kernel_rfl)
 · exact (show prog.wantsStandIn 9 = false by kernel_rfl)

theorem proved : Rows.EvalSetsUptoCardSaid :=
 Claim7.holds_tied_plain_at .later [] _ _ _ _ said (fun _ h => by cases h) (by as_aux_lemma => kernel_rfl) (fun _ h => by cases h) evalSetsUpto_row_tie rfl ⟨rfl,rfl⟩ (by as_aux_lemma => kernel_rfl) rfl plain (by as_aux_lemma => kernel_rfl)
end Go.Proofs.YtlmhidjgplomgaaGreatDoor.evalSets
