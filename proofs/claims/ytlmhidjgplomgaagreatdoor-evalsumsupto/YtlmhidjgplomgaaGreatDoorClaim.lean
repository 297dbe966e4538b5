/-
  The law EvalSums of the given program answers true for every input that can be read and is of bulk at most 1048576, and what comes in reads behind the call as it did.
-/
import Derived.Test.YtlmhidjgplomgaaGreatDoorA6
set_option linter.all false
namespace Go.Proofs.YtlmhidjgplomgaaGreatDoor.evalSums
open Go Tw TwW TwW.Rw Go.ChangeShapes Go.WideShapes Go.ChangeAt Go.RowKit Go.Deep
open Go.Proofs.Tryz (f9 func9 params9)
theorem c1 : (Rows.evalSumsUptoRow.inPlace == prog.inPlace 9) = true := by kernel_rfl
theorem c2 : (Rows.evalSumsUptoRow.unfollowed == prog.unfollowed 9) = true := by kernel_rfl
theorem c3 : (Rows.evalSumsUptoRow.recurses == prog.recurses 9) = true := by kernel_rfl
theorem c4 : (Rows.evalSumsUptoRow.named == prog.varsNamed 9) = true := by kernel_rfl
theorem closed : joinedFacts prog 9 f9 (Rows.OpenSpec.upto Rows.evalSumsSpec).bare Rows.evalSumsUptoRow = true :=
 BY (BY (BY (BY (BY (BY (BY (BY (BY (BY (BY (BY (BY (BY (BY (BY (BY (BY (BY (BY (BY (BY (BY (BY (BY (BY (BY (BY (BY (BY (BY
   (by as_aux_lemma => kernel_rfl) laidOut) AIe) (by as_aux_lemma => kernel_rfl)) (by as_aux_lemma => kernel_rfl)) rfl) AB9) rfl) ACA) c1) c2) c3) c4)
   (by as_aux_lemma => kernel_rfl)) (by as_aux_lemma => kernel_rfl)) (by as_aux_lemma => kernel_rfl)) (by as_aux_lemma => kernel_rfl)) (by as_aux_lemma => kernel_rfl)) (by as_aux_lemma => kernel_rfl)) (by as_aux_lemma => kernel_rfl)) (by as_aux_lemma => kernel_rfl)) (by as_aux_lemma => kernel_rfl)) keys) rfl) heard) enters) AIf) makes)
   (by as_aux_lemma => kernel_rfl)) (by as_aux_lemma => kernel_rfl)) (by as_aux_lemma => kernel_rfl)) (by as_aux_lemma => kernel_rfl)

theorem said : Rows.EvalSumsUptoSaid :=
 OpenClaim.holds_of_cond 9 f9 rfl rfl rfl rfl rfl rfl rfl ⟨rfl,rfl,rfl,rfl,rfl⟩ rfl rfl rfl rfl rfl (by as_aux_lemma => kernel_rfl) func9 closed
   (of_decide_eq_true (by as_aux_lemma => kernel_rfl)) (by unfold Func.isWrapper; first | (rw [if_pos (by decide +kernel)]; kernel_rfl) | (rw [if_neg (by decide +kernel)]; exact ⟨rfl,rfl⟩))
   (fun os started H enc _ F => by rw [OpenClaim.pre_eq_preRow]; exact lifted os started H enc F)

set_option maxRecDepth 100000 in
theorem plain (f : FuncId) (fn : Func) (hf : Tryz.pinned.checked.prog.funcNamed "tidewrack/tidewracklaw22.EvalSums" = some f) (QP : Tryz.pinned.checked.prog.funcs[f]? = some fn) :
   true = Tryz.pinned.checked.prog.looks [] ∧ ∀ (j : Nat) t,fn.params[j]? = some t → Tryz.pinned.checked.prog.wantsStandIn t = false := by
 obtain rfl : f = 9 := Option.some.inj ((show prog.funcNamed "tidewrack/tidewracklaw22.EvalSums" = some 9 by kernel_rfl).symm.trans hf) |>.symm
 obtain rfl : fn = f9 := (Option.some.inj (func9.symm.trans QP)).symm
 refine ⟨by kernel_rfl,fun j t ht => ?_⟩
 rw [params9] at ht
 have := Array.mem_of_getElem? ht
 simp only [List.mem_toArray,List.mem_cons,List.not_mem_nil,or_false] at this
 rcases this with rfl | rfl | rfl | rfl
 · exact (show prog.wantsStandIn 23 = false by kernel_rfl)
 · exact (show prog.wantsStandIn 2 = false by kernel_rfl)
 · exact (show prog.wantsStandIn 9 = false by kernel_rfl)
 · exact (show prog.wantsStandIn 9 = false by kernel_rfl)

theorem proved : Rows.EvalSumsUptoCardSaid :=
 Claim7.holds_tied_plain_at .later [] _ _ _ _ said (fun _ h => by cases h) (by as_aux_lemma => kernel_rfl) (fun _ h => by cases h) evalSumsUpto_row_tie rfl ⟨rfl,rfl⟩ (by as_aux_lemma => kernel_rfl) rfl plain (by as_aux_lemma => kernel_rfl)
end Go.Proofs.YtlmhidjgplomgaaGreatDoor.evalSums
