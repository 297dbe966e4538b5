/-
  The law EvalOver of the given program answers true for every input that can be read and is of bulk at most 1048576, and what comes in reads behind the call as it did.
-/
import Derived.Test.YtlmhidjgplomgaaGreatDoorA6
set_option linter.all false
namespace Go.Proofs.YtlmhidjgplomgaaGreatDoor.evalOver
open Go Tw TwW TwW.Rw Go.ChangeShapes Go.WideShapes Go.ChangeAt Go.RowKit Go.Deep
open Go.Proofs.Tryz (f10 func10 params10)
theorem c1 : (Rows.evalOverUptoRow.inPlace == prog.inPlace 10) = true := by kernel_rfl
theorem c2 : (Rows.evalOverUptoRow.unfollowed == prog.unfollowed 10) = true := by kernel_rfl
theorem c3 : (Rows.evalOverUptoRow.recurses == prog.recurses 10) = true := by kernel_rfl
theorem c4 : (Rows.evalOverUptoRow.named == prog.varsNamed 10) = true := by kernel_rfl
theorem closed : joinedFacts prog 10 f10 (Rows.OpenSpec.upto Rows.evalOverSpec).bare Rows.evalOverUptoRow = true :=
 BU (BU (BU (BU (BU (BU (BU (BU (BU (BU (BU (BU (BU (BU (BU (BU (BU (BU (BU (BU (BU (BU (BU (BU (BU (BU (BU (BU (BU (BU (BU
   (by as_aux_lemma => kernel_rfl) laidOut) AGz) (by as_aux_lemma => kernel_rfl)) (by as_aux_lemma => kernel_rfl)) rfl) AAb) rfl) AAc) c1) c2) c3) c4)
   (by as_aux_lemma => kernel_rfl)) (by as_aux_lemma => kernel_rfl)) (by as_aux_lemma => kernel_rfl)) (by as_aux_lemma => kernel_rfl)) (by as_aux_lemma => kernel_rfl)) (by as_aux_lemma => kernel_rfl)) (by as_aux_lemma => kernel_rfl)) (by as_aux_lemma => kernel_rfl)) (by as_aux_lemma => kernel_rfl)) keys) rfl) heard) enters) AG0) makes)
   (by as_aux_lemma => kernel_rfl)) (by as_aux_lemma => kernel_rfl)) (by as_aux_lemma => kernel_rfl)) (by as_aux_lemma => kernel_rfl)

theorem said : Rows.EvalOverUptoSaid :=
 OpenClaim.holds_of_cond 10 f10 rfl rfl rfl rfl rfl rfl rfl ⟨rfl,rfl,rfl,rfl,rfl⟩ rfl rfl rfl rfl rfl (by as_aux_lemma => kernel_rfl) func10 closed
   (of_decide_eq_true (by as_aux_lemma => kernel_rfl)) (by unfold Func.isWrapper; first | (rw [if_pos (by decide +kernel)]; kernel_rfl) | (rw [if_neg (by decide +kernel)]; exact ⟨rfl,rfl⟩))
   (fun os started H enc _ F => by rw [OpenClaim.pre_eq_preRow]; exact lifted os started H enc F)

set_option maxRecDepth 100000 in
theorem plain (f : FuncId) (fn : Func) (hf : Tryz.pinned.checked.prog.funcNamed "tidewrack/tidewracklaw22.EvalOver" = some f) (P7 : Tryz.pinned.checked.prog.funcs[f]? = some fn) :
   true = Tryz.pinned.checked.prog.looks [] ∧ ∀ (j : Nat) t,fn.params[j]? = some t → Tryz.pinned.checked.prog.wantsStandIn t = false := by
 obtain rfl : f = 10 := Option.some.inj ((show prog.funcNamed "tidewrack/tidewracklaw22.EvalOver" = some 10 by kernel_rfl).symm.trans hf) |>.symm
 obtain rfl : fn = f10 := (Option.some.inj (func10.symm.trans P7)).symm
 refine ⟨by kernel_rfl,fun j t ht => ?_⟩
 rw [params10] at ht
 have := Array.mem_of_getElem? ht
 simp only [List.mem_toArray,List.mem_cons,List.not_mem_nil,or_false] at this
 rcases this with rfl | rfl | rfl
 · exact (show prog.wantsStandIn 38 = false by kernel_rfl)
 · exact (show prog.wantsStandIn 2 = false by kernel_rfl)
 · exact (show prog.wantsStandIn 3 = false by kernel_rfl)

theorem proved : Rows.EvalOverUptoCardSaid :=
 Claim7.holds_tied_plain_at .later [] _ _ _ _ said (fun _ h => by cases h) (by as_aux_lemma => kernel_rfl) (fun _ h => by cases h) evalOverUpto_row_tie rfl ⟨rfl,rfl⟩ (by as_aux_lemma => kernel_rfl) rfl plain (by as_aux_lemma => kernel_rfl)
end Go.Proofs.YtlmhidjgplomgaaGreatDoor.evalOver
