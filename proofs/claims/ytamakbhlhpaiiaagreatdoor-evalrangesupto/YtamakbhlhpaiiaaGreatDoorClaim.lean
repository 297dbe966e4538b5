/-
  The law EvalRanges of the given program answers true for every input that can be read and is of bulk at most 1048576, and what comes in reads behind the call as it did.
-/
import Derived.Test.YtamakbhlhpaiiaaGreatDoorA10
set_option linter.all false
namespace Go.Proofs.YtamakbhlhpaiiaaGreatDoor.evalRanges
open Go Tw TwW TwW.Rw Go.ChangeShapes Go.WideShapes Go.ChangeAt Go.RowKit Go.Deep
open Go.Proofs.Tryz (f4 func4 params4)
theorem c1:(Rows.evalRangesUptoRow.inPlace==prog.inPlace 4)=true:=by kernel_rfl
theorem c2:(Rows.evalRangesUptoRow.unfollowed==prog.unfollowed 4)=true:=by kernel_rfl
theorem c3:(Rows.evalRangesUptoRow.recurses==prog.recurses 4)=true:=by kernel_rfl
theorem c4:(Rows.evalRangesUptoRow.named==prog.varsNamed 4)=true:=by kernel_rfl
theorem closed:joinedFacts prog 4 f4 (Rows.OpenSpec.upto Rows.evalRangesSpec).bare Rows.evalRangesUptoRow=true:=
 DT (DT (DT (DT (DT (DT (DT (DT (DT (DT (DT (DT (DT (DT (DT (DT (DT (DT (DT (DT (DT (DT (DT (DT (DT (DT (DT (DT (DT (DT (DT
  (by as_aux_lemma=>kernel_rfl) laidOut) AYI) (by as_aux_lemma=>kernel_rfl)) (by as_aux_lemma=>kernel_rfl)) rfl) AOw) rfl) AOx) c1) c2) c3) c4)
  (by as_aux_lemma=>kernel_rfl)) (by as_aux_lemma=>kernel_rfl)) (by as_aux_lemma=>kernel_rfl)) (by as_aux_lemma=>kernel_rfl)) (by as_aux_lemma=>kernel_rfl)) (by as_aux_lemma=>kernel_rfl)) (by as_aux_lemma=>kernel_rfl)) (by as_aux_lemma=>kernel_rfl)) (by as_aux_lemma=>kernel_rfl)) keys) rfl) heard) enters) AYJ) makes)
  (by as_aux_lemma=>kernel_rfl)) (by as_aux_lemma=>kernel_rfl)) (by as_aux_lemma=>kernel_rfl)) (by as_aux_lemma=>kernel_rfl)

theorem said:Rows.EvalRangesUptoSaid:=
 OpenClaim.holds_of_cond 4 f4 rfl rfl rfl rfl rfl rfl rfl ⟨rfl,rfl,rfl,rfl,rfl⟩ rfl rfl rfl rfl rfl (by as_aux_lemma=>kernel_rfl) func4 closed
  (Amg (by as_aux_lemma=>kernel_rfl)) (by unfold Func.isWrapper;first|(rw[Amc (by decide +kernel)];kernel_rfl)|(rw[Amb (by decide +kernel)];exact⟨rfl,rfl⟩))
  (λos A H enc _ F=>by rw[OpenClaim.pre_eq_preRow];exact lifted os A H enc F)

set_option maxRecDepth 100000 in
theorem plain (f : FuncId) (fn : Func) (hf : Tryz.pinned.checked.prog.funcNamed "tidewrack/tidewracklaw22.EvalRanges" = some f) (XE : Tryz.pinned.checked.prog.funcs[f]? = some fn) :
   true = Tryz.pinned.checked.prog.looks [] /\ ∀ (j : Nat) t,fn.params[j]? = some t -> Tryz.pinned.checked.prog.wantsStandIn t = false := by
 obtain rfl : f = 4 := Option.some.inj ((show prog.funcNamed "tidewrack/tidewracklaw22.EvalRanges" = some 4 by kernel_rfl).symm.trans hf) |>.symm
 obtain rfl : fn = f4 := (Am1 (func4.symm.trans XE)).symm
 refine ⟨by kernel_rfl,λj t ht => ?_⟩
 rw [params4] at ht
 have := Array.mem_of_getElem? ht
 simp only [List.mem_toArray,Aml,AnF,Anp] at this
 rcases this with rfl | rfl | rfl | rfl | rfl
 · exact (show prog.wantsStandIn 22 = false by kernel_rfl)
 · exact (show prog.wantsStandIn 23 = false by kernel_rfl)
 · exact (show prog.wantsStandIn 2 = false by kernel_rfl)
 · exact (show prog.wantsStandIn 2 = false by kernel_rfl)
 · exact (show prog.wantsStandIn 2 = false by kernel_rfl)

theorem proved:Rows.EvalRangesUptoCardSaid:=
 Claim7.holds_tied_plain_at .later [] _ _ _ _ said (λ_ h=>by cases h) (by as_aux_lemma=>kernel_rfl) (λ_ h=>by cases h) evalRangesUpto_row_tie rfl ⟨rfl,rfl⟩ (by as_aux_lemma=>kernel_rfl) rfl plain (by as_aux_lemma=>kernel_rfl)
end Go.Proofs.YtamakbhlhpaiiaaGreatDoor.evalRanges
