/-
  The law EvalInstants of the given program answers true for every input that can be read and is of bulk at most 1048576, and what comes in reads behind the call as it did.
-/
import Derived.Test.YtamakbhlhpaiiaaGreatDoorA9
set_option linter.all false
namespace Go.Proofs.YtamakbhlhpaiiaaGreatDoor.evalInstants
open Go Tw TwW TwW.Rw Go.ChangeShapes Go.WideShapes Go.ChangeAt Go.RowKit Go.Deep
open Go.Proofs.Tryz (f3 func3 params3)
theorem c1:(Rows.evalInstantsUptoRow.inPlace==prog.inPlace 3)=true:=by kernel_rfl
theorem c2:(Rows.evalInstantsUptoRow.unfollowed==prog.unfollowed 3)=true:=by kernel_rfl
theorem c3:(Rows.evalInstantsUptoRow.recurses==prog.recurses 3)=true:=by kernel_rfl
theorem c4:(Rows.evalInstantsUptoRow.named==prog.varsNamed 3)=true:=by kernel_rfl
theorem closed:joinedFacts prog 3 f3 (Rows.OpenSpec.upto Rows.evalInstantsSpec).bare Rows.evalInstantsUptoRow=true:=
 DG (DG (DG (DG (DG (DG (DG (DG (DG (DG (DG (DG (DG (DG (DG (DG (DG (DG (DG (DG (DG (DG (DG (DG (DG (DG (DG (DG (DG (DG (DG
  (by as_aux_lemma=>kernel_rfl) laidOut) ATm) (by as_aux_lemma=>kernel_rfl)) (by as_aux_lemma=>kernel_rfl)) rfl) AK0) rfl) AK1) c1) c2) c3) c4)
  (by as_aux_lemma=>kernel_rfl)) (by as_aux_lemma=>kernel_rfl)) (by as_aux_lemma=>kernel_rfl)) (by as_aux_lemma=>kernel_rfl)) (by as_aux_lemma=>kernel_rfl)) (by as_aux_lemma=>kernel_rfl)) (by as_aux_lemma=>kernel_rfl)) (by as_aux_lemma=>kernel_rfl)) (by as_aux_lemma=>kernel_rfl)) keys) rfl) heard) enters) ATn) makes)
  (by as_aux_lemma=>kernel_rfl)) (by as_aux_lemma=>kernel_rfl)) (by as_aux_lemma=>kernel_rfl)) (by as_aux_lemma=>kernel_rfl)

theorem said:Rows.EvalInstantsUptoSaid:=
 OpenClaim.holds_of_cond 3 f3 rfl rfl rfl rfl rfl rfl rfl ⟨rfl,rfl,rfl,rfl,rfl⟩ rfl rfl rfl rfl rfl (by as_aux_lemma=>kernel_rfl) func3 closed
  (AiP (by as_aux_lemma=>kernel_rfl)) (by unfold Func.isWrapper;first|(rw[AiL (by decide +kernel)];kernel_rfl)|(rw[AiK (by decide +kernel)];exact⟨rfl,rfl⟩))
  (fun os started H enc _ F=>by rw[OpenClaim.pre_eq_preRow];exact lifted os started H enc F)

set_option maxRecDepth 100000 in
theorem plain (f : FuncId) (fn : Func) (hf : Tryz.pinned.checked.prog.funcNamed "tidewrack/tidewracklaw22.EvalInstants" = some f) (VX : Tryz.pinned.checked.prog.funcs[f]? = some fn) :
   true = Tryz.pinned.checked.prog.looks [] ∧ ∀ (j : Nat) t,fn.params[j]? = some t → Tryz.pinned.checked.prog.wantsStandIn t = false := by
 obtain rfl : f = 3 := Option.some.inj ((show prog.funcNamed "tidewrack/tidewracklaw22.EvalInstants" = some 3 by kernel_rfl).symm.trans hf) |>.symm
 obtain rfl : fn = f3 := (Aij (func3.symm.trans VX)).symm
 refine ⟨by kernel_rfl,fun j t ht => ?_⟩
 rw [params3] at ht
 have := Array.mem_of_getElem? ht
 simp only [List.mem_toArray,AiT,Air,or_false] at this
 rcases this with rfl | rfl | rfl
 · exact (show prog.wantsStandIn 22 = false by kernel_rfl)
 · exact (show prog.wantsStandIn 23 = false by kernel_rfl)
 · exact (show prog.wantsStandIn 2 = false by kernel_rfl)

theorem proved:Rows.EvalInstantsUptoCardSaid:=
 Claim7.holds_tied_plain_at .later [] _ _ _ _ said (fun _ h=>by cases h) (by as_aux_lemma=>kernel_rfl) (fun _ h=>by cases h) evalInstantsUpto_row_tie rfl ⟨rfl,rfl⟩ (by as_aux_lemma=>kernel_rfl) rfl plain (by as_aux_lemma=>kernel_rfl)
end Go.Proofs.YtamakbhlhpaiiaaGreatDoor.evalInstants
