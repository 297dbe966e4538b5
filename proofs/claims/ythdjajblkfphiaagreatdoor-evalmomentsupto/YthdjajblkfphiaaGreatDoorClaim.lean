/-
  The law EvalMoments of the given program answers true for every input that can be read and is of bulk at most 1048576, and what comes in reads behind the call as it did.
-/
import Derived.Test.YthdjajblkfphiaaGreatDoorA8
set_option linter.all false
namespace Go.Proofs.YthdjajblkfphiaaGreatDoor.evalMoments
open Go Tw TwW TwW.Rw Go.ChangeShapes Go.WideShapes Go.ChangeAt Go.RowKit Go.Deep
open Go.Proofs.Tryz (f3 func3 params3)
theorem c1:(Rows.evalMomentsUptoRow.inPlace==prog.inPlace 3)=true:=by kernel_rfl
theorem c2:(Rows.evalMomentsUptoRow.unfollowed==prog.unfollowed 3)=true:=by kernel_rfl
theorem c3:(Rows.evalMomentsUptoRow.recurses==prog.recurses 3)=true:=by kernel_rfl
theorem c4:(Rows.evalMomentsUptoRow.named==prog.varsNamed 3)=true:=by kernel_rfl
theorem closed:joinedFacts prog 3 f3 (Rows.OpenSpec.upto Rows.evalMomentsSpec).bare Rows.evalMomentsUptoRow=true:=
 Bb (Bb (Bb (Bb (Bb (Bb (Bb (Bb (Bb (Bb (Bb (Bb (Bb (Bb (Bb (Bb (Bb (Bb (Bb (Bb (Bb (Bb (Bb (Bb (Bb (Bb (Bb (Bb (Bb (Bb (Bb
  (by as_aux_lemma=>kernel_rfl) laidOut) AKd) (by as_aux_lemma=>kernel_rfl)) (by as_aux_lemma=>kernel_rfl)) rfl) ADK) rfl) ADL) c1) c2) c3) c4)
  (by as_aux_lemma=>kernel_rfl)) (by as_aux_lemma=>kernel_rfl)) (by as_aux_lemma=>kernel_rfl)) (by as_aux_lemma=>kernel_rfl)) (by as_aux_lemma=>kernel_rfl)) (by as_aux_lemma=>kernel_rfl)) (by as_aux_lemma=>kernel_rfl)) (by as_aux_lemma=>kernel_rfl)) (by as_aux_lemma=>kernel_rfl)) keys) rfl) heard) enters) AKe) makes)
  (by as_aux_lemma=>kernel_rfl)) (by as_aux_lemma=>kernel_rfl)) (by as_aux_lemma=>kernel_rfl)) (by as_aux_lemma=>kernel_rfl)

theorem said:Rows.EvalMomentsUptoSaid:=
 OpenClaim.holds_of_cond 3 f3 rfl rfl rfl rfl rfl rfl rfl ⟨rfl,rfl,rfl,rfl,rfl⟩ rfl rfl rfl rfl rfl (by as_aux_lemma=>kernel_rfl) func3 closed
  (AWr (by as_aux_lemma=>kernel_rfl)) (by unfold Func.isWrapper;first|(rw[AWl (by decide +kernel)];kernel_rfl)|(rw[AWj (by decide +kernel)];exact⟨rfl,rfl⟩))
  (fun os started H enc _ F=>by rw[OpenClaim.pre_eq_preRow];exact lifted os started H enc F)

set_option maxRecDepth 100000 in
theorem plain (f : FuncId) (fn : Func) (hf : Tryz.pinned.checked.prog.funcNamed "tidewrack/tidewracklaw22.EvalMoments" = some f) (Q6 : Tryz.pinned.checked.prog.funcs[f]? = some fn) :
   true = Tryz.pinned.checked.prog.looks [] ∧ ∀ (j : Nat) t,fn.params[j]? = some t → Tryz.pinned.checked.prog.wantsStandIn t = false := by
 obtain rfl : f = 3 := Option.some.inj ((show prog.funcNamed "tidewrack/tidewracklaw22.EvalMoments" = some 3 by kernel_rfl).symm.trans hf) |>.symm
 obtain rfl : fn = f3 := (AXF (func3.symm.trans Q6)).symm
 refine ⟨by kernel_rfl,fun j t ht => ?_⟩
 rw [params3] at ht
 have := Array.mem_of_getElem? ht
 simp only [List.mem_toArray,AWo,AXA,AXk] at this
 rcases this with rfl | rfl | rfl | rfl | rfl
 · exact (show prog.wantsStandIn 22 = false by kernel_rfl)
 · exact (show prog.wantsStandIn 23 = false by kernel_rfl)
 · exact (show prog.wantsStandIn 2 = false by kernel_rfl)
 · exact (show prog.wantsStandIn 3 = false by kernel_rfl)
 · exact (show prog.wantsStandIn 2 = false by kernel_rfl)

theorem proved:Rows.EvalMomentsUptoCardSaid:=
 Claim7.holds_tied_plain_at .later [] _ _ _ _ said (fun _ h=>by cases h) (by as_aux_lemma=>kernel_rfl) (fun _ h=>by cases h) evalMomentsUpto_row_tie rfl ⟨rfl,rfl⟩ (by as_aux_lemma=>kernel_rfl) rfl plain (by as_aux_lemma=>kernel_rfl)
end Go.Proofs.YthdjajblkfphiaaGreatDoor.evalMoments
