/-
  The law IngesterFenced of the given program answers true for every input that can be read and is of bulk at most 1048576, and what comes in reads behind the call as it did.
-/
import Derived.Test.YtjmeolpiagdinaaGreatDoorA8
set_option linter.all false
namespace Go.Proofs.YtjmeolpiagdinaaGreatDoor.ingesterFenced
open Go Tw TwW TwW.Rw Go.ChangeShapes Go.WideShapes Go.ChangeAt Go.RowKit Go.Deep
open Go.Proofs.Tryz (f3 func3 params3)
theorem c1:(Rows.ingesterFencedUptoRow.inPlace==prog.inPlace 3)=true:=by kernel_rfl
theorem c2:(Rows.ingesterFencedUptoRow.unfollowed==prog.unfollowed 3)=true:=by kernel_rfl
theorem c3:(Rows.ingesterFencedUptoRow.recurses==prog.recurses 3)=true:=by kernel_rfl
theorem c4:(Rows.ingesterFencedUptoRow.named==prog.varsNamed 3)=true:=by kernel_rfl
theorem closed:joinedFacts prog 3 f3 (Rows.OpenSpec.upto Rows.ingesterFencedSpec).bare Rows.ingesterFencedUptoRow=true:=
 Ck (Ck (Ck (Ck (Ck (Ck (Ck (Ck (Ck (Ck (Ck (Ck (Ck (Ck (Ck (Ck (Ck (Ck (Ck (Ck (Ck (Ck (Ck (Ck (Ck (Ck (Ck (Ck (Ck (Ck (Ck
  (by as_aux_lemma=>kernel_rfl) laidOut) ANh) (by as_aux_lemma=>kernel_rfl)) (by as_aux_lemma=>kernel_rfl)) rfl) AG4) rfl) AG5) c1) c2) c3) c4)
  (by as_aux_lemma=>kernel_rfl)) (by as_aux_lemma=>kernel_rfl)) (by as_aux_lemma=>kernel_rfl)) (by as_aux_lemma=>kernel_rfl)) (by as_aux_lemma=>kernel_rfl)) (by as_aux_lemma=>kernel_rfl)) (by as_aux_lemma=>kernel_rfl)) (by as_aux_lemma=>kernel_rfl)) (by as_aux_lemma=>kernel_rfl)) keys) rfl) heard) enters) ANi) makes)
  (by as_aux_lemma=>kernel_rfl)) (by as_aux_lemma=>kernel_rfl)) (by as_aux_lemma=>kernel_rfl)) (by as_aux_lemma=>kernel_rfl)

theorem said:Rows.IngesterFencedUptoSaid:=
 OpenClaim.holds_of_cond 3 f3 rfl rfl rfl rfl rfl rfl rfl ⟨rfl,rfl,rfl,rfl,rfl⟩ rfl rfl rfl rfl rfl (by as_aux_lemma=>kernel_rfl) func3 closed
  (AfS (by as_aux_lemma=>kernel_rfl)) (by unfold Func.isWrapper;first|(rw[Aex (by decide +kernel)];kernel_rfl)|(rw[Aeu (by decide +kernel)];exact⟨rfl,rfl⟩))
  (λos A H enc _ F=>by rw[OpenClaim.pre_eq_preRow];exact lifted os A H enc F)

set_option maxRecDepth 100000 in
theorem plain (f : FuncId) (fn : Func) (hf : Tryz.pinned.checked.prog.funcNamed "tidewrack/tidewracklaw23.IngesterFenced" = some f) (Tz : Tryz.pinned.checked.prog.funcs[f]? = some fn) :
   true = Tryz.pinned.checked.prog.looks [] /\ ∀ (j : Nat) t,fn.params[j]? = some t -> Tryz.pinned.checked.prog.wantsStandIn t = false := by
 obtain rfl : f = 3 := Option.some.inj ((show prog.funcNamed "tidewrack/tidewracklaw23.IngesterFenced" = some 3 by kernel_rfl).symm.trans hf) |>.symm
 obtain rfl : fn = f3 := (Option.some.inj (func3.symm.trans Tz)).symm
 refine ⟨by kernel_rfl,λj t ht => ?_⟩
 rw [params3] at ht
 have := Array.mem_of_getElem? ht
 simp only [List.mem_toArray,Ae5,Afj,Agd] at this
 rcases this with rfl | rfl | rfl | rfl
 · exact (show prog.wantsStandIn 22 = false by kernel_rfl)
 · exact (show prog.wantsStandIn 23 = false by kernel_rfl)
 · exact (show prog.wantsStandIn 23 = false by kernel_rfl)
 · exact (show prog.wantsStandIn 3 = false by kernel_rfl)

theorem proved:Rows.IngesterFencedUptoCardSaid:=
 Claim7.holds_tied_plain_at .later [] _ _ _ _ said (λ_ h=>by cases h) (by as_aux_lemma=>kernel_rfl) (λ_ h=>by cases h) ingesterFencedUpto_row_tie rfl ⟨rfl,rfl⟩ (by as_aux_lemma=>kernel_rfl) rfl plain (by as_aux_lemma=>kernel_rfl)
end Go.Proofs.YtjmeolpiagdinaaGreatDoor.ingesterFenced
