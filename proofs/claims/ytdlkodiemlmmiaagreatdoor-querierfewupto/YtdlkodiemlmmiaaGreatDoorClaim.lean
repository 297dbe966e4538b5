/-
  The law QuerierFew of the given program answers true for every input that can be read and is of bulk at most 1048576, and what comes in reads behind the call as it did.
-/
import Derived.Test.YtdlkodiemlmmiaaGreatDoorA8
set_option linter.all false
namespace Go.Proofs.YtdlkodiemlmmiaaGreatDoor.querierFew
open Go Tw TwW TwW.Rw Go.ChangeShapes Go.WideShapes Go.ChangeAt Go.RowKit Go.Deep
open Go.Proofs.Tryz (f4 func4 params4)
theorem c1:(Rows.querierFewUptoRow.inPlace==prog.inPlace 4)=true:=by kernel_rfl
theorem c2:(Rows.querierFewUptoRow.unfollowed==prog.unfollowed 4)=true:=by kernel_rfl
theorem c3:(Rows.querierFewUptoRow.recurses==prog.recurses 4)=true:=by kernel_rfl
theorem c4:(Rows.querierFewUptoRow.named==prog.varsNamed 4)=true:=by kernel_rfl
theorem closed:joinedFacts prog 4 f4 (Rows.OpenSpec.upto Rows.querierFewSpec).bare Rows.querierFewUptoRow=true:=
 Bj (Bj (Bj (Bj (Bj (Bj (Bj (Bj (Bj (Bj (Bj (Bj (Bj (Bj (Bj (Bj (Bj (Bj (Bj (Bj (Bj (Bj (Bj (Bj (Bj (Bj (Bj (Bj (Bj (Bj (Bj
  (by as_aux_lemma=>kernel_rfl) laidOut) AOg) (by as_aux_lemma=>kernel_rfl)) (by as_aux_lemma=>kernel_rfl)) rfl) AG5) rfl) AG6) c1) c2) c3) c4)
  (by as_aux_lemma=>kernel_rfl)) (by as_aux_lemma=>kernel_rfl)) (by as_aux_lemma=>kernel_rfl)) (by as_aux_lemma=>kernel_rfl)) (by as_aux_lemma=>kernel_rfl)) (by as_aux_lemma=>kernel_rfl)) (by as_aux_lemma=>kernel_rfl)) (by as_aux_lemma=>kernel_rfl)) (by as_aux_lemma=>kernel_rfl)) keys) rfl) heard) enters) AOh) makes)
  (by as_aux_lemma=>kernel_rfl)) (by as_aux_lemma=>kernel_rfl)) (by as_aux_lemma=>kernel_rfl)) (by as_aux_lemma=>kernel_rfl)

theorem said:Rows.QuerierFewUptoSaid:=
 OpenClaim.holds_of_cond 4 f4 rfl rfl rfl rfl rfl rfl rfl ⟨rfl,rfl,rfl,rfl,rfl⟩ rfl rfl rfl rfl rfl (by as_aux_lemma=>kernel_rfl) func4 closed
  (Abm (by as_aux_lemma=>kernel_rfl)) (by unfold Func.isWrapper;first|(rw[Abe (by decide +kernel)];kernel_rfl)|(rw[Abd (by decide +kernel)];exact⟨rfl,rfl⟩))
  (fun os started H enc _ F=>by rw[OpenClaim.pre_eq_preRow];exact lifted os started H enc F)

set_option maxRecDepth 100000 in
theorem plain (f : FuncId) (fn : Func) (hf : Tryz.pinned.checked.prog.funcNamed "tidewrack/tidewracklaw27.QuerierFew" = some f) (Tg : Tryz.pinned.checked.prog.funcs[f]? = some fn) :
   true = Tryz.pinned.checked.prog.looks [] ∧ ∀ (j : Nat) t,fn.params[j]? = some t → Tryz.pinned.checked.prog.wantsStandIn t = false := by
 obtain rfl : f = 4 := Option.some.inj ((show prog.funcNamed "tidewrack/tidewracklaw27.QuerierFew" = some 4 by kernel_rfl).symm.trans hf) |>.symm
 obtain rfl : fn = f4 := (AcX (func4.symm.trans Tg)).symm
 refine ⟨by kernel_rfl,fun j t ht => ?_⟩
 rw [params4] at ht
 have := Ae3 ht
 simp only [List.mem_toArray,Abh,Ab2,Ace] at this
 rcases this with rfl | rfl | rfl
 · exact (show prog.wantsStandIn 3 = false by kernel_rfl)
 · exact (show prog.wantsStandIn 3 = false by kernel_rfl)
 · exact (show prog.wantsStandIn 50 = false by kernel_rfl)

theorem proved:Rows.QuerierFewUptoCardSaid:=
 Claim7.holds_tied_plain_at .later [] _ _ _ _ said (fun _ h=>by cases h) (by as_aux_lemma=>kernel_rfl) (fun _ h=>by cases h) querierFewUpto_row_tie rfl ⟨rfl,rfl⟩ (by as_aux_lemma=>kernel_rfl) rfl plain (by as_aux_lemma=>kernel_rfl)
end Go.Proofs.YtdlkodiemlmmiaaGreatDoor.querierFew
