/-
  The law QuerierSem of the given program answers true for every input that can be read and is of bulk at most 1048576, and what comes in reads behind the call as it did.
-/
import Derived.Test.YtdlkodiemlmmiaaGreatDoorA9
set_option linter.all false
namespace Go.Proofs.YtdlkodiemlmmiaaGreatDoor.querierSem
open Go Tw TwW TwW.Rw Go.ChangeShapes Go.WideShapes Go.ChangeAt Go.RowKit Go.Deep
open Go.Proofs.Tryz (f3 func3 params3)
theorem c1:(Rows.querierSemUptoRow.inPlace==prog.inPlace 3)=true:=by kernel_rfl
theorem c2:(Rows.querierSemUptoRow.unfollowed==prog.unfollowed 3)=true:=by kernel_rfl
theorem c3:(Rows.querierSemUptoRow.recurses==prog.recurses 3)=true:=by kernel_rfl
theorem c4:(Rows.querierSemUptoRow.named==prog.varsNamed 3)=true:=by kernel_rfl
theorem closed:joinedFacts prog 3 f3 (Rows.OpenSpec.upto Rows.querierSemSpec).bare Rows.querierSemUptoRow=true:=
 Cb (Cb (Cb (Cb (Cb (Cb (Cb (Cb (Cb (Cb (Cb (Cb (Cb (Cb (Cb (Cb (Cb (Cb (Cb (Cb (Cb (Cb (Cb (Cb (Cb (Cb (Cb (Cb (Cb (Cb (Cb
  (by as_aux_lemma=>kernel_rfl) laidOut) AT3) (by as_aux_lemma=>kernel_rfl)) (by as_aux_lemma=>kernel_rfl)) rfl) ALq) rfl) ALr) c1) c2) c3) c4)
  (by as_aux_lemma=>kernel_rfl)) (by as_aux_lemma=>kernel_rfl)) (by as_aux_lemma=>kernel_rfl)) (by as_aux_lemma=>kernel_rfl)) (by as_aux_lemma=>kernel_rfl)) (by as_aux_lemma=>kernel_rfl)) (by as_aux_lemma=>kernel_rfl)) (by as_aux_lemma=>kernel_rfl)) (by as_aux_lemma=>kernel_rfl)) keys) rfl) heard) enters) AT4) makes)
  (by as_aux_lemma=>kernel_rfl)) (by as_aux_lemma=>kernel_rfl)) (by as_aux_lemma=>kernel_rfl)) (by as_aux_lemma=>kernel_rfl)

theorem said:Rows.QuerierSemUptoSaid:=
 OpenClaim.holds_of_cond 3 f3 rfl rfl rfl rfl rfl rfl rfl ⟨rfl,rfl,rfl,rfl,rfl⟩ rfl rfl rfl rfl rfl (by as_aux_lemma=>kernel_rfl) func3 closed
  (AjA (by as_aux_lemma=>kernel_rfl)) (by unfold Func.isWrapper;first|(rw[Aiy (by decide +kernel)];kernel_rfl)|(rw[Aiw (by decide +kernel)];exact⟨rfl,rfl⟩))
  (λos G H enc _ F=>by rw[OpenClaim.pre_eq_preRow];exact lifted os G H enc F)

set_option maxRecDepth 100000 in
theorem plain (f : FuncId) (fn : Func) (hf : Tryz.pinned.checked.prog.funcNamed "tidewrack/tidewracklaw27.QuerierSem" = some f) (Vj : Tryz.pinned.checked.prog.funcs[f]? = some fn) :
   true = Tryz.pinned.checked.prog.looks [] /\ ∀ (j : Nat) t,fn.params[j]? = some t -> Tryz.pinned.checked.prog.wantsStandIn t = false := by
 obtain rfl : f = 3 := Option.some.inj ((show prog.funcNamed "tidewrack/tidewracklaw27.QuerierSem" = some 3 by kernel_rfl).symm.trans hf) |>.symm
 obtain rfl : fn = f3 := (Ajv (func3.symm.trans Vj)).symm
 refine ⟨by kernel_rfl,λj t ht => ?_⟩
 rw [params3] at ht
 have := Array.mem_of_getElem? ht
 simp only [List.mem_toArray,Ai1,AjK,Ajl] at this
 rcases this with rfl | rfl | rfl | rfl | rfl | rfl
 · exact (show prog.wantsStandIn 9 = false by kernel_rfl)
 · exact (show prog.wantsStandIn 2 = false by kernel_rfl)
 · exact (show prog.wantsStandIn 22 = false by kernel_rfl)
 · exact (show prog.wantsStandIn 22 = false by kernel_rfl)
 · exact (show prog.wantsStandIn 22 = false by kernel_rfl)
 · exact (show prog.wantsStandIn 2 = false by kernel_rfl)

theorem proved:Rows.QuerierSemUptoCardSaid:=
 Claim7.holds_tied_plain_at .later [] _ _ _ _ said (λ_ h=>by cases h) (by as_aux_lemma=>kernel_rfl) (λ_ h=>by cases h) querierSemUpto_row_tie rfl ⟨rfl,rfl⟩ (by as_aux_lemma=>kernel_rfl) rfl plain (by as_aux_lemma=>kernel_rfl)
end Go.Proofs.YtdlkodiemlmmiaaGreatDoor.querierSem
