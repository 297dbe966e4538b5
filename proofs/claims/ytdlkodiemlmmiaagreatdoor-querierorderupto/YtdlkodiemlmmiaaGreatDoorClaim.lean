/-
  The law QuerierOrder of the given program answers true for every input that can be read and is of bulk at most 1048576, and what comes in reads behind the call as it did.
-/
import Derived.Test.YtdlkodiemlmmiaaGreatDoorA9
set_option linter.all false
namespace Go.Proofs.YtdlkodiemlmmiaaGreatDoor.querierOrder
open Go Tw TwW TwW.Rw Go.ChangeShapes Go.WideShapes Go.ChangeAt Go.RowKit Go.Deep
open Go.Proofs.Tryz (f5 func5 params5)
theorem c1:(Rows.querierOrderUptoRow.inPlace==prog.inPlace 5)=true:=by kernel_rfl
theorem c2:(Rows.querierOrderUptoRow.unfollowed==prog.unfollowed 5)=true:=by kernel_rfl
theorem c3:(Rows.querierOrderUptoRow.recurses==prog.recurses 5)=true:=by kernel_rfl
theorem c4:(Rows.querierOrderUptoRow.named==prog.varsNamed 5)=true:=by kernel_rfl
theorem closed:joinedFacts prog 5 f5 (Rows.OpenSpec.upto Rows.querierOrderSpec).bare Rows.querierOrderUptoRow=true:=
 Cd (Cd (Cd (Cd (Cd (Cd (Cd (Cd (Cd (Cd (Cd (Cd (Cd (Cd (Cd (Cd (Cd (Cd (Cd (Cd (Cd (Cd (Cd (Cd (Cd (Cd (Cd (Cd (Cd (Cd (Cd
  (by as_aux_lemma=>kernel_rfl) laidOut) AUa) (by as_aux_lemma=>kernel_rfl)) (by as_aux_lemma=>kernel_rfl)) rfl) AMO) rfl) AMP) c1) c2) c3) c4)
  (by as_aux_lemma=>kernel_rfl)) (by as_aux_lemma=>kernel_rfl)) (by as_aux_lemma=>kernel_rfl)) (by as_aux_lemma=>kernel_rfl)) (by as_aux_lemma=>kernel_rfl)) (by as_aux_lemma=>kernel_rfl)) (by as_aux_lemma=>kernel_rfl)) (by as_aux_lemma=>kernel_rfl)) (by as_aux_lemma=>kernel_rfl)) keys) rfl) heard) enters) AUb) makes)
  (by as_aux_lemma=>kernel_rfl)) (by as_aux_lemma=>kernel_rfl)) (by as_aux_lemma=>kernel_rfl)) (by as_aux_lemma=>kernel_rfl)

theorem said:Rows.QuerierOrderUptoSaid:=
 OpenClaim.holds_of_cond 5 f5 rfl rfl rfl rfl rfl rfl rfl ⟨rfl,rfl,rfl,rfl,rfl⟩ rfl rfl rfl rfl rfl (by as_aux_lemma=>kernel_rfl) func5 closed
  (Ajx (by as_aux_lemma=>kernel_rfl)) (by unfold Func.isWrapper;first|(rw[Ajl (by decide +kernel)];kernel_rfl)|(rw[Ajj (by decide +kernel)];exact⟨rfl,rfl⟩))
  (λos G H enc _ F=>by rw[OpenClaim.pre_eq_preRow];exact lifted os G H enc F)

set_option maxRecDepth 100000 in
theorem plain (f : FuncId) (fn : Func) (hf : Tryz.pinned.checked.prog.funcNamed "tidewrack/tidewracklaw27.QuerierOrder" = some f) (Vu : Tryz.pinned.checked.prog.funcs[f]? = some fn) :
   true = Tryz.pinned.checked.prog.looks [] /\ ∀ (j : Nat) t,fn.params[j]? = some t -> Tryz.pinned.checked.prog.wantsStandIn t = false := by
 obtain rfl : f = 5 := Option.some.inj ((show prog.funcNamed "tidewrack/tidewracklaw27.QuerierOrder" = some 5 by kernel_rfl).symm.trans hf) |>.symm
 obtain rfl : fn = f5 := (Akj (func5.symm.trans Vu)).symm
 refine ⟨by kernel_rfl,λj t ht => ?_⟩
 rw [params5] at ht
 have := Array.mem_of_getElem? ht
 simp only [List.mem_toArray,Ajo,Aj7,Akc] at this
 rcases this with rfl | rfl | rfl | rfl | rfl | rfl
 · exact (show prog.wantsStandIn 9 = false by kernel_rfl)
 · exact (show prog.wantsStandIn 2 = false by kernel_rfl)
 · exact (show prog.wantsStandIn 22 = false by kernel_rfl)
 · exact (show prog.wantsStandIn 22 = false by kernel_rfl)
 · exact (show prog.wantsStandIn 22 = false by kernel_rfl)
 · exact (show prog.wantsStandIn 43 = false by kernel_rfl)

theorem proved:Rows.QuerierOrderUptoCardSaid:=
 Claim7.holds_tied_plain_at .later [] _ _ _ _ said (λ_ h=>by cases h) (by as_aux_lemma=>kernel_rfl) (λ_ h=>by cases h) querierOrderUpto_row_tie rfl ⟨rfl,rfl⟩ (by as_aux_lemma=>kernel_rfl) rfl plain (by as_aux_lemma=>kernel_rfl)
end Go.Proofs.YtdlkodiemlmmiaaGreatDoor.querierOrder
