/-
  The law KvMany of the given program answers true for every input that can be read and is of bulk at most 1048576, and what comes in reads behind the call as it did.
-/
import Derived.Test.YtchjlpgaanjafaaGreatDoorA6
set_option linter.all false
set_option linter.unusedVariables false
namespace Go.Proofs.YtchjlpgaanjafaaGreatDoor.kvMany
open Go Tw TwW TwW.Rw Go.ChangeShapes Go.WideShapes Go.ChangeAt Go.RowKit
open Go.Proofs.Tryz (f9 func9 params9)

theorem reads (os : Os) {H : Type} (enc : TypeId × Value → H) : ∃ places, DataW.whole enc prog ((laidWorld os).forCall (fun _ _ => 0) ⟨#[], #[.int .i64 0, .slice none 0 0], []⟩).memory f9.params.toList Rows.kvManySpec.vars false (#[.int .i64 0, .slice none 0 0] : Array Value).toList 8 = some ([.lit (.int .i64 0), .nil], [], places) :=
  ⟨[], by kernel_rfl⟩

set_option maxRecDepth 100000 in
theorem lifted (os : Os) (started : os.Started) (H : Type) (enc : TypeId × Value → H) (F : Stop.Interp) :
    ReturnsInHanded {} Go.Proofs.Tryz.checked os 9 .any ((Rows.OpenSpec.upto Rows.kvManySpec).preRow enc prog f9 Rows.kvManyUptoRow.domain false Rows.kvManyUptoRow.laid) (((Rows.OpenSpec.upto Rows.kvManySpec).at F).post enc prog f9 false true false false) := by
  obtain ⟨places, hx⟩ := reads os enc
  refine returnsInHanded_of_row (C := Go.Proofs.Tryz.checked) (s := Rows.OpenSpec.upto Rows.kvManySpec) own started (by kernel_rfl) func9
    (witness_row_atRef (enc := enc) (C := Go.Proofs.Tryz.checked) false (laidWorld os) #[.int .i64 0, .slice none 0 0] rfl (by kernel_rfl) (by kernel_rfl) (by kernel_rfl)
      (OpenSpec.preRow_of_cond 8 hx (by kernel_rfl) (fun k hk => by cases hk; kernel_rfl) (by kernel_rfl) (laid_met os _))) ?_
  intro W base args ds gs before hval0 hW _ hcond _ hL _ _
  have hval : ∀ (j : Nat) t v, f9.params[j]? = some t → args[j]? = some v → Value.okWide prog W .any base t v := hval0
  have hk := of_decide_eq_true (hcond _ rfl)
  have hW' := hW
  obtain ⟨p, q, hA0, hV, rfl, hfz, hnd⟩ := hW
  have hA : DataW.TrodAll enc prog W 0 (fun _ => true) true f9.params.toList args.toList ds p := hA0
  rw [params9] at hA hval
  obtain ⟨v0, vs0, d0, ds0, p0, q0, hargs, rfl, rfl, h0, r0⟩ := trodAll_cons hA
  obtain ⟨v1, vs1, d1, ds1, p1, q1, rfl, rfl, rfl, h1, r1⟩ := trodAll_cons r0
  obtain ⟨rfl, rfl, rfl⟩ := trodAll_nil r1
  obtain rfl : args = #[v0, v1] := by cases args; simp_all
  obtain ⟨rfl, rfl⟩ := trodVars_none hV
  simp only [List.append_nil, Rows.uptoBulkAll] at hk
  have hp0 := bulk_pos d0
  have hp1 := bulk_pos d1
  obtain ⟨x0, rfl, rfl, _, w0⟩ := open_int Go.Proofs.Tryz.underlying3 (hval 0 3 v0 rfl rfl) h0
  obtain ⟨pa1, n1, c1, xs1, rfl, hc1, hr1, h81, hz1⟩ := open_by (hval 1 23 v1 rfl rfl) h1 (by omega)
  have hn1 := hr1.1
  exact law_of (by kernel_rfl) rfl rfl ⟨rfl, rfl, rfl⟩ hW' ((kvMany_spec (tb_of hL) hr1 h81 fun σ' hx => ⟨rfl, hx⟩))

theorem said : Rows.KvManyUptoSaid :=
  OpenClaim.holds_of_cond 9 f9 rfl rfl rfl rfl rfl rfl rfl ⟨rfl, rfl, rfl, rfl, rfl⟩ rfl rfl rfl rfl rfl (by kernel_rfl) func9 (by kernel_rfl)
    (of_decide_eq_true (by kernel_rfl)) (by unfold Func.isWrapper; first | (rw [if_pos (by decide +kernel)]; kernel_rfl) | (rw [if_neg (by decide +kernel)]; exact ⟨rfl, rfl⟩))
    (fun os started H enc _ F => by rw [OpenClaim.pre_eq_preRow]; exact lifted os started H enc F)

set_option maxRecDepth 100000 in
theorem plain (f : FuncId) (fn : Func) (hf : Tryz.pinned.checked.prog.funcNamed "tidewrack/tidewracklaw12.KvMany" = some f) (hfn : Tryz.pinned.checked.prog.funcs[f]? = some fn) :
    true = Tryz.pinned.checked.prog.looks [] ∧ ∀ (j : Nat) t, fn.params[j]? = some t → Tryz.pinned.checked.prog.wantsStandIn t = false := by
  obtain rfl : f = 9 := Option.some.inj ((show prog.funcNamed "tidewrack/tidewracklaw12.KvMany" = some 9 by kernel_rfl).symm.trans hf) |>.symm
  obtain rfl : fn = f9 := (Option.some.inj (func9.symm.trans hfn)).symm
  refine ⟨by kernel_rfl, fun j t ht => ?_⟩
  rw [params9] at ht
  have := Array.mem_of_getElem? ht
  simp only [List.mem_toArray, List.mem_cons, List.not_mem_nil, or_false] at this
  rcases this with rfl | rfl
  · exact (show prog.wantsStandIn 3 = false by kernel_rfl)
  · exact (show prog.wantsStandIn 23 = false by kernel_rfl)

theorem proved : Rows.KvManyUptoCardSaid :=
  Claim7.holds_tied_plain_at .later [] _ _ _ _ said (fun _ h => by cases h) (by kernel_rfl) (fun _ h => by cases h) kvManyUpto_row_tie rfl ⟨rfl, rfl⟩ (by kernel_rfl) rfl plain (by kernel_rfl)
end Go.Proofs.YtchjlpgaanjafaaGreatDoor.kvMany
