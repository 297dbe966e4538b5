/-
  The law RingBytes of the given program answers true for every input of bulk at most 1048576, and what comes in reads behind the call as it did.
-/
import Derived.Test.YtggadohfepgdeaaA6
import Derived.Deep.CondSized
set_option linter.all false
set_option linter.unusedVariables false
namespace Go.Proofs.Ytggadohfepgdeaa.ringBytes
open Go Tw TwR Go.ChangeShapes Go.WideShapes Go.ChangeAt Go.RowKit

set_option maxRecDepth 100000 in
theorem lifted (os : Os) (started : os.Started) (H : Type) (enc : TypeId × Value → H) (F : Stop.Interp) :
    ReturnsInHanded {} Try.checked os 4 .any ((Rows.OpenSpec.upto Rows.ringBytesSpec).pre6 enc Try.prog Try.f4 Rows.ringBytesUptoRow.domain false) (((Rows.OpenSpec.upto Rows.ringBytesSpec).at F).post enc Try.prog Try.f4 false true false false) := by
  refine returnsInHanded_of_cond_sized (C := Try.checked) (s := Rows.OpenSpec.upto Rows.ringBytesSpec) (k := Rows.uptoSmall) rfl own started (by kernel_rfl) Try.func4
    (OpenSpec.witness (enc := enc) (C := Try.checked) (s := Rows.OpenSpec.upto Rows.ringBytesSpec) (k := Rows.uptoSmall) rfl false ⟨#[], #[.agg #[.int .u64 0, .slice none 0 0], .slice none 0 0], []⟩ 8 (by kernel_rfl) (by kernel_rfl) (by kernel_rfl)
      (x := ([.agg [.lit (.int .u64 0), .nil], .nil], [], [])) (by kernel_rfl) rfl (by kernel_rfl)) ?_
  intro W base args ds gs before hval0 hW _ hk0 hsz0 _
  have hval : ∀ (j : Nat) t v, Try.f4.params[j]? = some t → args[j]? = some v → Value.okWide Try.prog W .any base t v := hval0
  have hsz : (DataW.weightsEach Try.prog (Try.f4.params.toList ++ []) (ds ++ gs)).all (· ≤ reachBytes) = true := hsz0
  have hW' := hW
  obtain ⟨p, q, hA0, hV, rfl, hfz, hnd⟩ := hW
  have hA : DataW.TrodAll enc Try.prog W 0 (fun _ => true) true Try.f4.params.toList args.toList ds p := hA0
  rw [Try.params4] at hA hval hsz
  obtain ⟨v0, vs0, d0, ds0, p0, q0, hargs, rfl, rfl, h0, r0⟩ := trodAll_cons hA
  obtain ⟨v1, vs1, d1, ds1, p1, q1, rfl, rfl, rfl, h1, r1⟩ := trodAll_cons r0
  obtain ⟨rfl, rfl, rfl⟩ := trodAll_nil r1
  obtain rfl : args = #[v0, v1] := by cases args; simp_all
  obtain ⟨rfl, rfl⟩ := trodVars_none hV
  obtain ⟨e0, pa0, n0, c0, ms0, hR0⟩ := open_ring (hval 0 25 v0 rfl rfl) h0 (sized_of hsz (j := 0) rfl rfl)
  obtain ⟨pa1, n1, c1, xs1, rfl, hr1, hw1, hl1⟩ := open_bytes (hval 1 37 v1 rfl rfl) h1 (sized_of hsz (j := 1) rfl rfl)
  obtain rfl := hR0.val
  exact law_of (by kernel_rfl) rfl rfl ⟨rfl, rfl, rfl⟩ hW' (ringBytes_law hR0.rd hR0.small hR0.toks hR0.epoch hr1 (fun x hx => wf8 (hw1 x hx)) (short_bytes hk0 hl1) fun σ' hx => ⟨rfl, hx⟩)

theorem proved : Rows.RingBytesUptoSaid :=
  OpenClaim.holds_of_cond 4 Try.f4 rfl rfl rfl rfl rfl rfl rfl ⟨rfl, rfl, rfl, rfl, rfl⟩ rfl rfl rfl rfl rfl (by kernel_rfl) Try.func4 (by kernel_rfl)
    (of_decide_eq_true (by kernel_rfl)) (by unfold Func.isWrapper; first | (rw [if_pos (by decide +kernel)]; kernel_rfl) | (rw [if_neg (by decide +kernel)]; exact ⟨rfl, rfl⟩))
    (fun os started H enc _ F => lifted os started H enc F)
end Go.Proofs.Ytggadohfepgdeaa.ringBytes
