/-
  Part 5 of the proof that the law EvalShapeUptoCardSaid of the given program answers true for every input of the given statement; the input reads behind the call as it did. (The texts: IN4 IO4 LW4 AK4 AW4 AR4 AS4 AX4 IA4 LD4 LG4 LE4 IG4 IC4 JA4 PS4 TS4 JT4.)
-/
import Derived.Test.YtfjmoojdchmakaaGreatDoorA4
import Derived.Test.YtfjmoojdchmakaaGreatDoorCards
import Derived.Test.YtfjmoojdchmakaaGreatDoorTie
import Derived.WalkKit
import Derived.ProofKit
import Derived.OpenShut
import Derived.Deep.DeepHandedRow
import Derived.Stop.LaidErr
import Derived.Shelf.Vars
import Derived.Deep.DeepWitnessRowRef
import Derived.Deep.DeepLaidRun
import Derived.Lib.LaidTab
import Derived.LaidLaws
import Derived.Laws.FloatBits
set_option linter.all false
section
namespace Tw
open Go Go.RowKit Go.ChangeShapes Go.WideShapes Go.Deep
theorem full_sat (w : World) : Sat (full w) w := fun _ _ h => h
theorem below_of {w w' : World} {σ' : Hp} (hx : Ext (full w) σ') (hs : Sat σ' w') (ho : SameOs w w') (hout : w'.output = w.output) (hg : w.heap.size ≤ w'.heap.size) : Below w.heap.size w w' :=
  ⟨ho.1, ho.2.1, hout, hg, fun k hk => by
    have h1 : w.heap[k]? = some w.heap[k] := Array.getElem?_eq_getElem hk
    rw [h1]; exact hs _ _ (hx _ _ h1)⟩
theorem Lawful.calls {P : Program} {f : FuncId} {args : Array Value} {w : World} (h : Lawful P f args w) : Calls P f args w fun e w' => e = .returned (.bool true) ∧ Below w.heap.size w w' :=
  (h w (fun _ => False) (full_sat w) (fun _ h => h.elim)).mono fun e w' ⟨σ', ⟨he, hx⟩, hf⟩ => ⟨he, below_of hx hf.sat hf.os hf.out hf.grow⟩
theorem LdL.snoc {σ : Hp} {b : Nat} : ∀ {l m : List Value} {o : Nat}, LdL σ b o l → LdL σ b (o + l.length) m → LdL σ b o (l ++ m)
  | [], m, o, _, h => by simpa using h
  | v :: l, m, o, h, h' => ⟨h.1, LdL.snoc h.2 (by simpa [Nat.add_assoc, Nat.add_comm 1] using h')⟩
end Tw
end
section
namespace TwW
open Go Tw Go.RowKit Go.Proofs.Tryz
def asksE (T : List Nd) (ss : List Sr) : Int := match tyOf T with
  | none => 220
  | some k => if k = 3 then 220 else if okSs none ss = true then 0 else 224
def instF (T : List Nd) (ss : List Sr) (t : Int) : Int × List El :=
  if asksE T ss ≠ 0 then (asksE T ss, []) else if ¬ (-1099511627776 ≤ t ∧ t ≤ 1099511627776) then (221, []) else match momentF FF T ss t with
    | none => (223, [])
    | some l => (0, l)
structure Modest (T : List Nd) (ss : List Sr) : Prop where
  t : T.length ≤ 2000000
  tx : ∀ x ∈ T, x.text.size ≤ 4611686018427387904
  s : ss.length ≤ 10000000
  ps : ∀ s ∈ ss, s.ps.length ≤ 1000000000
  nn : ∀ s ∈ ss, ∀ p ∈ s.ps, 0 ≤ p.2
theorem okSs_mem : ∀ {ss : List Sr} {q : Option (List Lb)}, okSs q ss = true → ∀ s ∈ ss, chkL s.ls = 0 ∧ risF s.ps = true
  | s :: l, q, h, x, hx => by
    rw [okSs_cons] at h
    simp only [Bool.and_eq_true, decide_eq_true_eq] at h
    rcases List.mem_cons.1 hx with rfl | hx
    · exact ⟨h.1.1.1, h.1.1.2⟩
    · exact okSs_mem h.2 x hx
theorem SsG.of {T : List Nd} {ss : List Sr} (hM : Modest T ss) (h : okSs none ss = true) : SsG ss :=
  ⟨⟨fun s hs => risF_pair (okSs_mem h s hs).2, fun s hs => SmallL.of (okSs_mem h s hs).1, hM.s⟩, hM.nn, hM.ps⟩
section
variable {σ σ' σ0 : Hp} {R : Ending → Hp → Prop}
theorem moment_spec {p q : Option Addr} {n c m d : Nat} {T : List Nd} {ss : List Sr} {t kf : Int} (hg : Gl σ) (hr : RdS 10 ENd σ p n T) (hs : RdS 2 ESr σ q m ss) (hS : SsG ss) (hn : n ≤ 4096) (ht : -4611686018427387904 ≤ t ∧ t ≤ 4611686018427387904) (hty : tyRun T [] = some [kf])
    (h : ∀ l p' n' c' σ', momentF FF T ss t = some l → Ext σ σ' → RdS 2 EEl σ' p' n' l → R (.returned (.tuple #[.slice p' n' c', .int .i64 0])) σ') (h' : momentF FF T ss t = none → ∀ σ', Ext σ σ' → R (.returned (.tuple #[.slice none 0 0, .int .i64 223])) σ') :
    Spec prog 12 #[.slice p n c, .slice q m d, .int .i64 t] σ R := by
  refine eval_moment.start fun ab hab => ?_
  have xa := Ext.set (o := .cells #[.slice q m d, .int .i64 t] 83 (0, 0)) hab
  have hA : AskAt (σ.set ab (.cells #[.slice q m d, .int .i64 t] 83 (0, 0))) ab ss t := ⟨⟨q, m, d, ld_of (Hp.set_same _ _ _) rfl, hs.mono ESr.mono xa⟩, ld_of (Hp.set_same _ _ _) rfl⟩
  refine run_spec hA (hg.mono xa) (hr.mono ENd.mono xa) hS hn ht hty ⟨fun x σ1 pv nv cv qv mv dv hx hx1 h1 h2 => ?_, fun hno σ1 hx1 => ?_⟩
  · have hm : momentF FF T ss t = some (if x.kind = 1 then [⟨[], x.v⟩] else x.vec) := by
      unfold momentF
      cases hrun : runF FF ss t T [] with
      | none => rw [hrun] at hx; cases hx
      | some st =>
        rw [hrun] at hx
        show (st.head?.map _) = _
        rw [show st.head? = some x from hx]; rfl
    refine ⟨_, _, _, _, _, _, _, _, _, rfl, fun _ => ⟨fun hk => fun b25 hb25 => eval_moment.pt11_of ?_, fun hk => eval_moment.pt11_of ?_⟩⟩
    · rw [if_pos hk] at hm
      refine h _ _ _ _ _ hm (xa.trans (hx1.trans (.set hb25))) ⟨rfl, [.slice none 0 0, .int .u64 x.v], ⟨rfl, by omega, .inr ⟨b25, 0, rfl, LdL.of_cells (c := [.slice none 0 0, .int .u64 x.v]) (Hp.set_same _ _ _)⟩⟩, rfl, fun i y hy => ?_⟩
      cases i with
      | zero =>
        simp only [List.getElem?_cons_zero, Option.some.injEq] at hy
        subst hy
        exact ⟨none, 0, 0, rfl, RdS.nil⟩
      | succ i => simp at hy
    · rw [if_neg hk] at hm
      exact h _ _ _ _ _ hm (xa.trans hx1) h1
  · have hm : momentF FF T ss t = none := by
      unfold momentF
      cases hrun : runF FF ss t T [] with
      | none => rfl
      | some st =>
        rw [hrun] at hno
        show (st.head?.map _) = _
        rw [show st.head? = none from hno]; rfl
    exact ⟨_, _, _, _, _, _, _, _, _, rfl, fun _ => ⟨fun hk => absurd hk (by decide), fun _ => eval_moment.pt11_of (h' hm _ (xa.trans hx1))⟩⟩
theorem asks_spec {p q : Option Addr} {n c m d : Nat} {T : List Nd} {ss : List Sr} (hr : RdS 10 ENd σ p n T) (hs : RdS 2 ESr σ q m ss) (hM : Modest T ss) (h : ∀ σ', Ext σ σ' → R (.returned (.int .i64 (asksE T ss))) σ') : Spec prog 10 #[.slice p n c, .slice q m d] σ R := by
  have hl : T.length = n := hr.1
  have hMt := hM.t
  refine eval_asks.start (check_spec hr (by omega) hM.tx (fun k σ1 hk hx1 => ⟨_, _, _, rfl, fun hh => absurd rfl hh, fun _ => ⟨fun h3 => ?_, fun h3 => sCheck_spec (hs.mono ESr.mono hx1) fun σ2 hx2 => ⟨_, rfl, fun hne => ?_, fun h0 => ?_⟩⟩⟩) fun k j e σ1 hk he hx1 => ⟨_, _, _, rfl, fun _ => ?_, fun hh => absurd he hh⟩)
  · have := h σ1 hx1
    rwa [show asksE T ss = 220 by unfold asksE; rw [hk]; exact if_pos h3] at this
  · have := h σ2 (hx1.trans hx2)
    have ho : ¬ okSs none ss = true := fun ho => hne (by rw [ho]; rfl)
    rwa [show asksE T ss = 224 by unfold asksE; rw [hk]; show (if k = 3 then _ else _) = _; rw [if_neg h3, if_neg ho]] at this
  · have := h σ2 (hx1.trans hx2)
    have ho : okSs none ss = true := by
      cases hq : okSs none ss with
      | true => rfl
      | false => rw [hq] at h0; exact absurd (by decide) h0
    rwa [show asksE T ss = 0 by unfold asksE; rw [hk]; show (if k = 3 then _ else _) = _; rw [if_neg h3, if_pos ho]] at this
  · have := h σ1 hx1
    rwa [show asksE T ss = 220 by unfold asksE; rw [hk]] at this
def EIn (τ : Hp) (vs : List Value) (x : El × Nat) : Prop := ∃ p n c, vs = [.slice p n c, .slice (aD x.2 0) 1 1] ∧ RdL τ p n x.1.ls
theorem EIn.mono : Mono EIn := fun _ _ _ _ hx ⟨p, n, c, hv, h⟩ => ⟨p, n, c, hv, h.mono ELb.mono hx⟩
structure Ans (t : Int) (τ σ : Hp) (p : Option Addr) (n c : Nat) (l : List El) (bs : List Nat) : Prop where
  len : bs.length = l.length
  own : ∃ cs, Own 2 σ p n c cs ∧ Ch 2 EIn τ cs (l.zip bs)
  pts : ∀ (i b : Nat) (e : El), bs[i]? = some b → l[i]? = some e → σ b = some (.cells #[.int .i64 t, .int .u64 e.v] 39 (0, 0))
  op : ∀ a, p = some a → τ a.block = none ∧ a.block ∉ bs
  tb : ∀ b ∈ bs, τ b = none
  nd : bs.Nodup
  ext : Ext τ σ
theorem Ans.known {t : Int} {τ : Hp} {p : Option Addr} {n c : Nat} {l : List El} {bs : List Nat} (h : Ans t τ σ p n c l bs) : ∀ b ∈ bs, ∃ u, σ b = some u := fun b hb => by
  obtain ⟨i, hi⟩ := List.mem_iff_getElem?.1 hb
  have hlt := (List.getElem?_eq_some_iff.1 hi).1
  exact ⟨_, h.pts i b _ hi (List.getElem?_eq_getElem (by rw [← h.len]; exact hlt))⟩
theorem Ans.mono {t : Int} {τ : Hp} {p : Option Addr} {n c : Nat} {l : List El} {bs : List Nat} (h : Ans t τ σ p n c l bs) (hx : Ext σ σ') : Ans t τ σ' p n c l bs :=
  ⟨h.len, let ⟨cs, h1, h2⟩ := h.own; ⟨cs, h1.mono hx, h2⟩, fun i b e hb he => hx _ _ (h.pts i b e hb he), h.op, h.tb, h.nd, h.ext.trans hx⟩
theorem Ans.rd {t : Int} {τ : Hp} {p : Option Addr} {n c : Nat} {l : List El} {bs : List Nat} (h : Ans t τ σ p n c l bs) : RdS 2 ESr σ p n (l.map fun e => ⟨e.ls, [(t, e.v)]⟩) := by
  obtain ⟨cs, h1, h2⟩ := h.own
  have hz : (l.zip bs).length = l.length := by rw [List.length_zip, h.len, Nat.min_self]
  have hln : l.length = n := by
    have a1 := h1.1
    have a2 := h2.1
    rw [hz] at a2; omega
  refine ⟨by rw [List.length_map]; exact hln, cs, h1.rd, by rw [h2.1, hz, List.length_map], fun i s hs => ?_⟩
  rw [List.getElem?_map] at hs
  cases he : l[i]? with
  | none => rw [he] at hs; cases hs
  | some e =>
    rw [he] at hs
    simp only [Option.map_some, Option.some.injEq] at hs
    subst hs
    have hlt := (List.getElem?_eq_some_iff.1 he).1
    obtain ⟨b, hb⟩ : ∃ b, bs[i]? = some b := ⟨_, List.getElem?_eq_getElem (by rw [h.len]; exact hlt)⟩
    obtain ⟨p1, n1, c1, hv, hrl⟩ := h2.2 i (e, b) (List.getElem?_zip_eq_some.2 ⟨he, hb⟩)
    refine ⟨p1, n1, c1, aD b 0, 1, 1, hv, hrl.mono ELb.mono h.ext, ⟨rfl, [.int .i64 t, .int .u64 e.v], ⟨rfl, by omega, .inr ⟨b, 0, rfl, LdL.of_cells (c := [.int .i64 t, .int .u64 e.v]) (h.pts i b e hb he)⟩⟩, rfl, fun j y hy => ?_⟩, Nat.le_refl _⟩
    cases j with
    | zero => simp only [List.getElem?_cons_zero, Option.some.injEq] at hy; subst hy; rfl
    | succ j => simp at hy
theorem Ans.add {t : Int} {τ : Hp} {p : Option Addr} {n c b : Nat} {l : List El} {bs : List Nat} {e : El} {pl : Option Addr} {nl cl : Nat} {y : Hp} {Φ : Value → Hp → Prop} (h : Ans t τ σ p n c l bs) (hy : Ext σ y) (hr : RdL (σ.new y) pl nl e.ls) (hb : y b = none) (hn : n ≤ 1000000000000)
    (hΦ : ∀ τ' p' c' σ', Ans t τ' σ' p' (n + 1) c' (l ++ [e]) (bs ++ [b]) → Ext τ τ' → Φ (.slice p' (n + 1) c') σ') :
    Al (Hp.set y b (.cells #[.int .i64 t, .int .u64 e.v] 39 (0, 0))) fun b50 => Eff prog (Builtin.append_ #[23, 23] 23 #[.slice p n c, (.slice (aD b50 0) 1 1)]) (Hp.set (Hp.set y b (.cells #[.int .i64 t, .int .u64 e.v] 39 (0, 0))) b50 (.cells #[.slice pl nl cl, .slice (aD b 0) 1 1] 36 (0, 0))) Φ := fun b50 hb50 => by
  obtain ⟨cs, h1, h2⟩ := h.own
  have xb := Ext.set (o := .cells #[.int .i64 t, .int .u64 e.v] 39 (0, 0)) hb
  have xc := Ext.set (o := .cells #[.slice pl nl cl, .slice (aD b 0) 1 1] 36 (0, 0)) hb50
  have X := hy.trans (xb.trans xc)
  have hz : (l.zip bs).length = l.length := by rw [List.length_zip, h.len, Nat.min_self]
  have hσb : σ b = none := ext_none hy hb
  have hnb : b ≠ b50 := fun e => by rw [← e, Hp.set_same] at hb50; cases hb50
  refine app_eff (h1.mono X) (q := aD b50 0) (ys := [.slice pl nl cl, .slice (aD b 0) 1 1]) ⟨rfl, by omega, .inr ⟨b50, 0, rfl, LdL.of_cells (c := [.slice pl nl cl, .slice (aD b 0) 1 1]) (Hp.set_same _ _ _)⟩⟩ (fun u hu => by
    simp only [List.mem_cons, List.not_mem_nil, or_false] at hu
    rcases hu with rfl | rfl <;> rfl) (by omega) fun p' c' σ5 ho5 hx5 => ?_
  have T : ∀ k u, σ k = some u → (∀ a, p = some a → k ≠ a.block) → σ5 k = some u ∧ ∀ a, p' = some a → k ≠ a.block := fun k u hk hne => by
    obtain ⟨a1, a2⟩ := del_some.1 (hx5 k u (del_some.2 ⟨hne, X _ _ hk⟩))
    exact ⟨a2, a1⟩
  have Tb := del_some.1 (hx5 b _ (del_some.2 ⟨fun a ha e => h1.block a ha (by rw [← e]; exact hσb), xc _ _ (Hp.set_same _ _ _)⟩))
  have tt : Ext τ (τ.or (σ.new y)) := Ext.or_l _ _
  have nt : Ext (σ.new y) (τ.or (σ.new y)) := Ext.or_r fun k hk => by
    cases hh : τ k with
    | none => rfl
    | some u =>
      have h3 := h.ext _ _ hh
      cases h4 : (σ.new y) k with
      | none => exact absurd h4 hk
      | some v => rw [(new_some.1 h4).1] at h3; cases h3
  have kn : ∀ k, (∃ u, σ k = some u) → τ k = none → (τ.or (σ.new y)) k = none := fun k ⟨u, hu⟩ hk => by
    rw [Hp.or_r hk]
    cases hh : (σ.new y) k with
    | none => rfl
    | some v => rw [(new_some.1 hh).1] at hu; cases hu
  have tb : (τ.or (σ.new y)) b = none := by
    rw [Hp.or_r (ext_none h.ext hσb)]
    cases hh : (σ.new y) b with
    | none => rfl
    | some v => rw [(new_some.1 hh).2] at hb; cases hb
  have hbn : b ∉ bs := fun hc => by obtain ⟨u, hu⟩ := h.known b hc; rw [hσb] at hu; cases hu
  have hE5 : Ext (τ.or (σ.new y)) σ5 := fun k u hk => by
    have hyk : y k = some u := (Ext.or_of (h.ext.trans hy) (Ext.of_new _ _)) _ _ hk
    refine (del_some.1 (hx5 k u (del_some.2 ⟨fun a ha e => ?_, xc _ _ (xb _ _ hyk)⟩))).2
    have hka : ∃ u, σ a.block = some u := by
      cases hh : σ a.block with
      | none => exact absurd hh (h1.block a ha)
      | some u => exact ⟨u, rfl⟩
    rw [e, kn a.block hka (h.op a ha).1] at hk; cases hk
  refine hΦ (τ.or (σ.new y)) p' c' σ5 ⟨by simp [h.len], ⟨_, ho5, ?_⟩, fun i b' e' hb' he' => ?_, fun a ha => ⟨?_, fun hc => ?_⟩, fun b' hb' => ?_, ?_, hE5⟩ tt
  · rw [List.zip_append h.len.symm]
    exact (h2.mono EIn.mono tt).snoc rfl ⟨pl, nl, cl, rfl, hr.mono ELb.mono nt⟩
  · rw [List.getElem?_append] at hb' he'
    split at hb'
    · rename_i hlt
      rw [if_pos (by rw [← h.len]; exact hlt)] at he'
      have := h.pts i b' e' hb' he'
      exact (T b' _ this fun a ha e => (h.op a ha).2 (e ▸ List.mem_of_getElem? hb')).1
    · rename_i hlt
      rw [if_neg (by rw [← h.len]; exact hlt), ← h.len] at he'
      cases hq : i - bs.length with
      | zero =>
        rw [hq] at hb' he'
        simp only [List.getElem?_cons_zero, Option.some.injEq] at hb' he'
        subst hb'; subst he'
        exact Tb.2
      | succ j => rw [hq] at hb'; simp at hb'
  · cases hh : (τ.or (σ.new y)) a.block with
    | none => rfl
    | some u =>
      exfalso
      have hyk : y a.block = some u := (Ext.or_of (h.ext.trans hy) (Ext.of_new _ _)) _ _ hh
      refine (del_some.1 (hx5 a.block u (del_some.2 ⟨fun a' ha' e => ?_, xc _ _ (xb _ _ hyk)⟩))).1 a ha rfl
      have hka : ∃ u, σ a'.block = some u := by
        cases hh : σ a'.block with
        | none => exact absurd hh (h1.block a' ha')
        | some u => exact ⟨u, rfl⟩
      rw [e, kn a'.block hka (h.op a' ha').1] at hh; cases hh
  · rcases List.mem_append.1 hc with hc | hc
    · obtain ⟨u, hu⟩ := h.known _ hc
      exact (T a.block u hu fun a' ha' e => (h.op a' ha').2 (e ▸ hc)).2 a ha rfl
    · rw [List.mem_singleton] at hc
      exact Tb.1 a ha hc.symm
  · rcases List.mem_append.1 hb' with hb' | hb'
    · exact kn b' (h.known _ hb') (h.tb _ hb')
    · rw [List.mem_singleton] at hb'; rw [hb']; exact tb
  · rw [List.nodup_append]
    exact ⟨h.nd, by simp, fun a ha b' hb' e => by rw [List.mem_singleton] at hb'; rw [e, hb'] at ha; exact hbn ha⟩
end
end TwW
end
section
namespace TwW
open Go Tw Go.RowKit Go.Proofs.Tryz
theorem run_ok {ss : List Sr} {t : Int} (hS : SsG ss) : ∀ (T : List Nd) (st r : List Vv) (ty : List Int), tyRun T (st.map (·.kind)) = some ty → runF FF ss t T st = some r → (∀ x ∈ st, VG x) → (∀ x ∈ r, VG x) ∧ (r.map vlen).sum ≤ (st.map vlen).sum + T.length * ss.length
  | [], st, r, ty, _, hr, hV => by
    cases hr
    exact ⟨hV, by omega⟩
  | x :: T, st, r, ty, hT, hr, hV => by
    have hstep : (tyStep x (st.map (·.kind))).1 = 0 := Decidable.byContradiction fun hne => by
      rw [tyRun, if_neg hne] at hT; cases hT
    rw [tyRun, if_pos hstep] at hT
    obtain ⟨hf, hpl, hmo, hT0, hT1⟩ := step_ok hstep
    have hpn := parts_nn hf
    rw [List.length_map] at hT0 hT1 hpl
    rw [hT1, ← List.map_drop, ← List.map_take] at hT
    rw [← List.map_drop] at hT0
    rw [runF] at hr
    have hLl : ((st.drop (st.length - x.parts.toNat)).length : Int) = x.parts := by rw [List.length_drop]; omega
    have hLV : ∀ y ∈ st.drop (st.length - x.parts.toNat), VG y := fun y hy => hV y (List.mem_of_mem_drop hy)
    have hsplit : (st.map vlen).sum = ((st.take (st.length - x.parts.toNat)).map vlen).sum + ((st.drop (st.length - x.parts.toNat)).map vlen).sum := by
      rw [← List.sum_append, ← List.map_append, List.take_append_drop]
    cases hz : nodeF FF ss t x (st.drop (st.length - x.parts.toNat)) with
    | none => rw [hz] at hr; cases hr
    | some z =>
      rw [hz] at hr
      obtain ⟨w1, w2, w3⟩ := node_ok hS.ok hS.nn hf hT0 hLl hLV hz
      obtain ⟨g1, g2⟩ := run_ok hS T (st.take (st.length - x.parts.toNat) ++ [z]) r ty (by rw [List.map_append, List.map_singleton, w2]; exact hT) hr (fun u hu => by
        rcases List.mem_append.1 hu with hu | hu
        · exact hV u (List.mem_of_mem_take hu)
        · rw [List.mem_singleton] at hu; rw [hu]; exact w1)
      refine ⟨g1, ?_⟩
      rw [List.map_append, List.sum_append, List.map_singleton, List.sum_singleton] at g2
      rw [List.length_cons, Nat.succ_mul]
      omega
theorem moment_ok {ss : List Sr} {t k : Int} {T : List Nd} {l : List El} (hS : SsG ss) (hT : tyRun T [] = some [k]) (h : momentF FF T ss t = some l) : (∀ e ∈ l, SmallL e.ls) ∧ l.length ≤ 1 + T.length * ss.length := by
  unfold momentF at h
  cases hr : runF FF ss t T [] with
  | none => rw [hr] at h; cases h
  | some st =>
    rw [hr] at h
    obtain ⟨g1, g2⟩ := run_ok hS T [] st _ hT hr (fun x hx => by cases hx)
    change (st.head?.map fun v : Vv => if v.kind = 1 then [(⟨[], v.v⟩ : El)] else v.vec) = some l at h
    cases st with
    | nil => cases h
    | cons v st =>
      simp only [List.head?_cons, Option.map_some, Option.some.injEq] at h
      have hv := g1 v (by simp)
      rw [List.map_cons, List.sum_cons] at g2
      simp only [List.map_nil, List.sum_nil] at g2
      unfold vlen at g2
      split at h
      · subst h
        exact ⟨fun e he => by rw [List.mem_singleton] at he; subst he; exact ⟨Nat.zero_le _, fun x hx => by cases hx⟩, by simp⟩
      · subst h
        exact ⟨fun e he => (hv.el e he).1, by omega⟩
section
variable {σ σ' σ0 : Hp} {R : Ending → Hp → Prop}
theorem time_spec {t : Int} (h : R (.returned (.bool (decide (-1099511627776 ≤ t ∧ t ≤ 1099511627776)))) σ) : Spec prog 11 #[.int .i64 t] σ R := by
  refine eval_time.start ⟨fun h1 => ?_, fun h1 => ?_⟩
  · rw [show decide (-1099511627776 ≤ t ∧ t ≤ 1099511627776) = decide (t ≤ 1099511627776) from decide_eq_decide.2 ⟨fun h => h.2, fun h => ⟨h1, h⟩⟩] at h; exact h
  · rw [show decide (-1099511627776 ≤ t ∧ t ≤ 1099511627776) = false from decide_eq_false fun hh => h1 hh.1] at h; exact h
theorem tyOf_run {T : List Nd} {k : Int} (h : tyOf T = some k) : tyRun T [] = some [k] ∧ T.length ≤ 4096 := by
  unfold tyOf at h
  cases hr : tyRun T [] with
  | none => rw [hr] at h; cases h
  | some st =>
    rw [hr] at h
    match st with
    | [] => cases h
    | [x] =>
      change (if T.length ≤ 4096 then some x else none) = some k at h
      split at h
      · rename_i h4
        cases h
        exact ⟨rfl, h4⟩
      · cases h
    | _ :: _ :: _ => cases h
theorem inst_spec {p q : Option Addr} {n c m d : Nat} {T : List Nd} {ss : List Sr} {t : Int} (hg : Gl σ) (hr : RdS 10 ENd σ p n T) (hs : RdS 2 ESr σ q m ss) (hM : Modest T ss)
    (h : ∀ τ p' n' c' σ' bs, (instF T ss t).1 = 0 → Ans t τ σ' p' n' c' (instF T ss t).2 bs → Ext σ τ → R (.returned (.tuple #[.slice p' n' c', .int .i64 0])) σ') (h' : ∀ σ', (instF T ss t).1 ≠ 0 → Ext σ σ' → R (.returned (.tuple #[.slice none 0 0, .int .i64 (instF T ss t).1])) σ') :
    Spec prog 4 #[.slice p n c, .slice q m d, .int .i64 t] σ R := by
  refine eval_Instant.start (asks_spec hr hs hM fun σ1 hx1 => ⟨_, rfl, fun hne => ?_, fun h0 => time_spec ⟨_, rfl, fun htf => ?_, fun htt => ?_⟩⟩)
  · have e : instF T ss t = (asksE T ss, []) := by unfold instF; rw [if_pos hne]
    rw [e] at h'
    exact h' σ1 hne hx1
  · have e : instF T ss t = (221, []) := by unfold instF; rw [if_neg h0, if_pos (of_decide_eq_false htf)]
    rw [e] at h'
    exact h' σ1 (by dsimp only; decide) hx1
  have h0' := Decidable.not_not.1 h0
  have ht := of_decide_eq_true htt
  obtain ⟨k, hk, hk3, hok⟩ : ∃ k, tyOf T = some k ∧ k ≠ 3 ∧ okSs none ss = true := by
    unfold asksE at h0'
    cases hq : tyOf T with
    | none => rw [hq] at h0'; dsimp only at h0'; exact absurd h0' (by decide)
    | some k =>
      rw [hq] at h0'
      dsimp only at h0'
      by_cases h3 : k = 3
      · rw [if_pos h3] at h0'; exact absurd h0' (by decide)
      · rw [if_neg h3] at h0'
        cases ho : okSs none ss with
        | true => exact ⟨k, rfl, h3, rfl⟩
        | false => rw [ho] at h0'; exact absurd h0' (by decide)
  have hS := SsG.of hM hok
  obtain ⟨hrun, hlen⟩ := tyOf_run hk
  have hl : T.length = n := hr.1
  refine moment_spec (hg.mono hx1) (hr.mono ENd.mono hx1) (hs.mono ESr.mono hx1) hS (by omega) (by omega) hrun (fun l p' n' c' σ2 hm hx2 hrl => ⟨_, _, _, _, rfl, fun hh => absurd rfl hh, fun _ => ?_⟩) fun hm σ2 hx2 => ⟨_, _, _, _, rfl, fun _ => ?_, fun hh => absurd (by decide) hh⟩
  · have e : instF T ss t = (0, l) := by unfold instF; rw [if_neg h0, if_neg (by rw [Decidable.not_not]; exact ht), hm]
    rw [e] at h
    dsimp only at h
    have hll : l.length = n' := hrl.1
    have hX := hx1.trans hx2
    obtain ⟨mo1, mo2⟩ := moment_ok hS hrun hm
    have hsmall : n' ≤ 100000000000 := by
      have := Nat.mul_le_mul hlen hS.ok.len
      omega
    suffices H : ∀ g i : Nat, ∀ τ p1 n1 c1 σ3 bs, n' - i = g → i ≤ n' → Ans t τ σ3 p1 n1 c1 (l.take i) bs → Ext σ2 τ → eval_Instant.pt38 R t p1 n1 c1 p' n' c' n' i σ3 from
      H n' 0 σ2 none 0 0 σ2 [] rfl (Nat.zero_le _) ⟨rfl, ⟨[], Own.nil, by simp [Ch]⟩, fun i b e hb => (by simp at hb), fun a ha => (by cases ha), fun b hb => (by cases hb), List.nodup_nil, .refl _⟩ (.refl _)
    intro g
    induction g with
    | zero =>
      intro i τ p1 n1 c1 σ3 bs hgi hi hA hx3
      rw [List.take_of_length_le (by omega)] at hA
      exact eval_Instant.pt38_of ⟨fun hlt => by omega, fun _ => h τ p1 n1 c1 σ3 bs rfl hA (hX.trans hx3)⟩
    | succ g ih =>
      intro i τ p1 n1 c1 σ3 bs hgi hi hA hx3
      have hi' : i < n' := by omega
      obtain ⟨x, hx⟩ := hrl.ex hi'
      obtain ⟨b, o, q1, m1, d1, rfl, hld, hrx⟩ := EEl.at hrl hx
      have hX3 := hx3.trans hA.ext
      have hrx3 := hrx.mono ELb.mono hX3
      have hm1 : m1 ≤ 1000000000 := by
        have := (mo1 x (List.mem_of_getElem? hx)).rd hrx
        omega
      have hn1 : n1 = i := by
        obtain ⟨cs, a1, a2⟩ := hA.own
        have a3 := a1.1
        have a4 := a2.1
        rw [List.length_zip, hA.len, Nat.min_self, List.length_take] at a4
        omega
      have next : ∀ τ' p2 c2 σ4 bs', Ans t τ' σ4 p2 (n1 + 1) c2 (l.take i ++ [x]) bs' → Ext τ τ' → I64 ((i : Int) + 1) ∧ eval_Instant.pt38 R t p2 (n1 + 1) c2 (aD b o) n' c' n' ((i : Int) + 1) σ4 := fun τ' p2 c2 σ4 bs' hA' hx4 =>
        ⟨i64_succ hi' hrl.big, ih (i + 1) τ' p2 (n1 + 1) c2 σ4 bs' (by omega) (by omega) (by rw [take_succ' hx]; exact hA') (hx3.trans hx4)⟩
      refine eval_Instant.pt38_of ⟨fun _ => ⟨b, o, rfl, by omega, q1, m1, d1, x.v, by simpa using hld.mono hX3, fun _ => ⟨fun b40 hb40 => ⟨?_, fun b48 hb48 => ?_⟩, fun b48 hb48 b40 hb40 => ?_⟩⟩, fun hh => by omega⟩
      · refine copyL_eff hrx3 hm1 (fun p43 c43 y ho hy => ⟨_, _, _, rfl, fun b48 hb48 => Ans.add hA hy (ho.rd ELb.mono) hb48 (by omega) fun τ' p2 c2 σ4 hA' hx4 => ⟨_, _, _, rfl, next _ _ _ _ _ hA' hx4⟩⟩) hb40
      · have hn48 := (Hp.none_of_set hb48)
        refine Eff.frame1 hb48 (copyL_eff hrx3 hm1 (fun p43 c43 y ho hy hny => ⟨_, _, _, rfl, Ans.add hA hy (ho.rd ELb.mono) hny (by omega) fun τ' p2 c2 σ4 hA' hx4 => ⟨_, _, _, rfl, next _ _ _ _ _ hA' hx4⟩⟩) hb40)
      · have hn40 := (Hp.none_of_set hb40)
        have hn48 : (σ3.set b40 (.cells #[] 58 (0, 0))) b48 = none := by rw [Hp.set_ne (Ne.symm hn40.1)]; exact hb48
        dsimp only
        rw [Hp.set_swap (Ne.symm hn40.1)]
        refine Eff.frame1 hn48 (copyL_eff hrx3 hm1 (fun p43 c43 y ho hy hny => ⟨_, _, _, rfl, Ans.add hA hy (ho.rd ELb.mono) hny (by omega) fun τ' p2 c2 σ4 hA' hx4 => ⟨_, _, _, rfl, next _ _ _ _ _ hA' hx4⟩⟩) hn40.2)
  · have e : instF T ss t = (223, []) := by unfold instF; rw [if_neg h0, if_neg (by rw [Decidable.not_not]; exact ht), hm]
    rw [e] at h'
    exact h' σ2 (by dsimp only; decide) (hx1.trans hx2)
end
end TwW
end
section
namespace TwW
open Go Tw Go.RowKit Go.Proofs.Tryz
theorem Own.store1 {P : Program} {s : Nat} {σ : Hp} {b o n c j : Nat} {cs : List Value} {v : Value} {T : TypeId} {Φ : Unit → Hp → Prop} (ho : Own s σ (some ⟨b, o, none⟩) n c cs) (hj : j < n * s) (hz : ∀ w, (Go.sizeOf T).run P w = .ok 1 w) (hv : v.cells = #[v]) (h1 : v.oneCell' = true)
    (hΦ : ∀ obj, Own s (σ.set b obj) (some ⟨b, o, none⟩) n c (cs.set j v) → Φ () (σ.set b obj)) : Eff P (Instr.storeAt T (.pointer (some ⟨b, o + j, none⟩)) v) σ Φ := by
  obtain ⟨hl, hb0, h⟩ := ho
  rcases h with ⟨hp, _⟩ | ⟨b', o', arr, T', hp, hb, hnc, hsz, hcs⟩
  · cases hp
  · cases hp
    have hns : n * s ≤ c * s := Nat.mul_le_mul_right s hnc
    refine Eff.store hz hb (by rw [hv]; rfl) (by omega) (by rw [hv]; simpa using h1) (hΦ _ ⟨by rw [List.length_set]; exact hl, hb0, .inr ⟨b, o, _, T', rfl, Hp.set_same _ _ _, hnc, by simp [wrt_size]; exact hsz, ?_⟩⟩)
    rw [hv, ← hcs]
    refine List.ext_getElem? fun i => ?_
    simp only [wrt, Array.toList_setIfInBounds]
    rw [List.getElem?_take, List.getElem?_set, List.getElem?_take]
    by_cases hi : i < n * s
    · rw [if_pos hi, if_pos hi, List.getElem?_drop, List.getElem?_drop, List.getElem?_set]
      by_cases hij : j = i
      · subst hij
        have hlt : o + j < arr.size := by omega
        simp [hlt]
        exact Nat.lt_min.2 ⟨hj, by omega⟩
      · rw [if_neg (by omega), if_neg hij]
    · rw [if_neg hi, if_neg hi]
      split
      · omega
      · rfl
theorem EPt.one (σ : Hp) (vs : List Value) (x : Pt) (h : EPt σ vs x) : OneC vs := by
  rw [show vs = [.int .i64 x.1, .int .u64 x.2] from h]
  intro u hu
  simp only [List.mem_cons, List.not_mem_nil, or_false] at hu
  rcases hu with rfl | rfl <;> rfl
theorem EMt.one (σ : Hp) (vs : List Value) (x : Mt) (h : EMt σ vs x) : OneC vs := by
  rw [show vs = [.int .i64 x.kind, .string x.name, .string x.val] from h]
  intro u hu
  simp only [List.mem_cons, List.not_mem_nil, or_false] at hu
  rcases hu with rfl | rfl | rfl <;> rfl
section
variable {σ σ' σ0 : Hp} {R : Ending → Hp → Prop}
theorem clone_eff {T Et ty : TypeId} {s bs : Nat} [SlT prog T Et s bs] {q : Option Addr} {j c b : Nat} {cs : List Value} {Φ : Value → Hp → Prop} (hcs : RdC s σ q j cs) (h1 : OneC cs) (hb : j * bs ≤ 140737488355328)
    (hΦ : ∀ p' c' σ', Own s (σ.new σ') p' j c' cs → Ext σ σ' → Φ (.slice p' j c') σ') (hn : σ b = none) :
    Eff prog (Builtin.append_ #[T, T] ty #[.slice (some ⟨b, 0, none⟩) 0 0, .slice q j c]) (σ.set b (.cells #[] Et (0, 0))) Φ := by
  refine app_eff Own.empty (hcs.mono (.set hn)) h1 (by rw [Nat.zero_add]; exact hb) fun p' c' σ' hown hext => ?_
  have hq : ∀ a : Addr, (some (⟨b, 0, none⟩ : Addr)) = some a → σ a.block = none := fun a ha => by cases ha; exact hn
  rw [Nat.zero_add] at hown ⊢
  rw [List.nil_append] at hown
  exact hΦ p' c' σ' (Own.to_new hown (new_block hq hext (.set hn))) (ext_new hq hext (.set hn))
theorem cMts_spec {p : Option Addr} {n c : Nat} {ms : List Mt} (hr : RdS 3 EMt σ p n ms) (hn : n ≤ 1000000000) (h : ∀ p' c' σ', RdS 3 EMt (σ.new σ') p' n ms → Ext σ σ' → R (.returned (.slice p' n c')) σ') : Spec prog 13 #[.slice p n c] σ R := by
  obtain ⟨h1, cs, h2, h3⟩ := hr
  exact law0_CopyMatchers.start fun b hb => clone_eff h2 (Ch.oneC EMt.one h3 (by decide)) (by omega) (fun p' c' σ' ho hx => ⟨_, _, _, rfl, h p' c' σ' ⟨h1, cs, Own.rd ho, h3.1, fun i x hx => h3.2 i x hx⟩ hx⟩) hb
theorem cTexts_spec {p : Option Addr} {n c : Nat} {ls : List ByteArray} (hr : RdC 1 σ p n (ls.map .string)) (hn : n ≤ 1000000000) (h : ∀ p' c' σ', RdC 1 (σ.new σ') p' n (ls.map .string) → Ext σ σ' → R (.returned (.slice p' n c')) σ') : Spec prog 14 #[.slice p n c] σ R :=
  law0_CopyTexts.start fun b hb => clone_eff hr (fun u hu => by obtain ⟨x, _, rfl⟩ := List.mem_map.1 hu; rfl) (by omega) (fun p' c' σ' ho hx => ⟨_, _, _, rfl, h p' c' σ' (Own.rd ho) hx⟩) hb
theorem cLabels_spec {p : Option Addr} {n c : Nat} {ls : List Lb} (hr : RdL σ p n ls) (hn : n ≤ 1000000000) (h : ∀ p' c' σ', RdL (σ.new σ') p' n ls → Ext σ σ' → R (.returned (.slice p' n c')) σ') : Spec prog 15 #[.slice p n c] σ R :=
  law0_CopyLabels.start fun b hb => copyL_eff hr hn (fun p' c' σ' ho hx => ⟨_, _, _, rfl, h p' c' σ' (ho.rd ELb.mono) hx⟩) hb
theorem cPoints_spec {p : Option Addr} {n c : Nat} {ps : List Pt} (hr : RdS 2 EPt σ p n ps) (hn : n ≤ 1000000000) (h : ∀ p' c' σ', OwnL 2 EPt (σ.new σ') p' n c' ps → Ext σ σ' → R (.returned (.slice p' n c')) σ') : Spec prog 16 #[.slice p n c] σ R := by
  obtain ⟨h1, cs, h2, h3⟩ := hr
  exact law0_CopyPoints.start fun b hb => clone_eff h2 (Ch.oneC EPt.one h3 (by decide)) (by omega) (fun p' c' σ' ho hx => ⟨_, _, _, rfl, h p' c' σ' ⟨h1, cs, ho, h3.1, fun i x hx => h3.2 i x hx⟩ hx⟩) hb
theorem ENd.one (σ : Hp) (vs : List Value) (x : Nd) (h : ENd σ vs x) : OneC vs := by
  obtain ⟨p, k, c, q, m, d, rfl, _⟩ := h
  intro u hu
  simp only [List.mem_cons, List.not_mem_nil, or_false] at hu
  rcases hu with rfl | rfl | rfl | rfl | rfl | rfl | rfl | rfl | rfl | rfl <;> rfl
theorem ESr.one (σ : Hp) (vs : List Value) (x : Sr) (h : ESr σ vs x) : OneC vs := by
  obtain ⟨p, n, c, q, m, d, rfl, _⟩ := h
  intro u hu
  simp only [List.mem_cons, List.not_mem_nil, or_false] at hu
  rcases hu with rfl | rfl <;> rfl
structure TOk (T : List Nd) : Prop where
  t : T.length ≤ 2000000
  mt : ∀ x ∈ T, x.mt.length ≤ 1000000000
  nm : ∀ x ∈ T, x.names.length ≤ 1000000000
theorem cNodes_spec {p : Option Addr} {n c : Nat} {T : List Nd} (hr : RdS 10 ENd σ p n T) (hT : TOk T) (h : ∀ p' c' σ', OutL 10 ENd σ σ' p' n c' T → R (.returned (.slice p' n c')) σ') : Spec prog 5 #[.slice p n c] σ R := by
  have hl : T.length = n := hr.1
  have ht := hT.t
  refine law0_CopyNodes.start ?_
  suffices H : ∀ g i : Nat, ∀ p3 n3 c3 σ', n - i = g → i ≤ n → OutL 10 ENd σ σ' p3 n3 c3 (T.take i) → law0_CopyNodes.pt11 R p n c p3 n3 c3 i σ' from H n 0 none 0 0 σ rfl (Nat.zero_le _) (OutL.nil (.refl _))
  intro g
  induction g with
  | zero =>
    intro i p3 n3 c3 σ' hg hi ho
    rw [List.take_of_length_le (by omega)] at ho
    have hn3 : n = n3 := hl.symm.trans ho.1.1
    subst hn3
    exact law0_CopyNodes.pt11_of ⟨fun hlt => by omega, fun _ => h p3 c3 σ' ho⟩
  | succ g ih =>
    intro i p3 n3 c3 σ' hg hi ho
    have hi' : i < n := by omega
    obtain ⟨x, hx⟩ := hr.ex hi'
    obtain ⟨b, o, p1, k1, c1, q1, m1, d1, rfl, hld, hmt, hnm⟩ := ENd.at hr hx
    have hxm := List.mem_of_getElem? hx
    have a1 := hT.mt x hxm
    have a2 := hT.nm x hxm
    have a3 : x.mt.length = k1 := hmt.1
    have a4 : (x.names.map Value.string).length = m1 * 1 := hnm.1
    rw [List.length_map] at a4
    have hn3 : n3 = i := by have := ho.1.1; rw [List.length_take] at this; omega
    refine law0_CopyNodes.pt11_of ⟨fun _ => ⟨b, o, rfl, by omega, _, _, _, _, _, _, _, _, _, _, _, _, _, _, by simpa using hld.mono ho.up, fun _ => cMts_spec (hmt.mono EMt.mono ho.up) (by omega) fun p4 c4 σ2 hr2 hx2 => ⟨_, _, _, rfl, cTexts_spec ((hnm.mono ho.up).mono hx2) (by omega) fun p5 c5 σ3 hr3 hx3 => ⟨_, _, _, rfl, fun b26 hb26 => ?_⟩⟩⟩, fun hh => by omega⟩
    have ho3 := ho.mono ENd.mono (hx2.trans hx3)
    have he : ENd (σ3.del p3) [.int .i64 x.kind, .int .i64 x.op, .string x.text, .slice p4 k1 c4, .int .i64 x.width, .int .i64 x.back, .int .i64 x.grp, .slice p5 m1 c5, .bool x.bool, .int .i64 x.parts] x :=
      ⟨p4, k1, c4, p5, m1, c5, rfl, hr2.mono EMt.mono ((Ext.new_mono hx3).trans (ho.new (hx2.trans hx3))), hr3.mono ((Ext.new_trans hx2).trans (ho.new (hx2.trans hx3)))⟩
    refine OutL.app1 ENd.mono ho3 rfl (ENd.one _ _ _ he) he (by omega) (fun p' c' σ4 ho4 _ => ⟨_, _, _, rfl, i64_succ hi' hr.big, ih (i + 1) _ _ _ _ (by omega) (by omega) (by rw [take_succ' hx]; exact ho4)⟩) hb26
structure SOk (ss : List Sr) : Prop where
  s : ss.length ≤ 1000000000000
  ls : ∀ s ∈ ss, s.ls.length ≤ 1000000000
  ps : ∀ s ∈ ss, s.ps.length ≤ 1000000000
theorem cSeries_spec {p : Option Addr} {n c : Nat} {ss : List Sr} (hr : RdS 2 ESr σ p n ss) (hS : SOk ss) (h : ∀ p' c' σ', RdS 2 ESr σ' p' n ss → Ext σ σ' → R (.returned (.slice p' n c')) σ') : Spec prog 6 #[.slice p n c] σ R := by
  have hl : ss.length = n := hr.1
  have ht := hS.s
  refine law0_CopySeries.start ?_
  suffices H : ∀ g i : Nat, ∀ p3 n3 c3 σ', n - i = g → i ≤ n → OutL 2 ESr σ σ' p3 n3 c3 (ss.take i) → law0_CopySeries.pt11 R p n c p3 n3 c3 i σ' from H n 0 none 0 0 σ rfl (Nat.zero_le _) (OutL.nil (.refl _))
  intro g
  induction g with
  | zero =>
    intro i p3 n3 c3 σ' hg hi ho
    rw [List.take_of_length_le (by omega)] at ho
    have hn3 : n = n3 := hl.symm.trans ho.1.1
    subst hn3
    exact law0_CopySeries.pt11_of ⟨fun hlt => by omega, fun _ => h p3 c3 σ' (ho.rd ESr.mono) ho.up⟩
  | succ g ih =>
    intro i p3 n3 c3 σ' hg hi ho
    have hi' : i < n := by omega
    obtain ⟨x, hx⟩ := hr.ex hi'
    obtain ⟨b, o, p1, k1, c1, q1, m1, d1, rfl, hld, hls, hps, hmd⟩ := ESr.at hr hx
    have hxm := List.mem_of_getElem? hx
    have a1 := hS.ls x hxm
    have a2 := hS.ps x hxm
    have a3 : x.ls.length = k1 := hls.1
    have a4 : x.ps.length = m1 := hps.1
    have hn3 : n3 = i := by have := ho.1.1; rw [List.length_take] at this; omega
    have hld' := hld.mono ho.up
    refine law0_CopySeries.pt11_of ⟨fun _ => ⟨b, o, rfl, by omega, p1, k1, c1, by simpa using hld'.1, by omega, q1, m1, d1, by simpa using hld'.2.1, cLabels_spec (hls.mono ELb.mono ho.up) (by omega) fun p4 c4 σ2 hr2 hx2 => ⟨_, _, _, rfl, Kp.of_ext hx2, cPoints_spec ((hps.mono EPt.mono ho.up).mono EPt.mono hx2) (by omega) fun p5 c5 σ3 hr3 hx3 => ⟨_, _, _, rfl, fun b26 hb26 => ?_⟩⟩⟩, fun hh => by omega⟩
    have ho3 := ho.mono ESr.mono (hx2.trans hx3)
    have he : ESr (σ3.del p3) [.slice p4 k1 c4, .slice p5 m1 c5] x :=
      ⟨p4, k1, c4, p5, m1, c5, rfl, hr2.mono ELb.mono ((Ext.new_mono hx3).trans (ho.new (hx2.trans hx3))), (hr3.rd EPt.mono).mono EPt.mono ((Ext.new_trans hx2).trans (ho.new (hx2.trans hx3))), by obtain ⟨cs, hoo, _⟩ := hr3.2; exact Own.cap hoo⟩
    refine OutL.app1 ESr.mono ho3 rfl (ESr.one _ _ _ he) he (by omega) (fun p' c' σ4 ho4 _ => ⟨_, _, _, rfl, i64_succ hi' hr.big, ih (i + 1) _ _ _ _ (by omega) (by omega) (by rw [take_succ' hx]; exact ho4)⟩) hb26
end
end TwW
end
section
namespace TwW
open Go Tw Go.RowKit Go.Proofs.Tryz
def Awk : Prop := ∀ (σ : Hp) (R : Ending → Hp → Prop), Gl σ → (∀ σ', Ext σ σ' → R (.returned (.bool true)) σ') → Spec prog 7 #[] σ R
end TwW
end
section
namespace TwW
open Go Tw Go.RowKit Go.Proofs.Tryz
def sX : ByteArray := ⟨#[120]⟩
def sA : ByteArray := ⟨#[97]⟩
def s1_ : ByteArray := ⟨#[49]⟩
def s2_ : ByteArray := ⟨#[50]⟩
def nV : Nd := ⟨2, 0, ByteArray.mk #[], [⟨1, kName, sX⟩], 0, 0, 0, [], false, 0⟩
def nA : Nd := ⟨5, 1, ByteArray.mk #[], [], 0, 0, 0, [], false, 1⟩
def T0 : List Nd := [nV, nA]
def lab1 : List Lb := [(kName, sX), (sA, s1_)]
def lab2 : List Lb := [(kName, sX), (sA, s2_)]
abbrev v1 : Int := 4607182418800017408
abbrev v3 : Int := 4613937818241073152
abbrev v5 : Int := 4617315517961601024
abbrev v8 : Int := 4620693217682128896
def ss0 : List Sr := [⟨lab1, [(0, v1), (60, v3)]⟩, ⟨lab2, [(60, v5)]⟩]
theorem ty0 : tyOf T0 = some 2 := by kernel_rfl
theorem ris0 : okSs none ss0 = true := by kernel_rfl
theorem mom60 : momentF FF T0 ss0 60 = some [⟨[], v8⟩] := by kernel_rfl
theorem mom0 : momentF FF T0 ss0 0 = some [⟨[], v1⟩] := by kernel_rfl
theorem run0 : tyRun T0 [] = some [2] := by kernel_rfl
theorem modest0 : Modest T0 ss0 := by
  refine ⟨by decide, fun x hx => ?_, by decide, fun s hs => ?_, fun s hs p hp => ?_⟩
  · simp only [T0, List.mem_cons, List.not_mem_nil, or_false] at hx
    rcases hx with rfl | rfl <;> decide
  · simp only [ss0, List.mem_cons, List.not_mem_nil, or_false] at hs
    rcases hs with rfl | rfl <;> decide
  · simp only [ss0, List.mem_cons, List.not_mem_nil, or_false] at hs
    rcases hs with rfl | rfl <;> simp at hp <;> (try rcases hp with rfl | rfl) <;> (try subst hp) <;> decide
theorem inst60 : instF T0 ss0 60 = (0, [⟨[], v8⟩]) := by kernel_rfl
end TwW
end
section
namespace TwW
open Go Tw Go.RowKit Go.Proofs.Tryz
structure Bx where
  b5 : Nat
  b6 : Nat
  b10 : Nat
  b11 : Nat
  b13 : Nat
  b14 : Nat
  D : Nat
  l : Nat
  m : Nat
  p : Option Addr
  n : Nat
  c : Nat
  q : Option Addr
  k : Nat
  d : Nat
  r0 : Loop
abbrev Bx.L (X : Bx) (w : Option Addr) (k e : Nat) (lo : Loop) : List (Nat × Obj) :=
  [(X.l, .loop lo), (X.D, .deferred (some [])), (X.b14, .cells #[.slice w k e] 23 (0, 0)), (X.b13, .cells #[.map (some X.m)] 85 (0, 0)), (X.b11, .cells #[.int .i64 0] 24 (0, 0)), (X.b10, .cells #[.slice none 0 0] 23 (0, 0)), (X.b6, .cells #[.slice X.q X.k X.d] 23 (0, 0)), (X.b5, .cells #[.slice X.p X.n X.c] 22 (0, 0))]
abbrev Bx.bl (X : Bx) : List Nat := [X.l, X.D, X.b14, X.b13, X.b11, X.b10, X.b6, X.b5]
def Bx.nd (X : Bx) : Prop := X.bl.Nodup
def Bx.off (X : Bx) (B : Hp) : Prop := ∀ b ∈ X.bl, B b = none
theorem Own.here {s : Nat} {σ σ' : Hp} {p : Option Addr} {n c : Nat} {cs : List Value} (h : Own s σ p n c cs) (hs : ∀ a, p = some a → σ' a.block = σ a.block) : Own s σ' p n c cs := by
  obtain ⟨h1, h2, h3 | ⟨b, o, arr, T, rfl, hb, r⟩⟩ := h
  · exact ⟨h1, h2, .inl h3⟩
  · exact ⟨h1, h2, .inr ⟨b, o, arr, T, rfl, (hs _ rfl).trans hb, r⟩⟩
theorem kpL {A B : Hp} {L : List (Nat × Obj)} {i b : Nat} {o : Obj} (hn : (names L).Nodup) (hi : L[i]? = some (b, o)) : Kp [b] (sets A L) (sets B L) := fun x hx u hu => by
  rw [List.mem_singleton] at hx; subst hx
  rw [sets_get hn hi] at hu ⊢; exact hu
structure St (σ B : Hp) (m b o e k : Nat) : Prop where
  ext : Ext σ B
  own : ∃ pl cl pp cc ds, Own 2 B (some ⟨b, o, none⟩) 1 e [.slice pl 0 cl, .slice pp k cc] ∧ Own 2 B pp k cc ds ∧ (∀ a, pp = some a → a.block ≠ b ∧ a.block ≠ m ∧ σ a.block = none)
  map : MS (fun v _ => v = .int .i64 0) B m [(keyL [], (0 : Int))]
  hb : σ b = none
  hm : σ m = none
  ne : m ≠ b
theorem St.mono {σ B B' : Hp} {m b o e k : Nat} (h : St σ B m b o e k) (hx : Ext B B') : St σ B' m b o e k :=
  ⟨h.ext.trans hx, let ⟨pl, cl, pp, cc, ds, h1, h2, h3⟩ := h.own; ⟨pl, cl, pp, cc, ds, h1.mono hx, h2.mono hx, h3⟩, h.map.mono hx, h.hb, h.hm, h.ne⟩
theorem size48 (w : World) : (Go.sizeOf 48).run prog w = .ok 2 w := by kernel_rfl
theorem size34 (w : World) : (Go.sizeOf 34).run prog w = .ok 1 w := by kernel_rfl
theorem size23s (w : World) : (Go.sizeOf 23).run prog w = .ok 1 w := by kernel_rfl
theorem size25s (w : World) : (Go.sizeOf 24).run prog w = .ok 1 w := by kernel_rfl
section
variable {σ B : Hp} {R : Ending → Hp → Prop} {X : Bx}
theorem rtail_spec {b19 b o e k n67 c67 : Nat} {t v : Int} {vl : Value} {p67 : Option Addr} (hn : (b19 :: X.bl).Nodup) (hoff : X.off B) (h19 : B b19 = none) (h : St σ B X.m b o e k) (hk : k ≤ 10)
    (next : ∀ B', X.off B' → St σ B' X.m b o e (k + 1) → R (.returned (.bool true)) (sets B' (X.L (some ⟨b, o, none⟩) 1 e (lp X.r0 .ready none)))) :
    eval_Range.pt75 R X.l X.r0 X.b13 X.b14 t b19 0 p67 n67 c67 1 0 (sets B ((b19, .cells #[vl, .int .u64 v] 48 (0, 0)) :: X.L (some ⟨b, o, none⟩) 1 e (lp X.r0 .busy none))) := by
  obtain ⟨pl, cl, pp, cc, ds, h1, h2, h3⟩ := h.own
  let L : List (Nat × Obj) := (b19, .cells #[vl, .int .u64 v] 48 (0, 0)) :: X.L (some ⟨b, o, none⟩) 1 e (lp X.r0 .busy none)
  have hL : (names L).Nodup := hn
  have ho : Off L B := fun x hx => by
    rcases List.mem_cons.1 hx with rfl | hx
    · exact h19
    · exact hoff x hx
  have hxB : Ext B (sets B L) := Off.ext hL ho
  have e14 : Hp.ld (sets B L) ⟨X.b14, 0, none⟩ = some (.slice (some ⟨b, o, none⟩) 1 e) := ldL (i := 3) hL rfl rfl
  have hld : Hp.ld (sets B L) ⟨b, (o + Int.toNat 0 * 2) + 1, none⟩ = some (.slice pp k cc) := by
    obtain ⟨_, _, h0 | ⟨b', o', hp, hl⟩⟩ := h1.rd.mono hxB
    · cases h0
    · cases hp
      simpa using hl.2.1
  refine eval_Range.pt75_of ⟨_, 1, e, e14, _, 1, e, e14, b, o, rfl, by decide, pp, k, cc, hld, v, ldL (i := 0) hL rfl rfl, fun b109 h109 => ?_⟩
  obtain ⟨n109, hB9⟩ := sets_none (L := L) h109
  have x9 := Ext.set (o := .cells #[.int .i64 t, .int .u64 v] 39 (0, 0)) hB9
  show Eff prog (Builtin.append_ #[34, 34] 34 #[.slice pp k cc, .slice (some ⟨b109, 0, none⟩) 1 1]) ((sets B L).set b109 (.cells #[.int .i64 t, .int .u64 v] 39 (0, 0))) _
  rw [sets_fresh n109]
  have key : ∀ y, B y ≠ none → (∀ a, pp = some a → y ≠ a.block) → ∀ (p' : Option Addr) (σ5 : Hp), Ext ((B.set b109 (.cells #[.int .i64 t, .int .u64 v] 39 (0, 0))).del pp) (σ5.del p') → σ5 y = B y ∧ ∀ a, p' = some a → y ≠ a.block := fun y hy hne p' σ5 hx => by
    cases hh : B y with
    | none => exact absurd hh hy
    | some u =>
      obtain ⟨a1, a2⟩ := del_some.1 (hx y u (del_some.2 ⟨hne, x9 _ _ hh⟩))
      exact ⟨a2, a1⟩
  have hbB : B b ≠ none := h1.block _ rfl
  have hmB := h.map.known
  refine Eff.frameL hL (ho.set n109) (app_eff (h2.mono x9) (q := some ⟨b109, 0, none⟩) (ys := [.int .i64 t, .int .u64 v]) ⟨rfl, by omega, .inr ⟨b109, 0, rfl, LdL.of_cells (c := [.int .i64 t, .int .u64 v]) (Hp.set_same _ _ _)⟩⟩ (fun u hu => by
    simp only [List.mem_cons, List.not_mem_nil, or_false] at hu
    rcases hu with rfl | rfl <;> rfl) (by omega) fun p' c' σ5 ho5 hx5 hoff5 => ⟨p', k + 1, c', rfl, kpL (i := 3) hL rfl, b, o, rfl, by decide, ?_⟩)
  obtain ⟨kb1, kb2⟩ := key b hbB (fun a ha e => (h3 a ha).1 e.symm) p' σ5 hx5
  obtain ⟨km1, km2⟩ := key X.m hmB (fun a ha e => (h3 a ha).2.1 e.symm) p' σ5 hx5
  have hx5' : Ext σ σ5 := fun y u hy => by
    obtain ⟨a1, _⟩ := key y (by rw [h.ext _ _ hy]; simp) (fun a ha e => by rw [e, (h3 a ha).2.2] at hy; cases hy) p' σ5 hx5
    rw [a1]; exact h.ext _ _ hy
  have h15 : Own 2 σ5 (some ⟨b, o, none⟩) 1 e [.slice pl 0 cl, .slice pp k cc] := Own.here h1 fun a ha => by cases ha; exact kb1
  rw [show (o + Int.toNat 0 * 2) + 1 = o + 1 by simp]
  refine Eff.frameL hL hoff5 (Own.store1 h15 (j := 1) (by decide) size34 rfl rfl fun obj h16 hoff6 => ⟨by unfold I64; omega, ?_⟩)
  have hoff6 : Off L (σ5.set b obj) := hoff6
  refine eval_Range.pt54_of ⟨fun hh => absurd hh (by decide), fun _ => ⟨sets_get (L := L) (i := 1) hL rfl, ?_⟩⟩
  have h19' : (σ5.set b obj) b19 = none := hoff6 b19 (List.mem_cons_self ..)
  have n19 : b19 ∉ X.bl := (List.nodup_cons.1 hn).1
  have hX : X.nd := (List.nodup_cons.1 hn).2
  have e1 : (sets (σ5.set b obj) L).set X.l (.loop (lp X.r0 .ready none)) = sets ((σ5.set b obj).set b19 (.cells #[vl, .int .u64 v] 48 (0, 0))) (X.L (some ⟨b, o, none⟩) 1 e (lp X.r0 .ready none)) := by
    rw [sets_set (L := L) (i := 1) hL rfl]
    exact sets_fresh (L := X.L (some ⟨b, o, none⟩) 1 e (lp X.r0 .ready none)) n19
  rw [e1]
  have x19 := Ext.set (o := .cells #[vl, .int .u64 v] 48 (0, 0)) h19'
  refine next _ (fun y hy => ?_) (St.mono ⟨?_, ⟨pl, cl, p', c', _, h16, Own.here ho5 ?_, fun a ha => ⟨?_, ?_, ?_⟩⟩, h.map.loc ?_, h.hb, h.hm, h.ne⟩ x19)
  · rw [Hp.set_ne (show y ≠ b19 from fun e => n19 (e ▸ hy))]; exact hoff6 y (List.mem_cons_of_mem _ hy)
  · intro y u hy
    rw [Hp.set_ne (fun e => by rw [e, h.hb] at hy; cases hy)]; exact hx5' y u hy
  · intro a ha
    exact Hp.set_ne (fun e => kb2 a ha e.symm)
  · exact fun e => kb2 a ha e.symm
  · exact fun e => km2 a ha e.symm
  · cases hh : σ a.block with
    | none => rfl
    | some u =>
      exfalso
      exact (key a.block (by rw [h.ext _ _ hh]; simp) (fun a' ha' e => by rw [e, (h3 a' ha').2.2] at hh; cases hh) p' σ5 hx5).2 a ha rfl
  · rw [Hp.set_ne h.ne]; exact km1
theorem rpre_spec {w : Option Addr} {k e : Nat} {x v : Int} (hn : X.nd) (hoff : X.off B) (hx : Ext σ B) (hg : Gl σ) (hr : RdS 10 ENd σ X.p X.n T0) (hs : RdS 2 ESr σ X.q X.k ss0) (hM : momentF FF T0 ss0 x = some [⟨[], v⟩]) (hx0 : 0 ≤ x ∧ x ≤ 60)
    (next : ∀ B' p1 c1, Ext B B' → X.off B' → RdS 2 EEl B' p1 1 [⟨[], v⟩] → eval_Range.pt54 R X.l X.r0 X.b13 X.b14 x p1 1 c1 1 0 (sets B' (X.L w k e (lp X.r0 .busy none)))) :
    eval_Range.pt37 R X.l X.r0 X.b5 X.b6 X.b10 X.b11 X.b13 X.b14 x (sets B (X.L w k e (lp X.r0 .ready none))) := by
  have hL : (names (X.L w k e (lp X.r0 .busy none))).Nodup := hn
  have hL' : (names (X.L w k e (lp X.r0 .ready none))).Nodup := hn
  have el : (sets B (X.L w k e (lp X.r0 .ready none))).set X.l (.loop (lp X.r0 .busy none)) = sets B (X.L w k e (lp X.r0 .busy none)) := Hp.set_set
  have hl2 : T0.length = X.n := hr.1
  have hl3 : T0.length = 2 := rfl
  have hgood : SsG ss0 := SsG.of (T := T0) modest0 ris0
  refine eval_Range.pt37_of ⟨sets_get (i := 0) hL' rfl, ?_⟩
  rw [el]
  refine ⟨X.p, X.n, X.c, ldL (i := 7) hL rfl rfl, X.q, X.k, X.d, ldL (i := 6) hL rfl rfl, ?_⟩
  refine Spec.frameL hL hoff (moment_spec (hg.mono hx) (hr.mono ENd.mono hx) (hs.mono ESr.mono hx) hgood (by omega) (by omega) run0 (fun l p' n' c' σ1 hm hx1 hrl hoff1 => ?_) fun hm => ?_)
  · rw [hM] at hm; cases hm
    have hn1 : 1 = n' := hrl.1
    subst hn1
    exact ⟨_, _, _, _, rfl, fun hh => absurd rfl hh, fun _ => next σ1 p' c' hx1 hoff1 hrl⟩
  · rw [hM] at hm; cases hm
def Sta (σ B : Hp) (m : Nat) (w : Option Addr) (j e k : Nat) : Prop :=
  (k = 0 ∧ w = none ∧ j = 0 ∧ e = 0 ∧ Ext σ B ∧ σ m = none ∧ MS (fun v _ => v = .int .i64 0) B m ([] : List (ByteArray × Int))) ∨ (0 < k ∧ ∃ b o, w = some ⟨b, o, none⟩ ∧ j = 1 ∧ St σ B m b o e k)
theorem Sta.ext {m j e k : Nat} {w : Option Addr} (h : Sta σ B m w j e k) : Ext σ B := by
  rcases h with ⟨_, _, _, _, hx, _⟩ | ⟨_, b, o, _, _, h⟩
  · exact hx
  · exact h.ext
theorem Sta.mono {B' : Hp} {m j e k : Nat} {w : Option Addr} (h : Sta σ B m w j e k) (hx : Ext B B') : Sta σ B' m w j e k := by
  rcases h with ⟨h0, h1, h2, h3, h4, h5, h6⟩ | ⟨h0, b, o, h1, h2, h⟩
  · exact .inl ⟨h0, h1, h2, h3, h4.trans hx, h5, h6.mono hx⟩
  · exact .inr ⟨h0, b, o, h1, h2, h.mono hx⟩
theorem relem_spec {w p1 : Option Addr} {j e k c1 : Nat} {t v : Int} (hn : X.nd) (hoff : X.off B) (h : Sta σ B X.m w j e k) (hk : k ≤ 10) (hr : RdS 2 EEl B p1 1 [⟨[], v⟩])
    (next : ∀ B' b o e', X.off B' → St σ B' X.m b o e' (k + 1) → R (.returned (.bool true)) (sets B' (X.L (some ⟨b, o, none⟩) 1 e' (lp X.r0 .ready none)))) :
    eval_Range.pt54 R X.l X.r0 X.b13 X.b14 t p1 1 c1 1 0 (sets B (X.L w j e (lp X.r0 .busy none))) := by
  have hL : (names (X.L w j e (lp X.r0 .busy none))).Nodup := hn
  have hxB : Ext B (sets B (X.L w j e (lp X.r0 .busy none))) := Off.ext hL hoff
  obtain ⟨b71, o71, q, m', d, rfl, hl, hrl⟩ := EEl.at hr (i := 0) (x := ⟨[], v⟩) rfl
  have hm0 : 0 = m' := hrl.1
  subst hm0
  refine eval_Range.pt54_of ⟨fun _ => ⟨b71, o71, rfl, by decide, q, 0, d, v, by simpa using hl.mono hxB, fun b19 h19 => ?_⟩, fun hh => absurd (by decide) hh⟩
  obtain ⟨n19, hB19⟩ := sets_none (L := X.L w j e (lp X.r0 .busy none)) h19
  have hn2 : (b19 :: X.bl).Nodup := List.nodup_cons.2 ⟨n19, hn⟩
  let L : Value → List (Nat × Obj) := fun lo => (b19, .cells #[.slice q 0 d, .int .u64 v] 48 (0, 0)) :: X.L w j e (lp X.r0 .busy none)
  let L0 : List (Nat × Obj) := (b19, .cells #[.slice none 0 0, .int .u64 0] 48 (0, 0)) :: X.L w j e (lp X.r0 .busy none)
  let L1 : List (Nat × Obj) := (b19, .cells #[.slice q 0 d, .int .u64 v] 48 (0, 0)) :: X.L w j e (lp X.r0 .busy none)
  have hL1 : (names L1).Nodup := hn2
  have hoff1 : ∀ {B'}, X.off B' → B' b19 = none → Off L1 B' := fun ho h9 x hx => by
    rcases List.mem_cons.1 hx with rfl | hx
    · exact h9
    · exact ho x hx
  show Eff prog (Instr.storeAt 48 (.pointer (some ⟨b19, 0, none⟩)) (.agg #[.slice q 0 d, .int .u64 v])) (sets B L0) _
  refine Eff.storeL (L := L0) (i := 0) (c := #[.slice none 0 0, .int .u64 0]) (c' := #[.slice q 0 d, .int .u64 v]) size48 hn2 rfl rfl rfl rfl rfl ?_
  show ∃ m74 : Option Nat, Hp.ld (sets B L1) ⟨X.b13, 0, none⟩ = some (.map m74) ∧ ∃ p76 : Option Addr, ∃ n76 : Nat, ∃ c76 : Nat, Hp.ld (sets B L1) ⟨b19, 0, none⟩ = some (.slice p76 n76 c76) ∧ Spec prog 28 #[.slice p76 n76 c76] (sets B L1) _
  have hkey : ∀ {B' : Hp} {R' : Ending → Hp → Prop}, Ext B B' → X.off B' → B' b19 = none → (∀ B2, Ext B' B2 → X.off B2 → B2 b19 = none → R' (.returned (.string (keyL []))) (sets B2 L1)) → Spec prog 28 #[.slice q 0 d] (sets B' L1) R' := fun hx ho h9 hh =>
    Spec.frameL hL1 (hoff1 ho h9) (eKey_spec (hrl.mono ELb.mono hx) ⟨Nat.zero_le _, fun x hx => by cases hx⟩ fun B2 hx2 ho2 => hh B2 hx2 (fun x hx => ho2 x (List.mem_cons_of_mem _ hx)) (ho2 b19 (List.mem_cons_self ..)))
  refine ⟨some X.m, ldL (L := L1) (i := 4) hL1 rfl rfl, q, 0, d, ldL (L := L1) (i := 0) hL1 rfl rfl, hkey (.refl _) hoff hB19 fun B2 hx2 ho2 h92 => ⟨_, rfl, kpL (L := L1) (i := 4) hL1 rfl, ?_⟩⟩
  have hx2L : Ext B2 (sets B2 L1) := Off.ext hL1 (hoff1 ho2 h92)
  rcases (h.mono hx2) with ⟨rfl, rfl, rfl, rfl, hσ2, hm, hmap⟩ | ⟨hk0, b, o, rfl, rfl, hst⟩
  · refine (hmap.mono hx2L).look2 (z := .int .i64 0) (fun w => by kernel_rfl) (fun hno => ⟨0, false, rfl, fun _ => ?_, fun hh => (by cases hh)⟩) fun v' x' hh => (by cases hh)
    refine ⟨none, 0, 0, ldL (L := L1) (i := 3) hL1 rfl rfl, some X.m, ldL (L := L1) (i := 4) hL1 rfl rfl, q, 0, d, ldL (L := L1) (i := 0) hL1 rfl rfl, hkey hx2 ho2 h92 fun B3 hx3 ho3 h93 => ⟨_, rfl, kpL (L := L1) (i := 4) hL1 rfl, ?_⟩⟩
    refine Eff.frameL hL1 (hoff1 ho3 h93) ((hmap.mono hx3).put (x := (0 : Int)) rfl fun om hm4 ho4' => ?_)
    have ho4 : Off L1 (B3.set X.m om) := ho4'
    have hmap4 : MS (fun v _ => v = .int .i64 0) (B3.set X.m om) X.m [(keyL [], (0 : Int))] := hm4
    have hσ4 : Ext σ (B3.set X.m om) := fun y u hy => by
      rw [Hp.set_ne (show y ≠ X.m from fun e => by rw [e, hm] at hy; cases hy)]; exact hx3 _ _ (hσ2 _ _ hy)
    have hrl4 : RdL (B3.set X.m om) q 0 [] := RdS.nil
    refine ⟨none, 0, 0, ldL (L := L1) (i := 3) hL1 rfl rfl, q, 0, d, ldL (L := L1) (i := 0) hL1 rfl rfl, fun b91 h91 => ?_⟩
    obtain ⟨n91, hB91⟩ := sets_none (L := L1) h91
    rw [sets_fresh n91]
    refine Eff.frameL hL1 (ho4.set n91) (copyL_eff hrl4 (by decide) (fun p5 c5 B5 ho5 hx5 hof5 => ⟨p5, 0, c5, rfl, kpL (L := L1) (i := 3) hL1 rfl, fun b96 h96 => ?_⟩) hB91)
    obtain ⟨n96, hB96⟩ := sets_none (L := L1) h96
    have hof5 : Off L1 B5 := hof5
    rw [sets_fresh n96]
    refine Eff.frameL hL1 (hof5.set n96) (app_eff (Own.nil (s := 2)) (q := some ⟨b96, 0, none⟩) (ys := [.slice p5 0 c5, .slice none 0 0]) ⟨rfl, by omega, .inr ⟨b96, 0, rfl, LdL.of_cells (c := [.slice p5 0 c5, .slice none 0 0]) (Hp.set_same _ _ _)⟩⟩ (fun u hu => by
      simp only [List.mem_cons, List.not_mem_nil, or_false] at hu
      rcases hu with rfl | rfl <;> rfl) (by decide) fun p6 c6 B6 ho6 hx6 hof6 => ⟨p6, 1, c6, rfl, ?_⟩)
    obtain ⟨b, o, rfl⟩ : ∃ b o, p6 = some ⟨b, o, none⟩ := by
      rcases ho6.2.2 with ⟨_, h2, _⟩ | ⟨b, o, _, _, hp, _⟩
      · cases h2
      · exact ⟨b, o, hp⟩
    have kk : ∀ y u, B5 y = some u → B6 y = some u ∧ y ≠ b := fun y u hy => by
      obtain ⟨a1, a2⟩ := del_some.1 (hx6 y u (del_some.2 ⟨fun a ha => (by cases ha), Ext.set hB96 _ _ hy⟩))
      exact ⟨a2, fun e => a1 _ rfl e⟩
    refine Eff.storeL (L := L1) (i := 3) (c := #[.slice none 0 0]) (c' := #[.slice (some ⟨b, o, none⟩) 1 c6]) size23s hL1 rfl rfl rfl rfl rfl ?_
    have hmk : ∃ u, B5 X.m = some u := by
      cases hh : B5 X.m with
      | none => exact absurd hh (hmap4.mono hx5).known
      | some u => exact ⟨u, rfl⟩
    obtain ⟨um, hum⟩ := hmk
    have hst : St σ B6 X.m b o c6 0 := ⟨fun y u hy => (kk y u (hx5 _ _ (hσ4 _ _ hy))).1, ⟨p5, c5, none, 0, [], ho6, Own.nil, fun a ha => (by cases ha)⟩, (hmap4.mono hx5).loc (by rw [(kk _ _ hum).1, hum]), ?_, hm, (kk _ _ hum).2⟩
    · exact rtail_spec hn2 (fun x hx => hof6 x (List.mem_cons_of_mem _ hx)) (hof6 b19 (List.mem_cons_self ..)) hst (by decide) fun B7 ho7 hst7 => next B7 b o c6 ho7 hst7
    · cases hh : σ b with
      | none => rfl
      | some u => exact absurd rfl (kk b u (hx5 _ _ (hσ4 _ _ hh))).2
  · refine (hst.map.mono hx2L).look2 (z := .int .i64 0) (fun w => by kernel_rfl) (fun hno => by simp [lookM] at hno) fun v' x' hh hv => ?_
    subst hv
    exact ⟨0, true, rfl, fun hh => (by cases hh), fun _ => rtail_spec hn2 ho2 h92 hst hk fun B3 ho3 hst3 => next B3 b o e ho3 hst3⟩
end
end TwW
end
section
namespace TwW
open Go Tw Go.RowKit Go.Proofs.Tryz
theorem asks0 : asksE T0 ss0 = 0 := by kernel_rfl
theorem rng1_spec [Cnt] {R : Ending → Hp → Prop} {σ : Hp} {p q : Option Addr} {c d : Nat} {p1 q1 : Option Addr} {n1 c1 m1 d1 : Nat} (h : ∀ σ', Ext σ σ' → R (.returned (.int .i64 0)) σ') : Spec prog 30 #[.agg #[.slice p 0 c, .slice p1 n1 c1], .agg #[.slice q 0 d, .slice q1 m1 d1]] σ R :=
  eval_Range_1.start fun _ _ => cmpL_spec (ls := []) (ms := []) RdS.nil RdS.nil fun σ' hx => ⟨_, rfl, h σ' hx⟩
theorem gen2_spec {R : Ending → Hp → Prop} {σ0 : Hp} {b1 b2 b3 l : Nat} {I : Nat → Hp → Prop} (h0 : I 0 σ0) (hI : ∀ j σ, I j σ → Hp.ld σ ⟨b1, 0, none⟩ = some (.int .i64 0) ∧ Hp.ld σ ⟨b2, 0, none⟩ = some (.int .i64 60) ∧ Hp.ld σ ⟨b3, 0, none⟩ = some (.int .i64 60))
    (s0 : ∀ σ, I 0 σ → YSpec prog l #[.int .i64 0] σ (fun e σ' => e = .returned (.bool true) ∧ I 1 σ')) (s1 : ∀ σ, I 1 σ → YSpec prog l #[.int .i64 60] σ (fun e σ' => e = .returned (.bool true) ∧ I 2 σ')) (hend : ∀ σ, I 2 σ → R (.returned (.tuple #[])) σ) :
    Spec prog 45 #[.func (.yield l) #[] #[], .pointer (aD b1 0), .pointer (aD b2 0), .pointer (aD b3 0)] σ0 R := by
  obtain ⟨a1, a2, a3⟩ := hI 0 σ0 h0
  refine eval_moments_1.start ⟨0, a1, eval_moments_1.pt6_of ⟨l, rfl, (s0 σ0 h0).mono fun e σ1 he => ?_⟩⟩
  obtain ⟨rfl, hi⟩ := he
  obtain ⟨c1, c2, c3⟩ := hI 1 σ1 hi
  refine ⟨true, rfl, fun _ => ⟨60, c2, 60, c3, by unfold I64; omega, fun _ => ⟨60, c2, by unfold I64; omega, eval_moments_1.pt6_of ⟨l, rfl, (s1 σ1 hi).mono fun e σ2 he => ?_⟩⟩, fun hh => absurd (by decide) hh⟩, fun hh => absurd hh (by decide)⟩
  obtain ⟨rfl, hi2⟩ := he
  obtain ⟨d1, d2, d3⟩ := hI 2 σ2 hi2
  exact ⟨true, rfl, fun _ => ⟨60, d2, 60, d3, by unfold I64; omega, fun hh => absurd hh (by decide), fun _ => hend σ2 hi2⟩, fun hh => absurd hh (by decide)⟩
section
variable {σ : Hp} {R : Ending → Hp → Prop}
theorem swo0 : Sort.SWO (Proofs.ltOf fun (_ _ : Unit) => (0 : Int)) := ⟨fun _ => rfl, fun _ _ _ h => (by cases h), fun _ _ _ _ _ => rfl⟩
theorem rng_spec {p q : Option Addr} {n c k d : Nat} (hg : Gl σ) (hr : RdS 10 ENd σ p n T0) (hs : RdS 2 ESr σ q k ss0) (h : ∀ b o e p2 c2 σ', Ext σ σ' → Hp.ld σ' ⟨b, o + 1, none⟩ = some (.slice p2 2 c2) → R (.returned (.tuple #[.slice (some ⟨b, o, none⟩) 1 e, .int .i64 0])) σ') :
    Spec prog 18 #[.slice p n c, .slice q k d, .int .i64 0, .int .i64 60, .int .i64 60] σ R := by
  refine eval_Range.start fun b5 hb5 b6 hb6 b10 hb10 b11 hb11 => ?_
  let L1 : List (Nat × Obj) := [(b5, .cells #[.slice p n c] 22 (0, 0))]
  let L2 : List (Nat × Obj) := (b6, .cells #[.slice q k d] 23 (0, 0)) :: L1
  let L3 : List (Nat × Obj) := (b10, .cells #[.slice none 0 0] 23 (0, 0)) :: L2
  let L4 : List (Nat × Obj) := (b11, .cells #[.int .i64 0] 24 (0, 0)) :: L3
  obtain ⟨n6, h6⟩ := sets_none (L := L1) hb6
  obtain ⟨n10, h10⟩ := sets_none (L := L2) hb10
  obtain ⟨n11, h11⟩ := sets_none (L := L3) hb11
  have hn4 : (names L4).Nodup := List.nodup_cons.2 ⟨n11, List.nodup_cons.2 ⟨n10, List.nodup_cons.2 ⟨n6, by simp [L1, names]⟩⟩⟩
  have ho4 : Off L4 σ := fun b hb => by
    simp only [L4, L3, L2, L1, names, List.map_cons, List.map_nil, List.mem_cons, List.not_mem_nil, or_false] at hb
    rcases hb with rfl | rfl | rfl | rfl
    · exact h11
    · exact h10
    · exact h6
    · exact hb5
  refine ⟨p, n, c, ldL (L := L4) (i := 3) hn4 rfl rfl, q, k, d, ldL (L := L4) (i := 2) hn4 rfl rfl, ?_⟩
  show Spec prog 10 #[.slice p n c, .slice q k d] (sets σ L4) _
  refine Spec.frameL hn4 ho4 (asks_spec hr hs modest0 fun σ1 hx1 hoff1 => ⟨_, rfl, fun hne => absurd asks0 hne, fun _ => time_spec ⟨_, rfl, fun hh => absurd hh (by decide), fun _ => time_spec ⟨_, rfl, fun hh => absurd hh (by decide), fun _ => ⟨fun hh => absurd hh (by decide), fun _ => ⟨fun hh => absurd hh (by decide), fun _ => ⟨by unfold I64; omega, by decide, fun x49 e49 => ⟨fun hh => ?_, fun _ => ?_⟩⟩⟩⟩⟩⟩⟩)
  · have e1 : x49 = 1 := e49.trans (by decide)
    rw [e1] at hh; exact absurd hh (by decide)
  have hoff1 : Off L4 σ1 := hoff1
  refine Eff.frameL hn4 hoff1 (makeMap_eff fun m hm hoffm => ⟨m, rfl, fun b13 hb13 => ?_⟩)
  have hoffm : Off L4 (σ1.set m (.map #[] 0)) := hoffm
  have xm := Ext.set (o := .map #[] 0) hm
  have hσm : σ m = none := ext_none hx1 hm
  obtain ⟨n13, h13⟩ := sets_none (L := L4) hb13
  let L5 : List (Nat × Obj) := (b13, .cells #[.map none] 85 (0, 0)) :: L4
  let L5' : List (Nat × Obj) := (b13, .cells #[.map (some m)] 85 (0, 0)) :: L4
  have hn5 : (names L5').Nodup := List.nodup_cons.2 ⟨n13, hn4⟩
  show Eff prog (Instr.storeAt 85 (.pointer (some ⟨b13, 0, none⟩)) (.map (some m))) (sets (σ1.set m (.map #[] 0)) L5) _
  refine Eff.storeL (L := L5) (i := 0) (c := #[.map none]) (c' := #[.map (some m)]) (fun w => by kernel_rfl) (List.nodup_cons.2 ⟨n13, hn4⟩) rfl rfl rfl rfl rfl fun b14 hb14 => ?_
  obtain ⟨n14, h14⟩ := sets_none (L := L5') hb14
  let L6 : List (Nat × Obj) := (b14, .cells #[.slice none 0 0] 23 (0, 0)) :: L5'
  have hn6 : (names L6).Nodup := List.nodup_cons.2 ⟨n14, hn5⟩
  have ho6 : Off L6 (σ1.set m (.map #[] 0)) := fun b hb => by
    rcases List.mem_cons.1 hb with rfl | hb
    · exact h14
    rcases List.mem_cons.1 hb with rfl | hb
    · exact h13
    exact hoffm b hb
  show Spec prog 27 #[.int .i64 0, .int .i64 60, .int .i64 60] (sets (σ1.set m (.map #[] 0)) L6) _
  refine Spec.frameL hn6 ho6 (eval_moments.start fun c3 hc3 c4 hc4 c5 hc5 hoffB => ⟨_, _, _, rfl, _, _, rfl, eval_moments_1.en, fun D l r0 hDl hD hl hy => ?_⟩)
  have hoffB : Off L6 ((((σ1.set m (.map #[] 0)).set c3 (.cells #[.int .i64 0] 2 (0, 0))).set c4 (.cells #[.int .i64 60] 2 (0, 0))).set c5 (.cells #[.int .i64 60] 2 (0, 0))) := hoffB
  have x3 := Ext.set (o := .cells #[.int .i64 0] 2 (0, 0)) hc3
  have x4 := Ext.set (o := .cells #[.int .i64 60] 2 (0, 0)) hc4
  have x5 := Ext.set (o := .cells #[.int .i64 60] 2 (0, 0)) hc5
  have g3 := (x4.trans x5) c3 _ (Hp.set_same _ _ _)
  have g4 := x5 c4 _ (Hp.set_same _ _ _)
  have g5 : ((((σ1.set m (.map #[] 0)).set c3 (.cells #[.int .i64 0] 2 (0, 0))).set c4 (.cells #[.int .i64 60] 2 (0, 0))).set c5 (.cells #[.int .i64 60] 2 (0, 0))) c5 = some (.cells #[.int .i64 60] 2 (0, 0)) := Hp.set_same _ _ _
  have gmap : MS (fun v _ => v = .int .i64 0) _ m ([] : List (ByteArray × Int)) := (MS.fresh (E := fun v _ => v = .int .i64 0) (σ := σ1)).mono (x3.trans (x4.trans x5))
  have gm := (x3.trans (x4.trans x5)) m _ (Hp.set_same _ _ _)
  have hxB := hx1.trans (xm.trans (x3.trans (x4.trans x5)))
  generalize hB0 : ((((σ1.set m (.map #[] 0)).set c3 (.cells #[.int .i64 0] 2 (0, 0))).set c4 (.cells #[.int .i64 60] 2 (0, 0))).set c5 (.cells #[.int .i64 60] 2 (0, 0))) = B0 at *
  clear x3 x4 x5 hc3 hc4 hc5 xm
  obtain ⟨nD, hDB⟩ := sets_none (L := L6) hD
  obtain ⟨nl, hlB⟩ := sets_none (L := L6) hl
  let X : Bx := ⟨b5, b6, b10, b11, b13, b14, D, l, m, p, n, c, q, k, d, r0⟩
  have hX : X.nd := List.nodup_cons.2 ⟨fun hm => by
    rcases List.mem_cons.1 hm with e | hm
    · exact hDl e.symm
    · exact nl hm, List.nodup_cons.2 ⟨nD, hn6⟩⟩
  have hoX : X.off B0 := fun b hb => by
    rcases List.mem_cons.1 hb with rfl | hb
    · exact hlB
    rcases List.mem_cons.1 hb with rfl | hb
    · exact hDB
    exact hoffB b hb
  let σb := B0.del (some ⟨m, 0, none⟩)
  have hmb : σb m = none := by
    cases hh : σb m with
    | none => rfl
    | some u => exact absurd rfl ((del_some.1 hh).1 _ rfl)
  have xb : Ext σb B0 := Ext.of_del _ _
  have xσ : Ext σ σb := fun y u hy => del_some.2 ⟨fun a ha e => (by cases ha; rw [e, hσm] at hy; cases hy), hxB _ _ hy⟩
  have db : ∀ {y : Nat} {a : Array Value} {t : Nat}, B0 y = some (.cells a t (0, 0)) → σb y = some (.cells a t (0, 0)) := fun {y a t} hy => del_some.2 ⟨fun a' ha e => (by cases ha; rw [e, gm] at hy; cases hy), hy⟩
  show Spec prog 45 #[.func (.yield l) #[] #[], .pointer (aD c3 0), .pointer (aD c5 0), .pointer (aD c4 0)] (sets B0 (X.L none 0 0 (lp X.r0 .ready none))) _
  have xoff : ∀ {B w j e lo}, X.off B → Ext B (sets B (X.L w j e lo)) := fun {B w j e lo} ho => Off.ext (L := X.L w j e lo) hX ho
  have step : ∀ (x v : Int) (j : Nat), j ≤ 10 → 0 ≤ x ∧ x ≤ 60 → momentF FF T0 ss0 x = some [⟨[], v⟩] → ∀ σ', (∃ B w i e, σ' = sets B (X.L w i e (lp X.r0 .ready none)) ∧ X.off B ∧ Sta σb B X.m w i e j) → YSpec prog l #[.int .i64 x] σ' (fun e σ' => e = .returned (.bool true) ∧ ∃ B w i e, σ' = sets B (X.L w i e (lp X.r0 .ready none)) ∧ X.off B ∧ Sta σb B X.m w i e (j + 1)) := by
    rintro x v j hj hx hM _ ⟨B, w, i, e, rfl, hoB, hst⟩
    refine hy _ _ x (sets_get (L := X.L w i e (lp X.r0 .ready none)) (i := 0) hX rfl) ?_
    refine rpre_spec (X := X) hX hoB hst.ext (hg.mono xσ) (hr.mono ENd.mono xσ) (hs.mono ESr.mono xσ) hM hx fun B1 p1 c1 hx1 ho1 hrl => ?_
    exact relem_spec hX ho1 (hst.mono hx1) hj hrl fun B2 b o e2 ho2 hst2 => ⟨rfl, B2, _, 1, e2, rfl, ho2, .inr ⟨Nat.succ_pos _, b, o, rfl, rfl, hst2⟩⟩
  refine gen2_spec (I := fun j σ' => ∃ B w i e, σ' = sets B (X.L w i e (lp X.r0 .ready none)) ∧ X.off B ∧ Sta σb B X.m w i e j) ⟨B0, none, 0, 0, rfl, hoX, .inl ⟨rfl, rfl, rfl, rfl, xb, hmb, gmap⟩⟩ ?_ (step 0 v1 0 (by decide) (by decide) mom0) (step 60 v8 1 (by decide) (by decide) mom60) ?_
  · rintro j _ ⟨B, w, i, e, rfl, hoB, hst⟩
    have hx := hst.ext.trans (xoff (w := w) (j := i) (e := e) (lo := lp X.r0 .ready none) hoB)
    exact ⟨ld_of (hx _ _ (db g3)) rfl, ld_of (hx _ _ (db g5)) rfl, ld_of (hx _ _ (db g4)) rfl⟩
  rintro _ ⟨B, w, i, e, rfl, hoB, ⟨h0, _⟩ | ⟨_, b, o, rfl, rfl, hst⟩⟩
  · cases h0
  have eL : ∀ lo, (sets B (X.L (some ⟨b, o, none⟩) 1 e (lp X.r0 .ready none))).set l (.loop lo) = sets B (X.L (some ⟨b, o, none⟩) 1 e lo) := fun lo => Hp.set_set
  refine ⟨_, .ready, none, rfl, sets_get (L := X.L (some ⟨b, o, none⟩) 1 e (lp X.r0 .ready none)) (i := 0) hX rfl, by decide, .inl ⟨rfl, ?_⟩⟩
  rw [eL]
  have hXe : (names (X.L (some ⟨b, o, none⟩) 1 e (lp X.r0 .exhausted none))).Nodup := hX
  refine ⟨_, 1, e, ldL (L := X.L (some ⟨b, o, none⟩) 1 e (lp X.r0 .exhausted none)) (i := 2) hXe rfl rfl, ?_⟩
  obtain ⟨pl, cl, pp, cc, ds, k1, k2, k3⟩ := hst.own
  refine Spec.frameL hXe hoB (sortAny (ρ := Go.Proofs.Tryz.sortSr_ren) Go.Proofs.Tryz.sortSr (fun w => by kernel_rfl) (fun w => by kernel_rfl) (α := Unit) (enc := fun _ => [.slice pl 0 cl, .slice pp 2 cc]) (fun _ => rfl) (fun _ u hu => by
    simp only [List.mem_cons, List.not_mem_nil, or_false] at hu
    rcases hu with rfl | rfl <;> rfl) (cf := fun _ _ => (0 : Int)) swo0 (g := 30) (fun args w => call30 args w) (b := b) (o := o) (ds := [()]) k1 rfl (by decide) (by decide) (fun w hw x y => ?_) fun B1 ds' hp hpw hown hext hoff1 => ⟨rfl, ?_⟩)
  · exact Spec.grownX (R := fun e => e = .returned (.int .i64 0)) (@rng1_spec ⟨True⟩ _ _ _ _ _ _ _ _ _ _ _ _ fun σ' hx' => ⟨rfl, hx'⟩) hw
  have hds : ds' = [()] := by
    have := hp.length_eq
    match ds', this with
    | [()], _ => rfl
  subst hds
  have hXL : ∀ {w' j' e' lo'}, (names (X.L w' j' e' lo')).Nodup := hX
  refine ⟨_, 1, e, ldL (L := X.L (some ⟨b, o, none⟩) 1 e (lp X.r0 .exhausted none)) (i := 2) hXe rfl rfl, ?_⟩
  refine Eff.storeL (L := X.L (some ⟨b, o, none⟩) 1 e (lp X.r0 .exhausted none)) (i := 5) (c := #[.slice none 0 0]) (c' := #[.slice (some ⟨b, o, none⟩) 1 e]) size23s hXe rfl rfl rfl rfl rfl ?_
  let L7 : List (Nat × Obj) := (X.L (some ⟨b, o, none⟩) 1 e (lp X.r0 .exhausted none)).set 5 (X.b10, .cells #[.slice (some ⟨b, o, none⟩) 1 e] 23 (0, 0))
  let L8 : List (Nat × Obj) := L7.set 1 (X.D, .deferred none)
  refine Eff.storeL (L := L7) (i := 4) (c := #[.int .i64 0]) (c' := #[.int .i64 0]) size25s hX rfl rfl rfl rfl rfl ?_
  show ∃ pr10 : Option Addr, ∃ nr10 : Nat, ∃ cr10 : Nat, ∃ xr11 : Int, sets B1 L7 D = some (.deferred (some [])) ∧ Hp.ld ((sets B1 L7).set D (.deferred none)) ⟨b10, 0, none⟩ = some (.slice pr10 nr10 cr10) ∧ Hp.ld ((sets B1 L7).set D (.deferred none)) ⟨b11, 0, none⟩ = some (.int .i64 xr11) ∧ R (.returned (.tuple #[.slice pr10 nr10 cr10, .int .i64 xr11])) ((sets B1 L7).set D (.deferred none))
  rw [show (sets B1 L7).set D (.deferred none) = sets B1 L8 from sets_set (L := L7) (i := 1) hX rfl]
  refine ⟨some ⟨b, o, none⟩, 1, e, 0, sets_get (L := L7) (i := 1) hX rfl, ldL (L := L8) (i := 5) hX rfl rfl, ldL (L := L8) (i := 4) hX rfl rfl, ?_⟩
  have hoff8 : Off L8 B1 := hoff1
  have x8 : Ext B1 (sets B1 L8) := Off.ext (L := L8) hX hoff8
  refine h b o e pp cc _ (fun y u hyu => x8 _ _ ?_) ?_
  · refine (del_some.1 (hext y u (del_some.2 ⟨fun a ha e => ?_, hst.ext _ _ (xσ _ _ hyu)⟩))).2
    cases ha
    have := xσ _ _ hyu
    rw [e, hst.hb] at this; cases this
  · obtain ⟨_, _, h0 | ⟨b', o', hp, hl⟩⟩ := (Own.rd hown).mono x8
    · cases h0
    · cases hp
      exact hl.2.1
end
end TwW
end
section
namespace TwW
open Go Tw Go.RowKit Go.Proofs.Tryz
section
variable {σ : Hp} {R : Ending → Hp → Prop}
theorem one_spec {b : Nat} (h : R (.returned (.int .u64 b)) σ) : Spec prog 17 #[.float .f64 b] σ R := law22_one.start (.y fbits_yn ⟨_, rfl, h⟩)
set_option maxRecDepth 100000 in
theorem neq36 {x y : Operand} {a b a' b' : Int} : YF prog (do eqGuard .neq 39 x y (.agg #[.int .i64 a, .int .u64 b]) (.agg #[.int .i64 a', .int .u64 b']); binOp .neq 39 (.agg #[.int .i64 a, .int .u64 b]) (.agg #[.int .i64 a', .int .u64 b'])) σ (.bool (!(a == a' && b == b'))) := fun w _ => by
  have u1 := underlying2
  have u2 := underlying37
  have hS : prog.underlying 39 = some (.struct (prog.fieldsOf 39)) := by kernel_rfl
  have hp : prog.stoodInHeld 39 = false := by kernel_rfl
  have hf : (prog.fieldsOf 39).toList = [{ name := "T", type := 2, offset := 0, embedded := false, tag := "", pkgPath := "", byteOffset := 0 }, { name := "V", type := 37, offset := 1, embedded := false, tag := "", pkgPath := "", byteOffset := 8 }] := by kernel_rfl
  simp only [Sem.run_bind, run_eqGuard_agg _ _ _ _ _ _ _ (show prog.eqGuardType prog.depth 39 = false by kernel_rfl), Result.andThen_ok, run_neq_struct]
  rw [show (10000 : Nat) = 9999 + 1 from rfl, run_equalIn_agg w 9999 39 _ _ hS hp, hf]
  simp only [Op.eqFields]
  go_simp
  by_cases h1 : a = a' <;> by_cases h2 : b = b' <;> simp [h1, h2]
theorem samePt_spec {p p' : Option Addr} {n n' c c' : Nat} {ps : List Pt} (h1 : RdS 2 EPt σ p n ps) (h2 : RdS 2 EPt σ p' n' ps) (hR : R (.returned (.bool true)) σ) : Spec prog 20 #[.slice p n c, .slice p' n' c'] σ R := by
  have e1 : ps.length = n := h1.1
  have e2 : ps.length = n' := h2.1
  refine law0_SamePoints.start ⟨fun hne => absurd (by omega) hne, fun _ => ?_⟩
  suffices H : ∀ d i : Nat, n - i = d → i ≤ n → law0_SamePoints.pt17 R p n c p' n' c' i σ from H n 0 rfl (Nat.zero_le _)
  intro d
  induction d with
  | zero => exact fun i hd hi => law0_SamePoints.pt17_of ⟨fun hlt => by omega, fun _ => hR⟩
  | succ d ih =>
    intro i hd hi
    obtain ⟨x, hx⟩ := h1.ex (show i < n by omega)
    obtain ⟨b, o, rfl, l1⟩ := EPt.at h1 hx
    obtain ⟨b', o', rfl, l2⟩ := EPt.at h2 hx
    exact law0_SamePoints.pt17_of ⟨fun _ => ⟨b, o, rfl, by omega, x.1, x.2, by simpa using l1, b', o', rfl, by omega, x.1, x.2, by simpa using l2, _, neq36, fun hh => by simp at hh, fun _ => ⟨i64_succ (by omega) h1.big, ih (i + 1) (by omega) (by omega)⟩⟩, fun hh => by omega⟩
theorem i64z : I64 ((0 : Int) + 0) := by unfold I64; omega
theorem i64z3 : I64 ((0 : Int) + 0 + 300) := by unfold I64; omega
theorem win_spec {p : Option Addr} {n c : Nat} (hr : RdS 10 ENd σ p n T0) (h : ∀ σ', Ext σ σ' → R (.returned (.tuple #[.int .i64 300, .int .i64 0])) σ') : Spec prog 19 #[.slice p n c] σ R := by
  have hn : 2 = n := hr.1
  subst hn
  refine eval_Window.start (check_spec hr (by decide) modest0.tx (fun k σ' hk hx => ⟨_, _, _, rfl, fun hh => absurd rfl hh, fun _ => ?_⟩) fun k j e σ' hk => by rw [ty0] at hk; cases hk)
  have hr1 := hr.mono ENd.mono hx
  obtain ⟨b, o, p1, k1, c1, q1, m1, d1, rfl, hl0, _, _⟩ := ENd.at hr1 (i := 0) (x := nV) rfl
  obtain ⟨b', o', p2, k2, c2, q2, m2, d2, he, hl1, _, _⟩ := ENd.at hr1 (i := 1) (x := nA) rfl
  cases he
  refine eval_Window.pt20_of ⟨fun _ => ⟨b, o, rfl, by decide, _, _, _, _, _, _, _, _, _, _, _, _, _, _, hl0, fun _ => ⟨fun hh => absurd rfl hh, fun _ => ⟨i64z, fun _ => ⟨i64z3, eval_Window.pt44_of ?_⟩, fun hh => absurd rfl hh⟩⟩⟩, fun hh => absurd (by decide) hh⟩
  refine ⟨fun _ => eval_Window.pt51_of (eval_Window.pt52_of ⟨by unfold I64; omega, eval_Window.pt20_of ⟨fun _ => ⟨b, o, rfl, by decide, _, _, _, _, _, _, _, _, _, _, _, _, _, _, hl1, fun _ => ⟨fun _ => ⟨fun _ => eval_Window.pt52_of ⟨by unfold I64; omega, eval_Window.pt20_of ⟨fun hh => absurd hh (by decide), fun _ => h _ hx⟩⟩, fun hh => absurd (by decide) hh⟩, fun hh => absurd (by decide) hh⟩⟩, fun hh => absurd (by decide) hh⟩⟩), fun hh => by cases hh⟩
theorem ext_setS {σ : Hp} {b : Nat} {o : Obj} (h : σ b = none) : Ext σ (σ.set b o) ∧ σ.set b o b = some o := ⟨.set h, Hp.set_same _ _ _⟩
theorem rd_lit {α : Type} {s b n : Nat} {T : TypeId} {E : Hp → List Value → α → Prop} {cs : List Value} {xs : List α} (h : σ b = some (.cells cs.toArray T (0, 0))) (hl : cs.length = n * s) (hn : xs.length = n) (hb : n ≤ 1000) (hE : ∀ (i : Nat) (x : α), xs[i]? = some x → E σ ((cs.drop (i * s)).take s) x) : RdS s E σ (aD b 0) n xs :=
  ⟨hn, cs, ⟨hl, by omega, .inr ⟨b, 0, rfl, LdL.of_cells h⟩⟩, by rw [hl, hn], hE⟩
theorem awake_spec : Awk := fun σ R hg h => by
  refine law22_awake.start fun b11 h11 => one_spec ⟨_, rfl, one_spec ⟨_, rfl, fun b16 h16 b20 h20 => one_spec ⟨_, rfl, fun b23 h23 b25 h25 b27 h27 b30 h30 => ?_⟩⟩⟩
  have x11 := Ext.set (o := .cells #[(.string (ByteArray.mk #[95, 95, 110, 97, 109, 101, 95, 95])), (.string (ByteArray.mk #[120])), (.string (ByteArray.mk #[97])), (.string (ByteArray.mk #[49]))] 58 (0, 0)) h11
  have x16 := Ext.set (o := .cells #[.int .i64 0, .int .u64 v1, .int .i64 60, .int .u64 v3] 39 (0, 0)) h16
  have x20 := Ext.set (o := .cells #[(.string (ByteArray.mk #[95, 95, 110, 97, 109, 101, 95, 95])), (.string (ByteArray.mk #[120])), (.string (ByteArray.mk #[97])), (.string (ByteArray.mk #[50]))] 58 (0, 0)) h20
  have x23 := Ext.set (o := .cells #[.int .i64 60, .int .u64 v5] 39 (0, 0)) h23
  have x25 := Ext.set (o := .cells #[(.slice (aD b11 0) 2 2), (.slice (aD b16 0) 2 2), (.slice (aD b20 0) 2 2), (.slice (aD b23 0) 1 1)] 36 (0, 0)) h25
  have x27 := Ext.set (o := .cells #[.int .i64 1, (.string (ByteArray.mk #[95, 95, 110, 97, 109, 101, 95, 95])), (.string (ByteArray.mk #[120]))] 62 (0, 0)) h27
  obtain ⟨x30, g30⟩ := ext_setS (o := .cells #[.int .i64 2, .int .i64 0, (.string (ByteArray.mk #[])), (.slice (aD b27 0) 1 1), .int .i64 0, .int .i64 0, .int .i64 0, .slice none 0 0, .bool false, .int .i64 0, .int .i64 5, .int .i64 1, (.string (ByteArray.mk #[])), .slice none 0 0, .int .i64 0, .int .i64 0, .int .i64 0, .slice none 0 0, .bool false, .int .i64 1] 52 (0, 0)) h30
  have g11 := (x16.trans (x20.trans (x23.trans (x25.trans (x27.trans x30))))) b11 _ (Hp.set_same _ _ _)
  have g16 := (x20.trans (x23.trans (x25.trans (x27.trans x30)))) b16 _ (Hp.set_same _ _ _)
  have g20 := (x23.trans (x25.trans (x27.trans x30))) b20 _ (Hp.set_same _ _ _)
  have g23 := (x25.trans (x27.trans x30)) b23 _ (Hp.set_same _ _ _)
  have g25 := (x27.trans x30) b25 _ (Hp.set_same _ _ _)
  have g27 := x30 b27 _ (Hp.set_same _ _ _)
  have hx := x11.trans (x16.trans (x20.trans (x23.trans (x25.trans (x27.trans x30)))))
  change Spec prog 4 #[.slice (aD b30 0) 2 2, .slice (aD b25 0) 2 2, .int .i64 60] (Hp.set _ b30 _) _
  generalize hτ : Hp.set _ b30 _ = τ at *
  have rA : RdL τ (aD b11 0) 2 lab1 := rd_lit g11 rfl rfl (by decide) fun i x hx => match i, hx with
    | 0, hx => by cases hx; rfl
    | 1, hx => by cases hx; rfl
    | i + 2, hx => by simp [lab1] at hx
  have rB : RdL τ (aD b20 0) 2 lab2 := rd_lit g20 rfl rfl (by decide) fun i x hx => match i, hx with
    | 0, hx => by cases hx; rfl
    | 1, hx => by cases hx; rfl
    | i + 2, hx => by simp [lab2] at hx
  have rP : RdS 2 EPt τ (aD b16 0) 2 [(0, v1), (60, v3)] := rd_lit g16 rfl rfl (by decide) fun i x hx => match i, hx with
    | 0, hx => by cases hx; rfl
    | 1, hx => by cases hx; rfl
    | i + 2, hx => by simp at hx
  have rQ : RdS 2 EPt τ (aD b23 0) 1 [(60, v5)] := rd_lit g23 rfl rfl (by decide) fun i x hx => match i, hx with
    | 0, hx => by cases hx; rfl
    | i + 1, hx => by simp at hx
  have rS : RdS 2 ESr τ (aD b25 0) 2 ss0 := rd_lit g25 rfl rfl (by decide) fun i x hx => match i, hx with
    | 0, hx => by cases hx; exact ⟨_, _, _, _, _, _, rfl, rA, rP, by decide⟩
    | 1, hx => by cases hx; exact ⟨_, _, _, _, _, _, rfl, rB, rQ, by decide⟩
    | i + 2, hx => by simp [ss0] at hx
  have rM : RdS 3 EMt τ (aD b27 0) 1 [⟨1, kName, sX⟩] := rd_lit g27 rfl rfl (by decide) fun i x hx => match i, hx with
    | 0, hx => by cases hx; rfl
    | i + 1, hx => by simp at hx
  have rN : RdC 1 τ none 0 (([] : List ByteArray).map .string) := ⟨rfl, by decide, .inl rfl⟩
  have rT : RdS 10 ENd τ (aD b30 0) 2 T0 := rd_lit g30 rfl rfl (by decide) fun i x hx => match i, hx with
    | 0, hx => by cases hx; exact ⟨_, _, _, _, _, _, rfl, rM, rN⟩
    | 1, hx => by cases hx; exact ⟨_, _, _, _, _, _, rfl, RdS.nil, rN⟩
    | i + 2, hx => by simp [T0] at hx
  have hgτ := hg.mono hx
  refine inst_spec hgτ rT rS modest0 (fun τ1 p' n' c' σ1 bs h0 hA hx1 => ⟨_, _, _, _, rfl, ?_⟩) fun σ1 hne => absurd (by rw [inst60]) hne
  rw [inst60] at hA
  have X1 := hx1.trans hA.ext
  refine rng_spec (hgτ.mono X1) (rT.mono ENd.mono X1) (rS.mono ESr.mono X1) fun b o e p2 c2 σ2 hx2 hl2 => ⟨_, _, _, _, rfl, win_spec (rT.mono ENd.mono (X1.trans hx2)) fun σ3 hx3 => ⟨_, _, rfl, ?_⟩⟩
  have hA3 := (hA.mono (hx2.trans hx3)).rd
  have hn1 : 1 = n' := hA3.1
  subst hn1
  obtain ⟨b57, o57, p1, n1, c1, q1, m1, d1, rfl, hl, _, hr2, _⟩ := ESr.at hA3 (i := 0) (s := ⟨[], [(60, v8)]⟩) rfl
  have hm1 : 1 = m1 := hr2.1
  subst hm1
  refine ⟨fun _ => ⟨fun _ => ⟨b57, o57, rfl, by decide, q1, 1, d1, by simpa using hl.2.1, one_spec ⟨_, rfl, .of_ext (.refl _), fun b62 h62 => ?_⟩⟩, fun hh => absurd rfl hh⟩, fun hh => absurd rfl hh⟩
  obtain ⟨x62, g62⟩ := ext_setS (o := .cells #[.int .i64 60, .int .u64 v8] 39 (0, 0)) h62
  refine samePt_spec (ps := [(60, v8)]) (hr2.mono EPt.mono x62) (rd_lit g62 rfl rfl (by decide) fun i x hx => match i, hx with
    | 0, hx => by cases hx; rfl
    | i + 1, hx => by simp at hx) ⟨_, rfl, fun _ => ⟨fun _ => ⟨fun _ => ⟨b, o, rfl, by decide, p2, 2, c2, (hx3.trans x62).ld hl2, fun _ => ⟨fun _ => ?_, fun hh => absurd rfl hh⟩, fun hh => absurd rfl hh⟩, fun hh => absurd rfl hh⟩, fun hh => absurd rfl hh⟩, fun hh => by cases hh⟩
  exact h _ (hx.trans (X1.trans (hx2.trans (hx3.trans x62))))
end
end TwW
end
section
namespace TwW.Rw
open Go Tw Go.RowKit Go.ChangeShapes Go.WideShapes Go.ChangeAt Go.Deep Go.Proofs.Tryz Go.Proofs.YtfjmoojdchmakaaGreatDoor
theorem own : ownKnob prog.godebug = none := by kernel_rfl
theorem laidOut : laidOutB prog = true := by kernel_rfl
theorem bulk_pos {H : Type} (d : DataW H) : 1 ≤ Rows.uptoBulk d := by
  cases d with
  | lit l => cases l <;> simp [Rows.uptoBulk]
  | _ => simp [Rows.uptoBulk]
theorem bulk_part {H : Type} {d : DataW H} : ∀ {l : List (DataW H)}, d ∈ l → Rows.uptoBulk d ≤ Rows.uptoBulkAll l
  | x :: l, h => by
    simp only [Rows.uptoBulkAll]
    rcases List.mem_cons.1 h with rfl | h
    · omega
    · have := bulk_part h; omega
theorem bulk_append {H : Type} (l r : List (DataW H)) : Rows.uptoBulkAll (l ++ r) = Rows.uptoBulkAll l + Rows.uptoBulkAll r := by
  induction l with
  | nil => simp [Rows.uptoBulkAll]
  | cons x l ih => simp only [List.cons_append, Rows.uptoBulkAll, ih]; omega
theorem bulk_len {H : Type} (l : List (DataW H)) : l.length ≤ Rows.uptoBulkAll l := by
  induction l with
  | nil => simp
  | cons x l ih => have := bulk_pos x; simp only [Rows.uptoBulkAll, List.length_cons]; omega
def RdtB {α : Type} (t : TypeId) (E : Hp → List Value → α → Prop) (I : α → Prop) (sz : α → Nat) : Prop :=
  ∀ {H : Type} {enc : TypeId × Value → H} {w : World} {base : Nat} {sp : Nat → Bool} {held : Bool} {fuel : Nat} {cs : List Value} {x : DataW H × List MemPlace},
    DataW.trod enc prog w base sp held fuel t cs = some x → Rows.uptoBulk x.1 ≤ 1048576 → ∃ y, E (full w) cs y ∧ I y ∧ sz y ≤ Rows.uptoBulk x.1
theorem mkB {α : Type} {s : Nat} {E : Hp → List Value → α → Prop} {I : α → Prop} {sz : α → Nat} {σ : Hp} {b o : Nat} {H : Type} {D : Nat → DataW H} : ∀ {n : Nat}, n ≤ 4611686018427387904 → (∀ i, i < n → ∃ vs x, vs.length = s ∧ LdL σ b (o + i * s) vs ∧ E σ vs x ∧ I x ∧ sz x ≤ Rows.uptoBulk (D i)) →
    ∃ xs, RdS s E σ (some ⟨b, o, none⟩) n xs ∧ (∀ x ∈ xs, I x) ∧ (xs.map sz).sum ≤ Rows.uptoBulkAll ((List.range n).map D)
  | 0, _, _ => ⟨[], RdS.nil, by simp, by simp⟩
  | n + 1, hn, h => by
    obtain ⟨xs, ⟨h1, cs, ⟨hl, _, h2⟩, h3⟩, hI, hs⟩ := mkB (n := n) (D := D) (by omega) (fun i hi => h i (by omega))
    obtain ⟨vs, x, hv, hld, hE, hx, hz⟩ := h n (by omega)
    have hcs : LdL σ b o cs := by
      rcases h2 with rfl | ⟨b', o', hp, hl'⟩
      · have : cs = [] := List.eq_nil_of_length_eq_zero (by simpa using hl)
        subst this; trivial
      · cases hp; exact hl'
    refine ⟨xs ++ [x], ⟨by simp [h1], cs ++ vs, ⟨by rw [List.length_append, hl, hv, Nat.add_mul]; omega, hn, .inr ⟨b, o, rfl, hcs.snoc (by rw [hl]; exact hld)⟩⟩, h3.snoc hv hE⟩, fun y hy => ?_, ?_⟩
    · rcases List.mem_append.1 hy with hy | hy
      · exact hI y hy
      · simp at hy; subst hy; exact hx
    · rw [List.range_succ, List.map_append, List.map_append, bulk_append, List.sum_append]
      simp only [List.map_cons, List.map_nil, List.sum_cons, List.sum_nil, Rows.uptoBulkAll]
      omega
def ESc {α : Type} (s : Nat) (E : Hp → List Value → α → Prop) (σ : Hp) (vs : List Value) (xs : List α) : Prop := ∃ p n c, vs = [.slice p n c] ∧ n ≤ c ∧ RdS s E σ p n xs
theorem RdtB.slice {α : Type} {t e : TypeId} {s : Nat} {E : Hp → List Value → α → Prop} {I : α → Prop} {sz : α → Nat} (ht : prog.underlying t = some (.slice e)) (hs : prog.cellsOf e = s) (hs0 : 0 < s) (he : RdtB e E I sz) :
    RdtB t (ESc s E) (fun xs => ∀ x ∈ xs, I x) (fun xs => (xs.map sz).sum + 1) := by
  intro H enc w base sp held fuel cs x h hw
  subst hs
  rcases open_slice ht h with ⟨rfl, rfl⟩ | ⟨a, len, cap, m, n, D, Pl, rfl, hb, hl, hm, hmm, rfl, hi⟩
  · exact ⟨[], ⟨none, 0, 0, rfl, Nat.le_refl _, RdS.nil⟩, by simp, by simp [Rows.uptoBulk]⟩
  · have hlm : len ≤ m := by rw [hmm]; split <;> omega
    have hbk : Rows.uptoBulkAll ((List.range len).map D) + 1 ≤ Rows.uptoBulk (DataW.slice ((List.range len).map D) ((List.range (m - len)).map fun j => D (len + j))) := by
      simp only [Rows.uptoBulk]; omega
    have hlen := bulk_len ((List.range len).map D)
    rw [List.length_map, List.length_range] at hlen
    have hwD : ∀ i, i < len → Rows.uptoBulk (D i) ≤ 1048576 := fun i hi' => by
      have := bulk_part (List.mem_map.2 ⟨i, List.mem_range.2 hi', rfl⟩ : D i ∈ (List.range len).map D)
      simp only at hw
      omega
    by_cases h0 : len = 0
    · subst h0
      exact ⟨[], ⟨some a, 0, cap, rfl, Nat.zero_le _, RdS.nil⟩, by simp, by simp only [Rows.uptoBulk, List.map_nil, List.sum_nil]; omega⟩
    · have hspot : a.spot = none := by
        obtain ⟨cs', hc, _⟩ := hi 0 (by omega)
        obtain ⟨_, hcl, hat⟩ := World.cells?_some hc
        have h1 := hat 0 hs0
        rw [List.getElem?_eq_getElem (by omega)] at h1
        have := cell_spot h1
        simpa [Addr.add] using this
      obtain ⟨b, o, sp'⟩ := a
      simp only at hspot
      subst hspot
      obtain ⟨xs, hr, hI, hz⟩ := mkB (s := prog.cellsOf e) (E := E) (I := I) (sz := sz) (σ := full w) (b := b) (o := o) (D := D) (n := len) (by simp only at hw; omega) (fun i hi' => by
        obtain ⟨cs', hc, ht'⟩ := hi i (by omega)
        obtain ⟨_, hcl, hat⟩ := World.cells?_some hc
        obtain ⟨y, hE, hy, hyz⟩ := he ht' (hwD i hi')
        refine ⟨cs', y, hcl, LdL.of fun j v hj => ?_, hE, hy, hyz⟩
        have hj' : j < prog.cellsOf e := by have := (List.getElem?_eq_some_iff.1 hj).1; omega
        have h1 := hat j hj'
        rw [hj, add_off, add_off] at h1
        exact full_ld h1)
      exact ⟨xs, ⟨some ⟨b, o, none⟩, len, cap, rfl, hl, hr⟩, hI, by simp only at hz hbk ⊢; omega⟩
def ETx1 (_ : Hp) (vs : List Value) (s : ByteArray) : Prop := vs = [.string s]
theorem RdtB.str {t : TypeId} (ht : prog.underlying t = some .string) : RdtB t ETx1 (fun s => s.size ≤ 1048576) (fun s => s.size + 1) := fun h hw => by
  obtain ⟨n, rfl, rfl, _⟩ := DataW.trod_string ht h
  have e : n.data.toList.length = n.size := Array.length_toList
  have hw : n.data.toList.length + 1 ≤ 1048576 := hw
  rw [e] at hw
  exact ⟨n, rfl, by omega, show n.size + 1 ≤ n.data.toList.length + 1 by rw [e]; exact Nat.le_refl _⟩
theorem bulk_in {H : Type} {l : List (DataW H)} {d : DataW H} (h : Rows.uptoBulk (DataW.agg l) ≤ 1048576) (hd : d ∈ l) : Rows.uptoBulk d ≤ 1048576 := by
  have := bulk_part hd
  simp only [Rows.uptoBulk] at h
  omega
theorem sum_one {α : Type} : ∀ l : List α, (l.map fun _ => 1).sum = l.length := fun l => by induction l with
  | nil => rfl
  | cons a l ih => simp; omega
theorem RdtB.len {α : Type} {t e : TypeId} {s : Nat} {E : Hp → List Value → α → Prop} {I : α → Prop} (ht : prog.underlying t = some (.slice e)) (hs : prog.cellsOf e = s) (hs0 : 0 < s) (he : RdtB e E I (fun _ => 1)) :
    RdtB t (ESc s E) (fun xs => (∀ x ∈ xs, I x) ∧ xs.length ≤ 1048576) (fun _ => 1) := fun h hw => by
  obtain ⟨xs, h1, h2, h3⟩ := RdtB.slice ht hs hs0 he h hw
  dsimp only at h3
  rw [sum_one] at h3
  exact ⟨xs, h1, ⟨h2, by omega⟩, bulk_pos _⟩
theorem RdtB.one {α : Type} {t : TypeId} {E : Hp → List Value → α → Prop} {I : α → Prop} {sz : α → Nat} (h : RdtB t E I sz) : RdtB t E I (fun _ => 1) := fun h1 hw => by
  obtain ⟨y, a, b, c⟩ := h h1 hw
  exact ⟨y, a, b, bulk_pos _⟩
set_option maxRecDepth 100000
set_option linter.unusedSimpArgs false
theorem rdt_pt : RdtB 39 EPt (fun p => 0 ≤ p.2) (fun _ => 1) := by
  intro H enc w base sp held fuel cs x h hw
  obtain ⟨xs, n, _, rfl, hlen, hxl, hg⟩ := DataW.trod_struct underlying39 h
  rw [show prog.cellsOf 39 = 2 by kernel_rfl] at hlen
  match cs, hlen, xs, hxl with
  | [c0, c1], _, [y0, y1], _ =>
    have h0 := hg 0 _ rfl
    have h1 := hg 1 _ rfl
    simp only [show prog.cellsOf 2 = 1 by kernel_rfl, show prog.cellsOf 37 = 1 by kernel_rfl, List.drop, List.take, List.getElem?_cons_zero, List.getElem?_cons_succ] at h0 h1
    obtain ⟨a, e0, _, _⟩ := DataW.trod_int underlying2 h0
    obtain ⟨b, e1, _, wb⟩ := DataW.trod_int underlying37 h1
    cases e0; cases e1
    refine ⟨(a, b), rfl, ?_, bulk_pos _⟩
    simp [Lit.wf, IntKind.min, IntKind.max, IntKind.signed, IntKind.bits] at wb
    exact wb.1
theorem rdt_lb : RdtB 58 ELb (fun _ => True) (fun _ => 1) := by
  intro H enc w base sp held fuel cs x h hw
  obtain ⟨xs, n, _, rfl, hlen, hxl, hg⟩ := DataW.trod_struct underlying58 h
  rw [show prog.cellsOf 58 = 2 by kernel_rfl] at hlen
  match cs, hlen, xs, hxl with
  | [c0, c1], _, [y0, y1], _ =>
    have h0 := hg 0 _ rfl
    have h1 := hg 1 _ rfl
    simp only [show prog.cellsOf 9 = 1 by kernel_rfl, List.drop, List.take, List.getElem?_cons_zero, List.getElem?_cons_succ] at h0 h1
    obtain ⟨a, e0, _⟩ := DataW.trod_string underlying9 h0
    obtain ⟨b, e1, _⟩ := DataW.trod_string underlying9 h1
    cases e0; cases e1
    exact ⟨(a, b), rfl, trivial, bulk_pos _⟩
theorem rdt_mt : RdtB 62 EMt (fun _ => True) (fun _ => 1) := by
  intro H enc w base sp held fuel cs x h hw
  obtain ⟨xs, n, _, rfl, hlen, hxl, hg⟩ := DataW.trod_struct underlying62 h
  rw [show prog.cellsOf 62 = 3 by kernel_rfl] at hlen
  match cs, hlen, xs, hxl with
  | [c0, c1, c2], _, [y0, y1, y2], _ =>
    have h0 := hg 0 _ rfl
    have h1 := hg 1 _ rfl
    have h2 := hg 2 _ rfl
    simp only [show prog.cellsOf 9 = 1 by kernel_rfl, show prog.cellsOf 3 = 1 by kernel_rfl, List.drop, List.take, List.getElem?_cons_zero, List.getElem?_cons_succ] at h0 h1 h2
    obtain ⟨z, e0, _⟩ := DataW.trod_int underlying3 h0
    obtain ⟨a, e1, _⟩ := DataW.trod_string underlying9 h1
    obtain ⟨b, e2, _⟩ := DataW.trod_string underlying9 h2
    cases e0; cases e1; cases e2
    exact ⟨⟨z, a, b⟩, rfl, trivial, bulk_pos _⟩
def LenI {α : Type} (I : α → Prop) (xs : List α) : Prop := (∀ x ∈ xs, I x) ∧ xs.length ≤ 1048576
theorem rdt_ls : RdtB 33 (ESc 2 ELb) (LenI fun _ => True) (fun _ => 1) := RdtB.len (s := 2) underlying33 (by kernel_rfl) (by decide) rdt_lb
theorem rdt_ps : RdtB 34 (ESc 2 EPt) (LenI fun p => 0 ≤ p.2) (fun _ => 1) := RdtB.len (s := 2) underlying34 (by kernel_rfl) (by decide) rdt_pt
theorem rdt_ms : RdtB 49 (ESc 3 EMt) (LenI fun _ => True) (fun _ => 1) := RdtB.len (s := 3) underlying49 (by kernel_rfl) (by decide) rdt_mt
theorem rdt_ns : RdtB 50 (ESc 1 ETx1) (LenI fun s => s.size ≤ 1048576) (fun _ => 1) := RdtB.len (s := 1) underlying50 (by kernel_rfl) (by decide) (RdtB.one (RdtB.str underlying9))
theorem ch_tx {σ : Hp} : ∀ {cs : List Value} {xs : List ByteArray}, Ch 1 ETx1 σ cs xs → cs = xs.map .string := by
  rintro cs xs ⟨h1, h2⟩
  refine List.ext_getElem? fun i => ?_
  rw [List.getElem?_map]
  cases hx : xs[i]? with
  | none =>
    have := List.getElem?_eq_none_iff.1 hx
    simp only [Option.map_none]
    exact List.getElem?_eq_none_iff.2 (by omega)
  | some x =>
    have := h2 i x hx
    simp only [ETx1] at this
    have h3 := congrArg (·[0]?) this
    simp at h3
    simpa using h3
theorem rdt_sr : RdtB 36 ESr (fun s => s.ls.length ≤ 1048576 ∧ s.ps.length ≤ 1048576 ∧ ∀ p ∈ s.ps, 0 ≤ p.2) (fun _ => 1) := by
  intro H enc w base sp held fuel cs x h hw
  obtain ⟨xs, n, _, rfl, hlen, hxl, hg⟩ := DataW.trod_struct underlying36 h
  rw [show prog.cellsOf 36 = 2 by kernel_rfl] at hlen
  match cs, hlen, xs, hxl with
  | [c0, c1], _, [y0, y1], _ =>
    have h0 := hg 0 _ rfl
    have h1 := hg 1 _ rfl
    simp only [show prog.cellsOf 33 = 1 by kernel_rfl, show prog.cellsOf 34 = 1 by kernel_rfl, List.drop, List.take, List.getElem?_cons_zero, List.getElem?_cons_succ] at h0 h1
    obtain ⟨ls, ⟨p, k, c, e0, hc0, r0⟩, ⟨_, l0⟩, _⟩ := rdt_ls h0 (bulk_in hw (by simp))
    obtain ⟨ps, ⟨q, m, d, e1, hc1, r1⟩, ⟨i1, l1⟩, _⟩ := rdt_ps h1 (bulk_in hw (by simp))
    cases e0; cases e1
    exact ⟨⟨ls, ps⟩, ⟨p, k, c, q, m, d, rfl, r0, r1, hc1⟩, ⟨l0, l1, i1⟩, bulk_pos _⟩
theorem rdt_nd : RdtB 52 ENd (fun x => x.text.size ≤ 1048576 ∧ x.mt.length ≤ 1048576 ∧ x.names.length ≤ 1048576) (fun _ => 1) := by
  intro H enc w base sp held fuel cs x h hw
  obtain ⟨xs, n, _, rfl, hlen, hxl, hg⟩ := DataW.trod_struct underlying52 h
  rw [show prog.cellsOf 52 = 10 by kernel_rfl] at hlen
  match cs, hlen, xs, hxl with
  | [c0, c1, c2, c3, c4, c5, c6, c7, c8, c9], _, [y0, y1, y2, y3, y4, y5, y6, y7, y8, y9], _ =>
    have h0 := hg 0 _ rfl
    have h1 := hg 1 _ rfl
    have h2 := hg 2 _ rfl
    have h3 := hg 3 _ rfl
    have h4 := hg 4 _ rfl
    have h5 := hg 5 _ rfl
    have h6 := hg 6 _ rfl
    have h7 := hg 7 _ rfl
    have h8 := hg 8 _ rfl
    have h9 := hg 9 _ rfl
    simp only [show prog.cellsOf 3 = 1 by kernel_rfl, show prog.cellsOf 9 = 1 by kernel_rfl, show prog.cellsOf 49 = 1 by kernel_rfl, show prog.cellsOf 2 = 1 by kernel_rfl, show prog.cellsOf 50 = 1 by kernel_rfl, show prog.cellsOf 4 = 1 by kernel_rfl, List.drop, List.take, List.getElem?_cons_zero, List.getElem?_cons_succ] at h0 h1 h2 h3 h4 h5 h6 h7 h8 h9
    obtain ⟨a0, e0, _, _⟩ := DataW.trod_int underlying3 h0
    obtain ⟨a1, e1, _, _⟩ := DataW.trod_int underlying3 h1
    obtain ⟨a2, e2, i2, _⟩ := RdtB.str underlying9 h2 (bulk_in hw (by simp))
    obtain ⟨a3, ⟨p, k, c, e3, _, r3⟩, ⟨_, l3⟩, _⟩ := rdt_ms h3 (bulk_in hw (by simp))
    obtain ⟨a4, e4, _, _⟩ := DataW.trod_int underlying2 h4
    obtain ⟨a5, e5, _, _⟩ := DataW.trod_int underlying2 h5
    obtain ⟨a6, e6, _, _⟩ := DataW.trod_int underlying3 h6
    obtain ⟨a7, ⟨q, m, d, e7, _, r7⟩, ⟨_, l7⟩, _⟩ := rdt_ns h7 (bulk_in hw (by simp))
    obtain ⟨a8, e8, _⟩ := DataW.trod_bool underlying4 h8
    obtain ⟨a9, e9, _, _⟩ := DataW.trod_int underlying3 h9
    have e2 : [c2] = [.string a2] := e2
    cases e0; cases e1; cases e2; cases e3; cases e4; cases e5; cases e6; cases e7; cases e8; cases e9
    obtain ⟨_, cs, g1, g2⟩ := r7
    rw [ch_tx g2] at g1
    exact ⟨⟨a0, a1, a2, a3, a4, a5, a6, a7, a8, a9⟩, ⟨p, k, c, q, m, d, rfl, r3, g1⟩, ⟨i2, l3, l7⟩, bulk_pos _⟩
section
variable {H : Type} {enc : TypeId × Value → H} {W : World} {base : Nat} {v v' : Value} {d d' : DataW H} {ps ps' : List MemPlace} {r : Reach}
theorem open_nds (hv : Value.okWide prog W r base 22 v) (h : DataW.Trod enc prog W 0 (fun _ => true) true 22 v d ps) (hw : Rows.uptoBulk d ≤ 1048576) : ∃ p n c T, v = .slice p n c ∧ RdS 10 ENd (full W) p n T ∧ LenI (fun x : Nd => x.text.size ≤ 1048576 ∧ x.mt.length ≤ 1048576 ∧ x.names.length ≤ 1048576) T := by
  obtain ⟨a, l, c, rfl⟩ := okWide_slice underlying22 hv
  obtain ⟨fuel, hf⟩ := h
  obtain ⟨xs, ⟨p, n, c', e, _, hr⟩, hI, _⟩ := RdtB.len (s := 10) underlying22 (by kernel_rfl) (by decide) rdt_nd hf hw
  have e' : [Value.slice a l c] = [.slice p n c'] := by simpa [Value.cells] using e
  cases e'
  exact ⟨a, l, c, xs, rfl, hr, hI⟩
theorem open_srs (hv : Value.okWide prog W r base 23 v) (h : DataW.Trod enc prog W 0 (fun _ => true) true 23 v d ps) (hw : Rows.uptoBulk d ≤ 1048576) : ∃ p n c ss, v = .slice p n c ∧ RdS 2 ESr (full W) p n ss ∧ LenI (fun s : Sr => s.ls.length ≤ 1048576 ∧ s.ps.length ≤ 1048576 ∧ ∀ p ∈ s.ps, 0 ≤ p.2) ss := by
  obtain ⟨a, l, c, rfl⟩ := okWide_slice underlying23 hv
  obtain ⟨fuel, hf⟩ := h
  obtain ⟨xs, ⟨p, n, c', e, _, hr⟩, hI, _⟩ := RdtB.len (s := 2) underlying23 (by kernel_rfl) (by decide) rdt_sr hf hw
  have e' : [Value.slice a l c] = [.slice p n c'] := by simpa [Value.cells] using e
  cases e'
  exact ⟨a, l, c, xs, rfl, hr, hI⟩
end
theorem law_of {f : FuncId} {fn : Func} {s : ChangeSpec} {H : Type} {enc : TypeId × Value → H} {W : World} {args : Array Value} {ds gs : List (DataW H)} {before : List MemPlace} (hr : (fn.params.toList.all fun t => prog.readableRec t && Nat.blt t prog.types.size) = true)
    (hrt : fn.resultTypes = #[4]) (hv : s.vars = []) (hfn : (s.fn H (ds ++ gs)).results = [.lit (.bool true)] ∧ (s.fn H (ds ++ gs)).args = ds ∧ (s.fn H (ds ++ gs)).vars = [])
    (hW : DataW.Whole enc prog fn.params.toList s.vars false W args.toList ds gs before) (h : Lawful prog f args W) :
    Calls prog f args W fun e W' => ∃ v, e = .returned v ∧ s.post enc prog fn false true false false W args v W' :=
  h.calls.mono fun e W' ⟨he, hb⟩ => ⟨_, he, law_post laidOut hr hrt underlying4 hv hfn hW hb⟩
end TwW.Rw
end
section
namespace TwW.Rw
open Go Go.Proofs.Tryz Go.Proofs.YtfjmoojdchmakaaGreatDoor
def fl0 : DataW Unit → List Value
  | .lit (.int k z) => [.int k z]
  | .lit (.bool b) => [.bool b]
  | .lit (.float k b) => [.float k b]
  | .lit (.string s) => [.string ⟨s.toArray⟩]
  | _ => []
def fl1 : DataW Unit → List Value
  | .agg l => l.flatMap fl0
  | x => fl0 x
def fl2 : DataW Unit → List Value
  | .agg l => l.flatMap fl1
  | x => fl0 x
def fls : DataW Unit → List Value
  | .slice l _ => l.flatMap fl1
  | .iface _ (.ptr d) => fl1 d
  | _ => []
def lns : DataW Unit → Nat
  | .slice l _ => l.length
  | _ => 0
noncomputable def laidWorld (os : Os) : World :=
  let N := (World.settled prog os).heap.size
  let ob (x : DataW Unit) (t : TypeId) : Obj := .cells (fls x).toArray t (0, 0)
  let w0 := World.holding prog os ⟨#[ob Rows.laid_strconv_ErrSyntax 268, ob Rows.laid_strconv_ErrRange 268, ob Rows.laid_internal_strconv_float32pow10 229, ob Rows.laid_internal_strconv_powtab 3, ob Rows.laid_internal_strconv_float64pow10 60, ob Rows.laid_internal_strconv_leftcheats 311], #[], []⟩
  let put (h : Array Obj) (g : Nat) (cs : List Value) : Array Obj := h.modify g fun
    | .cells _ t frozen => .cells cs.toArray t frozen
    | o => o
  let sl (i : Nat) (x : DataW Unit) : List Value := [.slice (some ⟨N + i, 0, none⟩) (lns x) (lns x)]
  let h1 := put (put w0.heap 2 [.iface 266 (.pointer (some ⟨N, 0, none⟩))]) 3 [.iface 266 (.pointer (some ⟨N + 1, 0, none⟩))]
  let h2 := put (put (put (put h1 7 (sl 2 Rows.laid_internal_strconv_float32pow10)) 8 (sl 3 Rows.laid_internal_strconv_powtab)) 9 (sl 4 Rows.laid_internal_strconv_float64pow10)) 13 (sl 5 Rows.laid_internal_strconv_leftcheats)
  let h3 := put (put (put h2 4 (fl1 Rows.laid_internal_strconv_float32info)) 5 (fl1 Rows.laid_internal_strconv_optimize)) 6 (fl1 Rows.laid_internal_strconv_float64info)
  let h4 := put (put (put h3 10 (fl2 Rows.laid_internal_strconv_pow10Tab)) 11 (fl1 Rows.laid_unicode_utf8_first)) 12 (fl2 Rows.laid_unicode_utf8_acceptRanges)
  { w0 with heap := put (put (put h4 14 (fl1 Rows.laid_internal_strconv_uint64pow10)) 15 (fl1 Rows.laid_math_bits_deBruijn32tab)) 16 (fl1 Rows.laid_math_bits_deBruijn64tab) }
abbrev Laid : List (String × DataW Unit) := Rows.evalShapeUptoRow.laid
noncomputable abbrev LW (os : Os) (args : Array Value) : World := ((laidWorld os).forCall (fun _ _ => 0) ⟨#[], args, []⟩).memory
set_option maxRecDepth 1000000
theorem run1 (os : Os) (args : Array Value) : (DataW.laidRun prog (LW os args) 8 (Laid.map (·.1))).map (·.1) = some Laid := by kernel_rfl
noncomputable def LBk (os : Os) : List (Nat × Nat) :=
  let N := (World.settled prog os).heap.size
  [(15, 32), (16, 64), (4, 3), (6, 3), (5, 1), (8, 1), (N + 3, lns Rows.laid_internal_strconv_powtab), (9, 1), (N + 4, lns Rows.laid_internal_strconv_float64pow10), (7, 1), (N + 2, lns Rows.laid_internal_strconv_float32pow10), (14, 20), (12, 32), (3, 1), (N + 1, 1), (2, 1), (N, 1), (13, 1), (N + 5, lns Rows.laid_internal_strconv_leftcheats * 2), (10, 1392), (11, 256)]
theorem run2 (os : Os) (args : Array Value) : (DataW.laidRun prog (LW os args) 8 (Laid.map (·.1))).map (·.2) = some ((LBk os).flatMap fun x => MemPlace.row ⟨x.1, 0, none⟩ x.2) := by kernel_rfl
end TwW.Rw
end
section
namespace TwW
open Go
def rowsOf (L : List (Nat × Nat)) : List MemPlace := L.flatMap fun x => MemPlace.row ⟨x.1, 0, none⟩ x.2
theorem row_mem {b n : Nat} {p : MemPlace} : p ∈ MemPlace.row ⟨b, 0, none⟩ n ↔ ∃ i, i < n ∧ p = .cell b i := by
  unfold MemPlace.row
  simp only [List.mem_map, List.mem_range, Nat.zero_add]
  exact ⟨fun ⟨i, h, e⟩ => ⟨i, h, e.symm⟩, fun ⟨i, h, e⟩ => ⟨i, h, e.symm⟩⟩
theorem row_nodup (b n : Nat) : (MemPlace.row ⟨b, 0, none⟩ n).Nodup := by
  unfold MemPlace.row
  refine List.pairwise_map.2 ((List.nodup_range (n := n)).imp fun {i j} hne e => hne ?_)
  simpa using e
theorem rows_nodup : ∀ {L : List (Nat × Nat)}, (L.map Prod.fst).Nodup → (rowsOf L).Nodup
  | [], _ => List.nodup_nil
  | x :: L, h => by
    have h := List.nodup_cons.1 (show (x.1 :: L.map Prod.fst).Nodup from h)
    unfold rowsOf
    rw [List.flatMap_cons, List.nodup_append]
    refine ⟨row_nodup _ _, rows_nodup h.2, fun p hp q hq e => ?_⟩
    subst e
    obtain ⟨i, _, rfl⟩ := row_mem.1 hp
    obtain ⟨y, hy, hq⟩ := List.mem_flatMap.1 hq
    obtain ⟨j, _, e⟩ := row_mem.1 hq
    simp only [MemPlace.cell.injEq] at e
    exact h.1 (List.mem_map.2 ⟨y, hy, e.1.symm⟩)
def laidB (P : Program) (w : World) (b : Nat) : Bool :=
  match w.heap[b]? with
  | some (.cells c _ (0, 0)) => c.toList.all fun | .iface u v => Value.okWideB P w u v | _ => true
  | _ => false
theorem laidMet_rows {P : Program} {w : World} {l : List (String × DataW Unit)} (fuel : Nat) (L : List (Nat × Nat)) (h1 : (DataW.laidRun P w fuel (l.map (·.1))).map (·.1) = some l) (h2 : (DataW.laidRun P w fuel (l.map (·.1))).map (·.2) = some (rowsOf L))
    (hn : (L.map Prod.fst).Nodup) (hb : ∀ x ∈ L, laidB P w x.1 = true) : laidMet P l w := by
  cases hx : DataW.laidRun P w fuel (l.map (·.1)) with
  | none => rw [hx] at h1; cases h1
  | some x =>
    obtain ⟨l', ps⟩ := x
    rw [hx] at h1 h2
    simp only [Option.map_some, Option.some.injEq] at h1 h2
    subst h1; subst h2
    refine ⟨_, DataW.LaidVars_of_laidRun hx, rows_nodup hn, fun b off hp => ?_⟩
    obtain ⟨y, hy, hp⟩ := List.mem_flatMap.1 hp
    obtain ⟨i, hi, e⟩ := row_mem.1 hp
    simp only [MemPlace.cell.injEq] at e
    obtain ⟨rfl, rfl⟩ := e
    have := hb y hy
    unfold laidB at this
    split at this
    · rename_i c t hh
      refine ⟨⟨c, t, hh⟩, fun u v hc => ?_⟩
      have hc' : c[off]? = some (.iface u v) := by simpa [World.cell?, hh] using hc
      have hm : Value.iface u v ∈ c.toList := Array.mem_toList_iff.2 (Array.mem_of_getElem? hc')
      exact Value.okWide_of_okWideB (List.all_eq_true.1 this _ hm)
    · cases this
end TwW
end
section
namespace TwW.Rw
open Go TwW Go.Proofs.Tryz Go.Proofs.YtfjmoojdchmakaaGreatDoor
set_option maxRecDepth 1000000
theorem lbk_nd (os : Os) : nodupB ((LBk os).map Prod.fst) = true := by kernel_rfl
theorem lbk_ok (os : Os) (args : Array Value) : ((LBk os).all fun x => laidB prog (LW os args) x.1) = true := by kernel_rfl
theorem laid_met (os : Os) (args : Array Value) : laidMet prog Laid (LW os args) := laidMet_rows 8 (LBk os) (run1 os args) (run2 os args) (nodup_of_nodupB (lbk_nd os)) (fun x hx => List.all_eq_true.1 (lbk_ok os args) x hx)
end TwW.Rw
end
section
namespace TwW.Rw
open Go Tw TwW Go.RowKit Go.Deep Go.Proofs.Tryz Go.Proofs.YtfjmoojdchmakaaGreatDoor
theorem trod_float {H : Type} {enc : TypeId × Value → H} {w : World} {base : Nat} {sp : Nat → Bool} {held : Bool} {fuel : Nat} {t : TypeId} {cs : List Value} {x : DataW H × List MemPlace} {k : FloatKind} (ht : prog.underlying t = some (.float k)) (h : DataW.trod enc prog w base sp held fuel t cs = some x) : ∃ n, cs = [.float k n] ∧ x = (.lit (.float k n), []) := by
  cases fuel with
  | zero => simp [DataW.trod] at h
  | succ n =>
    unfold DataW.trod at h
    rw [ht] at h
    split at h <;> simp_all
theorem vars_at {P : Program} {w : World} : ∀ {l : List (String × DataW Unit)} {ps : List MemPlace} {i : Nat} {n : String} {d : DataW Unit}, DataW.LaidVars P w l ps → l[i]? = some (n, d) →
    ∃ g t cs fuel p, P.globalNamed n = some g ∧ (P.globals[g]?).map (·.type) = some t ∧ w.var? P n = some cs ∧ DataW.trod (fun _ => ()) P w 0 (fun _ => true) false fuel t cs.toList = some (d, p)
  | [], _, _, _, _, _, h => by simp at h
  | (m, e) :: r, ps, 0, n, d, h, hi => by
    cases hi
    obtain ⟨g, t, cs, fuel, p, q, h1, h2, h3, h4, _⟩ := h
    exact ⟨g, t, cs, fuel, p, h1, h2, h3, h4⟩
  | (m, e) :: r, ps, i + 1, n, d, h, hi => by
    obtain ⟨g, t, cs, fuel, p, q, h1, h2, h3, h4, h5, _⟩ := h
    exact vars_at h5 hi
theorem laid_at {P : Program} {w : World} {l : List (String × DataW Unit)} {i g t : Nat} {n : String} {d : DataW Unit} (h : laidMet P l w) (hi : l[i]? = some (n, d)) (hg : P.globalNamed n = some g) (ht : (P.globals[g]?).map (·.type) = some t) :
    ∃ cs fuel p, (∀ (j : Nat) v, cs[j]? = some v → (full w).ld ⟨g, j, none⟩ = some v) ∧ DataW.trod (fun _ => ()) P w 0 (fun _ => true) false fuel t cs = some (d, p) := by
  obtain ⟨ps, hv, _⟩ := h
  obtain ⟨g', t', cs, fuel, p, h1, h2, h3, h4⟩ := vars_at hv hi
  obtain rfl := Option.some.inj (hg.symm.trans h1)
  obtain rfl := Option.some.inj (ht.symm.trans h2)
  refine ⟨cs.toList, fuel, p, fun j v hj => full_ld ?_, h4⟩
  unfold World.var? at h3
  rw [hg] at h3
  simp only [Option.bind_some] at h3
  split at h3
  · rename_i c T fr hc
    cases h3
    simpa [World.cell?, hc] using hj
  · cases h3
theorem laid_opt {W : World} (h : laidMet prog Laid W) : (full W).ld ⟨5, 0, none⟩ = some (.bool true) := by
  obtain ⟨cs, fuel, p, h1, h2⟩ := laid_at (i := 4) (n := "internal/strconv.optimize") (d := .lit (.bool true)) (g := 5) (t := 4) h rfl (by kernel_rfl) (by kernel_rfl)
  obtain ⟨b, rfl, e⟩ := DataW.trod_bool underlying4 h2
  cases e
  exact h1 0 _ rfl
set_option maxRecDepth 100000 in
theorem laid_bits {W : World} (h : laidMet prog Laid W) : (full W).ld ⟨6, 0, none⟩ = some (.int .u64 52) := by
  obtain ⟨cs, fuel, p, h1, h2⟩ := laid_at (i := 3) (n := "internal/strconv.float64info") (d := .agg [.lit (.int .u64 52), .lit (.int .u64 11), .lit (.int .i64 (-1023))]) (g := 6) (t := 251) h rfl (by kernel_rfl) (by kernel_rfl)
  obtain ⟨xs, n, _, e, hlen, hxl, hg⟩ := DataW.trod_struct underlying251 h2
  rw [show prog.cellsOf 251 = 3 by kernel_rfl] at hlen
  match cs, hlen, xs, hxl with
  | [c0, c1, c2], _, [y0, y1, y2], _ =>
    have h0 := hg 0 _ rfl
    simp only [show prog.cellsOf 40 = 1 by kernel_rfl, List.drop, List.take, List.getElem?_cons_zero] at h0
    obtain ⟨a, e0, e1, _⟩ := DataW.trod_int underlying40 h0
    cases e0
    have e2 : y0.1 = .lit (.int .u64 52) := by
      have := congrArg Prod.fst e
      simp only [List.map_cons, DataW.agg.injEq, List.cons.injEq] at this
      exact this.1.symm
    rw [e1] at e2
    cases e2
    exact h1 0 _ rfl
set_option maxRecDepth 100000 in
theorem laid_pow {W : World} (h : laidMet prog Laid W) : ∃ b o n c, (full W).ld ⟨9, 0, none⟩ = some (.slice (some ⟨b, o, none⟩) n c) ∧ 16 ≤ n ∧ ∀ i v, pow10[i]? = some v → (full W).ld ⟨b, o + i * 1, none⟩ = some (.float .f64 v) := by
  obtain ⟨cs, fuel, p, h1, h2⟩ := laid_at (i := 6) (n := "internal/strconv.float64pow10") (d := Rows.laid_internal_strconv_float64pow10) (g := 9) (t := 290) h rfl (by kernel_rfl) (by kernel_rfl)
  rcases open_slice underlying290 h2 with ⟨_, e⟩ | ⟨a, len, cap, m, n, D, Pl, rfl, hb, hl, hm, hmm, e, hi⟩
  · have := congrArg Prod.fst e
    simp [Rows.laid_internal_strconv_float64pow10] at this
  have e1 := congrArg Prod.fst e
  simp only [Rows.laid_internal_strconv_float64pow10, DataW.slice.injEq] at e1
  obtain ⟨e1, _⟩ := e1
  have hlen := congrArg List.length e1
  rw [List.length_map, List.length_range] at hlen
  simp only [List.length_cons, List.length_nil] at hlen
  have hlm : len ≤ m := by rw [hmm]; split <;> omega
  have hcell : ∀ i, i < len → ∃ v, W.cell? (a.add (i * 1)) = some (.float .f64 v) ∧ D i = .lit (.float .f64 v) := fun i hi' => by
    obtain ⟨cs', hc, ht'⟩ := hi i (by omega)
    rw [show prog.cellsOf 60 = 1 by kernel_rfl] at hc
    obtain ⟨_, hcl, hat⟩ := World.cells?_some hc
    obtain ⟨v, rfl, ev⟩ := trod_float underlying60 ht'
    have h0 := hat 0 (by decide)
    simp only [List.getElem?_cons_zero] at h0
    exact ⟨v, h0, (congrArg Prod.fst ev)⟩
  have hspot : a.spot = none := by
    obtain ⟨v, hv, _⟩ := hcell 0 (by omega)
    have := cell_spot hv
    simpa [Addr.add] using this
  obtain ⟨b, o, sp⟩ := a
  simp only at hspot
  subst hspot
  refine ⟨b, o, len, cap, h1 0 _ rfl, by omega, fun i v hv => ?_⟩
  have hi16 : i < 16 := (List.getElem?_eq_some_iff.1 hv).1
  obtain ⟨u, hu, hD⟩ := hcell i (by omega)
  have hDi : ((List.range len).map D)[i]? = some (D i) := by rw [List.getElem?_map, List.getElem?_range (by omega)]; rfl
  rw [← e1, hD] at hDi
  have huv : u = v := by
    match i, hi16 with
    | 0, _ | 1, _ | 2, _ | 3, _ | 4, _ | 5, _ | 6, _ | 7, _ | 8, _ | 9, _ | 10, _ | 11, _ | 12, _ | 13, _ | 14, _ | 15, _ =>
      simp [pow10] at hv hDi
      omega
  subst huv
  have h9 := full_ld hu
  rw [add_off] at h9
  exact h9
theorem gl_of {W : World} (h : laidMetH prog Laid W) (hs : W.ShapedOpen prog) : Gl (full W) := by
  have h : laidMet prog Laid W := by
    rw [MakeChecks.laidMetH_plain _ _ _ (by kernel_rfl)] at h
    exact h
  exact ⟨let ⟨m, hm⟩ := Go.Proofs.cell_of_shapedOpen_int (g := 1) (zero := #[.int .i64 0]) (t := 3) hs (of_decide_eq_true (by kernel_rfl)) (by kernel_rfl) rfl (by kernel_rfl) (by kernel_rfl) underlying3; ⟨m, full_ld hm⟩, laid_opt h, laid_bits h, laid_pow h⟩
end TwW.Rw
end
section
namespace TwW.Rw
open Go Tw TwW Go.Proofs.Tryz Go.Proofs.YtfjmoojdchmakaaGreatDoor
theorem and_t {a b : Bool} (h1 : a = true) (h2 : b = true) : (a && b) = true := by rw [h1, h2]; rfl
theorem rowed : mapsRowed prog = true := by kernel_rfl
theorem heard : prog.stopsHeard = true := by kernel_rfl
theorem enters : prog.mayEnter = true := by kernel_rfl
theorem stops0 : (prog.stops == []) = true := by kernel_rfl
theorem knobs0 : (prog.stopKnobs == []) = true := by kernel_rfl
theorem lifts : (Rows.evalShapeRow.lifted == prog.liftsFinal) = true := by kernel_rfl
theorem keys : (Rows.evalShapeRow.plainKeys == prog.plainKeys) = true := by kernel_rfl
theorem makes : (prog.make == some Rows.evalShapeRow.make) = true := by kernel_rfl
end TwW.Rw
end
section
namespace TwW.Rw
open Go Tw TwW Go.ChangeShapes Go.WideShapes Go.ChangeAt Go.RowKit Go.Deep Go.Proofs.Tryz Go.Proofs.YtfjmoojdchmakaaGreatDoor
abbrev wArgs : Array Value := #[.slice none 0 0, .slice none 0 0, .int .i64 0]
noncomputable abbrev wW (os : Os) : World := (laidWorld os).forCall (fun _ _ => 0) ⟨#[], wArgs, []⟩
def chkV (P : Program) (w : World) (g : Nat) : Bool :=
  match ((begin P (fun _ _ => 0) default).world.heap[g]?).bind Obj.row? with
  | none => true
  | some (zero, t) =>
    match w.heap[g]? with
    | some (.cells cs t' frozen) => decide (t' = t) && decide (frozen = (0, 0)) && cs.size == zero.size && (!P.buildable t || Row.okRefB P w t cs)
    | _ => false
theorem chkV_all {P : Program} {w : World} (h : ∀ g, g < P.globals.size → chkV P w g = true) : w.variablesRefB P = true :=
  List.all_eq_true.2 fun g hg => h g (List.mem_range.1 hg)
theorem okRefB_rep {P : Program} {w : World} {t e : TypeId} {cs : Array Value} {n : Nat} (hts : P.cellTypes P.depth t = some (List.replicate n e)) (hs : cs.size = n) (hall : (cs.toList.all fun v => Cell.okRefB P w e v) = true) : Row.okRefB P w t cs = true := by
  unfold Row.okRefB
  rw [hts]
  simp only [List.length_replicate, hs, Nat.mod_self, Bool.and_eq_true, beq_iff_eq, List.all_eq_true, List.mem_range, true_and]
  intro i hi
  have hi' : i < cs.size := by omega
  rw [Array.getElem?_eq_getElem hi', Nat.mod_eq_of_lt hi, List.getElem?_replicate, if_pos hi]
  exact List.all_eq_true.1 hall _ (by simp)
theorem chkV_of {P : Program} {w : World} {g n : Nat} {t e : TypeId} {cs : Array Value} (h0 : (((begin P (fun _ _ => 0) default).world.heap[g]?).bind Obj.row?).map (fun x => (x.1.size, x.2)) = some (n, t)) (h1 : w.heap[g]? = some (.cells cs t (0, 0))) (hs : cs.size = n) (hts : P.cellTypes P.depth t = some (List.replicate n e)) (hall : (cs.toList.all fun v => Cell.okRefB P w e v) = true) : chkV P w g = true := by
  unfold chkV
  cases hb : ((begin P (fun _ _ => 0) default).world.heap[g]?).bind Obj.row? with
  | none => rfl
  | some x =>
    obtain ⟨zero, t'⟩ := x
    rw [hb] at h0
    simp only [Option.map_some, Option.some.injEq, Prod.mk.injEq] at h0
    obtain ⟨h2, rfl⟩ := h0
    simp only [h1, okRefB_rep hts hs hall, hs, h2]
    simp
set_option maxRecDepth 1000000
theorem wHr (os : Os) : ((wW os).heap.toList.drop prog.globals.size).take ((begin prog (fun _ _ => 0) default).world.heap.size - prog.globals.size) = (begin prog (fun _ _ => 0) default).world.heap.toList.drop prog.globals.size := by kernel_rfl
theorem wHok (os : Os) : Input.okWideB prog (wW os) 3 ⟨#[], wArgs, []⟩ = true := by kernel_rfl
theorem wRest (os : Os) : ((List.range 17).all fun g => (g == 10 || g == 11) || chkV prog (wW os) g) = true := by kernel_rfl
theorem wPow (os : Os) : (wW os).heap[10]? = some (.cells (fl2 Rows.laid_internal_strconv_pow10Tab).toArray 295 (0, 0)) := by kernel_rfl
theorem wFst (os : Os) : (wW os).heap[11]? = some (.cells (fl1 Rows.laid_unicode_utf8_first).toArray 304 (0, 0)) := by kernel_rfl
theorem z10 : (((begin prog (fun _ _ => 0) default).world.heap[10]?).bind Obj.row?).map (fun x => (x.1.size, x.2)) = some (1392, 295) := by kernel_rfl
theorem z11 : (((begin prog (fun _ _ => 0) default).world.heap[11]?).bind Obj.row?).map (fun x => (x.1.size, x.2)) = some (256, 304) := by kernel_rfl
theorem t10 : prog.cellTypes prog.depth 295 = some (List.replicate 1392 37) := by kernel_rfl
theorem t11 : prog.cellTypes prog.depth 304 = some (List.replicate 256 5) := by kernel_rfl
theorem s10 : (fl2 Rows.laid_internal_strconv_pow10Tab).toArray.size = 1392 := by kernel_rfl
theorem s11 : (fl1 Rows.laid_unicode_utf8_first).toArray.size = 256 := by kernel_rfl
theorem a10 (os : Os) : ((fl2 Rows.laid_internal_strconv_pow10Tab).toArray.toList.all fun v => Cell.okRefB prog (wW os) 37 v) = true := by kernel_rfl
theorem a11 (os : Os) : ((fl1 Rows.laid_unicode_utf8_first).toArray.toList.all fun v => Cell.okRefB prog (wW os) 5 v) = true := by kernel_rfl
theorem wHv (os : Os) : (wW os).variablesRefB prog = true := chkV_all fun g hg => by
  by_cases h10 : g = 10
  · subst h10; exact chkV_of z10 (wPow os) s10 t10 (a10 os)
  by_cases h11 : g = 11
  · subst h11; exact chkV_of z11 (wFst os) s11 t11 (a11 os)
  have h17 : g < 17 := hg
  have := List.all_eq_true.1 (wRest os) g (List.mem_range.2 h17)
  simpa [h10, h11] using this
theorem reads (os : Os) {H : Type} (enc : TypeId × Value → H) : ∃ places, DataW.whole enc prog (wW os).memory f3.params.toList Rows.evalShapeSpec.vars false wArgs.toList 8 = some ([.nil, .nil, .lit (.int .i64 0)], [], places) :=
  ⟨[], by kernel_rfl⟩
end TwW.Rw
end
section
namespace TwW
open Go Tw Go.RowKit Go.Proofs.Tryz
def cnV (v : Int) : Prop := (fNan v.toNat = false ∧ 0 ≤ v) ∨ v = 9221120237041090560
theorem cn_nat {x : Nat} (h : fNan x = false ∨ x = 9221120237041090560) : cnV (x : Nat) := by
  rcases h with h | h
  · exact .inl ⟨by rw [Int.toNat_natCast]; exact h, Int.natCast_nonneg _⟩
  · exact .inr (by rw [h]; rfl)
theorem cn_toF (x : Nat) : cnV (toF x : Nat) := cn_nat (by
  unfold toF
  split
  · exact .inr rfl
  · rename_i h; exact .inl (by simpa using h))
theorem cn_nrm (x : Int) : cnV (nrm x) := cn_toF _
theorem cn_arN (op : Int) (a b : Nat) : cnV (arN op a b : Nat) := by
  unfold arN
  cases fAr op a b with
  | none => exact .inr rfl
  | some r => exact cn_toF r
theorem cn_ari (op a b : Int) : cnV (ari op a b) := cn_arN _ _ _
theorem fNan_word {neg : Bool} {r : Nat} (h : r ≤ 9218868437227405312) : fNan (Ieee.double.word neg r) = false := by
  cases hf : fNan (Ieee.double.word neg r) with
  | false => rfl
  | true =>
    rw [fNan_iff] at hf
    have e : Ieee.double.word neg r = if neg then 9223372036854775808 + r else r := by cases neg <;> rfl
    rw [e] at hf
    cases neg
    · simp only [Bool.false_eq_true, if_false] at hf; omega
    · simp only [if_true] at hf; omega
theorem cn_wholeI (n : Int) : cnV (wholeI n) := cn_nat (.inl (by
  show fNan (Ieee.double.nearest (n < 0) n.natAbs 0) = false
  unfold Ieee.Format.nearest
  dsimp only
  split
  · exact fNan_word (Nat.zero_le _)
  · exact fNan_word (Nat.le_trans (Nat.min_le_right ..) (by decide))))
theorem cn_0 : cnV 0 := .inl ⟨by decide, by decide⟩
theorem cn_foldl {f : Int → Int → Int} (hf : ∀ a b, cnV a → cnV (f a b)) : ∀ (l : List Int) (a : Int), cnV a → cnV (l.foldl f a)
  | [], a, h => h
  | x :: l, a, h => cn_foldl hf l _ (hf a x h)
theorem cn_sumI : ∀ vs, cnV (sumI vs)
  | [] => cn_0
  | v :: l => cn_foldl (fun a b _ => cn_ari 1 a b) l _ (cn_nrm v)
theorem cn_bestI (op : Int) : ∀ vs, cnV (bestI op vs)
  | [] => cn_0
  | v :: l => cn_nrm _
theorem cn_growI (vs : List Int) : cnV (growI vs) := by
  unfold growI
  have : ∀ (l : List (Int × Int)) (a : Int), cnV a → cnV (l.foldl stepI a) := fun l => by
    induction l with
    | nil => intro a h; exact h
    | cons x l ih =>
      intro a h
      refine ih _ ?_
      unfold stepI
      split
      · exact cn_ari _ _ _
      · exact h
  exact this _ _ (cn_ari _ _ _)
theorem cn_foldI (op : Int) (vs : List Int) : cnV (foldI op vs) := by
  unfold foldI
  split
  · exact cn_sumI _
  · split
    · exact cn_bestI _ _
    · split
      · exact cn_bestI _ _
      · split
        · exact cn_ari _ _ _
        · exact cn_wholeI _
theorem cn_overI {op : Int} {vs : List Int} {w x : Int} (h : overI op vs w = some x) : cnV x := by
  unfold overI at h
  split at h
  · rw [← Option.some.inj h]; exact cn_sumI _
  split at h
  · rw [← Option.some.inj h]; exact cn_ari _ _ _
  split at h
  · rw [← Option.some.inj h]; exact cn_bestI _ _
  split at h
  · rw [← Option.some.inj h]; exact cn_bestI _ _
  split at h
  · rw [← Option.some.inj h]; exact cn_wholeI _
  split at h
  · rw [← Option.some.inj h]; exact cn_nrm _
  split at h
  · rw [← Option.some.inj h]; exact cn_arN _ _ _
  split at h
  · exact absurd h.symm (Option.some_ne_none _)
  split at h
  · rw [← Option.some.inj h]; exact cn_ari _ _ _
  split at h
  · rw [← Option.some.inj h]; exact cn_growI _
  · rw [← Option.some.inj h]; exact cn_ari _ _ _
theorem cn_singI (op a b : Int) : cnV (singI op a b).1 := by
  unfold singI
  split
  · exact cn_ari _ _ _
  · show cnV (if _ then wholeI 1 else wholeI 0)
    split <;> exact cn_wholeI _
theorem cn_numI (s : ByteArray) : cnV (numI s) := by
  unfold numI
  dsimp only
  split
  · exact cn_toF _
  · split
    · exact cn_toF _
    · exact cn_arN _ _ _
theorem cn_floorI (x : Int) : cnV (floorI x) := by
  unfold floorI floorN
  split
  · exact .inr rfl
  · exact cn_toF _
theorem cn_absI (x : Int) : cnV (absI x) := cn_toF _
theorem cn_turnI (x : Int) : cnV (turnI x) := cn_nrm _
theorem bl_tri : ∀ x y : List UInt8, Op.bytesLess x y = true ∨ x = y ∨ Op.bytesLess y x = true
  | [], [] => .inr (.inl rfl)
  | [], _ :: _ => .inl rfl
  | _ :: _, [] => .inr (.inr rfl)
  | a :: x, b :: y => by
    simp only [Op.bytesLess, Bool.or_eq_true, Bool.and_eq_true, decide_eq_true_eq, beq_iff_eq]
    rcases Nat.lt_trichotomy a.toNat b.toNat with h | h | h
    · exact .inl (.inl (UInt8.lt_iff_toNat_lt.2 h))
    · have e : a = b := UInt8.toNat_inj.1 h
      subst e
      rcases bl_tri x y with h | h | h
      · exact .inl (.inr ⟨rfl, h⟩)
      · exact .inr (.inl (by rw [h]))
      · exact .inr (.inr (.inr ⟨rfl, h⟩))
    · exact .inr (.inr (.inl (UInt8.lt_iff_toNat_lt.2 h)))
theorem bl_trans : ∀ x y z : List UInt8, Op.bytesLess x y = true → Op.bytesLess y z = true → Op.bytesLess x z = true
  | _, _, [], _, h => by cases ‹List UInt8› <;> simp [Op.bytesLess] at h
  | [], _, _ :: _, _, _ => rfl
  | _ :: _, [], _, h, _ => by simp [Op.bytesLess] at h
  | a :: x, b :: y, c :: z, h1, h2 => by
    simp only [Op.bytesLess, Bool.or_eq_true, Bool.and_eq_true, decide_eq_true_eq, beq_iff_eq, UInt8.lt_iff_toNat_lt] at h1 h2 ⊢
    rcases h1 with h1 | ⟨rfl, h1⟩
    · rcases h2 with h2 | ⟨rfl, h2⟩
      · exact .inl (by omega)
      · exact .inl h1
    · rcases h2 with h2 | ⟨rfl, h2⟩
      · exact .inl h2
      · exact .inr ⟨rfl, bl_trans x y z h1 h2⟩
theorem bl_irr : ∀ x : List UInt8, Op.bytesLess x x = false
  | [] => rfl
  | a :: x => by simp [Op.bytesLess, bl_irr x]
theorem sle_lt {a b : ByteArray} (h : sle b a = false) : Op.bytesLess a.toList b.toList = true := by
  unfold sle at h
  simp only [Bool.or_eq_false_iff, beq_eq_false_iff_ne] at h
  rcases bl_tri a.toList b.toList with h1 | h1 | h1
  · exact h1
  · exact absurd h1.symm h.2
  · rw [h1] at h; exact absurd h.1 (by decide)
theorem sle_step {p x y : ByteArray} (h1 : sle x p = false) (h2 : sle y x = false) : sle y p = false := by
  have h3 := bl_trans _ _ _ (sle_lt h1) (sle_lt h2)
  cases h : sle y p with
  | false => rfl
  | true =>
    unfold sle at h
    simp only [Bool.or_eq_true, beq_iff_eq] at h
    rcases h with h | h
    · have := bl_trans _ _ _ h3 h
      rw [bl_irr] at this; cases this
    · rw [h, bl_irr] at h3; cases h3
theorem chk_cons {pv : Option ByteArray} {x : Lb} {l : List Lb} : chkLs pv (x :: l) = 0 ↔ ¬ lnOk x.1 = false ∧ ¬ (x.2.size = 0 ∨ 256 < x.2.size ∨ lvOk x.2 = false) ∧ ¬ pv.any (sle x.1 ·) = true ∧ chkLs (some x.1) l = 0 := by
  have e : chkLs pv (x :: l) = if lnOk x.1 = false then 31 else if x.2.size = 0 ∨ 256 < x.2.size ∨ lvOk x.2 = false then 32 else if pv.any (sle x.1 ·) = true then 33 else chkLs (some x.1) l := by cases pv <;> rfl
  rw [e]
  constructor
  · intro h
    split at h
    · cases h
    split at h
    · cases h
    split at h
    · cases h
    exact ⟨by assumption, by assumption, by assumption, h⟩
  · rintro ⟨h1, h2, h3, h4⟩
    rw [if_neg h1, if_neg h2, if_neg h3]; exact h4
theorem chk_weak {pv : Option ByteArray} {k : ByteArray} (hk : ∀ p, pv = some p → sle k p = false) : ∀ {l : List Lb}, chkLs (some k) l = 0 → chkLs pv l = 0
  | [], _ => by cases pv <;> rfl
  | x :: l, h => by
    obtain ⟨h1, h2, h3, h4⟩ := chk_cons.1 h
    refine chk_cons.2 ⟨h1, h2, ?_, h4⟩
    cases pv with
    | none => simp
    | some p =>
      simp only [Option.any_some, Bool.not_eq_true] at h3 ⊢
      exact sle_step (hk p rfl) h3
theorem chk_filter (g : Lb → Bool) : ∀ (ls : List Lb) (pv : Option ByteArray), chkLs pv ls = 0 → chkLs pv (ls.filter g) = 0
  | [], pv, _ => by cases pv <;> rfl
  | x :: l, pv, h => by
    obtain ⟨h1, h2, h3, h4⟩ := chk_cons.1 h
    have ih := chk_filter g l _ h4
    rw [List.filter_cons]
    split
    · exact chk_cons.2 ⟨h1, h2, h3, ih⟩
    · refine chk_weak (fun p hp => ?_) ih
      subst hp
      simpa using h3
theorem chkL_filter {ls : List Lb} (g : Lb → Bool) (h : chkL ls = 0) : chkL (ls.filter g) = 0 := by
  unfold chkL at h ⊢
  split at h
  · cases h
  · rename_i h16
    have := List.length_filter_le g ls
    rw [if_neg (by omega)]
    exact chk_filter g ls none h
theorem chkL_bare {ls : List Lb} (h : chkL ls = 0) : chkL (bareF ls) = 0 := chkL_filter _ h
theorem chkL_by {n : Nd} {ls : List Lb} (h : chkL ls = 0) : chkL (byF n ls) = 0 := by
  unfold byF
  split
  · exact chkL_filter _ h
  · exact chkL_bare (chkL_filter _ h)
theorem chkL_group {n : Nd} {ls : List Lb} (h : chkL ls = 0) : chkL (groupL n ls) = 0 := by
  unfold groupL
  split
  · exact chkL_filter _ h
  · split
    · exact chkL_bare (chkL_filter _ h)
    · rfl
def rises (l : List El) : Prop := l.Pairwise fun a b => cmpLs a.ls b.ls < 0
def ElS (ss : List Sr) (e : El) : Prop := chkL e.ls = 0 ∧ (cnV e.v ∨ ∃ s ∈ ss, ∃ p ∈ s.ps, p.2 = e.v)
structure VS (ss : List Sr) (x : Vv) : Prop where
  el : ∀ e ∈ x.vec, ElS ss e
  up : rises x.vec
  rg : ∀ r ∈ x.rng, chkL r.ls = 0
  one : x.kind = 1 → cnV x.v
theorem vecF_rises {l m : List El} (h : vecF FF l = some m) : rises m := by
  have hp := vecF_perm h
  unfold vecF at h
  split at h
  · rename_i hd
    cases h
    have h1 := sortE_sorted (F := FF) rfl l
    have h2 : (sortE FF l).Pairwise fun a b => cmpLs a.ls b.ls ≠ 0 := (hp.pairwise_iff (fun {x y} hxy hyx => hxy (by rw [(cmpLs_ok.eq _ _).1 hyx]; exact (cmpLs_ok.eq _ _).2 rfl))).2 hd
    exact (h1.and h2).imp fun {a b} hab => by
      have h3 : cmpLs a.ls b.ls ≤ 0 := hab.1
      have h4 := hab.2
      omega
  · cases h
theorem vec_VS {ss : List Sr} {l m : List El} (h : vecF FF l = some m) (hl : ∀ e ∈ l, ElS ss e) : VS ss ⟨2, 0, m, []⟩ :=
  ⟨fun e he => hl e ((vecF_perm h).mem_iff.1 he), vecF_rises h, fun r hr => (by cases hr), fun hh => absurd (show (2 : Int) = 1 from hh) (by decide)⟩
theorem num_VS {ss : List Sr} {v : Int} (h : cnV v) : VS ss ⟨1, v, [], []⟩ := ⟨fun e he => (by cases he), .nil, fun r hr => (by cases hr), fun _ => h⟩
theorem oks_rises : ∀ {ss : List Sr} {q : Option (List Lb)}, okSs q ss = true → (∀ k, q = some k → ∀ s ∈ ss, cmpLs k s.ls < 0) ∧ ss.Pairwise fun a b => cmpLs a.ls b.ls < 0
  | [], q, _ => ⟨fun k _ s hs => (by cases hs), .nil⟩
  | s :: l, q, h => by
    rw [okSs_cons] at h
    simp only [Bool.and_eq_true] at h
    obtain ⟨h1, h2⟩ := oks_rises h.2
    refine ⟨fun k hk u hu => ?_, List.pairwise_cons.2 ⟨fun u hu => h1 s.ls rfl u hu, h2⟩⟩
    subst hk
    have h3 : cmpLs k s.ls < 0 := of_decide_eq_true h.1.2
    rcases List.mem_cons.1 hu with rfl | hu
    · exact h3
    · exact cmpLs_ok.trans _ _ _ h3 (h1 s.ls rfl u hu)
theorem choice_VS {ss : List Sr} {n : Nd} {t : Int} (h : okSs none ss = true) : VS ss ⟨2, 0, choiceF FF n ss t, []⟩ := by
  have key : ∀ (s : Sr) (e : El), (match (ptsF s.ps (t - n.back - 300) (t - n.back)).getLast? with
    | none => none
    | some p => if p.2 = stale ∨ FF.says n.mt s.ls = false then none else some (⟨s.ls, p.2⟩ : El)) = some e → e.ls = s.ls ∧ ∃ p ∈ s.ps, p.2 = e.v := fun s e he => by
    split at he
    · cases he
    · rename_i p hl
      split at he
      · cases he
      · simp only [Option.some.injEq] at he
        subst he
        exact ⟨rfl, p, (List.mem_filter.1 (List.mem_of_getLast? hl)).1, rfl⟩
  refine ⟨fun e he => ?_, ?_, fun r hr => (by cases hr), fun hh => absurd (show (2 : Int) = 1 from hh) (by decide)⟩
  · obtain ⟨s, hs, h1⟩ := List.mem_filterMap.1 he
    obtain ⟨h2, p, hp, hv⟩ := key s e h1
    exact ⟨by rw [h2]; exact (okSs_mem h s hs).1, .inr ⟨s, hs, p, hp, hv⟩⟩
  · show (List.filterMap _ ss).Pairwise _
    refine List.pairwise_filterMap.2 ((oks_rises h).2.imp fun {a b} hab e he e' he' => ?_)
    rw [(key a e he).1, (key b e' he').1]; exact hab
theorem reach_VS {ss : List Sr} {n : Nd} {t : Int} (h : okSs none ss = true) : VS ss ⟨3, FF.whole n.width, [], reachF FF n ss t⟩ := by
  refine ⟨fun e he => (by cases he), .nil, fun r hr => ?_, fun hh => absurd (show (3 : Int) = 1 from hh) (by decide)⟩
  obtain ⟨s, hs, h1⟩ := List.mem_filterMap.1 hr
  dsimp only at h1
  generalize (!_ && FF.says n.mt s.ls) = b at h1
  cases b with
  | false => cases h1
  | true =>
    simp only [cond_true, Option.some.injEq] at h1
    subst h1
    exact (okSs_mem h s hs).1
theorem call_ElS {ss : List Sr} {n : Nd} {x : Vv} (hx : VS ss x) : ∀ e ∈ callF FF n x, ElS ss e := fun e he => by
  rcases List.mem_append.1 he with he | he
  · obtain ⟨y, hy, rfl⟩ := List.mem_map.1 he
    refine ⟨chkL_bare (hx.el y hy).1, .inl ?_⟩
    show cnV (if n.op = 11 then absI y.v else floorI y.v)
    split
    · exact cn_absI _
    · exact cn_floorI _
  · obtain ⟨y, hy, h1⟩ := List.mem_filterMap.1 he
    have h2 : (overI n.op y.vs x.v).map (fun v => (⟨bareF y.ls, v⟩ : El)) = some e := h1
    cases ho : overI n.op y.vs x.v with
    | none => rw [ho] at h2; cases h2
    | some z =>
      rw [ho] at h2
      simp only [Option.map_some, Option.some.injEq] at h2
      subst h2
      exact ⟨chkL_bare (hx.rg y hy), .inl (cn_overI ho)⟩
theorem addG_mem {ls : List Lb} {v : Int} : ∀ {l : List Rg} {g : Rg}, g ∈ addG ls v l → g.ls = ls ∨ ∃ y ∈ l, y.ls = g.ls
  | [], g, h => by
    unfold addG at h
    rw [List.mem_singleton] at h
    exact .inl (by rw [h])
  | y :: l, g, h => by
    unfold addG at h
    split at h
    · rcases List.mem_cons.1 h with rfl | h
      · exact .inr ⟨y, by simp, rfl⟩
      · exact .inr ⟨g, List.mem_cons_of_mem _ h, rfl⟩
    · rcases List.mem_cons.1 h with rfl | h
      · exact .inr ⟨g, by simp, rfl⟩
      · rcases addG_mem h with h | ⟨z, hz, h⟩
        · exact .inl h
        · exact .inr ⟨z, List.mem_cons_of_mem _ hz, h⟩
theorem addGs_chk {n : Nd} : ∀ (l : List El) (gs : List Rg), (∀ e ∈ l, chkL e.ls = 0) → (∀ g ∈ gs, chkL g.ls = 0) → ∀ g ∈ l.foldl (fun gs x => addG (groupL n x.ls) x.v gs) gs, chkL g.ls = 0
  | [], gs, _, h => h
  | x :: l, gs, hl, h => by
    refine addGs_chk l _ (fun e he => hl e (List.mem_cons_of_mem _ he)) fun g hg => ?_
    rcases addG_mem hg with h1 | ⟨y, hy, h1⟩
    · rw [h1]; exact chkL_group (hl x (by simp))
    · rw [← h1]; exact h y hy
theorem agg_ElS {ss : List Sr} {n : Nd} {x : Vv} (hx : VS ss x) : ∀ e ∈ aggF FF n x, ElS ss e := fun e he => by
  obtain ⟨g, hg, rfl⟩ := List.mem_map.1 he
  exact ⟨addGs_chk (n := n) x.vec [] (fun e he => (hx.el e he).1) (fun g hg => by cases hg) g hg, .inl (cn_foldI _ _)⟩
theorem mix_ElS {ss : List Sr} {n : Nd} {l : List El} {f : Int → Int × Bool} (hl : ∀ e ∈ l, ElS ss e) (hf : ∀ v, cnV (f v).1) : ∀ e ∈ mixF n l f, ElS ss e := fun e he => by
  obtain ⟨y, hy, h1⟩ := List.mem_filterMap.1 he
  split at h1
  · simp only [Option.some.injEq] at h1
    subst h1
    exact ⟨chkL_bare (hl y hy).1, .inl (hf _)⟩
  · split at h1
    · simp only [Option.some.injEq] at h1
      subst h1; exact hl y hy
    · cases h1
theorem sets_ElS {ss : List Sr} {n : Nd} {x y : List El} (hx : ∀ e ∈ x, ElS ss e) (hy : ∀ e ∈ y, ElS ss e) : ∀ e ∈ setsF n x y, ElS ss e := fun e he => by
  unfold setsF at he
  rcases List.mem_append.1 he with he | he
  · exact hx e (List.mem_filter.1 he).1
  · exact hy e (List.mem_filter.1 he).1
theorem vecs_ElS {ss : List Sr} {n : Nd} {x y m : List El} (hx : ∀ e ∈ x, ElS ss e) (h : vecsF FF n x y = some m) : ∀ e ∈ m, ElS ss e := by
  unfold vecsF at h
  split at h
  · simp only [Option.some.injEq] at h
    subst h
    intro e he
    obtain ⟨z, hz, h1⟩ := List.mem_filterMap.1 he
    split at h1
    · cases h1
    · split at h1
      · simp only [Option.some.injEq] at h1
        subst h1
        exact ⟨chkL_by (hx z hz).1, .inl (cn_singI _ _ _)⟩
      · split at h1
        · simp only [Option.some.injEq] at h1
          subst h1; exact hx z hz
        · cases h1
  · cases h
theorem bin_VS {ss : List Sr} {n : Nd} {x y v : Vv} (hx : VS ss x) (hy : VS ss y) (h : binF FF n x y = some v) : VS ss v := by
  unfold binF at h
  split at h
  · cases h; exact num_VS (cn_singI _ _ _)
  · obtain ⟨m, hm, rfl⟩ := map_some h
    split at hm
    · exact vec_VS (show vecF FF (mixF n y.vec (FF.sing n.op x.v)) = some m from hm) (mix_ElS hy.el fun v => cn_singI _ _ _)
    · split at hm
      · exact vec_VS (show vecF FF (mixF n x.vec fun v => FF.sing n.op v y.v) = some m from hm) (mix_ElS hx.el fun v => cn_singI _ _ _)
      · split at hm
        · exact vec_VS (show vecF FF (setsF n x.vec y.vec) = some m from hm) (sets_ElS hx.el hy.el)
        · cases hq : vecsF FF n x.vec y.vec with
          | none => rw [hq] at hm; cases hm
          | some w =>
            rw [hq] at hm
            exact vec_VS (show vecF FF w = some m from hm) (vecs_ElS hx.el hq)
theorem node_VS {ss : List Sr} {n : Nd} {t : Int} {L : List Vv} {v : Vv} (hs : okSs none ss = true) (hV : ∀ x ∈ L, VS ss x) (h : nodeF FF ss t n L = some v) : VS ss v := by
  unfold nodeF at h
  split at h
  · cases h; exact num_VS (cn_numI _)
  split at h
  · cases h; exact choice_VS hs
  split at h
  · cases h; exact reach_VS hs
  match L with
  | [x] =>
    have hx := hV x (by simp)
    dsimp only at h
    split at h
    · obtain ⟨m, hm, rfl⟩ := map_some h
      exact vec_VS hm (call_ElS hx)
    split at h
    · obtain ⟨m, hm, rfl⟩ := map_some h
      exact vec_VS hm (agg_ElS hx)
    split at h
    · unfold negF at h
      split at h
      · cases h; exact num_VS (cn_turnI _)
      · obtain ⟨m, hm, rfl⟩ := map_some h
        refine vec_VS hm fun e he => ?_
        obtain ⟨y, hy, rfl⟩ := List.mem_map.1 he
        exact ⟨chkL_bare (hx.el y hy).1, .inl (cn_turnI _)⟩
    · cases h
  | [x, y] =>
    dsimp only at h
    split at h
    · exact bin_VS (hV x (by simp)) (hV y (by simp)) h
    · cases h
  | [] => cases h
  | _ :: _ :: _ :: _ => cases h
theorem run_VS {ss : List Sr} {t : Int} (hs : okSs none ss = true) : ∀ (T : List Nd) (st r : List Vv), runF FF ss t T st = some r → (∀ x ∈ st, VS ss x) → ∀ x ∈ r, VS ss x
  | [], st, r, hr, hV => by cases hr; exact hV
  | x :: T, st, r, hr, hV => by
    rw [runF] at hr
    cases hz : nodeF FF ss t x (st.drop (st.length - x.parts.toNat)) with
    | none => rw [hz] at hr; cases hr
    | some z =>
      rw [hz] at hr
      refine run_VS hs T _ r hr fun u hu => ?_
      rcases List.mem_append.1 hu with hu | hu
      · exact hV u (List.mem_of_mem_take hu)
      · rw [List.mem_singleton] at hu
        rw [hu]
        exact node_VS hs (fun y hy => hV y (List.mem_of_mem_drop hy)) hz
theorem moment_shape {ss : List Sr} {t : Int} {T : List Nd} {l : List El} (hs : okSs none ss = true) (h : momentF FF T ss t = some l) : (∀ e ∈ l, ElS ss e) ∧ rises l := by
  unfold momentF at h
  cases hr : runF FF ss t T [] with
  | none => rw [hr] at h; cases h
  | some st =>
    rw [hr] at h
    have hV := run_VS hs T [] st hr (fun x hx => by cases hx)
    change (st.head?.map fun v : Vv => if v.kind = 1 then [(⟨[], v.v⟩ : El)] else v.vec) = some l at h
    cases st with
    | nil => cases h
    | cons v st =>
      simp only [List.head?_cons, Option.map_some, Option.some.injEq] at h
      have hv := hV v (by simp)
      split at h
      · rename_i hk
        subst h
        exact ⟨fun e he => by rw [List.mem_singleton] at he; subst he; exact ⟨rfl, .inl (hv.one hk)⟩, List.pairwise_singleton _ _⟩
      · subst h
        exact ⟨hv.el, hv.up⟩
theorem chkL_len {ls : List Lb} (h : chkL ls = 0) : ls.length ≤ 16 := by
  unfold chkL at h
  split at h
  · cases h
  · omega
theorem oks_ans {t : Int} : ∀ {l : List El} {q : Option (List Lb)}, (∀ e ∈ l, chkL e.ls = 0) → rises l → (∀ k, q = some k → ∀ e ∈ l, cmpLs k e.ls < 0) → okSs q (l.map fun e => ⟨e.ls, [(t, e.v)]⟩) = true
  | [], q, _, _, _ => by cases q <;> rfl
  | e :: l, q, h1, h2, h3 => by
    have h2 := List.pairwise_cons.1 h2
    rw [List.map_cons, okSs_cons]
    simp only [Bool.and_eq_true, decide_eq_true_eq]
    refine ⟨⟨⟨h1 e (by simp), rfl⟩, ?_⟩, oks_ans (fun u hu => h1 u (List.mem_cons_of_mem _ hu)) h2.2 fun k hk u hu => by cases hk; exact h2.1 u hu⟩
    cases q with
    | none => rfl
    | some k => exact decide_eq_true (h3 k rfl e (by simp))
theorem run_kinds {ss : List Sr} {t : Int} (hS : SsG ss) : ∀ (T : List Nd) (st r : List Vv) (ty : List Int), tyRun T (st.map (·.kind)) = some ty → runF FF ss t T st = some r → (∀ x ∈ st, VG x) → r.map (·.kind) = ty
  | [], st, r, ty, hT, hr, hV => by
    cases hr
    exact Option.some.inj hT
  | x :: T, st, r, ty, hT, hr, hV => by
    have hstep : (tyStep x (st.map (·.kind))).1 = 0 := Decidable.byContradiction fun hne => by
      rw [tyRun, if_neg hne] at hT; cases hT
    rw [tyRun, if_pos hstep] at hT
    obtain ⟨hf, hpl, hmo, hT0, hT1⟩ := step_ok hstep
    have hpn := parts_nn hf
    rw [List.length_map] at hT0 hT1 hpl
    rw [hT1, ← List.map_drop, ← List.map_take] at hT
    rw [← List.map_drop] at hT0
    rw [runF] at hr
    have hLl : ((st.drop (st.length - x.parts.toNat)).length : Int) = x.parts := by rw [List.length_drop]; omega
    have hLV : ∀ y ∈ st.drop (st.length - x.parts.toNat), VG y := fun y hy => hV y (List.mem_of_mem_drop hy)
    cases hz : nodeF FF ss t x (st.drop (st.length - x.parts.toNat)) with
    | none => rw [hz] at hr; cases hr
    | some z =>
      rw [hz] at hr
      obtain ⟨w1, w2, w3⟩ := node_ok hS.ok hS.nn hf hT0 hLl hLV hz
      exact run_kinds hS T (st.take (st.length - x.parts.toNat) ++ [z]) r ty (by rw [List.map_append, List.map_singleton, w2]; exact hT) hr fun u hu => by
        rcases List.mem_append.1 hu with hu | hu
        · exact hV u (List.mem_of_mem_take hu)
        · rw [List.mem_singleton] at hu; rw [hu]; exact w1
theorem moment_one {ss : List Sr} {t : Int} {T : List Nd} {l : List El} (hS : SsG ss) (hT : tyOf T = some 1) (h : momentF FF T ss t = some l) : ∃ v, l = [⟨[], v⟩] := by
  obtain ⟨hrun, _⟩ := tyOf_run hT
  unfold momentF at h
  cases hr : runF FF ss t T [] with
  | none => rw [hr] at h; cases h
  | some st =>
    rw [hr] at h
    have hk := run_kinds hS T [] st _ hrun hr (fun x hx => by cases hx)
    change (st.head?.map fun v : Vv => if v.kind = 1 then [(⟨[], v.v⟩ : El)] else v.vec) = some l at h
    cases st with
    | nil => cases h
    | cons v st =>
      simp only [List.head?_cons, Option.map_some, Option.some.injEq] at h
      have hv : v.kind = 1 := by
        have := congrArg List.head? hk
        simpa using this
      rw [if_pos hv] at h
      exact ⟨v.v, h.symm⟩
theorem inst_shape {ss : List Sr} {t : Int} {T : List Nd} (hM : Modest T ss) (h : (instF T ss t).1 = 0) : (∃ k, tyOf T = some k ∧ (k = 1 → ∃ v, (instF T ss t).2 = [⟨[], v⟩])) ∧ (∀ e ∈ (instF T ss t).2, ElS ss e) ∧ okSs none ((instF T ss t).2.map fun e => ⟨e.ls, [(t, e.v)]⟩) = true ∧ (instF T ss t).2.length ≤ 100000000000 := by
  unfold instF at h ⊢
  split
  · rename_i h0; rw [if_pos h0] at h; exact absurd h h0
  · rename_i h0
    rw [if_neg h0] at h
    split
    · rename_i h1; rw [if_pos h1] at h; cases h
    · rename_i h1
      rw [if_neg h1] at h
      have h0' := Decidable.not_not.1 h0
      obtain ⟨k, hk, hok⟩ : ∃ k, tyOf T = some k ∧ okSs none ss = true := by
        unfold asksE at h0'
        cases hq : tyOf T with
        | none => rw [hq] at h0'; dsimp only at h0'; exact absurd h0' (by decide)
        | some k =>
          rw [hq] at h0'
          dsimp only at h0'
          by_cases h3 : k = 3
          · rw [if_pos h3] at h0'; exact absurd h0' (by decide)
          · rw [if_neg h3] at h0'
            cases ho : okSs none ss with
            | true => exact ⟨k, rfl, rfl⟩
            | false => rw [ho] at h0'; exact absurd h0' (by decide)
      cases hm : momentF FF T ss t with
      | none => rw [hm] at h; cases h
      | some l =>
        obtain ⟨s1, s2⟩ := moment_shape hok hm
        have hS := SsG.of hM hok
        obtain ⟨hrun, hlen⟩ := tyOf_run hk
        have h5 := (moment_ok hS hrun hm).2
        have h6 := Nat.mul_le_mul hlen hM.s
        exact ⟨⟨k, hk, fun hk1 => moment_one hS (by rw [hk, hk1]) hm⟩, s1, oks_ans (fun e he => (s1 e he).1) s2 (fun k hk => by cases hk), by show l.length ≤ _; omega⟩
end TwW
end
section
namespace TwW
open Go Tw Go.RowKit Go.Proofs.Tryz
section
variable {σ : Hp} {R : Ending → Hp → Prop}
theorem and2047 (b : Nat) : Go.bits .and .u64 (b : Int) 2047 = ((b % 2048 : Nat) : Int) := by
  have e : Go.bits .and .u64 (b : Int) 2047 = IntKind.u64.wrap (((BitVec.ofInt 64 (b : Int)) &&& (BitVec.ofInt 64 2047)).toNat : Int) := rfl
  have h1 : (BitVec.ofInt 64 (b : Int)).toNat = b % 18446744073709551616 := by
    rw [BitVec.toNat_ofInt]
    have : (((2 ^ 64 : Nat) : Int)) = 18446744073709551616 := by decide
    omega
  have h2 : (BitVec.ofInt 64 2047).toNat = 2 ^ 11 - 1 := rfl
  rw [e, BitVec.toNat_and, h1, h2, Nat.and_two_pow_sub_one_eq_mod]
  simp [IntKind.wrap, IntKind.bits, IntKind.signed]
  omega
theorem odd_bits {v : Int} (h0 : 0 ≤ v) (ha : ¬ Go.bits .and .u64 (v / 2 ^ Int.toNat 52) 2047 ≠ 2047) (hb : ¬ IntKind.u64.wrap (v * 2 ^ Int.toNat 12) = 0) : fNan v.toNat = true := by
  obtain ⟨a, rfl⟩ := Int.eq_ofNat_of_zero_le h0
  have e52 : (2 : Int) ^ Int.toNat 52 = ((4503599627370496 : Nat) : Int) := by decide
  have e12 : (2 : Int) ^ Int.toNat 12 = 4096 := by decide
  rw [e52, ← Int.natCast_ediv, and2047] at ha
  rw [e12] at hb
  have hb' : ((a : Int) * 4096) % 18446744073709551616 ≠ 0 := by
    intro h
    apply hb
    simp [IntKind.wrap, IntKind.bits, IntKind.signed]
    exact h
  rw [fNan_iff, Int.toNat_natCast]
  omega
theorem own_spec {p p7 : Option Addr} {n c n7 c7 i : Nat} {t v : Int} {ss : List Sr} (hs : RdS 2 ESr σ p n ss) (hv : ∃ s ∈ ss, ∃ x ∈ s.ps, x.2 = v) (h : law22_EvalShape.pt88 R p n c t p7 n7 c7 i σ) : law22_EvalShape.pt60 R p n c t p7 n7 c7 i v false 0 σ := by
  have hl : ss.length = n := hs.1
  have hbig := hs.big
  suffices H : ∀ g x : Nat, ∀ b : Bool, n - x = g → x ≤ n → (b = true ∨ ∃ s ∈ ss.drop x, ∃ y ∈ s.ps, y.2 = v) → law22_EvalShape.pt60 R p n c t p7 n7 c7 i v b x σ from H n 0 false rfl (Nat.zero_le _) (.inr (by rw [List.drop_zero]; exact hv))
  intro g
  induction g with
  | zero =>
    intro x b hg hx hb
    have hbt : b = true := by
      rcases hb with hb | ⟨s, hs', _⟩
      · exact hb
      · rw [List.drop_eq_nil_of_le (by omega)] at hs'; cases hs'
    subst hbt
    exact law22_EvalShape.pt60_of ⟨fun hlt => by omega, fun _ => ⟨fun hh => (by cases hh), fun _ => h⟩⟩
  | succ g ih =>
    intro x b hg hx hb
    have hx' : x < n := by omega
    obtain ⟨s, hsx⟩ := hs.ex hx'
    obtain ⟨a, o, p1, k1, c1, q1, m1, d1, rfl, hld, _, hps, _⟩ := ESr.at hs hsx
    have hm : s.ps.length = m1 := hps.1
    have hmb := hps.big
    refine law22_EvalShape.pt60_of ⟨fun _ => ?_, fun hh => by omega⟩
    suffices K : ∀ g' k : Nat, ∀ b : Bool, m1 - k = g' → k ≤ m1 → (b = true ∨ (∃ y ∈ s.ps.drop k, y.2 = v) ∨ ∃ s ∈ ss.drop (x + 1), ∃ y ∈ s.ps, y.2 = v) → law22_EvalShape.pt72 R (aD a o) n c t p7 n7 c7 i v b x k σ from K m1 0 b rfl (Nat.zero_le _) (by
      rcases hb with hb | ⟨u, hu, y, hy, hv'⟩
      · exact .inl hb
      · rw [drop_at' hsx] at hu
        rcases List.mem_cons.1 hu with rfl | hu
        · exact .inr (.inl ⟨y, by rw [List.drop_zero]; exact hy, hv'⟩)
        · exact .inr (.inr ⟨u, hu, y, hy, hv'⟩))
    intro g'
    induction g' with
    | zero =>
      intro k b hg' hk hb
      exact law22_EvalShape.pt72_of ⟨a, o, rfl, by omega, q1, m1, d1, by simpa using hld.2.1, fun hlt => by omega, fun _ => ⟨i64_succ hx' hbig, ih (x + 1) b (by omega) (by omega) (by
        rcases hb with hb | ⟨y, hy, _⟩ | hb
        · exact .inl hb
        · rw [List.drop_eq_nil_of_le (by omega)] at hy; cases hy
        · exact .inr hb)⟩⟩
    | succ g' ihk =>
      intro k b hg' hk hb
      have hk' : k < m1 := by omega
      obtain ⟨y, hy⟩ := hps.ex hk'
      obtain ⟨b2, o2, hq, hl2⟩ := EPt.at hps hy
      refine law22_EvalShape.pt72_of ⟨a, o, rfl, by omega, q1, m1, d1, by simpa using hld.2.1, fun _ => ⟨fun ht => ⟨i64_succ hk' hmb, ihk (k + 1) true (by omega) (by omega) (.inl rfl)⟩, fun hf => ⟨by omega, q1, m1, d1, by simpa using hld.2.1, b2, o2, hq, by omega, y.2, by simpa using hl2.2.1, i64_succ hk' hmb, ihk (k + 1) _ (by omega) (by omega) ?_⟩⟩, fun hh => by omega⟩
      rcases hb with hb | ⟨z, hz, hzv⟩ | hb
      · rw [hf] at hb; cases hb
      · rw [drop_at' hy] at hz
        rcases List.mem_cons.1 hz with rfl | hz
        · exact .inl (decide_eq_true hzv)
        · exact .inr (.inl ⟨z, hz, hzv⟩)
      · exact .inr (.inr hb)
theorem eloop_spec {p p7 : Option Addr} {n c n7 c7 : Nat} {t : Int} {ss : List Sr} {l : List El} (hs : RdS 2 ESr σ p n ss) (hA : RdS 2 ESr σ p7 n7 (l.map fun e => ⟨e.ls, [(t, e.v)]⟩)) (hl : ∀ e ∈ l, ElS ss e) (hR : Spec prog 7 #[] σ (Cont R (CB fun t144 y => R (.returned (.bool t144)) y))) :
    law22_EvalShape.pt29 R p n c t p7 n7 c7 0 σ := by
  have hln : l.length = n7 := by have := hA.1; rwa [List.length_map] at this
  have hbig := hA.big
  suffices H : ∀ g i : Nat, n7 - i = g → i ≤ n7 → law22_EvalShape.pt29 R p n c t p7 n7 c7 i σ from H n7 0 rfl (Nat.zero_le _)
  intro g
  induction g with
  | zero => exact fun i hg hi => law22_EvalShape.pt29_of ⟨fun hlt => by omega, fun _ => hR⟩
  | succ g ih =>
    intro i hg hi
    have hi' : i < n7 := by omega
    obtain ⟨e, he⟩ : ∃ e, l[i]? = some e := ⟨_, List.getElem?_eq_getElem (by omega)⟩
    obtain ⟨b, o, p1, n1, c1, q1, m1, d1, rfl, hld, _, hps, _⟩ := ESr.at hA (i := i) (s := ⟨e.ls, [(t, e.v)]⟩) (by rw [List.getElem?_map, he]; rfl)
    have hm1 : 1 = m1 := hps.1
    subst hm1
    obtain ⟨b2, o2, rfl, hl2⟩ := EPt.at hps (i := 0) (x := (t, e.v)) rfl
    have next : law22_EvalShape.pt88 R p n c t (aD b o) n7 c7 i σ := law22_EvalShape.pt88_of ⟨i64_succ hi' hbig, by exact_mod_cast ih (i + 1) (by omega) (by omega)⟩
    have hl' : σ.ld ⟨b, o + Int.toNat (i : Int) * 2 + 1, none⟩ = some (.slice (aD b2 o2) 1 d1) := by simpa using hld.2.1
    refine law22_EvalShape.pt29_of ⟨fun _ => ⟨b, o, rfl, by omega, aD b2 o2, 1, d1, hl', fun hh => absurd rfl hh, fun _ => ⟨by omega, aD b2 o2, 1, d1, hl', b2, o2, rfl, by decide, t, by simpa using hl2.1, fun hh => absurd rfl hh, fun _ => ⟨by omega, aD b2 o2, 1, d1, hl', b2, o2, rfl, by decide, e.v, by simpa using hl2.2.1, by decide, fun x100 e100 x101 e101 => ⟨fun _ => next, fun hodd => ⟨by decide, fun x105 e105 => ⟨fun _ => next, fun hz => ⟨fun _ => next, fun hnan => ?_⟩⟩⟩⟩⟩⟩⟩, fun hh => by omega⟩
    subst e100; subst e101; subst e105
    obtain ⟨_, hcn | hown⟩ := hl e (List.mem_of_getElem? he)
    · rcases hcn with ⟨hcn, h0⟩ | hcn
      · rw [odd_bits h0 hodd hz] at hcn; cases hcn
      · exact absurd hcn hnan
    · exact own_spec hs hown next
theorem shape_spec {p q : Option Addr} {n c m dd : Nat} {T : List Nd} {ss : List Sr} {t : Int} (hawk : Awk) (hg : Gl σ) (hr : RdS 10 ENd σ p n T) (hs : RdS 2 ESr σ q m ss) (hM : Modest T ss) (hT : TOk T) (hS : SOk ss) (h : ∀ σ', Ext σ σ' → R (.returned (.bool true)) σ') :
    Spec prog 3 #[.slice p n c, .slice q m dd, .int .i64 t] σ R := by
  have hTl : T.length = n := hr.1
  have hMt := hM.t
  have awk : ∀ σ', Ext σ σ' → Spec prog 7 #[] σ' (Cont R (CB fun t26 y_2 => R (.returned (.bool t26)) y_2)) := fun σ' hx => hawk σ' _ (hg.mono hx) fun σ2 hx2 => ⟨_, rfl, h σ2 (hx.trans hx2)⟩
  refine law22_EvalShape.start (cNodes_spec hr hT fun pu cu σ1 hu => ⟨_, _, _, rfl, cSeries_spec (hs.mono ESr.mono hu.up) hS fun p3 c3 σ2 h3 hx2 => ⟨_, _, _, rfl, ?_⟩⟩)
  have X2 := hu.up.trans hx2
  refine inst_spec (hg.mono X2) ((hu.rd ENd.mono).mono ENd.mono hx2) h3 hM (fun τ p10 n10 c10 σ3 bs h0 hA hx3 => ⟨_, _, _, _, rfl, fun hh => absurd rfl hh, fun _ => ?_⟩) fun σ3 h0 hx3 => ⟨_, _, _, _, rfl, fun _ => ⟨fun _ => awk σ3 (X2.trans hx3), fun hh => absurd rfl hh⟩, fun hh => absurd h0 hh⟩
  have X3 := X2.trans (hx3.trans hA.ext)
  obtain ⟨⟨k', hk', hone⟩, hel, hok, hlen⟩ := inst_shape hM h0
  refine cNodes_spec (hr.mono ENd.mono X3) hT fun p4 c4 σ4 h4 => ⟨_, _, _, rfl, check_spec (h4.rd ENd.mono) (by omega) hM.tx (fun k σ5 hk hx5 => ⟨_, _, _, rfl, fun hh => absurd rfl hh, fun _ => ?_⟩) fun k j e σ5 hk => by rw [hk'] at hk; cases hk⟩
  obtain rfl : k' = k := Option.some.inj (hk'.symm.trans hk)
  have X45 := h4.up.trans hx5
  have hA5 := (hA.mono X45).rd
  have hSA : SOk ((instF T ss t).2.map fun e => (⟨e.ls, [(t, e.v)]⟩ : Sr)) := ⟨by rw [List.length_map]; omega, fun s hs' => by
    obtain ⟨e, he, rfl⟩ := List.mem_map.1 hs'
    exact Nat.le_trans (chkL_len (hel e he).1) (by decide), fun s hs' => by
    obtain ⟨e, he, rfl⟩ := List.mem_map.1 hs'
    exact (by decide : 1 ≤ 1000000000)⟩
  refine cSeries_spec hA5 hSA fun p6 c6 σ6 h6 hx6 => ⟨_, _, _, rfl, sCheck_spec h6 fun σ7 hx7 => ⟨_, rfl, fun hne => absurd (by rw [hok]; rfl) hne, fun _ => ?_⟩⟩
  have X57 := hx6.trans hx7
  have hA7 := hA5.mono ESr.mono X57
  have X7 := X3.trans (X45.trans X57)
  have fin : ∀ p', p' = p10 → law22_EvalShape.pt29 R q m dd t p' n10 c10 0 σ7 := fun p' hp => by
    subst hp
    exact eloop_spec (hs.mono ESr.mono X7) hA7 hel (awk σ7 X7)
  refine ⟨fun hk1 => ?_, fun _ => fin _ rfl⟩
  obtain ⟨v, hv⟩ := hone hk1
  have hn10 : 1 = n10 := by have := hA7.1; rw [hv] at this; exact this
  subst hn10
  obtain ⟨b, o, p1, n1, c1, q1, m1, d1, rfl, hld, hls, _, _⟩ := ESr.at hA7 (i := 0) (s := ⟨[], [(t, v)]⟩) (by rw [hv]; rfl)
  have hn1 : 0 = n1 := hls.1
  subst hn1
  exact ⟨fun hh => absurd rfl hh, fun _ => ⟨b, o, rfl, by decide, p1, 0, c1, by simpa using hld.1, fun hh => absurd rfl hh, fun _ => fin _ rfl⟩⟩
end
end TwW
end
section
namespace TwW.Rw
open Go Tw TwW Go.Proofs.Tryz Go.Proofs.YtfjmoojdchmakaaGreatDoor
theorem oks {T : List Nd} {ss : List Sr} (hT : LenI (fun x : Nd => x.text.size ≤ 1048576 ∧ x.mt.length ≤ 1048576 ∧ x.names.length ≤ 1048576) T) (hS : LenI (fun s : Sr => s.ls.length ≤ 1048576 ∧ s.ps.length ≤ 1048576 ∧ ∀ p ∈ s.ps, 0 ≤ p.2) ss) (ht : T.length ≤ 2000000) : Modest T ss ∧ TOk T ∧ SOk ss :=
  ⟨⟨ht, fun x hx => Nat.le_trans (hT.1 x hx).1 (by decide), Nat.le_trans hS.2 (by decide), fun s hs => Nat.le_trans (hS.1 s hs).2.1 (by decide), fun s hs => (hS.1 s hs).2.2⟩, ⟨ht, fun x hx => Nat.le_trans (hT.1 x hx).2.1 (by decide), fun x hx => Nat.le_trans (hT.1 x hx).2.2 (by decide)⟩,
    ⟨Nat.le_trans hS.2 (by decide), fun s hs => Nat.le_trans (hS.1 s hs).1 (by decide), fun s hs => Nat.le_trans (hS.1 s hs).2.1 (by decide)⟩⟩
end TwW.Rw
namespace Go.Proofs.YtfjmoojdchmakaaGreatDoor.evalShape
open Go Tw TwW TwW.Rw Go.ChangeShapes Go.WideShapes Go.ChangeAt Go.RowKit Go.Deep
open Go.Proofs.Tryz (f3 func3 params3)
set_option maxRecDepth 100000
theorem contract (H : Type) (enc : TypeId × Value → H) (W : World) (base : Nat) (args : Array Value) (ds gs : List (DataW H)) (before : List MemPlace)
    (hval : ∀ (j : Nat) t v, f3.params[j]? = some t → args[j]? = some v → Value.okWide prog W .any base t v)
    (hW : DataW.Whole enc prog f3.params.toList Rows.evalShapeSpec.vars false W args.toList ds gs before) (hk : Rows.uptoBulkAll (ds ++ gs) ≤ 1048576) (hL : laidMetH prog Laid W) (hsh : W.ShapedOpen prog) :
    Calls prog 3 args W fun e W' => ∃ v, e = .returned v ∧ Rows.evalShapeSpec.post enc prog f3 false true false false W args v W' := by
  have hW' := hW
  obtain ⟨p, q, hA0, hV, rfl, hfz, hnd⟩ := hW
  have hA : DataW.TrodAll enc prog W 0 (fun _ => true) true f3.params.toList args.toList ds p := hA0
  rw [params3] at hA hval
  obtain ⟨v0, vs0, d0, ds0, p0, q0, hargs, rfl, rfl, h0, r0⟩ := trodAll_cons hA
  obtain ⟨v1, vs1, d1, ds1, p1, q1, rfl, rfl, rfl, h1, r1⟩ := trodAll_cons r0
  obtain ⟨v2, vs2, d2, ds2, p2, q2, rfl, rfl, rfl, h2, r2⟩ := trodAll_cons r1
  obtain ⟨rfl, rfl, rfl⟩ := trodAll_nil r2
  obtain rfl : args = #[v0, v1, v2] := by cases args; simp_all
  obtain ⟨rfl, rfl⟩ := trodVars_none hV
  simp only [List.append_nil, Rows.uptoBulkAll] at hk
  obtain ⟨a0, n0, c0, T, rfl, hr0, hT⟩ := open_nds (hval 0 22 v0 rfl rfl) h0 (by omega)
  obtain ⟨a1, n1, c1, ss, rfl, hr1, hS⟩ := open_srs (hval 1 23 v1 rfl rfl) h1 (by omega)
  obtain ⟨x2, rfl, rfl, _, w2⟩ := open_int Go.Proofs.Tryz.underlying2 (hval 2 2 v2 rfl rfl) h2
  obtain ⟨hM, hTO, hSO⟩ := oks hT hS (Nat.le_trans hT.2 (by decide))
  exact law_of (by kernel_rfl) rfl rfl ⟨rfl, rfl, rfl⟩ hW' (shape_spec awake_spec (gl_of hL hsh) hr0 hr1 hM hTO hSO fun σ' hx => ⟨rfl, hx⟩)
theorem noInit : Go.Proofs.Tryz.checked.prog.inits.idxOf? 3 = none := by kernel_rfl
theorem witness (os : Os) (started : os.Started) (H : Type) (enc : TypeId × Value → H) : ∃ (w : World) (tape : Tape) (i : Input), w.os = os ∧ (w.forCall tape i).Shaped Go.Proofs.Tryz.checked.prog ∧ i.vars = [] ∧ Input.okWide Go.Proofs.Tryz.checked.prog (w.forCall tape i) .any w.heap.size 3 i ∧
      (Rows.OpenSpec.upto Rows.evalShapeSpec).preRow enc Go.Proofs.Tryz.checked.prog f3 Rows.evalShapeUptoRow.domain false Rows.evalShapeUptoRow.laid (w.forCall tape i).memory i.args ∧ ({} : Assume).holds Go.Proofs.Tryz.checked.prog (lone (Frame.enter Go.Proofs.Tryz.checked.prog 3 i.args .normal) [] (w.forCall tape i)) := by
  obtain ⟨places, hx⟩ := reads os enc
  exact witness_row_atRef (enc := enc) (C := Go.Proofs.Tryz.checked) false (laidWorld os) wArgs rfl (wHv os) (wHr os) (wHok os)
      (OpenSpec.preRow_of_cond 8 hx (by as_aux_lemma => kernel_rfl) (fun k hk => by cases hk; as_aux_lemma => kernel_rfl) (by as_aux_lemma => kernel_rfl) (laid_met os _))
theorem lifted (os : Os) (started : os.Started) (H : Type) (enc : TypeId × Value → H) (F : Stop.Interp) :
    ReturnsInHanded {} Go.Proofs.Tryz.checked os 3 .any ((Rows.OpenSpec.upto Rows.evalShapeSpec).preRow enc prog f3 Rows.evalShapeUptoRow.domain false Rows.evalShapeUptoRow.laid) (((Rows.OpenSpec.upto Rows.evalShapeSpec).at F).post enc prog f3 false true false false) := by
  refine returnsInHanded_of_row (C := Go.Proofs.Tryz.checked) (s := Rows.OpenSpec.upto Rows.evalShapeSpec) own started noInit func3 (witness os started H enc) ?_
  intro W base args ds gs before hval0 hW _ hcond _ hL hsh _
  exact contract H enc W base args ds gs before hval0 hW (of_decide_eq_true (hcond _ rfl)) hL hsh
end Go.Proofs.YtfjmoojdchmakaaGreatDoor.evalShape
end
