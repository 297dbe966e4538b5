/-
  Part 5 of the proof that the law EvalShiftUptoCardSaid of the given program answers true for every input of the given statement; the input reads behind the call as it did. (The texts: IN4 IO4 LW4 BK4 BL4 AW4 AR4 AS4 AX4 IA4 LD4 LG4 LE4 IG4 IC4 JA4 JB4 SA4 SB4 SC4 SD4 JS4.)
-/
import Derived.Test.YtjfbehbfkjmblaaGreatDoorA4
import Derived.Test.YtjfbehbfkjmblaaGreatDoorCards
import Derived.Test.YtjfbehbfkjmblaaGreatDoorTie
import Derived.WalkKit
import Derived.ProofKit
import Derived.OpenShut
import Derived.Deep.DeepHandedRow
import Derived.Stop.LaidErr
import Derived.Shelf.Vars
import Derived.Deep.DeepWitnessRowRef
import Derived.Deep.DeepLaidRun
import Derived.Lib.LaidTab
import Derived.LaidLaws
set_option linter.all false
section
namespace TwW
open Go Tw Go.RowKit Go.Proofs.Tryz
def asksE (T : List Nd) (ss : List Sr) : Int := match tyOf T with
  | none => 220
  | some k => if k = 3 then 220 else if okSs none ss = true then 0 else 224
def instF (T : List Nd) (ss : List Sr) (t : Int) : Int × List El :=
  if asksE T ss ≠ 0 then (asksE T ss, []) else if ¬ (-1099511627776 ≤ t ∧ t ≤ 1099511627776) then (221, []) else match momentF FF T ss t with
    | none => (223, [])
    | some l => (0, l)
structure Modest (T : List Nd) (ss : List Sr) : Prop where
  t : T.length ≤ 2000000
  tx : ∀ x ∈ T, x.text.size ≤ 4611686018427387904
  s : ss.length ≤ 10000000
  ps : ∀ s ∈ ss, s.ps.length ≤ 1000000000
  nn : ∀ s ∈ ss, ∀ p ∈ s.ps, 0 ≤ p.2
theorem okSs_mem : ∀ {ss : List Sr} {q : Option (List Lb)}, okSs q ss = true → ∀ s ∈ ss, chkL s.ls = 0 ∧ risF s.ps = true
  | s :: l, q, h, x, hx => by
    rw [okSs_cons] at h
    simp only [Bool.and_eq_true, decide_eq_true_eq] at h
    rcases List.mem_cons.1 hx with rfl | hx
    · exact ⟨h.1.1.1, h.1.1.2⟩
    · exact okSs_mem h.2 x hx
theorem SsG.of {T : List Nd} {ss : List Sr} (hM : Modest T ss) (h : okSs none ss = true) : SsG ss :=
  ⟨⟨fun s hs => risF_pair (okSs_mem h s hs).2, fun s hs => SmallL.of (okSs_mem h s hs).1, hM.s⟩, hM.nn, hM.ps⟩
section
variable {σ σ' σ0 : Hp} {R : Ending → Hp → Prop}
theorem moment_spec {p q : Option Addr} {n c m d : Nat} {T : List Nd} {ss : List Sr} {t kf : Int} (hg : Gl σ) (hr : RdS 10 ENd σ p n T) (hs : RdS 2 ESr σ q m ss) (hS : SsG ss) (hn : n ≤ 4096) (ht : -4611686018427387904 ≤ t ∧ t ≤ 4611686018427387904) (hty : tyRun T [] = some [kf])
    (h : ∀ l p' n' c' σ', momentF FF T ss t = some l → Ext σ σ' → RdS 2 EEl σ' p' n' l → R (.returned (.tuple #[.slice p' n' c', .int .i64 0])) σ') (h' : momentF FF T ss t = none → ∀ σ', Ext σ σ' → R (.returned (.tuple #[.slice none 0 0, .int .i64 223])) σ') :
    Spec prog 18 #[.slice p n c, .slice q m d, .int .i64 t] σ R := by
  refine eval_moment.start fun ab hab => ?_
  have xa := Ext.set (o := .cells #[.slice q m d, .int .i64 t] 84 (0, 0)) hab
  have hA : AskAt (σ.set ab (.cells #[.slice q m d, .int .i64 t] 84 (0, 0))) ab ss t := ⟨⟨q, m, d, ld_of (Hp.set_same _ _ _) rfl, hs.mono ESr.mono xa⟩, ld_of (Hp.set_same _ _ _) rfl⟩
  refine run_spec hA (hg.mono xa) (hr.mono ENd.mono xa) hS hn ht hty ⟨fun x σ1 pv nv cv qv mv dv hx hx1 h1 h2 => ?_, fun hno σ1 hx1 => ?_⟩
  · have hm : momentF FF T ss t = some (if x.kind = 1 then [⟨[], x.v⟩] else x.vec) := by
      unfold momentF
      cases hrun : runF FF ss t T [] with
      | none => rw [hrun] at hx; cases hx
      | some st =>
        rw [hrun] at hx
        show (st.head?.map _) = _
        rw [show st.head? = some x from hx]; rfl
    refine ⟨_, _, _, _, _, _, _, _, _, rfl, fun _ => ⟨fun hk => fun b25 hb25 => eval_moment.pt11_of ?_, fun hk => eval_moment.pt11_of ?_⟩⟩
    · rw [if_pos hk] at hm
      refine h _ _ _ _ _ hm (xa.trans (hx1.trans (.set hb25))) ⟨rfl, [.slice none 0 0, .int .u64 x.v], ⟨rfl, by omega, .inr ⟨b25, 0, rfl, LdL.of_cells (c := [.slice none 0 0, .int .u64 x.v]) (Hp.set_same _ _ _)⟩⟩, rfl, fun i y hy => ?_⟩
      cases i with
      | zero =>
        simp only [List.getElem?_cons_zero, Option.some.injEq] at hy
        subst hy
        exact ⟨none, 0, 0, rfl, RdS.nil⟩
      | succ i => simp at hy
    · rw [if_neg hk] at hm
      exact h _ _ _ _ _ hm (xa.trans hx1) h1
  · have hm : momentF FF T ss t = none := by
      unfold momentF
      cases hrun : runF FF ss t T [] with
      | none => rfl
      | some st =>
        rw [hrun] at hno
        show (st.head?.map _) = _
        rw [show st.head? = none from hno]; rfl
    exact ⟨_, _, _, _, _, _, _, _, _, rfl, fun _ => ⟨fun hk => absurd hk (by decide), fun _ => eval_moment.pt11_of (h' hm _ (xa.trans hx1))⟩⟩
theorem asks_spec {p q : Option Addr} {n c m d : Nat} {T : List Nd} {ss : List Sr} (hr : RdS 10 ENd σ p n T) (hs : RdS 2 ESr σ q m ss) (hM : Modest T ss) (h : ∀ σ', Ext σ σ' → R (.returned (.int .i64 (asksE T ss))) σ') : Spec prog 16 #[.slice p n c, .slice q m d] σ R := by
  have hl : T.length = n := hr.1
  have hMt := hM.t
  refine eval_asks.start (check_spec hr (by omega) hM.tx (fun k σ1 hk hx1 => ⟨_, _, _, rfl, fun hh => absurd rfl hh, fun _ => ⟨fun h3 => ?_, fun h3 => sCheck_spec (hs.mono ESr.mono hx1) fun σ2 hx2 => ⟨_, rfl, fun hne => ?_, fun h0 => ?_⟩⟩⟩) fun k j e σ1 hk he hx1 => ⟨_, _, _, rfl, fun _ => ?_, fun hh => absurd he hh⟩)
  · have := h σ1 hx1
    rwa [show asksE T ss = 220 by unfold asksE; rw [hk]; exact if_pos h3] at this
  · have := h σ2 (hx1.trans hx2)
    have ho : ¬ okSs none ss = true := fun ho => hne (by rw [ho]; rfl)
    rwa [show asksE T ss = 224 by unfold asksE; rw [hk]; show (if k = 3 then _ else _) = _; rw [if_neg h3, if_neg ho]] at this
  · have := h σ2 (hx1.trans hx2)
    have ho : okSs none ss = true := by
      cases hq : okSs none ss with
      | true => rfl
      | false => rw [hq] at h0; exact absurd (by decide) h0
    rwa [show asksE T ss = 0 by unfold asksE; rw [hk]; show (if k = 3 then _ else _) = _; rw [if_neg h3, if_pos ho]] at this
  · have := h σ1 hx1
    rwa [show asksE T ss = 220 by unfold asksE; rw [hk]] at this
def EIn (τ : Hp) (vs : List Value) (x : El × Nat) : Prop := ∃ p n c, vs = [.slice p n c, .slice (aD x.2 0) 1 1] ∧ RdL τ p n x.1.ls
theorem EIn.mono : Mono EIn := fun _ _ _ _ hx ⟨p, n, c, hv, h⟩ => ⟨p, n, c, hv, h.mono ELb.mono hx⟩
structure Ans (t : Int) (τ σ : Hp) (p : Option Addr) (n c : Nat) (l : List El) (bs : List Nat) : Prop where
  len : bs.length = l.length
  own : ∃ cs, Own 2 σ p n c cs ∧ Ch 2 EIn τ cs (l.zip bs)
  pts : ∀ (i b : Nat) (e : El), bs[i]? = some b → l[i]? = some e → σ b = some (.cells #[.int .i64 t, .int .u64 e.v] 36 (0, 0))
  op : ∀ a, p = some a → τ a.block = none ∧ a.block ∉ bs
  tb : ∀ b ∈ bs, τ b = none
  nd : bs.Nodup
  ext : Ext τ σ
theorem Ans.known {t : Int} {τ : Hp} {p : Option Addr} {n c : Nat} {l : List El} {bs : List Nat} (h : Ans t τ σ p n c l bs) : ∀ b ∈ bs, ∃ u, σ b = some u := fun b hb => by
  obtain ⟨i, hi⟩ := List.mem_iff_getElem?.1 hb
  have hlt := (List.getElem?_eq_some_iff.1 hi).1
  exact ⟨_, h.pts i b _ hi (List.getElem?_eq_getElem (by rw [← h.len]; exact hlt))⟩
theorem Ans.mono {t : Int} {τ : Hp} {p : Option Addr} {n c : Nat} {l : List El} {bs : List Nat} (h : Ans t τ σ p n c l bs) (hx : Ext σ σ') : Ans t τ σ' p n c l bs :=
  ⟨h.len, let ⟨cs, h1, h2⟩ := h.own; ⟨cs, h1.mono hx, h2⟩, fun i b e hb he => hx _ _ (h.pts i b e hb he), h.op, h.tb, h.nd, h.ext.trans hx⟩
theorem Ans.rd {t : Int} {τ : Hp} {p : Option Addr} {n c : Nat} {l : List El} {bs : List Nat} (h : Ans t τ σ p n c l bs) : RdS 2 ESr σ p n (l.map fun e => ⟨e.ls, [(t, e.v)]⟩) := by
  obtain ⟨cs, h1, h2⟩ := h.own
  have hz : (l.zip bs).length = l.length := by rw [List.length_zip, h.len, Nat.min_self]
  have hln : l.length = n := by
    have a1 := h1.1
    have a2 := h2.1
    rw [hz] at a2; omega
  refine ⟨by rw [List.length_map]; exact hln, cs, h1.rd, by rw [h2.1, hz, List.length_map], fun i s hs => ?_⟩
  rw [List.getElem?_map] at hs
  cases he : l[i]? with
  | none => rw [he] at hs; cases hs
  | some e =>
    rw [he] at hs
    simp only [Option.map_some, Option.some.injEq] at hs
    subst hs
    have hlt := (List.getElem?_eq_some_iff.1 he).1
    obtain ⟨b, hb⟩ : ∃ b, bs[i]? = some b := ⟨_, List.getElem?_eq_getElem (by rw [h.len]; exact hlt)⟩
    obtain ⟨p1, n1, c1, hv, hrl⟩ := h2.2 i (e, b) (List.getElem?_zip_eq_some.2 ⟨he, hb⟩)
    refine ⟨p1, n1, c1, aD b 0, 1, 1, hv, hrl.mono ELb.mono h.ext, ⟨rfl, [.int .i64 t, .int .u64 e.v], ⟨rfl, by omega, .inr ⟨b, 0, rfl, LdL.of_cells (c := [.int .i64 t, .int .u64 e.v]) (h.pts i b e hb he)⟩⟩, rfl, fun j y hy => ?_⟩, Nat.le_refl _⟩
    cases j with
    | zero => simp only [List.getElem?_cons_zero, Option.some.injEq] at hy; subst hy; rfl
    | succ j => simp at hy
theorem Ans.add {t : Int} {τ : Hp} {p : Option Addr} {n c b : Nat} {l : List El} {bs : List Nat} {e : El} {pl : Option Addr} {nl cl : Nat} {y : Hp} {Φ : Value → Hp → Prop} (h : Ans t τ σ p n c l bs) (hy : Ext σ y) (hr : RdL (σ.new y) pl nl e.ls) (hb : y b = none) (hn : n ≤ 1000000000000)
    (hΦ : ∀ τ' p' c' σ', Ans t τ' σ' p' (n + 1) c' (l ++ [e]) (bs ++ [b]) → Ext τ τ' → Φ (.slice p' (n + 1) c') σ') :
    Al (Hp.set y b (.cells #[.int .i64 t, .int .u64 e.v] 36 (0, 0))) fun b50 => Eff prog (Builtin.append_ #[23, 23] 23 #[.slice p n c, (.slice (aD b50 0) 1 1)]) (Hp.set (Hp.set y b (.cells #[.int .i64 t, .int .u64 e.v] 36 (0, 0))) b50 (.cells #[.slice pl nl cl, .slice (aD b 0) 1 1] 33 (0, 0))) Φ := fun b50 hb50 => by
  obtain ⟨cs, h1, h2⟩ := h.own
  have xb := Ext.set (o := .cells #[.int .i64 t, .int .u64 e.v] 36 (0, 0)) hb
  have xc := Ext.set (o := .cells #[.slice pl nl cl, .slice (aD b 0) 1 1] 33 (0, 0)) hb50
  have X := hy.trans (xb.trans xc)
  have hz : (l.zip bs).length = l.length := by rw [List.length_zip, h.len, Nat.min_self]
  have hσb : σ b = none := ext_none hy hb
  have hnb : b ≠ b50 := fun e => by rw [← e, Hp.set_same] at hb50; cases hb50
  refine app_eff (h1.mono X) (q := aD b50 0) (ys := [.slice pl nl cl, .slice (aD b 0) 1 1]) ⟨rfl, by omega, .inr ⟨b50, 0, rfl, LdL.of_cells (c := [.slice pl nl cl, .slice (aD b 0) 1 1]) (Hp.set_same _ _ _)⟩⟩ (fun u hu => by
    simp only [List.mem_cons, List.not_mem_nil, or_false] at hu
    rcases hu with rfl | rfl <;> rfl) (by omega) fun p' c' σ5 ho5 hx5 => ?_
  have T : ∀ k u, σ k = some u → (∀ a, p = some a → k ≠ a.block) → σ5 k = some u ∧ ∀ a, p' = some a → k ≠ a.block := fun k u hk hne => by
    obtain ⟨a1, a2⟩ := del_some.1 (hx5 k u (del_some.2 ⟨hne, X _ _ hk⟩))
    exact ⟨a2, a1⟩
  have Tb := del_some.1 (hx5 b _ (del_some.2 ⟨fun a ha e => h1.block a ha (by rw [← e]; exact hσb), xc _ _ (Hp.set_same _ _ _)⟩))
  have tt : Ext τ (τ.or (σ.new y)) := Ext.or_l _ _
  have nt : Ext (σ.new y) (τ.or (σ.new y)) := Ext.or_r fun k hk => by
    cases hh : τ k with
    | none => rfl
    | some u =>
      have h3 := h.ext _ _ hh
      cases h4 : (σ.new y) k with
      | none => exact absurd h4 hk
      | some v => rw [(new_some.1 h4).1] at h3; cases h3
  have kn : ∀ k, (∃ u, σ k = some u) → τ k = none → (τ.or (σ.new y)) k = none := fun k ⟨u, hu⟩ hk => by
    rw [Hp.or_r hk]
    cases hh : (σ.new y) k with
    | none => rfl
    | some v => rw [(new_some.1 hh).1] at hu; cases hu
  have tb : (τ.or (σ.new y)) b = none := by
    rw [Hp.or_r (ext_none h.ext hσb)]
    cases hh : (σ.new y) b with
    | none => rfl
    | some v => rw [(new_some.1 hh).2] at hb; cases hb
  have hbn : b ∉ bs := fun hc => by obtain ⟨u, hu⟩ := h.known b hc; rw [hσb] at hu; cases hu
  have hE5 : Ext (τ.or (σ.new y)) σ5 := fun k u hk => by
    have hyk : y k = some u := (Ext.or_of (h.ext.trans hy) (Ext.of_new _ _)) _ _ hk
    refine (del_some.1 (hx5 k u (del_some.2 ⟨fun a ha e => ?_, xc _ _ (xb _ _ hyk)⟩))).2
    have hka : ∃ u, σ a.block = some u := by
      cases hh : σ a.block with
      | none => exact absurd hh (h1.block a ha)
      | some u => exact ⟨u, rfl⟩
    rw [e, kn a.block hka (h.op a ha).1] at hk; cases hk
  refine hΦ (τ.or (σ.new y)) p' c' σ5 ⟨by simp [h.len], ⟨_, ho5, ?_⟩, fun i b' e' hb' he' => ?_, fun a ha => ⟨?_, fun hc => ?_⟩, fun b' hb' => ?_, ?_, hE5⟩ tt
  · rw [List.zip_append h.len.symm]
    exact (h2.mono EIn.mono tt).snoc rfl ⟨pl, nl, cl, rfl, hr.mono ELb.mono nt⟩
  · rw [List.getElem?_append] at hb' he'
    split at hb'
    · rename_i hlt
      rw [if_pos (by rw [← h.len]; exact hlt)] at he'
      have := h.pts i b' e' hb' he'
      exact (T b' _ this fun a ha e => (h.op a ha).2 (e ▸ List.mem_of_getElem? hb')).1
    · rename_i hlt
      rw [if_neg (by rw [← h.len]; exact hlt), ← h.len] at he'
      cases hq : i - bs.length with
      | zero =>
        rw [hq] at hb' he'
        simp only [List.getElem?_cons_zero, Option.some.injEq] at hb' he'
        subst hb'; subst he'
        exact Tb.2
      | succ j => rw [hq] at hb'; simp at hb'
  · cases hh : (τ.or (σ.new y)) a.block with
    | none => rfl
    | some u =>
      exfalso
      have hyk : y a.block = some u := (Ext.or_of (h.ext.trans hy) (Ext.of_new _ _)) _ _ hh
      refine (del_some.1 (hx5 a.block u (del_some.2 ⟨fun a' ha' e => ?_, xc _ _ (xb _ _ hyk)⟩))).1 a ha rfl
      have hka : ∃ u, σ a'.block = some u := by
        cases hh : σ a'.block with
        | none => exact absurd hh (h1.block a' ha')
        | some u => exact ⟨u, rfl⟩
      rw [e, kn a'.block hka (h.op a' ha').1] at hh; cases hh
  · rcases List.mem_append.1 hc with hc | hc
    · obtain ⟨u, hu⟩ := h.known _ hc
      exact (T a.block u hu fun a' ha' e => (h.op a' ha').2 (e ▸ hc)).2 a ha rfl
    · rw [List.mem_singleton] at hc
      exact Tb.1 a ha hc.symm
  · rcases List.mem_append.1 hb' with hb' | hb'
    · exact kn b' (h.known _ hb') (h.tb _ hb')
    · rw [List.mem_singleton] at hb'; rw [hb']; exact tb
  · rw [List.nodup_append]
    exact ⟨h.nd, by simp, fun a ha b' hb' e => by rw [List.mem_singleton] at hb'; rw [e, hb'] at ha; exact hbn ha⟩
end
end TwW
end
section
namespace TwW
open Go Tw Go.RowKit Go.Proofs.Tryz
theorem run_ok {ss : List Sr} {t : Int} (hS : SsG ss) : ∀ (T : List Nd) (st r : List Vv) (ty : List Int), tyRun T (st.map (·.kind)) = some ty → runF FF ss t T st = some r → (∀ x ∈ st, VG x) → (∀ x ∈ r, VG x) ∧ (r.map vlen).sum ≤ (st.map vlen).sum + T.length * ss.length
  | [], st, r, ty, _, hr, hV => by
    cases hr
    exact ⟨hV, by omega⟩
  | x :: T, st, r, ty, hT, hr, hV => by
    have hstep : (tyStep x (st.map (·.kind))).1 = 0 := Decidable.byContradiction fun hne => by
      rw [tyRun, if_neg hne] at hT; cases hT
    rw [tyRun, if_pos hstep] at hT
    obtain ⟨hf, hpl, hmo, hT0, hT1⟩ := step_ok hstep
    have hpn := parts_nn hf
    rw [List.length_map] at hT0 hT1 hpl
    rw [hT1, ← List.map_drop, ← List.map_take] at hT
    rw [← List.map_drop] at hT0
    rw [runF] at hr
    have hLl : ((st.drop (st.length - x.parts.toNat)).length : Int) = x.parts := by rw [List.length_drop]; omega
    have hLV : ∀ y ∈ st.drop (st.length - x.parts.toNat), VG y := fun y hy => hV y (List.mem_of_mem_drop hy)
    have hsplit : (st.map vlen).sum = ((st.take (st.length - x.parts.toNat)).map vlen).sum + ((st.drop (st.length - x.parts.toNat)).map vlen).sum := by
      rw [← List.sum_append, ← List.map_append, List.take_append_drop]
    cases hz : nodeF FF ss t x (st.drop (st.length - x.parts.toNat)) with
    | none => rw [hz] at hr; cases hr
    | some z =>
      rw [hz] at hr
      obtain ⟨w1, w2, w3⟩ := node_ok hS.ok hS.nn hf hT0 hLl hLV hz
      obtain ⟨g1, g2⟩ := run_ok hS T (st.take (st.length - x.parts.toNat) ++ [z]) r ty (by rw [List.map_append, List.map_singleton, w2]; exact hT) hr (fun u hu => by
        rcases List.mem_append.1 hu with hu | hu
        · exact hV u (List.mem_of_mem_take hu)
        · rw [List.mem_singleton] at hu; rw [hu]; exact w1)
      refine ⟨g1, ?_⟩
      rw [List.map_append, List.sum_append, List.map_singleton, List.sum_singleton] at g2
      rw [List.length_cons, Nat.succ_mul]
      omega
theorem moment_ok {ss : List Sr} {t k : Int} {T : List Nd} {l : List El} (hS : SsG ss) (hT : tyRun T [] = some [k]) (h : momentF FF T ss t = some l) : (∀ e ∈ l, SmallL e.ls) ∧ l.length ≤ 1 + T.length * ss.length := by
  unfold momentF at h
  cases hr : runF FF ss t T [] with
  | none => rw [hr] at h; cases h
  | some st =>
    rw [hr] at h
    obtain ⟨g1, g2⟩ := run_ok hS T [] st _ hT hr (fun x hx => by cases hx)
    change (st.head?.map fun v : Vv => if v.kind = 1 then [(⟨[], v.v⟩ : El)] else v.vec) = some l at h
    cases st with
    | nil => cases h
    | cons v st =>
      simp only [List.head?_cons, Option.map_some, Option.some.injEq] at h
      have hv := g1 v (by simp)
      rw [List.map_cons, List.sum_cons] at g2
      simp only [List.map_nil, List.sum_nil] at g2
      unfold vlen at g2
      split at h
      · subst h
        exact ⟨fun e he => by rw [List.mem_singleton] at he; subst he; exact ⟨Nat.zero_le _, fun x hx => by cases hx⟩, by simp⟩
      · subst h
        exact ⟨fun e he => (hv.el e he).1, by omega⟩
section
variable {σ σ' σ0 : Hp} {R : Ending → Hp → Prop}
theorem time_spec {t : Int} (h : R (.returned (.bool (decide (-1099511627776 ≤ t ∧ t ≤ 1099511627776)))) σ) : Spec prog 17 #[.int .i64 t] σ R := by
  refine eval_time.start ⟨fun h1 => ?_, fun h1 => ?_⟩
  · rw [show decide (-1099511627776 ≤ t ∧ t ≤ 1099511627776) = decide (t ≤ 1099511627776) from decide_eq_decide.2 ⟨fun h => h.2, fun h => ⟨h1, h⟩⟩] at h; exact h
  · rw [show decide (-1099511627776 ≤ t ∧ t ≤ 1099511627776) = false from decide_eq_false fun hh => h1 hh.1] at h; exact h
theorem tyOf_run {T : List Nd} {k : Int} (h : tyOf T = some k) : tyRun T [] = some [k] ∧ T.length ≤ 4096 := by
  unfold tyOf at h
  cases hr : tyRun T [] with
  | none => rw [hr] at h; cases h
  | some st =>
    rw [hr] at h
    match st with
    | [] => cases h
    | [x] =>
      change (if T.length ≤ 4096 then some x else none) = some k at h
      split at h
      · rename_i h4
        cases h
        exact ⟨rfl, h4⟩
      · cases h
    | _ :: _ :: _ => cases h
theorem inst_spec {p q : Option Addr} {n c m d : Nat} {T : List Nd} {ss : List Sr} {t : Int} (hg : Gl σ) (hr : RdS 10 ENd σ p n T) (hs : RdS 2 ESr σ q m ss) (hM : Modest T ss)
    (h : ∀ τ p' n' c' σ' bs, (instF T ss t).1 = 0 → Ans t τ σ' p' n' c' (instF T ss t).2 bs → Ext σ τ → R (.returned (.tuple #[.slice p' n' c', .int .i64 0])) σ') (h' : ∀ σ', (instF T ss t).1 ≠ 0 → Ext σ σ' → R (.returned (.tuple #[.slice none 0 0, .int .i64 (instF T ss t).1])) σ') :
    Spec prog 6 #[.slice p n c, .slice q m d, .int .i64 t] σ R := by
  refine eval_Instant.start (asks_spec hr hs hM fun σ1 hx1 => ⟨_, rfl, fun hne => ?_, fun h0 => time_spec ⟨_, rfl, fun htf => ?_, fun htt => ?_⟩⟩)
  · have e : instF T ss t = (asksE T ss, []) := by unfold instF; rw [if_pos hne]
    rw [e] at h'
    exact h' σ1 hne hx1
  · have e : instF T ss t = (221, []) := by unfold instF; rw [if_neg h0, if_pos (of_decide_eq_false htf)]
    rw [e] at h'
    exact h' σ1 (by dsimp only; decide) hx1
  have h0' := Decidable.not_not.1 h0
  have ht := of_decide_eq_true htt
  obtain ⟨k, hk, hk3, hok⟩ : ∃ k, tyOf T = some k ∧ k ≠ 3 ∧ okSs none ss = true := by
    unfold asksE at h0'
    cases hq : tyOf T with
    | none => rw [hq] at h0'; dsimp only at h0'; exact absurd h0' (by decide)
    | some k =>
      rw [hq] at h0'
      dsimp only at h0'
      by_cases h3 : k = 3
      · rw [if_pos h3] at h0'; exact absurd h0' (by decide)
      · rw [if_neg h3] at h0'
        cases ho : okSs none ss with
        | true => exact ⟨k, rfl, h3, rfl⟩
        | false => rw [ho] at h0'; exact absurd h0' (by decide)
  have hS := SsG.of hM hok
  obtain ⟨hrun, hlen⟩ := tyOf_run hk
  have hl : T.length = n := hr.1
  refine moment_spec (hg.mono hx1) (hr.mono ENd.mono hx1) (hs.mono ESr.mono hx1) hS (by omega) (by omega) hrun (fun l p' n' c' σ2 hm hx2 hrl => ⟨_, _, _, _, rfl, fun hh => absurd rfl hh, fun _ => ?_⟩) fun hm σ2 hx2 => ⟨_, _, _, _, rfl, fun _ => ?_, fun hh => absurd (by decide) hh⟩
  · have e : instF T ss t = (0, l) := by unfold instF; rw [if_neg h0, if_neg (by rw [Decidable.not_not]; exact ht), hm]
    rw [e] at h
    dsimp only at h
    have hll : l.length = n' := hrl.1
    have hX := hx1.trans hx2
    obtain ⟨mo1, mo2⟩ := moment_ok hS hrun hm
    have hsmall : n' ≤ 100000000000 := by
      have := Nat.mul_le_mul hlen hS.ok.len
      omega
    suffices H : ∀ g i : Nat, ∀ τ p1 n1 c1 σ3 bs, n' - i = g → i ≤ n' → Ans t τ σ3 p1 n1 c1 (l.take i) bs → Ext σ2 τ → eval_Instant.pt38 R t p1 n1 c1 p' n' c' n' i σ3 from
      H n' 0 σ2 none 0 0 σ2 [] rfl (Nat.zero_le _) ⟨rfl, ⟨[], Own.nil, by simp [Ch]⟩, fun i b e hb => (by simp at hb), fun a ha => (by cases ha), fun b hb => (by cases hb), List.nodup_nil, .refl _⟩ (.refl _)
    intro g
    induction g with
    | zero =>
      intro i τ p1 n1 c1 σ3 bs hgi hi hA hx3
      rw [List.take_of_length_le (by omega)] at hA
      exact eval_Instant.pt38_of ⟨fun hlt => by omega, fun _ => h τ p1 n1 c1 σ3 bs rfl hA (hX.trans hx3)⟩
    | succ g ih =>
      intro i τ p1 n1 c1 σ3 bs hgi hi hA hx3
      have hi' : i < n' := by omega
      obtain ⟨x, hx⟩ := hrl.ex hi'
      obtain ⟨b, o, q1, m1, d1, rfl, hld, hrx⟩ := EEl.at hrl hx
      have hX3 := hx3.trans hA.ext
      have hrx3 := hrx.mono ELb.mono hX3
      have hm1 : m1 ≤ 1000000000 := by
        have := (mo1 x (List.mem_of_getElem? hx)).rd hrx
        omega
      have hn1 : n1 = i := by
        obtain ⟨cs, a1, a2⟩ := hA.own
        have a3 := a1.1
        have a4 := a2.1
        rw [List.length_zip, hA.len, Nat.min_self, List.length_take] at a4
        omega
      have next : ∀ τ' p2 c2 σ4 bs', Ans t τ' σ4 p2 (n1 + 1) c2 (l.take i ++ [x]) bs' → Ext τ τ' → I64 ((i : Int) + 1) ∧ eval_Instant.pt38 R t p2 (n1 + 1) c2 (aD b o) n' c' n' ((i : Int) + 1) σ4 := fun τ' p2 c2 σ4 bs' hA' hx4 =>
        ⟨i64_succ hi' hrl.big, ih (i + 1) τ' p2 (n1 + 1) c2 σ4 bs' (by omega) (by omega) (by rw [take_succ' hx]; exact hA') (hx3.trans hx4)⟩
      refine eval_Instant.pt38_of ⟨fun _ => ⟨b, o, rfl, by omega, q1, m1, d1, x.v, by simpa using hld.mono hX3, fun _ => ⟨fun b40 hb40 => ⟨?_, fun b48 hb48 => ?_⟩, fun b48 hb48 b40 hb40 => ?_⟩⟩, fun hh => by omega⟩
      · refine copyL_eff hrx3 hm1 (fun p43 c43 y ho hy => ⟨_, _, _, rfl, fun b48 hb48 => Ans.add hA hy (ho.rd ELb.mono) hb48 (by omega) fun τ' p2 c2 σ4 hA' hx4 => ⟨_, _, _, rfl, next _ _ _ _ _ hA' hx4⟩⟩) hb40
      · have hn48 := (Hp.none_of_set hb48)
        refine Eff.frame1 hb48 (copyL_eff hrx3 hm1 (fun p43 c43 y ho hy hny => ⟨_, _, _, rfl, Ans.add hA hy (ho.rd ELb.mono) hny (by omega) fun τ' p2 c2 σ4 hA' hx4 => ⟨_, _, _, rfl, next _ _ _ _ _ hA' hx4⟩⟩) hb40)
      · have hn40 := (Hp.none_of_set hb40)
        have hn48 : (σ3.set b40 (.cells #[] 47 (0, 0))) b48 = none := by rw [Hp.set_ne (Ne.symm hn40.1)]; exact hb48
        dsimp only
        rw [Hp.set_swap (Ne.symm hn40.1)]
        refine Eff.frame1 hn48 (copyL_eff hrx3 hm1 (fun p43 c43 y ho hy hny => ⟨_, _, _, rfl, Ans.add hA hy (ho.rd ELb.mono) hny (by omega) fun τ' p2 c2 σ4 hA' hx4 => ⟨_, _, _, rfl, next _ _ _ _ _ hA' hx4⟩⟩) hn40.2)
  · have e : instF T ss t = (223, []) := by unfold instF; rw [if_neg h0, if_neg (by rw [Decidable.not_not]; exact ht), hm]
    rw [e] at h'
    exact h' σ2 (by dsimp only; decide) (hx1.trans hx2)
end
end TwW
end
section
namespace TwW
open Go Tw Go.RowKit Go.Proofs.Tryz
theorem Own.store1 {P : Program} {s : Nat} {σ : Hp} {b o n c j : Nat} {cs : List Value} {v : Value} {T : TypeId} {Φ : Unit → Hp → Prop} (ho : Own s σ (some ⟨b, o, none⟩) n c cs) (hj : j < n * s) (hz : ∀ w, (Go.sizeOf T).run P w = .ok 1 w) (hv : v.cells = #[v]) (h1 : v.oneCell' = true)
    (hΦ : ∀ obj, Own s (σ.set b obj) (some ⟨b, o, none⟩) n c (cs.set j v) → Φ () (σ.set b obj)) : Eff P (Instr.storeAt T (.pointer (some ⟨b, o + j, none⟩)) v) σ Φ := by
  obtain ⟨hl, hb0, h⟩ := ho
  rcases h with ⟨hp, _⟩ | ⟨b', o', arr, T', hp, hb, hnc, hsz, hcs⟩
  · cases hp
  · cases hp
    have hns : n * s ≤ c * s := Nat.mul_le_mul_right s hnc
    refine Eff.store hz hb (by rw [hv]; rfl) (by omega) (by rw [hv]; simpa using h1) (hΦ _ ⟨by rw [List.length_set]; exact hl, hb0, .inr ⟨b, o, _, T', rfl, Hp.set_same _ _ _, hnc, by simp [wrt_size]; exact hsz, ?_⟩⟩)
    rw [hv, ← hcs]
    refine List.ext_getElem? fun i => ?_
    simp only [wrt, Array.toList_setIfInBounds]
    rw [List.getElem?_take, List.getElem?_set, List.getElem?_take]
    by_cases hi : i < n * s
    · rw [if_pos hi, if_pos hi, List.getElem?_drop, List.getElem?_drop, List.getElem?_set]
      by_cases hij : j = i
      · subst hij
        have hlt : o + j < arr.size := by omega
        simp [hlt]
        exact Nat.lt_min.2 ⟨hj, by omega⟩
      · rw [if_neg (by omega), if_neg hij]
    · rw [if_neg hi, if_neg hi]
      split
      · omega
      · rfl
theorem EPt.one (σ : Hp) (vs : List Value) (x : Pt) (h : EPt σ vs x) : OneC vs := by
  rw [show vs = [.int .i64 x.1, .int .u64 x.2] from h]
  intro u hu
  simp only [List.mem_cons, List.not_mem_nil, or_false] at hu
  rcases hu with rfl | rfl <;> rfl
theorem EMt.one (σ : Hp) (vs : List Value) (x : Mt) (h : EMt σ vs x) : OneC vs := by
  rw [show vs = [.int .i64 x.kind, .string x.name, .string x.val] from h]
  intro u hu
  simp only [List.mem_cons, List.not_mem_nil, or_false] at hu
  rcases hu with rfl | rfl | rfl <;> rfl
section
variable {σ σ' σ0 : Hp} {R : Ending → Hp → Prop}
theorem clone_eff {T Et ty : TypeId} {s bs : Nat} [SlT prog T Et s bs] {q : Option Addr} {j c b : Nat} {cs : List Value} {Φ : Value → Hp → Prop} (hcs : RdC s σ q j cs) (h1 : OneC cs) (hb : j * bs ≤ 140737488355328)
    (hΦ : ∀ p' c' σ', Own s (σ.new σ') p' j c' cs → Ext σ σ' → Φ (.slice p' j c') σ') (hn : σ b = none) :
    Eff prog (Builtin.append_ #[T, T] ty #[.slice (some ⟨b, 0, none⟩) 0 0, .slice q j c]) (σ.set b (.cells #[] Et (0, 0))) Φ := by
  refine app_eff Own.empty (hcs.mono (.set hn)) h1 (by rw [Nat.zero_add]; exact hb) fun p' c' σ' hown hext => ?_
  have hq : ∀ a : Addr, (some (⟨b, 0, none⟩ : Addr)) = some a → σ a.block = none := fun a ha => by cases ha; exact hn
  rw [Nat.zero_add] at hown ⊢
  rw [List.nil_append] at hown
  exact hΦ p' c' σ' (Own.to_new hown (new_block hq hext (.set hn))) (ext_new hq hext (.set hn))
theorem cMts_spec {p : Option Addr} {n c : Nat} {ms : List Mt} (hr : RdS 3 EMt σ p n ms) (hn : n ≤ 1000000000) (h : ∀ p' c' σ', RdS 3 EMt (σ.new σ') p' n ms → Ext σ σ' → R (.returned (.slice p' n c')) σ') : Spec prog 19 #[.slice p n c] σ R := by
  obtain ⟨h1, cs, h2, h3⟩ := hr
  exact law0_CopyMatchers.start fun b hb => clone_eff h2 (Ch.oneC EMt.one h3 (by decide)) (by omega) (fun p' c' σ' ho hx => ⟨_, _, _, rfl, h p' c' σ' ⟨h1, cs, Own.rd ho, h3.1, fun i x hx => h3.2 i x hx⟩ hx⟩) hb
theorem cTexts_spec {p : Option Addr} {n c : Nat} {ls : List ByteArray} (hr : RdC 1 σ p n (ls.map .string)) (hn : n ≤ 1000000000) (h : ∀ p' c' σ', RdC 1 (σ.new σ') p' n (ls.map .string) → Ext σ σ' → R (.returned (.slice p' n c')) σ') : Spec prog 20 #[.slice p n c] σ R :=
  law0_CopyTexts.start fun b hb => clone_eff hr (fun u hu => by obtain ⟨x, _, rfl⟩ := List.mem_map.1 hu; rfl) (by omega) (fun p' c' σ' ho hx => ⟨_, _, _, rfl, h p' c' σ' (Own.rd ho) hx⟩) hb
theorem cLabels_spec {p : Option Addr} {n c : Nat} {ls : List Lb} (hr : RdL σ p n ls) (hn : n ≤ 1000000000) (h : ∀ p' c' σ', RdL (σ.new σ') p' n ls → Ext σ σ' → R (.returned (.slice p' n c')) σ') : Spec prog 21 #[.slice p n c] σ R :=
  law0_CopyLabels.start fun b hb => copyL_eff hr hn (fun p' c' σ' ho hx => ⟨_, _, _, rfl, h p' c' σ' (ho.rd ELb.mono) hx⟩) hb
theorem cPoints_spec {p : Option Addr} {n c : Nat} {ps : List Pt} (hr : RdS 2 EPt σ p n ps) (hn : n ≤ 1000000000) (h : ∀ p' c' σ', OwnL 2 EPt (σ.new σ') p' n c' ps → Ext σ σ' → R (.returned (.slice p' n c')) σ') : Spec prog 22 #[.slice p n c] σ R := by
  obtain ⟨h1, cs, h2, h3⟩ := hr
  exact law0_CopyPoints.start fun b hb => clone_eff h2 (Ch.oneC EPt.one h3 (by decide)) (by omega) (fun p' c' σ' ho hx => ⟨_, _, _, rfl, h p' c' σ' ⟨h1, cs, ho, h3.1, fun i x hx => h3.2 i x hx⟩ hx⟩) hb
theorem ENd.one (σ : Hp) (vs : List Value) (x : Nd) (h : ENd σ vs x) : OneC vs := by
  obtain ⟨p, k, c, q, m, d, rfl, _⟩ := h
  intro u hu
  simp only [List.mem_cons, List.not_mem_nil, or_false] at hu
  rcases hu with rfl | rfl | rfl | rfl | rfl | rfl | rfl | rfl | rfl | rfl <;> rfl
theorem ESr.one (σ : Hp) (vs : List Value) (x : Sr) (h : ESr σ vs x) : OneC vs := by
  obtain ⟨p, n, c, q, m, d, rfl, _⟩ := h
  intro u hu
  simp only [List.mem_cons, List.not_mem_nil, or_false] at hu
  rcases hu with rfl | rfl <;> rfl
structure TOk (T : List Nd) : Prop where
  t : T.length ≤ 2000000
  mt : ∀ x ∈ T, x.mt.length ≤ 1000000000
  nm : ∀ x ∈ T, x.names.length ≤ 1000000000
theorem cNodes_spec {p : Option Addr} {n c : Nat} {T : List Nd} (hr : RdS 10 ENd σ p n T) (hT : TOk T) (h : ∀ p' c' σ', OutL 10 ENd σ σ' p' n c' T → R (.returned (.slice p' n c')) σ') : Spec prog 7 #[.slice p n c] σ R := by
  have hl : T.length = n := hr.1
  have ht := hT.t
  refine law0_CopyNodes.start ?_
  suffices H : ∀ g i : Nat, ∀ p3 n3 c3 σ', n - i = g → i ≤ n → OutL 10 ENd σ σ' p3 n3 c3 (T.take i) → law0_CopyNodes.pt11 R p n c p3 n3 c3 i σ' from H n 0 none 0 0 σ rfl (Nat.zero_le _) (OutL.nil (.refl _))
  intro g
  induction g with
  | zero =>
    intro i p3 n3 c3 σ' hg hi ho
    rw [List.take_of_length_le (by omega)] at ho
    have hn3 : n = n3 := hl.symm.trans ho.1.1
    subst hn3
    exact law0_CopyNodes.pt11_of ⟨fun hlt => by omega, fun _ => h p3 c3 σ' ho⟩
  | succ g ih =>
    intro i p3 n3 c3 σ' hg hi ho
    have hi' : i < n := by omega
    obtain ⟨x, hx⟩ := hr.ex hi'
    obtain ⟨b, o, p1, k1, c1, q1, m1, d1, rfl, hld, hmt, hnm⟩ := ENd.at hr hx
    have hxm := List.mem_of_getElem? hx
    have a1 := hT.mt x hxm
    have a2 := hT.nm x hxm
    have a3 : x.mt.length = k1 := hmt.1
    have a4 : (x.names.map Value.string).length = m1 * 1 := hnm.1
    rw [List.length_map] at a4
    have hn3 : n3 = i := by have := ho.1.1; rw [List.length_take] at this; omega
    refine law0_CopyNodes.pt11_of ⟨fun _ => ⟨b, o, rfl, by omega, _, _, _, _, _, _, _, _, _, _, _, _, _, _, by simpa using hld.mono ho.up, fun _ => cMts_spec (hmt.mono EMt.mono ho.up) (by omega) fun p4 c4 σ2 hr2 hx2 => ⟨_, _, _, rfl, cTexts_spec ((hnm.mono ho.up).mono hx2) (by omega) fun p5 c5 σ3 hr3 hx3 => ⟨_, _, _, rfl, fun b26 hb26 => ?_⟩⟩⟩, fun hh => by omega⟩
    have ho3 := ho.mono ENd.mono (hx2.trans hx3)
    have he : ENd (σ3.del p3) [.int .i64 x.kind, .int .i64 x.op, .string x.text, .slice p4 k1 c4, .int .i64 x.width, .int .i64 x.back, .int .i64 x.grp, .slice p5 m1 c5, .bool x.bool, .int .i64 x.parts] x :=
      ⟨p4, k1, c4, p5, m1, c5, rfl, hr2.mono EMt.mono ((Ext.new_mono hx3).trans (ho.new (hx2.trans hx3))), hr3.mono ((Ext.new_trans hx2).trans (ho.new (hx2.trans hx3)))⟩
    refine OutL.app1 ENd.mono ho3 rfl (ENd.one _ _ _ he) he (by omega) (fun p' c' σ4 ho4 _ => ⟨_, _, _, rfl, i64_succ hi' hr.big, ih (i + 1) _ _ _ _ (by omega) (by omega) (by rw [take_succ' hx]; exact ho4)⟩) hb26
structure SOk (ss : List Sr) : Prop where
  s : ss.length ≤ 10000000
  ls : ∀ s ∈ ss, s.ls.length ≤ 1000000000
  ps : ∀ s ∈ ss, s.ps.length ≤ 1000000000
theorem cSeries_spec {p : Option Addr} {n c : Nat} {ss : List Sr} (hr : RdS 2 ESr σ p n ss) (hS : SOk ss) (h : ∀ p' c' σ', RdS 2 ESr σ' p' n ss → Ext σ σ' → R (.returned (.slice p' n c')) σ') : Spec prog 8 #[.slice p n c] σ R := by
  have hl : ss.length = n := hr.1
  have ht := hS.s
  refine law0_CopySeries.start ?_
  suffices H : ∀ g i : Nat, ∀ p3 n3 c3 σ', n - i = g → i ≤ n → OutL 2 ESr σ σ' p3 n3 c3 (ss.take i) → law0_CopySeries.pt11 R p n c p3 n3 c3 i σ' from H n 0 none 0 0 σ rfl (Nat.zero_le _) (OutL.nil (.refl _))
  intro g
  induction g with
  | zero =>
    intro i p3 n3 c3 σ' hg hi ho
    rw [List.take_of_length_le (by omega)] at ho
    have hn3 : n = n3 := hl.symm.trans ho.1.1
    subst hn3
    exact law0_CopySeries.pt11_of ⟨fun hlt => by omega, fun _ => h p3 c3 σ' (ho.rd ESr.mono) ho.up⟩
  | succ g ih =>
    intro i p3 n3 c3 σ' hg hi ho
    have hi' : i < n := by omega
    obtain ⟨x, hx⟩ := hr.ex hi'
    obtain ⟨b, o, p1, k1, c1, q1, m1, d1, rfl, hld, hls, hps, hmd⟩ := ESr.at hr hx
    have hxm := List.mem_of_getElem? hx
    have a1 := hS.ls x hxm
    have a2 := hS.ps x hxm
    have a3 : x.ls.length = k1 := hls.1
    have a4 : x.ps.length = m1 := hps.1
    have hn3 : n3 = i := by have := ho.1.1; rw [List.length_take] at this; omega
    have hld' := hld.mono ho.up
    refine law0_CopySeries.pt11_of ⟨fun _ => ⟨b, o, rfl, by omega, p1, k1, c1, by simpa using hld'.1, by omega, q1, m1, d1, by simpa using hld'.2.1, cLabels_spec (hls.mono ELb.mono ho.up) (by omega) fun p4 c4 σ2 hr2 hx2 => ⟨_, _, _, rfl, Kp.of_ext hx2, cPoints_spec ((hps.mono EPt.mono ho.up).mono EPt.mono hx2) (by omega) fun p5 c5 σ3 hr3 hx3 => ⟨_, _, _, rfl, fun b26 hb26 => ?_⟩⟩⟩, fun hh => by omega⟩
    have ho3 := ho.mono ESr.mono (hx2.trans hx3)
    have he : ESr (σ3.del p3) [.slice p4 k1 c4, .slice p5 m1 c5] x :=
      ⟨p4, k1, c4, p5, m1, c5, rfl, hr2.mono ELb.mono ((Ext.new_mono hx3).trans (ho.new (hx2.trans hx3))), (hr3.rd EPt.mono).mono EPt.mono ((Ext.new_trans hx2).trans (ho.new (hx2.trans hx3))), by obtain ⟨cs, hoo, _⟩ := hr3.2; exact Own.cap hoo⟩
    refine OutL.app1 ESr.mono ho3 rfl (ESr.one _ _ _ he) he (by omega) (fun p' c' σ4 ho4 _ => ⟨_, _, _, rfl, i64_succ hi' hr.big, ih (i + 1) _ _ _ _ (by omega) (by omega) (by rw [take_succ' hx]; exact ho4)⟩) hb26
end
end TwW
end
section
namespace TwW
open Go Tw Go.RowKit Go.Proofs.Tryz
theorem bak_form {n : Nd} {d : Int} (h : n.kind = 2 ∨ n.kind = 3 → 0 ≤ n.back ∧ n.back ≤ 1073741824) (hd : 0 ≤ d ∧ d < 100000) : formO (bakN d n) = formO n := by
  unfold bakN
  by_cases hk : n.kind = 2 ∨ n.kind = 3
  · rw [if_pos hk]
    obtain ⟨h1, h2⟩ := h hk
    have e1 : spanF (n.back + d) 0 = true := by unfold spanF; rw [decide_eq_true (by omega), decide_eq_true (by omega)]; rfl
    have e2 : spanF n.back 0 = true := by unfold spanF; rw [decide_eq_true (by omega), decide_eq_true (by omega)]; rfl
    have ep : plainB { n with back := n.back + d } (bareNd { n with back := n.back + d }) = plainB n (bareNd n) := by
      unfold plainB bareNd
      rcases hk with hk | hk <;> simp [hk]
    have ek : kindO { n with back := n.back + d } = kindO n := by
      unfold kindO
      rcases hk with hk | hk <;> simp [hk, e1, e2]
    unfold formO
    rw [ep, ek]
    rfl
  · rw [if_neg hk]
theorem bak_step {n : Nd} {d : Int} (h : n.kind = 2 ∨ n.kind = 3 → 0 ≤ n.back ∧ n.back ≤ 1073741824) (hd : 0 ≤ d ∧ d < 100000) (st : List Int) : tyStep (bakN d n) st = tyStep n st := by
  have hf := bak_form h hd
  have hp : (bakN d n).parts = n.parts := by unfold bakN; split <;> rfl
  have hm : (bakN d n).mt = n.mt := by unfold bakN; split <;> rfl
  have ht : ∀ l, tyN (bakN d n) l = tyN n l := fun l => by unfold bakN; split <;> rfl
  unfold tyStep
  rw [hf, hp, hm, ht]
theorem bak_run {d : Int} (hd : 0 ≤ d ∧ d < 100000) : ∀ (T : List Nd) (st : List Int), (∀ n ∈ T, n.kind = 2 ∨ n.kind = 3 → 0 ≤ n.back ∧ n.back ≤ 1073741824) → tyRun (T.map (bakN d)) st = tyRun T st
  | [], st, _ => rfl
  | n :: T, st, h => by
    rw [List.map_cons, tyRun, tyRun, bak_step (h n (by simp)) hd, bak_run hd T _ fun m hm => h m (List.mem_cons_of_mem _ hm)]
theorem bak_ty {T : List Nd} {d : Int} (hd : 0 ≤ d ∧ d < 100000) (h : ∀ n ∈ T, n.kind = 2 ∨ n.kind = 3 → 0 ≤ n.back ∧ n.back ≤ 1073741824) : tyOf (T.map (bakN d)) = tyOf T := by
  unfold tyOf
  rw [bak_run hd T [] h]
  cases tyRun T [] with
  | none => rfl
  | some st => match st with
    | [] => rfl
    | [x] => show (if (T.map (bakN d)).length ≤ 4096 then some x else none) = (if T.length ≤ 4096 then some x else none); rw [List.length_map]
    | _ :: _ :: _ => rfl
theorem inst_bak {T : List Nd} {ss : List Sr} {t d : Int} (hd : 0 ≤ d ∧ d < 100000) (ht : -274877906944 ≤ t ∧ t ≤ 274877906944) (h : ∀ n ∈ T, n.kind = 2 ∨ n.kind = 3 → 0 ≤ n.back ∧ n.back ≤ 1073741824) : instF (T.map (bakN d)) ss t = instF T ss (t - d) := by
  have ha : asksE (T.map (bakN d)) ss = asksE T ss := by unfold asksE; rw [bak_ty hd h]
  unfold instF
  rw [ha, moment_bak]
  by_cases h0 : asksE T ss ≠ 0
  · rw [if_pos h0, if_pos h0]
  · rw [if_neg h0, if_neg h0, if_neg (by omega), if_neg (by omega)]
end TwW
end
section
namespace TwW
open Go Tw Go.RowKit Go.Proofs.Tryz
theorem chunk_set {cs : List Value} {v : Value} {s i j r : Nat} (hr : r < s) : ((cs.set (i * s + r) v).drop (j * s)).take s = if i = j then ((cs.drop (j * s)).take s).set r v else (cs.drop (j * s)).take s := by
  refine List.ext_getElem? fun k => ?_
  by_cases hij : i = j
  · subst hij
    rw [if_pos rfl, List.getElem?_take, List.getElem?_set, List.getElem?_take, List.getElem?_drop, List.getElem?_drop, List.getElem?_set]
    by_cases hk : k < s
    · rw [if_pos hk, if_pos hk]
      by_cases hrk : r = k
      · subst hrk
        rw [if_pos rfl, if_pos rfl, List.length_take, List.length_drop]
        by_cases hlt : i * s + r < cs.length
        · rw [if_pos hlt, if_pos (by omega)]
        · rw [if_neg hlt, if_neg (by omega)]
      · rw [if_neg (by omega), if_neg hrk]
    · rw [if_neg hk, if_neg hk, if_neg (by omega)]
  · rw [if_neg hij, List.getElem?_take, List.getElem?_take, List.getElem?_drop, List.getElem?_drop, List.getElem?_set]
    by_cases hk : k < s
    · rw [if_pos hk, if_pos hk, if_neg]
      intro e
      rcases Nat.lt_trichotomy i j with h | h | h
      · have := Nat.mul_le_mul_right s (show i + 1 ≤ j from h)
        rw [Nat.succ_mul] at this
        omega
      · exact hij h
      · have := Nat.mul_le_mul_right s (show j + 1 ≤ i from h)
        rw [Nat.succ_mul] at this
        omega
    · rw [if_neg hk, if_neg hk]
section
variable {σ σ' σ0 : Hp} {R : Ending → Hp → Prop}
theorem size2i : ∀ w, (Go.sizeOf 2).run prog w = .ok 1 w := fun w => by kernel_rfl
set_option maxRecDepth 100000 in
theorem neq47 {x y : Operand} {a b a' b' : ByteArray} : YF prog (do eqGuard .neq 47 x y (.agg #[.string a, .string b]) (.agg #[.string a', .string b']); binOp .neq 47 (.agg #[.string a, .string b]) (.agg #[.string a', .string b'])) σ (.bool (!(a.toList == a'.toList && b.toList == b'.toList))) := fun w _ => by
  have u9 := underlying9
  have hS : prog.underlying 47 = some (.struct (prog.fieldsOf 47)) := by kernel_rfl
  have hp : prog.stoodInHeld 47 = false := by kernel_rfl
  have hf : (prog.fieldsOf 47).toList = [{ name := "Name", type := 9, offset := 0, embedded := false, tag := "", pkgPath := "", byteOffset := 0 }, { name := "Value", type := 9, offset := 1, embedded := false, tag := "", pkgPath := "", byteOffset := 16 }] := by kernel_rfl
  simp only [Sem.run_bind, run_eqGuard_agg _ _ _ _ _ _ _ (show prog.eqGuardType prog.depth 47 = false by kernel_rfl), Result.andThen_ok, run_neq_struct]
  rw [show (10000 : Nat) = 9999 + 1 from rfl, run_equalIn_agg w 9999 47 _ _ hS hp, hf]
  simp only [Op.eqFields]
  go_simp
  by_cases h1 : a.toList = a'.toList <;> by_cases h2 : b.toList = b'.toList <;> simp [h1, h2]
theorem sameL_spec {p p' : Option Addr} {n n' c c' : Nat} {ls : List Lb} (h1 : RdL σ p n ls) (h2 : RdL σ p' n' ls) (hR : R (.returned (.bool true)) σ) : Spec prog 11 #[.slice p n c, .slice p' n' c'] σ R := by
  have e1 : ls.length = n := h1.1
  have e2 : ls.length = n' := h2.1
  refine law0_SameLabels.start ⟨fun hne => absurd (by omega) hne, fun _ => ?_⟩
  suffices H : ∀ d i : Nat, n - i = d → i ≤ n → law0_SameLabels.pt17 R p n c p' n' c' i σ from H n 0 rfl (Nat.zero_le _)
  intro d
  induction d with
  | zero => exact fun i hd hi => law0_SameLabels.pt17_of ⟨fun hlt => by omega, fun _ => hR⟩
  | succ d ih =>
    intro i hd hi
    obtain ⟨x, hx⟩ := h1.ex (show i < n by omega)
    obtain ⟨b, o, rfl, l1⟩ := RdL.at h1 hx
    obtain ⟨b', o', rfl, l2⟩ := RdL.at h2 hx
    exact law0_SameLabels.pt17_of ⟨fun _ => ⟨b, o, rfl, by omega, x.1, x.2, by simpa using l1, b', o', rfl, by omega, x.1, x.2, by simpa using l2, _, neq47, fun hh => by simp at hh, fun _ => ⟨i64_succ (by omega) h1.big, ih (i + 1) (by omega) (by omega)⟩⟩, fun hh => by omega⟩
theorem low_spec {x : Int} (h : ∀ y : Int, 0 ≤ y → y ≤ 9223372036854775807 → R (.returned (.int .i64 y)) σ) : Spec prog 10 #[.int .i64 x] σ R := by
  refine law0_Low.start fun x4 h4 => h x4 ?_ ?_
  · rw [h4]
    have h2 : (BitVec.ofInt 64 9223372036854775807).toNat = 9223372036854775807 := rfl
    have e : Go.bits .and .i64 x 9223372036854775807 = IntKind.i64.wrap (((BitVec.ofInt 64 x) &&& (BitVec.ofInt 64 9223372036854775807)).toNat : Int) := rfl
    rw [e, BitVec.toNat_and, h2]
    have hle : (BitVec.ofInt 64 x).toNat &&& 9223372036854775807 ≤ 9223372036854775807 := Nat.and_le_right
    generalize (BitVec.ofInt 64 x).toNat &&& 9223372036854775807 = y at hle
    simp [IntKind.wrap, IntKind.bits, IntKind.signed]; omega
  · rw [h4]
    have := (bits_within .and .i64 x 9223372036854775807).2
    have e2 : IntKind.max .i64 = 9223372036854775807 := rfl
    rw [e2] at this; exact this
def Awk : Prop := ∀ (σ : Hp) (R : Ending → Hp → Prop), Gl σ → (∀ σ', Ext σ σ' → R (.returned (.bool true)) σ') → Spec prog 5 #[] σ R
theorem OutL.back {n c i b o : Nat} {U : List Nd} {x : Nd} {v : Int} {Φ : Unit → Hp → Prop} (ho : OutL 10 ENd σ0 σ (some ⟨b, o, none⟩) n c U) (hx : U[i]? = some x)
    (hΦ : ∀ σ', OutL 10 ENd σ0 σ' (some ⟨b, o, none⟩) n c (U.set i { x with back := v }) → Φ () σ') : Eff prog (Instr.storeAt 2 (.pointer (some ⟨b, o + (i * 10 + 5), none⟩)) (.int .i64 v)) σ Φ := by
  obtain ⟨⟨hl, cs, hoo, hc⟩, hx0⟩ := ho
  have hi := (List.getElem?_eq_some_iff.1 hx).1
  refine Own.store1 hoo (by omega) size2i rfl rfl fun obj ho2 => hΦ _ ⟨⟨by rw [List.length_set]; exact hl, _, ho2, ?_, fun j y hy => ?_⟩, by rw [Hp.del_set_same]; exact hx0⟩
  · rw [List.length_set, List.length_set]; exact hc.1
  · rw [Hp.del_set_same, chunk_set (by decide)]
    by_cases hij : i = j
    · subst hij
      rw [if_pos rfl]
      rw [List.getElem?_set_self hi] at hy
      simp only [Option.some.injEq] at hy
      subst hy
      obtain ⟨p1, k1, c1, q1, m1, d1, hv, h1, h2⟩ := hc.2 i x hx
      exact ⟨p1, k1, c1, q1, m1, d1, by rw [hv]; rfl, h1, h2⟩
    · rw [if_neg hij]
      rw [List.getElem?_set_ne hij] at hy
      exact hc.2 j y hy
theorem back_cmp {p q : Option Addr} {n c m d : Nat} {l : List El} {t1 t2 : Int} (hA : RdS 2 ESr σ p n (l.map fun e => ⟨e.ls, [(t1, e.v)]⟩)) (hB : RdS 2 ESr σ q m (l.map fun e => ⟨e.ls, [(t2, e.v)]⟩)) (hR : Spec prog 5 #[] σ (Cont R (CB fun t159 y => R (.returned (.bool t159)) y))) :
    law22_EvalBack.pt60 R p n c q m d 0 σ := by
  have e1 : l.length = n := by have := hA.1; rwa [List.length_map] at this
  have e2 : l.length = m := by have := hB.1; rwa [List.length_map] at this
  suffices H : ∀ g i : Nat, n - i = g → i ≤ n → law22_EvalBack.pt60 R p n c q m d i σ from H n 0 rfl (Nat.zero_le _)
  intro g
  induction g with
  | zero =>
    intro i hg hi
    exact law22_EvalBack.pt60_of ⟨fun hlt => by omega, fun _ => hR⟩
  | succ g ih =>
    intro i hg hi
    obtain ⟨e, he⟩ : ∃ e, l[i]? = some e := ⟨_, List.getElem?_eq_getElem (by omega)⟩
    obtain ⟨b, o, p1, n1, c1, q1, m1, d1, rfl, hl, hr1, hr2, _⟩ := ESr.at hA (i := i) (s := ⟨e.ls, [(t1, e.v)]⟩) (by rw [List.getElem?_map, he]; rfl)
    obtain ⟨b', o', p1', n1', c1', q1', m1', d1', rfl, hl', hr1', hr2', _⟩ := ESr.at hB (i := i) (s := ⟨e.ls, [(t2, e.v)]⟩) (by rw [List.getElem?_map, he]; rfl)
    have k1 : 1 = m1 := hr2.1
    have k2 : 1 = m1' := hr2'.1
    subst k1; subst k2
    obtain ⟨b3, o3, rfl, h3⟩ := EPt.at hr2 (i := 0) (x := (t1, e.v)) rfl
    obtain ⟨b4, o4, rfl, h4⟩ := EPt.at hr2' (i := 0) (x := (t2, e.v)) rfl
    have hbig := hA.big
    refine law22_EvalBack.pt60_of ⟨fun _ => ⟨b, o, rfl, by omega, p1, n1, c1, by simpa using hl.1, b', o', rfl, by omega, p1', n1', c1', by simpa using hl'.1, sameL_spec hr1 hr1' ⟨_, rfl, fun hh => (by cases hh), fun _ => ⟨by omega, _, 1, d1, by simpa using hl.2.1, fun hh => absurd rfl hh, fun _ => ⟨by omega, _, 1, d1', by simpa using hl'.2.1, fun hh => absurd rfl hh, fun _ => ⟨by omega, _, 1, d1, by simpa using hl.2.1, b3, o3, rfl, by omega, e.v, by simpa using h3.2.1, by omega, _, 1, d1', by simpa using hl'.2.1, b4, o4, rfl, by omega, e.v, by simpa using h4.2.1, fun hh => absurd rfl hh, fun _ => ⟨by unfold I64; omega, ?_⟩⟩⟩⟩⟩⟩, fun hh => by omega⟩
    exact_mod_cast ih (i + 1) (by omega) (by omega)
theorem back_spec {p q : Option Addr} {n c m d : Nat} {T : List Nd} {ss : List Sr} {t by_ : Int} (hawk : Awk) (hg : Gl σ) (hr : RdS 10 ENd σ p n T) (hs : RdS 2 ESr σ q m ss) (hM : Modest T ss) (hT : TOk T) (hS : SOk ss) (h : ∀ σ', Ext σ σ' → R (.returned (.bool true)) σ') :
    Spec prog 4 #[.slice p n c, .slice q m d, .int .i64 t, .int .i64 by_] σ R := by
  have hl : T.length = n := hr.1
  have awk : ∀ σ', Ext σ σ' → Spec prog 5 #[] σ' (Cont R (CB fun t26 y_2 => R (.returned (.bool t26)) y_2)) := fun σ' hx => hawk σ' _ (hg.mono hx) fun σ2 hx2 => ⟨_, rfl, h σ2 (hx.trans hx2)⟩
  refine law22_EvalBack.start (low_spec fun y hy0 hy1 => ⟨y, rfl, by decide, fun x19 e19 => ⟨fun _ => awk σ (.refl _), fun ht1 => ⟨fun _ => awk σ (.refl _), fun ht2 => ?_⟩⟩⟩)
  have hd : 0 ≤ x19 ∧ x19 < 100000 := by
    rw [e19, Int.tmod_eq_emod_of_nonneg hy0]
    exact ⟨Int.emod_nonneg y (by decide), Int.emod_lt_of_pos y (by decide)⟩
  refine cNodes_spec hr hT fun pu cu σ1 hu1 => ⟨_, _, _, rfl, ?_⟩
  have bakL : ∀ i, ((T.take i).map (bakN x19) ++ T.drop i).length = n := fun i => by rw [List.length_append, List.length_map, List.length_take, List.length_drop]; omega
  suffices H : ∀ g i : Nat, ∀ σ', n - i = g → i ≤ n → OutL 10 ENd σ σ' pu n cu ((T.take i).map (bakN x19) ++ T.drop i) → (∀ y ∈ T.take i, y.kind = 2 ∨ y.kind = 3 → 0 ≤ y.back ∧ y.back ≤ 1073741824) → law22_EvalBack.pt21 R p n c q m d t x19 pu n cu i σ' from H n 0 σ1 rfl (Nat.zero_le _) (by simpa using hu1) (fun y hy => by simp at hy)
  intro g
  induction g with
  | zero =>
    intro i σ' hgi hi ho hk
    have hin : i = n := by omega
    subst hin
    rw [List.take_of_length_le (by omega), List.drop_eq_nil_of_le (by omega), List.append_nil] at ho
    rw [List.take_of_length_le (by omega)] at hk
    have hx := ho.up
    have hM2 : Modest (T.map (bakN x19)) ss := ⟨by rw [List.length_map]; exact hM.t, fun y hy => by
      obtain ⟨z, hz, rfl⟩ := List.mem_map.1 hy
      have e : (bakN x19 z).text = z.text := by unfold bakN; split <;> rfl
      rw [e]; exact hM.tx z hz, hM.s, hM.ps, hM.nn⟩
    have hI := inst_bak (ss := ss) hd (by omega : -274877906944 ≤ t ∧ t ≤ 274877906944) hk
    refine law22_EvalBack.pt21_of ⟨fun hlt => by omega, fun _ => cNodes_spec (hr.mono ENd.mono hx) hT fun p2 c2 σ2 h2 => ⟨_, _, _, rfl, cSeries_spec (hs.mono ESr.mono (hx.trans h2.up)) hS fun p3 c3 σ3 h3 hx3 => ⟨_, _, _, rfl, by unfold I64; omega, ?_⟩⟩⟩
    have X3 := hx.trans (h2.up.trans hx3)
    have u3 := (ho.rd ENd.mono).mono ENd.mono (h2.up.trans hx3)
    refine inst_spec (hg.mono X3) ((h2.rd ENd.mono).mono ENd.mono hx3) h3 hM (fun τ p4 n4 c4 σ4 bs h0 hA hx4 => ⟨_, _, _, _, rfl, ?_⟩) fun σ4 h0 hx4 => ⟨_, _, _, _, rfl, ?_⟩
    · have X4 := hx4.trans hA.ext
      refine cSeries_spec (hs.mono ESr.mono (X3.trans X4)) hS fun p5 c5 σ5 h5 hx5 => ⟨_, _, _, rfl, ?_⟩
      refine inst_spec (hg.mono (X3.trans (X4.trans hx5))) (u3.mono ENd.mono (X4.trans hx5)) h5 hM2 (fun τ' p6 n6 c6 σ6 bs' h0' hA' hx6 => ⟨_, _, _, _, rfl, fun hh => absurd rfl hh, fun _ => ?_⟩) fun σ6 h0' hx6 => ?_
      · rw [hI] at hA'
        have a1 := (hA.mono (hx5.trans (hx6.trans hA'.ext))).rd
        have a2 := hA'.rd
        have k1 : (instF T ss (t - x19)).2.length = n4 := by have := a1.1; rwa [List.length_map] at this
        have k2 : (instF T ss (t - x19)).2.length = n6 := by have := a2.1; rwa [List.length_map] at this
        have XX : Ext σ σ6 := X3.trans (X4.trans (hx5.trans (hx6.trans hA'.ext)))
        refine ⟨fun hh => absurd (by omega) hh, fun _ => ?_⟩
        exact back_cmp a1 a2 (awk σ6 XX)
      · rw [hI] at h0'; exact absurd h0 h0'
    · refine cSeries_spec (hs.mono ESr.mono (X3.trans hx4)) hS fun p5 c5 σ5 h5 hx5 => ⟨_, _, _, rfl, ?_⟩
      refine inst_spec (hg.mono (X3.trans (hx4.trans hx5))) (u3.mono ENd.mono (hx4.trans hx5)) h5 hM2 (fun τ' p6 n6 c6 σ6 bs' h0' hA' hx6 => ?_) fun σ6 h0' hx6 => ⟨_, _, _, _, rfl, fun hh => absurd (by rw [hI]) hh, fun _ => ⟨fun hh => absurd rfl hh, fun _ => law22_EvalBack.pt60_of ⟨fun hlt => by omega, fun _ => awk σ6 (X3.trans (hx4.trans (hx5.trans hx6)))⟩⟩⟩
      rw [hI] at h0'; exact absurd h0' h0
  | succ g ih =>
    intro i σ' hgi hi ho hk
    have hi' : i < n := by omega
    obtain ⟨x, hx⟩ := hr.ex hi'
    have hux : ((T.take i).map (bakN x19) ++ T.drop i)[i]? = some x := by
      rw [List.getElem?_append_right (by rw [List.length_map, List.length_take]; omega), List.length_map, List.length_take, List.getElem?_drop, show min i T.length = i by omega, Nat.sub_self, Nat.add_zero]; exact hx
    obtain ⟨b, o, p1, k1, c1, q1, m1, d1, rfl, hld, _, _⟩ := ENd.at (ho.rd ENd.mono) hux
    have k0 := hld.1
    have k5 := hld.2.2.2.2.2.1
    have next : ∀ σ2, OutL 10 ENd σ σ2 (some ⟨b, o, none⟩) n cu ((T.take (i + 1)).map (bakN x19) ++ T.drop (i + 1)) → (x.kind = 2 ∨ x.kind = 3 → 0 ≤ x.back ∧ x.back ≤ 1073741824) → law22_EvalBack.pt40 R p n c q m d t x19 (aD b o) n cu i σ2 := fun σ2 ho2 hkx => by
      refine law22_EvalBack.pt40_of ⟨i64_succ hi' hr.big, ?_⟩
      have := ih (i + 1) σ2 (by omega) (by omega) ho2 fun y hy => by
        rcases (mem_take_succ hx).1 hy with hy | rfl
        · exact hk y hy
        · exact hkx
      exact_mod_cast this
    have stay : ¬ (x.kind = 2 ∨ x.kind = 3) → law22_EvalBack.pt40 R p n c q m d t x19 (aD b o) n cu i σ' := fun hne => by
      refine next σ' ?_ fun hh => absurd hh hne
      have e : bakN x19 x = x := by unfold bakN; rw [if_neg hne]
      rw [take_succ' hx, List.map_append, List.map_singleton, e, List.append_assoc]
      rw [drop_at' hx] at ho
      exact ho
    have go : (x.kind = 2 ∨ x.kind = 3) → In (i : Int) (n : Int) ∧ LI .i64 σ' b ((o + Int.toNat (i : Int) * 10) + 5) fun x53 => Br (x53 < 0) (Spec prog 5 #[] σ' (Cont R (CB fun t63 y => R (.returned (.bool t63)) y))) (In (i : Int) (n : Int) ∧ LI .i64 σ' b ((o + Int.toNat (i : Int) * 10) + 5) fun x60 => Br (1073741824 < x60) (Spec prog 5 #[] σ' (Cont R (CB fun t63 y => R (.returned (.bool t63)) y))) (In (i : Int) (n : Int) ∧ LI .i64 σ' b ((o + Int.toNat (i : Int) * 10) + 5) fun x70 => I64 (x70 + x19) ∧ In (i : Int) (n : Int) ∧ Eff prog (Instr.storeAt 2 (.pointer (aD b ((o + Int.toNat (i : Int) * 10) + 5))) (.int .i64 (x70 + x19))) σ' (fun _ y => law22_EvalBack.pt40 R p n c q m d t x19 (aD b o) n cu i y))) := fun hkk => by
      rw [Int.toNat_natCast]
      refine ⟨by omega, x.back, k5, fun _ => awk σ' ho.up, fun hb1 => ⟨by omega, x.back, k5, fun _ => awk σ' ho.up, fun hb2 => ⟨by omega, x.back, k5, by unfold I64; omega, by omega, ?_⟩⟩⟩
      rw [Nat.add_assoc]
      refine OutL.back ho hux fun σ2 ho2 => next σ2 ?_ fun _ => by omega
      have e : bakN x19 x = { x with back := x.back + x19 } := by unfold bakN; rw [if_pos hkk]
      rw [take_succ' hx, List.map_append, List.map_singleton, e, List.append_assoc]
      have hlt : ((T.take i).map (bakN x19)).length = i := by rw [List.length_map, List.length_take]; omega
      rw [List.set_append_right _ _ (by omega), hlt, Nat.sub_self, drop_at' hx] at ho2
      exact ho2
    refine law22_EvalBack.pt21_of ⟨fun _ => ⟨b, o, rfl, by omega, x.kind, by simpa using k0, fun h2 => go (.inl h2), fun h2 => ⟨by omega, x.kind, by simpa using k0, fun h3 => go (.inr h3), fun h3 => stay (by omega)⟩⟩, fun hh => by omega⟩
end
end TwW
end
section
namespace TwW
open Go Tw Go.RowKit Go.Proofs.Tryz
def sX : ByteArray := ⟨#[120]⟩
def sA : ByteArray := ⟨#[97]⟩
def s1_ : ByteArray := ⟨#[49]⟩
def s2_ : ByteArray := ⟨#[50]⟩
def nV : Nd := ⟨2, 0, ByteArray.mk #[], [⟨1, kName, sX⟩], 0, 0, 0, [], false, 0⟩
def nA : Nd := ⟨5, 1, ByteArray.mk #[], [], 0, 0, 0, [], false, 1⟩
def T0 : List Nd := [nV, nA]
def lab1 : List Lb := [(kName, sX), (sA, s1_)]
def lab2 : List Lb := [(kName, sX), (sA, s2_)]
abbrev v1 : Int := 4607182418800017408
abbrev v3 : Int := 4613937818241073152
abbrev v5 : Int := 4617315517961601024
abbrev v8 : Int := 4620693217682128896
def ss0 : List Sr := [⟨lab1, [(0, v1), (60, v3)]⟩, ⟨lab2, [(60, v5)]⟩]
theorem ty0 : tyOf T0 = some 2 := by kernel_rfl
theorem ris0 : okSs none ss0 = true := by kernel_rfl
theorem mom60 : momentF FF T0 ss0 60 = some [⟨[], v8⟩] := by kernel_rfl
theorem mom0 : momentF FF T0 ss0 0 = some [⟨[], v1⟩] := by kernel_rfl
theorem run0 : tyRun T0 [] = some [2] := by kernel_rfl
theorem modest0 : Modest T0 ss0 := by
  refine ⟨by decide, fun x hx => ?_, by decide, fun s hs => ?_, fun s hs p hp => ?_⟩
  · simp only [T0, List.mem_cons, List.not_mem_nil, or_false] at hx
    rcases hx with rfl | rfl <;> decide
  · simp only [ss0, List.mem_cons, List.not_mem_nil, or_false] at hs
    rcases hs with rfl | rfl <;> decide
  · simp only [ss0, List.mem_cons, List.not_mem_nil, or_false] at hs
    rcases hs with rfl | rfl <;> simp at hp <;> (try rcases hp with rfl | rfl) <;> (try subst hp) <;> decide
theorem inst60 : instF T0 ss0 60 = (0, [⟨[], v8⟩]) := by kernel_rfl
end TwW
end
section
namespace TwW
open Go Tw Go.RowKit Go.Proofs.Tryz
structure Bx where
  b5 : Nat
  b6 : Nat
  b10 : Nat
  b11 : Nat
  b13 : Nat
  b14 : Nat
  D : Nat
  l : Nat
  m : Nat
  p : Option Addr
  n : Nat
  c : Nat
  q : Option Addr
  k : Nat
  d : Nat
  r0 : Loop
abbrev Bx.L (X : Bx) (w : Option Addr) (k e : Nat) (lo : Loop) : List (Nat × Obj) :=
  [(X.l, .loop lo), (X.D, .deferred (some [])), (X.b14, .cells #[.slice w k e] 23 (0, 0)), (X.b13, .cells #[.map (some X.m)] 67 (0, 0)), (X.b11, .cells #[.int .i64 0] 25 (0, 0)), (X.b10, .cells #[.slice none 0 0] 23 (0, 0)), (X.b6, .cells #[.slice X.q X.k X.d] 23 (0, 0)), (X.b5, .cells #[.slice X.p X.n X.c] 22 (0, 0))]
abbrev Bx.bl (X : Bx) : List Nat := [X.l, X.D, X.b14, X.b13, X.b11, X.b10, X.b6, X.b5]
def Bx.nd (X : Bx) : Prop := X.bl.Nodup
def Bx.off (X : Bx) (B : Hp) : Prop := ∀ b ∈ X.bl, B b = none
theorem Own.here {s : Nat} {σ σ' : Hp} {p : Option Addr} {n c : Nat} {cs : List Value} (h : Own s σ p n c cs) (hs : ∀ a, p = some a → σ' a.block = σ a.block) : Own s σ' p n c cs := by
  obtain ⟨h1, h2, h3 | ⟨b, o, arr, T, rfl, hb, r⟩⟩ := h
  · exact ⟨h1, h2, .inl h3⟩
  · exact ⟨h1, h2, .inr ⟨b, o, arr, T, rfl, (hs _ rfl).trans hb, r⟩⟩
theorem kpL {A B : Hp} {L : List (Nat × Obj)} {i b : Nat} {o : Obj} (hn : (names L).Nodup) (hi : L[i]? = some (b, o)) : Kp [b] (sets A L) (sets B L) := fun x hx u hu => by
  rw [List.mem_singleton] at hx; subst hx
  rw [sets_get hn hi] at hu ⊢; exact hu
structure St (σ B : Hp) (m b o e k : Nat) : Prop where
  ext : Ext σ B
  own : ∃ pl cl pp cc ds, Own 2 B (some ⟨b, o, none⟩) 1 e [.slice pl 0 cl, .slice pp k cc] ∧ Own 2 B pp k cc ds ∧ (∀ a, pp = some a → a.block ≠ b ∧ a.block ≠ m ∧ σ a.block = none)
  map : MS (fun v _ => v = .int .i64 0) B m [(keyL [], (0 : Int))]
  hb : σ b = none
  hm : σ m = none
  ne : m ≠ b
theorem St.mono {σ B B' : Hp} {m b o e k : Nat} (h : St σ B m b o e k) (hx : Ext B B') : St σ B' m b o e k :=
  ⟨h.ext.trans hx, let ⟨pl, cl, pp, cc, ds, h1, h2, h3⟩ := h.own; ⟨pl, cl, pp, cc, ds, h1.mono hx, h2.mono hx, h3⟩, h.map.mono hx, h.hb, h.hm, h.ne⟩
theorem size62 (w : World) : (Go.sizeOf 62).run prog w = .ok 2 w := by kernel_rfl
theorem size31 (w : World) : (Go.sizeOf 31).run prog w = .ok 1 w := by kernel_rfl
theorem size23s (w : World) : (Go.sizeOf 23).run prog w = .ok 1 w := by kernel_rfl
theorem size25s (w : World) : (Go.sizeOf 25).run prog w = .ok 1 w := by kernel_rfl
section
variable {σ B : Hp} {R : Ending → Hp → Prop} {X : Bx}
theorem rtail_spec {b19 b o e k n67 c67 : Nat} {t v : Int} {vl : Value} {p67 : Option Addr} (hn : (b19 :: X.bl).Nodup) (hoff : X.off B) (h19 : B b19 = none) (h : St σ B X.m b o e k) (hk : k ≤ 10)
    (next : ∀ B', X.off B' → St σ B' X.m b o e (k + 1) → R (.returned (.bool true)) (sets B' (X.L (some ⟨b, o, none⟩) 1 e (lp X.r0 .ready none)))) :
    eval_Range.pt75 R X.l X.r0 X.b13 X.b14 t b19 0 p67 n67 c67 1 0 (sets B ((b19, .cells #[vl, .int .u64 v] 62 (0, 0)) :: X.L (some ⟨b, o, none⟩) 1 e (lp X.r0 .busy none))) := by
  obtain ⟨pl, cl, pp, cc, ds, h1, h2, h3⟩ := h.own
  let L : List (Nat × Obj) := (b19, .cells #[vl, .int .u64 v] 62 (0, 0)) :: X.L (some ⟨b, o, none⟩) 1 e (lp X.r0 .busy none)
  have hL : (names L).Nodup := hn
  have ho : Off L B := fun x hx => by
    rcases List.mem_cons.1 hx with rfl | hx
    · exact h19
    · exact hoff x hx
  have hxB : Ext B (sets B L) := Off.ext hL ho
  have e14 : Hp.ld (sets B L) ⟨X.b14, 0, none⟩ = some (.slice (some ⟨b, o, none⟩) 1 e) := ldL (i := 3) hL rfl rfl
  have hld : Hp.ld (sets B L) ⟨b, (o + Int.toNat 0 * 2) + 1, none⟩ = some (.slice pp k cc) := by
    obtain ⟨_, _, h0 | ⟨b', o', hp, hl⟩⟩ := h1.rd.mono hxB
    · cases h0
    · cases hp
      simpa using hl.2.1
  refine eval_Range.pt75_of ⟨_, 1, e, e14, _, 1, e, e14, b, o, rfl, by decide, pp, k, cc, hld, v, ldL (i := 0) hL rfl rfl, fun b109 h109 => ?_⟩
  obtain ⟨n109, hB9⟩ := sets_none (L := L) h109
  have x9 := Ext.set (o := .cells #[.int .i64 t, .int .u64 v] 36 (0, 0)) hB9
  show Eff prog (Builtin.append_ #[31, 31] 31 #[.slice pp k cc, .slice (some ⟨b109, 0, none⟩) 1 1]) ((sets B L).set b109 (.cells #[.int .i64 t, .int .u64 v] 36 (0, 0))) _
  rw [sets_fresh n109]
  have key : ∀ y, B y ≠ none → (∀ a, pp = some a → y ≠ a.block) → ∀ (p' : Option Addr) (σ5 : Hp), Ext ((B.set b109 (.cells #[.int .i64 t, .int .u64 v] 36 (0, 0))).del pp) (σ5.del p') → σ5 y = B y ∧ ∀ a, p' = some a → y ≠ a.block := fun y hy hne p' σ5 hx => by
    cases hh : B y with
    | none => exact absurd hh hy
    | some u =>
      obtain ⟨a1, a2⟩ := del_some.1 (hx y u (del_some.2 ⟨hne, x9 _ _ hh⟩))
      exact ⟨a2, a1⟩
  have hbB : B b ≠ none := h1.block _ rfl
  have hmB := h.map.known
  refine Eff.frameL hL (ho.set n109) (app_eff (h2.mono x9) (q := some ⟨b109, 0, none⟩) (ys := [.int .i64 t, .int .u64 v]) ⟨rfl, by omega, .inr ⟨b109, 0, rfl, LdL.of_cells (c := [.int .i64 t, .int .u64 v]) (Hp.set_same _ _ _)⟩⟩ (fun u hu => by
    simp only [List.mem_cons, List.not_mem_nil, or_false] at hu
    rcases hu with rfl | rfl <;> rfl) (by omega) fun p' c' σ5 ho5 hx5 hoff5 => ⟨p', k + 1, c', rfl, kpL (i := 3) hL rfl, b, o, rfl, by decide, ?_⟩)
  obtain ⟨kb1, kb2⟩ := key b hbB (fun a ha e => (h3 a ha).1 e.symm) p' σ5 hx5
  obtain ⟨km1, km2⟩ := key X.m hmB (fun a ha e => (h3 a ha).2.1 e.symm) p' σ5 hx5
  have hx5' : Ext σ σ5 := fun y u hy => by
    obtain ⟨a1, _⟩ := key y (by rw [h.ext _ _ hy]; simp) (fun a ha e => by rw [e, (h3 a ha).2.2] at hy; cases hy) p' σ5 hx5
    rw [a1]; exact h.ext _ _ hy
  have h15 : Own 2 σ5 (some ⟨b, o, none⟩) 1 e [.slice pl 0 cl, .slice pp k cc] := Own.here h1 fun a ha => by cases ha; exact kb1
  rw [show (o + Int.toNat 0 * 2) + 1 = o + 1 by simp]
  refine Eff.frameL hL hoff5 (Own.store1 h15 (j := 1) (by decide) size31 rfl rfl fun obj h16 hoff6 => ⟨by unfold I64; omega, ?_⟩)
  have hoff6 : Off L (σ5.set b obj) := hoff6
  refine eval_Range.pt54_of ⟨fun hh => absurd hh (by decide), fun _ => ⟨sets_get (L := L) (i := 1) hL rfl, ?_⟩⟩
  have h19' : (σ5.set b obj) b19 = none := hoff6 b19 (List.mem_cons_self ..)
  have n19 : b19 ∉ X.bl := (List.nodup_cons.1 hn).1
  have hX : X.nd := (List.nodup_cons.1 hn).2
  have e1 : (sets (σ5.set b obj) L).set X.l (.loop (lp X.r0 .ready none)) = sets ((σ5.set b obj).set b19 (.cells #[vl, .int .u64 v] 62 (0, 0))) (X.L (some ⟨b, o, none⟩) 1 e (lp X.r0 .ready none)) := by
    rw [sets_set (L := L) (i := 1) hL rfl]
    exact sets_fresh (L := X.L (some ⟨b, o, none⟩) 1 e (lp X.r0 .ready none)) n19
  rw [e1]
  have x19 := Ext.set (o := .cells #[vl, .int .u64 v] 62 (0, 0)) h19'
  refine next _ (fun y hy => ?_) (St.mono ⟨?_, ⟨pl, cl, p', c', _, h16, Own.here ho5 ?_, fun a ha => ⟨?_, ?_, ?_⟩⟩, h.map.loc ?_, h.hb, h.hm, h.ne⟩ x19)
  · rw [Hp.set_ne (show y ≠ b19 from fun e => n19 (e ▸ hy))]; exact hoff6 y (List.mem_cons_of_mem _ hy)
  · intro y u hy
    rw [Hp.set_ne (fun e => by rw [e, h.hb] at hy; cases hy)]; exact hx5' y u hy
  · intro a ha
    exact Hp.set_ne (fun e => kb2 a ha e.symm)
  · exact fun e => kb2 a ha e.symm
  · exact fun e => km2 a ha e.symm
  · cases hh : σ a.block with
    | none => rfl
    | some u =>
      exfalso
      exact (key a.block (by rw [h.ext _ _ hh]; simp) (fun a' ha' e => by rw [e, (h3 a' ha').2.2] at hh; cases hh) p' σ5 hx5).2 a ha rfl
  · rw [Hp.set_ne h.ne]; exact km1
theorem rpre_spec {w : Option Addr} {k e : Nat} {x v : Int} (hn : X.nd) (hoff : X.off B) (hx : Ext σ B) (hg : Gl σ) (hr : RdS 10 ENd σ X.p X.n T0) (hs : RdS 2 ESr σ X.q X.k ss0) (hM : momentF FF T0 ss0 x = some [⟨[], v⟩]) (hx0 : 0 ≤ x ∧ x ≤ 60)
    (next : ∀ B' p1 c1, Ext B B' → X.off B' → RdS 2 EEl B' p1 1 [⟨[], v⟩] → eval_Range.pt54 R X.l X.r0 X.b13 X.b14 x p1 1 c1 1 0 (sets B' (X.L w k e (lp X.r0 .busy none)))) :
    eval_Range.pt37 R X.l X.r0 X.b5 X.b6 X.b10 X.b11 X.b13 X.b14 x (sets B (X.L w k e (lp X.r0 .ready none))) := by
  have hL : (names (X.L w k e (lp X.r0 .busy none))).Nodup := hn
  have hL' : (names (X.L w k e (lp X.r0 .ready none))).Nodup := hn
  have el : (sets B (X.L w k e (lp X.r0 .ready none))).set X.l (.loop (lp X.r0 .busy none)) = sets B (X.L w k e (lp X.r0 .busy none)) := Hp.set_set
  have hl2 : T0.length = X.n := hr.1
  have hl3 : T0.length = 2 := rfl
  have hgood : SsG ss0 := SsG.of (T := T0) modest0 ris0
  refine eval_Range.pt37_of ⟨sets_get (i := 0) hL' rfl, ?_⟩
  rw [el]
  refine ⟨X.p, X.n, X.c, ldL (i := 7) hL rfl rfl, X.q, X.k, X.d, ldL (i := 6) hL rfl rfl, ?_⟩
  refine Spec.frameL hL hoff (moment_spec (hg.mono hx) (hr.mono ENd.mono hx) (hs.mono ESr.mono hx) hgood (by omega) (by omega) run0 (fun l p' n' c' σ1 hm hx1 hrl hoff1 => ?_) fun hm => ?_)
  · rw [hM] at hm; cases hm
    have hn1 : 1 = n' := hrl.1
    subst hn1
    exact ⟨_, _, _, _, rfl, fun hh => absurd rfl hh, fun _ => next σ1 p' c' hx1 hoff1 hrl⟩
  · rw [hM] at hm; cases hm
def Sta (σ B : Hp) (m : Nat) (w : Option Addr) (j e k : Nat) : Prop :=
  (k = 0 ∧ w = none ∧ j = 0 ∧ e = 0 ∧ Ext σ B ∧ σ m = none ∧ MS (fun v _ => v = .int .i64 0) B m ([] : List (ByteArray × Int))) ∨ (0 < k ∧ ∃ b o, w = some ⟨b, o, none⟩ ∧ j = 1 ∧ St σ B m b o e k)
theorem Sta.ext {m j e k : Nat} {w : Option Addr} (h : Sta σ B m w j e k) : Ext σ B := by
  rcases h with ⟨_, _, _, _, hx, _⟩ | ⟨_, b, o, _, _, h⟩
  · exact hx
  · exact h.ext
theorem Sta.mono {B' : Hp} {m j e k : Nat} {w : Option Addr} (h : Sta σ B m w j e k) (hx : Ext B B') : Sta σ B' m w j e k := by
  rcases h with ⟨h0, h1, h2, h3, h4, h5, h6⟩ | ⟨h0, b, o, h1, h2, h⟩
  · exact .inl ⟨h0, h1, h2, h3, h4.trans hx, h5, h6.mono hx⟩
  · exact .inr ⟨h0, b, o, h1, h2, h.mono hx⟩
theorem relem_spec {w p1 : Option Addr} {j e k c1 : Nat} {t v : Int} (hn : X.nd) (hoff : X.off B) (h : Sta σ B X.m w j e k) (hk : k ≤ 10) (hr : RdS 2 EEl B p1 1 [⟨[], v⟩])
    (next : ∀ B' b o e', X.off B' → St σ B' X.m b o e' (k + 1) → R (.returned (.bool true)) (sets B' (X.L (some ⟨b, o, none⟩) 1 e' (lp X.r0 .ready none)))) :
    eval_Range.pt54 R X.l X.r0 X.b13 X.b14 t p1 1 c1 1 0 (sets B (X.L w j e (lp X.r0 .busy none))) := by
  have hL : (names (X.L w j e (lp X.r0 .busy none))).Nodup := hn
  have hxB : Ext B (sets B (X.L w j e (lp X.r0 .busy none))) := Off.ext hL hoff
  obtain ⟨b71, o71, q, m', d, rfl, hl, hrl⟩ := EEl.at hr (i := 0) (x := ⟨[], v⟩) rfl
  have hm0 : 0 = m' := hrl.1
  subst hm0
  refine eval_Range.pt54_of ⟨fun _ => ⟨b71, o71, rfl, by decide, q, 0, d, v, by simpa using hl.mono hxB, fun b19 h19 => ?_⟩, fun hh => absurd (by decide) hh⟩
  obtain ⟨n19, hB19⟩ := sets_none (L := X.L w j e (lp X.r0 .busy none)) h19
  have hn2 : (b19 :: X.bl).Nodup := List.nodup_cons.2 ⟨n19, hn⟩
  let L : Value → List (Nat × Obj) := fun lo => (b19, .cells #[.slice q 0 d, .int .u64 v] 62 (0, 0)) :: X.L w j e (lp X.r0 .busy none)
  let L0 : List (Nat × Obj) := (b19, .cells #[.slice none 0 0, .int .u64 0] 62 (0, 0)) :: X.L w j e (lp X.r0 .busy none)
  let L1 : List (Nat × Obj) := (b19, .cells #[.slice q 0 d, .int .u64 v] 62 (0, 0)) :: X.L w j e (lp X.r0 .busy none)
  have hL1 : (names L1).Nodup := hn2
  have hoff1 : ∀ {B'}, X.off B' → B' b19 = none → Off L1 B' := fun ho h9 x hx => by
    rcases List.mem_cons.1 hx with rfl | hx
    · exact h9
    · exact ho x hx
  show Eff prog (Instr.storeAt 62 (.pointer (some ⟨b19, 0, none⟩)) (.agg #[.slice q 0 d, .int .u64 v])) (sets B L0) _
  refine Eff.storeL (L := L0) (i := 0) (c := #[.slice none 0 0, .int .u64 0]) (c' := #[.slice q 0 d, .int .u64 v]) size62 hn2 rfl rfl rfl rfl rfl ?_
  show ∃ m74 : Option Nat, Hp.ld (sets B L1) ⟨X.b13, 0, none⟩ = some (.map m74) ∧ ∃ p76 : Option Addr, ∃ n76 : Nat, ∃ c76 : Nat, Hp.ld (sets B L1) ⟨b19, 0, none⟩ = some (.slice p76 n76 c76) ∧ Spec prog 25 #[.slice p76 n76 c76] (sets B L1) _
  have hkey : ∀ {B' : Hp} {R' : Ending → Hp → Prop}, Ext B B' → X.off B' → B' b19 = none → (∀ B2, Ext B' B2 → X.off B2 → B2 b19 = none → R' (.returned (.string (keyL []))) (sets B2 L1)) → Spec prog 25 #[.slice q 0 d] (sets B' L1) R' := fun hx ho h9 hh =>
    Spec.frameL hL1 (hoff1 ho h9) (eKey_spec (hrl.mono ELb.mono hx) ⟨Nat.zero_le _, fun x hx => by cases hx⟩ fun B2 hx2 ho2 => hh B2 hx2 (fun x hx => ho2 x (List.mem_cons_of_mem _ hx)) (ho2 b19 (List.mem_cons_self ..)))
  refine ⟨some X.m, ldL (L := L1) (i := 4) hL1 rfl rfl, q, 0, d, ldL (L := L1) (i := 0) hL1 rfl rfl, hkey (.refl _) hoff hB19 fun B2 hx2 ho2 h92 => ⟨_, rfl, kpL (L := L1) (i := 4) hL1 rfl, ?_⟩⟩
  have hx2L : Ext B2 (sets B2 L1) := Off.ext hL1 (hoff1 ho2 h92)
  rcases (h.mono hx2) with ⟨rfl, rfl, rfl, rfl, hσ2, hm, hmap⟩ | ⟨hk0, b, o, rfl, rfl, hst⟩
  · refine (hmap.mono hx2L).look2 (z := .int .i64 0) (fun w => by kernel_rfl) (fun hno => ⟨0, false, rfl, fun _ => ?_, fun hh => (by cases hh)⟩) fun v' x' hh => (by cases hh)
    refine ⟨none, 0, 0, ldL (L := L1) (i := 3) hL1 rfl rfl, some X.m, ldL (L := L1) (i := 4) hL1 rfl rfl, q, 0, d, ldL (L := L1) (i := 0) hL1 rfl rfl, hkey hx2 ho2 h92 fun B3 hx3 ho3 h93 => ⟨_, rfl, kpL (L := L1) (i := 4) hL1 rfl, ?_⟩⟩
    refine Eff.frameL hL1 (hoff1 ho3 h93) ((hmap.mono hx3).put (x := (0 : Int)) rfl fun om hm4 ho4' => ?_)
    have ho4 : Off L1 (B3.set X.m om) := ho4'
    have hmap4 : MS (fun v _ => v = .int .i64 0) (B3.set X.m om) X.m [(keyL [], (0 : Int))] := hm4
    have hσ4 : Ext σ (B3.set X.m om) := fun y u hy => by
      rw [Hp.set_ne (show y ≠ X.m from fun e => by rw [e, hm] at hy; cases hy)]; exact hx3 _ _ (hσ2 _ _ hy)
    have hrl4 : RdL (B3.set X.m om) q 0 [] := RdS.nil
    refine ⟨none, 0, 0, ldL (L := L1) (i := 3) hL1 rfl rfl, q, 0, d, ldL (L := L1) (i := 0) hL1 rfl rfl, fun b91 h91 => ?_⟩
    obtain ⟨n91, hB91⟩ := sets_none (L := L1) h91
    rw [sets_fresh n91]
    refine Eff.frameL hL1 (ho4.set n91) (copyL_eff hrl4 (by decide) (fun p5 c5 B5 ho5 hx5 hof5 => ⟨p5, 0, c5, rfl, kpL (L := L1) (i := 3) hL1 rfl, fun b96 h96 => ?_⟩) hB91)
    obtain ⟨n96, hB96⟩ := sets_none (L := L1) h96
    have hof5 : Off L1 B5 := hof5
    rw [sets_fresh n96]
    refine Eff.frameL hL1 (hof5.set n96) (app_eff (Own.nil (s := 2)) (q := some ⟨b96, 0, none⟩) (ys := [.slice p5 0 c5, .slice none 0 0]) ⟨rfl, by omega, .inr ⟨b96, 0, rfl, LdL.of_cells (c := [.slice p5 0 c5, .slice none 0 0]) (Hp.set_same _ _ _)⟩⟩ (fun u hu => by
      simp only [List.mem_cons, List.not_mem_nil, or_false] at hu
      rcases hu with rfl | rfl <;> rfl) (by decide) fun p6 c6 B6 ho6 hx6 hof6 => ⟨p6, 1, c6, rfl, ?_⟩)
    obtain ⟨b, o, rfl⟩ : ∃ b o, p6 = some ⟨b, o, none⟩ := by
      rcases ho6.2.2 with ⟨_, h2, _⟩ | ⟨b, o, _, _, hp, _⟩
      · cases h2
      · exact ⟨b, o, hp⟩
    have kk : ∀ y u, B5 y = some u → B6 y = some u ∧ y ≠ b := fun y u hy => by
      obtain ⟨a1, a2⟩ := del_some.1 (hx6 y u (del_some.2 ⟨fun a ha => (by cases ha), Ext.set hB96 _ _ hy⟩))
      exact ⟨a2, fun e => a1 _ rfl e⟩
    refine Eff.storeL (L := L1) (i := 3) (c := #[.slice none 0 0]) (c' := #[.slice (some ⟨b, o, none⟩) 1 c6]) size23s hL1 rfl rfl rfl rfl rfl ?_
    have hmk : ∃ u, B5 X.m = some u := by
      cases hh : B5 X.m with
      | none => exact absurd hh (hmap4.mono hx5).known
      | some u => exact ⟨u, rfl⟩
    obtain ⟨um, hum⟩ := hmk
    have hst : St σ B6 X.m b o c6 0 := ⟨fun y u hy => (kk y u (hx5 _ _ (hσ4 _ _ hy))).1, ⟨p5, c5, none, 0, [], ho6, Own.nil, fun a ha => (by cases ha)⟩, (hmap4.mono hx5).loc (by rw [(kk _ _ hum).1, hum]), ?_, hm, (kk _ _ hum).2⟩
    · exact rtail_spec hn2 (fun x hx => hof6 x (List.mem_cons_of_mem _ hx)) (hof6 b19 (List.mem_cons_self ..)) hst (by decide) fun B7 ho7 hst7 => next B7 b o c6 ho7 hst7
    · cases hh : σ b with
      | none => rfl
      | some u => exact absurd rfl (kk b u (hx5 _ _ (hσ4 _ _ hh))).2
  · refine (hst.map.mono hx2L).look2 (z := .int .i64 0) (fun w => by kernel_rfl) (fun hno => by simp [lookM] at hno) fun v' x' hh hv => ?_
    subst hv
    exact ⟨0, true, rfl, fun hh => (by cases hh), fun _ => rtail_spec hn2 ho2 h92 hst hk fun B3 ho3 hst3 => next B3 b o e ho3 hst3⟩
end
end TwW
end
section
namespace TwW
open Go Tw Go.RowKit Go.Proofs.Tryz
theorem asks0 : asksE T0 ss0 = 0 := by kernel_rfl
theorem rng1_spec [Cnt] {R : Ending → Hp → Prop} {σ : Hp} {p q : Option Addr} {c d : Nat} {p1 q1 : Option Addr} {n1 c1 m1 d1 : Nat} (h : ∀ σ', Ext σ σ' → R (.returned (.int .i64 0)) σ') : Spec prog 27 #[.agg #[.slice p 0 c, .slice p1 n1 c1], .agg #[.slice q 0 d, .slice q1 m1 d1]] σ R :=
  eval_Range_1.start fun _ _ => cmpL_spec (ls := []) (ms := []) RdS.nil RdS.nil fun σ' hx => ⟨_, rfl, h σ' hx⟩
theorem gen2_spec {R : Ending → Hp → Prop} {σ0 : Hp} {b1 b2 b3 l : Nat} {I : Nat → Hp → Prop} (h0 : I 0 σ0) (hI : ∀ j σ, I j σ → Hp.ld σ ⟨b1, 0, none⟩ = some (.int .i64 0) ∧ Hp.ld σ ⟨b2, 0, none⟩ = some (.int .i64 60) ∧ Hp.ld σ ⟨b3, 0, none⟩ = some (.int .i64 60))
    (s0 : ∀ σ, I 0 σ → YSpec prog l #[.int .i64 0] σ (fun e σ' => e = .returned (.bool true) ∧ I 1 σ')) (s1 : ∀ σ, I 1 σ → YSpec prog l #[.int .i64 60] σ (fun e σ' => e = .returned (.bool true) ∧ I 2 σ')) (hend : ∀ σ, I 2 σ → R (.returned (.tuple #[])) σ) :
    Spec prog 32 #[.func (.yield l) #[] #[], .pointer (aD b1 0), .pointer (aD b2 0), .pointer (aD b3 0)] σ0 R := by
  obtain ⟨a1, a2, a3⟩ := hI 0 σ0 h0
  refine eval_moments_1.start ⟨0, a1, eval_moments_1.pt6_of ⟨l, rfl, (s0 σ0 h0).mono fun e σ1 he => ?_⟩⟩
  obtain ⟨rfl, hi⟩ := he
  obtain ⟨c1, c2, c3⟩ := hI 1 σ1 hi
  refine ⟨true, rfl, fun _ => ⟨60, c2, 60, c3, by unfold I64; omega, fun _ => ⟨60, c2, by unfold I64; omega, eval_moments_1.pt6_of ⟨l, rfl, (s1 σ1 hi).mono fun e σ2 he => ?_⟩⟩, fun hh => absurd (by decide) hh⟩, fun hh => absurd hh (by decide)⟩
  obtain ⟨rfl, hi2⟩ := he
  obtain ⟨d1, d2, d3⟩ := hI 2 σ2 hi2
  exact ⟨true, rfl, fun _ => ⟨60, d2, 60, d3, by unfold I64; omega, fun hh => absurd hh (by decide), fun _ => hend σ2 hi2⟩, fun hh => absurd hh (by decide)⟩
section
variable {σ : Hp} {R : Ending → Hp → Prop}
theorem swo0 : Sort.SWO (Proofs.ltOf fun (_ _ : Unit) => (0 : Int)) := ⟨fun _ => rfl, fun _ _ _ h => (by cases h), fun _ _ _ _ _ => rfl⟩
theorem rng_spec {p q : Option Addr} {n c k d : Nat} (hg : Gl σ) (hr : RdS 10 ENd σ p n T0) (hs : RdS 2 ESr σ q k ss0) (h : ∀ b o e p2 c2 σ', Ext σ σ' → Hp.ld σ' ⟨b, o + 1, none⟩ = some (.slice p2 2 c2) → R (.returned (.tuple #[.slice (some ⟨b, o, none⟩) 1 e, .int .i64 0])) σ') :
    Spec prog 13 #[.slice p n c, .slice q k d, .int .i64 0, .int .i64 60, .int .i64 60] σ R := by
  refine eval_Range.start fun b5 hb5 b6 hb6 b10 hb10 b11 hb11 => ?_
  let L1 : List (Nat × Obj) := [(b5, .cells #[.slice p n c] 22 (0, 0))]
  let L2 : List (Nat × Obj) := (b6, .cells #[.slice q k d] 23 (0, 0)) :: L1
  let L3 : List (Nat × Obj) := (b10, .cells #[.slice none 0 0] 23 (0, 0)) :: L2
  let L4 : List (Nat × Obj) := (b11, .cells #[.int .i64 0] 25 (0, 0)) :: L3
  obtain ⟨n6, h6⟩ := sets_none (L := L1) hb6
  obtain ⟨n10, h10⟩ := sets_none (L := L2) hb10
  obtain ⟨n11, h11⟩ := sets_none (L := L3) hb11
  have hn4 : (names L4).Nodup := List.nodup_cons.2 ⟨n11, List.nodup_cons.2 ⟨n10, List.nodup_cons.2 ⟨n6, by simp [L1, names]⟩⟩⟩
  have ho4 : Off L4 σ := fun b hb => by
    simp only [L4, L3, L2, L1, names, List.map_cons, List.map_nil, List.mem_cons, List.not_mem_nil, or_false] at hb
    rcases hb with rfl | rfl | rfl | rfl
    · exact h11
    · exact h10
    · exact h6
    · exact hb5
  refine ⟨p, n, c, ldL (L := L4) (i := 3) hn4 rfl rfl, q, k, d, ldL (L := L4) (i := 2) hn4 rfl rfl, ?_⟩
  show Spec prog 16 #[.slice p n c, .slice q k d] (sets σ L4) _
  refine Spec.frameL hn4 ho4 (asks_spec hr hs modest0 fun σ1 hx1 hoff1 => ⟨_, rfl, fun hne => absurd asks0 hne, fun _ => time_spec ⟨_, rfl, fun hh => absurd hh (by decide), fun _ => time_spec ⟨_, rfl, fun hh => absurd hh (by decide), fun _ => ⟨fun hh => absurd hh (by decide), fun _ => ⟨fun hh => absurd hh (by decide), fun _ => ⟨by unfold I64; omega, by decide, fun x49 e49 => ⟨fun hh => ?_, fun _ => ?_⟩⟩⟩⟩⟩⟩⟩)
  · have e1 : x49 = 1 := e49.trans (by decide)
    rw [e1] at hh; exact absurd hh (by decide)
  have hoff1 : Off L4 σ1 := hoff1
  refine Eff.frameL hn4 hoff1 (makeMap_eff fun m hm hoffm => ⟨m, rfl, fun b13 hb13 => ?_⟩)
  have hoffm : Off L4 (σ1.set m (.map #[] 0)) := hoffm
  have xm := Ext.set (o := .map #[] 0) hm
  have hσm : σ m = none := ext_none hx1 hm
  obtain ⟨n13, h13⟩ := sets_none (L := L4) hb13
  let L5 : List (Nat × Obj) := (b13, .cells #[.map none] 67 (0, 0)) :: L4
  let L5' : List (Nat × Obj) := (b13, .cells #[.map (some m)] 67 (0, 0)) :: L4
  have hn5 : (names L5').Nodup := List.nodup_cons.2 ⟨n13, hn4⟩
  show Eff prog (Instr.storeAt 67 (.pointer (some ⟨b13, 0, none⟩)) (.map (some m))) (sets (σ1.set m (.map #[] 0)) L5) _
  refine Eff.storeL (L := L5) (i := 0) (c := #[.map none]) (c' := #[.map (some m)]) (fun w => by kernel_rfl) (List.nodup_cons.2 ⟨n13, hn4⟩) rfl rfl rfl rfl rfl fun b14 hb14 => ?_
  obtain ⟨n14, h14⟩ := sets_none (L := L5') hb14
  let L6 : List (Nat × Obj) := (b14, .cells #[.slice none 0 0] 23 (0, 0)) :: L5'
  have hn6 : (names L6).Nodup := List.nodup_cons.2 ⟨n14, hn5⟩
  have ho6 : Off L6 (σ1.set m (.map #[] 0)) := fun b hb => by
    rcases List.mem_cons.1 hb with rfl | hb
    · exact h14
    rcases List.mem_cons.1 hb with rfl | hb
    · exact h13
    exact hoffm b hb
  show Spec prog 24 #[.int .i64 0, .int .i64 60, .int .i64 60] (sets (σ1.set m (.map #[] 0)) L6) _
  refine Spec.frameL hn6 ho6 (eval_moments.start fun c3 hc3 c4 hc4 c5 hc5 hoffB => ⟨_, _, _, rfl, _, _, rfl, eval_moments_1.en, fun D l r0 hDl hD hl hy => ?_⟩)
  have hoffB : Off L6 ((((σ1.set m (.map #[] 0)).set c3 (.cells #[.int .i64 0] 2 (0, 0))).set c4 (.cells #[.int .i64 60] 2 (0, 0))).set c5 (.cells #[.int .i64 60] 2 (0, 0))) := hoffB
  have x3 := Ext.set (o := .cells #[.int .i64 0] 2 (0, 0)) hc3
  have x4 := Ext.set (o := .cells #[.int .i64 60] 2 (0, 0)) hc4
  have x5 := Ext.set (o := .cells #[.int .i64 60] 2 (0, 0)) hc5
  have g3 := (x4.trans x5) c3 _ (Hp.set_same _ _ _)
  have g4 := x5 c4 _ (Hp.set_same _ _ _)
  have g5 : ((((σ1.set m (.map #[] 0)).set c3 (.cells #[.int .i64 0] 2 (0, 0))).set c4 (.cells #[.int .i64 60] 2 (0, 0))).set c5 (.cells #[.int .i64 60] 2 (0, 0))) c5 = some (.cells #[.int .i64 60] 2 (0, 0)) := Hp.set_same _ _ _
  have gmap : MS (fun v _ => v = .int .i64 0) _ m ([] : List (ByteArray × Int)) := (MS.fresh (E := fun v _ => v = .int .i64 0) (σ := σ1)).mono (x3.trans (x4.trans x5))
  have gm := (x3.trans (x4.trans x5)) m _ (Hp.set_same _ _ _)
  have hxB := hx1.trans (xm.trans (x3.trans (x4.trans x5)))
  generalize hB0 : ((((σ1.set m (.map #[] 0)).set c3 (.cells #[.int .i64 0] 2 (0, 0))).set c4 (.cells #[.int .i64 60] 2 (0, 0))).set c5 (.cells #[.int .i64 60] 2 (0, 0))) = B0 at *
  clear x3 x4 x5 hc3 hc4 hc5 xm
  obtain ⟨nD, hDB⟩ := sets_none (L := L6) hD
  obtain ⟨nl, hlB⟩ := sets_none (L := L6) hl
  let X : Bx := ⟨b5, b6, b10, b11, b13, b14, D, l, m, p, n, c, q, k, d, r0⟩
  have hX : X.nd := List.nodup_cons.2 ⟨fun hm => by
    rcases List.mem_cons.1 hm with e | hm
    · exact hDl e.symm
    · exact nl hm, List.nodup_cons.2 ⟨nD, hn6⟩⟩
  have hoX : X.off B0 := fun b hb => by
    rcases List.mem_cons.1 hb with rfl | hb
    · exact hlB
    rcases List.mem_cons.1 hb with rfl | hb
    · exact hDB
    exact hoffB b hb
  let σb := B0.del (some ⟨m, 0, none⟩)
  have hmb : σb m = none := by
    cases hh : σb m with
    | none => rfl
    | some u => exact absurd rfl ((del_some.1 hh).1 _ rfl)
  have xb : Ext σb B0 := Ext.of_del _ _
  have xσ : Ext σ σb := fun y u hy => del_some.2 ⟨fun a ha e => (by cases ha; rw [e, hσm] at hy; cases hy), hxB _ _ hy⟩
  have db : ∀ {y : Nat} {a : Array Value} {t : Nat}, B0 y = some (.cells a t (0, 0)) → σb y = some (.cells a t (0, 0)) := fun {y a t} hy => del_some.2 ⟨fun a' ha e => (by cases ha; rw [e, gm] at hy; cases hy), hy⟩
  show Spec prog 32 #[.func (.yield l) #[] #[], .pointer (aD c3 0), .pointer (aD c5 0), .pointer (aD c4 0)] (sets B0 (X.L none 0 0 (lp X.r0 .ready none))) _
  have xoff : ∀ {B w j e lo}, X.off B → Ext B (sets B (X.L w j e lo)) := fun {B w j e lo} ho => Off.ext (L := X.L w j e lo) hX ho
  have step : ∀ (x v : Int) (j : Nat), j ≤ 10 → 0 ≤ x ∧ x ≤ 60 → momentF FF T0 ss0 x = some [⟨[], v⟩] → ∀ σ', (∃ B w i e, σ' = sets B (X.L w i e (lp X.r0 .ready none)) ∧ X.off B ∧ Sta σb B X.m w i e j) → YSpec prog l #[.int .i64 x] σ' (fun e σ' => e = .returned (.bool true) ∧ ∃ B w i e, σ' = sets B (X.L w i e (lp X.r0 .ready none)) ∧ X.off B ∧ Sta σb B X.m w i e (j + 1)) := by
    rintro x v j hj hx hM _ ⟨B, w, i, e, rfl, hoB, hst⟩
    refine hy _ _ x (sets_get (L := X.L w i e (lp X.r0 .ready none)) (i := 0) hX rfl) ?_
    refine rpre_spec (X := X) hX hoB hst.ext (hg.mono xσ) (hr.mono ENd.mono xσ) (hs.mono ESr.mono xσ) hM hx fun B1 p1 c1 hx1 ho1 hrl => ?_
    exact relem_spec hX ho1 (hst.mono hx1) hj hrl fun B2 b o e2 ho2 hst2 => ⟨rfl, B2, _, 1, e2, rfl, ho2, .inr ⟨Nat.succ_pos _, b, o, rfl, rfl, hst2⟩⟩
  refine gen2_spec (I := fun j σ' => ∃ B w i e, σ' = sets B (X.L w i e (lp X.r0 .ready none)) ∧ X.off B ∧ Sta σb B X.m w i e j) ⟨B0, none, 0, 0, rfl, hoX, .inl ⟨rfl, rfl, rfl, rfl, xb, hmb, gmap⟩⟩ ?_ (step 0 v1 0 (by decide) (by decide) mom0) (step 60 v8 1 (by decide) (by decide) mom60) ?_
  · rintro j _ ⟨B, w, i, e, rfl, hoB, hst⟩
    have hx := hst.ext.trans (xoff (w := w) (j := i) (e := e) (lo := lp X.r0 .ready none) hoB)
    exact ⟨ld_of (hx _ _ (db g3)) rfl, ld_of (hx _ _ (db g5)) rfl, ld_of (hx _ _ (db g4)) rfl⟩
  rintro _ ⟨B, w, i, e, rfl, hoB, ⟨h0, _⟩ | ⟨_, b, o, rfl, rfl, hst⟩⟩
  · cases h0
  have eL : ∀ lo, (sets B (X.L (some ⟨b, o, none⟩) 1 e (lp X.r0 .ready none))).set l (.loop lo) = sets B (X.L (some ⟨b, o, none⟩) 1 e lo) := fun lo => Hp.set_set
  refine ⟨_, .ready, none, rfl, sets_get (L := X.L (some ⟨b, o, none⟩) 1 e (lp X.r0 .ready none)) (i := 0) hX rfl, by decide, .inl ⟨rfl, ?_⟩⟩
  rw [eL]
  have hXe : (names (X.L (some ⟨b, o, none⟩) 1 e (lp X.r0 .exhausted none))).Nodup := hX
  refine ⟨_, 1, e, ldL (L := X.L (some ⟨b, o, none⟩) 1 e (lp X.r0 .exhausted none)) (i := 2) hXe rfl rfl, ?_⟩
  obtain ⟨pl, cl, pp, cc, ds, k1, k2, k3⟩ := hst.own
  refine Spec.frameL hXe hoB (sortAny (ρ := Go.Proofs.Tryz.sortSr_ren) Go.Proofs.Tryz.sortSr (fun w => by kernel_rfl) (fun w => by kernel_rfl) (α := Unit) (enc := fun _ => [.slice pl 0 cl, .slice pp 2 cc]) (fun _ => rfl) (fun _ u hu => by
    simp only [List.mem_cons, List.not_mem_nil, or_false] at hu
    rcases hu with rfl | rfl <;> rfl) (cf := fun _ _ => (0 : Int)) swo0 (g := 27) (fun args w => call27 args w) (b := b) (o := o) (ds := [()]) k1 rfl (by decide) (by decide) (fun w hw x y => ?_) fun B1 ds' hp hpw hown hext hoff1 => ⟨rfl, ?_⟩)
  · exact Spec.grownX (R := fun e => e = .returned (.int .i64 0)) (@rng1_spec ⟨True⟩ _ _ _ _ _ _ _ _ _ _ _ _ fun σ' hx' => ⟨rfl, hx'⟩) hw
  have hds : ds' = [()] := by
    have := hp.length_eq
    match ds', this with
    | [()], _ => rfl
  subst hds
  have hXL : ∀ {w' j' e' lo'}, (names (X.L w' j' e' lo')).Nodup := hX
  refine ⟨_, 1, e, ldL (L := X.L (some ⟨b, o, none⟩) 1 e (lp X.r0 .exhausted none)) (i := 2) hXe rfl rfl, ?_⟩
  refine Eff.storeL (L := X.L (some ⟨b, o, none⟩) 1 e (lp X.r0 .exhausted none)) (i := 5) (c := #[.slice none 0 0]) (c' := #[.slice (some ⟨b, o, none⟩) 1 e]) size23s hXe rfl rfl rfl rfl rfl ?_
  let L7 : List (Nat × Obj) := (X.L (some ⟨b, o, none⟩) 1 e (lp X.r0 .exhausted none)).set 5 (X.b10, .cells #[.slice (some ⟨b, o, none⟩) 1 e] 23 (0, 0))
  let L8 : List (Nat × Obj) := L7.set 1 (X.D, .deferred none)
  refine Eff.storeL (L := L7) (i := 4) (c := #[.int .i64 0]) (c' := #[.int .i64 0]) size25s hX rfl rfl rfl rfl rfl ?_
  show ∃ pr10 : Option Addr, ∃ nr10 : Nat, ∃ cr10 : Nat, ∃ xr11 : Int, sets B1 L7 D = some (.deferred (some [])) ∧ Hp.ld ((sets B1 L7).set D (.deferred none)) ⟨b10, 0, none⟩ = some (.slice pr10 nr10 cr10) ∧ Hp.ld ((sets B1 L7).set D (.deferred none)) ⟨b11, 0, none⟩ = some (.int .i64 xr11) ∧ R (.returned (.tuple #[.slice pr10 nr10 cr10, .int .i64 xr11])) ((sets B1 L7).set D (.deferred none))
  rw [show (sets B1 L7).set D (.deferred none) = sets B1 L8 from sets_set (L := L7) (i := 1) hX rfl]
  refine ⟨some ⟨b, o, none⟩, 1, e, 0, sets_get (L := L7) (i := 1) hX rfl, ldL (L := L8) (i := 5) hX rfl rfl, ldL (L := L8) (i := 4) hX rfl rfl, ?_⟩
  have hoff8 : Off L8 B1 := hoff1
  have x8 : Ext B1 (sets B1 L8) := Off.ext (L := L8) hX hoff8
  refine h b o e pp cc _ (fun y u hyu => x8 _ _ ?_) ?_
  · refine (del_some.1 (hext y u (del_some.2 ⟨fun a ha e => ?_, hst.ext _ _ (xσ _ _ hyu)⟩))).2
    cases ha
    have := xσ _ _ hyu
    rw [e, hst.hb] at this; cases this
  · obtain ⟨_, _, h0 | ⟨b', o', hp, hl⟩⟩ := (Own.rd hown).mono x8
    · cases h0
    · cases hp
      exact hl.2.1
end
end TwW
end
section
namespace TwW
open Go Tw Go.RowKit Go.Proofs.Tryz
section
variable {σ : Hp} {R : Ending → Hp → Prop}
theorem one_spec {b : Nat} (h : R (.returned (.int .u64 b)) σ) : Spec prog 12 #[.float .f64 b] σ R := law22_one.start (.y fbits_yn ⟨_, rfl, h⟩)
set_option maxRecDepth 100000 in
theorem neq36 {x y : Operand} {a b a' b' : Int} : YF prog (do eqGuard .neq 36 x y (.agg #[.int .i64 a, .int .u64 b]) (.agg #[.int .i64 a', .int .u64 b']); binOp .neq 36 (.agg #[.int .i64 a, .int .u64 b]) (.agg #[.int .i64 a', .int .u64 b'])) σ (.bool (!(a == a' && b == b'))) := fun w _ => by
  have u1 := underlying2
  have u2 := underlying34
  have hS : prog.underlying 36 = some (.struct (prog.fieldsOf 36)) := by kernel_rfl
  have hp : prog.stoodInHeld 36 = false := by kernel_rfl
  have hf : (prog.fieldsOf 36).toList = [{ name := "T", type := 2, offset := 0, embedded := false, tag := "", pkgPath := "", byteOffset := 0 }, { name := "V", type := 34, offset := 1, embedded := false, tag := "", pkgPath := "", byteOffset := 8 }] := by kernel_rfl
  simp only [Sem.run_bind, run_eqGuard_agg _ _ _ _ _ _ _ (show prog.eqGuardType prog.depth 36 = false by kernel_rfl), Result.andThen_ok, run_neq_struct]
  rw [show (10000 : Nat) = 9999 + 1 from rfl, run_equalIn_agg w 9999 36 _ _ hS hp, hf]
  simp only [Op.eqFields]
  go_simp
  by_cases h1 : a = a' <;> by_cases h2 : b = b' <;> simp [h1, h2]
theorem samePt_spec {p p' : Option Addr} {n n' c c' : Nat} {ps : List Pt} (h1 : RdS 2 EPt σ p n ps) (h2 : RdS 2 EPt σ p' n' ps) (hR : R (.returned (.bool true)) σ) : Spec prog 15 #[.slice p n c, .slice p' n' c'] σ R := by
  have e1 : ps.length = n := h1.1
  have e2 : ps.length = n' := h2.1
  refine law0_SamePoints.start ⟨fun hne => absurd (by omega) hne, fun _ => ?_⟩
  suffices H : ∀ d i : Nat, n - i = d → i ≤ n → law0_SamePoints.pt17 R p n c p' n' c' i σ from H n 0 rfl (Nat.zero_le _)
  intro d
  induction d with
  | zero => exact fun i hd hi => law0_SamePoints.pt17_of ⟨fun hlt => by omega, fun _ => hR⟩
  | succ d ih =>
    intro i hd hi
    obtain ⟨x, hx⟩ := h1.ex (show i < n by omega)
    obtain ⟨b, o, rfl, l1⟩ := EPt.at h1 hx
    obtain ⟨b', o', rfl, l2⟩ := EPt.at h2 hx
    exact law0_SamePoints.pt17_of ⟨fun _ => ⟨b, o, rfl, by omega, x.1, x.2, by simpa using l1, b', o', rfl, by omega, x.1, x.2, by simpa using l2, _, neq36, fun hh => by simp at hh, fun _ => ⟨i64_succ (by omega) h1.big, ih (i + 1) (by omega) (by omega)⟩⟩, fun hh => by omega⟩
theorem i64z : I64 ((0 : Int) + 0) := by unfold I64; omega
theorem i64z3 : I64 ((0 : Int) + 0 + 300) := by unfold I64; omega
theorem win_spec {p : Option Addr} {n c : Nat} (hr : RdS 10 ENd σ p n T0) (h : ∀ σ', Ext σ σ' → R (.returned (.tuple #[.int .i64 300, .int .i64 0])) σ') : Spec prog 14 #[.slice p n c] σ R := by
  have hn : 2 = n := hr.1
  subst hn
  refine eval_Window.start (check_spec hr (by decide) modest0.tx (fun k σ' hk hx => ⟨_, _, _, rfl, fun hh => absurd rfl hh, fun _ => ?_⟩) fun k j e σ' hk => by rw [ty0] at hk; cases hk)
  have hr1 := hr.mono ENd.mono hx
  obtain ⟨b, o, p1, k1, c1, q1, m1, d1, rfl, hl0, _, _⟩ := ENd.at hr1 (i := 0) (x := nV) rfl
  obtain ⟨b', o', p2, k2, c2, q2, m2, d2, he, hl1, _, _⟩ := ENd.at hr1 (i := 1) (x := nA) rfl
  cases he
  refine eval_Window.pt20_of ⟨fun _ => ⟨b, o, rfl, by decide, _, _, _, _, _, _, _, _, _, _, _, _, _, _, hl0, fun _ => ⟨fun hh => absurd rfl hh, fun _ => ⟨i64z, fun _ => ⟨i64z3, eval_Window.pt44_of ?_⟩, fun hh => absurd rfl hh⟩⟩⟩, fun hh => absurd (by decide) hh⟩
  refine ⟨fun _ => eval_Window.pt51_of (eval_Window.pt52_of ⟨by unfold I64; omega, eval_Window.pt20_of ⟨fun _ => ⟨b, o, rfl, by decide, _, _, _, _, _, _, _, _, _, _, _, _, _, _, hl1, fun _ => ⟨fun _ => ⟨fun _ => eval_Window.pt52_of ⟨by unfold I64; omega, eval_Window.pt20_of ⟨fun hh => absurd hh (by decide), fun _ => h _ hx⟩⟩, fun hh => absurd (by decide) hh⟩, fun hh => absurd (by decide) hh⟩⟩, fun hh => absurd (by decide) hh⟩⟩), fun hh => by cases hh⟩
theorem ext_setS {σ : Hp} {b : Nat} {o : Obj} (h : σ b = none) : Ext σ (σ.set b o) ∧ σ.set b o b = some o := ⟨.set h, Hp.set_same _ _ _⟩
theorem rd_lit {α : Type} {s b n : Nat} {T : TypeId} {E : Hp → List Value → α → Prop} {cs : List Value} {xs : List α} (h : σ b = some (.cells cs.toArray T (0, 0))) (hl : cs.length = n * s) (hn : xs.length = n) (hb : n ≤ 1000) (hE : ∀ (i : Nat) (x : α), xs[i]? = some x → E σ ((cs.drop (i * s)).take s) x) : RdS s E σ (aD b 0) n xs :=
  ⟨hn, cs, ⟨hl, by omega, .inr ⟨b, 0, rfl, LdL.of_cells h⟩⟩, by rw [hl, hn], hE⟩
theorem awake_spec : Awk := fun σ R hg h => by
  refine law22_awake.start fun b11 h11 => one_spec ⟨_, rfl, one_spec ⟨_, rfl, fun b16 h16 b20 h20 => one_spec ⟨_, rfl, fun b23 h23 b25 h25 b27 h27 b30 h30 => ?_⟩⟩⟩
  have x11 := Ext.set (o := .cells #[(.string (ByteArray.mk #[95, 95, 110, 97, 109, 101, 95, 95])), (.string (ByteArray.mk #[120])), (.string (ByteArray.mk #[97])), (.string (ByteArray.mk #[49]))] 47 (0, 0)) h11
  have x16 := Ext.set (o := .cells #[.int .i64 0, .int .u64 v1, .int .i64 60, .int .u64 v3] 36 (0, 0)) h16
  have x20 := Ext.set (o := .cells #[(.string (ByteArray.mk #[95, 95, 110, 97, 109, 101, 95, 95])), (.string (ByteArray.mk #[120])), (.string (ByteArray.mk #[97])), (.string (ByteArray.mk #[50]))] 47 (0, 0)) h20
  have x23 := Ext.set (o := .cells #[.int .i64 60, .int .u64 v5] 36 (0, 0)) h23
  have x25 := Ext.set (o := .cells #[(.slice (aD b11 0) 2 2), (.slice (aD b16 0) 2 2), (.slice (aD b20 0) 2 2), (.slice (aD b23 0) 1 1)] 33 (0, 0)) h25
  have x27 := Ext.set (o := .cells #[.int .i64 1, (.string (ByteArray.mk #[95, 95, 110, 97, 109, 101, 95, 95])), (.string (ByteArray.mk #[120]))] 51 (0, 0)) h27
  obtain ⟨x30, g30⟩ := ext_setS (o := .cells #[.int .i64 2, .int .i64 0, (.string (ByteArray.mk #[])), (.slice (aD b27 0) 1 1), .int .i64 0, .int .i64 0, .int .i64 0, .slice none 0 0, .bool false, .int .i64 0, .int .i64 5, .int .i64 1, (.string (ByteArray.mk #[])), .slice none 0 0, .int .i64 0, .int .i64 0, .int .i64 0, .slice none 0 0, .bool false, .int .i64 1] 43 (0, 0)) h30
  have g11 := (x16.trans (x20.trans (x23.trans (x25.trans (x27.trans x30))))) b11 _ (Hp.set_same _ _ _)
  have g16 := (x20.trans (x23.trans (x25.trans (x27.trans x30)))) b16 _ (Hp.set_same _ _ _)
  have g20 := (x23.trans (x25.trans (x27.trans x30))) b20 _ (Hp.set_same _ _ _)
  have g23 := (x25.trans (x27.trans x30)) b23 _ (Hp.set_same _ _ _)
  have g25 := (x27.trans x30) b25 _ (Hp.set_same _ _ _)
  have g27 := x30 b27 _ (Hp.set_same _ _ _)
  have hx := x11.trans (x16.trans (x20.trans (x23.trans (x25.trans (x27.trans x30)))))
  change Spec prog 6 #[.slice (aD b30 0) 2 2, .slice (aD b25 0) 2 2, .int .i64 60] (Hp.set _ b30 _) _
  generalize hτ : Hp.set _ b30 _ = τ at *
  have rA : RdL τ (aD b11 0) 2 lab1 := rd_lit g11 rfl rfl (by decide) fun i x hx => match i, hx with
    | 0, hx => by cases hx; rfl
    | 1, hx => by cases hx; rfl
    | i + 2, hx => by simp [lab1] at hx
  have rB : RdL τ (aD b20 0) 2 lab2 := rd_lit g20 rfl rfl (by decide) fun i x hx => match i, hx with
    | 0, hx => by cases hx; rfl
    | 1, hx => by cases hx; rfl
    | i + 2, hx => by simp [lab2] at hx
  have rP : RdS 2 EPt τ (aD b16 0) 2 [(0, v1), (60, v3)] := rd_lit g16 rfl rfl (by decide) fun i x hx => match i, hx with
    | 0, hx => by cases hx; rfl
    | 1, hx => by cases hx; rfl
    | i + 2, hx => by simp at hx
  have rQ : RdS 2 EPt τ (aD b23 0) 1 [(60, v5)] := rd_lit g23 rfl rfl (by decide) fun i x hx => match i, hx with
    | 0, hx => by cases hx; rfl
    | i + 1, hx => by simp at hx
  have rS : RdS 2 ESr τ (aD b25 0) 2 ss0 := rd_lit g25 rfl rfl (by decide) fun i x hx => match i, hx with
    | 0, hx => by cases hx; exact ⟨_, _, _, _, _, _, rfl, rA, rP, by decide⟩
    | 1, hx => by cases hx; exact ⟨_, _, _, _, _, _, rfl, rB, rQ, by decide⟩
    | i + 2, hx => by simp [ss0] at hx
  have rM : RdS 3 EMt τ (aD b27 0) 1 [⟨1, kName, sX⟩] := rd_lit g27 rfl rfl (by decide) fun i x hx => match i, hx with
    | 0, hx => by cases hx; rfl
    | i + 1, hx => by simp at hx
  have rN : RdC 1 τ none 0 (([] : List ByteArray).map .string) := ⟨rfl, by decide, .inl rfl⟩
  have rT : RdS 10 ENd τ (aD b30 0) 2 T0 := rd_lit g30 rfl rfl (by decide) fun i x hx => match i, hx with
    | 0, hx => by cases hx; exact ⟨_, _, _, _, _, _, rfl, rM, rN⟩
    | 1, hx => by cases hx; exact ⟨_, _, _, _, _, _, rfl, RdS.nil, rN⟩
    | i + 2, hx => by simp [T0] at hx
  have hgτ := hg.mono hx
  refine inst_spec hgτ rT rS modest0 (fun τ1 p' n' c' σ1 bs h0 hA hx1 => ⟨_, _, _, _, rfl, ?_⟩) fun σ1 hne => absurd (by rw [inst60]) hne
  rw [inst60] at hA
  have X1 := hx1.trans hA.ext
  refine rng_spec (hgτ.mono X1) (rT.mono ENd.mono X1) (rS.mono ESr.mono X1) fun b o e p2 c2 σ2 hx2 hl2 => ⟨_, _, _, _, rfl, win_spec (rT.mono ENd.mono (X1.trans hx2)) fun σ3 hx3 => ⟨_, _, rfl, ?_⟩⟩
  have hA3 := (hA.mono (hx2.trans hx3)).rd
  have hn1 : 1 = n' := hA3.1
  subst hn1
  obtain ⟨b57, o57, p1, n1, c1, q1, m1, d1, rfl, hl, _, hr2, _⟩ := ESr.at hA3 (i := 0) (s := ⟨[], [(60, v8)]⟩) rfl
  have hm1 : 1 = m1 := hr2.1
  subst hm1
  refine ⟨fun _ => ⟨fun _ => ⟨b57, o57, rfl, by decide, q1, 1, d1, by simpa using hl.2.1, one_spec ⟨_, rfl, .of_ext (.refl _), fun b62 h62 => ?_⟩⟩, fun hh => absurd rfl hh⟩, fun hh => absurd rfl hh⟩
  obtain ⟨x62, g62⟩ := ext_setS (o := .cells #[.int .i64 60, .int .u64 v8] 36 (0, 0)) h62
  refine samePt_spec (ps := [(60, v8)]) (hr2.mono EPt.mono x62) (rd_lit g62 rfl rfl (by decide) fun i x hx => match i, hx with
    | 0, hx => by cases hx; rfl
    | i + 1, hx => by simp at hx) ⟨_, rfl, fun _ => ⟨fun _ => ⟨fun _ => ⟨b, o, rfl, by decide, p2, 2, c2, (hx3.trans x62).ld hl2, fun _ => ⟨fun _ => ?_, fun hh => absurd rfl hh⟩, fun hh => absurd rfl hh⟩, fun hh => absurd rfl hh⟩, fun hh => absurd rfl hh⟩, fun hh => by cases hh⟩
  exact h _ (hx.trans (X1.trans (hx2.trans (hx3.trans x62))))
end
end TwW
end
section
namespace TwW.Rw
open Go Tw Go.RowKit Go.ChangeShapes Go.WideShapes Go.ChangeAt Go.Deep Go.Proofs.Tryz Go.Proofs.YtjfbehbfkjmblaaGreatDoor
theorem own : ownKnob prog.godebug = none := by kernel_rfl
theorem laidOut : laidOutB prog = true := by kernel_rfl
theorem bulk_pos {H : Type} (d : DataW H) : 1 ≤ Rows.uptoBulk d := by
  cases d with
  | lit l => cases l <;> simp [Rows.uptoBulk]
  | _ => simp [Rows.uptoBulk]
theorem bulk_part {H : Type} {d : DataW H} : ∀ {l : List (DataW H)}, d ∈ l → Rows.uptoBulk d ≤ Rows.uptoBulkAll l
  | x :: l, h => by
    simp only [Rows.uptoBulkAll]
    rcases List.mem_cons.1 h with rfl | h
    · omega
    · have := bulk_part h; omega
theorem bulk_append {H : Type} (l r : List (DataW H)) : Rows.uptoBulkAll (l ++ r) = Rows.uptoBulkAll l + Rows.uptoBulkAll r := by
  induction l with
  | nil => simp [Rows.uptoBulkAll]
  | cons x l ih => simp only [List.cons_append, Rows.uptoBulkAll, ih]; omega
theorem bulk_len {H : Type} (l : List (DataW H)) : l.length ≤ Rows.uptoBulkAll l := by
  induction l with
  | nil => simp
  | cons x l ih => have := bulk_pos x; simp only [Rows.uptoBulkAll, List.length_cons]; omega
def RdtB {α : Type} (t : TypeId) (E : Hp → List Value → α → Prop) (I : α → Prop) (sz : α → Nat) : Prop :=
  ∀ {H : Type} {enc : TypeId × Value → H} {w : World} {base : Nat} {sp : Nat → Bool} {held : Bool} {fuel : Nat} {cs : List Value} {x : DataW H × List MemPlace},
    DataW.trod enc prog w base sp held fuel t cs = some x → Rows.uptoBulk x.1 ≤ 1048576 → ∃ y, E (full w) cs y ∧ I y ∧ sz y ≤ Rows.uptoBulk x.1
theorem mkB {α : Type} {s : Nat} {E : Hp → List Value → α → Prop} {I : α → Prop} {sz : α → Nat} {σ : Hp} {b o : Nat} {H : Type} {D : Nat → DataW H} : ∀ {n : Nat}, n ≤ 4611686018427387904 → (∀ i, i < n → ∃ vs x, vs.length = s ∧ LdL σ b (o + i * s) vs ∧ E σ vs x ∧ I x ∧ sz x ≤ Rows.uptoBulk (D i)) →
    ∃ xs, RdS s E σ (some ⟨b, o, none⟩) n xs ∧ (∀ x ∈ xs, I x) ∧ (xs.map sz).sum ≤ Rows.uptoBulkAll ((List.range n).map D)
  | 0, _, _ => ⟨[], RdS.nil, by simp, by simp⟩
  | n + 1, hn, h => by
    obtain ⟨xs, ⟨h1, cs, ⟨hl, _, h2⟩, h3⟩, hI, hs⟩ := mkB (n := n) (D := D) (by omega) (fun i hi => h i (by omega))
    obtain ⟨vs, x, hv, hld, hE, hx, hz⟩ := h n (by omega)
    have hcs : LdL σ b o cs := by
      rcases h2 with rfl | ⟨b', o', hp, hl'⟩
      · have : cs = [] := List.eq_nil_of_length_eq_zero (by simpa using hl)
        subst this; trivial
      · cases hp; exact hl'
    refine ⟨xs ++ [x], ⟨by simp [h1], cs ++ vs, ⟨by rw [List.length_append, hl, hv, Nat.add_mul]; omega, hn, .inr ⟨b, o, rfl, hcs.snoc (by rw [hl]; exact hld)⟩⟩, h3.snoc hv hE⟩, fun y hy => ?_, ?_⟩
    · rcases List.mem_append.1 hy with hy | hy
      · exact hI y hy
      · simp at hy; subst hy; exact hx
    · rw [List.range_succ, List.map_append, List.map_append, bulk_append, List.sum_append]
      simp only [List.map_cons, List.map_nil, List.sum_cons, List.sum_nil, Rows.uptoBulkAll]
      omega
def ESc {α : Type} (s : Nat) (E : Hp → List Value → α → Prop) (σ : Hp) (vs : List Value) (xs : List α) : Prop := ∃ p n c, vs = [.slice p n c] ∧ n ≤ c ∧ RdS s E σ p n xs
theorem RdtB.slice {α : Type} {t e : TypeId} {s : Nat} {E : Hp → List Value → α → Prop} {I : α → Prop} {sz : α → Nat} (ht : prog.underlying t = some (.slice e)) (hs : prog.cellsOf e = s) (hs0 : 0 < s) (he : RdtB e E I sz) :
    RdtB t (ESc s E) (fun xs => ∀ x ∈ xs, I x) (fun xs => (xs.map sz).sum + 1) := by
  intro H enc w base sp held fuel cs x h hw
  subst hs
  rcases open_slice ht h with ⟨rfl, rfl⟩ | ⟨a, len, cap, m, n, D, Pl, rfl, hb, hl, hm, hmm, rfl, hi⟩
  · exact ⟨[], ⟨none, 0, 0, rfl, Nat.le_refl _, RdS.nil⟩, by simp, by simp [Rows.uptoBulk]⟩
  · have hlm : len ≤ m := by rw [hmm]; split <;> omega
    have hbk : Rows.uptoBulkAll ((List.range len).map D) + 1 ≤ Rows.uptoBulk (DataW.slice ((List.range len).map D) ((List.range (m - len)).map fun j => D (len + j))) := by
      simp only [Rows.uptoBulk]; omega
    have hlen := bulk_len ((List.range len).map D)
    rw [List.length_map, List.length_range] at hlen
    have hwD : ∀ i, i < len → Rows.uptoBulk (D i) ≤ 1048576 := fun i hi' => by
      have := bulk_part (List.mem_map.2 ⟨i, List.mem_range.2 hi', rfl⟩ : D i ∈ (List.range len).map D)
      simp only at hw
      omega
    by_cases h0 : len = 0
    · subst h0
      exact ⟨[], ⟨some a, 0, cap, rfl, Nat.zero_le _, RdS.nil⟩, by simp, by simp only [Rows.uptoBulk, List.map_nil, List.sum_nil]; omega⟩
    · have hspot : a.spot = none := by
        obtain ⟨cs', hc, _⟩ := hi 0 (by omega)
        obtain ⟨_, hcl, hat⟩ := World.cells?_some hc
        have h1 := hat 0 hs0
        rw [List.getElem?_eq_getElem (by omega)] at h1
        have := cell_spot h1
        simpa [Addr.add] using this
      obtain ⟨b, o, sp'⟩ := a
      simp only at hspot
      subst hspot
      obtain ⟨xs, hr, hI, hz⟩ := mkB (s := prog.cellsOf e) (E := E) (I := I) (sz := sz) (σ := full w) (b := b) (o := o) (D := D) (n := len) (by simp only at hw; omega) (fun i hi' => by
        obtain ⟨cs', hc, ht'⟩ := hi i (by omega)
        obtain ⟨_, hcl, hat⟩ := World.cells?_some hc
        obtain ⟨y, hE, hy, hyz⟩ := he ht' (hwD i hi')
        refine ⟨cs', y, hcl, LdL.of fun j v hj => ?_, hE, hy, hyz⟩
        have hj' : j < prog.cellsOf e := by have := (List.getElem?_eq_some_iff.1 hj).1; omega
        have h1 := hat j hj'
        rw [hj, add_off, add_off] at h1
        exact full_ld h1)
      exact ⟨xs, ⟨some ⟨b, o, none⟩, len, cap, rfl, hl, hr⟩, hI, by simp only at hz hbk ⊢; omega⟩
def ETx1 (_ : Hp) (vs : List Value) (s : ByteArray) : Prop := vs = [.string s]
theorem RdtB.str {t : TypeId} (ht : prog.underlying t = some .string) : RdtB t ETx1 (fun s => s.size ≤ 1048576) (fun s => s.size + 1) := fun h hw => by
  obtain ⟨n, rfl, rfl, _⟩ := DataW.trod_string ht h
  have e : n.data.toList.length = n.size := Array.length_toList
  have hw : n.data.toList.length + 1 ≤ 1048576 := hw
  rw [e] at hw
  exact ⟨n, rfl, by omega, show n.size + 1 ≤ n.data.toList.length + 1 by rw [e]; exact Nat.le_refl _⟩
theorem bulk_in {H : Type} {l : List (DataW H)} {d : DataW H} (h : Rows.uptoBulk (DataW.agg l) ≤ 1048576) (hd : d ∈ l) : Rows.uptoBulk d ≤ 1048576 := by
  have := bulk_part hd
  simp only [Rows.uptoBulk] at h
  omega
theorem sum_one {α : Type} : ∀ l : List α, (l.map fun _ => 1).sum = l.length := fun l => by induction l with
  | nil => rfl
  | cons a l ih => simp; omega
theorem RdtB.len {α : Type} {t e : TypeId} {s : Nat} {E : Hp → List Value → α → Prop} {I : α → Prop} (ht : prog.underlying t = some (.slice e)) (hs : prog.cellsOf e = s) (hs0 : 0 < s) (he : RdtB e E I (fun _ => 1)) :
    RdtB t (ESc s E) (fun xs => (∀ x ∈ xs, I x) ∧ xs.length ≤ 1048576) (fun _ => 1) := fun h hw => by
  obtain ⟨xs, h1, h2, h3⟩ := RdtB.slice ht hs hs0 he h hw
  dsimp only at h3
  rw [sum_one] at h3
  exact ⟨xs, h1, ⟨h2, by omega⟩, bulk_pos _⟩
theorem RdtB.one {α : Type} {t : TypeId} {E : Hp → List Value → α → Prop} {I : α → Prop} {sz : α → Nat} (h : RdtB t E I sz) : RdtB t E I (fun _ => 1) := fun h1 hw => by
  obtain ⟨y, a, b, c⟩ := h h1 hw
  exact ⟨y, a, b, bulk_pos _⟩
set_option maxRecDepth 100000
set_option linter.unusedSimpArgs false
theorem rdt_pt : RdtB 36 EPt (fun p => 0 ≤ p.2) (fun _ => 1) := by
  intro H enc w base sp held fuel cs x h hw
  obtain ⟨xs, n, _, rfl, hlen, hxl, hg⟩ := DataW.trod_struct underlying36 h
  rw [show prog.cellsOf 36 = 2 by kernel_rfl] at hlen
  match cs, hlen, xs, hxl with
  | [c0, c1], _, [y0, y1], _ =>
    have h0 := hg 0 _ rfl
    have h1 := hg 1 _ rfl
    simp only [show prog.cellsOf 2 = 1 by kernel_rfl, show prog.cellsOf 34 = 1 by kernel_rfl, List.drop, List.take, List.getElem?_cons_zero, List.getElem?_cons_succ] at h0 h1
    obtain ⟨a, e0, _, _⟩ := DataW.trod_int underlying2 h0
    obtain ⟨b, e1, _, wb⟩ := DataW.trod_int underlying34 h1
    cases e0; cases e1
    refine ⟨(a, b), rfl, ?_, bulk_pos _⟩
    simp [Lit.wf, IntKind.min, IntKind.max, IntKind.signed, IntKind.bits] at wb
    exact wb.1
theorem rdt_lb : RdtB 47 ELb (fun _ => True) (fun _ => 1) := by
  intro H enc w base sp held fuel cs x h hw
  obtain ⟨xs, n, _, rfl, hlen, hxl, hg⟩ := DataW.trod_struct underlying47 h
  rw [show prog.cellsOf 47 = 2 by kernel_rfl] at hlen
  match cs, hlen, xs, hxl with
  | [c0, c1], _, [y0, y1], _ =>
    have h0 := hg 0 _ rfl
    have h1 := hg 1 _ rfl
    simp only [show prog.cellsOf 9 = 1 by kernel_rfl, List.drop, List.take, List.getElem?_cons_zero, List.getElem?_cons_succ] at h0 h1
    obtain ⟨a, e0, _⟩ := DataW.trod_string underlying9 h0
    obtain ⟨b, e1, _⟩ := DataW.trod_string underlying9 h1
    cases e0; cases e1
    exact ⟨(a, b), rfl, trivial, bulk_pos _⟩
theorem rdt_mt : RdtB 51 EMt (fun _ => True) (fun _ => 1) := by
  intro H enc w base sp held fuel cs x h hw
  obtain ⟨xs, n, _, rfl, hlen, hxl, hg⟩ := DataW.trod_struct underlying51 h
  rw [show prog.cellsOf 51 = 3 by kernel_rfl] at hlen
  match cs, hlen, xs, hxl with
  | [c0, c1, c2], _, [y0, y1, y2], _ =>
    have h0 := hg 0 _ rfl
    have h1 := hg 1 _ rfl
    have h2 := hg 2 _ rfl
    simp only [show prog.cellsOf 9 = 1 by kernel_rfl, show prog.cellsOf 3 = 1 by kernel_rfl, List.drop, List.take, List.getElem?_cons_zero, List.getElem?_cons_succ] at h0 h1 h2
    obtain ⟨z, e0, _⟩ := DataW.trod_int underlying3 h0
    obtain ⟨a, e1, _⟩ := DataW.trod_string underlying9 h1
    obtain ⟨b, e2, _⟩ := DataW.trod_string underlying9 h2
    cases e0; cases e1; cases e2
    exact ⟨⟨z, a, b⟩, rfl, trivial, bulk_pos _⟩
def LenI {α : Type} (I : α → Prop) (xs : List α) : Prop := (∀ x ∈ xs, I x) ∧ xs.length ≤ 1048576
theorem rdt_ls : RdtB 30 (ESc 2 ELb) (LenI fun _ => True) (fun _ => 1) := RdtB.len (s := 2) underlying30 (by kernel_rfl) (by decide) rdt_lb
theorem rdt_ps : RdtB 31 (ESc 2 EPt) (LenI fun p => 0 ≤ p.2) (fun _ => 1) := RdtB.len (s := 2) underlying31 (by kernel_rfl) (by decide) rdt_pt
theorem rdt_ms : RdtB 40 (ESc 3 EMt) (LenI fun _ => True) (fun _ => 1) := RdtB.len (s := 3) underlying40 (by kernel_rfl) (by decide) rdt_mt
theorem rdt_ns : RdtB 41 (ESc 1 ETx1) (LenI fun s => s.size ≤ 1048576) (fun _ => 1) := RdtB.len (s := 1) underlying41 (by kernel_rfl) (by decide) (RdtB.one (RdtB.str underlying9))
theorem ch_tx {σ : Hp} : ∀ {cs : List Value} {xs : List ByteArray}, Ch 1 ETx1 σ cs xs → cs = xs.map .string := by
  rintro cs xs ⟨h1, h2⟩
  refine List.ext_getElem? fun i => ?_
  rw [List.getElem?_map]
  cases hx : xs[i]? with
  | none =>
    have := List.getElem?_eq_none_iff.1 hx
    simp only [Option.map_none]
    exact List.getElem?_eq_none_iff.2 (by omega)
  | some x =>
    have := h2 i x hx
    simp only [ETx1] at this
    have h3 := congrArg (·[0]?) this
    simp at h3
    simpa using h3
theorem rdt_sr : RdtB 33 ESr (fun s => s.ls.length ≤ 1048576 ∧ s.ps.length ≤ 1048576 ∧ ∀ p ∈ s.ps, 0 ≤ p.2) (fun _ => 1) := by
  intro H enc w base sp held fuel cs x h hw
  obtain ⟨xs, n, _, rfl, hlen, hxl, hg⟩ := DataW.trod_struct underlying33 h
  rw [show prog.cellsOf 33 = 2 by kernel_rfl] at hlen
  match cs, hlen, xs, hxl with
  | [c0, c1], _, [y0, y1], _ =>
    have h0 := hg 0 _ rfl
    have h1 := hg 1 _ rfl
    simp only [show prog.cellsOf 30 = 1 by kernel_rfl, show prog.cellsOf 31 = 1 by kernel_rfl, List.drop, List.take, List.getElem?_cons_zero, List.getElem?_cons_succ] at h0 h1
    obtain ⟨ls, ⟨p, k, c, e0, hc0, r0⟩, ⟨_, l0⟩, _⟩ := rdt_ls h0 (bulk_in hw (by simp))
    obtain ⟨ps, ⟨q, m, d, e1, hc1, r1⟩, ⟨i1, l1⟩, _⟩ := rdt_ps h1 (bulk_in hw (by simp))
    cases e0; cases e1
    exact ⟨⟨ls, ps⟩, ⟨p, k, c, q, m, d, rfl, r0, r1, hc1⟩, ⟨l0, l1, i1⟩, bulk_pos _⟩
theorem rdt_nd : RdtB 43 ENd (fun x => x.text.size ≤ 1048576 ∧ x.mt.length ≤ 1048576 ∧ x.names.length ≤ 1048576) (fun _ => 1) := by
  intro H enc w base sp held fuel cs x h hw
  obtain ⟨xs, n, _, rfl, hlen, hxl, hg⟩ := DataW.trod_struct underlying43 h
  rw [show prog.cellsOf 43 = 10 by kernel_rfl] at hlen
  match cs, hlen, xs, hxl with
  | [c0, c1, c2, c3, c4, c5, c6, c7, c8, c9], _, [y0, y1, y2, y3, y4, y5, y6, y7, y8, y9], _ =>
    have h0 := hg 0 _ rfl
    have h1 := hg 1 _ rfl
    have h2 := hg 2 _ rfl
    have h3 := hg 3 _ rfl
    have h4 := hg 4 _ rfl
    have h5 := hg 5 _ rfl
    have h6 := hg 6 _ rfl
    have h7 := hg 7 _ rfl
    have h8 := hg 8 _ rfl
    have h9 := hg 9 _ rfl
    simp only [show prog.cellsOf 3 = 1 by kernel_rfl, show prog.cellsOf 9 = 1 by kernel_rfl, show prog.cellsOf 40 = 1 by kernel_rfl, show prog.cellsOf 2 = 1 by kernel_rfl, show prog.cellsOf 41 = 1 by kernel_rfl, show prog.cellsOf 4 = 1 by kernel_rfl, List.drop, List.take, List.getElem?_cons_zero, List.getElem?_cons_succ] at h0 h1 h2 h3 h4 h5 h6 h7 h8 h9
    obtain ⟨a0, e0, _, _⟩ := DataW.trod_int underlying3 h0
    obtain ⟨a1, e1, _, _⟩ := DataW.trod_int underlying3 h1
    obtain ⟨a2, e2, i2, _⟩ := RdtB.str underlying9 h2 (bulk_in hw (by simp))
    obtain ⟨a3, ⟨p, k, c, e3, _, r3⟩, ⟨_, l3⟩, _⟩ := rdt_ms h3 (bulk_in hw (by simp))
    obtain ⟨a4, e4, _, _⟩ := DataW.trod_int underlying2 h4
    obtain ⟨a5, e5, _, _⟩ := DataW.trod_int underlying2 h5
    obtain ⟨a6, e6, _, _⟩ := DataW.trod_int underlying3 h6
    obtain ⟨a7, ⟨q, m, d, e7, _, r7⟩, ⟨_, l7⟩, _⟩ := rdt_ns h7 (bulk_in hw (by simp))
    obtain ⟨a8, e8, _⟩ := DataW.trod_bool underlying4 h8
    obtain ⟨a9, e9, _, _⟩ := DataW.trod_int underlying3 h9
    have e2 : [c2] = [.string a2] := e2
    cases e0; cases e1; cases e2; cases e3; cases e4; cases e5; cases e6; cases e7; cases e8; cases e9
    obtain ⟨_, cs, g1, g2⟩ := r7
    rw [ch_tx g2] at g1
    exact ⟨⟨a0, a1, a2, a3, a4, a5, a6, a7, a8, a9⟩, ⟨p, k, c, q, m, d, rfl, r3, g1⟩, ⟨i2, l3, l7⟩, bulk_pos _⟩
section
variable {H : Type} {enc : TypeId × Value → H} {W : World} {base : Nat} {v v' : Value} {d d' : DataW H} {ps ps' : List MemPlace} {r : Reach}
theorem open_nds (hv : Value.okWide prog W r base 22 v) (h : DataW.Trod enc prog W 0 (fun _ => true) true 22 v d ps) (hw : Rows.uptoBulk d ≤ 1048576) : ∃ p n c T, v = .slice p n c ∧ RdS 10 ENd (full W) p n T ∧ LenI (fun x : Nd => x.text.size ≤ 1048576 ∧ x.mt.length ≤ 1048576 ∧ x.names.length ≤ 1048576) T := by
  obtain ⟨a, l, c, rfl⟩ := okWide_slice underlying22 hv
  obtain ⟨fuel, hf⟩ := h
  obtain ⟨xs, ⟨p, n, c', e, _, hr⟩, hI, _⟩ := RdtB.len (s := 10) underlying22 (by kernel_rfl) (by decide) rdt_nd hf hw
  have e' : [Value.slice a l c] = [.slice p n c'] := by simpa [Value.cells] using e
  cases e'
  exact ⟨a, l, c, xs, rfl, hr, hI⟩
theorem open_srs (hv : Value.okWide prog W r base 23 v) (h : DataW.Trod enc prog W 0 (fun _ => true) true 23 v d ps) (hw : Rows.uptoBulk d ≤ 1048576) : ∃ p n c ss, v = .slice p n c ∧ RdS 2 ESr (full W) p n ss ∧ LenI (fun s : Sr => s.ls.length ≤ 1048576 ∧ s.ps.length ≤ 1048576 ∧ ∀ p ∈ s.ps, 0 ≤ p.2) ss := by
  obtain ⟨a, l, c, rfl⟩ := okWide_slice underlying23 hv
  obtain ⟨fuel, hf⟩ := h
  obtain ⟨xs, ⟨p, n, c', e, _, hr⟩, hI, _⟩ := RdtB.len (s := 2) underlying23 (by kernel_rfl) (by decide) rdt_sr hf hw
  have e' : [Value.slice a l c] = [.slice p n c'] := by simpa [Value.cells] using e
  cases e'
  exact ⟨a, l, c, xs, rfl, hr, hI⟩
end
theorem law_of {f : FuncId} {fn : Func} {s : ChangeSpec} {H : Type} {enc : TypeId × Value → H} {W : World} {args : Array Value} {ds gs : List (DataW H)} {before : List MemPlace} (hr : (fn.params.toList.all fun t => prog.readableRec t && Nat.blt t prog.types.size) = true)
    (hrt : fn.resultTypes = #[4]) (hv : s.vars = []) (hfn : (s.fn H (ds ++ gs)).results = [.lit (.bool true)] ∧ (s.fn H (ds ++ gs)).args = ds ∧ (s.fn H (ds ++ gs)).vars = [])
    (hW : DataW.Whole enc prog fn.params.toList s.vars false W args.toList ds gs before) (h : Lawful prog f args W) :
    Calls prog f args W fun e W' => ∃ v, e = .returned v ∧ s.post enc prog fn false true false false W args v W' :=
  h.calls.mono fun e W' ⟨he, hb⟩ => ⟨_, he, law_post laidOut hr hrt underlying4 hv hfn hW hb⟩
end TwW.Rw
end
section
namespace TwW.Rw
open Go Go.Proofs.Tryz Go.Proofs.YtjfbehbfkjmblaaGreatDoor
def fl0 : DataW Unit → List Value
  | .lit (.int k z) => [.int k z]
  | .lit (.bool b) => [.bool b]
  | .lit (.float k b) => [.float k b]
  | .lit (.string s) => [.string ⟨s.toArray⟩]
  | _ => []
def fl1 : DataW Unit → List Value
  | .agg l => l.flatMap fl0
  | x => fl0 x
def fl2 : DataW Unit → List Value
  | .agg l => l.flatMap fl1
  | x => fl0 x
def fls : DataW Unit → List Value
  | .slice l _ => l.flatMap fl1
  | .iface _ (.ptr d) => fl1 d
  | _ => []
def lns : DataW Unit → Nat
  | .slice l _ => l.length
  | _ => 0
noncomputable def laidWorld (os : Os) : World :=
  let N := (World.settled prog os).heap.size
  let ob (x : DataW Unit) (t : TypeId) : Obj := .cells (fls x).toArray t (0, 0)
  let w0 := World.holding prog os ⟨#[ob Rows.laid_strconv_ErrSyntax 272, ob Rows.laid_strconv_ErrRange 272, ob Rows.laid_internal_strconv_float32pow10 233, ob Rows.laid_internal_strconv_powtab 3, ob Rows.laid_internal_strconv_float64pow10 49, ob Rows.laid_internal_strconv_leftcheats 314], #[], []⟩
  let put (h : Array Obj) (g : Nat) (cs : List Value) : Array Obj := h.modify g fun
    | .cells _ t frozen => .cells cs.toArray t frozen
    | o => o
  let sl (i : Nat) (x : DataW Unit) : List Value := [.slice (some ⟨N + i, 0, none⟩) (lns x) (lns x)]
  let h1 := put (put w0.heap 2 [.iface 270 (.pointer (some ⟨N, 0, none⟩))]) 3 [.iface 270 (.pointer (some ⟨N + 1, 0, none⟩))]
  let h2 := put (put (put (put h1 7 (sl 2 Rows.laid_internal_strconv_float32pow10)) 8 (sl 3 Rows.laid_internal_strconv_powtab)) 9 (sl 4 Rows.laid_internal_strconv_float64pow10)) 13 (sl 5 Rows.laid_internal_strconv_leftcheats)
  let h3 := put (put (put h2 4 (fl1 Rows.laid_internal_strconv_float32info)) 5 (fl1 Rows.laid_internal_strconv_optimize)) 6 (fl1 Rows.laid_internal_strconv_float64info)
  let h4 := put (put (put h3 10 (fl2 Rows.laid_internal_strconv_pow10Tab)) 11 (fl1 Rows.laid_unicode_utf8_first)) 12 (fl2 Rows.laid_unicode_utf8_acceptRanges)
  { w0 with heap := put (put (put h4 14 (fl1 Rows.laid_internal_strconv_uint64pow10)) 15 (fl1 Rows.laid_math_bits_deBruijn32tab)) 16 (fl1 Rows.laid_math_bits_deBruijn64tab) }
abbrev Laid : List (String × DataW Unit) := Rows.evalBackUptoRow.laid
noncomputable abbrev LW (os : Os) (args : Array Value) : World := ((laidWorld os).forCall (fun _ _ => 0) ⟨#[], args, []⟩).memory
set_option maxRecDepth 1000000
theorem run1 (os : Os) (args : Array Value) : (DataW.laidRun prog (LW os args) 8 (Laid.map (·.1))).map (·.1) = some Laid := by kernel_rfl
noncomputable def LBk (os : Os) : List (Nat × Nat) :=
  let N := (World.settled prog os).heap.size
  [(15, 32), (16, 64), (4, 3), (6, 3), (5, 1), (8, 1), (N + 3, lns Rows.laid_internal_strconv_powtab), (9, 1), (N + 4, lns Rows.laid_internal_strconv_float64pow10), (7, 1), (N + 2, lns Rows.laid_internal_strconv_float32pow10), (14, 20), (12, 32), (3, 1), (N + 1, 1), (2, 1), (N, 1), (13, 1), (N + 5, lns Rows.laid_internal_strconv_leftcheats * 2), (10, 1392), (11, 256)]
theorem run2 (os : Os) (args : Array Value) : (DataW.laidRun prog (LW os args) 8 (Laid.map (·.1))).map (·.2) = some ((LBk os).flatMap fun x => MemPlace.row ⟨x.1, 0, none⟩ x.2) := by kernel_rfl
end TwW.Rw
end
section
namespace TwW
open Go
def rowsOf (L : List (Nat × Nat)) : List MemPlace := L.flatMap fun x => MemPlace.row ⟨x.1, 0, none⟩ x.2
theorem row_mem {b n : Nat} {p : MemPlace} : p ∈ MemPlace.row ⟨b, 0, none⟩ n ↔ ∃ i, i < n ∧ p = .cell b i := by
  unfold MemPlace.row
  simp only [List.mem_map, List.mem_range, Nat.zero_add]
  exact ⟨fun ⟨i, h, e⟩ => ⟨i, h, e.symm⟩, fun ⟨i, h, e⟩ => ⟨i, h, e.symm⟩⟩
theorem row_nodup (b n : Nat) : (MemPlace.row ⟨b, 0, none⟩ n).Nodup := by
  unfold MemPlace.row
  refine List.pairwise_map.2 ((List.nodup_range (n := n)).imp fun {i j} hne e => hne ?_)
  simpa using e
theorem rows_nodup : ∀ {L : List (Nat × Nat)}, (L.map Prod.fst).Nodup → (rowsOf L).Nodup
  | [], _ => List.nodup_nil
  | x :: L, h => by
    have h := List.nodup_cons.1 (show (x.1 :: L.map Prod.fst).Nodup from h)
    unfold rowsOf
    rw [List.flatMap_cons, List.nodup_append]
    refine ⟨row_nodup _ _, rows_nodup h.2, fun p hp q hq e => ?_⟩
    subst e
    obtain ⟨i, _, rfl⟩ := row_mem.1 hp
    obtain ⟨y, hy, hq⟩ := List.mem_flatMap.1 hq
    obtain ⟨j, _, e⟩ := row_mem.1 hq
    simp only [MemPlace.cell.injEq] at e
    exact h.1 (List.mem_map.2 ⟨y, hy, e.1.symm⟩)
def laidB (P : Program) (w : World) (b : Nat) : Bool :=
  match w.heap[b]? with
  | some (.cells c _ (0, 0)) => c.toList.all fun | .iface u v => Value.okWideB P w u v | _ => true
  | _ => false
theorem laidMet_rows {P : Program} {w : World} {l : List (String × DataW Unit)} (fuel : Nat) (L : List (Nat × Nat)) (h1 : (DataW.laidRun P w fuel (l.map (·.1))).map (·.1) = some l) (h2 : (DataW.laidRun P w fuel (l.map (·.1))).map (·.2) = some (rowsOf L))
    (hn : (L.map Prod.fst).Nodup) (hb : ∀ x ∈ L, laidB P w x.1 = true) : laidMet P l w := by
  cases hx : DataW.laidRun P w fuel (l.map (·.1)) with
  | none => rw [hx] at h1; cases h1
  | some x =>
    obtain ⟨l', ps⟩ := x
    rw [hx] at h1 h2
    simp only [Option.map_some, Option.some.injEq] at h1 h2
    subst h1; subst h2
    refine ⟨_, DataW.LaidVars_of_laidRun hx, rows_nodup hn, fun b off hp => ?_⟩
    obtain ⟨y, hy, hp⟩ := List.mem_flatMap.1 hp
    obtain ⟨i, hi, e⟩ := row_mem.1 hp
    simp only [MemPlace.cell.injEq] at e
    obtain ⟨rfl, rfl⟩ := e
    have := hb y hy
    unfold laidB at this
    split at this
    · rename_i c t hh
      refine ⟨⟨c, t, hh⟩, fun u v hc => ?_⟩
      have hc' : c[off]? = some (.iface u v) := by simpa [World.cell?, hh] using hc
      have hm : Value.iface u v ∈ c.toList := Array.mem_toList_iff.2 (Array.mem_of_getElem? hc')
      exact Value.okWide_of_okWideB (List.all_eq_true.1 this _ hm)
    · cases this
end TwW
end
section
namespace TwW.Rw
open Go TwW Go.Proofs.Tryz Go.Proofs.YtjfbehbfkjmblaaGreatDoor
set_option maxRecDepth 1000000
theorem lbk_nd (os : Os) : nodupB ((LBk os).map Prod.fst) = true := by kernel_rfl
theorem lbk_ok (os : Os) (args : Array Value) : ((LBk os).all fun x => laidB prog (LW os args) x.1) = true := by kernel_rfl
theorem laid_met (os : Os) (args : Array Value) : laidMet prog Laid (LW os args) := laidMet_rows 8 (LBk os) (run1 os args) (run2 os args) (nodup_of_nodupB (lbk_nd os)) (fun x hx => List.all_eq_true.1 (lbk_ok os args) x hx)
end TwW.Rw
end
section
namespace TwW.Rw
open Go Tw TwW Go.RowKit Go.Deep Go.Proofs.Tryz Go.Proofs.YtjfbehbfkjmblaaGreatDoor
theorem trod_float {H : Type} {enc : TypeId × Value → H} {w : World} {base : Nat} {sp : Nat → Bool} {held : Bool} {fuel : Nat} {t : TypeId} {cs : List Value} {x : DataW H × List MemPlace} {k : FloatKind} (ht : prog.underlying t = some (.float k)) (h : DataW.trod enc prog w base sp held fuel t cs = some x) : ∃ n, cs = [.float k n] ∧ x = (.lit (.float k n), []) := by
  cases fuel with
  | zero => simp [DataW.trod] at h
  | succ n =>
    unfold DataW.trod at h
    rw [ht] at h
    split at h <;> simp_all
theorem vars_at {P : Program} {w : World} : ∀ {l : List (String × DataW Unit)} {ps : List MemPlace} {i : Nat} {n : String} {d : DataW Unit}, DataW.LaidVars P w l ps → l[i]? = some (n, d) →
    ∃ g t cs fuel p, P.globalNamed n = some g ∧ (P.globals[g]?).map (·.type) = some t ∧ w.var? P n = some cs ∧ DataW.trod (fun _ => ()) P w 0 (fun _ => true) false fuel t cs.toList = some (d, p)
  | [], _, _, _, _, _, h => by simp at h
  | (m, e) :: r, ps, 0, n, d, h, hi => by
    cases hi
    obtain ⟨g, t, cs, fuel, p, q, h1, h2, h3, h4, _⟩ := h
    exact ⟨g, t, cs, fuel, p, h1, h2, h3, h4⟩
  | (m, e) :: r, ps, i + 1, n, d, h, hi => by
    obtain ⟨g, t, cs, fuel, p, q, h1, h2, h3, h4, h5, _⟩ := h
    exact vars_at h5 hi
theorem laid_at {P : Program} {w : World} {l : List (String × DataW Unit)} {i g t : Nat} {n : String} {d : DataW Unit} (h : laidMet P l w) (hi : l[i]? = some (n, d)) (hg : P.globalNamed n = some g) (ht : (P.globals[g]?).map (·.type) = some t) :
    ∃ cs fuel p, (∀ (j : Nat) v, cs[j]? = some v → (full w).ld ⟨g, j, none⟩ = some v) ∧ DataW.trod (fun _ => ()) P w 0 (fun _ => true) false fuel t cs = some (d, p) := by
  obtain ⟨ps, hv, _⟩ := h
  obtain ⟨g', t', cs, fuel, p, h1, h2, h3, h4⟩ := vars_at hv hi
  obtain rfl := Option.some.inj (hg.symm.trans h1)
  obtain rfl := Option.some.inj (ht.symm.trans h2)
  refine ⟨cs.toList, fuel, p, fun j v hj => full_ld ?_, h4⟩
  unfold World.var? at h3
  rw [hg] at h3
  simp only [Option.bind_some] at h3
  split at h3
  · rename_i c T fr hc
    cases h3
    simpa [World.cell?, hc] using hj
  · cases h3
theorem laid_opt {W : World} (h : laidMet prog Laid W) : (full W).ld ⟨5, 0, none⟩ = some (.bool true) := by
  obtain ⟨cs, fuel, p, h1, h2⟩ := laid_at (i := 4) (n := "internal/strconv.optimize") (d := .lit (.bool true)) (g := 5) (t := 4) h rfl (by kernel_rfl) (by kernel_rfl)
  obtain ⟨b, rfl, e⟩ := DataW.trod_bool underlying4 h2
  cases e
  exact h1 0 _ rfl
set_option maxRecDepth 100000 in
theorem laid_bits {W : World} (h : laidMet prog Laid W) : (full W).ld ⟨6, 0, none⟩ = some (.int .u64 52) := by
  obtain ⟨cs, fuel, p, h1, h2⟩ := laid_at (i := 3) (n := "internal/strconv.float64info") (d := .agg [.lit (.int .u64 52), .lit (.int .u64 11), .lit (.int .i64 (-1023))]) (g := 6) (t := 255) h rfl (by kernel_rfl) (by kernel_rfl)
  obtain ⟨xs, n, _, e, hlen, hxl, hg⟩ := DataW.trod_struct underlying255 h2
  rw [show prog.cellsOf 255 = 3 by kernel_rfl] at hlen
  match cs, hlen, xs, hxl with
  | [c0, c1, c2], _, [y0, y1, y2], _ =>
    have h0 := hg 0 _ rfl
    simp only [show prog.cellsOf 90 = 1 by kernel_rfl, List.drop, List.take, List.getElem?_cons_zero] at h0
    obtain ⟨a, e0, e1, _⟩ := DataW.trod_int underlying90 h0
    cases e0
    have e2 : y0.1 = .lit (.int .u64 52) := by
      have := congrArg Prod.fst e
      simp only [List.map_cons, DataW.agg.injEq, List.cons.injEq] at this
      exact this.1.symm
    rw [e1] at e2
    cases e2
    exact h1 0 _ rfl
set_option maxRecDepth 100000 in
theorem laid_pow {W : World} (h : laidMet prog Laid W) : ∃ b o n c, (full W).ld ⟨9, 0, none⟩ = some (.slice (some ⟨b, o, none⟩) n c) ∧ 16 ≤ n ∧ ∀ i v, pow10[i]? = some v → (full W).ld ⟨b, o + i * 1, none⟩ = some (.float .f64 v) := by
  obtain ⟨cs, fuel, p, h1, h2⟩ := laid_at (i := 6) (n := "internal/strconv.float64pow10") (d := Rows.laid_internal_strconv_float64pow10) (g := 9) (t := 293) h rfl (by kernel_rfl) (by kernel_rfl)
  rcases open_slice underlying293 h2 with ⟨_, e⟩ | ⟨a, len, cap, m, n, D, Pl, rfl, hb, hl, hm, hmm, e, hi⟩
  · have := congrArg Prod.fst e
    simp [Rows.laid_internal_strconv_float64pow10] at this
  have e1 := congrArg Prod.fst e
  simp only [Rows.laid_internal_strconv_float64pow10, DataW.slice.injEq] at e1
  obtain ⟨e1, _⟩ := e1
  have hlen := congrArg List.length e1
  rw [List.length_map, List.length_range] at hlen
  simp only [List.length_cons, List.length_nil] at hlen
  have hlm : len ≤ m := by rw [hmm]; split <;> omega
  have hcell : ∀ i, i < len → ∃ v, W.cell? (a.add (i * 1)) = some (.float .f64 v) ∧ D i = .lit (.float .f64 v) := fun i hi' => by
    obtain ⟨cs', hc, ht'⟩ := hi i (by omega)
    rw [show prog.cellsOf 49 = 1 by kernel_rfl] at hc
    obtain ⟨_, hcl, hat⟩ := World.cells?_some hc
    obtain ⟨v, rfl, ev⟩ := trod_float underlying49 ht'
    have h0 := hat 0 (by decide)
    simp only [List.getElem?_cons_zero] at h0
    exact ⟨v, h0, (congrArg Prod.fst ev)⟩
  have hspot : a.spot = none := by
    obtain ⟨v, hv, _⟩ := hcell 0 (by omega)
    have := cell_spot hv
    simpa [Addr.add] using this
  obtain ⟨b, o, sp⟩ := a
  simp only at hspot
  subst hspot
  refine ⟨b, o, len, cap, h1 0 _ rfl, by omega, fun i v hv => ?_⟩
  have hi16 : i < 16 := (List.getElem?_eq_some_iff.1 hv).1
  obtain ⟨u, hu, hD⟩ := hcell i (by omega)
  have hDi : ((List.range len).map D)[i]? = some (D i) := by rw [List.getElem?_map, List.getElem?_range (by omega)]; rfl
  rw [← e1, hD] at hDi
  have huv : u = v := by
    match i, hi16 with
    | 0, _ | 1, _ | 2, _ | 3, _ | 4, _ | 5, _ | 6, _ | 7, _ | 8, _ | 9, _ | 10, _ | 11, _ | 12, _ | 13, _ | 14, _ | 15, _ =>
      simp [pow10] at hv hDi
      omega
  subst huv
  have h9 := full_ld hu
  rw [add_off] at h9
  exact h9
theorem gl_of {W : World} (h : laidMetH prog Laid W) (hs : W.ShapedOpen prog) : Gl (full W) := by
  have h : laidMet prog Laid W := by
    rw [MakeChecks.laidMetH_plain _ _ _ (by kernel_rfl)] at h
    exact h
  exact ⟨let ⟨m, hm⟩ := Go.Proofs.cell_of_shapedOpen_int (g := 1) (zero := #[.int .i64 0]) (t := 3) hs (of_decide_eq_true (by kernel_rfl)) (by kernel_rfl) rfl (by kernel_rfl) (by kernel_rfl) underlying3; ⟨m, full_ld hm⟩, laid_opt h, laid_bits h, laid_pow h⟩
end TwW.Rw
end
section
namespace TwW.Rw
open Go Tw TwW Go.Proofs.Tryz Go.Proofs.YtjfbehbfkjmblaaGreatDoor
theorem and_t {a b : Bool} (h1 : a = true) (h2 : b = true) : (a && b) = true := by rw [h1, h2]; rfl
theorem rowed : mapsRowed prog = true := by kernel_rfl
theorem heard : prog.stopsHeard = true := by kernel_rfl
theorem enters : prog.mayEnter = true := by kernel_rfl
theorem stops0 : (prog.stops == []) = true := by kernel_rfl
theorem knobs0 : (prog.stopKnobs == []) = true := by kernel_rfl
theorem lifts : (Rows.evalBackRow.lifted == prog.liftsFinal) = true := by kernel_rfl
theorem keys : (Rows.evalBackRow.plainKeys == prog.plainKeys) = true := by kernel_rfl
theorem makes : (prog.make == some Rows.evalBackRow.make) = true := by kernel_rfl
end TwW.Rw
end
section
namespace TwW.Rw
open Go Tw TwW Go.ChangeShapes Go.WideShapes Go.ChangeAt Go.RowKit Go.Deep Go.Proofs.Tryz Go.Proofs.YtjfbehbfkjmblaaGreatDoor
abbrev wArgs : Array Value := #[.slice none 0 0, .slice none 0 0, .int .i64 0, .int .i64 0]
noncomputable abbrev wW (os : Os) : World := (laidWorld os).forCall (fun _ _ => 0) ⟨#[], wArgs, []⟩
def chkV (P : Program) (w : World) (g : Nat) : Bool :=
  match ((begin P (fun _ _ => 0) default).world.heap[g]?).bind Obj.row? with
  | none => true
  | some (zero, t) =>
    match w.heap[g]? with
    | some (.cells cs t' frozen) => decide (t' = t) && decide (frozen = (0, 0)) && cs.size == zero.size && (!P.buildable t || Row.okRefB P w t cs)
    | _ => false
theorem chkV_all {P : Program} {w : World} (h : ∀ g, g < P.globals.size → chkV P w g = true) : w.variablesRefB P = true :=
  List.all_eq_true.2 fun g hg => h g (List.mem_range.1 hg)
theorem okRefB_rep {P : Program} {w : World} {t e : TypeId} {cs : Array Value} {n : Nat} (hts : P.cellTypes P.depth t = some (List.replicate n e)) (hs : cs.size = n) (hall : (cs.toList.all fun v => Cell.okRefB P w e v) = true) : Row.okRefB P w t cs = true := by
  unfold Row.okRefB
  rw [hts]
  simp only [List.length_replicate, hs, Nat.mod_self, Bool.and_eq_true, beq_iff_eq, List.all_eq_true, List.mem_range, true_and]
  intro i hi
  have hi' : i < cs.size := by omega
  rw [Array.getElem?_eq_getElem hi', Nat.mod_eq_of_lt hi, List.getElem?_replicate, if_pos hi]
  exact List.all_eq_true.1 hall _ (by simp)
theorem chkV_of {P : Program} {w : World} {g n : Nat} {t e : TypeId} {cs : Array Value} (h0 : (((begin P (fun _ _ => 0) default).world.heap[g]?).bind Obj.row?).map (fun x => (x.1.size, x.2)) = some (n, t)) (h1 : w.heap[g]? = some (.cells cs t (0, 0))) (hs : cs.size = n) (hts : P.cellTypes P.depth t = some (List.replicate n e)) (hall : (cs.toList.all fun v => Cell.okRefB P w e v) = true) : chkV P w g = true := by
  unfold chkV
  cases hb : ((begin P (fun _ _ => 0) default).world.heap[g]?).bind Obj.row? with
  | none => rfl
  | some x =>
    obtain ⟨zero, t'⟩ := x
    rw [hb] at h0
    simp only [Option.map_some, Option.some.injEq, Prod.mk.injEq] at h0
    obtain ⟨h2, rfl⟩ := h0
    simp only [h1, okRefB_rep hts hs hall, hs, h2]
    simp
set_option maxRecDepth 1000000
theorem wHr (os : Os) : ((wW os).heap.toList.drop prog.globals.size).take ((begin prog (fun _ _ => 0) default).world.heap.size - prog.globals.size) = (begin prog (fun _ _ => 0) default).world.heap.toList.drop prog.globals.size := by kernel_rfl
theorem wHok (os : Os) : Input.okWideB prog (wW os) 4 ⟨#[], wArgs, []⟩ = true := by kernel_rfl
theorem wRest (os : Os) : ((List.range 17).all fun g => (g == 10 || g == 11) || chkV prog (wW os) g) = true := by kernel_rfl
theorem wPow (os : Os) : (wW os).heap[10]? = some (.cells (fl2 Rows.laid_internal_strconv_pow10Tab).toArray 298 (0, 0)) := by kernel_rfl
theorem wFst (os : Os) : (wW os).heap[11]? = some (.cells (fl1 Rows.laid_unicode_utf8_first).toArray 307 (0, 0)) := by kernel_rfl
theorem z10 : (((begin prog (fun _ _ => 0) default).world.heap[10]?).bind Obj.row?).map (fun x => (x.1.size, x.2)) = some (1392, 298) := by kernel_rfl
theorem z11 : (((begin prog (fun _ _ => 0) default).world.heap[11]?).bind Obj.row?).map (fun x => (x.1.size, x.2)) = some (256, 307) := by kernel_rfl
theorem t10 : prog.cellTypes prog.depth 298 = some (List.replicate 1392 34) := by kernel_rfl
theorem t11 : prog.cellTypes prog.depth 307 = some (List.replicate 256 5) := by kernel_rfl
theorem s10 : (fl2 Rows.laid_internal_strconv_pow10Tab).toArray.size = 1392 := by kernel_rfl
theorem s11 : (fl1 Rows.laid_unicode_utf8_first).toArray.size = 256 := by kernel_rfl
theorem a10 (os : Os) : ((fl2 Rows.laid_internal_strconv_pow10Tab).toArray.toList.all fun v => Cell.okRefB prog (wW os) 34 v) = true := by kernel_rfl
theorem a11 (os : Os) : ((fl1 Rows.laid_unicode_utf8_first).toArray.toList.all fun v => Cell.okRefB prog (wW os) 5 v) = true := by kernel_rfl
theorem wHv (os : Os) : (wW os).variablesRefB prog = true := chkV_all fun g hg => by
  by_cases h10 : g = 10
  · subst h10; exact chkV_of z10 (wPow os) s10 t10 (a10 os)
  by_cases h11 : g = 11
  · subst h11; exact chkV_of z11 (wFst os) s11 t11 (a11 os)
  have h17 : g < 17 := hg
  have := List.all_eq_true.1 (wRest os) g (List.mem_range.2 h17)
  simpa [h10, h11] using this
theorem reads (os : Os) {H : Type} (enc : TypeId × Value → H) : ∃ places, DataW.whole enc prog (wW os).memory f4.params.toList Rows.evalBackSpec.vars false wArgs.toList 8 = some ([.nil, .nil, .lit (.int .i64 0), .lit (.int .i64 0)], [], places) :=
  ⟨[], by kernel_rfl⟩
end TwW.Rw
end
section
namespace TwW.Rw
open Go Tw TwW Go.Proofs.Tryz Go.Proofs.YtjfbehbfkjmblaaGreatDoor
theorem oks {T : List Nd} {ss : List Sr} (hT : LenI (fun x : Nd => x.text.size ≤ 1048576 ∧ x.mt.length ≤ 1048576 ∧ x.names.length ≤ 1048576) T) (hS : LenI (fun s : Sr => s.ls.length ≤ 1048576 ∧ s.ps.length ≤ 1048576 ∧ ∀ p ∈ s.ps, 0 ≤ p.2) ss) (ht : T.length ≤ 2000000) : Modest T ss ∧ TOk T ∧ SOk ss :=
  ⟨⟨ht, fun x hx => Nat.le_trans (hT.1 x hx).1 (by decide), Nat.le_trans hS.2 (by decide), fun s hs => Nat.le_trans (hS.1 s hs).2.1 (by decide), fun s hs => (hS.1 s hs).2.2⟩, ⟨ht, fun x hx => Nat.le_trans (hT.1 x hx).2.1 (by decide), fun x hx => Nat.le_trans (hT.1 x hx).2.2 (by decide)⟩,
    ⟨Nat.le_trans hS.2 (by decide), fun s hs => Nat.le_trans (hS.1 s hs).1 (by decide), fun s hs => Nat.le_trans (hS.1 s hs).2.1 (by decide)⟩⟩
end TwW.Rw
namespace Go.Proofs.YtjfbehbfkjmblaaGreatDoor.evalBack
open Go Tw TwW TwW.Rw Go.ChangeShapes Go.WideShapes Go.ChangeAt Go.RowKit Go.Deep
open Go.Proofs.Tryz (f4 func4 params4)
set_option maxRecDepth 100000
theorem contract (H : Type) (enc : TypeId × Value → H) (W : World) (base : Nat) (args : Array Value) (ds gs : List (DataW H)) (before : List MemPlace)
    (hval : ∀ (j : Nat) t v, f4.params[j]? = some t → args[j]? = some v → Value.okWide prog W .any base t v)
    (hW : DataW.Whole enc prog f4.params.toList Rows.evalBackSpec.vars false W args.toList ds gs before) (hk : Rows.uptoBulkAll (ds ++ gs) ≤ 1048576) (hL : laidMetH prog Laid W) (hsh : W.ShapedOpen prog) :
    Calls prog 4 args W fun e W' => ∃ v, e = .returned v ∧ Rows.evalBackSpec.post enc prog f4 false true false false W args v W' := by
  have hW' := hW
  obtain ⟨p, q, hA0, hV, rfl, hfz, hnd⟩ := hW
  have hA : DataW.TrodAll enc prog W 0 (fun _ => true) true f4.params.toList args.toList ds p := hA0
  rw [params4] at hA hval
  obtain ⟨v0, vs0, d0, ds0, p0, q0, hargs, rfl, rfl, h0, r0⟩ := trodAll_cons hA
  obtain ⟨v1, vs1, d1, ds1, p1, q1, rfl, rfl, rfl, h1, r1⟩ := trodAll_cons r0
  obtain ⟨v2, vs2, d2, ds2, p2, q2, rfl, rfl, rfl, h2, r2⟩ := trodAll_cons r1
  obtain ⟨v3, vs3, d3, ds3, p3, q3, rfl, rfl, rfl, h3, r3⟩ := trodAll_cons r2
  obtain ⟨rfl, rfl, rfl⟩ := trodAll_nil r3
  obtain rfl : args = #[v0, v1, v2, v3] := by cases args; simp_all
  obtain ⟨rfl, rfl⟩ := trodVars_none hV
  simp only [List.append_nil, Rows.uptoBulkAll] at hk
  obtain ⟨a0, n0, c0, T, rfl, hr0, hT⟩ := open_nds (hval 0 22 v0 rfl rfl) h0 (by omega)
  obtain ⟨a1, n1, c1, ss, rfl, hr1, hS⟩ := open_srs (hval 1 23 v1 rfl rfl) h1 (by omega)
  obtain ⟨x2, rfl, rfl, _, w2⟩ := open_int Go.Proofs.Tryz.underlying2 (hval 2 2 v2 rfl rfl) h2
  obtain ⟨x3, rfl, rfl, _, w3⟩ := open_int Go.Proofs.Tryz.underlying3 (hval 3 3 v3 rfl rfl) h3
  obtain ⟨hM, hTO, hSO⟩ := oks hT hS (Nat.le_trans hT.2 (by decide))
  exact law_of (by kernel_rfl) rfl rfl ⟨rfl, rfl, rfl⟩ hW' (back_spec awake_spec (gl_of hL hsh) hr0 hr1 hM hTO hSO fun σ' hx => ⟨rfl, hx⟩)
theorem noInit : Go.Proofs.Tryz.checked.prog.inits.idxOf? 4 = none := by kernel_rfl
theorem witness (os : Os) (started : os.Started) (H : Type) (enc : TypeId × Value → H) : ∃ (w : World) (tape : Tape) (i : Input), w.os = os ∧ (w.forCall tape i).Shaped Go.Proofs.Tryz.checked.prog ∧ i.vars = [] ∧ Input.okWide Go.Proofs.Tryz.checked.prog (w.forCall tape i) .any w.heap.size 4 i ∧
      (Rows.OpenSpec.upto Rows.evalBackSpec).preRow enc Go.Proofs.Tryz.checked.prog f4 Rows.evalBackUptoRow.domain false Rows.evalBackUptoRow.laid (w.forCall tape i).memory i.args ∧ ({} : Assume).holds Go.Proofs.Tryz.checked.prog (lone (Frame.enter Go.Proofs.Tryz.checked.prog 4 i.args .normal) [] (w.forCall tape i)) := by
  obtain ⟨places, hx⟩ := reads os enc
  exact witness_row_atRef (enc := enc) (C := Go.Proofs.Tryz.checked) false (laidWorld os) wArgs rfl (wHv os) (wHr os) (wHok os)
      (OpenSpec.preRow_of_cond 8 hx (by as_aux_lemma => kernel_rfl) (fun k hk => by cases hk; as_aux_lemma => kernel_rfl) (by as_aux_lemma => kernel_rfl) (laid_met os _))
theorem lifted (os : Os) (started : os.Started) (H : Type) (enc : TypeId × Value → H) (F : Stop.Interp) :
    ReturnsInHanded {} Go.Proofs.Tryz.checked os 4 .any ((Rows.OpenSpec.upto Rows.evalBackSpec).preRow enc prog f4 Rows.evalBackUptoRow.domain false Rows.evalBackUptoRow.laid) (((Rows.OpenSpec.upto Rows.evalBackSpec).at F).post enc prog f4 false true false false) := by
  refine returnsInHanded_of_row (C := Go.Proofs.Tryz.checked) (s := Rows.OpenSpec.upto Rows.evalBackSpec) own started noInit func4 (witness os started H enc) ?_
  intro W base args ds gs before hval0 hW _ hcond _ hL hsh _
  exact contract H enc W base args ds gs before hval0 hW (of_decide_eq_true (hcond _ rfl)) hL hsh
end Go.Proofs.YtjfbehbfkjmblaaGreatDoor.evalBack
end
section
namespace TwW
open Go Tw Go.RowKit Go.Proofs.Tryz
def CIn (τ : Hp) (vs : List Value) (x : Sr × Option Addr × Nat) : Prop := ∃ p n c, vs = [.slice p n c, .slice x.2.1 x.1.ps.length x.2.2] ∧ RdL τ p n x.1.ls
theorem CIn.mono : Mono CIn := fun _ _ _ _ hx ⟨p, n, c, hv, h⟩ => ⟨p, n, c, hv, h.mono ELb.mono hx⟩
def OwP (σ : Hp) (q : Option Addr × Nat) (ps : List Pt) : Prop := ∃ cs, Own 2 σ q.1 ps.length q.2 cs ∧ Ch 2 EPt σ cs ps
structure Cpy (τ σ : Hp) (p : Option Addr) (n c : Nat) (ss : List Sr) (qs : List (Option Addr × Nat)) : Prop where
  len : qs.length = ss.length
  own : ∃ cs, Own 2 σ p n c cs ∧ Ch 2 CIn τ cs (ss.zip qs)
  pts : ∀ (i : Nat) (q : Option Addr × Nat) (s : Sr), qs[i]? = some q → ss[i]? = some s → OwP σ q s.ps
  sep : ∀ (i : Nat) (q : Option Addr × Nat), qs[i]? = some q → ∀ a, q.1 = some a → τ a.block = none ∧ ∀ a', p = some a' → a.block ≠ a'.block
  nd : ∀ (i j : Nat) (q r : Option Addr × Nat), qs[i]? = some q → qs[j]? = some r → i ≠ j → ∀ a a', q.1 = some a → r.1 = some a' → a.block ≠ a'.block
  op : ∀ a, p = some a → τ a.block = none
  ext : Ext τ σ
section
variable {σ σ' τ : Hp} {R : Ending → Hp → Prop} {p : Option Addr} {n c : Nat} {ss : List Sr} {qs : List (Option Addr × Nat)}
theorem OwP.mono {q : Option Addr × Nat} {ps : List Pt} (h : OwP σ q ps) (hx : Ext σ σ') : OwP σ' q ps := let ⟨cs, h1, h2⟩ := h; ⟨cs, h1.mono hx, h2.1, h2.2⟩
theorem OwP.here {q : Option Addr × Nat} {ps : List Pt} (h : OwP σ q ps) (hs : ∀ a, q.1 = some a → σ' a.block = σ a.block) : OwP σ' q ps := let ⟨cs, h1, h2⟩ := h; ⟨cs, Own.here h1 hs, h2.1, h2.2⟩
theorem OwP.known {q : Option Addr × Nat} {ps : List Pt} (h : OwP σ q ps) : ∀ a, q.1 = some a → σ a.block ≠ none := let ⟨cs, h1, h2⟩ := h; h1.block
theorem OwP.rd {q : Option Addr × Nat} {ps : List Pt} (h : OwP σ q ps) : RdS 2 EPt σ q.1 ps.length ps ∧ ps.length ≤ q.2 := let ⟨cs, h1, h2⟩ := h; ⟨⟨rfl, cs, h1.rd, h2⟩, Own.cap h1⟩
theorem Cpy.n_eq (h : Cpy τ σ p n c ss qs) : ss.length = n := by
  obtain ⟨cs, h1, h2⟩ := h.own
  have a1 := h1.1
  have a2 := h2.1
  rw [List.length_zip, h.len, Nat.min_self] at a2
  omega
theorem Cpy.qat (h : Cpy τ σ p n c ss qs) {i : Nat} {s : Sr} (hs : ss[i]? = some s) : ∃ q, qs[i]? = some q := ⟨_, List.getElem?_eq_getElem (by rw [h.len]; exact (List.getElem?_eq_some_iff.1 hs).1)⟩
theorem Cpy.rd (h : Cpy τ σ p n c ss qs) : RdS 2 ESr σ p n ss := by
  obtain ⟨cs, h1, h2⟩ := h.own
  have hn := h.n_eq
  refine ⟨hn, cs, h1.rd, by rw [h1.1, hn], fun i s hs => ?_⟩
  obtain ⟨q, hq⟩ := h.qat hs
  obtain ⟨p1, n1, c1, hv, hrl⟩ := h2.2 i (s, q) (List.getElem?_zip_eq_some.2 ⟨hs, hq⟩)
  obtain ⟨hr, hc⟩ := (h.pts i q s hq hs).rd
  exact ⟨p1, n1, c1, q.1, s.ps.length, q.2, hv, hrl.mono ELb.mono h.ext, hr, hc⟩
theorem Cpy.at (h : Cpy τ σ p n c ss qs) {i : Nat} {s : Sr} (hs : ss[i]? = some s) : ∃ b o q, p = some ⟨b, o, none⟩ ∧ qs[i]? = some q ∧ σ.ld ⟨b, o + i * 2 + 1, none⟩ = some (.slice q.1 s.ps.length q.2) := by
  obtain ⟨q, hq⟩ := h.qat hs
  obtain ⟨cs, h1, h2⟩ := h.own
  have hr : RdS 2 (fun _ vs (x : Sr × Option Addr × Nat) => ∃ p n c, vs = [.slice p n c, .slice x.2.1 x.1.ps.length x.2.2]) σ p n (ss.zip qs) := ⟨by rw [List.length_zip, h.len, Nat.min_self]; exact h.n_eq, cs, h1.rd, h2.1, fun j x hx => by
    obtain ⟨p1, n1, c1, hv, _⟩ := h2.2 j x hx
    exact ⟨p1, n1, c1, hv⟩⟩
  obtain ⟨b, o, vs, hp, ⟨p1, n1, c1, rfl⟩, hl⟩ := RdS.idx hr (x := (s, q)) (List.getElem?_zip_eq_some.2 ⟨hs, hq⟩)
  exact ⟨b, o, q, hp, hq, hl.2.1⟩
theorem Cpy.pt (h : Cpy τ σ p n c ss qs) {i k : Nat} {s : Sr} {q : Option Addr × Nat} {x : Pt} (hs : ss[i]? = some s) (hq : qs[i]? = some q) (hx : s.ps[k]? = some x) : ∃ b o, q.1 = some ⟨b, o, none⟩ ∧ σ.ld ⟨b, o + k * 2, none⟩ = some (.int .i64 x.1) := by
  obtain ⟨b, o, hp, hl⟩ := EPt.at (h.pts i q s hq hs).rd.1 hx
  exact ⟨b, o, hp, hl.1⟩
theorem Cpy.upd {i k b o : Nat} {s : Sr} {q : Option Addr × Nat} {x : Pt} {t : Int} {Φ : Unit → Hp → Prop} (h : Cpy τ σ p n c ss qs) (hs : ss[i]? = some s) (hq : qs[i]? = some q) (hx : s.ps[k]? = some x) (hqb : q.1 = some ⟨b, o, none⟩)
    (hΦ : ∀ σ', Cpy τ σ' p n c (ss.set i ⟨s.ls, s.ps.set k (t, x.2)⟩) qs → Φ () σ') : Eff prog (Instr.storeAt 2 (.pointer (some ⟨b, o + k * 2, none⟩)) (.int .i64 t)) σ Φ := by
  obtain ⟨cs, h1, h2⟩ := h.own
  obtain ⟨ds, g1, g2⟩ := h.pts i q s hq hs
  have hk := (List.getElem?_eq_some_iff.1 hx).1
  have hi := (List.getElem?_eq_some_iff.1 hs).1
  rw [hqb] at g1
  refine Own.store1 g1 (by omega) size2i rfl rfl fun obj g3 => hΦ _ ⟨by rw [List.length_set]; exact h.len, ⟨cs, Own.here h1 fun a ha => Hp.set_ne fun e => (h.sep i q hq _ hqb).2 a ha e.symm, ?_, fun j y hy => ?_⟩, fun j r u hr hu => ?_, h.sep, h.nd, h.op, fun y u hy => ?_⟩
  · rw [h2.1, List.length_zip, List.length_zip, List.length_set]
  · obtain ⟨y1, y2⟩ := y
    obtain ⟨hy1, hy2⟩ := List.getElem?_zip_eq_some.1 hy
    by_cases hij : i = j
    · subst hij
      rw [List.getElem?_set_self hi] at hy1
      obtain rfl := Option.some.inj hy1
      obtain rfl : q = y2 := Option.some.inj (hq.symm.trans hy2)
      obtain ⟨p1, n1, c1, hv, hrl⟩ := h2.2 i (s, q) (List.getElem?_zip_eq_some.2 ⟨hs, hq⟩)
      exact ⟨p1, n1, c1, by rw [hv, List.length_set], hrl⟩
    · rw [List.getElem?_set_ne hij] at hy1
      exact h2.2 j (y1, y2) (List.getElem?_zip_eq_some.2 ⟨hy1, hy2⟩)
  · by_cases hij : i = j
    · subst hij
      rw [List.getElem?_set_self hi] at hu
      cases hu
      rw [hq] at hr; cases hr
      refine ⟨_, by rw [hqb, List.length_set]; exact g3, by rw [List.length_set, List.length_set]; exact g2.1, fun l y hy => ?_⟩
      rw [show k * 2 = k * 2 + 0 from rfl, chunk_set (by decide)]
      by_cases hkl : k = l
      · subst hkl
        rw [if_pos rfl]
        rw [List.getElem?_set_self hk] at hy
        cases hy
        have := g2.2 k x hx
        rw [show (ds.drop (k * 2)).take 2 = [.int .i64 x.1, .int .u64 x.2] from this]
        rfl
      · rw [if_neg hkl]
        rw [List.getElem?_set_ne hkl] at hy
        exact g2.2 l y hy
    · rw [List.getElem?_set_ne hij] at hu
      exact (h.pts j r u hr hu).here fun a ha => Hp.set_ne fun e => h.nd i j q r hq hr hij _ a hqb ha e.symm
  · rw [Hp.set_ne fun e => by rw [e, (h.sep i q hq _ hqb).1] at hy; cases hy]
    exact h.ext _ _ hy
theorem Ans.cpy {t : Int} {l : List El} {bs : List Nat} (h : Ans t τ σ p n c l bs) : Cpy τ σ p n c (l.map fun e => ⟨e.ls, [(t, e.v)]⟩) (bs.map fun b => (aD b 0, 1)) := by
  obtain ⟨cs, h1, h2⟩ := h.own
  have bq : ∀ {i : Nat} {q : Option Addr × Nat}, (bs.map fun b => ((aD b 0 : Option Addr), 1))[i]? = some q → ∃ b, bs[i]? = some b ∧ q = (aD b 0, 1) := fun {i q} hq => by
    rw [List.getElem?_map] at hq
    cases hb : bs[i]? with
    | none => rw [hb] at hq; cases hq
    | some b => rw [hb] at hq; cases hq; exact ⟨b, rfl, rfl⟩
  have le : ∀ {i : Nat} {s : Sr}, (l.map fun e => (⟨e.ls, [(t, e.v)]⟩ : Sr))[i]? = some s → ∃ e, l[i]? = some e ∧ s = ⟨e.ls, [(t, e.v)]⟩ := fun {i s} hs => by
    rw [List.getElem?_map] at hs
    cases he : l[i]? with
    | none => rw [he] at hs; cases hs
    | some e => rw [he] at hs; cases hs; exact ⟨e, rfl, rfl⟩
  refine ⟨by rw [List.length_map, List.length_map]; exact h.len, ⟨cs, h1, ?_, fun i y hy => ?_⟩, fun i q s hq hs => ?_, fun i q hq a ha => ?_, fun i j q r hq hr hij a a' ha ha' e => ?_, fun a ha => (h.op a ha).1, h.ext⟩
  · rw [h2.1, List.length_zip, List.length_zip, List.length_map, List.length_map]
  · obtain ⟨y1, y2⟩ := y
    obtain ⟨hy1, hy2⟩ := List.getElem?_zip_eq_some.1 hy
    obtain ⟨b, hb, rfl⟩ := bq hy2
    obtain ⟨e, he, rfl⟩ := le hy1
    obtain ⟨p1, n1, c1, hv, hrl⟩ := h2.2 i (e, b) (List.getElem?_zip_eq_some.2 ⟨he, hb⟩)
    exact ⟨p1, n1, c1, hv, hrl⟩
  · obtain ⟨b, hb, rfl⟩ := bq hq
    obtain ⟨e, he, rfl⟩ := le hs
    exact ⟨[.int .i64 t, .int .u64 e.v], ⟨rfl, (by decide : 1 ≤ 4611686018427387904), .inr ⟨b, 0, _, _, rfl, h.pts i b e hb he, Nat.le_refl 1, (by decide : 0 + 1 * 2 ≤ 2), rfl⟩⟩, rfl, fun j y hy => by
      cases j with
      | zero => cases hy; rfl
      | succ j => simp at hy⟩
  · obtain ⟨b, hb, rfl⟩ := bq hq
    cases ha
    have hm := List.mem_of_getElem? hb
    exact ⟨h.tb b hm, fun a' ha' e => (h.op a' ha').2 (e ▸ hm)⟩
  · obtain ⟨b, hb, rfl⟩ := bq hq
    obtain ⟨b', hb', rfl⟩ := bq hr
    cases ha; cases ha'
    exact hij ((List.getElem?_inj (List.getElem?_eq_some_iff.1 hb).1 h.nd).1 (by rw [hb, hb', show b = b' from e]))
end
end TwW
end
section
namespace TwW
open Go Tw Go.RowKit Go.Proofs.Tryz
theorem get_snoc {α : Type} {l : List α} {x y : α} {i : Nat} (h : (l ++ [x])[i]? = some y) : (l[i]? = some y ∧ i < l.length) ∨ (i = l.length ∧ y = x) := by
  rw [List.getElem?_append] at h
  split at h
  · exact .inl ⟨h, by assumption⟩
  · rename_i hlt
    cases hj : i - l.length with
    | zero => rw [hj] at h; cases h; exact .inr ⟨by omega, rfl⟩
    | succ j => rw [hj] at h; simp at h
section
variable {σ σ' τ : Hp} {R : Ending → Hp → Prop} {p : Option Addr} {n c : Nat} {ss : List Sr} {qs : List (Option Addr × Nat)}
theorem Cpy.nil (hx : Ext τ σ) : Cpy τ σ none 0 0 [] [] := ⟨rfl, ⟨[], Own.nil, by simp [Ch]⟩, fun i q s hq => (by simp at hq), fun i q hq => (by simp at hq), fun i j q r hq => (by simp at hq), fun a ha => (by cases ha), hx⟩
theorem Cpy.add {pl q : Option Addr} {nl cl m cq b : Nat} {s : Sr} {y1 y : Hp} {Φ : Value → Hp → Prop} (h : Cpy τ σ p n c ss qs) (hy : Ext σ y1) (hrl : RdL (σ.new y1) pl nl s.ls) (hx2 : Ext y1 y) (hop : OwnL 2 EPt (y1.new y) q m cq s.ps) (hb : y b = none) (hn : n ≤ 1000000000000)
    (hΦ : ∀ τ' p' c' σ', Cpy τ' σ' p' (n + 1) c' (ss ++ [s]) (qs ++ [(q, cq)]) → Ext τ τ' → Φ (.slice p' (n + 1) c') σ') :
    Eff prog (Builtin.append_ #[23, 23] 23 #[.slice p n c, .slice (aD b 0) 1 1]) (y.set b (.cells #[.slice pl nl cl, .slice q m cq] 33 (0, 0))) Φ := by
  obtain ⟨cs, h1, h2⟩ := h.own
  obtain ⟨hm, ds, hoq, hch⟩ := hop
  subst hm
  have xb := Ext.set (o := .cells #[.slice pl nl cl, .slice q s.ps.length cq] 33 (0, 0)) hb
  have X := hy.trans (hx2.trans xb)
  have hz : (ss.zip qs).length = ss.length := by rw [List.length_zip, h.len, Nat.min_self]
  refine app_eff (h1.mono X) (q := aD b 0) (ys := [.slice pl nl cl, .slice q s.ps.length cq]) ⟨rfl, by omega, .inr ⟨b, 0, rfl, LdL.of_cells (c := [.slice pl nl cl, .slice q s.ps.length cq]) (Hp.set_same _ _ _)⟩⟩ (fun u hu => by
    simp only [List.mem_cons, List.not_mem_nil, or_false] at hu
    rcases hu with rfl | rfl <;> rfl) (by omega) fun p' c' σ5 ho5 hx5 => ?_
  have T : ∀ k, (y.set b (.cells #[.slice pl nl cl, .slice q s.ps.length cq] 33 (0, 0))) k ≠ none → (∀ a, p = some a → k ≠ a.block) → σ5 k = (y.set b (.cells #[.slice pl nl cl, .slice q s.ps.length cq] 33 (0, 0))) k ∧ ∀ a, p' = some a → k ≠ a.block := fun k hk hne => by
    cases hh : (y.set b (.cells #[.slice pl nl cl, .slice q s.ps.length cq] 33 (0, 0))) k with
    | none => exact absurd hh hk
    | some u =>
      obtain ⟨a1, a2⟩ := del_some.1 (hx5 k u (del_some.2 ⟨hne, hh⟩))
      exact ⟨a2, a1⟩
  have up : ∀ {k : Nat} {A B : Hp}, Ext A B → A k ≠ none → B k ≠ none := fun {k A B} hx hk => by
    cases hh : A k with
    | none => exact absurd hh hk
    | some u => rw [hx _ _ hh]; simp
  have tt : Ext τ (τ.or (σ.new y1)) := Ext.or_l _ _
  have nt : Ext (σ.new y1) (τ.or (σ.new y1)) := Ext.or_r fun k hk => by
    cases hh : τ k with
    | none => rfl
    | some u =>
      have h3 := h.ext _ _ hh
      cases h4 : (σ.new y1) k with
      | none => exact absurd h4 hk
      | some v => rw [(new_some.1 h4).1] at h3; cases h3
  have kn : ∀ k, σ k ≠ none → τ k = none → (τ.or (σ.new y1)) k = none := fun k hu hk => by
    rw [Hp.or_r hk]
    cases hh : (σ.new y1) k with
    | none => rfl
    | some v => exact absurd (new_some.1 hh).1 hu
  have tn : ∀ k, y1 k = none → (τ.or (σ.new y1)) k = none := fun k hk => by
    rw [Hp.or_r (ext_none h.ext (ext_none hy hk))]
    cases hh : (σ.new y1) k with
    | none => rfl
    | some v => rw [(new_some.1 hh).2] at hk; cases hk
  have e1 : Ext (τ.or (σ.new y1)) y1 := Ext.or_of (h.ext.trans hy) (Ext.of_new _ _)
  have pk : ∀ a, p = some a → σ a.block ≠ none := h1.block
  have hq1 : ∀ a, q = some a → y1 a.block = none ∧ y a.block ≠ none := fun a ha => by
    have := hoq.block a ha
    cases hh : (y1.new y) a.block with
    | none => exact absurd hh this
    | some u => obtain ⟨g1, g2⟩ := new_some.1 hh; exact ⟨g1, by rw [g2]; simp⟩
  have hE5 : Ext (τ.or (σ.new y1)) σ5 := fun k u hk => by
    have hyk := (hx2.trans xb) _ _ (e1 _ _ hk)
    rw [(T k (by rw [hyk]; simp) fun a ha e => by rw [e, kn a.block (pk a ha) (h.op a ha)] at hk; cases hk).1]; exact hyk
  have old : ∀ (i : Nat) (r : Option Addr × Nat), qs[i]? = some r → ∀ a, r.1 = some a → σ a.block ≠ none ∧ τ a.block = none ∧ (∀ a', p = some a' → a.block ≠ a'.block) := fun i r hr a ha => by
    obtain ⟨g1, g2⟩ := h.sep i r hr a ha
    have hlt : i < ss.length := by rw [← h.len]; exact (List.getElem?_eq_some_iff.1 hr).1
    exact ⟨(h.pts i r _ hr (List.getElem?_eq_getElem hlt)).known a ha, g1, g2⟩
  have qp : ∀ a, q = some a → ∀ a', p = some a' → a.block ≠ a'.block := fun a ha a' ha' e => by
    have := (hq1 a ha).1
    exact up hy (pk a' ha') (e ▸ this)
  refine hΦ (τ.or (σ.new y1)) p' c' σ5 ⟨by simp [h.len], ⟨_, ho5, ?_⟩, fun i r u hr hu => ?_, fun i r hr a ha => ?_, fun i j r r' hr hr' hij a a' ha ha' => ?_, fun a ha => ?_, hE5⟩ tt
  · rw [List.zip_append h.len.symm]
    exact (h2.mono CIn.mono tt).snoc rfl ⟨pl, nl, cl, rfl, hrl.mono ELb.mono nt⟩
  · rcases get_snoc hr with ⟨hr, hlt⟩ | ⟨hi, rfl⟩
    · rcases get_snoc hu with ⟨hu, _⟩ | ⟨hi, _⟩
      · refine ((h.pts i r u hr hu).mono X).here fun a ha => ?_
        obtain ⟨g1, _, g3⟩ := old i r hr a ha
        exact (T a.block (up X g1) g3).1
      · have := h.len; omega
    · rcases get_snoc hu with ⟨_, hlt⟩ | ⟨_, rfl⟩
      · have := h.len; omega
      · refine OwP.here (σ := y.set b _) ⟨ds, (hoq.mono (Ext.of_new _ _)).mono xb, hch.1, hch.2⟩ fun a ha => ?_
        exact (T a.block (up xb (hq1 a ha).2) (qp a ha)).1
  · rcases get_snoc hr with ⟨hr, hlt⟩ | ⟨hi, rfl⟩
    · obtain ⟨g1, g2, g3⟩ := old i r hr a ha
      exact ⟨kn _ g1 g2, fun a' ha' e => (T a.block (up X g1) g3).2 a' ha' e⟩
    · exact ⟨tn _ (hq1 a ha).1, fun a' ha' e => (T a.block (up xb (hq1 a ha).2) (qp a ha)).2 a' ha' e⟩
  · rcases get_snoc hr with ⟨hr, _⟩ | ⟨hi, rfl⟩ <;> rcases get_snoc hr' with ⟨hr', _⟩ | ⟨hi', rfl⟩
    · exact h.nd i j r r' hr hr' hij a a' ha ha'
    · exact fun e => up hy (old i r hr a ha).1 (e ▸ (hq1 a' ha').1)
    · exact fun e => up hy (old j r' hr' a' ha').1 (e ▸ (hq1 a ha).1)
    · omega
  · cases hh : (τ.or (σ.new y1)) a.block with
    | none => rfl
    | some u =>
      exfalso
      have hyk := (hx2.trans xb) _ _ (e1 _ _ hh)
      exact (T a.block (by rw [hyk]; simp) fun a' ha' e => by rw [e, kn a'.block (pk a' ha') (h.op a' ha')] at hh; cases hh).2 a ha rfl
theorem cSeriesC_spec (hr : RdS 2 ESr σ p n ss) (hS : SOk ss) (h : ∀ τ p' c' σ' qs, Ext σ τ → Cpy τ σ' p' n c' ss qs → R (.returned (.slice p' n c')) σ') : Spec prog 8 #[.slice p n c] σ R := by
  have hl : ss.length = n := hr.1
  have ht := hS.s
  refine law0_CopySeries.start ?_
  suffices H : ∀ g i : Nat, ∀ τ p3 n3 c3 σ' qs, n - i = g → i ≤ n → Ext σ τ → Cpy τ σ' p3 n3 c3 (ss.take i) qs → law0_CopySeries.pt11 R p n c p3 n3 c3 i σ' from H n 0 σ none 0 0 σ [] rfl (Nat.zero_le _) (.refl _) (Cpy.nil (.refl _))
  intro g
  induction g with
  | zero =>
    intro i τ p3 n3 c3 σ' qs hg hi hx0 ho
    rw [List.take_of_length_le (by omega)] at ho
    have hn3 : n = n3 := hl.symm.trans ho.n_eq
    subst hn3
    exact law0_CopySeries.pt11_of ⟨fun hlt => by omega, fun _ => h τ p3 c3 σ' qs hx0 ho⟩
  | succ g ih =>
    intro i τ p3 n3 c3 σ' qs hg hi hx0 ho
    have hi' : i < n := by omega
    obtain ⟨x, hx⟩ := hr.ex hi'
    obtain ⟨b, o, p1, k1, c1, q1, m1, d1, rfl, hld, hls, hps, hmd⟩ := ESr.at hr hx
    have hxm := List.mem_of_getElem? hx
    have a1 := hS.ls x hxm
    have a2 := hS.ps x hxm
    have a3 : x.ls.length = k1 := hls.1
    have a4 : x.ps.length = m1 := hps.1
    have hn3 : n3 = i := by have := ho.n_eq; rw [List.length_take] at this; omega
    have hup := hx0.trans ho.ext
    have hld' := hld.mono hup
    exact law0_CopySeries.pt11_of ⟨fun _ => ⟨b, o, rfl, by omega, p1, k1, c1, by simpa using hld'.1, by omega, q1, m1, d1, by simpa using hld'.2.1, cLabels_spec (hls.mono ELb.mono hup) (by omega) fun p4 c4 σ2 hr2 hx2 => ⟨_, _, _, rfl, Kp.of_ext hx2, cPoints_spec ((hps.mono EPt.mono hup).mono EPt.mono hx2) (by omega) fun p5 c5 σ3 hr3 hx3 => ⟨_, _, _, rfl, fun b26 hb26 => Cpy.add ho hx2 hr2 hx3 hr3 hb26 (by omega) fun τ' p' c' σ4 ho4 htt => ⟨_, _, _, rfl, i64_succ hi' hr.big, ih (i + 1) _ _ _ _ _ _ (by omega) (by omega) (hx0.trans htt) (by rw [take_succ' hx]; exact ho4)⟩⟩⟩⟩, fun hh => by omega⟩
theorem sameS_spec {q : Option Addr} {m d : Nat} (h1 : RdS 2 ESr σ p n ss) (h2 : RdS 2 ESr σ q m ss) (hR : R (.returned (.bool true)) σ) : Spec prog 9 #[.slice p n c, .slice q m d] σ R := by
  have e1 : ss.length = n := h1.1
  have e2 : ss.length = m := h2.1
  refine law0_SameSeries.start ⟨fun hne => absurd (by omega) hne, fun _ => ?_⟩
  suffices H : ∀ d' i : Nat, n - i = d' → i ≤ n → law0_SameSeries.pt17 R p n c q m d i σ from H n 0 rfl (Nat.zero_le _)
  intro d'
  induction d' with
  | zero => exact fun i hd hi => law0_SameSeries.pt17_of ⟨fun hlt => by omega, fun _ => hR⟩
  | succ d' ih =>
    intro i hd hi
    obtain ⟨x, hx⟩ := h1.ex (show i < n by omega)
    obtain ⟨b, o, p1, k1, c1, q1, m1, d1, rfl, l1, hls1, hps1, _⟩ := ESr.at h1 hx
    obtain ⟨b', o', p2, k2, c2, q2, m2, d2, rfl, l2, hls2, hps2, _⟩ := ESr.at h2 hx
    exact law0_SameSeries.pt17_of ⟨fun _ => ⟨b, o, rfl, by omega, p1, k1, c1, by simpa using l1.1, b', o', rfl, by omega, p2, k2, c2, by simpa using l2.1, sameL_spec hls1 hls2 ⟨_, rfl, fun hh => (by cases hh), fun _ => ⟨by omega, q1, m1, d1, by simpa using l1.2.1, by omega, q2, m2, d2, by simpa using l2.2.1, samePt_spec hps1 hps2 ⟨_, rfl, fun hh => (by cases hh), fun _ => ⟨i64_succ (by omega) h1.big, ih (i + 1) (by omega) (by omega)⟩⟩⟩⟩⟩, fun hh => by omega⟩
end
end TwW
end
section
namespace TwW
open Go Tw Go.RowKit Go.Proofs.Tryz
theorem ris_mov (d : Int) : ∀ ps : List Pt, risF (ps.map fun p => (p.1 + d, p.2)) = risF ps
  | [] => rfl
  | [_] => rfl
  | a :: b :: l => by
    have ih := ris_mov d (b :: l)
    simp only [List.map_cons] at ih ⊢
    show (decide (a.1 + d < b.1 + d) && risF ((b.1 + d, b.2) :: l.map fun p => (p.1 + d, p.2))) = (decide (a.1 < b.1) && risF (b :: l))
    rw [ih, decide_eq_decide.2 (show a.1 + d < b.1 + d ↔ a.1 < b.1 by omega)]
theorem oks_mov (d : Int) : ∀ (ss : List Sr) (q : Option (List Lb)), okSs q (ss.map (movS d)) = okSs q ss
  | [], q => by cases q <;> rfl
  | s :: l, q => by
    rw [List.map_cons, okSs_cons, okSs_cons]
    show (decide (chkL s.ls = 0) && risF (s.ps.map fun p => (p.1 + d, p.2)) && _ && okSs (some s.ls) (l.map (movS d))) = _
    rw [ris_mov, oks_mov d l]
    cases q <;> rfl
theorem inst_mov {T : List Nd} {ss : List Sr} {t d : Int} (ht : -274877906944 ≤ t ∧ t ≤ 274877906944) (hd : -1073741824 < d ∧ d < 1073741824) : instF T (ss.map (movS d)) (t + d) = instF T ss t := by
  have ha : asksE T (ss.map (movS d)) = asksE T ss := by unfold asksE; rw [oks_mov]
  unfold instF
  rw [ha, moment_mov]
  by_cases h0 : asksE T ss ≠ 0
  · rw [if_pos h0, if_pos h0]
  · rw [if_neg h0, if_neg h0, if_neg (by omega), if_neg (by omega)]
theorem inst_no {T : List Nd} {ss : List Sr} {t : Int} (h : (instF T ss t).1 ≠ 0) : (instF T ss t).2 = [] := by
  unfold instF at h ⊢
  split
  · rfl
  · rename_i h0
    rw [if_neg h0] at h
    split
    · rfl
    · rename_i h1
      rw [if_neg h1] at h
      cases hm : momentF FF T ss t with
      | none => rfl
      | some l => rw [hm] at h; exact absurd rfl h
def ansS (T : List Nd) (ss : List Sr) (t : Int) : List Sr := (instF T ss t).2.map fun e => ⟨e.ls, [(t, e.v)]⟩
def mixP (d : Int) (k : Nat) (ps : List Pt) : List Pt := ps.mapIdx fun l p => if l < k then (p.1 + d, p.2) else p
def mixS (d : Int) (i k : Nat) (ss : List Sr) : List Sr := ss.mapIdx fun j s => if j < i then movS d s else if j = i then ⟨s.ls, mixP d k s.ps⟩ else s
section
variable {d : Int} {i k : Nat} {ss : List Sr} {s : Sr} {ps : List Pt} {x : Pt}
theorem mixP_len : (mixP d k ps).length = ps.length := by unfold mixP; simp
theorem mixP_get (h : ps[k]? = some x) : (mixP d k ps)[k]? = some x := by unfold mixP; rw [List.getElem?_mapIdx, h]; simp
theorem mixP_0 : mixP d 0 ps = ps := by unfold mixP; refine List.ext_getElem? fun l => ?_; rw [List.getElem?_mapIdx]; cases ps[l]? <;> simp
theorem mixP_all : mixP d ps.length ps = ps.map fun p => (p.1 + d, p.2) := by
  unfold mixP
  refine List.ext_getElem? fun l => ?_
  rw [List.getElem?_mapIdx, List.getElem?_map]
  cases hl : ps[l]? with
  | none => rfl
  | some p => simp only [Option.map_some]; rw [if_pos (List.getElem?_eq_some_iff.1 hl).1]
theorem mixP_set (h : ps[k]? = some x) : (mixP d k ps).set k (x.1 + d, x.2) = mixP d (k + 1) ps := by
  refine List.ext_getElem? fun l => ?_
  by_cases hkl : k = l
  · subst hkl
    rw [List.getElem?_set_self (by rw [mixP_len]; exact (List.getElem?_eq_some_iff.1 h).1)]
    unfold mixP
    rw [List.getElem?_mapIdx, h]
    simp
  · rw [List.getElem?_set_ne hkl]
    unfold mixP
    rw [List.getElem?_mapIdx, List.getElem?_mapIdx]
    cases ps[l]? with
    | none => rfl
    | some p =>
      simp only [Option.map_some]
      by_cases hl : l < k
      · rw [if_pos hl, if_pos (by omega)]
      · rw [if_neg hl, if_neg (by omega)]
theorem mixS_get (h : ss[i]? = some s) : (mixS d i k ss)[i]? = some ⟨s.ls, mixP d k s.ps⟩ := by unfold mixS; rw [List.getElem?_mapIdx, h]; simp
theorem mixS_len : (mixS d i k ss).length = ss.length := by unfold mixS; simp
theorem mixS_0 : mixS d 0 0 ss = ss := by
  unfold mixS
  refine List.ext_getElem? fun l => ?_
  rw [List.getElem?_mapIdx]
  cases ss[l]? with
  | none => rfl
  | some s => simp only [Option.map_some, Nat.not_lt_zero, if_false, mixP_0]; split <;> rfl
theorem mixS_end {n : Nat} (h : ss.length ≤ n) : mixS d n 0 ss = ss.map (movS d) := by
  unfold mixS
  refine List.ext_getElem? fun l => ?_
  rw [List.getElem?_mapIdx, List.getElem?_map]
  cases hl : ss[l]? with
  | none => rfl
  | some s => simp only [Option.map_some]; rw [if_pos (by have := (List.getElem?_eq_some_iff.1 hl).1; omega)]
theorem mixS_next (h : ss[i]? = some s) : mixS d i s.ps.length ss = mixS d (i + 1) 0 ss := by
  unfold mixS
  refine List.ext_getElem? fun l => ?_
  rw [List.getElem?_mapIdx, List.getElem?_mapIdx]
  cases hl : ss[l]? with
  | none => rfl
  | some u =>
    simp only [Option.map_some]
    by_cases h1 : l < i
    · rw [if_pos h1, if_pos (by omega)]
    · by_cases h2 : l = i
      · subst h2
        rw [h] at hl; cases hl
        rw [if_neg h1, if_pos rfl, if_pos (by omega), mixP_all]; rfl
      · rw [if_neg h1, if_neg h2, if_neg (by omega), mixP_0]; split <;> rfl
theorem mixS_set (h : ss[i]? = some s) (hx : s.ps[k]? = some x) : (mixS d i k ss).set i ⟨s.ls, (mixP d k s.ps).set k (x.1 + d, x.2)⟩ = mixS d i (k + 1) ss := by
  rw [mixP_set hx]
  refine List.ext_getElem? fun l => ?_
  by_cases hil : i = l
  · subst hil
    rw [List.getElem?_set_self (by rw [mixS_len]; exact (List.getElem?_eq_some_iff.1 h).1), mixS_get h]
  · rw [List.getElem?_set_ne hil]
    unfold mixS
    rw [List.getElem?_mapIdx, List.getElem?_mapIdx]
    cases ss[l]? with
    | none => rfl
    | some u => simp only [Option.map_some]; rw [if_neg (show ¬ l = i from fun e => hil e.symm), if_neg (show ¬ l = i from fun e => hil e.symm)]
end
end TwW
end
section
namespace TwW
open Go Tw Go.RowKit Go.Proofs.Tryz
section
variable {σ σ0 : Hp} {R : Ending → Hp → Prop}
theorem unmove_spec {τ : Hp} {p10 p16 : Option Addr} {n10 c10 n16 c16 : Nat} {d e f : Int} {A S : List Sr} {qs : List (Option Addr × Nat)} (hA : RdS 2 ESr σ0 p10 n10 A) (hx0 : Ext σ0 τ) (hC : Cpy τ σ p16 n16 c16 S qs) (hb : ∀ s ∈ S, ∀ p ∈ s.ps, I64 (p.1 - d)) (hS : S.map (movS (-d)) = A) (hef : e = f)
    (hR : ∀ σ', Ext σ0 σ' → Spec prog 5 #[] σ' (Cont R (CB fun t148 y_2 => R (.returned (.bool t148)) y_2))) :
    law22_EvalShift.pt71 R d p10 n10 c10 e p16 n16 c16 f 0 σ := by
  have hn := hC.n_eq
  have hbig := hC.rd.big
  suffices H : ∀ g i : Nat, ∀ σ', n16 - i = g → i ≤ n16 → Cpy τ σ' p16 n16 c16 (mixS (-d) i 0 S) qs → law22_EvalShift.pt71 R d p10 n10 c10 e p16 n16 c16 f i σ' from H n16 0 σ rfl (Nat.zero_le _) (by rw [mixS_0]; exact hC)
  intro g
  induction g with
  | zero =>
    intro i σ' hg hi h
    have hin : i = n16 := by omega
    subst hin
    rw [mixS_end (by omega), hS] at h
    have hx := hx0.trans h.ext
    exact law22_EvalShift.pt71_of ⟨fun hlt => by omega, fun _ => ⟨fun _ => sameS_spec (hA.mono ESr.mono hx) h.rd ⟨_, rfl, fun _ => hR σ' hx, fun hh => by cases hh⟩, fun hh => absurd hef hh⟩⟩
  | succ g ih =>
    intro i σ' hg hi h
    have hi' : i < n16 := by omega
    obtain ⟨s, hs⟩ : ∃ s, S[i]? = some s := ⟨_, List.getElem?_eq_getElem (by omega)⟩
    refine law22_EvalShift.pt71_of ⟨fun _ => ?_, fun hh => by omega⟩
    suffices K : ∀ g' k : Nat, ∀ σ2, s.ps.length - k = g' → k ≤ s.ps.length → Cpy τ σ2 p16 n16 c16 (mixS (-d) i k S) qs → law22_EvalShift.pt83 R d p10 n10 c10 e p16 n16 c16 f i k σ2 from K s.ps.length 0 σ' rfl (Nat.zero_le _) h
    intro g'
    induction g' with
    | zero =>
      intro k σ2 hg' hk h2
      obtain ⟨b, o, q, rfl, hq, hl⟩ := h2.at (mixS_get hs)
      rw [mixP_len] at hl
      have hke : k = s.ps.length := by omega
      subst hke
      rw [mixS_next hs] at h2
      exact law22_EvalShift.pt83_of ⟨b, o, rfl, by omega, q.1, s.ps.length, q.2, by simpa using hl, fun hlt => by omega, fun _ => ⟨i64_succ hi' hbig, ih (i + 1) σ2 (by omega) (by omega) h2⟩⟩
    | succ g' ihk =>
      intro k σ2 hg' hk h2
      obtain ⟨b, o, q, rfl, hq, hl⟩ := h2.at (mixS_get hs)
      rw [mixP_len] at hl
      have hk' : k < s.ps.length := by omega
      have hsb := (h2.pts i q _ hq (mixS_get hs)).rd.1.big
      simp only [mixP_len] at hsb
      obtain ⟨x, hx⟩ : ∃ x, s.ps[k]? = some x := ⟨_, List.getElem?_eq_getElem hk'⟩
      obtain ⟨b2, o2, hqb, hl2⟩ := h2.pt (mixS_get hs) hq (mixP_get hx)
      have hbx := hb s (List.mem_of_getElem? hs) x (List.mem_of_getElem? hx)
      have hl' : σ2.ld ⟨b, o + Int.toNat (i : Int) * 2 + 1, none⟩ = some (.slice q.1 s.ps.length q.2) := by simpa using hl
      refine law22_EvalShift.pt83_of ⟨b, o, rfl, by omega, q.1, s.ps.length, q.2, hl', fun _ => ⟨by omega, q.1, s.ps.length, q.2, hl', by omega, q.1, s.ps.length, q.2, hl', b2, o2, hqb, by omega, x.1, by simpa using hl2, hbx, b2, o2, hqb, by omega, ?_⟩, fun hh => by omega⟩
      rw [Int.toNat_natCast]
      refine h2.upd (mixS_get hs) hq (mixP_get hx) hqb fun σ3 h3 => ⟨i64_succ hk' hsb, ?_⟩
      have h3 : Cpy τ σ3 (some ⟨b, o, none⟩) n16 c16 ((mixS (-d) i k S).set i ⟨s.ls, (mixP (-d) k s.ps).set k (x.1 + -d, x.2)⟩) qs := h3
      rw [mixS_set hs hx] at h3
      exact ihk (k + 1) σ3 (by omega) (by omega) h3
theorem move_spec {τ : Hp} {p p10 p12 : Option Addr} {n c n10 c10 n12 c12 : Nat} {t d : Int} {T : List Nd} {ss : List Sr} {qs : List (Option Addr × Nat)} (hawk : Awk) (hg : Gl σ0) (hr : RdS 10 ENd σ0 p n T) (hM : Modest T ss) (hT : TOk T) (ht : -274877906944 ≤ t ∧ t ≤ 274877906944) (hd : -1073741824 < d ∧ d < 1073741824)
    (hA : RdS 2 ESr σ0 p10 n10 (ansS T ss t)) (hx0 : Ext σ0 τ) (hC : Cpy τ σ p12 n12 c12 ss qs) (hR : ∀ σ', Ext σ0 σ' → R (.returned (.bool true)) σ') :
    law22_EvalShift.pt31 R p n c t d p10 n10 c10 (instF T ss t).1 p12 n12 c12 0 σ := by
  have hn := hC.n_eq
  have hbig := hC.rd.big
  have awk : ∀ σ', Ext σ0 σ' → Spec prog 5 #[] σ' (Cont R (CB fun t26 y_2 => R (.returned (.bool t26)) y_2)) := fun σ' hx => hawk σ' _ (hg.mono hx) fun σ2 hx2 => ⟨_, rfl, hR σ2 (hx.trans hx2)⟩
  suffices H : ∀ g i : Nat, ∀ σ', n12 - i = g → i ≤ n12 → Cpy τ σ' p12 n12 c12 (mixS d i 0 ss) qs → law22_EvalShift.pt31 R p n c t d p10 n10 c10 (instF T ss t).1 p12 n12 c12 i σ' from H n12 0 σ rfl (Nat.zero_le _) (by rw [mixS_0]; exact hC)
  intro g
  induction g with
  | zero =>
    intro i σ' hg' hi h
    have hin : i = n12 := by omega
    subst hin
    rw [mixS_end (by omega)] at h
    have hx := hx0.trans h.ext
    have hI := inst_mov (T := T) (ss := ss) ht hd
    have hM2 : Modest T (ss.map (movS d)) := ⟨hM.t, hM.tx, by rw [List.length_map]; exact hM.s, fun y hy => by
      obtain ⟨z, hz, rfl⟩ := List.mem_map.1 hy
      show (z.ps.map _).length ≤ _
      rw [List.length_map]; exact hM.ps z hz, fun y hy u hu => by
      obtain ⟨z, hz, rfl⟩ := List.mem_map.1 hy
      obtain ⟨v, hv, rfl⟩ := List.mem_map.1 hu
      exact hM.nn z hz v hv⟩
    refine law22_EvalShift.pt31_of ⟨fun hlt => by omega, fun _ => cNodes_spec (hr.mono ENd.mono hx) hT fun pu cu σ1 hu => ⟨_, _, _, rfl, by unfold I64; omega, ?_⟩⟩
    have hxu := hu.up
    refine inst_spec (hg.mono (hx.trans hxu)) (hu.rd ENd.mono) (h.rd.mono ESr.mono hxu) hM2 (fun τ' p' n' c' σ2 bs h0 hA2 hx2 => ⟨_, _, _, _, rfl, ?_⟩) fun σ2 h0 hx2 => ⟨_, _, _, _, rfl, ?_⟩
    · rw [hI] at h0 hA2
      refine unmove_spec (τ := τ') hA (hx.trans (hxu.trans hx2)) hA2.cpy (fun s hs y hy => ?_) ?_ h0 awk
      · obtain ⟨e, he, rfl⟩ := List.mem_map.1 hs
        rw [List.mem_singleton.1 hy]
        unfold I64; dsimp only; omega
      · unfold ansS
        rw [List.map_map]
        refine List.map_congr_left fun e he => ?_
        show (⟨e.ls, [(t + d + -d, e.v)]⟩ : Sr) = ⟨e.ls, [(t, e.v)]⟩
        rw [show t + d + -d = t by omega]
    · rw [hI] at h0 ⊢
      have hno : ansS T ss t = [] := by unfold ansS; rw [inst_no h0]; rfl
      exact unmove_spec (τ := σ2) (S := []) (qs := []) hA (hx.trans (hxu.trans hx2)) (Cpy.nil (.refl _)) (fun s hs => by cases hs) hno.symm rfl awk
  | succ g ih =>
    intro i σ' hg' hi h
    have hi' : i < n12 := by omega
    obtain ⟨s, hs⟩ : ∃ s, ss[i]? = some s := ⟨_, List.getElem?_eq_getElem (by omega)⟩
    refine law22_EvalShift.pt31_of ⟨fun _ => ?_, fun hh => by omega⟩
    suffices K : ∀ g' k : Nat, ∀ σ2, s.ps.length - k = g' → k ≤ s.ps.length → Cpy τ σ2 p12 n12 c12 (mixS d i k ss) qs → law22_EvalShift.pt43 R p n c t d p10 n10 c10 (instF T ss t).1 p12 n12 c12 i k σ2 from K s.ps.length 0 σ' rfl (Nat.zero_le _) h
    intro g'
    induction g' with
    | zero =>
      intro k σ2 hg2 hk h2
      obtain ⟨b, o, q, rfl, hq, hl⟩ := h2.at (mixS_get hs)
      rw [mixP_len] at hl
      have hke : k = s.ps.length := by omega
      subst hke
      rw [mixS_next hs] at h2
      exact law22_EvalShift.pt43_of ⟨b, o, rfl, by omega, q.1, s.ps.length, q.2, by simpa using hl, fun hlt => by omega, fun _ => ⟨i64_succ hi' hbig, ih (i + 1) σ2 (by omega) (by omega) h2⟩⟩
    | succ g' ihk =>
      intro k σ2 hg2 hk h2
      obtain ⟨b, o, q, rfl, hq, hl⟩ := h2.at (mixS_get hs)
      rw [mixP_len] at hl
      have hk' : k < s.ps.length := by omega
      have hsb := (h2.pts i q _ hq (mixS_get hs)).rd.1.big
      simp only [mixP_len] at hsb
      obtain ⟨x, hx⟩ : ∃ x, s.ps[k]? = some x := ⟨_, List.getElem?_eq_getElem hk'⟩
      obtain ⟨b2, o2, hqb, hl2⟩ := h2.pt (mixS_get hs) hq (mixP_get hx)
      have hl' : σ2.ld ⟨b, o + Int.toNat (i : Int) * 2 + 1, none⟩ = some (.slice q.1 s.ps.length q.2) := by simpa using hl
      have hl2' : σ2.ld ⟨b2, o2 + Int.toNat (k : Int) * 2, none⟩ = some (.int .i64 x.1) := by simpa using hl2
      have xx := hx0.trans h2.ext
      refine law22_EvalShift.pt43_of ⟨b, o, rfl, by omega, q.1, s.ps.length, q.2, hl', fun _ => ⟨by omega, q.1, s.ps.length, q.2, hl', b2, o2, hqb, by omega, x.1, hl2', fun _ => awk σ2 xx, fun hlo => ⟨fun _ => awk σ2 xx, fun hhi => ⟨by omega, q.1, s.ps.length, q.2, hl', by omega, q.1, s.ps.length, q.2, hl', b2, o2, hqb, by omega, x.1, hl2', by unfold I64; omega, b2, o2, hqb, by omega, ?_⟩⟩⟩, fun hh => by omega⟩
      rw [Int.toNat_natCast]
      refine h2.upd (mixS_get hs) hq (mixP_get hx) hqb fun σ3 h3 => ⟨i64_succ hk' hsb, ?_⟩
      have h3 : Cpy τ σ3 (some ⟨b, o, none⟩) n12 c12 ((mixS d i k ss).set i ⟨s.ls, (mixP d k s.ps).set k (x.1 + d, x.2)⟩) qs := h3
      rw [mixS_set hs hx] at h3
      exact ihk (k + 1) σ3 (by omega) (by omega) h3
theorem shift_spec {p q : Option Addr} {n c m dd : Nat} {T : List Nd} {ss : List Sr} {t by_ : Int} (hawk : Awk) (hg : Gl σ) (hr : RdS 10 ENd σ p n T) (hs : RdS 2 ESr σ q m ss) (hM : Modest T ss) (hT : TOk T) (hS : SOk ss) (h : ∀ σ', Ext σ σ' → R (.returned (.bool true)) σ') :
    Spec prog 3 #[.slice p n c, .slice q m dd, .int .i64 t, .int .i64 by_] σ R := by
  have awk : ∀ σ', Ext σ σ' → Spec prog 5 #[] σ' (Cont R (CB fun t26 y_2 => R (.returned (.bool t26)) y_2)) := fun σ' hx => hawk σ' _ (hg.mono hx) fun σ2 hx2 => ⟨_, rfl, h σ2 (hx.trans hx2)⟩
  refine law22_EvalShift.start ⟨by decide, fun d ed => ⟨fun _ => awk σ (.refl _), fun h1 => ⟨fun _ => awk σ (.refl _), fun h2 => ?_⟩⟩⟩
  have hd : -1073741824 < d ∧ d < 1073741824 := by
    rw [ed]
    have h3 := Int.tmod_lt_of_pos by_ (show (0 : Int) < 1073741824 by decide)
    have h4 := Int.lt_tmod_of_pos by_ (show (0 : Int) < 1073741824 by decide)
    exact ⟨by omega, h3⟩
  have ht : -274877906944 ≤ t ∧ t ≤ 274877906944 := by omega
  refine cNodes_spec hr hT fun pu cu σ1 hu => ⟨_, _, _, rfl, cSeries_spec (hs.mono ESr.mono hu.up) hS fun p3 c3 σ2 h3 hx2 => ⟨_, _, _, rfl, ?_⟩⟩
  have X2 := hu.up.trans hx2
  have next : ∀ σ3 p10 n10 c10, Ext σ σ3 → RdS 2 ESr σ3 p10 n10 (ansS T ss t) → Br ((instF T ss t).1 = 224) (Spec prog 5 #[] σ3 (Cont R (CB fun t40 y_4 => R (.returned (.bool t40)) y_4))) (Spec prog 8 #[.slice q m dd] σ3 (Cont R (CS fun p42 n42 c42 y_4 => law22_EvalShift.pt31 R p n c t d p10 n10 c10 (instF T ss t).1 p42 n42 c42 0 y_4))) := fun σ3 p10 n10 c10 X3 hA =>
    ⟨fun _ => awk σ3 X3, fun _ => cSeriesC_spec (hs.mono ESr.mono X3) hS fun τ p4 c4 σ4 qs hx4 hC => ⟨_, _, _, rfl, move_spec (σ0 := σ3) hawk (hg.mono X3) (hr.mono ENd.mono X3) hM hT ht hd hA hx4 hC fun σ' hx' => h σ' (X3.trans hx')⟩⟩
  refine inst_spec (hg.mono X2) ((hu.rd ENd.mono).mono ENd.mono hx2) h3 hM (fun τ p10 n10 c10 σ3 bs h0 hA hx3 => ⟨_, _, _, _, rfl, ?_⟩) fun σ3 h0 hx3 => ⟨_, _, _, _, rfl, ?_⟩
  · have := next σ3 p10 n10 c10 (X2.trans (hx3.trans hA.ext)) hA.rd
    rw [h0] at this
    exact this
  · exact next σ3 none 0 0 (X2.trans hx3) (by unfold ansS; rw [inst_no h0]; exact RdS.nil)
end
end TwW
end
section
namespace TwW.Rw
open Go Tw TwW Go.ChangeShapes Go.WideShapes Go.ChangeAt Go.RowKit Go.Deep Go.Proofs.Tryz Go.Proofs.YtjfbehbfkjmblaaGreatDoor
set_option maxRecDepth 1000000
theorem wHok3 (os : Os) : Input.okWideB prog (wW os) 3 ⟨#[], wArgs, []⟩ = true := by kernel_rfl
theorem reads3 (os : Os) {H : Type} (enc : TypeId × Value → H) : ∃ places, DataW.whole enc prog (wW os).memory f3.params.toList Rows.evalShiftSpec.vars false wArgs.toList 8 = some ([.nil, .nil, .lit (.int .i64 0), .lit (.int .i64 0)], [], places) :=
  ⟨[], by kernel_rfl⟩
end TwW.Rw
namespace Go.Proofs.YtjfbehbfkjmblaaGreatDoor.evalShift
open Go Tw TwW TwW.Rw Go.ChangeShapes Go.WideShapes Go.ChangeAt Go.RowKit Go.Deep
open Go.Proofs.Tryz (f3 func3 params3)
set_option maxRecDepth 100000
theorem contract (H : Type) (enc : TypeId × Value → H) (W : World) (base : Nat) (args : Array Value) (ds gs : List (DataW H)) (before : List MemPlace)
    (hval : ∀ (j : Nat) t v, f3.params[j]? = some t → args[j]? = some v → Value.okWide prog W .any base t v)
    (hW : DataW.Whole enc prog f3.params.toList Rows.evalShiftSpec.vars false W args.toList ds gs before) (hk : Rows.uptoBulkAll (ds ++ gs) ≤ 1048576) (hL : laidMetH prog Laid W) (hsh : W.ShapedOpen prog) :
    Calls prog 3 args W fun e W' => ∃ v, e = .returned v ∧ Rows.evalShiftSpec.post enc prog f3 false true false false W args v W' := by
  have hW' := hW
  obtain ⟨p, q, hA0, hV, rfl, hfz, hnd⟩ := hW
  have hA : DataW.TrodAll enc prog W 0 (fun _ => true) true f3.params.toList args.toList ds p := hA0
  rw [params3] at hA hval
  obtain ⟨v0, vs0, d0, ds0, p0, q0, hargs, rfl, rfl, h0, r0⟩ := trodAll_cons hA
  obtain ⟨v1, vs1, d1, ds1, p1, q1, rfl, rfl, rfl, h1, r1⟩ := trodAll_cons r0
  obtain ⟨v2, vs2, d2, ds2, p2, q2, rfl, rfl, rfl, h2, r2⟩ := trodAll_cons r1
  obtain ⟨v3, vs3, d3, ds3, p3, q3, rfl, rfl, rfl, h3, r3⟩ := trodAll_cons r2
  obtain ⟨rfl, rfl, rfl⟩ := trodAll_nil r3
  obtain rfl : args = #[v0, v1, v2, v3] := by cases args; simp_all
  obtain ⟨rfl, rfl⟩ := trodVars_none hV
  simp only [List.append_nil, Rows.uptoBulkAll] at hk
  obtain ⟨a0, n0, c0, T, rfl, hr0, hT⟩ := open_nds (hval 0 22 v0 rfl rfl) h0 (by omega)
  obtain ⟨a1, n1, c1, ss, rfl, hr1, hS⟩ := open_srs (hval 1 23 v1 rfl rfl) h1 (by omega)
  obtain ⟨x2, rfl, rfl, _, w2⟩ := open_int Go.Proofs.Tryz.underlying2 (hval 2 2 v2 rfl rfl) h2
  obtain ⟨x3, rfl, rfl, _, w3⟩ := open_int Go.Proofs.Tryz.underlying2 (hval 3 2 v3 rfl rfl) h3
  obtain ⟨hM, hTO, hSO⟩ := oks hT hS (Nat.le_trans hT.2 (by decide))
  exact law_of (by kernel_rfl) rfl rfl ⟨rfl, rfl, rfl⟩ hW' (shift_spec awake_spec (gl_of hL hsh) hr0 hr1 hM hTO hSO fun σ' hx => ⟨rfl, hx⟩)
theorem noInit : Go.Proofs.Tryz.checked.prog.inits.idxOf? 3 = none := by kernel_rfl
theorem witness (os : Os) (started : os.Started) (H : Type) (enc : TypeId × Value → H) : ∃ (w : World) (tape : Tape) (i : Input), w.os = os ∧ (w.forCall tape i).Shaped Go.Proofs.Tryz.checked.prog ∧ i.vars = [] ∧ Input.okWide Go.Proofs.Tryz.checked.prog (w.forCall tape i) .any w.heap.size 3 i ∧
      (Rows.OpenSpec.upto Rows.evalShiftSpec).preRow enc Go.Proofs.Tryz.checked.prog f3 Rows.evalShiftUptoRow.domain false Rows.evalShiftUptoRow.laid (w.forCall tape i).memory i.args ∧ ({} : Assume).holds Go.Proofs.Tryz.checked.prog (lone (Frame.enter Go.Proofs.Tryz.checked.prog 3 i.args .normal) [] (w.forCall tape i)) := by
  obtain ⟨places, hx⟩ := reads3 os enc
  exact witness_row_atRef (enc := enc) (C := Go.Proofs.Tryz.checked) false (laidWorld os) wArgs rfl (wHv os) (wHr os) (wHok3 os)
      (OpenSpec.preRow_of_cond 8 hx (by as_aux_lemma => kernel_rfl) (fun k hk => by cases hk; as_aux_lemma => kernel_rfl) (by as_aux_lemma => kernel_rfl) (laid_met os _))
theorem lifted (os : Os) (started : os.Started) (H : Type) (enc : TypeId × Value → H) (F : Stop.Interp) :
    ReturnsInHanded {} Go.Proofs.Tryz.checked os 3 .any ((Rows.OpenSpec.upto Rows.evalShiftSpec).preRow enc prog f3 Rows.evalShiftUptoRow.domain false Rows.evalShiftUptoRow.laid) (((Rows.OpenSpec.upto Rows.evalShiftSpec).at F).post enc prog f3 false true false false) := by
  refine returnsInHanded_of_row (C := Go.Proofs.Tryz.checked) (s := Rows.OpenSpec.upto Rows.evalShiftSpec) own started noInit func3 (witness os started H enc) ?_
  intro W base args ds gs before hval0 hW _ hcond _ hL hsh _
  exact contract H enc W base args ds gs before hval0 hW (of_decide_eq_true (hcond _ rfl)) hL hsh
end Go.Proofs.YtjfbehbfkjmblaaGreatDoor.evalShift
end
