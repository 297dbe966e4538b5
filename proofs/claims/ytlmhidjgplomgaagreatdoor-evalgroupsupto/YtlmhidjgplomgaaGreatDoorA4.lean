/-
  Part 4 of the proof that the law EvalGroupsUptoCardSaid of the given program answers true for every input of the given statement; the input reads behind the call as it did. (The texts: packed from 28 texts. Names are shortened by the packing program, for the bound on size.)
-/
import Derived.Test.YtlmhidjgplomgaaGreatDoorA3
import Derived.Shelf.Strings.Search3
import Derived.Shelf.Strings.Split
import Derived.Test.YtlmhidjgplomgaaGreatDoorProg
import Derived.Lib.IndexMore
import Derived.Shelf.SlSortCmp.NoneTotal
import Derived.Shelf.SlGeneric
import Derived.Ground.SlsfProg
set_option linter.all false
section
namespace TwW
open Go Tw Go.RowKit Go.Proofs.Tryz
theorem YI {x : Nat} (h : Kk x = true) : ∃ s t, Ieee.double.read x = .nan s t := by
 rw [LN] at h
 cases hd : Ieee.double.read x with
 | nan s t => exact ⟨s, t, rfl⟩
 | number => rw [hd] at h; cases h
 | infinity => rw [hd] at h; cases h
theorem ub {op : Int} {a b : Nat} (h : Kk a = true) : fAr op a b = none := by
 obtain ⟨s, t, hr⟩ := YI h
 unfold fAr Ieee.Format.add Ieee.Format.sub Ieee.Format.mul Ieee.Format.div
 rw [hr]
 simp [Ieee.Datum.sum, Ieee.Datum.product, Ieee.Datum.quotient]
theorem uc {op : Int} {a b : Nat} (h : Kk b = true) : fAr op a b = none := by
 obtain ⟨s, t, hr⟩ := YI h
 unfold fAr Ieee.Format.add Ieee.Format.sub Ieee.Format.mul Ieee.Format.div
 rw [hr]
 cases Ieee.double.read a <;> simp [Ieee.Datum.sum, Ieee.Datum.product, Ieee.Datum.quotient, Ieee.Datum.opposite]
theorem SR (op : Int) (a b : Nat) : V8 op (toF a) (toF b) = V8 op a b := by
 unfold V8
 by_cases ha : Kk a = true
 · rw [ub ha, show toF a = 9221120237041090560 by unfold toF; rw [ha]; rfl, ub YA]
 · rw [show toF a = a by unfold toF; rw [if_neg ha]]
   by_cases hb : Kk b = true
   · rw [uc hb, show toF b = 9221120237041090560 by unfold toF; rw [hb]; rfl, uc YA]
   · rw [show toF b = b by unfold toF; rw [if_neg hb]]
abbrev cN : Nat := 4604544271217802189
abbrev dN : Nat := 13827916308072577997
abbrev AE5 : Nat := 4607182418800017408
abbrev AE6 : Nat := 13830554455654793216
def av : List (Nat × Nat) := [(AE5, 0), (cN, dN), (0, AE6), (dN, dN), (AE6, 0), (dN, cN), (0, AE5), (cN, cN)]
def SS (j n : Nat) : List Int → Nat → Nat × Nat → Nat × Nat
 | [], _, a => a
 | x :: l, k, a =>
   let w := av.getD ((j * k % n) * (8 / n)) (0, 0)
   SS j n l (k + 1) (V8 1 a.1 (V8 3 x.toNat w.1), V8 1 a.2 (V8 3 x.toNat w.2))
def qc (vs : List Int) : Nat :=
 let l := SS (1 % vs.length) vs.length vs 0 (0, 0)
 V8 1 (V8 3 l.1 l.1) (V8 3 l.2 l.2)
section
variable [Ev] {σ : Hp} {R : Rr}
theorem Vc {x y : Nat} (h : x ^^^ 9223372036854775808 = y) : YF prog (Op.unary .neg (.float .f64 x)) σ (.float .f64 y) := fun w _ => by subst h; rfl
theorem TU (h : ∀ b T σ', σ b = none → σ' = σ.set b (.cells (av.map fun p => .complex .f64 p.1 p.2).toArray T (0, 0)) → R (.returned (.slice (aD b 0) 8 8)) σ') : Spec prog 263 #[] σ R := by
 refine Ls.start (GJ ⟨_, rfl, dN, Vc (by decide), _, _, fun w _ => rfl, dN, Vc (by decide), dN, Vc (by decide), _, _, fun w _ => rfl, dN, Vc (by decide), _, _, fun w _ => rfl, _, _, fun w _ => rfl, fun b hb => ?_⟩)
 exact h b _ _ hb rfl
theorem fj {j : Nat} (hj : j ≤ 1) {p : Option Addr} {n c : Nat} {vs : List Int} (hr : E7 .u64 σ p n vs) (hn : n = 1 ∨ n = 2 ∨ n = 4 ∨ n = 8)
   (h : ∀ re im σ', Ext σ σ' → toF re = (SS j n vs 0 (0, 0)).1 → toF im = (SS j n vs 0 (0, 0)).2 → R (.returned (.complex .f64 re im)) σ') : Spec prog 241 #[.slice p n c, .int .i64 j] σ R := by
 have hl : vs.length = n := hr.1
 have z0 : toF 0 = 0 := by
   unfold toF
   rw [if_neg]
   rw [NR]; decide
 refine H6.start (TU fun b T σ1 hb Ho => ⟨_, _, _, rfl, ?_⟩)
 have CD : Ext σ σ1 := by rw [Ho]; exact .set hb
 have hlb : ∀ k, k < 8 → ∀ re im, av[k]? = some (re, im) → σ1.ld ⟨b, 0 + k * 1, none⟩ = some (.complex .f64 re im) := fun k hk re im hw => by
   rw [Ho]
   unfold Hp.ld
   simp only [Hp.AB]
   have : (av.map fun p => Value.complex .f64 p.1 p.2)[k]? = some (.complex .f64 re im) := by rw [List.getElem?_map, hw]; rfl
   simpa using this
 clear Ho
 suffices H : ∀ g k : Nat, ∀ re im, ∀ a : Nat × Nat, n - k = g → k ≤ n → toF re = a.1 → toF im = a.2 → SS j n vs 0 (0, 0) = SS j n (vs.drop k) k a → H6.qT R p n c j (aD b 0) 8 8 (.complex .f64 re im) k σ1 from H n 0 0 0 (0, 0) rfl (Nat.zero_le _) z0 z0 rfl
 intro g
 induction g with
 | zero =>
   intro k re im a hg hk h1 h2 he
   have bz : k = n := by omega
   subst bz
   rw [List.drop_eq_nil_of_le (by omega)] at he
   refine H6.dL ⟨fun _ => ?_, fun hh => by omega⟩
   rw [he] at h
   exact h re im σ1 CD h1 h2
 | succ g ih =>
   intro k re im a hg hk h1 h2 he
   have bz : k < n := by omega
   obtain ⟨x, hx⟩ := hr.ex bz
   obtain ⟨b', o', rfl, E6⟩ := E7.at hr hx
   rw [A8 hx] at he
   have ht : (j : Int) * k = ((j * k : Nat) : Int) := by push_cast; rfl
   have oY : j * k ≤ 8 := by
     rcases Nat.le_one_iff_eq_zero_or_eq_one.1 hj with h | h <;> subst h <;> omega
   refine H6.dL ⟨fun hh => by omega, fun _ => ⟨b', o', rfl, by omega, x, by simpa using CD.ld E6, by unfold AN; omega, by omega, fun JU h27 => ⟨by omega, fun UA h30 => ?_⟩⟩⟩
   have e27 : JU = ((j * k % n : Nat) : Int) := by rw [h27, ht, Int.tmod_eq_emod_of_nonneg (by omega)]; omega
   have e30 : UA = ((8 / n : Nat) : Int) := by rw [h30]; rcases hn with h | h | h | h <;> subst h <;> rfl
   have hm : (j * k % n) * (8 / n) < 8 := by
     have := Nat.mod_lt (j * k) (show 0 < n by omega)
     rcases hn with h | h | h | h <;> subst h <;> simp at * <;> omega
   have ep : JU * UA = (((j * k % n) * (8 / n) : Nat) : Int) := by rw [e27, e30]; push_cast; rfl
   dsimp only
   rw [ep]
   generalize hq : (j * k % n) * (8 / n) = q at *
   obtain ⟨⟨wr, wi⟩, hw⟩ : ∃ w, av[q]? = some w := ⟨_, List.getElem?_eq_getElem (show q < av.length from hm)⟩
   have hgd : av.getD q (0, 0) = (wr, wi) := by rw [List.getD_eq_getElem?_getD, hw]; rfl
   rw [SS, hq, hgd] at he
   refine ⟨by unfold AN; omega, b, 0, rfl, by omega, wr, wi, by simpa using hlb q hm wr wi hw, GJ ⟨_, rfl, fun _ _ _ h => h, re, fun w _ => rfl, wr, fun w _ => rfl, NT fun y hy => ⟨_, rfl, QI fun z hz => ⟨_, rfl, im, fun w _ => rfl, wi, fun w _ => rfl, NT fun y' hy' => ⟨_, rfl, QI fun z' hz' => ⟨_, rfl, z, z', fun w _ => rfl, AL bz hr.big, ?_⟩⟩⟩⟩⟩⟩
   refine ih (k + 1) z z' _ (by omega) (by omega) ?_ ?_ he
   · rw [hz, ← SR, h1, hy]
   · rw [hz', ← SR, h2, hy']
theorem aw {p : Option Addr} {n c : Nat} {vs : List Int} (hr : E7 .u64 σ p n vs) (hn : n = 1 ∨ n = 2 ∨ n = 4 ∨ n = 8)
   (h : ∀ σ', Ext σ σ' → R (.returned (.tuple #[.int .u64 (qc vs : Nat), .int .i64 0])) σ') : Spec prog 225 #[.slice p n c] σ R := by
 have hl : vs.length = n := hr.1
 have Hf : ∀ {t : Bool} {Q : Rr}, Q (.returned (.bool true)) σ → Spec prog 240 #[.int .i64 n] σ Q := fun hq => UF.start ⟨fun _ => hq, fun h1 => ⟨fun _ => hq, fun h2 => ⟨fun _ => hq, fun h4 => by rw [show decide ((n : Int) = 8) = true from decide_eq_true (by omega)]; exact hq⟩⟩⟩
 refine R3.start (Hf (t := true) ?_)
 refine ⟨true, rfl, fun hf => (by cases hf), fun _ => ⟨by omega, fun x12 V7 => ?_⟩⟩
 have e12 : x12 = ((1 % n : Nat) : Int) := by rw [V7, Int.tmod_eq_emod_of_nonneg (by omega)]; exact (Int.natCast_emod 1 n).symm
 rw [e12]
 refine fj (Nat.mod_le 1 n) hr hn fun re im σ1 hx h1 h2 => ⟨_, _, rfl, re, fun w _ => rfl, re, fun w _ => rfl, NT fun y hy => ⟨_, rfl, im, fun w _ => rfl, im, fun w _ => rfl, NT fun z hz => ⟨_, rfl, QI fun u hu => ⟨_, rfl, GK ⟨_, rfl, ?_⟩⟩⟩⟩⟩
 have e : toF u = qc vs := by
   rw [hu, ← SR, hy, hz]
   unfold qc
   rw [hl]
   dsimp only
   rw [← h1, ← h2, SR, SR]
 rw [e]
 exact h σ1 hx
def US (n : Nat) : Nat := if 8 ≤ n then 8 else if 4 ≤ n then 4 else if 2 ≤ n then 2 else 1
def QJ (vs : List Int) : Int := (qc (vs.drop (vs.length - US vs.length)) : Nat)
theorem TV {p : Option Addr} {n c : Nat} {vs : List Int} (hr : E7 .u64 σ p n vs) (h0 : 0 < n) (hc : n ≤ c)
   (h : ∀ σ', Ext σ σ' → R (.returned (.int .u64 (QJ vs))) σ') : Spec prog 187 #[.slice p n c] σ R := by
 have hl : vs.length = n := hr.1
 have MX := hr.big
 have last : ∀ m : Nat, US n = m → m ≤ n → (m = 1 ∨ m = 2 ∨ m = 4 ∨ m = 8) → AN ((n : Int) - m) ∧ ((0 : Int) ≤ ((n : Int) - m) ∧ ((n : Int) - m) ≤ (n : Int)) ∧ Spec prog 225 #[(.slice (IK p (Int.toNat ((n : Int) - m)) c 1) (n - Int.toNat ((n : Int) - m)) (c - Int.toNat ((n : Int) - m)))] σ (AA R (fun z y => ∃ Ji OI, z = (.tuple #[.int .u64 Ji, .int .i64 OI]) ∧ R (.returned (.int .u64 Ji)) y)) := fun m hm hmn hk => by
   have e : Int.toNat ((n : Int) - m) = n - m := by omega
   rw [e]
   refine ⟨by unfold AN; omega, by omega, ?_⟩
   have hs := Af.sub (i := n - m) (m := m) hr (by decide) (by omega) hc
   rw [List.take_of_length_le (by rw [List.length_drop]; omega)] at hs
   rw [show n - (n - m) = m by omega]
   refine aw hs hk fun σ' hx => ⟨_, _, rfl, ?_⟩
   have := h σ' hx
   unfold QJ at this
   rw [hl, hm] at this
   exact this
 have two : ∀ m x : Int, x = IntKind.i64.wrap (Int.tdiv m 2) → (m = 8 ∨ m = 4 ∨ m = 2) → x = m / 2 := fun m x hx hm => by
   rw [hx]; rcases hm with h | h | h <;> subst h <;> rfl
 refine BN.start (BN.BD ⟨fun h8 => ⟨by decide, fun x1 e1 => ?_⟩, fun h8 => last 8 (by unfold US; rw [if_pos (by omega)]) (by omega) (by omega)⟩)
 have e1 := two _ _ e1 (.inl rfl)
 subst e1
 refine BN.BD ⟨fun h4 => ⟨by decide, fun x2 e2 => ?_⟩, fun h4 => last 4 (by unfold US; rw [if_neg (by omega), if_pos (by omega)]) (by omega) (by omega)⟩
 have e2 := two _ _ e2 (.inr (.inl (by decide)))
 subst e2
 refine BN.BD ⟨fun h2 => ⟨by decide, fun x3 e3 => ?_⟩, fun h2 => last 2 (by unfold US; rw [if_neg (by omega), if_neg (by omega), if_pos (by omega)]) (by omega) (by omega)⟩
 have e3 := two _ _ e3 (.inr (.inr (by decide)))
 subst e3
 exact BN.BD ⟨fun h1 => by omega, fun h1 => last 1 (by unfold US; rw [if_neg (by omega), if_neg (by omega), if_neg (by omega)]) (by omega) (by omega)⟩
end
end TwW
end
section
namespace TwW
open Go Tw Go.RowKit Go.Proofs.Tryz
def GL (ps : List Pt) (x : Int) : Nat := ps.countP fun q => decide (q.1 ≤ x)
theorem dY {ps : List Pt} {x : Int} {i : Nat} (hi : i ≤ ps.length) (h1 : ∀ k q, k < i → ps[k]? = some q → q.1 ≤ x) (h2 : ∀ k q, i ≤ k → ps[k]? = some q → x < q.1) : GL ps x = i := by
 unfold GL
 rw [← List.take_append_drop i ps, List.countP_append]
 have e1 : (ps.take i).countP (fun q => decide (q.1 ≤ x)) = (ps.take i).length := List.countP_eq_length.2 fun q hq => by
   obtain ⟨k, hk⟩ := List.mem_iff_getElem?.1 hq
   rw [List.getElem?_take] at hk
   split at hk
   · rename_i hki; exact decide_eq_true (h1 k q hki hk)
   · cases hk
 have e2 : (ps.drop i).countP (fun q => decide (q.1 ≤ x)) = 0 := List.countP_eq_zero.2 fun q hq => by
   obtain ⟨k, hk⟩ := List.mem_iff_getElem?.1 hq
   rw [List.getElem?_drop] at hk
   have := h2 _ q (Nat.le_add_right i k) hk
   simp; omega
 rw [e1, e2, List.length_take]; omega
def YJ (ps : List Pt) : Prop := ps.Pairwise fun a b => a.1 < b.1
theorem fk {ps : List Pt} (h : NO ps = true) : YJ ps := by
 have hh := ((NQ ps).1 h).2
 unfold YJ
 rw [List.pairwise_iff_getElem]
 intro i j hi hj cA
 induction j with
 | zero => omega
 | succ j ih =>
   have hs := hh j ps[j] ps[j + 1] (List.getElem?_eq_getElem _) (List.getElem?_eq_getElem _)
   by_cases h : i = j
   · subst h; exact hs
   · exact Int.lt_trans (ih (by omega) (by omega)) hs
theorem dZ {ps : List Pt} (h : YJ ps) {i j : Nat} {a b : Pt} (cA : i < j) (ha : ps[i]? = some a) (hb : ps[j]? = some b) : a.1 < b.1 := by
 obtain ⟨h1, rfl⟩ := List.getElem?_eq_some_iff.1 ha
 obtain ⟨h2, rfl⟩ := List.getElem?_eq_some_iff.1 hb
 exact List.pairwise_iff_getElem.1 h i j h1 h2 cA
theorem AE9 {x : Int} (h0 : 0 ≤ x) (h1 : x < 18446744073709551616) : IntKind.u64.wrap x = x := by simp [IntKind.wrap, IntKind.bits, IntKind.signed]; omega
theorem AFA {x : Int} (h0 : 0 ≤ x) (h1 : x < 9223372036854775808) : IntKind.i64.wrap x = x := by simp [IntKind.wrap, IntKind.bits, IntKind.signed]; omega
section
variable [Ev] {σ : Hp} {R : Rr}
theorem da {f : Nat} (hf : Enters prog f) (qd : ∀ a b x σ' R', R' (.returned (.int .i64 (if a ≤ x then -1 else 1))) σ' → Spec prog f #[.agg #[.int .i64 a, .int .u64 b], .int .i64 x] σ' R') {p : Option Addr} {n c : Nat} {ps : List Pt} {x : Int} (hr : Af 2 JO σ p n ps) (hs : YJ ps)
   (h : ∀ t, R (.returned (.tuple #[.int .i64 (GL ps x), .bool t])) σ) : Spec prog 175 #[.slice p n c, .int .i64 x, .func (.func f) #[] #[]] σ R := by
 have hl : ps.length = n := hr.1
 have MX := hr.big
 refine As.start ?_
 suffices H : ∀ g i j : Nat, j - i = g → i ≤ j → j ≤ n → (∀ k q, k < i → ps[k]? = some q → q.1 ≤ x) → (∀ k q, j ≤ k → ps[k]? = some q → x < q.1) → As.CL R p n c x (.func (.func f) #[] #[]) n i j σ from
   H n 0 n rfl (Nat.zero_le _) (Nat.le_refl _) (fun k q hk => by omega) (fun k q hk hq => by have := (List.getElem?_eq_some_iff.1 hq).1; omega)
 intro g
 induction g using Nat.strongRecOn with
 | _ g ih =>
   intro i j hg cA hj h1 h2
   refine As.BF ⟨fun Au => ⟨by unfold AN; omega, fun aK e21 => ⟨by decide, fun JJ e22 D6 e23 => ?_⟩⟩, fun fV => ⟨fun Vz => ?_, fun Vz => ?_⟩⟩
   · rw [AE9 (by omega) (by omega)] at e21
     have AKf : JJ = ((i + j) / 2 : Nat) := by rw [e22, e21]; show ((i : Int) + j) / 2 ^ 1 = _; omega
     rw [AKf, AFA (by omega) (by omega)] at e23
     generalize hm : (i + j) / 2 = m at *
     have him : i ≤ m ∧ m < j := by omega
     obtain ⟨q, hq⟩ := hr.ex (k := m) (by omega)
     obtain ⟨b, o, rfl, E6⟩ := JO.at hr hq
     rw [e23]
     refine ⟨b, o, rfl, by omega, q.1, q.2, by simpa using E6, f, #[], #[], rfl, hf, qd _ _ _ _ _ ⟨_, rfl, fun yh => ⟨by unfold AN; omega, ?_⟩, fun QT => ?_⟩⟩
     · have hq1 : q.1 ≤ x := by
         by_cases hh : q.1 ≤ x
         · exact hh
         · rw [if_neg hh] at yh; omega
       refine ih (j - (m + 1)) (by omega) (m + 1) j rfl (by omega) hj (fun k r hk oQ => ?_) h2
       by_cases uY : k = m
       · rw [uY, hq] at oQ; cases oQ; exact hq1
       · have := dZ hs (by omega : k < m) oQ hq; omega
     · have hq1 : x < q.1 := by
         by_cases hh : q.1 ≤ x
         · rw [if_pos hh] at QT; omega
         · omega
       refine ih (m - i) (by omega) i m rfl (by omega) (by omega) h1 (fun k r hk oQ => ?_)
       by_cases uY : k = m
       · rw [uY, hq] at oQ; cases oQ; exact hq1
       · have := dZ hs (by omega : m < k) hq oQ; omega
   · have e : i = j := by omega
     subst e
     have hc := dY (by omega) h1 h2
     obtain ⟨q, hq⟩ := hr.ex (k := i) (by omega)
     obtain ⟨b, o, rfl, E6⟩ := JO.at hr hq
     refine ⟨b, o, rfl, by omega, q.1, q.2, by simpa using E6, f, #[], #[], rfl, hf, qd _ _ _ _ _ ⟨_, rfl, ?_⟩⟩
     have := h (decide ((if q.1 ≤ x then (-1 : Int) else 1) = 0))
     rw [hc] at this; exact this
   · have e : i = j := by omega
     subst e
     have hc := dY (by omega) h1 h2
     have := h false
     rw [hc] at this; exact this
omit [Ev] in
theorem IC {x : Int} : ∀ {ps : List Pt}, YJ ps → GL ps x ≤ ps.length ∧ (∀ k q, k < GL ps x → ps[k]? = some q → q.1 ≤ x) ∧ (∀ k q, GL ps x ≤ k → ps[k]? = some q → x < q.1)
 | [], _ => ⟨Nat.le_refl _, fun k q hk => by simp [GL] at hk, fun k q _ hq => by simp at hq⟩
 | a :: l, h => by
   have hl := List.pairwise_cons.1 h
   obtain ⟨h1, h2, h3⟩ := IC (x := x) (ps := l) hl.2
   by_cases ha : a.1 ≤ x
   · have e : GL (a :: l) x = GL l x + 1 := by unfold GL; rw [List.countP_cons_of_pos (by simpa using ha)]
     rw [e]
     refine ⟨by simp; exact h1, fun k q hk hq => ?_, fun k q hk hq => ?_⟩
     · cases k with
       | zero => simp at hq; subst hq; exact ha
       | succ k => exact h2 k q (by omega) (by simpa using hq)
     · cases k with
       | zero => omega
       | succ k => exact h3 k q (by omega) (by simpa using hq)
   · have e : GL (a :: l) x = 0 := by
       unfold GL
       rw [List.countP_eq_zero]
       intro q hq
       rcases List.mem_cons.1 hq with rfl | hq
       · simpa using ha
       · have := hl.1 q hq
         simp; omega
     rw [e]
     refine ⟨Nat.zero_le _, fun k q hk => by omega, fun k q _ hq => ?_⟩
     cases k with
     | zero => simp at hq; subst hq; omega
     | succ k =>
       have := hl.1 q (List.mem_of_getElem? (by simpa using hq))
       omega
omit [Ev] in
theorem qe {ps : List Pt} (hs : YJ ps) (Dx Gu : Int) {i m : Nat} (hi : i = min (GL ps Dx) (GL ps Gu)) (hm : m = GL ps Gu - i) : (ps.drop i).take m = F3 ps Dx Gu := by
 obtain ⟨a1, a2, a3⟩ := IC (x := Dx) hs
 obtain ⟨m1, m2, m3⟩ := IC (x := Gu) hs
 have e : ps = ps.take i ++ ((ps.drop i).take m ++ (ps.drop i).drop m) := by rw [List.take_append_drop, List.take_append_drop]
 have hf : F3 ps Dx Gu = F3 (ps.take i) Dx Gu ++ (F3 ((ps.drop i).take m) Dx Gu ++ F3 ((ps.drop i).drop m) Dx Gu) := by
   conv => lhs; rw [e]
   unfold F3
   rw [List.filter_append, List.filter_append]
 rw [hf]
 have f1 : F3 (ps.take i) Dx Gu = [] := List.filter_eq_nil_iff.2 fun q hq => by
   obtain ⟨k, hk⟩ := List.mem_iff_getElem?.1 hq
   rw [List.getElem?_take] at hk
   split at hk
   · have := a2 k q (by omega) hk; simp; omega
   · cases hk
 have f2 : F3 ((ps.drop i).take m) Dx Gu = (ps.drop i).take m := List.filter_eq_self.2 fun q hq => by
   obtain ⟨k, hk⟩ := List.mem_iff_getElem?.1 hq
   rw [List.getElem?_take] at hk
   split at hk
   · rename_i uY
     rw [List.getElem?_drop] at hk
     have g1 := m2 _ q (by omega) hk
     have g2 := a3 _ q (by omega) hk
     simp; omega
   · cases hk
 have f3 : F3 ((ps.drop i).drop m) Dx Gu = [] := List.filter_eq_nil_iff.2 fun q hq => by
   obtain ⟨k, hk⟩ := List.mem_iff_getElem?.1 hq
   rw [List.getElem?_drop, List.getElem?_drop] at hk
   have := m3 _ q (by omega) hk
   simp; omega
 rw [f1, f2, f3]; simp
theorem PL {p : Option Addr} {n c : Nat} {ps : List Pt} {Dx Gu : Int} (hr : Af 2 JO σ p n ps) (hc : n ≤ c) (hs : YJ ps)
   (h : ∀ q m d, Af 2 JO σ q m (F3 ps Dx Gu) → m ≤ d → R (.returned (.slice q m d)) σ) : Spec prog 141 #[.slice p n c, .int .i64 Dx, .int .i64 Gu] σ R := by
 have hl : ps.length = n := hr.1
 have c1 : ∀ a b x σ' R', R' (.returned (.int .i64 (if a ≤ x then -1 else 1))) σ' → Spec prog 176 #[.agg #[.int .i64 a, .int .u64 b], .int .i64 x] σ' R' := fun a b x σ' R' hh => Lu.start fun _ => ⟨fun hle => by rw [if_pos hle] at hh; exact hh, fun hle => by rw [if_neg hle] at hh; exact hh⟩
 have c2 : ∀ a b x σ' R', R' (.returned (.int .i64 (if a ≤ x then -1 else 1))) σ' → Spec prog 177 #[.agg #[.int .i64 a, .int .u64 b], .int .i64 x] σ' R' := fun a b x σ' R' hh => Lr.start fun _ => ⟨fun hle => by rw [if_pos hle] at hh; exact hh, fun hle => by rw [if_neg hle] at hh; exact hh⟩
 have ha := (IC (x := Dx) hs).1
 have hm := (IC (x := Gu) hs).1
 refine O3.start (da (fun args w => call176 args w) c1 hr hs fun t => ⟨_, _, rfl, da (fun args w => call177 args w) c2 hr hs fun t' => ⟨_, _, rfl, ?_⟩⟩)
 have e : (if ((GL ps Gu : Nat) : Int) < (GL ps Dx : Nat) then ((GL ps Gu : Nat) : Int) else (GL ps Dx : Nat)) = ((min (GL ps Dx) (GL ps Gu) : Nat) : Int) := by split <;> omega
 rw [e]
 generalize hi : min (GL ps Dx) (GL ps Gu) = i
 have Vd := Af.sub (i := i) (m := GL ps Gu - i) hr (by decide) (by omega) hc
 rw [qe hs Dx Gu hi.symm rfl] at Vd
 refine ⟨by omega, ?_⟩
 have := h _ _ (c - i) Vd (by omega)
 simpa using this
end
end TwW
end
section
namespace TwW
open Go Tw Go.RowKit Go.Proofs.Tryz
theorem ID {α : Type} {P : α → Bool} : ∀ {l : List α} {k : Nat}, k ≤ l.length → (∀ j u, j < k → l[j]? = some u → P u = true) → (∀ u, l[k]? = some u → P u = false) → (l.takeWhile P).length = k
 | [], k, hk, _, _ => by simp at hk; subst hk; rfl
 | a :: l, 0, _, _, h2 => by simp [List.takeWhile, h2 a rfl]
 | a :: l, k + 1, hk, h1, h2 => by
   have ha : P a = true := h1 0 a (by omega) rfl
   simp only [List.takeWhile, ha, List.length_cons]
   rw [ID (k := k) (by simp at hk; omega) (fun j u hj hu => h1 (j + 1) u (by omega) (by simpa using hu)) (fun u hu => h2 u (by simpa using hu))]
def AM (s : ByteArray) : Nat := (s.data.toList.takeWhile Bf).length
theorem LO (s : ByteArray) : AM s ≤ s.size := by
 unfold AM
 exact Nat.le_trans (List.Sublist.length_le (List.takeWhile_sublist _)) (Nat.le_of_eq (Array.length_toList (xs := s.data)))
section
variable [Ev] {σ : Hp} {R : Rr}
omit [Ev] in
theorem UT {s : ByteArray} {h : Nat} (hh : h ≤ s.size) : YF prog (Instr.sliceAt 9 (.string s) none (some (.int .i64 (h : Int))) none) σ (.string (s.extract 0 h)) := fun w _ => by
 rw [run_sliceAt_string (h := underlying9)]
 have h1 : (h : Int) ≤ s.size := by omega
 simp [Instr.slice, run_underlying underlying9, Instr.sliceBounds, run_sliceBound, h1, Result.andThen]
omit [Ev] in
theorem NY {s : ByteArray} {l : Nat} (hl : l ≤ s.size) : YF prog (Instr.sliceAt 9 (.string s) (some (.int .i64 (l : Int))) none none) σ (.string (s.extract l s.size)) := fun w _ => by
 rw [run_sliceAt_string (h := underlying9)]
 have h1 : (l : Int) ≤ s.size := by omega
 simp [Instr.slice, run_underlying underlying9, Instr.sliceBounds, run_sliceBound, h1, Result.andThen]
omit [Ev] in
theorem byte_at {s : ByteArray} {k : Nat} (hk : k < s.size) : ∃ u, s.data[k]? = some u ∧ s.data.toList[k]? = some u := ⟨s.data[k]'hk, by rw [Array.getElem?_eq_getElem], by rw [Array.getElem?_toList, Array.getElem?_eq_getElem]⟩
theorem Gw {s : ByteArray} (hb : s.size ≤ 4611686018427387904) (h : R (.returned (.int .i64 (AM s))) σ) : Spec prog 131 #[.string s] σ R := by
 have hlen : s.data.toList.length = s.size := Array.length_toList (xs := s.data)
 refine Gk.start ?_
 suffices H : ∀ g k : Nat, s.size - k = g → k ≤ s.size → (∀ j u, j < k → s.data.toList[j]? = some u → Bf u = true) → Gk.Hi R s k σ from H s.size 0 rfl (Nat.zero_le _) (fun j u hj => by omega)
 intro g
 induction g with
 | zero =>
   intro k hg hk h1
   have e : AM s = k := ID (by omega) h1 (fun u hu => by have := (List.getElem?_eq_some_iff.1 hu).1; omega)
   rw [e] at h
   exact Gk.BD ⟨fun Au => by omega, fun _ => h⟩
 | succ g ih =>
   intro k hg hk h1
   obtain ⟨u, hu, Cy⟩ := byte_at (show k < s.size by omega)
   have stop : Bf u = false → R (.returned (.int .i64 k)) σ := fun hd => by
     have e : AM s = k := ID (by omega) h1 (fun v hv => by rw [Cy] at hv; cases hv; exact hd)
     rw [e] at h; exact h
   refine Gk.BD ⟨fun _ => ⟨u, by omega, by simpa using hu, OQ.start ⟨fun YK => ⟨_, rfl, fun ht => ?_, fun hf => stop ?_⟩, fun YK => ⟨false, rfl, ⟨fun ht => (by cases ht), fun _ => stop ?_⟩⟩⟩⟩, fun hh => by omega⟩
   · refine ⟨AL (by omega : k < s.size) hb, ih (k + 1) (by omega) (by omega) fun j v hj hv => ?_⟩
     by_cases oY : j = k
     · rw [oY, Cy] at hv; cases hv
       have := of_decide_eq_true ht
       exact decide_eq_true (by omega)
     · exact h1 j v (by omega) hv
   · have := of_decide_eq_false hf
     exact decide_eq_false (by omega)
   · exact decide_eq_false (by omega)
end
end TwW
end
section
namespace TwW
open Go Tw Go.RowKit Go.Proofs.Tryz
abbrev Lh (n : Nd) (p : Option Addr) (k c : Nat) (q : Option Addr) (m d : Nat) : Value := .agg #[.int .i64 n.kind, .int .i64 n.op, .string n.text, .slice p k c, .int .i64 n.width, .int .i64 n.back, .int .i64 n.EO, .slice q m d, .bool n.bool, .int .i64 n.parts]
def BH (n : Nd) : Nd :=
 if n.kind = 1 then ⟨n.kind, 0, n.text, [], 0, 0, 0, [], false, 0⟩
 else if n.kind = 2 then ⟨n.kind, 0, ByteArray.mk #[], [], 0, n.back, 0, [], false, 0⟩
 else if n.kind = 3 then ⟨n.kind, 0, ByteArray.mk #[], [], n.width, n.back, 0, [], false, 0⟩
 else if n.kind = 4 then ⟨n.kind, n.op, ByteArray.mk #[], [], 0, 0, 0, [], false, n.parts⟩
 else if n.kind = 5 then ⟨n.kind, n.op, ByteArray.mk #[], [], 0, 0, n.EO, [], false, n.parts⟩
 else if n.kind = 6 then ⟨n.kind, n.op, ByteArray.mk #[], [], 0, 0, n.EO, [], n.bool, n.parts⟩
 else ⟨n.kind, 0, ByteArray.mk #[], [], 0, 0, 0, [], false, n.parts⟩
theorem mF : ∀ w, (Go.sizeOf 2).run prog w = .ok 1 w := fun w => by kernel_rfl
theorem IE : ∀ w, (Go.sizeOf 3).run prog w = .ok 1 w := fun w => by kernel_rfl
theorem ud : ∀ w, (Go.sizeOf 4).run prog w = .ok 1 w := fun w => by kernel_rfl
theorem AFB : ∀ w, (Go.sizeOf 9).run prog w = .ok 1 w := fun w => by kernel_rfl
theorem mG : ∀ w, (Go.sizeOf 36).run prog w = .ok 10 w := fun w => by kernel_rfl
theorem SU {c : Array Value} {l : List Value} (h : l.length = c.size) : Mk c 0 l = l.toArray := by
 apply Array.ext_getElem?
 intro j
 rw [P1 l c 0 j (by omega)]
 split
 · simp
 · rename_i hj
   rw [Array.getElem?_eq_none (by omega), List.getElem?_toArray, List.getElem?_eq_none (by omega)]
section
variable [Ev] {σ : Hp} {R : Rr}
omit [Ev] in
theorem mH {τ : Hp} {b T : Nat} : ∀ {l : List Value} {c : Array Value} {o : Nat}, τ b = some (.cells c T (0, 0)) → (∀ j v, l[j]? = some v → c[o + j]? = some v) → Aq τ b o l
 | [], _, _, _, _ => trivial
 | v :: l, c, o, hb, h => ⟨by unfold Hp.ld; rw [hb]; simpa using h 0 v rfl, mH hb fun j u hu => by have := h (j + 1) u (by simpa using hu); rwa [show o + (j + 1) = o + 1 + j by omega] at this⟩
omit [Ev] in
theorem dc {τ : Hp} {b : Nat} {o : Obj} (hb : σ b = none) (h : Ext σ τ) : Ext σ (τ.set b o) := fun k u hk => by
 rw [Hp.AI (fun e => by rw [e, hb] at hk; cases hk)]; exact h k u hk
set_option maxHeartbeats 4000000 in
theorem fm {n : Nd} {p q : Option Addr} {k c m d : Nat} (h : ∀ σ', Ext σ σ' → R (.returned (Lh (BH n) none 0 0 none 0 0)) σ') : Spec prog 121 #[Lh n p k c q m d] σ R := by
 refine SA.start fun _ _ b hb => ?_
 have fin : ∀ (τ : Hp) (c : Array Value) (T : Nat), τ b = some (.cells c T (0, 0)) → Ext σ τ → c = #[.int .i64 (BH n).kind, .int .i64 (BH n).op, .string (BH n).text, .slice none 0 0, .int .i64 (BH n).width, .int .i64 (BH n).back, .int .i64 (BH n).EO, .slice none 0 0, .bool (BH n).bool, .int .i64 (BH n).parts] →
     ∃ XT aP aQ lU lV lW lX lY lZ la lf lg lh lj, Aq τ b 0 [.int .i64 XT, .int .i64 aP, .string aQ, .slice lU lV lW, .int .i64 lX, .int .i64 lY, .int .i64 lZ, .slice la lf lg, .bool lh, .int .i64 lj] ∧ R (.returned (.agg #[.int .i64 XT, .int .i64 aP, .string aQ, .slice lU lV lW, .int .i64 lX, .int .i64 lY, .int .i64 lZ, .slice la lf lg, .bool lh, .int .i64 lj])) τ := fun τ c T hτ hx hc =>
   ⟨_, _, _, _, _, _, _, _, _, _, _, _, _, _, mH hτ fun j v hv => by rw [hc, Nat.zero_add]; simpa using hv, h τ hx⟩
 have st : ∀ {τ : Hp} {c : Array Value} {T U o : Nat} {v : Value} {Φ : Unit → Hp → Prop}, (∀ w, (Go.sizeOf U).run prog w = .ok 1 w) → τ b = some (.cells c T (0, 0)) → Ext σ τ → o + 1 ≤ c.size → v.cells = #[v] → v.oneCell' = true →
     (∀ (τ' : Hp) (c' : Array Value), c' = Mk c o [v] → c'.size = c.size → τ' b = some (.cells c' T (0, 0)) → Ext σ τ' → Φ () τ') → AJ prog (Instr.storeAt U (.pointer (aD b o)) v) τ Φ := fun {τ c T U o v Φ} hz hτ hx ho h1 h2 hk => by
   refine AJ.store hz hτ (by rw [h1]; rfl) (by simpa using ho) (fun u hu => by rw [h1] at hu; simp at hu; rw [hu]; exact h2) ?_
   rw [h1]
   exact hk _ _ rfl (Hs _ _ _) (Hp.AB _ _ _) (dc hb hx)
 have st0 : ∀ {Φ : Unit → Hp → Prop}, (∀ (τ : Hp) (c : Array Value), c = #[.int .i64 n.kind, .int .i64 0, (.string (ByteArray.mk #[])), .slice none 0 0, .int .i64 0, .int .i64 0, .int .i64 0, .slice none 0 0, .bool false, .int .i64 0] → c.size = 10 → τ b = some (.cells c 36 (0, 0)) → Ext σ τ → Φ () τ) →
     AJ prog (Instr.storeAt 36 (.pointer (aD b 0)) (.agg #[.int .i64 n.kind, .int .i64 0, (.string (ByteArray.mk #[])), .slice none 0 0, .int .i64 0, .int .i64 0, .int .i64 0, .slice none 0 0, .bool false, .int .i64 0])) (Hp.set σ b (.cells #[.int .i64 0, .int .i64 0, (.string (ByteArray.mk #[])), .slice none 0 0, .int .i64 0, .int .i64 0, .int .i64 0, .slice none 0 0, .bool false, .int .i64 0] 36 (0, 0))) Φ := fun {Φ} hk => by
   refine AJ.store mG (Hp.AB _ _ _) rfl (by simp) (by simp [Value.cells, Value.oneCell']) ?_
   exact hk _ _ (SU rfl) (by rw [Hs]; rfl) (Hp.AB _ _ _) (dc hb (Ext.set hb))
 refine st0 fun τ c0 e0 z0 g0 x0 => ?_
 refine ⟨fun h1 => ?_, fun h1 => ⟨fun h2 => ?_, fun h2 => ⟨fun h3 => ?_, fun h3 => ⟨fun h4 => ?_, fun h4 => ⟨fun h5 => ?_, fun h5 => ⟨fun h6 => ?_, fun h6 => ?_⟩⟩⟩⟩⟩⟩
 · refine st AFB g0 x0 (by omega) rfl rfl fun τ1 c1 e1 z1 g1 x1 => fin τ1 c1 _ g1 x1 ?_
   subst e0 e1; unfold BH; simp only [h1, if_true]; rfl
 · refine st mF g0 x0 (by omega) rfl rfl fun τ1 c1 e1 z1 g1 x1 => fin τ1 c1 _ g1 x1 ?_
   subst e0 e1; unfold BH; simp only [h2, if_true]; rfl
 · refine st mF g0 x0 (by omega) rfl rfl fun τ1 c1 e1 z1 g1 x1 => ?_
   refine st mF g1 x1 (by omega) rfl rfl fun τ2 c2 e2 z2 g2 x2 => fin τ2 c2 _ g2 x2 ?_
   subst e0 e1 e2; unfold BH; simp only [h3, if_true]; rfl
 · refine st IE g0 x0 (by omega) rfl rfl fun τ1 c1 e1 z1 g1 x1 => ?_
   refine st IE g1 x1 (by omega) rfl rfl fun τ2 c2 e2 z2 g2 x2 => fin τ2 c2 _ g2 x2 ?_
   subst e0 e1 e2; unfold BH; simp only [h4, if_true]; rfl
 · refine st IE g0 x0 (by omega) rfl rfl fun τ1 c1 e1 z1 g1 x1 => ?_
   refine st IE g1 x1 (by omega) rfl rfl fun τ2 c2 e2 z2 g2 x2 => ?_
   refine st IE g2 x2 (by omega) rfl rfl fun τ3 c3 e3 z3 g3 x3 => fin τ3 c3 _ g3 x3 ?_
   subst e0 e1 e2 e3; unfold BH; simp only [h5, if_true]; rfl
 · refine st IE g0 x0 (by omega) rfl rfl fun τ1 c1 e1 z1 g1 x1 => ?_
   refine st IE g1 x1 (by omega) rfl rfl fun τ2 c2 e2 z2 g2 x2 => ?_
   refine st ud g2 x2 (by omega) rfl rfl fun τ3 c3 e3 z3 g3 x3 => ?_
   refine st IE g3 x3 (by omega) rfl rfl fun τ4 c4 e4 z4 g4 x4 => fin τ4 c4 _ g4 x4 ?_
   subst e0 e1 e2 e3 e4; unfold BH; simp only [h6, if_true]; rfl
 · refine st IE g0 x0 (by omega) rfl rfl fun τ1 c1 e1 z1 g1 x1 => fin τ1 c1 _ g1 x1 ?_
   subst e0 e1; unfold BH; simp only [h1, h2, h3, h4, h5, h6, if_false]; rfl
end
end TwW
end
section
namespace TwW
open Go Tw Go.RowKit Go.Proofs.Tryz
section
variable {σ : Hp} {R : Rr}
theorem Ce {k : Int} (h : R (.returned (.bool (Er k))) σ) : Spec prog 124 #[.int .i64 k] σ R := by
 refine Jg.start ⟨fun h1 => ?_, fun h1 => ?_⟩
 · rw [show Er k = decide (k ≤ 10) by unfold Er; rw [decide_eq_true h1]; rfl] at h; exact h
 · rw [show Er k = false by unfold Er; rw [decide_eq_false h1]; rfl] at h; exact h
theorem PM {k : Int} (h : R (.returned (.bool (decide (11 ≤ k ∧ k ≤ 13)))) σ) : Spec prog 128 #[.int .i64 k] σ R := by
 refine Ry.start ⟨fun h1 => ?_, fun h1 => ?_⟩
 · rw [show decide (11 ≤ k ∧ k ≤ 13) = decide (k ≤ 13) from decide_eq_decide.2 ⟨fun h => h.2, fun h => ⟨h1, h⟩⟩] at h; exact h
 · rw [show decide (11 ≤ k ∧ k ≤ 13) = false from decide_eq_false (fun hh => h1 hh.1)] at h; exact h
theorem OV {v l : Int} (h : R (.returned (.bool (Ly v l))) σ) : Spec prog 123 #[.int .i64 v, .int .i64 l] σ R := by
 refine R6.start ⟨fun h1 => ?_, fun h1 => ?_⟩
 · rw [show Ly v l = decide (v < 2147483648) by unfold Ly; rw [decide_eq_true h1]; rfl] at h; exact h
 · rw [show Ly v l = false by unfold Ly; rw [decide_eq_false h1]; rfl] at h; exact h
theorem UU {k : Int} (h : R (.returned (.bool (decide (1 ≤ k ∧ k ≤ 4)))) σ) : Spec prog 125 #[.int .i64 k] σ R := by
 refine Q3.start ⟨fun h1 => ?_, fun h1 => ?_⟩
 · rw [show decide (1 ≤ k ∧ k ≤ 4) = decide (k ≤ 4) from decide_eq_decide.2 ⟨fun h => h.2, fun h => ⟨h1, h⟩⟩] at h; exact h
 · rw [show decide (1 ≤ k ∧ k ≤ 4) = false from decide_eq_false (fun hh => h1 hh.1)] at h; exact h
theorem OW {s : ByteArray} (h : R (.returned (.bool (Db s))) σ) : Spec prog 126 #[.string s] σ R := by
 refine R7.start (Kh ?_)
 exact ⟨_, rfl, h⟩
theorem Nu.at {p : Option Addr} {n i : Nat} {ms : List Mt} {x : Mt} (hr : Af 3 Nu σ p n ms) (hx : ms[i]? = some x) : ∃ b o, p = some ⟨b, o, none⟩ ∧ Aq σ b (o + i * 3) [.int .i64 x.kind, .string x.name, .string x.val] := by
 obtain ⟨b, o, vs, hp, rfl, hl⟩ := Af.idx hr hx
 exact ⟨b, o, hp, hl⟩
def ax (m : Mt) : Bool := decide (1 ≤ m.kind ∧ m.kind ≤ 4) && Db m.name && decide (m.val.size ≤ 256)
theorem PN {p : Option Addr} {n c : Nat} {ms : List Mt} (hr : Af 3 Nu σ p n ms) (h : R (.returned (.int .i64 (Gv Db ms))) σ) : Spec prog 80 #[.slice p n c] σ R := by
 have hl : ms.length = n := hr.1
 refine Fe.start ⟨fun h8 => ?_, fun h8 => ?_⟩
 · rw [show Gv Db ms = 41 by unfold Gv; rw [if_pos (by omega)]] at h; exact h
 have hm : Gv Db ms = if ms.all ax then 0 else 40 := by unfold Gv; rw [if_neg (by omega)]; rfl
 rw [hm] at h
 suffices H : ∀ g k : Nat, n - k = g → k ≤ n → ms.all ax = (ms.drop k).all ax → Fe.LY R p n c n k σ from H n 0 rfl (Nat.zero_le _) rfl
 intro g
 induction g with
 | zero =>
   intro k hg hk he
   rw [List.drop_eq_nil_of_le (by omega)] at he
   rw [he] at h
   exact Fe.IX ⟨fun Au => by omega, fun _ => h⟩
 | succ g ih =>
   intro k hg hk he
   have IN : k < n := by omega
   obtain ⟨x, hx⟩ := hr.ex IN
   obtain ⟨b, o, rfl, E6⟩ := Nu.at hr hx
   rw [A8 hx, List.all_cons] at he
   have bad : ax x = false → R (.returned (.int .i64 40)) σ := fun hf => by
     rw [hf] at he
     rw [he] at h; exact h
   refine Fe.IX ⟨fun _ => ⟨b, o, rfl, by omega, x.kind, x.name, x.val, by simpa using E6, fun _ => UU ⟨_, rfl, fun hf => bad ?_, fun ht => OW ⟨_, rfl, fun hf => bad ?_, fun hn => ⟨fun hv => bad ?_, fun hv => ⟨AL IN hr.big, ih (k + 1) (by omega) (by omega) ?_⟩⟩⟩⟩⟩, fun hh => by omega⟩
   · unfold ax; rw [hf]; rfl
   · unfold ax; rw [hf]; simp
   · unfold ax; rw [show decide (x.val.size ≤ 256) = false from decide_eq_false (by omega)]; simp
   · rw [he, show ax x = true by unfold ax; rw [ht, hn, show decide (x.val.size ≤ 256) = true from decide_eq_true (by omega)]; rfl, Bool.true_and]
end
end TwW
end
section
namespace TwW
open Go Tw Go.RowKit Go.Proofs.Tryz
section
variable {σ : Hp} {R : Rr}
theorem ay {n : Nd} {p q : Option Addr} {k c m d : Nat} (hr : Ez 1 σ q m (n.names.map .string)) (h : R (.returned (.bool (OU Db n))) σ) : Spec prog 122 #[Lh n p k c q m d] σ R := by
 have hl : n.names.length = m := by have := hr.1; simpa using this
 refine Fi.start fun _ => ?_
 suffices H : ∀ g i : Nat, m - i = g → i ≤ m → n.names.all Db = (n.names.drop i).all Db → Fi.Hg R n.kind n.op n.text p k c n.width n.back n.EO q m d n.bool n.parts q m d m i σ from H m 0 rfl (Nat.zero_le _) rfl
 have MX : m ≤ 4611686018427387904 := hr.2.1
 intro g
 induction g with
 | zero =>
   intro i hg hi he
   rw [List.drop_eq_nil_of_le (by omega)] at he
   have e : OU Db n = (decide (m = 0) || decide (n.EO ≠ 0)) := by unfold OU; rw [he, hl]; rfl
   rw [e] at h
   refine Fi.Bd ⟨fun Au => by omega, fun _ => ⟨fun h0 => ?_, fun h0 => ?_⟩⟩
   · rw [decide_eq_true (show m = 0 by omega)] at h; exact h
   · rw [decide_eq_false (show ¬ m = 0 by omega)] at h; exact h
 | succ g ih =>
   intro i hg hi he
   have Be : i < m := by omega
   obtain ⟨x, hx⟩ : ∃ x, n.names[i]? = some x := ⟨_, List.getElem?_eq_getElem (by omega)⟩
   obtain ⟨b, o, rfl, E6⟩ := Ez.at1 hr (k := i) (v := .string x) (by rw [List.getElem?_map, hx]; rfl)
   rw [A8 hx, List.all_cons] at he
   refine Fi.Bd ⟨fun _ => ⟨b, o, rfl, by omega, x, by simpa using E6, OW ⟨_, rfl, fun hf => ?_, fun ht => ⟨AL Be MX, ih (i + 1) (by omega) (by omega) ?_⟩⟩⟩, fun hh => by omega⟩
   · have e : OU Db n = false := by unfold OU; rw [he, hf]; rfl
     rw [e] at h; exact h
   · rw [he, ht, Bool.true_and]
theorem mI {a b : ByteArray} : (ByteArray.toList a == ByteArray.toList b) = decide (a.data.toList = b.data.toList) := by
 rw [ByteArray.toList_eq, ByteArray.toList_eq]
 by_cases h : a.data.toList = b.data.toList
 · simp [h]
 · rw [decide_eq_false h]; exact beq_eq_false_iff_ne.2 h
theorem AFC {a b : ByteArray} : (ByteArray.toList a == ByteArray.toList b) = decide (a = b) := by
 rw [mI]
 exact decide_eq_decide.2 ⟨fun h => ByteArray.ext (Array.toList_inj.1 h), fun h => by rw [h]⟩
def F5 (a b : Nd) : Bool := decide (a.kind = b.kind ∧ a.op = b.op ∧ a.text = b.text ∧ a.width = b.width ∧ a.back = b.back ∧ a.EO = b.EO ∧ a.bool = b.bool ∧ a.parts = b.parts)
theorem az {a b : Nd} {p p' q q' : Option Addr} {k c k' c' m d m' d' : Nat} (h : R (.returned (.bool (F5 a b))) σ) : Spec prog 120 #[Lh a p k c q m d, Lh b p' k' c' q' m' d'] σ R := by
 have no : ¬ (a.kind = b.kind ∧ a.op = b.op ∧ a.text = b.text ∧ a.width = b.width ∧ a.back = b.back ∧ a.EO = b.EO ∧ a.bool = b.bool ∧ a.parts = b.parts) → R (.returned (.bool false)) σ := fun hn => by
   rw [show F5 a b = false from decide_eq_false hn] at h; exact h
 have last : a.kind = b.kind ∧ a.op = b.op ∧ a.text = b.text ∧ a.width = b.width ∧ a.back = b.back ∧ a.EO = b.EO ∧ a.bool = b.bool → R (.returned (.bool (decide (a.parts = b.parts)))) σ := fun hh => by
   rw [show F5 a b = decide (a.parts = b.parts) from decide_eq_decide.2 ⟨fun g => g.2.2.2.2.2.2.2, fun g => ⟨hh.1, hh.2.1, hh.2.2.1, hh.2.2.2.1, hh.2.2.2.2.1, hh.2.2.2.2.2.1, hh.2.2.2.2.2.2, g⟩⟩] at h; exact h
 refine O2.start fun _ _ => ⟨fun h1 => ⟨fun h2 => ⟨fun h3 => ?_, fun h3 => no ?_⟩, fun h2 => no fun g => h2 g.2.1⟩, fun h1 => no fun g => h1 g.1⟩
 · rw [AFC] at h3
   have h3 := of_decide_eq_true h3
   refine ⟨fun h4 => ⟨fun h5 => ⟨fun h6 => ⟨fun t1 => ⟨fun t2 => last ⟨h1, h2, h3, h4, h5, h6, t1.trans t2.symm⟩, fun t2 => no fun g => ?_⟩, fun t1 => ⟨fun t2 => no fun g => ?_, fun t2 => last ⟨h1, h2, h3, h4, h5, h6, t1.trans t2.symm⟩⟩⟩, fun h6 => no fun g => h6 g.2.2.2.2.2.1⟩, fun h5 => no fun g => h5 g.2.2.2.2.1⟩, fun h4 => no fun g => h4 g.2.2.2.1⟩
   · have := g.2.2.2.2.2.2.1; rw [t1, t2] at this; cases this
   · have := g.2.2.2.2.2.2.1; rw [t1, t2] at this; cases this
 · rw [AFC] at h3
   exact fun g => of_decide_eq_false h3 g.2.2.1
end
end TwW
end
section
namespace TwW
open Go Tw Go.RowKit Go.Proofs.Tryz
def FM (s : ByteArray) : Bool :=
 if AM s = 0 then false else if 1 < AM s ∧ s.data[0]? = some 48 then false else if AM s = s.size then decide (AM s ≤ 15)
 else decide (s.data[AM s]? = some 46 ∧ 0 < AM (s.extract (AM s + 1) s.size) ∧ AM s + 1 + AM (s.extract (AM s + 1) s.size) = s.size ∧ AM s + AM (s.extract (AM s + 1) s.size) ≤ 15)
theorem I1 {u : UInt8} {k : Nat} (hk : k < 256) : ((u.toNat : Nat) : Int) = k ↔ u = UInt8.ofNat k := by
 constructor
 · intro h
   apply UInt8.toNat_inj.1
   rw [UInt8.toNat_ofNat']
   omega
 · rintro rfl
   rw [UInt8.toNat_ofNat']
   omega
section
variable {σ : Hp} {R : Rr}
theorem Kl {s : ByteArray} (hb : s.size ≤ 4611686018427387904) (h : R (.returned (.bool (FM s))) σ) : Spec prog 94 #[.string s] σ R := by
 have hle := LO s
 refine R9.start (Gw hb ⟨_, rfl, fun h0 => ?_, fun h0 => ⟨_, UT hle, ?_⟩⟩)
 · rw [show FM s = false by unfold FM; rw [if_pos (by omega)]] at h; exact h
 have Hf : (s.extract 0 (AM s)).size = AM s := by rw [ByteArray.size_extract]; omega
 have tail : ¬ (1 < AM s ∧ s.data[0]? = some 48) → Br ((AM s : Int) = ((ByteArray.size s : Nat) : Int)) (R (.returned (.bool (decide ((AM s : Int) ≤ 15)))) σ) (AN ((AM s : Int) + 1) ∧ ∃ s24, YF prog (Instr.sliceAt 9 (.string s) (some (.int .i64 ((AM s : Int) + 1))) none none) σ (.string s24) ∧ Spec prog 131 #[.string s24] σ (AA R (CI .i64 fun S8 AH => ∃ u28 : UInt8, 0 ≤ (AM s : Int) ∧ (ByteArray.data s)[Int.toNat (AM s : Int)]? = some u28 ∧ Br ((((UInt8.toNat u28 : Nat) : Int) : Int) = 46) (Br (0 < S8) (AN ((AM s : Int) + 1) ∧ AN (((AM s : Int) + 1) + S8) ∧ Br (((((AM s : Int) + 1) + S8) : Int) = ((ByteArray.size s : Nat) : Int)) (AN ((AM s : Int) + S8) ∧ R (.returned (.bool (decide ((((AM s : Int) + S8) : Int) ≤ 15)))) AH) (R (.returned (.bool false)) AH)) (R (.returned (.bool false)) AH)) (R (.returned (.bool false)) AH)))) := fun hn => by
   refine ⟨fun he => ?_, fun he => ⟨by unfold AN; omega, s.extract (AM s + 1) s.size, NY (l := AM s + 1) (by omega), ?_⟩⟩
   · rw [show FM s = decide ((AM s : Int) ≤ 15) by unfold FM; rw [if_neg (by omega), if_neg hn, if_pos (by omega)]; exact decide_eq_decide.2 (by omega)] at h; exact h
   have AKh : (s.extract (AM s + 1) s.size).size = s.size - (AM s + 1) := by rw [ByteArray.size_extract]; omega
   have hm := LO (s.extract (AM s + 1) s.size)
   refine Gw (by omega) ?_
   obtain ⟨u, hu, _⟩ := byte_at (show AM s < s.size by omega)
   have hO : FM s = decide (s.data[AM s]? = some 46 ∧ 0 < AM (s.extract (AM s + 1) s.size) ∧ AM s + 1 + AM (s.extract (AM s + 1) s.size) = s.size ∧ AM s + AM (s.extract (AM s + 1) s.size) ≤ 15) := by unfold FM; rw [if_neg (by omega), if_neg hn, if_neg (by omega)]
   rw [hO, hu] at h
   generalize AM (s.extract (AM s + 1) s.size) = m at *
   have b46 := I1 (u := u) (k := 46) (by decide)
   have no : ¬ (u = 46 ∧ 0 < m ∧ AM s + 1 + m = s.size ∧ AM s + m ≤ 15) → R (.returned (.bool false)) σ := fun hh => by
     rw [decide_eq_false (by rw [Option.some.injEq]; exact hh)] at h; exact h
   refine ⟨_, rfl, u, by omega, by simpa using hu, fun UW => ⟨fun h0m => ⟨by unfold AN; omega, by unfold AN; omega, fun hs => ⟨by unfold AN; omega, ?_⟩, fun hs => no fun g => hs (by omega)⟩, fun h0m => no fun g => h0m (by omega)⟩, fun UW => no fun g => UW (b46.2 g.1)⟩
   rw [show decide (some u = some 46 ∧ 0 < m ∧ AM s + 1 + m = s.size ∧ AM s + m ≤ 15) = decide (((AM s : Int) + m) ≤ 15) from decide_eq_decide.2 ⟨fun g => by omega, fun g => ⟨by rw [b46.1 UW]; rfl, by omega, by omega, by omega⟩⟩] at h
   exact h
 refine M3.start ⟨fun h1 => ?_, fun h1 => ⟨false, rfl, fun ht => (by cases ht), fun _ => tail (by omega)⟩⟩
 obtain ⟨u, hu, _⟩ := byte_at (show 0 < s.size by omega)
 have OJ := I1 (u := u) (k := 48) (by decide)
 have Cy : (s.extract 0 (AM s)).data[0]? = some u := by
   rw [ByteArray.data_extract, Array.getElem?_extract]
   rw [if_pos (by have : s.data.size = s.size := rfl; omega)]
   simpa using hu
 refine ⟨u, by omega, by simpa using Cy, _, rfl, fun ht => ?_, fun hf => tail ?_⟩
 · have := OJ.1 (of_decide_eq_true ht)
   rw [show FM s = false by unfold FM; rw [if_neg (by omega), if_pos ⟨by omega, by rw [hu, this]; rfl⟩]] at h; exact h
 · rintro ⟨_, g⟩
   rw [hu, Option.some.injEq] at g
   exact of_decide_eq_false hf (OJ.2 g)
end
end TwW
end
section
namespace TwW
open Go Tw Go.RowKit Go.Proofs.Tryz
def Fp (n : Nd) : Bool :=
 if n.kind = 1 then FM n.text else if n.kind = 2 then Ly n.back 0 else if n.kind = 3 then Ly n.width 1 && Ly n.back 0
 else if n.kind = 4 then decide (n.parts = 1 ∧ 1 ≤ n.op ∧ n.op ≤ 12)
 else if n.kind = 5 then decide (n.parts = 1 ∧ 1 ≤ n.op ∧ n.op ≤ 5 ∧ (n.EO = 0 ∨ n.EO = 1 ∨ n.EO = 2))
 else if n.kind = 6 then decide (n.parts = 2 ∧ 1 ≤ n.op ∧ n.op ≤ 13 ∧ (n.EO = 0 ∨ n.EO = 3 ∨ n.EO = 4)) && (!n.bool || Er n.op)
 else decide (n.kind = 7 ∧ n.parts = 1)
def E9 (n : Nd) : Bool := F5 n (BH n) && OU Db n && !(decide (0 < n.mt.length) && decide (n.kind ≠ 2) && decide (n.kind ≠ 3)) && Fp n
section
variable {σ : Hp} {R : Rr}
theorem fp {n : Nd} {p q : Option Addr} {k c m d : Nat} (hk : n.mt.length = k) (hr : Ez 1 σ q m (n.names.map .string)) (hb : n.text.size ≤ 4611686018427387904) (h : ∀ σ', Ext σ σ' → R (.returned (.bool (E9 n))) σ') : Spec prog 79 #[Lh n p k c q m d] σ R := by
 refine Q0.start fun _ => fm fun σ1 hx => ⟨_, _, _, _, _, _, _, _, _, _, _, _, _, _, rfl, az ⟨_, rfl, fun hf => ?_, fun ht => ay (hr.mono hx) ⟨_, rfl, fun hf => ?_, fun hn => ?_⟩⟩⟩
 · have := h σ1 hx; rw [show E9 n = false by unfold E9; rw [hf]; rfl] at this; exact this
 · have := h σ1 hx; rw [show E9 n = false by unfold E9; rw [ht, hf]; rfl] at this; exact this
 have hh := h σ1 hx
 have e : E9 n = (!(decide (0 < n.mt.length) && decide (n.kind ≠ 2) && decide (n.kind ≠ 3)) && Fp n) := by unfold E9; rw [ht, hn]; rfl
 rw [e] at hh
 clear e h
 have fin : ¬ (0 < n.mt.length ∧ n.kind ≠ 2 ∧ n.kind ≠ 3) → ∀ t, Fp n = t → R (.returned (.bool t)) σ1 := fun Dy t ht => by
   have e2 : (!(decide (0 < n.mt.length) && decide (n.kind ≠ 2) && decide (n.kind ≠ 3))) = true := by
     rw [Bool.not_eq_true', Bool.eq_false_iff]
     intro hc
     simp only [Bool.and_eq_true, decide_eq_true_eq] at hc
     exact Dy ⟨hc.1.1, hc.1.2, hc.2⟩
   rw [e2, Bool.true_and, ht] at hh; exact hh
 refine ⟨fun hm => ⟨fun h2 => ⟨fun h3 => ?_, fun h3 => ?_⟩, fun h2 => ?_⟩, fun hm => ?_⟩
 · rw [show (!(decide (0 < n.mt.length) && decide (n.kind ≠ 2) && decide (n.kind ≠ 3))) = false by rw [decide_eq_true (show 0 < n.mt.length by omega), decide_eq_true h2, decide_eq_true h3]; rfl, Bool.false_and] at hh
   exact hh
 all_goals
   have fin := fin (by omega)
   clear hh ht hn
   refine ⟨fun k1 => Kl hb ⟨_, rfl, ?_⟩, fun k1 => ⟨fun k2 => OV ⟨_, rfl, ?_⟩, fun k2 => ⟨fun k3 => OV ⟨_, rfl, fun ht => OV ⟨_, rfl, ?_⟩, fun hf => ?_⟩, fun k3 => ⟨fun k4 => ⟨fun hp => ⟨fun ho => ?_, fun ho => ?_⟩, fun hp => ?_⟩, fun k4 => ⟨fun k5 => ⟨fun hp => ⟨fun ho => ⟨fun Bb => ⟨fun g0 => ?_, fun g0 => ⟨fun g1 => ?_, fun g1 => ?_⟩⟩, fun Bb => ?_⟩, fun ho => ?_⟩, fun hp => ?_⟩, fun k5 => ⟨fun k6 => ⟨fun hp => ⟨fun ho => ⟨fun Bb => ⟨fun g0 => ⟨fun bf => ?_, fun bt => Ce ⟨_, rfl, ?_⟩⟩, fun g0 => ⟨fun g3 => ⟨fun bf => ?_, fun bt => Ce ⟨_, rfl, ?_⟩⟩, fun g3 => ⟨fun g4 => ⟨fun bf => ?_, fun bt => Ce ⟨_, rfl, ?_⟩⟩, fun g4 => ?_⟩⟩⟩, fun Bb => ?_⟩, fun ho => ?_⟩, fun hp => ?_⟩, fun k6 => ⟨fun k7 => ?_, fun k7 => ?_⟩⟩⟩⟩⟩⟩⟩ <;> (refine fin _ ?_; clear fin; unfold Fp; simp [*])
end
end TwW
end
section
namespace TwW
open Go Tw Go.RowKit Go.Proofs.Tryz
section
variable {σ : Hp} {R : Rr}
abbrev tyV (x : Int × Int) : Value := .tuple #[.int .i64 x.1, .int .i64 x.2]
def YL (n : Nd) (a : Int) : Int × Int := if a = (if n.op = 11 ∨ n.op = 12 then 2 else 3) then (2, 0) else (0, 191)
def de (a : Int) : Int × Int := if a = 2 then (2, 0) else (0, 191)
def mJ (a : Int) : Int × Int := if a = 3 then (0, 191) else (a, 0)
theorem bB {w : Option Addr} {n : Nd} {p q r : Option Addr} {k c m d s t : Nat} {l : List Int} {a : Int} (hr : E7 .i64 σ r s l) (ha : l[0]? = some a) (h : R (.returned (tyV (YL n a))) σ) : Spec prog 82 #[.pointer w, Lh n p k c q m d, .slice r s t] σ R := by
 have hs : l.length = s := hr.1
 have h0 := (List.getElem?_eq_some_iff.1 ha).1
 obtain ⟨b, o, rfl, E6⟩ := E7.at hr ha
 have go : ∀ z : Int, (if n.op = 11 ∨ n.op = 12 then 2 else 3) = z → Bh.E5 R (some ⟨b, o, none⟩) s t z σ := fun z hz => by
   unfold YL at h
   rw [hz] at h
   refine Bh.FT ⟨b, o, rfl, by omega, a, by simpa using E6, fun A4 => ?_, fun heq => ?_⟩
   · rw [if_neg A4] at h; exact h
   · rw [if_pos (Decidable.not_not.1 heq)] at h; exact h
 exact Bh.start fun _ => ⟨fun h1 => go 2 (if_pos (.inl h1)), fun h1 => ⟨fun h2 => go 2 (if_pos (.inr h2)), fun h2 => go 3 (if_neg (by omega))⟩⟩
theorem fq {w : Option Addr} {n : Nd} {p q r : Option Addr} {k c m d s t : Nat} {l : List Int} {a : Int} (hr : E7 .i64 σ r s l) (ha : l[0]? = some a) (h : R (.returned (tyV (de a))) σ) : Spec prog 83 #[.pointer w, Lh n p k c q m d, .slice r s t] σ R := by
 have hs : l.length = s := hr.1
 have h0 := (List.getElem?_eq_some_iff.1 ha).1
 obtain ⟨b, o, rfl, E6⟩ := E7.at hr ha
 unfold de at h
 refine EX.start fun _ => ⟨b, o, rfl, by omega, a, by simpa using E6, fun A4 => ?_, fun heq => ?_⟩
 · rw [if_neg A4] at h; exact h
 · rw [if_pos (Decidable.not_not.1 heq)] at h; exact h
theorem ft {w : Option Addr} {n : Nd} {p q r : Option Addr} {k c m d s t : Nat} {l : List Int} {a : Int} (hr : E7 .i64 σ r s l) (ha : l[0]? = some a) (h : R (.returned (tyV (mJ a))) σ) : Spec prog 85 #[.pointer w, Lh n p k c q m d, .slice r s t] σ R := by
 have hs : l.length = s := hr.1
 have h0 := (List.getElem?_eq_some_iff.1 ha).1
 obtain ⟨b, o, rfl, E6⟩ := E7.at hr ha
 unfold mJ at h
 refine Em.start fun _ => ⟨b, o, rfl, by omega, a, by simpa using E6, fun heq => ?_, fun A4 => ⟨by omega, a, by simpa using E6, ?_⟩⟩
 · rw [if_pos heq] at h; exact h
 · rw [if_neg A4] at h; exact h
end
end TwW
end
section
namespace TwW
open Go Tw Go.RowKit Go.Proofs.Tryz
section
variable {σ : Hp} {R : Rr}
def fu (n : Nd) (a b : Int) : Int × Int := if a = 3 ∨ b = 3 ∨ ((11 ≤ n.op ∧ n.op ≤ 13 ∨ n.EO ≠ 0) ∧ ¬ (a = 2 ∧ b = 2)) ∨ (a = 1 ∧ b = 1 ∧ Er n.op = true ∧ n.bool = false) then (0, 192) else (if a < b then b else a, 0)
theorem fw {w : Option Addr} {n : Nd} {p q r : Option Addr} {k c m d s t : Nat} {l : List Int} {a b : Int} (hr : E7 .i64 σ r s l) (ha : l[0]? = some a) (hb : l[1]? = some b) (h : R (.returned (tyV (fu n a b))) σ) : Spec prog 84 #[.pointer w, Lh n p k c q m d, .slice r s t] σ R := by
 have hs : l.length = s := hr.1
 have h1 := (List.getElem?_eq_some_iff.1 hb).1
 obtain ⟨b1, o, rfl, E6⟩ := E7.at hr ha
 obtain ⟨_, _, he, AKi⟩ := E7.at hr hb
 cases he
 have bad : a = 3 ∨ b = 3 ∨ ((11 ≤ n.op ∧ n.op ≤ 13 ∨ n.EO ≠ 0) ∧ ¬ (a = 2 ∧ b = 2)) ∨ (a = 1 ∧ b = 1 ∧ Er n.op = true ∧ n.bool = false) → R (.returned (.tuple #[.int .i64 0, .int .i64 192])) σ := fun hh => by
   unfold fu at h; rw [if_pos hh] at h; exact h
 have good : ¬ (a = 3 ∨ b = 3 ∨ ((11 ≤ n.op ∧ n.op ≤ 13 ∨ n.EO ≠ 0) ∧ ¬ (a = 2 ∧ b = 2)) ∨ (a = 1 ∧ b = 1 ∧ Er n.op = true ∧ n.bool = false)) → R (.returned (.tuple #[.int .i64 (if a < b then b else a), .int .i64 0])) σ := fun hh => by
   unfold fu at h; rw [if_neg hh] at h; exact h
 clear h
 refine Ef.start fun _ => ⟨b1, o, rfl, by omega, a, by simpa using E6, by omega, b, by simpa using AKi, ?_⟩
 repeat' first
   | (apply PM; refine Exists.intro _ (And.intro rfl ?_))
   | (apply Ce; refine Exists.intro _ (And.intro rfl ?_))
   | (apply And.intro <;> intro _)
 all_goals first
   | (refine bad ?_; simp_all; done)
   | (refine good ?_; simp_all; done)
   | (refine bad ?_; simp_all; omega)
   | (refine good ?_; simp_all; omega)
end
end TwW
end
section
namespace TwW
open Go Tw Go.RowKit Go.Proofs.Tryz
theorem DH.en : Enters prog 96 := fun args w => call96 args w
theorem Dm.en : Enters prog 153 := fun args w => call153 args w
theorem DI.en : Enters prog 159 := fun args w => call159 args w
theorem BS.en : Enters prog 230 := fun args w => call230 args w
theorem BL.en : Enters prog 294 := fun args w => call294 args w
theorem EX.en : Enters prog 83 := fun args w => call83 args w
theorem Gi.en : Enters prog 155 := fun args w => call155 args w
theorem BN.en : Enters prog 187 := fun args w => call187 args w
theorem Io.en : Enters prog 226 := fun args w => call226 args w
theorem Iq.en : Enters prog 145 := fun args w => call145 args w
theorem Bh.en : Enters prog 82 := fun args w => call82 args w
theorem C8.en : Enters prog 105 := fun args w => call105 args w
theorem DK.en : Enters prog 139 := fun args w => call139 args w
theorem DL.en : Enters prog 185 := fun args w => call185 args w
theorem DM.en : Enters prog 189 := fun args w => call189 args w
theorem FU.en : Enters prog 224 := fun args w => call224 args w
theorem AT.en : Enters prog 103 := fun args w => call103 args w
theorem BE.en : Enters prog 106 := fun args w => call106 args w
theorem DN.en : Enters prog 158 := fun args w => call158 args w
theorem DO.en : Enters prog 171 := fun args w => call171 args w
theorem DP.en : Enters prog 191 := fun args w => call191 args w
theorem Ee.en : Enters prog 217 := fun args w => call217 args w
theorem Ef.en : Enters prog 84 := fun args w => call84 args w
theorem Bl.en : Enters prog 100 := fun args w => call100 args w
theorem Eh.en : Enters prog 154 := fun args w => call154 args w
theorem GI.en : Enters prog 198 := fun args w => call198 args w
theorem Cu.en : Enters prog 212 := fun args w => call212 args w
theorem Ej.en : Enters prog 218 := fun args w => call218 args w
theorem Ab.en : Enters prog 101 := fun args w => call101 args w
theorem AQ.en : Enters prog 102 := fun args w => call102 args w
theorem DR.en : Enters prog 127 := fun args w => call127 args w
theorem ND.en : Enters prog 144 := fun args w => call144 args w
theorem Fj.en : Enters prog 151 := fun args w => call151 args w
theorem Gn.en : Enters prog 152 := fun args w => call152 args w
theorem D0.en : Enters prog 220 := fun args w => call220 args w
theorem CA.en : Enters prog 71 := fun args w => call71 args w
theorem Em.en : Enters prog 85 := fun args w => call85 args w
theorem AO.en : Enters prog 104 := fun args w => call104 args w
theorem DT.en : Enters prog 193 := fun args w => call193 args w
theorem D1.en : Enters prog 219 := fun args w => call219 args w
instance : lk prog 99 9 3 := ⟨underlying99, underlying9⟩
instance : lr.oN prog 150 3 148 := ⟨underlying150, underlying3⟩
instance : lr.oN prog 191 3 190 := ⟨underlying191, underlying3⟩
instance : lk prog 197 9 200 := ⟨underlying197, underlying9⟩
instance : lr.oN prog 202 3 201 := ⟨underlying202, underlying3⟩
instance : lk prog 243 9 71 := ⟨underlying243, underlying9⟩
end TwW
end
section
namespace TwW
open Go Go.MapKept Tw Go.RowKit Go.Proofs.Tryz
section
variable {P : Program} {σ σ' : Hp} {R : Rr}
def bC (x : Int × Value) (n : Nat) : MapEntry := { key := .int .i64 x.1, val := x.2, born := n }
def MI (σ : Hp) (m : Nat) (l : List (Int × Value)) : Prop := ∃ (bs : List Nat) (clock : Nat), bs.length = l.length ∧ lr.BO σ m (List.zipWith bC l bs) clock
theorem MI.loc {m : Nat} {l : List (Int × Value)} (h : MI σ m l) (hx : σ' m = σ m) : MI σ' m l := let ⟨bs, c, h1, h2⟩ := h; ⟨bs, c, h1, h2.loc hx⟩
theorem MI.known {m : Nat} {l : List (Int × Value)} (h : MI σ m l) : σ m ≠ none := let ⟨bs, c, h1, h2⟩ := h; by rw [h2.1]; simp
theorem MI.fresh {m : Nat} : MI (σ.set m (.map #[] 0)) m [] := ⟨[], 0, rfl, lr.BO.fresh⟩
theorem MI.put {T K V : TypeId} [lr.oN P T K V] {m : Nat} {l : List (Int × Value)} {x : Int} {v : Value} {Φ : Unit → Hp → Prop} (h : MI σ m l) (hn : ∀ a ∈ l, a.1 ≠ x)
   (hΦ : ∀ o, MI (σ.set m o) m (l ++ [(x, v)]) → Φ () (σ.set m o)) : AJ P (Instr.mapUpdate T (.map (some m)) (.int .i64 x) v) σ Φ := by
 obtain ⟨bs, clock, hb, hm⟩ := h
 refine lr.Hd hm (fun Dy σ' hσ hm' => ?_) fun l1 e l2 hl he σ' hσ hm' => ?_
 · subst hσ
   refine hΦ _ ⟨bs ++ [clock], clock + 1, by simp [hb], ?_⟩
   rw [List.zipWith_append hb.symm]
   exact hm'
 · have mK : e ∈ List.zipWith bC l bs := by rw [hl]; simp
   obtain ⟨i, hi⟩ := List.mem_iff_getElem?.1 mK
   rw [List.getElem?_zipWith] at hi
   cases qf : l[i]? with
   | none => rw [qf] at hi; cases hi
   | some a =>
     cases hbi : bs[i]? with
     | none => rw [qf, hbi] at hi; cases hi
     | some b =>
       rw [qf, hbi] at hi
       simp only [Option.some.injEq] at hi
       subst hi
       have := hn a (List.mem_of_getElem? qf)
       simp only [bC, Value.int.injEq, true_and] at he
       exact absurd he this
theorem MI.look {T K V : TypeId} [lr.oN P T K V] {m : Nat} {l : List (Int × Value)} {x : Int} {z : Value} {Φ : Value → Hp → Prop} (h : MI σ m l) (hz : ∀ w, (zeroValue V).run P w = .ok z w)
   (h0 : (∀ a ∈ l, a.1 ≠ x) → Φ z σ) (h1 : ∀ v, (x, v) ∈ l → Φ v σ) : AJ P (Instr.lookup T (.map (some m)) (.int .i64 x) false) σ Φ := by
 obtain ⟨bs, clock, hb, hm⟩ := h
 refine lr.MV hm hz (fun Dy => h0 fun a ha hax => ?_) fun l1 e l2 hl he => ?_
 · obtain ⟨i, hi⟩ := List.mem_iff_getElem?.1 ha
   have Au := (List.getElem?_eq_some_iff.1 hi).1
   have hm : bC a (bs[i]'(by omega)) ∈ List.zipWith bC l bs := List.mem_iff_getElem?.2 ⟨i, by rw [List.getElem?_zipWith, hi, List.getElem?_eq_getElem (by omega)]⟩
   exact Dy _ hm (by rw [← hax]; rfl)
 · have mK : e ∈ List.zipWith bC l bs := by rw [hl]; simp
   obtain ⟨i, hi⟩ := List.mem_iff_getElem?.1 mK
   rw [List.getElem?_zipWith] at hi
   cases qf : l[i]? with
   | none => rw [qf] at hi; cases hi
   | some a =>
     cases hbi : bs[i]? with
     | none => rw [qf, hbi] at hi; cases hi
     | some b =>
       rw [qf, hbi] at hi
       simp only [Option.some.injEq] at hi
       subst hi
       simp only [bC, Value.int.injEq, true_and] at he
       subst he
       exact h1 a.2 (List.mem_of_getElem? qf)
def mL (τ σ : Hp) (m : Nat) (l : List (Int × Value)) : Prop := Ext τ σ ∧ τ m = none ∧ MI σ m l
theorem mL.fresh {τ : Hp} {m : Nat} (h : τ m = none) : mL τ (τ.set m (.map #[] 0)) m [] := ⟨.set h, h, MI.fresh⟩
theorem mL.alloc {τ : Hp} {m b : Nat} {l : List (Int × Value)} {o : Obj} (h : mL τ σ m l) (hb : σ b = none) : mL (τ.set b o) (σ.set b o) m l := by
 have A4 : m ≠ b := fun e => h.2.2.known (by rw [e]; exact hb)
 refine ⟨fun k u hk => ?_, by rw [Hp.AI A4]; exact h.2.1, h.2.2.loc (Hp.AI A4)⟩
 by_cases HC : k = b
 · subst HC; rw [Hp.AB] at hk ⊢; exact hk
 · rw [Hp.AI HC] at hk ⊢; exact h.1 _ _ hk
theorem mL.put {τ : Hp} {T K V : TypeId} [lr.oN P T K V] {m : Nat} {l : List (Int × Value)} {x : Int} {v : Value} {Φ : Unit → Hp → Prop} (h : mL τ σ m l) (hn : ∀ a ∈ l, a.1 ≠ x)
   (hΦ : ∀ σ', mL τ σ' m (l ++ [(x, v)]) → Φ () σ') : AJ P (Instr.mapUpdate T (.map (some m)) (.int .i64 x) v) σ Φ :=
 h.2.2.put hn fun o ho => hΦ _ ⟨fun k u hk => by rw [Hp.AI (fun e => by rw [e, h.2.1] at hk; cases hk)]; exact h.1 _ _ hk, h.2.1, ho⟩
section
variable {α : Type}
theorem SX {l : List (ByteArray × α)} {k : ByteArray} (h : ∀ a ∈ l, a.1 ≠ k) : DW l k = none := by
 induction l with
 | nil => rfl
 | cons a l ih => rw [DW, if_neg (h a (by simp))]; exact ih fun b hb => h b (List.mem_cons_of_mem _ hb)
theorem UX {l m : List (ByteArray × α)} {k : ByteArray} {y : α} (h : ∀ a ∈ l, a.1 ≠ k) : DW (l ++ (k, y) :: m) k = some y := by
 induction l with
 | nil => simp [DW]
 | cons a l ih => rw [List.cons_append, DW, if_neg (h a (by simp))]; exact ih fun b hb => h b (List.mem_cons_of_mem _ hb)
theorem OX {l : List (ByteArray × α)} {k : ByteArray} {y : α} (h : ∀ a ∈ l, a.1 ≠ k) : VW l k y = l ++ [(k, y)] := by
 induction l with
 | nil => rfl
 | cons a l ih => rw [VW, if_neg (h a (by simp)), ih fun b hb => h b (List.mem_cons_of_mem _ hb)]; rfl
theorem YM {l m : List (ByteArray × α)} {k : ByteArray} {y z : α} (h : ∀ a ∈ l, a.1 ≠ k) : VW (l ++ (k, z) :: m) k y = l ++ (k, y) :: m := by
 induction l with
 | nil => simp [VW]
 | cons a l ih => rw [List.cons_append, VW, if_neg (h a (by simp)), ih fun b hb => h b (List.mem_cons_of_mem _ hb)]; rfl
def MS (E : Value → α → Prop) (σ : Hp) (m : Nat) (L : List (ByteArray × α)) : Prop :=
 ∃ (l : List MapEntry) (clock : Nat), BO σ m l clock ∧ l.length = L.length ∧ ∀ (i : Nat) (e : MapEntry) (x : ByteArray × α), l[i]? = some e → L[i]? = some x → e.key = .string x.1 ∧ E e.val x.2
theorem MS.mono {E : Value → α → Prop} {m : Nat} {L : List (ByteArray × α)} (h : MS E σ m L) (hx : Ext σ σ') : MS E σ' m L := let ⟨l, c, h1, h2⟩ := h; ⟨l, c, h1.mono hx, h2⟩
theorem MS.loc {E : Value → α → Prop} {m : Nat} {L : List (ByteArray × α)} (h : MS E σ m L) (hx : σ' m = σ m) : MS E σ' m L := let ⟨l, c, h1, h2⟩ := h; ⟨l, c, h1.loc hx, h2⟩
theorem MS.imp {E E' : Value → α → Prop} {m : Nat} {L : List (ByteArray × α)} (h : MS E σ m L) (hE : ∀ v x, E v x → E' v x) : MS E' σ m L := let ⟨l, c, h1, h2, h3⟩ := h; ⟨l, c, h1, h2, fun i e x he hx => ⟨(h3 i e x he hx).1, hE _ _ (h3 i e x he hx).2⟩⟩
theorem MS.known {E : Value → α → Prop} {m : Nat} {L : List (ByteArray × α)} (h : MS E σ m L) : σ m ≠ none := let ⟨l, c, h1, h2⟩ := h; by rw [h1.1]; simp
theorem MS.fresh {E : Value → α → Prop} {m : Nat} : MS E (σ.set m (.map #[] 0)) m [] := ⟨[], 0, BO.fresh, rfl, fun i e x he => by simp at he⟩
theorem MS.len {E : Value → α → Prop} {T K V ty : TypeId} [lk P T K V] {m : Nat} {L : List (ByteArray × α)} (h : MS E σ m L) : YF P (Builtin.len_ #[T] ty #[.map (some m)]) σ (.int .i64 L.length) := by
 obtain ⟨l, c, h1, h2, h3⟩ := h
 rw [← h2]; exact ll h1
theorem SY {E : Value → α → Prop} {l l1 l2 : List MapEntry} {e : MapEntry} {L : List (ByteArray × α)} {s : ByteArray} (hn : (l.map (·.key)).Nodup) (h2 : l.length = L.length) (h3 : ∀ (i : Nat) (e : MapEntry) (x : ByteArray × α), l[i]? = some e → L[i]? = some x → e.key = .string x.1 ∧ E e.val x.2) (hl : l = l1 ++ e :: l2) (he : e.key = .string s) :
   ∃ L1 x L2, L = L1 ++ (s, x) :: L2 ∧ L1.length = l1.length ∧ (∀ a ∈ L1, a.1 ≠ s) ∧ E e.val x := by
 subst hl
 have Au : l1.length < L.length := by rw [← h2]; simp
 have Mc : L = L.take l1.length ++ L[l1.length] :: L.drop (l1.length + 1) := by rw [List.getElem_cons_drop, List.take_append_drop]
 have hx := h3 l1.length e L[l1.length] (by simp) (List.getElem?_eq_getElem _)
 rw [he] at hx
 have hk : L[l1.length].1 = s := by simpa using hx.1.symm
 refine ⟨L.take l1.length, L[l1.length].2, L.drop (l1.length + 1), ?_, by rw [List.length_take]; omega, fun a ha has => ?_, hx.2⟩
 · rw [← hk]; exact Mc
 · obtain ⟨i, hi⟩ := List.mem_iff_getElem?.1 ha
   rw [List.getElem?_take] at hi
   split at hi
   · rename_i uf
     have hle : (l1 ++ e :: l2)[i]? = some (l1[i]'uf) := by rw [List.getElem?_append_left uf, List.getElem?_eq_getElem uf]
     have h4 := (h3 i _ a hle hi).1
     rw [List.map_append, List.map_cons, List.nodup_append] at hn
     exact hn.2.2 _ (List.mem_map.2 ⟨l1[i]'uf, List.getElem_mem uf, rfl⟩) _ (by simp; exact .inl rfl) (by rw [h4, he, has])
   · cases hi
theorem MS.qg {E : Value → α → Prop} {l : List MapEntry} {L : List (ByteArray × α)} {s : ByteArray} (h2 : l.length = L.length) (h3 : ∀ (i : Nat) (e : MapEntry) (x : ByteArray × α), l[i]? = some e → L[i]? = some x → e.key = .string x.1 ∧ E e.val x.2) (Dy : ∀ e ∈ l, e.key ≠ .string s) : ∀ a ∈ L, a.1 ≠ s := fun a ha has => by
 obtain ⟨i, hi⟩ := List.mem_iff_getElem?.1 ha
 have Au := (List.getElem?_eq_some_iff.1 hi).1
 have := (h3 i (l[i]'(by omega)) a (List.getElem?_eq_getElem _) hi).1
 exact Dy _ (List.getElem_mem _) (by rw [this, has])
theorem MS.look {E : Value → α → Prop} {T K V : TypeId} [lk P T K V] {m : Nat} {L : List (ByteArray × α)} {s : ByteArray} {z : Value} {Φ : Value → Hp → Prop} (h : MS E σ m L) (hz : ∀ w, (zeroValue V).run P w = .ok z w)
   (h0 : DW L s = none → Φ z σ) (h1 : ∀ v x, DW L s = some x → E v x → Φ v σ) : AJ P (Instr.lookup T (.map (some m)) (.string s) false) σ Φ := by
 obtain ⟨l, c, hm, h2, h3⟩ := h
 refine MV hm hz (fun Dy => h0 (SX (MS.qg h2 h3 Dy))) fun l1 e l2 hl he => ?_
 obtain ⟨L1, x, L2, rfl, _, Dy, hE⟩ := SY hm.nodup h2 h3 hl he
 exact h1 e.val x (UX Dy) hE
theorem MS.YO {E : Value → α → Prop} {T K V : TypeId} [t : lk P T K V] {m : Nat} {L : List (ByteArray × α)} {s : ByteArray} {z : Value} {Φ : Value → Hp → Prop} (h : MS E σ m L) (hz : ∀ w, (zeroValue V).run P w = .ok z w)
   (h0 : DW L s = none → Φ (.tuple #[z, .bool false]) σ) (h1 : ∀ v x, DW L s = some x → E v x → Φ (.tuple #[v, .bool true]) σ) : AJ P (Instr.lookup T (.map (some m)) (.string s) true) σ Φ := by
 obtain ⟨l, c, hm, h2, h3⟩ := h
 rcases FJ (s := s) hm.2.2 with ⟨hf, Dy⟩ | ⟨l1, e, l2, hl, he, hf⟩
 · refine AJ.pu (fun w hs => ?_) (h0 (SX (MS.qg h2 h3 Dy)))
   have := hs _ _ hm.1
   simp [Instr.lookup, run_underlying t.cB, run_getObj_map this, run_checkKey t.key (k := .string s) trivial, run_findKey t.key hf, hz, Result.andThen]
 · obtain ⟨L1, x, L2, rfl, _, Dy, hE⟩ := SY hm.nodup h2 h3 hl he
   refine AJ.pu (fun w hs => ?_) (h1 e.val x (UX Dy) hE)
   have := hs _ _ hm.1
   simp [Instr.lookup, run_underlying t.cB, run_getObj_map this, run_checkKey t.key (k := .string s) trivial, run_findKey t.key hf, Result.andThen]
theorem MS.put {E : Value → α → Prop} {T K V : TypeId} [lk P T K V] {m : Nat} {L : List (ByteArray × α)} {s : ByteArray} {v : Value} {x : α} {Φ : Unit → Hp → Prop} (h : MS E σ m L) (hv : E v x)
   (hΦ : ∀ o, MS E (σ.set m o) m (VW L s x) → Φ () (σ.set m o)) : AJ P (Instr.mapUpdate T (.map (some m)) (.string s) v) σ Φ := by
 obtain ⟨l, c, hm, h2, h3⟩ := h
 refine Hd hm (fun Dy σ' hσ hm' => ?_) fun l1 e l2 hl he σ' hσ hm' => ?_
 · subst hσ
   refine hΦ _ ⟨_, _, hm', ?_, fun i e y hi hy => ?_⟩
   · rw [OX (MS.qg h2 h3 Dy)]; simp [h2]
   · rw [OX (MS.qg h2 h3 Dy)] at hy
     rw [List.getElem?_append] at hi hy
     split at hi
     · rename_i Au
       rw [if_pos (by omega)] at hy
       exact h3 i e y hi hy
     · rename_i Au
       rw [if_neg (by omega)] at hy
       rw [← h2] at hy
       cases hj : i - l.length with
       | zero =>
         rw [hj] at hi hy
         simp only [List.getElem?_cons_zero, Option.some.injEq] at hi hy
         subst hi; subst hy
         exact ⟨rfl, hv⟩
       | succ j => rw [hj] at hi; simp at hi
 · obtain ⟨L1, y, L2, rfl, hlen, Dy, hE⟩ := SY hm.nodup h2 h3 hl he
   subst hσ
   subst hl
   refine hΦ _ ⟨_, _, hm', ?_, fun i e' z hi hz => ?_⟩
   · rw [YM Dy]; simp at h2 ⊢; omega
   · rw [YM Dy] at hz
     by_cases uf : i = l1.length
     · subst uf
       rw [← hlen] at hz
       simp at hi hz
       subst hi; subst hz
       exact ⟨rfl, hv⟩
     · have e1 : (l1 ++ Tw.Mu s v e.born :: l2)[i]? = (l1 ++ e :: l2)[i]? := by
         rcases Nat.lt_or_ge i l1.length with h | h
         · rw [List.getElem?_append_left h, List.getElem?_append_left h]
         · obtain ⟨k, rfl⟩ : ∃ k, i = l1.length + (k + 1) := ⟨i - l1.length - 1, by omega⟩
           simp [List.getElem?_append_right]
       have e2 : (L1 ++ (s, x) :: L2)[i]? = (L1 ++ (s, y) :: L2)[i]? := by
         rcases Nat.lt_or_ge i L1.length with h | h
         · rw [List.getElem?_append_left h, List.getElem?_append_left h]
         · obtain ⟨k, rfl⟩ : ∃ k, i = L1.length + (k + 1) := ⟨i - L1.length - 1, by omega⟩
           simp [List.getElem?_append_right]
       exact h3 i e' z (by rw [← e1]; exact hi) (by rw [← e2]; exact hz)
end
end
end TwW
end
section
namespace TwW
open Go Tw Go.RowKit Go.Proofs.Tryz
def Nv (n : Nd) (l : List Int) : Int × Int :=
 if n.kind = 1 then (1, 0) else if n.kind = 2 then (2, 0) else if n.kind = 3 then (3, 0) else if n.kind = 4 then YL n (l[0]?.getD 0) else if n.kind = 5 then de (l[0]?.getD 0)
 else if n.kind = 6 then fu n (l[0]?.getD 0) (l[1]?.getD 0) else mJ (l[0]?.getD 0)
def BM (n : Nd) (st : List Int) : Int × List Int :=
 if E9 n = false ∨ (st.length : Int) < n.parts then (190, st) else if Gv Db n.mt ≠ 0 then (193, st) else
   ((Nv n (st.drop (st.length - n.parts.toNat))).2, st.take (st.length - n.parts.toNat) ++ [(Nv n (st.drop (st.length - n.parts.toNat))).1])
theorem IF {n : Nd} (h : E9 n = true) : Fp n = true := by
 unfold E9 at h
 simp only [Bool.and_eq_true] at h
 exact h.2
theorem OY {n : Nd} (h : E9 n = true) : F5 n (BH n) = true := by
 unfold E9 at h
 simp only [Bool.and_eq_true] at h
 exact h.1.1.1
theorem A9.AI {s b : Nat} {o : Obj} {σ : Hp} {p : Option Addr} {n c : Nat} {cs : List Value} (ho : A9 s σ p n c cs) (h : ∀ a, p = some a → a.block ≠ b) : A9 s (σ.set b o) p n c cs :=
 ⟨ho.1, ho.2.1, ho.2.2.imp id fun ⟨b', o', arr, T, hp, hb, r⟩ => ⟨b', o', arr, T, hp, by rw [Hp.AI (h _ hp)]; exact hb, r⟩⟩
theorem qh : ∀ w, (zeroValue 148).run prog w = .ok .nilFunc w := fun w => by
 have h : prog.info? 148 = some t148 := by kernel_rfl
 simp [zeroValue, typeInfo, h]
 rfl
structure bD (σ0 σ : Hp) (wb : Nat) (p : Option Addr) (n c : Nat) (st : List Int) : Prop where
 cell : σ wb = some (.cells #[.slice p n c] 110 (0, 0))
 own : Dj .i64 σ p n c st
 off : ∀ a, p = some a → a.block ≠ wb ∧ σ0 a.block = none
 new : σ0 wb = none
 ext : Ext σ0 σ
section
variable {σ σ' σ0 : Hp} {R : Rr}
theorem bD.mono {wb : Nat} {p : Option Addr} {n c : Nat} {st : List Int} (h : bD σ0 σ wb p n c st) (hx : Ext σ σ') : bD σ0 σ' wb p n c st := ⟨hx _ _ h.cell, h.own.mono hx, h.off, h.new, h.ext.trans hx⟩
theorem OZ {k : Int} (h : ∀ b, σ b = none → R (.returned (.func (.func 127) #[] #[.pointer (aD b 0)])) (σ.set b (.cells #[.int .i64 k] 3 (0, 0)))) : Spec prog 81 #[.int .i64 k] σ R := Rx.start h
theorem Md {n : Nd} {p q r : Option Addr} {k c m d s t b : Nat} {v : Int} (hb : σ b = some (.cells #[.int .i64 v] 3 (0, 0))) (h : R (.returned (tyV (v, 0))) σ) : Spec prog 127 #[Lh n p k c q m d, .slice r s t, .pointer (aD b 0)] σ R :=
 DR.start fun _ => ⟨v, Ac hb rfl, h⟩
theorem qi : ∀ w, (Go.sizeOf 108).run prog w = .ok 1 w := fun w => by kernel_rfl
theorem fx {wb : Nat} {p q r : Option Addr} {k c m d j e : Nat} {st : List Int} {n : Nd} (hW : bD σ0 σ wb r j e st) (hm : Af 3 Nu σ0 p k n.mt) (hr : Ez 1 σ0 q m (n.names.map .string)) (hb : n.text.size ≤ 4611686018427387904) (hj : j ≤ 1000000000000)
   (h : ∀ r' j' e' σ', (BM n st).1 = 0 → bD σ0 σ' wb r' j' e' (BM n st).2 → R (.returned (.int .i64 0)) σ') (h' : ∀ σ', (BM n st).1 ≠ 0 → Ext σ0 σ' → R (.returned (.int .i64 (BM n st).1)) σ') :
   Spec prog 53 #[.pointer (some ⟨wb, 0, none⟩), Lh n p k c q m d] σ R := by
 have hk : n.mt.length = k := hm.1
 have hsl : st.length = j := by have := hW.own.1; simpa using this
 refine JE.start fun _ => fp hk (hr.mono hW.ext) hb fun σ1 CD => ⟨_, rfl, fun hf => ?_, fun ht => ?_⟩
 · have e1 : BM n st = (190, st) := by unfold BM; rw [if_pos (.inl hf)]
   rw [e1] at h'
   exact h' σ1 (by dsimp only; decide) (hW.ext.trans CD)
 have hW1 := hW.mono CD
 refine ⟨wb, 0, rfl, r, j, e, Ac hW1.cell rfl, fun Au => ?_, fun fV => PN (hm.mono Nu.mono hW1.ext) ⟨_, rfl, fun A4 => ?_, fun h0 => ?_⟩⟩
 · have e1 : BM n st = (190, st) := by unfold BM; rw [if_pos (.inr (by omega))]
   rw [e1] at h'
   exact h' σ1 (by dsimp only; decide) hW1.ext
 · have e1 : BM n st = (193, st) := by unfold BM; rw [if_neg (by rw [ht]; simp; omega), if_pos A4]
   rw [e1] at h'
   exact h' σ1 (by dsimp only; decide) hW1.ext
 have dW := Decidable.not_not.1 h0
 have eS : BM n st = ((Nv n (st.drop (st.length - n.parts.toNat))).2, st.take (st.length - n.parts.toNat) ++ [(Nv n (st.drop (st.length - n.parts.toNat))).1]) := by
   unfold BM; rw [if_neg (by rw [ht]; simp; omega), if_neg h0]
 rw [eS] at h h'
 dsimp only at h h'
 have Cw := IF ht
 have AKk : 0 ≤ n.parts := by
   unfold Fp at Cw
   have hp := OY ht
   by_cases h1 : n.kind = 1
   · unfold F5 BH at hp; simp [h1] at hp; omega
   by_cases h2 : n.kind = 2
   · unfold F5 BH at hp; simp [h2] at hp; omega
   by_cases h3 : n.kind = 3
   · unfold F5 BH at hp; simp [h3] at hp; omega
   rw [if_neg h1, if_neg h2, if_neg h3] at Cw
   split at Cw
   · simp at Cw; omega
   · split at Cw
     · simp at Cw; omega
     · split at Cw
       · simp at Cw; omega
       · simp at Cw; omega
 obtain ⟨t, hpt⟩ : ∃ t : Nat, n.parts = t := ⟨n.parts.toNat, by omega⟩
 have htj : t ≤ j := by omega
 have htn : n.parts.toNat = t := by omega
 rw [htn, hsl] at h h'
 refine EG fun mb mM => ⟨mb, rfl, ?_⟩
 have s0 := mL.fresh mM
 refine OZ fun b1 ZH => ⟨_, _, _, rfl, ?_⟩
 have s1 := s0.alloc (o := .cells #[.int .i64 1] 3 (0, 0)) ZH
 refine s1.put (by simp) fun σ2 s2 => OZ fun b2 PY => ⟨_, _, _, rfl, ?_⟩
 have s3 := s2.alloc (o := .cells #[.int .i64 2] 3 (0, 0)) PY
 refine s3.put (by simp) fun σ4 s4 => OZ fun b3 ZF => ⟨_, _, _, rfl, ?_⟩
 have s5 := s4.alloc (o := .cells #[.int .i64 3] 3 (0, 0)) ZF
 refine s5.put (by simp) fun σ6 s6 => s6.put (by simp) fun σ7 s7 => s7.put (by simp) fun σ8 s8 => s8.put (by simp) fun σ9 s9 => s9.put (by simp) fun σA sA => ?_
 clear s0 s1 s3 s5 s6 s7 s8 s9
 have n1 : σ1 b1 = none := (Hp.AU ZH).2
 have n2 : (σ1.set b1 (.cells #[.int .i64 1] 3 (0, 0))) b2 = none := A5 s2.1 PY
 have n3 : ((σ1.set b1 (.cells #[.int .i64 1] 3 (0, 0))).set b2 (.cells #[.int .i64 2] 3 (0, 0))) b3 = none := A5 s4.1 ZF
 have x1 : Ext σ1 σA := (Ext.set n1).trans ((Ext.set n2).trans ((Ext.set n3).trans sA.1))
 have c3 := sA.1 b3 _ (Hp.AB _ _ _)
 have c2 := sA.1 b2 _ ((Ext.set n3) _ _ (Hp.AB _ _ _))
 have c1 := sA.1 b1 _ ((Ext.set n3) _ _ ((Ext.set n2) _ _ (Hp.AB _ _ _)))
 have fy := hW1.mono x1
 have hlA := sA.2.2
 clear s2 s4 sA n1 n2 n3 ZH PY ZF
 simp only [List.nil_append, List.cons_append] at hlA
 have e1 : Int.toNat ((j : Int) - n.parts) = j - t := by omega
 refine ⟨r, j, e, Ac fy.cell rfl, by unfold AN; omega, r, j, e, Ac fy.cell rfl, by omega, ?_⟩
 have hce : j ≤ e := A9.cap fy.own
 have Vd : E7 .i64 σA (IK r (j - t) e 1) (j - (j - t)) (st.drop (j - t)) := by
   have := Af.sub (i := j - t) (m := j - (j - t)) (Dj.rd fy.own) (by decide) (by omega) hce
   rwa [List.take_of_length_le (by rw [List.length_drop]; omega)] at this
 have Vd : E7 .i64 σA (IK r (Int.toNat ((j : Int) - n.parts)) e 1) (j - Int.toNat ((j : Int) - n.parts)) (st.drop (j - t)) := by rw [e1]; exact Vd
 have fin : ∀ x : Int × Int, x = Nv n (st.drop (j - t)) → AA R (fun z aC => ∃ U8 Hc, z = (.tuple #[.int .i64 U8, .int .i64 Hc]) ∧ LS aC wb 0 fun oE jq cw => ((0 : Int) ≤ ((j : Int) - n.parts) ∧ ((j : Int) - n.parts) ≤ (cw : Int)) ∧ Al aC fun U2 => AJ prog (Builtin.append_ #[108, 108] 108 #[(.slice oE (Int.toNat ((j : Int) - n.parts)) cw), (.slice (aD U2 0) 1 1)]) (Hp.set aC U2 (.cells #[.int .i64 U8] 113 (0, 0))) (CS fun p72 n72 c72 xA => AJ prog (Instr.storeAt 108 (.pointer (aD wb 0)) (.slice p72 n72 c72)) xA (fun _ xB => R (.returned (.int .i64 Hc)) xB))) (.returned (tyV x)) σA := fun x hx => by
   rw [← hx] at h h'
   refine ⟨x.1, x.2, rfl, r, j, e, Ac fy.cell rfl, by omega, fun U2 mN => ?_⟩
   rw [e1]
   have BY := (A9.take (m := j - t) fy.own (by omega)).mono (Ext.set (o := .cells #[.int .i64 x.1] 113 (0, 0)) mN)
   refine Dz BY (VV (f := .int .i64) (x := x.1) (Hp.AB _ _ _)) GF.P2 (by omega) fun p' c' σB yi ug => ⟨_, _, _, rfl, ?_⟩
   have hwb : ∀ a, r = some a → wb ≠ a.block := fun a ha => Ne.symm (fy.off a ha).1
   have Nw : wb ≠ U2 := fun e => by rw [← e, fy.cell] at mN; cases mN
   obtain ⟨g1, g2⟩ := AR.1 (ug wb _ (AR.2 ⟨hwb, (Ext.set mN) _ _ fy.cell⟩))
   have hE0 : Ext σ0 (σB.del p') := fun k u hk => ug k u (AR.2 ⟨fun a ha iO => (by rw [iO, (fy.off a ha).2] at hk; cases hk), (Ext.set mN) _ _ (fy.ext _ _ hk)⟩)
   refine AJ.store qi g2 rfl (by simp) (by simp [Value.cells, Value.oneCell']) ?_
   have qj : bD σ0 (σB.set wb (.cells (Mk #[.slice r j e] 0 (Value.slice p' (j - t + 1) c').cells.toList) 110 (0, 0))) wb p' (j - t + 1) c' (st.take (j - t) ++ [x.1]) := by
     refine ⟨by rw [Hp.AB]; simp [Mk, Value.cells], ?_, fun a ha => ⟨fun e => g1 a ha e.symm, ?_⟩, fy.new, fun k u hk => ?_⟩
     · have := A9.AI (b := wb) (o := .cells (Mk #[.slice r j e] 0 (Value.slice p' (j - t + 1) c').cells.toList) 110 (0, 0)) yi (fun a ha e => g1 a ha e.symm)
       unfold Dj
       rw [List.map_append, List.map_take]
       simpa using this
     · cases hh : σ0 a.block with
       | none => rfl
       | some u => exact absurd rfl ((AR.1 (hE0 _ _ hh)).1 a ha)
     · rw [Hp.AI (fun e => by rw [e, fy.new] at hk; cases hk)]
       exact (AR.1 (hE0 _ _ hk)).2
   by_cases hz : x.2 = 0
   · rw [hz]; exact h _ _ _ _ hz qj
   · exact h' _ hz qj.ext
 have part : ∀ i, i < t → ∃ v, (st.drop (j - t))[i]? = some v := fun i hi => ⟨_, List.getElem?_eq_getElem (by rw [List.length_drop]; omega)⟩
 refine hlA.look qh (fun Dy => ?_) fun v hv => ⟨v, rfl, Kp.HT (.refl _), ?_⟩
 · exfalso
   unfold Fp at Cw
   have g := fun i => Dy i
   simp only [List.mem_cons, List.not_mem_nil, or_false, forall_eq_or_imp, forall_eq] at Dy
   obtain ⟨a1, a2, a3, a4, a5, a6, a7⟩ := Dy
   rw [if_neg (Ne.symm a1), if_neg (Ne.symm a2), if_neg (Ne.symm a3), if_neg (Ne.symm a4), if_neg (Ne.symm a5), if_neg (Ne.symm a6)] at Cw
   exact a7 (of_decide_eq_true Cw).1.symm
 simp only [List.mem_cons, List.not_mem_nil, or_false, Prod.mk.injEq] at hv
 rcases hv with ⟨hn, rfl⟩ | ⟨hn, rfl⟩ | ⟨hn, rfl⟩ | ⟨hn, rfl⟩ | ⟨hn, rfl⟩ | ⟨hn, rfl⟩ | ⟨hn, rfl⟩
 · exact ⟨127, _, _, rfl, DR.en, Md c1 (fin _ (by unfold Nv; rw [if_pos hn]))⟩
 · exact ⟨127, _, _, rfl, DR.en, Md c2 (fin _ (by unfold Nv; rw [if_neg (by omega), if_pos hn]))⟩
 · exact ⟨127, _, _, rfl, DR.en, Md c3 (fin _ (by unfold Nv; rw [if_neg (by omega), if_neg (by omega), if_pos hn]))⟩
 · have ht1 : t = 1 := by unfold Fp at Cw; simp [hn] at Cw; omega
   obtain ⟨v, hv⟩ := part 0 (by omega)
   exact ⟨82, _, _, rfl, Bh.en, bB Vd hv (fin _ (by unfold Nv; rw [if_neg (by omega), if_neg (by omega), if_neg (by omega), if_pos hn, hv]; rfl))⟩
 · have ht1 : t = 1 := by unfold Fp at Cw; simp [hn] at Cw; omega
   obtain ⟨v, hv⟩ := part 0 (by omega)
   exact ⟨83, _, _, rfl, EX.en, fq Vd hv (fin _ (by unfold Nv; rw [if_neg (by omega), if_neg (by omega), if_neg (by omega), if_neg (by omega), if_pos hn, hv]; rfl))⟩
 · have ht1 : t = 2 := by unfold Fp at Cw; simp [hn] at Cw; omega
   obtain ⟨v, hv⟩ := part 0 (by omega)
   obtain ⟨u, hu⟩ := part 1 (by omega)
   exact ⟨84, _, _, rfl, Ef.en, fw Vd hv hu (fin _ (by unfold Nv; rw [if_neg (by omega), if_neg (by omega), if_neg (by omega), if_neg (by omega), if_neg (by omega), if_pos hn, hv, hu]; rfl))⟩
 · have ht1 : t = 1 := by unfold Fp at Cw; simp [hn] at Cw; omega
   obtain ⟨v, hv⟩ := part 0 (by omega)
   exact ⟨85, _, _, rfl, Em.en, ft Vd hv (fin _ (by unfold Nv; rw [if_neg (by omega), if_neg (by omega), if_neg (by omega), if_neg (by omega), if_neg (by omega), if_neg (by omega), hv]; rfl))⟩
def DX : List Nd → List Int → Option (List Int)
 | [], st => some st
 | n :: t, st => if (BM n st).1 = 0 then DX t (BM n st).2 else none
def uh (t : List Nd) : Option (List Int) → Option Int
 | some [k] => if t.length ≤ 4096 then some k else none
 | _ => none
def G8 (t : List Nd) : Option Int := uh t (DX t [])
theorem MY.at {p : Option Addr} {n i : Nat} {t : List Nd} {x : Nd} (hr : Af 10 MY σ p n t) (hx : t[i]? = some x) : ∃ b o p1 k c q m d, p = some ⟨b, o, none⟩ ∧ Aq σ b (o + i * 10) [.int .i64 x.kind, .int .i64 x.op, .string x.text, .slice p1 k c, .int .i64 x.width, .int .i64 x.back, .int .i64 x.EO, .slice q m d, .bool x.bool, .int .i64 x.parts] ∧ Af 3 Nu σ p1 k x.mt ∧ Ez 1 σ q m (x.names.map .string) := by
 obtain ⟨b, o, vs, hp, ⟨p1, k, c, q, m, d, rfl, h1, h2⟩, hl⟩ := Af.idx hr hx
 exact ⟨b, o, p1, k, c, q, m, d, hp, hl, h1, h2⟩
theorem mO {n : Nd} {st : List Int} : (BM n st).2.length ≤ st.length + 1 := by
 unfold BM
 split
 · exact Nat.le_succ _
 · split
   · exact Nat.le_succ _
   · simp only [List.length_append, List.length_take, List.length_singleton]; omega
theorem SZ {p : Option Addr} {n c : Nat} {t : List Nd} (hr : Af 10 MY σ p n t) (hn : n ≤ 1000000000) (hb : ∀ x ∈ t, x.text.size ≤ 4611686018427387904)
   (h : ∀ k σ', G8 t = some k → Ext σ σ' → R (.returned (.tuple #[.int .i64 k, .int .i64 0, .int .i64 0])) σ') (h' : ∀ k j e σ', G8 t = none → e ≠ 0 → Ext σ σ' → R (.returned (.tuple #[.int .i64 k, .int .i64 j, .int .i64 e])) σ') :
   Spec prog 37 #[.slice p n c] σ R := by
 have hl : t.length = n := hr.1
 refine FZ.start fun wb hwb => ?_
 suffices H : ∀ g k : Nat, ∀ r j e st σ', n - k = g → k ≤ n → j ≤ k → bD σ σ' wb r j e st → DX t [] = DX (t.drop k) st → FZ.A2 R p n c (aD wb 0) p n c n k σ' from
   H n 0 none 0 0 [] _ rfl (Nat.zero_le _) (Nat.le_refl _) ⟨Hp.AB _ _ _, Dj.nil, fun a ha => (by cases ha), hwb, .set hwb⟩ rfl
 intro g
 induction g with
 | zero =>
   intro k r j e st σ' hg hk hj hW he
   rw [List.drop_eq_nil_of_le (by omega)] at he
   have Cc : st.length = j := by have := hW.own.1; simpa using this
   have ht : G8 t = uh t (some st) := by unfold G8; rw [he]; rfl
   refine FZ.AY ⟨fun Au => by omega, fun _ => ⟨wb, 0, rfl, r, j, e, Ac hW.cell rfl, fun h1 => h' _ _ _ σ' ?_ (by decide) hW.ext, fun h1 => ⟨fun MX => h' _ _ _ σ' ?_ (by decide) hW.ext, fun hZ => ?_⟩⟩⟩
   · rw [ht]
     match st, Cc with
     | [], _ => rfl
     | [_], Cc => simp at Cc; omega
     | _ :: _ :: _, _ => rfl
   · rw [ht]
     match st, Cc with
     | [], _ => rfl
     | [_], Cc => exact if_neg (by omega)
     | _ :: _ :: _, _ => rfl
   · have vL : j = 1 := by omega
     subst vL
     match st, Cc with
     | [x], _ =>
       obtain ⟨b, o, rfl, E6⟩ := E7.at (Dj.rd hW.own) (i := 0) (x := x) rfl
       exact ⟨_, 1, e, Ac hW.cell rfl, b, o, rfl, by omega, x, by simpa using E6, h x σ' (by rw [ht]; exact if_pos (by omega)) hW.ext⟩
 | succ g ih =>
   intro k r j e st σ' hg hk hj hW he
   have IN : k < n := by omega
   obtain ⟨x, hx⟩ := hr.ex IN
   obtain ⟨b, o, p1, k1, c1, q1, m1, d1, rfl, E6, h1, h2⟩ := MY.at hr hx
   rw [A8 hx, DX] at he
   refine FZ.AY ⟨fun _ => ⟨b, o, rfl, by omega, _, _, _, _, _, _, _, _, _, _, _, _, _, _, by simpa using E6.mono hW.ext, fun _ => ?_⟩, fun hh => by omega⟩
   refine fx hW h1 h2 (hb x (List.mem_of_getElem? hx)) (by omega) (fun r' j' e' σ2 h0 hW2 => ⟨0, rfl, fun hh => absurd rfl hh, fun _ => ⟨AL IN hr.big, ih (k + 1) r' j' e' _ σ2 (by omega) (by omega) ?_ hW2 ?_⟩⟩) fun σ2 h0 A6 => ⟨_, rfl, fun _ => h' _ _ _ σ2 ?_ h0 A6, fun hh => absurd h0 hh⟩
   · have h3 := mO (n := x) (st := st)
     have h4 : (BM x st).2.length = j' := by have := hW2.own.1; simpa using this
     have h5 : st.length = j := by have := hW.own.1; simpa using this
     omega
   · rw [he, if_pos h0]
   · unfold G8; rw [he, if_neg h0]; rfl
end
end TwW
end
section
namespace Go.Proofs
open Go.Shelf
def Tryz.YQ : Go.Shelf.Ren := ⟨fun | 143 => 260 | 219 => 290 | 217 => 169 | 225 => 318 | 224 => 319 | 267 => 320 | 266 => 209 | 314 => 329 | n => n, fun | 9 => 9 | 3 => 3 | 4 => 4 | 5 => 5 | 46 => 141 | 146 => 355 | 51 => 168 | n => n, fun | 1 => 1 | n => n⟩
theorem Tryz.qk : Go.Proofs.Lays.n143 Tryz.prog Tryz.YQ := {
 mixed := by kernel_rfl
 f143 := Tryz.func260.trans (congrArg some (by kernel_rfl))
 f217 := Tryz.func169.trans (congrArg some (by kernel_rfl))
 f219 := Tryz.func290.trans (congrArg some (by kernel_rfl))
 f224 := Tryz.func319.trans (congrArg some (by kernel_rfl))
 f225 := Tryz.func318.trans (congrArg some (by kernel_rfl))
 f266 := Tryz.func209.trans (congrArg some (by kernel_rfl))
 f267 := Tryz.func320.trans (congrArg some (by kernel_rfl))
 f314 := Tryz.func329.trans (congrArg some (by kernel_rfl))
 t3 := Tryz.underlying3
 a3 := Tryz.isAgg3
 z3 := Tryz.sizeOf3
 v3 := Tryz.zeroValue3
 t4 := Tryz.underlying4
 a4 := Tryz.isAgg4
 z4 := Tryz.sizeOf4
 v4 := Tryz.zeroValue4
 t5 := Tryz.underlying5
 a5 := Tryz.isAgg5
 z5 := Tryz.sizeOf5
 v5 := Tryz.zeroValue5
 t9 := Tryz.underlying9
 a9 := Tryz.isAgg9
 z9 := Tryz.sizeOf9
 v9 := Tryz.zeroValue9
 t46 := Tryz.underlying141
 a46 := Tryz.isAgg141
 z46 := Tryz.sizeOf141
 v46 := Tryz.zeroValue141
 t51 := Tryz.underlying168
 a51 := Tryz.isAgg168
 z51 := Tryz.sizeOf168
 v51 := Tryz.zeroValue168
 t146 := Tryz.underlying355
 a146 := Tryz.isAgg355
 z146 := Tryz.sizeOf355
 v146 := Tryz.zeroValue355
 g1 := by kernel_rfl }
open Go.RowKit Go.Lib in
theorem Tryz.strings_Index (s sub : ByteArray) (m : Int) (w : World) (hs : s.size < 4294967281) (hm : w.cell? ⟨1, 0, none⟩ = some (.int .i64 m)) :
   Calls Tryz.prog 260 #[.string s, .string sub] w fun e w' => e = .returned (.int .i64 (Lib.index s.data.toList sub.data.toList)) ∧ w' = w := Any.strings_Index Tryz.qk s sub m w hs hm
def Tryz.YR : Go.Shelf.Ren := ⟨fun | 146 => 221 | 221 => 237 | 268 => 258 | 138 => 259 | 143 => 260 | 195 => 287 | 197 => 288 | 218 => 289 | 219 => 290 | 260 => 317 | 217 => 169 | 225 => 318 | 224 => 319 | 267 => 320 | 266 => 209 | 314 => 329 | n => n, fun | 9 => 9 | 31 => 34 | 3 => 3 | 4 => 4 | 0 => 0 | 105 => 318 | 21 => 21 | 5 => 5 | 46 => 141 | 119 => 351 | 139 => 354 | 138 => 353 | 146 => 355 | 51 => 168 | n => n, fun | 1 => 1 | 3 => 11 | 4 => 12 | n => n⟩
theorem Tryz.ql : Go.Proofs.Lays.n146 Tryz.prog Tryz.YR := {
 mixed := by kernel_rfl
 f138 := Tryz.func259.trans (congrArg some (by kernel_rfl))
 f143 := Tryz.func260.trans (congrArg some (by kernel_rfl))
 f146 := Tryz.func221.trans (congrArg some (by kernel_rfl))
 f195 := Tryz.func287.trans (congrArg some (by kernel_rfl))
 f197 := Tryz.func288.trans (congrArg some (by kernel_rfl))
 f217 := Tryz.func169.trans (congrArg some (by kernel_rfl))
 f218 := Tryz.func289.trans (congrArg some (by kernel_rfl))
 f219 := Tryz.func290.trans (congrArg some (by kernel_rfl))
 f221 := Tryz.func237.trans (congrArg some (by kernel_rfl))
 f224 := Tryz.func319.trans (congrArg some (by kernel_rfl))
 f225 := Tryz.func318.trans (congrArg some (by kernel_rfl))
 f260 := Tryz.func317.trans (congrArg some (by kernel_rfl))
 f266 := Tryz.func209.trans (congrArg some (by kernel_rfl))
 f267 := Tryz.func320.trans (congrArg some (by kernel_rfl))
 f268 := Tryz.func258.trans (congrArg some (by kernel_rfl))
 f314 := Tryz.func329.trans (congrArg some (by kernel_rfl))
 t0 := Tryz.underlying0
 a0 := Tryz.isAgg0
 z0 := Tryz.sizeOf0
 v0 := Tryz.zeroValue0
 t3 := Tryz.underlying3
 a3 := Tryz.isAgg3
 z3 := Tryz.sizeOf3
 v3 := Tryz.zeroValue3
 t4 := Tryz.underlying4
 a4 := Tryz.isAgg4
 z4 := Tryz.sizeOf4
 v4 := Tryz.zeroValue4
 t5 := Tryz.underlying5
 a5 := Tryz.isAgg5
 z5 := Tryz.sizeOf5
 v5 := Tryz.zeroValue5
 t9 := Tryz.underlying9
 a9 := Tryz.isAgg9
 z9 := Tryz.sizeOf9
 v9 := Tryz.zeroValue9
 t21 := Tryz.underlying21
 a21 := Tryz.isAgg21
 z21 := Tryz.sizeOf21
 v21 := Tryz.zeroValue21
 t31 := Tryz.underlying34
 a31 := Tryz.isAgg34
 z31 := Tryz.sizeOf34
 v31 := Tryz.zeroValue34
 t46 := Tryz.underlying141
 a46 := Tryz.isAgg141
 z46 := Tryz.sizeOf141
 v46 := Tryz.zeroValue141
 t51 := Tryz.underlying168
 a51 := Tryz.isAgg168
 z51 := Tryz.sizeOf168
 v51 := Tryz.zeroValue168
 t105 := Tryz.underlying318
 a105 := Tryz.isAgg318
 z105 := Tryz.sizeOf318
 v105 := Tryz.zeroValue318
 t119 := Tryz.underlying351
 a119 := Tryz.isAgg351
 z119 := Tryz.sizeOf351
 t138 := Tryz.underlying353
 a138 := Tryz.isAgg353
 z138 := Tryz.sizeOf353
 v138 := Tryz.zeroValue353
 t139 := Tryz.underlying354
 a139 := Tryz.isAgg354
 z139 := Tryz.sizeOf354
 v139 := Tryz.zeroValue354
 t146 := Tryz.underlying355
 a146 := Tryz.isAgg355
 z146 := Tryz.sizeOf355
 v146 := Tryz.zeroValue355
 g1 := by kernel_rfl
 g3 := by kernel_rfl
 g4 := by kernel_rfl }
open Go.RowKit Go.Lib in
theorem Tryz.strings_Split (s sep : ByteArray) (m : Int) (w : World) (hs : s.size < 4294967281) (hm : w.cell? ⟨1, 0, none⟩ = some (.int .i64 m)) (h1 : 1 ≤ sep.size) :
   Calls Tryz.prog 221 #[.string s, .string sep] w fun e w' =>
     e = .returned (.slice (some ⟨w.heap.size, 0, none⟩) (Lib.countB s sep + 1) (Lib.countB s sep + 1)) ∧ w' = w.alloc (.cells ((Lib.splitB sep 0 (Lib.countB s sep) s).map Value.string).toArray 9) := Any.strings_Split Tryz.ql (by kernel_rfl) s sep m w hs hm h1
end Go.Proofs
end
section
namespace TwW
open Go Tw Go.RowKit Go.Proofs.Tryz
section
variable {P : Program} {f : FuncId} {args : Array Value} {σ σ' : Hp} {R : Rr}
theorem Spec.below {v : Value} (h : ∀ w, Sat σ w → Calls P f args w fun e w' => e = .returned v ∧ Below w.heap.size w w') (hR : R (.returned v) σ) : Spec P f args σ R := fun w F hs hF =>
 (h w hs).mono fun e w' ⟨he, hb⟩ => ⟨σ, he ▸ hR, fun b o ho => by
   have h1 := hs b o ho
   rw [hb.block b (Array.getElem?_eq_some_iff.1 h1).1]; exact h1, fun b hFb => ⟨(hF b hFb).2, hb.block b (hF b hFb).1⟩, ⟨hb.os, hb.tape, fun h => h.elim⟩, hb.output, hb.size⟩
theorem Spec.same {v : Value} (h : ∀ w, Sat σ w → Calls P f args w fun e w' => e = .returned v ∧ w' = w) (hR : R (.returned v) σ) : Spec P f args σ R :=
 Spec.below (fun w hs => (h w hs).mono fun e w' ⟨he, hw⟩ => ⟨he, hw ▸ Below.refl _ _⟩) hR
theorem Spec.yj {o : Obj} {v : Nat → Value} (h : ∀ w, Sat σ w → Calls P f args w fun e w' => e = .returned (v w.heap.size) ∧ w' = w.alloc o) (hR : ∀ b, σ b = none → R (.returned (v b)) (σ.set b o)) : Spec P f args σ R := fun w F hs hF =>
 (h w hs).mono fun e w' ⟨he, hw⟩ => ⟨σ.set w.heap.size o, he ▸ hR _ (FX hs), by subst hw; exact Fin.alloc hs hF _ rfl (.same rfl rfl rfl) rfl⟩
theorem cell_of {w : World} {b o : Nat} {v : Value} (hs : Sat σ w) (h : σ.ld ⟨b, o, none⟩ = some v) : w.cell? ⟨b, o, none⟩ = some v := by
 have := Ta (ys := [v]) hs ⟨h, trivial⟩ 0 v rfl
 simpa [Bi] using this
end
def Sa : List Nat := [4607182418800017408, 4621819117588971520, 4636737291354636288, 4652007308841189376, 4666723172467343360, 4681608360884174848, 4696837146684686336, 4711630319722168320, 4726483295884279808, 4741671816366391296, 4756540486875873280, 4771362005757984768, 4786511204640096256, 4801453603149578240, 4816244402031689728, 4831355200913801216]
structure Gl (σ : Hp) : Prop where
 len : ∃ m : Int, σ.ld ⟨1, 0, none⟩ = some (.int .i64 m)
 opt : σ.ld ⟨5, 0, none⟩ = some (.bool true)
 bits : σ.ld ⟨6, 0, none⟩ = some (.int .u64 52)
 pow : ∃ b o n c, σ.ld ⟨9, 0, none⟩ = some (.slice (some ⟨b, o, none⟩) n c) ∧ 16 ≤ n ∧ ∀ i v, Sa[i]? = some v → σ.ld ⟨b, o + i * 1, none⟩ = some (.float .f64 v)
theorem Gl.mono {σ σ' : Hp} (h : Gl σ) (hx : Ext σ σ') : Gl σ' := ⟨h.len.imp fun _ => hx.ld, hx.ld h.opt, hx.ld h.bits, let ⟨b, o, n, c, h1, h2, h3⟩ := h.pow; ⟨b, o, n, c, hx.ld h1, h2, fun i v hv => hx.ld (h3 i v hv)⟩⟩
section
variable {σ σ' : Hp} {R : Rr}
theorem index_spec {s t : ByteArray} (hg : Gl σ) (hs : s.size < 4294967281) (h : R (.returned (.int .i64 (Lib.index s.data.toList t.data.toList))) σ) : Spec prog 260 #[.string s, .string t] σ R := by
 obtain ⟨m, hm⟩ := hg.len
 exact Spec.same (fun w hw => Go.Proofs.Tryz.strings_Index s t m w hs (cell_of hw hm)) h
theorem Sb {s : ByteArray} {c : UInt8} (hg : Gl σ) (hs : s.size < 4294967281) (h : ∀ b T, σ b = none → R (.returned (.slice (aD b 0) (EL c s).length (EL c s).length)) (σ.set b (.cells ((EL c s).map Value.string).toArray T (0, 0)))) : Spec prog 221 #[.string s, .string ⟨#[c]⟩] σ R := by
 obtain ⟨m, hm⟩ := hg.len
 have hl : (EL c s).length = Lib.countB s ⟨#[c]⟩ + 1 := Lib.splitB_all ⟨#[c]⟩ (Nat.le_refl 1) 0 _ s rfl
 have h' := fun b => h b 9
 rw [hl] at h'
 exact Spec.yj (v := fun b => .slice (aD b 0) _ _) (fun w hw => Go.Proofs.Tryz.strings_Split s ⟨#[c]⟩ m w hs (cell_of hw hm) (Nat.le_refl 1)) h'
theorem bE {s : ByteArray} {l h : Nat} (hl : l ≤ h) (hh : h ≤ s.size) : YF prog (Instr.sliceAt 9 (.string s) (some (.int .i64 (l : Int))) (some (.int .i64 (h : Int))) none) σ (.string (s.extract l h)) := fun w _ => by
 rw [run_sliceAt_string (h := underlying9)]
 have h1 : (h : Int) ≤ s.size := by omega
 have h2 : (l : Int) ≤ h := by omega
 simp [Instr.slice, run_underlying underlying9, Instr.sliceBounds, run_sliceBound, h1, h2, Result.andThen]
theorem YS {s t : ByteArray} (h : R (.returned (.bool (decide (t.size ≤ s.size ∧ s.extract 0 t.size = t)))) σ) : Spec prog 285 #[.string s, .string t] σ R := by
 refine HF.start (B9.start ⟨fun hle => ⟨_, UT (by omega), _, rfl, ?_⟩, fun hgt => ⟨_, rfl, ?_⟩⟩)
 · rw [QF, show decide (s.extract 0 t.size = t) = decide (t.size ≤ s.size ∧ s.extract 0 t.size = t) from decide_eq_decide.2 ⟨fun h => ⟨by omega, h⟩, fun h => h.2⟩]; exact h
 · rw [show false = decide (t.size ≤ s.size ∧ s.extract 0 t.size = t) from (decide_eq_false fun hh => hgt (by omega)).symm]; exact h
theorem YT {s t : ByteArray} (hs : s.size ≤ 4611686018427387904) (h : R (.returned (.bool (decide (t.size ≤ s.size ∧ s.extract (s.size - t.size) s.size = t)))) σ) : Spec prog 286 #[.string s, .string t] σ R := by
 refine HJ.start (Bz.start ⟨fun hle => ⟨by unfold AN; omega, s.extract (s.size - t.size) s.size, ?_, _, rfl, ?_⟩, fun hgt => ⟨_, rfl, ?_⟩⟩)
 · rw [show ((s.size : Nat) : Int) - ((t.size : Nat) : Int) = ((s.size - t.size : Nat) : Int) by omega]; exact NY (by omega)
 · rw [QF, show decide (s.extract (s.size - t.size) s.size = t) = decide (t.size ≤ s.size ∧ s.extract (s.size - t.size) s.size = t) from decide_eq_decide.2 ⟨fun h => ⟨by omega, h⟩, fun h => h.2⟩]; exact h
 · rw [show false = decide (t.size ≤ s.size ∧ s.extract (s.size - t.size) s.size = t) from (decide_eq_false fun hh => hgt (by omega)).symm]; exact h
def ETx (_ : Hp) (vs : List Value) (x : ByteArray) : Prop := vs = [.string x]
theorem ETx.mono : Gz ETx := fun _ _ _ _ _ h => h
abbrev df := Af 1 ETx
theorem df.at {p : Option Addr} {n i : Nat} {ls : List ByteArray} {x : ByteArray} (hr : df σ p n ls) (hx : ls[i]? = some x) : ∃ b o, p = some ⟨b, o, none⟩ ∧ σ.ld ⟨b, o + i * 1, none⟩ = some (.string x) := by
 obtain ⟨b, o, vs, hp, rfl, hl⟩ := Af.idx hr hx
 exact ⟨b, o, hp, hl.1⟩
theorem df.mP {b : Nat} {T : TypeId} {L : List ByteArray} (h : σ b = some (.cells (L.map Value.string).toArray T (0, 0))) (hb : L.length ≤ 4611686018427387904) : df σ (aD b 0) L.length L := by
 refine ⟨rfl, L.map .string, ⟨by simp, hb, .inr ⟨b, 0, rfl, Aq.of fun j v hj => ?_⟩⟩, by simp, fun i x hx => ?_⟩
 · rw [Nat.zero_add]; exact Ac h (by simpa using hj)
 · have h1 : (L.map Value.string)[i]? = some (.string x) := by rw [List.getElem?_map, hx]; rfl
   rw [Nat.mul_one, A8 h1]; rfl
theorem qm {p : Option Addr} {n c : Nat} {l : List ByteArray} {s : ByteArray} (hg : Gl σ) (hr : df σ p n l) (h0 : 0 < n) (hc : n ≤ c) (hs : s.size < 4294967281) (hl : ∀ x ∈ l, x.size ≤ 4294967296) (h : R (.returned (.bool (yf l s))) σ) :
   Spec prog 257 #[.agg #[.slice p n c], .string s] σ R := by
 have hn : l.length = n := hr.1
 have MX := hr.big
 obtain ⟨a, ha⟩ := hr.ex h0
 obtain ⟨z, hz⟩ := hr.ex (k := n - 1) (by omega)
 obtain ⟨b, o, rfl, hla⟩ := df.at hr ha
 obtain ⟨_, _, he, ua⟩ := df.at hr hz
 cases he
 have ea : l.head?.getD ⟨#[]⟩ = a := by rw [List.head?_eq_getElem?, ha]; rfl
 have ez : l.getLast?.getD ⟨#[]⟩ = z := by rw [List.getLast?_eq_getElem?, hn, hz]; rfl
 have e1 : Int.toNat ((n : Int) - 1) = n - 1 := by omega
 have hsa := hl a (List.mem_of_getElem? ha)
 have Hf := hl z (List.mem_of_getElem? hz)
 have eK : yf l s = if n = 1 then decide (s = a) else if s.size < a.size + z.size ∨ s.extract 0 a.size ≠ a ∨ s.extract (s.size - z.size) s.size ≠ z then false else fh l.tail.dropLast (s.extract a.size (s.size - z.size)) := by
   unfold yf; rw [ea, ez, hn]
 rw [eK] at h
 refine C7.start fun _ => ⟨b, o, rfl, by omega, a, by simpa using hla, by unfold AN; omega, by omega, z, by rw [e1]; exact ua, fun h1 => ?_, fun h1 => ?_⟩
 · rw [if_pos (by omega)] at h; rw [QF]; exact h
 rw [if_neg (by omega)] at h
 refine ⟨by unfold AN; omega, fun Au => ?_, fun fV => YS ⟨_, rfl, fun hp => ?_, fun hp => YT (by omega) ⟨_, rfl, fun hq => ?_, fun hq => ?_⟩⟩⟩
 · rw [if_pos (.inl (by omega))] at h; exact h
 · have := of_decide_eq_false hp
   rw [if_pos (.inr (.inl fun e => this ⟨by omega, e⟩))] at h; exact h
 · have := of_decide_eq_false hq
   rw [if_pos (.inr (.inr fun e => this ⟨by omega, e⟩))] at h; exact h
 have hp' := of_decide_eq_true hp
 have hq' := of_decide_eq_true hq
 rw [if_neg (by
                rintro (h3 | h3 | h3)
                · omega
                · exact h3 hp'.2
                · exact h3 hq'.2)] at h
 have qo : df σ (IK (aD b o) 1 c 1) (n - 2) (l.tail.dropLast) := by
   have := Af.sub (i := 1) (m := n - 2) hr (by decide) (by omega) hc
   rwa [List.drop_one, show n - 2 = l.tail.length - 1 by rw [List.length_tail]; omega, ← List.dropLast_eq_take, List.length_tail, show l.length - 1 - 1 = n - 2 by omega] at this
 refine ⟨by unfold AN; omega, s.extract a.size (s.size - z.size), ?_, by unfold AN; omega, by omega, ?_⟩
 · rw [show ((s.size : Nat) : Int) - ((z.size : Nat) : Int) = ((s.size - z.size : Nat) : Int) by omega]; exact bE (by omega) (by omega)
 rw [e1, show n - 1 - 1 = n - 2 by omega]
 generalize hu : s.extract a.size (s.size - z.size) = u at *
 have hus : u.size < 4294967281 := by rw [← hu, ByteArray.size_extract]; omega
 generalize IK (aD b o) 1 c 1 = q at *
 generalize l.tail.dropLast = ms at *
 clear hu hla ua ha hz ea ez eK
 suffices H : ∀ g k : Nat, ∀ (q' : Option Addr) (v : ByteArray), (0 < n - 2 → q' = q) → n - 2 - k = g → k ≤ n - 2 → v.size < 4294967281 → fh ms u = fh (ms.drop k) v → C7.La R v q' (n - 2) (c - 1) ((n - 2 : Nat) : Int) k σ from H (n - 2) 0 q u (fun _ => rfl) rfl (Nat.zero_le _) hus rfl
 have hml : ms.length = n - 2 := qo.1
 intro g
 induction g with
 | zero =>
   intro k q' v hq hgk hk hv he
   rw [List.drop_eq_nil_of_le (by omega)] at he
   rw [he] at h
   exact C7.Ip ⟨fun Au => by omega, fun _ => h⟩
 | succ g ih =>
   intro k q' v hq hgk hk hv he
   have IN : k < n - 2 := by omega
   obtain ⟨t, ht⟩ := qo.ex IN
   obtain ⟨b2, o2, hq2, Au⟩ := df.at qo ht
   rw [hq (by omega), hq2]
   rw [A8 ht, fh] at he
   refine C7.Ip ⟨fun _ => ⟨b2, o2, rfl, by omega, t, by simpa using Au, index_spec hg hv ⟨_, rfl, fun yh => ?_, fun QT => ?_⟩⟩, fun hh => by omega⟩
   · rw [if_pos yh] at he; rw [he] at h; exact h
   · rw [if_neg QT] at he
     have HB := Lib.index_room v.data.toList t.data.toList (by omega)
     have hv1 : v.data.toList.length = v.size := Array.length_toList (xs := v.data)
     have ht1 : t.data.toList.length = t.size := Array.length_toList (xs := t.data)
     generalize hi : Lib.index v.data.toList t.data.toList = i at *
     refine ⟨by unfold AN; omega, v.extract (i.toNat + t.size) v.size, ?_, AL IN qo.big, ih (k + 1) _ _ (fun _ => hq2.symm) (by omega) (by omega) (by rw [ByteArray.size_extract]; omega) he⟩
     rw [show i + ((t.size : Nat) : Int) = ((i.toNat + t.size : Nat) : Int) by omega]; exact NY (by omega)
def mQ (σ : Hp) (vs : List Value) (l : List ByteArray) : Prop := ∃ p n c, vs = [.slice p n c] ∧ df σ p n l ∧ 0 < n ∧ n ≤ c
theorem mQ.mono : Gz mQ := fun _ _ _ _ hx ⟨p, n, c, hv, h1, h2⟩ => ⟨p, n, c, hv, h1.mono ETx.mono hx, h2⟩
theorem fz {p : Option Addr} {n c : Nat} {L : List (List ByteArray)} {s : ByteArray} (hg : Gl σ) (hr : Af 1 mQ σ p n L) (hs : s.size < 4294967281) (hl : ∀ l ∈ L, ∀ x ∈ l, x.size ≤ 4294967296) (h : R (.returned (.bool (L.any fun l => yf l s))) σ) :
   Spec prog 236 #[.agg #[.slice p n c], .string s] σ R := by
 have hn : L.length = n := hr.1
 refine BT.start fun _ => ?_
 suffices H : ∀ g k : Nat, n - k = g → k ≤ n → (L.any fun l => yf l s) = ((L.drop k).any fun l => yf l s) → BT.Hg R s p n c n k σ from H n 0 rfl (Nat.zero_le _) rfl
 intro g
 induction g with
 | zero =>
   intro k hg' hk he
   rw [List.drop_eq_nil_of_le (by omega)] at he
   rw [he] at h
   exact BT.Bd ⟨fun Au => by omega, fun _ => h⟩
 | succ g ih =>
   intro k hg' hk he
   have IN : k < n := by omega
   obtain ⟨l, hx⟩ := hr.ex IN
   obtain ⟨b, o, vs, rfl, ⟨p1, n1, c1, rfl, h1, h2, h3⟩, E6⟩ := Af.idx hr hx
   rw [A8 hx, List.any_cons] at he
   refine BT.Bd ⟨fun _ => ⟨b, o, rfl, by omega, p1, n1, c1, by simpa using E6, fun _ => qm hg h1 h2 h3 hs (hl l (List.mem_of_getElem? hx)) ⟨_, rfl, fun ht => ?_, fun hf => ⟨AL IN hr.big, ih (k + 1) (by omega) (by omega) ?_⟩⟩⟩, fun hh => by omega⟩
   · rw [ht] at he; rw [he] at h; exact h
   · rw [hf] at he; exact he
theorem Oa {c : UInt8} {s : ByteArray} : ∀ x ∈ EL c s, x.size ≤ s.size := by
 unfold EL
 generalize Lib.countB s ⟨#[c]⟩ = k
 induction k generalizing s with
 | zero => intro x hx; rw [Lib.splitB_zero, List.mem_singleton] at hx; rw [hx]; exact Nat.le_refl _
 | succ k ih =>
   intro x hx
   unfold Lib.splitB at hx
   split at hx
   · rw [List.mem_singleton] at hx; rw [hx]; exact Nat.le_refl _
   · rcases List.mem_cons.1 hx with rfl | hx
     · rw [ByteArray.size_extract]; omega
     · have := ih x hx
       rw [ByteArray.size_extract] at this; omega
theorem YU {c : UInt8} {s : ByteArray} : (EL c s).length ≤ s.size + 1 ∧ 0 < (EL c s).length := by
 have h1 := Lib.splitB_all ⟨#[c]⟩ (Nat.le_refl 1) 0 _ s rfl
 have h2 := Lib.countB_le ⟨#[c]⟩ (Nat.le_refl 1) s.size s (Nat.le_refl _)
 unfold EL
 omega
theorem Ve {s : ByteArray} (hg : Gl σ) (hs : s.size ≤ 1000000) (h : ∀ p n c σ', Af 1 mQ σ' p n ((EL 124 s).map (EL 42)) → Ext σ σ' → R (.returned (.agg #[.slice p n c])) σ') : Spec prog 179 #[.string s] σ R := by
 refine Dt.start fun _ _ => Sb hg (by omega) fun b T hb => ⟨_, _, _, rfl, ?_⟩
 have CD : Ext σ (σ.set b (.cells ((EL 124 s).map Value.string).toArray T (0, 0))) := .set hb
 obtain ⟨hlen, _⟩ := YU (c := 124) (s := s)
 have hr : df (σ.set b (.cells ((EL 124 s).map Value.string).toArray T (0, 0))) (aD b 0) (EL 124 s).length (EL 124 s) := df.mP (Hp.AB _ _ _) (by omega)
 generalize AKl : σ.set b (.cells ((EL 124 s).map Value.string).toArray T (0, 0)) = σ1 at *
 have Hf := Oa (c := 124) (s := s)
 generalize EL 124 s = L at *
 suffices H : ∀ g k : Nat, ∀ p3 n3 c3 σ', L.length - k = g → k ≤ L.length → GG 1 mQ (σ1.new σ') p3 n3 c3 ((L.take k).map (EL 42)) → Ext σ1 σ' → Dt.A2 R none 0 0 p3 n3 c3 (aD b 0) L.length L.length L.length k σ' from H L.length 0 none 0 0 σ1 rfl (Nat.zero_le _) GG.nil (.refl _)
 intro g
 induction g with
 | zero =>
   intro k p3 n3 c3 σ' hg' hk ho hx
   rw [List.take_of_length_le (by omega)] at ho
   exact Dt.AY ⟨fun Au => by omega, fun _ => h p3 n3 c3 σ' ((ho.rd mQ.mono).mono mQ.mono (Ext.Cj _ _)) (CD.trans hx)⟩
 | succ g ih =>
   intro k p3 n3 c3 σ' hg' hk ho hx
   have IN : k < L.length := by omega
   obtain ⟨x, fZ⟩ := hr.ex IN
   obtain ⟨b2, o2, he, ZG⟩ := df.at hr fZ
   cases he
   have hxs := Hf x (List.mem_of_getElem? fZ)
   have oR : n3 = k := by have := ho.1; rw [List.length_map, List.length_take] at this; omega
   refine Dt.AY ⟨fun _ => ⟨b, 0, rfl, by omega, x, by simpa using hx.ld ZG, Sb (hg.mono (CD.trans hx)) (by omega) fun b4 T4 hb4 => ⟨_, _, _, rfl, fun T8 AKm => ?_⟩⟩, fun hh => by omega⟩
   obtain ⟨AN3, AFI⟩ := YU (c := 42) (s := x)
   have Mm : Ext σ' (σ'.set b4 (.cells ((EL 42 x).map Value.string).toArray T4 (0, 0))) := .set hb4
   have hp3 : ∀ a, p3 = some a → σ' a.block ≠ none := fun a ha => by
     have := ho.block a ha
     cases hh : (σ1.new σ') a.block with
     | none => exact absurd hh this
     | some oo => rw [(AX.1 hh).2]; simp
   have AKn : (σ1.new (σ'.set b4 (.cells ((EL 42 x).map Value.string).toArray T4 (0, 0))) |>.del p3) b4 = some (.cells ((EL 42 x).map Value.string).toArray T4 (0, 0)) := AR.2 ⟨fun a ha e => hp3 a ha (by rw [← e]; exact hb4), AX.2 ⟨A5 hx hb4, Hp.AB _ _ _⟩⟩
   refine GG.JZ mQ.mono (vs := [.slice (aD b4 0) (EL 42 x).length (EL 42 x).length]) (x := EL 42 x) (hx.trans Mm) (ho.mono mQ.mono (Ext.JX Mm)) rfl (fun u hu => by rw [List.mem_singleton] at hu; subst hu; rfl) ⟨_, _, _, rfl, df.mP AKn (by omega), AFI, Nat.le_refl _⟩ (by omega) (fun p' c' σ2 Bb A6 => ⟨_, _, _, rfl, AL IN hr.big, ih (k + 1) _ _ _ _ (by omega) (by omega) ?_ A6⟩) AKm
   rw [Aa fZ, List.map_append]; exact Bb
theorem UY {p q : Option Addr} {n c m d : Nat} {ms : List Mt} {ls : List Lb} (hg : Gl σ) (hr : Af 3 Nu σ p n ms) (hq : FV σ q m ls) (hm : ∀ x ∈ ms, x.val.size ≤ 1000000) (UQ : ∀ x ∈ ls, x.2.size ≤ 1000000) (hk : ∀ x ∈ ms, 1 ≤ x.kind ∧ x.kind ≤ 4) (h : ∀ σ', Ext σ σ' → R (.returned (.bool (JN ms ls))) σ') :
   Spec prog 142 #[.slice p n c, .slice q m d] σ R := by
 have hl : ms.length = n := hr.1
 refine D5.start (O4.start fun kb HC => ⟨_, _, _, rfl, ?_⟩)
 have CD := Ext.set (o := .cells #[.nilFunc, (.func (.func 217) #[] #[]), (.func (.func 218) #[] #[]), (.func (.func 219) #[] #[]), (.func (.func 220) #[] #[])] 221 (0, 0)) HC
 have hc := Hp.AB σ kb (.cells #[.nilFunc, (.func (.func 217) #[] #[]), (.func (.func 218) #[] #[]), (.func (.func 219) #[] #[]), (.func (.func 220) #[] #[])] 221 (0, 0))
 generalize AKl : σ.set kb (.cells #[.nilFunc, (.func (.func 217) #[] #[]), (.func (.func 218) #[] #[]), (.func (.func 219) #[] #[]), (.func (.func 220) #[] #[])] 221 (0, 0)) = σ1 at *
 have hgs : ∀ k : ByteArray, (Dl ls k).size ≤ 1000000 := fun k => by
   clear hq h
   induction ls with
   | nil => unfold Dl; decide
   | cons a l ih =>
     unfold Dl
     split
     · exact UQ a (by simp)
     · exact ih fun x hx => UQ x (List.mem_cons_of_mem _ hx)
 suffices H : ∀ g k : Nat, ∀ σ', n - k = g → k ≤ n → Ext σ1 σ' → JN ms ls = JN (ms.drop k) ls → D5.A2 R q m d (aD kb 0) 5 5 p n c n k σ' from H n 0 σ1 rfl (Nat.zero_le _) (.refl _) rfl
 intro g
 induction g with
 | zero =>
   intro k σ' hg' IN hx he
   have := h σ' (CD.trans hx)
   rw [he, List.drop_eq_nil_of_le (by omega)] at this
   exact D5.AY ⟨fun Au => by omega, fun _ => this⟩
 | succ g ih =>
   intro k σ' hg' bz hx he
   have IN : k < n := by omega
   obtain ⟨x, fZ⟩ := hr.ex IN
   obtain ⟨b, o, rfl, E6⟩ := Nu.at hr fZ
   have oS := List.mem_of_getElem? fZ
   have hk4 := hk x oS
   have V6 : JN ms ls = (NN x ls && JN (ms.drop (k + 1)) ls) := by rw [he, A8 fZ]; rfl
   have step : ∀ (t : Bool) (σ2 : Hp), t = NN x ls → Ext σ1 σ2 → AA R (CB fun t35 AZ => Bn t35 (R (.returned (.bool false)) AZ) (AN ((k : Int) + 1) ∧ D5.A2 R q m d (aD kb 0) 5 5 (aD b o) n c n ((k : Int) + 1) AZ)) (.returned (.bool t)) σ2 := fun t σ2 ht A6 => by
     refine ⟨t, rfl, fun hf => ?_, fun htt => ⟨AL IN hr.big, ih (k + 1) σ2 (by omega) (by omega) A6 ?_⟩⟩
     · have := h σ2 (CD.trans A6)
       rw [V6, ← ht, hf] at this; exact this
     · rw [V6, ← ht, htt]; rfl
   refine D5.AY ⟨fun _ => ⟨b, o, rfl, by omega, x.kind, x.name, x.val, by simpa using (E6.mono (CD.trans hx)), fun _ => UU ⟨_, rfl, fun hf => ?_, fun ht => ⟨kb, 0, rfl, by omega, ?_⟩⟩⟩, fun hh => by omega⟩
   · exact absurd hk4 (of_decide_eq_false hf)
   have JP : ∀ σ2 p1 n1 c1, Af 1 mQ σ2 p1 n1 ((EL 124 x.val).map (EL 42)) → Ext σ1 σ2 → ∀ R2 : Rr, R2 (.returned (.bool (X0 x.val (Dl ls x.name)))) σ2 → Spec prog 236 #[.agg #[.slice p1 n1 c1], .string (Dl ls x.name)] σ2 R2 := fun σ2 p1 n1 c1 Z4 A6 R2 qp => by
     refine fz (hg.mono (CD.trans A6)) Z4 (by have := hgs x.name; omega) (fun l hl y hy => ?_) ?_
     · obtain ⟨z, hz, rfl⟩ := List.mem_map.1 hl
       have h1 := Oa y hy
       have h2 := Oa z hz
       have h3 := hm x oS
       omega
     · rw [List.any_map]; exact qp
   have row : ∀ (i : Nat) (f : FuncId) (t : Bool), x.kind = i → (#[.nilFunc, (.func (.func 217) #[] #[]), (.func (.func 218) #[] #[]), (.func (.func 219) #[] #[]), (.func (.func 220) #[] #[])] : Array Value)[i]? = some (.func (.func f) #[] #[]) → Enters prog f → t = NN x ls →
       (∀ p1 n1 c1 σ2 (R2 : Rr), Af 1 mQ σ2 p1 n1 ((EL 124 x.val).map (EL 42)) → Ext σ1 σ2 → R2 (.returned (.bool t)) σ2 → Spec prog f #[.agg #[.slice p1 n1 c1, .string x.val], .string (Dl ls x.name)] σ2 R2) →
       ∃ v24, Hp.ld σ' ⟨kb, (0 + Int.toNat x.kind * 1), none⟩ = some v24 ∧ Spec prog 179 #[.string x.val] σ' (AA R (fun z AF => ∃ MQ Ld MR, z = (.agg #[.slice MQ Ld MR]) ∧ Kp [kb] σ' AF ∧ Spec prog 180 #[.slice q m d, .string x.name] AF (AA R (CT fun s34 AH => Kp [kb] AF AH ∧ ∃ (f35 : Nat) (XU XV : Array Value), v24 = .func (.func f35) XU XV ∧ Enters prog f35 ∧ Spec prog f35 (XU ++ #[.agg #[.slice MQ Ld MR, .string x.val], .string s34] ++ XV) AH (AA R (CB fun t35 AZ => Bn t35 (R (.returned (.bool false)) AZ) (AN ((k : Int) + 1) ∧ D5.A2 R q m d (aD kb 0) 5 5 (aD b o) n c n ((k : Int) + 1) AZ)))))) ) := fun i f t hi hv N0 ht hf => by
     refine ⟨.func (.func f) #[] #[], ?_, ?_⟩
     rotate_left
     · refine Ve (hg.mono (CD.trans hx)) (hm x oS) fun p1 n1 c1 σ2 Z4 A6 => ⟨p1, n1, c1, rfl, Kp.HT A6, TR (hq.mono CH.mono (CD.trans (hx.trans A6))) ⟨_, rfl, Kp.HT (.refl _), f, #[], #[], rfl, N0, hf p1 n1 c1 σ2 _ Z4 (hx.trans A6) (step t σ2 ht (hx.trans A6))⟩⟩
     rw [hi]
     exact Ac (hx _ _ hc) (by simpa using hv)
   have mR : x.kind = 1 ∨ x.kind = 2 ∨ x.kind = 3 ∨ x.kind = 4 := by omega
   rcases mR with h1 | h1 | h1 | h1
   · exact row 1 217 (decide (Dl ls x.name = x.val)) h1 rfl Ee.en (by unfold NN; rw [if_pos h1]) fun p1 n1 c1 σ2 R2 _ _ qp => Ee.start fun _ => by rw [QF]; exact qp
   · exact row 2 218 (!decide (Dl ls x.name = x.val)) h1 rfl Ej.en (by unfold NN; rw [if_neg (by omega), if_pos h1]; simp) fun p1 n1 c1 σ2 R2 _ _ qp => Ej.start fun _ => by rw [QF]; exact qp
   · exact row 3 219 (X0 x.val (Dl ls x.name)) h1 rfl D1.en (by unfold NN; rw [if_neg (by omega), if_neg (by omega), if_pos h1]) fun p1 n1 c1 σ2 R2 Z4 A6 qp => D1.start fun _ => JP σ2 p1 n1 c1 Z4 A6 _ ⟨_, rfl, qp⟩
   · exact row 4 220 (!X0 x.val (Dl ls x.name)) h1 rfl D0.en (by unfold NN; rw [if_neg (by omega), if_neg (by omega), if_neg (by omega), if_pos h1]) fun p1 n1 c1 σ2 R2 Z4 A6 qp => D0.start fun _ => JP σ2 p1 n1 c1 Z4 A6 _ ⟨_, rfl, qp⟩
end
end TwW
end
section
namespace TwW
open Go Tw Go.RowKit Go.Proofs.Tryz
structure Rs where
 m : Nat
 dot : Bool
 nd : Nat
 dp : Int
def Cv (st : Rs) (u : UInt8) : Rs := if u = 46 then { st with dot := true, dp := st.nd } else if u = 48 ∧ st.nd = 0 then { st with dp := st.dp - 1 } else { st with m := st.m * 10 + (u.toNat - 48), nd := st.nd + 1 }
def HN (s : ByteArray) : Rs := s.data.toList.foldl Cv ⟨0, false, 0, 0⟩
def Sc (r : Rs) : Int := if r.m = 0 then 0 else (if r.dot then r.dp else r.nd) - r.nd
def Li (s : ByteArray) : Int :=
 let r := HN s
 if r.m = 0 then (toF 0 : Nat) else if Sc r = 0 then (toF (FloatKind.f64.nearest r.m) : Nat) else (V8 4 (FloatKind.f64.nearest r.m) (Sa.getD (-Sc r).toNat 0) : Nat)
section
variable {σ σ' : Hp} {R : Rr}
theorem NZ {s : ByteArray} (hb : s.size ≤ 4611686018427387904) (h : R (.returned (.int .i64 (AM s))) σ) : Spec prog 213 #[.string s] σ R := by
 have hlen : s.data.toList.length = s.size := Array.length_toList (xs := s.data)
 refine Fk.start ?_
 suffices H : ∀ g k : Nat, s.size - k = g → k ≤ s.size → (∀ j u, j < k → s.data.toList[j]? = some u → Bf u = true) → Fk.Hi R s k σ from H s.size 0 rfl (Nat.zero_le _) (fun j u hj => by omega)
 intro g
 induction g with
 | zero =>
   intro k hg hk h1
   have e : AM s = k := ID (by omega) h1 (fun u hu => by have := (List.getElem?_eq_some_iff.1 hu).1; omega)
   rw [e] at h
   exact Fk.BD ⟨fun Au => by omega, fun _ => h⟩
 | succ g ih =>
   intro k hg hk h1
   obtain ⟨u, hu, Cy⟩ := byte_at (show k < s.size by omega)
   have stop : Bf u = false → R (.returned (.int .i64 k)) σ := fun hd => by
     have e : AM s = k := ID (by omega) h1 (fun v hv => by rw [Cy] at hv; cases hv; exact hd)
     rw [e] at h; exact h
   refine Fk.BD ⟨fun _ => ⟨u, by omega, by simpa using hu, fun YK => ⟨u, by omega, by simpa using hu, fun h57 => ?_, fun h57 => stop ?_⟩, fun YK => stop ?_⟩, fun hh => by omega⟩
   · refine ⟨AL (by omega : k < s.size) hb, ih (k + 1) (by omega) (by omega) fun j v hj hv => ?_⟩
     by_cases oY : j = k
     · rw [oY, Cy] at hv; cases hv
       exact decide_eq_true (by omega)
     · exact h1 j v (by omega) hv
   · exact decide_eq_false (by omega)
   · exact decide_eq_false (by omega)
theorem Vf {s : ByteArray} (hb : s.size ≤ 4611686018427387904) (ht : FM s = true) (h : R (.returned (.bool true)) σ) : Spec prog 172 #[.string s] σ R := by
 have hle := LO s
 have h0 : AM s ≠ 0 := fun e => by unfold FM at ht; rw [if_pos e] at ht; cases ht
 have h1 : ¬ (1 < AM s ∧ s.data[0]? = some 48) := fun e => by unfold FM at ht; rw [if_neg h0, if_pos e] at ht; cases ht
 obtain ⟨u0, yk, _⟩ := byte_at (show 0 < s.size by omega)
 have OJ := I1 (u := u0) (k := 48) (by decide)
 have tail : Br ((AM s : Int) = ((ByteArray.size s : Nat) : Int)) (R (.returned (.bool (decide ((AM s : Int) ≤ 15)))) σ) (AN ((AM s : Int) + 1) ∧ ∃ sf, YF prog (Instr.sliceAt 9 (.string s) (some (.int .i64 ((AM s : Int) + 1))) none none) σ (.string sf) ∧ Spec prog 213 #[.string sf] σ (AA R (CI .i64 fun Wz AF => ∃ si : UInt8, 0 ≤ (AM s : Int) ∧ (ByteArray.data s)[Int.toNat (AM s : Int)]? = some si ∧ Br ((((UInt8.toNat si : Nat) : Int) : Int) = 46) (Br (0 < Wz) (AN ((AM s : Int) + 1) ∧ AN (((AM s : Int) + 1) + Wz) ∧ Br (((((AM s : Int) + 1) + Wz) : Int) = ((ByteArray.size s : Nat) : Int)) (AN ((AM s : Int) + Wz) ∧ R (.returned (.bool (decide ((((AM s : Int) + Wz) : Int) ≤ 15)))) AF) (R (.returned (.bool false)) AF)) (R (.returned (.bool false)) AF)) (R (.returned (.bool false)) AF)))) := by
   unfold FM at ht
   rw [if_neg h0, if_neg h1] at ht
   refine ⟨fun he => ?_, fun he => ⟨by unfold AN; omega, s.extract (AM s + 1) s.size, NY (l := AM s + 1) (by omega), ?_⟩⟩
   · rw [if_pos (by omega)] at ht
     rw [decide_eq_true (by have := of_decide_eq_true ht; omega)]; exact h
   · rw [if_neg (by omega)] at ht
     have ht := of_decide_eq_true ht
     have AKh : (s.extract (AM s + 1) s.size).size = s.size - (AM s + 1) := by rw [ByteArray.size_extract]; omega
     have hm := LO (s.extract (AM s + 1) s.size)
     refine NZ (by omega) ?_
     obtain ⟨u, hu, _⟩ := byte_at (show AM s < s.size by omega)
     rw [hu] at ht
     have b46 := I1 (u := u) (k := 46) (by decide)
     generalize AM (s.extract (AM s + 1) s.size) = m at *
     refine ⟨_, rfl, u, by omega, by simpa using hu, fun UW => ⟨fun h0m => ⟨by unfold AN; omega, by unfold AN; omega, fun hs => ⟨by unfold AN; omega, ?_⟩, fun hs => absurd (by omega) hs⟩, fun h0m => absurd (by omega) h0m⟩, fun UW => absurd (b46.2 (by have := ht.1; simpa using this)) UW⟩
     rw [decide_eq_true (by omega)]; exact h
 refine Oz.start (NZ hb ⟨_, rfl, fun hh => absurd hh (by omega), fun _ => ⟨fun h1n => ⟨u0, by omega, by simpa using yk, fun YK => ?_, fun _ => tail⟩, fun _ => tail⟩⟩)
 exact absurd ⟨by omega, by rw [yk, OJ.1 YK]; rfl⟩ h1
theorem bF {α : Type} {p : α → Bool} : ∀ {l : List α} {u : α}, u ∈ l.takeWhile p → p u = true
 | [], u, h => by cases h
 | a :: l, u, h => by
   unfold List.takeWhile at h
   split at h
   · rename_i ha
     rcases List.mem_cons.1 h with rfl | h
     · exact ha
     · exact bF h
   · cases h
theorem LP {s : ByteArray} (h : FM s = true) : 0 < s.size ∧ s.size ≤ 16 ∧ (∃ u, s.data.toList[0]? = some u ∧ Bf u = true) ∧ (∀ u ∈ s.data.toList, Bf u = true ∨ u = 46) ∧ (s.data.toList.filter Bf).length ≤ 15 ∧ (∀ j k : Nat, s.data.toList[j]? = some 46 → s.data.toList[k]? = some 46 → j = k) := by
 have hlen : s.data.toList.length = s.size := Array.length_toList (xs := s.data)
 have hle := LO s
 have h0 : AM s ≠ 0 := fun e => by unfold FM at h; rw [if_pos e] at h; cases h
 have h1 : ¬ (1 < AM s ∧ s.data[0]? = some 48) := fun e => by unfold FM at h; rw [if_neg h0, if_pos e] at h; cases h
 unfold FM at h
 rw [if_neg h0, if_neg h1] at h
 have hT : s.data.toList.takeWhile Bf = s.data.toList.take (AM s) := by
   unfold AM
   exact (List.prefix_iff_eq_take.1 (List.takeWhile_prefix _))
 have Vg : ∀ u ∈ s.data.toList.take (AM s), Bf u = true := fun u hu => by rw [← hT] at hu; exact bF hu
 have d46 : Bf 46 = false := by decide
 have ex0 : ∃ u, s.data.toList[0]? = some u ∧ Bf u = true := by
   obtain ⟨u, _, Cy⟩ := byte_at (show 0 < s.size by omega)
   refine ⟨u, Cy, Vg u (List.mem_of_getElem? (i := 0) ?_)⟩
   rw [List.getElem?_take, if_pos (by omega)]; exact Cy
 by_cases he : AM s = s.size
 · rw [if_pos he] at h
   have h15 := of_decide_eq_true h
   have JP : ∀ u ∈ s.data.toList, Bf u = true := fun u hu => Vg u (by rw [List.take_of_length_le (by omega)]; exact hu)
   refine ⟨by omega, by omega, ex0, fun u hu => .inl (JP u hu), by have := List.length_filter_le Bf s.data.toList; omega, fun j k hj _ => ?_⟩
   have := JP 46 (List.mem_of_getElem? hj)
   rw [d46] at this; cases this
 · rw [if_neg he] at h
   have hh := of_decide_eq_true h
   generalize hm : AM (s.extract (AM s + 1) s.size) = m at hh
   have hm2 : m ≤ 15 := by omega
   have Mc : s.data.toList = s.data.toList.take (AM s) ++ 46 :: s.data.toList.drop (AM s + 1) := by
     obtain ⟨u, hu, Cy⟩ := byte_at (show AM s < s.size by omega)
     have e46 : u = 46 := by have := hh.1; rw [hu] at this; simpa using this
     rw [← e46, ← A8 Cy, List.take_append_drop]
   have Iu : (s.extract (AM s + 1) s.size).data.toList = s.data.toList.drop (AM s + 1) := by
     rw [ByteArray.data_extract, Array.toList_extract, List.extract_eq_take_drop]
     rw [List.take_of_length_le (by rw [List.length_drop]; omega)]
   have ui : ∀ u ∈ s.data.toList.drop (AM s + 1), Bf u = true := fun u hu => by
     rw [← Iu] at hu
     have hp := List.takeWhile_prefix (p := Bf) (l := (s.extract (AM s + 1) s.size).data.toList)
     have hl : ((s.extract (AM s + 1) s.size).data.toList.takeWhile Bf).length = (s.extract (AM s + 1) s.size).data.toList.length := by
       rw [show ((s.extract (AM s + 1) s.size).data.toList.takeWhile Bf).length = AM (s.extract (AM s + 1) s.size) from rfl, hm, Iu, List.length_drop]; omega
     have := hp.eq_of_length hl
     rw [← this] at hu
     exact bF hu
   refine ⟨by omega, by omega, ex0, fun u hu => ?_, ?_, fun j k hj hk => ?_⟩
   · rw [Mc] at hu
     rcases List.mem_append.1 hu with hu | hu
     · exact .inl (Vg u hu)
     · rcases List.mem_cons.1 hu with rfl | hu
       · exact .inr rfl
       · exact .inl (ui u hu)
   · rw [Mc, List.filter_append, List.filter_cons, d46]
     have a1 := List.length_filter_le Bf (s.data.toList.take (AM s))
     have a2 := List.length_filter_le Bf (s.data.toList.drop (AM s + 1))
     rw [List.length_take] at a1
     rw [List.length_drop] at a2
     simp only [List.length_append]
     simp
     omega
   · have only : ∀ i : Nat, s.data.toList[i]? = some 46 → i = AM s := fun i hi => by
       rw [Mc] at hi
       have bw : (s.data.toList.take (AM s)).length = AM s := by rw [List.length_take]; omega
       rcases Nat.lt_trichotomy i (AM s) with Au | Au | Au
       · rw [List.getElem?_append_left (by omega)] at hi
         have := Vg 46 (List.mem_of_getElem? hi)
         rw [d46] at this; cases this
       · exact Au
       · rw [List.getElem?_append_right (by omega), bw] at hi
         obtain ⟨d, hd⟩ : ∃ d, i - AM s = d + 1 := ⟨i - AM s - 1, by omega⟩
         rw [hd, List.getElem?_cons_succ] at hi
         have := ui 46 (List.mem_of_getElem? hi)
         rw [d46] at this; cases this
     rw [only j hj, only k hk]
def bG (s : ByteArray) (k : Nat) : Nat := ((s.data.toList.take k).filter Bf).length
structure ym (s : ByteArray) (k : Nat) (r : Rs) : Prop where
 is : r = (s.data.toList.take k).foldl Cv ⟨0, false, 0, 0⟩
 nd : r.nd ≤ bG s k
 m : r.m < 10 ^ r.nd
 lo : (r.nd : Int) - r.dp ≤ bG s k
 hi : r.dp ≤ r.nd
 sw : r.dot = true → ∃ j, j < k ∧ s.data.toList[j]? = some 46
theorem Ga {u : UInt8} (h : Bf u = true) : 48 ≤ u.toNat ∧ u.toNat ≤ 57 := of_decide_eq_true h
theorem ym.zero {s : ByteArray} : ym s 0 ⟨0, false, 0, 0⟩ := ⟨rfl, Nat.zero_le _, by decide, by simp, by simp, fun h => by cases h⟩
theorem gA {s : ByteArray} {k : Nat} {u : UInt8} (hu : s.data.toList[k]? = some u) : bG s (k + 1) = bG s k + if Bf u then 1 else 0 := by
 unfold bG
 rw [Aa hu, List.filter_append, List.length_append]
 congr 1
 by_cases h : Bf u = true <;> simp [h]
theorem ym.step {s : ByteArray} {k : Nat} {r : Rs} {u : UInt8} (h : ym s k r) (hu : s.data.toList[k]? = some u) (hd : Bf u = true ∨ u = 46) : ym s (k + 1) (Cv r u) := by
 have hc := gA hu
 have his : Cv r u = (s.data.toList.take (k + 1)).foldl Cv ⟨0, false, 0, 0⟩ := by rw [Aa hu, List.foldl_append, ← h.is]; rfl
 have h1 := h.nd
 have h2 := h.m
 have h3 := h.lo
 have h4 := h.hi
 by_cases UW : u = 46
 · subst UW
   have e : Cv r 46 = { r with dot := true, dp := r.nd } := by unfold Cv; rw [if_pos rfl]
   rw [show Bf 46 = false from by decide] at hc
   simp only [Bool.false_eq_true, if_false, Nat.add_zero] at hc
   rw [e] at his ⊢
   exact ⟨his, by rw [hc]; exact h1, h2, by dsimp only; omega, Int.le_refl _, fun _ => ⟨k, by omega, hu⟩⟩
 have hdg := hd.resolve_right UW
 have hn := Ga hdg
 rw [hdg] at hc
 simp only [if_true] at hc
 by_cases YK : u = 48 ∧ r.nd = 0
 · have e : Cv r u = { r with dp := r.dp - 1 } := by unfold Cv; rw [if_neg UW, if_pos YK]
   rw [e] at his ⊢
   exact ⟨his, by dsimp only; omega, h2, by dsimp only; omega, by dsimp only; omega, fun hh => let ⟨j, h5, h6⟩ := h.sw hh; ⟨j, by omega, h6⟩⟩
 · have e : Cv r u = { r with m := r.m * 10 + (u.toNat - 48), nd := r.nd + 1 } := by unfold Cv; rw [if_neg UW, if_neg YK]
   rw [e] at his ⊢
   exact ⟨his, by dsimp only; omega, by dsimp only; rw [Nat.pow_succ]; omega, by dsimp only; omega, by dsimp only; omega, fun hh => let ⟨j, h5, h6⟩ := h.sw hh; ⟨j, by omega, h6⟩⟩
theorem mS {x : Int} (h0 : 0 ≤ x) (h1 : x < 18446744073709551616) : IntKind.u64.wrap x = x := by simp [IntKind.wrap, IntKind.bits, IntKind.signed]; omega
theorem AFJ {x : Int} (h0 : 0 ≤ x) (h1 : x < 256) : IntKind.u8.wrap x = x := by simp [IntKind.wrap, IntKind.bits, IntKind.signed]; omega
theorem YV {n : Nat} (h : n ≤ 15) : 10 ^ n ≤ 1000000000000000 := Nat.le_trans (Nat.pow_le_pow_right (by decide) h) (by decide)
theorem gB {s : ByteArray} (ht : FM s = true) (h : R (.returned (.tuple #[.int .u64 ((HN s).m : Nat), .int .i64 (Sc (HN s)), .bool false, .bool false, .bool false, .int .i64 (s.size : Nat), .bool true])) σ) : Spec prog 272 #[.string s] σ R := by
 obtain ⟨hs0, yn, ⟨u0, yk, dh⟩, iP, qq, AFK⟩ := LP ht
 have hlen : s.data.toList.length = s.size := Array.length_toList (xs := s.data)
 have hn0 := Ga dh
 have hg0 : s.data[0]? = some u0 := by rw [← Array.getElem?_toList]; exact yk
 have AFL : ∀ k, bG s k ≤ 15 := fun k => Nat.le_trans (List.Sublist.length_le ((List.take_sublist _ _).filter _)) qq
 have Vh : AE.lB R s 0 0 false false false 0 false false 10 19 101 false false 0 0 0 σ := by
   suffices H : ∀ g k : Nat, ∀ r : Rs, s.size - k = g → k ≤ s.size → ym s k r → AE.lB R s (r.m : Nat) 0 false false false (k : Nat) false false 10 19 101 r.dot (decide (0 < k)) (r.nd : Nat) (r.nd : Nat) r.dp σ from H s.size 0 ⟨0, false, 0, 0⟩ rfl (Nat.zero_le _) .zero
   intro g
   induction g with
   | zero =>
     intro k r hg hk hr
     have bz : k = s.size := by omega
     have er : r = HN s := by rw [hr.is, List.take_of_length_le (by omega)]; rfl
     have hc := AFL k
     have h1 := hr.nd
     have h3 := hr.lo
     have h4 := hr.hi
     refine AE.dO ⟨fun Au => by omega, fun _ => ?_⟩
     rw [show decide (0 < k) = true from decide_eq_true (by omega)]
     have fin : ∀ x17 : Int, (r.m ≠ 0 → x17 - r.nd = Sc r) → -100 ≤ x17 → x17 ≤ 100 → AE.dM R s (r.m : Nat) 0 false false false (k : Nat) false false 10 101 (r.nd : Nat) x17 σ := fun x17 hx hlo hhi => by
       refine AE.lH ⟨fun hh => absurd hh (by decide), fun _ => AE.lI ⟨fun Au => by omega, fun _ => ⟨fun hh => absurd hh (by decide), fun _ => AE.lJ ⟨fun hm => ⟨by unfold AN; omega, AE.Xt ⟨fun hh => (by cases hh), fun _ => ?_⟩⟩, fun hm => AE.Xt ⟨fun hh => (by cases hh), fun _ => ?_⟩⟩⟩⟩⟩
       · rw [hx (by omega), bz, er]; exact h
       · have hm0 : r.m = 0 := by omega
         have : Sc (HN s) = 0 := by rw [← er]; unfold Sc; rw [if_pos hm0]
         rw [this, ← bz, ← er] at h; exact h
     refine AE.lG ⟨fun hh => (by cases hh), fun _ => ⟨fun hf => fin _ (fun hm => ?_) (by omega) (by omega), fun hf => fin _ (fun hm => ?_) (by omega) (by omega)⟩⟩
     · unfold Sc; rw [if_neg hm, hf]; rfl
     · unfold Sc; rw [if_neg hm, hf]; rfl
   | succ g ih =>
     intro k r hg hk hr
     obtain ⟨u, hu, Cy⟩ := byte_at (show k < s.size by omega)
     have Zz := iP u (List.mem_of_getElem? Cy)
     have Cc := hr.step Cy Zz
     have PO := fun h64 => AE.lK (R := R) (σ := σ) (s0 := s) (x2 := ((Cv r u).m : Nat)) (x3 := 0) (t4 := false) (t5 := false) (t6 := false) (x7 := (k : Nat)) (t8 := false) (t9 := false) (x10 := 10) (x11 := 19) (x12 := 101) (t13 := (Cv r u).dot) (t14 := true) (x15 := ((Cv r u).nd : Nat)) (x16 := ((Cv r u).nd : Nat)) (x17 := (Cv r u).dp) ⟨h64, by
       have := ih (k + 1) (Cv r u) (by omega) (by omega) Cc
       rw [show decide (0 < k + 1) = true from decide_eq_true (by omega)] at this
       exact_mod_cast this⟩
     have PO := PO (by unfold AN; omega)
     have hc := AFL k
     have h1 := hr.nd
     have h3 := hr.lo
     have h4 := hr.hi
     refine AE.dO ⟨fun _ => ⟨u, by omega, by simpa using hu, fun h95 => ?_, fun h95 => ⟨fun UW => ⟨fun AFN => ?_, fun AFN => ?_⟩, fun UW => ?_⟩⟩, fun hh => by omega⟩
     · exfalso
       rcases Zz with hd | rfl
       · have := Ga hd; omega
       · exact absurd h95 (by decide)
     · exfalso
       obtain ⟨j, hj, On⟩ := hr.sw AFN
       have e : u = 46 := (I1 (k := 46) (by decide)).1 UW
       rw [e] at Cy
       have := AFK j k On Cy
       omega
     · have e : u = 46 := (I1 (k := 46) (by decide)).1 UW
       have hk0 : 0 < k := by
         rcases Nat.eq_zero_or_pos k with h0 | h0
         · subst h0
           rw [yk] at Cy; cases Cy
           rw [e] at dh; exact absurd dh (by decide)
         · exact h0
       rw [show decide (0 < k) = true from decide_eq_true hk0]
       rw [show Cv r u = { r with dot := true, dp := r.nd } by unfold Cv; rw [if_pos e]] at PO
       exact PO
     have hd := Zz.resolve_right fun e => UW ((I1 (k := 46) (by decide)).2 e)
     have hn := Ga hd
     have uj : u ≠ 46 := fun e => UW ((I1 (k := 46) (by decide)).2 e)
     have OJ := I1 (u := u) (k := 48) (by decide)
     refine ⟨fun _ => ⟨fun _ => ?_, fun hh => by omega⟩, fun hh => by omega⟩
     have AQm := Nat.lt_of_lt_of_le hr.m (YV (show r.nd ≤ 15 by omega))
     have digit : ¬ (u = 48 ∧ r.nd = 0) → AN ((r.nd : Int) + 1) ∧ Br ((r.nd : Int) < 19) (Df (IntKind.u64.wrap ((r.m : Int) * 10)) fun x99 => Df (IntKind.u8.wrap (((UInt8.toNat u : Nat) : Int) - 48)) fun fS => Df (IntKind.u64.wrap fS) fun fT => Df (IntKind.u64.wrap (x99 + fT)) fun aU => AN ((r.nd : Int) + 1) ∧ AE.Fm R s aU 0 false false false (k : Nat) false false 10 19 101 r.dot true ((r.nd : Int) + 1) ((r.nd : Int) + 1) r.dp σ) (Br ((((UInt8.toNat u : Nat) : Int) : Int) ≠ 48) (AE.Fm R s (r.m : Nat) 0 false true false (k : Nat) false false 10 19 101 r.dot true ((r.nd : Int) + 1) (r.nd : Nat) r.dp σ) (AE.Fm R s (r.m : Nat) 0 false false false (k : Nat) false false 10 19 101 r.dot true ((r.nd : Int) + 1) (r.nd : Nat) r.dp σ)) := fun Dy => by
       refine ⟨by unfold AN; omega, fun _ => fun x99 e99 fS AKq fT AKr aU AKs => ⟨by unfold AN; omega, ?_⟩, fun hh => absurd (by omega) hh⟩
       rw [mS (by omega) (by omega)] at e99
       rw [AFJ (by omega) (by omega)] at AKq
       rw [mS (by omega) (by omega)] at AKr
       rw [mS (by omega) (by omega)] at AKs
       rw [show Cv r u = { r with m := r.m * 10 + (u.toNat - 48), nd := r.nd + 1 } by unfold Cv; rw [if_neg uj, if_neg Dy]] at PO
       have : aU = ((r.m * 10 + (u.toNat - 48) : Nat) : Int) := by omega
       rw [this]
       exact_mod_cast PO
     refine ⟨fun YK => ⟨fun hz => ⟨by unfold AN; omega, ?_⟩, fun hz => digit fun hh => hz (by omega)⟩, fun YK => digit fun hh => YK (OJ.2 hh.1)⟩
     rw [show Cv r u = { r with dp := r.dp - 1 } by unfold Cv; rw [if_neg uj, if_pos ⟨OJ.1 YK, by omega⟩]] at PO
     exact PO
 have AKt : AE.TP R s 0 0 false false false 0 false false σ := by
   refine AE.QE ⟨by unfold AN; omega, fun Au => ⟨u0, by omega, by simpa using hg0, fun YK => ⟨by unfold AN; omega, ?_⟩, fun _ => AE.Is Vh⟩, fun _ => AE.Is Vh⟩
   obtain ⟨u1, fY, AKu⟩ := byte_at (show 1 < s.size by omega)
   refine ⟨u1, by decide, by simpa using fY, Ed.start fun x4 e4 => ⟨_, rfl, fun AKv => ?_, fun _ => AE.Is Vh⟩⟩
   exfalso
   have low : ∀ i : Fin 12, Go.bits .or .u8 (((46 + i.1 : Nat)) : Int) 32 ≠ 120 := by decide
   have F6 : 46 ≤ u1.toNat ∧ u1.toNat < 58 := by
     rcases iP u1 (List.mem_of_getElem? AKu) with hd | rfl
     · have := Ga hd; omega
     · decide
   have := low ⟨u1.toNat - 46, by omega⟩
   rw [show 46 + (u1.toNat - 46) = u1.toNat by omega] at this
   exact this (by rw [← e4]; exact AKv)
 refine AE.start ⟨fun hh => by omega, fun _ => ⟨u0, by decide, by simpa using hg0, fun hh => by omega, fun _ => ⟨fun hh => by omega, fun _ => AKt⟩⟩⟩
theorem Vi {s : ByteArray} (ht : FM s = true) (h : R (.returned (.tuple #[.float .f64 0, .int .i64 0, .bool false])) σ) : Spec prog 271 #[.string s] σ R := by
 obtain ⟨hs0, yn, ⟨u0, yk, dh⟩, iP, qq, AFK⟩ := LP ht
 have hn0 := Ga dh
 have hg0 : s.data[0]? = some u0 := by rw [← Array.getElem?_toList]; exact yk
 refine Ag.start ⟨fun hh => by omega, fun _ => ⟨u0, by decide, by simpa using hg0, fun hh => by omega, fun _ => Ag.VA ⟨fun hh => ?_, fun _ => ⟨fun hh => by omega, fun _ => Ag.pj ⟨fun hh => ?_, fun _ => ⟨fun hh => by omega, fun _ => Ag.VB ⟨fun hh => ?_, fun _ => Ag.pk h⟩⟩⟩⟩⟩⟩⟩
 · have := of_decide_eq_true hh; omega
 · have := of_decide_eq_true hh; omega
 · have := of_decide_eq_true hh; omega
theorem qs {x : Int} : YN prog 281 #[.int .u64 x] σ (.float .f64 x.toNat) := fun w _ => by
 rw [run_callFunc_extern Go.Proofs.Tryz.func281 (by kernel_rfl) (by kernel_rfl) (by kernel_rfl) (e := Extern.MathFloatBits.float64frombits) (by kernel_rfl)]
 rfl
theorem qt {s : ByteArray} (ht : FM s = true) : -15 ≤ Sc (HN s) ∧ Sc (HN s) ≤ 0 ∧ (HN s).m < 1000000000000000 := by
 obtain ⟨hs0, yn, _, iP, qq, _⟩ := LP ht
 have hlen : s.data.toList.length = s.size := Array.length_toList (xs := s.data)
 have H : ∀ k, k ≤ s.size → ym s k ((s.data.toList.take k).foldl Cv ⟨0, false, 0, 0⟩) := fun k => by
   induction k with
   | zero => intro _; exact .zero
   | succ k ih =>
     intro hk
     obtain ⟨u, hu, Cy⟩ := byte_at (show k < s.size by omega)
     have := (ih (by omega)).step Cy (iP u (List.mem_of_getElem? Cy))
     rwa [Aa Cy, List.foldl_append]
 have hr := H s.size (Nat.le_refl _)
 rw [List.take_of_length_le (by omega)] at hr
 have hc : bG s s.size ≤ 15 := Nat.le_trans (List.Sublist.length_le ((List.take_sublist _ _).filter _)) qq
 have h1 := hr.nd
 have h3 := hr.lo
 have h4 := hr.hi
 have hm := Nat.lt_of_lt_of_le hr.m (YV (show _ ≤ 15 by omega))
 change (HN s).m < _ at hm
 change (HN s).nd ≤ _ at h1
 change ((HN s).nd : Int) - (HN s).dp ≤ _ at h3
 change (HN s).dp ≤ (HN s).nd at h4
 unfold Sc
 split
 · exact ⟨by decide, by decide, hm⟩
 · split <;> omega
theorem bH {m : Nat} {e : Int} (hg : Gl σ) (hm : m < 1000000000000000) (h1 : -15 ≤ e) (h2 : e ≤ 0) (h : ∀ x : Nat, (toF x : Nat) = (if e = 0 then toF (FloatKind.f64.nearest m) else V8 4 (FloatKind.f64.nearest m) (Sa.getD (-e).toNat 0)) → R (.returned (.tuple #[.float .f64 x, .bool true])) σ) :
   Spec prog 282 #[.int .u64 (m : Nat), .int .i64 e, .bool false] σ R := by
 refine BG.start ⟨52, hg.bits, by decide, fun x11 yo => ⟨fun hh => ?_, fun _ => ?_⟩⟩
 · exfalso
   apply hh
   rw [yo]
   exact Int.ediv_eq_zero_of_lt (by omega) (by show (m : Int) < 4503599627370496; omega)
 refine SN (v := .float .f64 (FloatKind.f64.nearest m)) (fun w => by kernel_rfl) ⟨_, rfl, fun hh => (by cases hh), fun _ => BG.qJ ⟨fun h0 => h _ (by rw [if_pos h0]), fun h0 => ⟨fun hh => by omega, fun _ => ⟨fun _ => ⟨fun _ => ?_, fun hh => absurd (by omega) hh⟩, fun hh => absurd (by omega) hh⟩⟩⟩⟩
 obtain ⟨b, o, n, c, hp, hn, hl⟩ := hg.pow
 refine ⟨_, n, c, hp, fun qF e60 => ?_⟩
 have AKw : qF = -e := by rw [e60]; simp [IntKind.wrap, IntKind.bits, IntKind.signed]; omega
 have Au : (-e).toNat < Sa.length := by show _ < 16; omega
 refine ⟨b, o, rfl, by omega, Sa.getD (-e).toNat 0, ?_, dX fun y hy => ⟨_, rfl, h y (by rw [if_neg h0]; exact hy)⟩⟩
 rw [AKw]
 exact hl _ _ (by rw [List.getD_eq_getElem?_getD, List.getElem?_eq_getElem Au]; rfl)
theorem gC {s : ByteArray} (hg : Gl σ) (ht : FM s = true) (h : ∀ x : Nat, ((toF x : Nat) : Int) = Li s → R (.returned (.tuple #[.float .f64 x, .int .i64 (s.size : Nat), .nilIface])) σ) : Spec prog 253 #[.string s] σ R := by
 obtain ⟨h1, h2, hm⟩ := qt ht
 refine EE.start (Vi ht ⟨_, _, _, rfl, fun hh => (by cases hh), fun _ => gB ht ⟨_, _, _, _, _, _, _, rfl, fun hh => (by cases hh), fun _ => ⟨fun hh => (by cases hh), fun _ => ⟨true, hg.opt, fun _ => CG.start ⟨fun hh => (by cases hh), fun _ => ⟨_, rfl, by decide, fun aH e67 => ?_⟩⟩, fun hh => (by cases hh)⟩⟩⟩⟩)
 have AKx : aH = 0 := by rw [e67]; rfl
 subst AKx
 refine ⟨fun h0 => fun x71 e71 => .y qs ⟨_, rfl, h _ ?_⟩, fun h0 => ⟨fun hh => by omega, fun _ => ⟨fun hh => by omega, fun _ => ⟨fun _ => bH hg hm h1 h2 fun x hx => ⟨_, _, rfl, fun _ => h x ?_, fun hh => (by cases hh)⟩, fun hh => (by cases hh)⟩⟩⟩⟩
 · have : x71 = 0 := by rw [e71]; decide
   rw [this]
   unfold Li
   rw [if_pos (by omega)]; rfl
 · unfold Li
   dsimp only
   rw [if_neg (by omega), hx]
   split <;> rfl
theorem YW {s : ByteArray} (hg : Gl σ) (ht : FM s = true) (h : R (.returned (.tuple #[.int .u64 (Li s), .bool true])) σ) : Spec prog 140 #[.string s] σ R := by
 obtain ⟨_, yn, _⟩ := LP ht
 refine Oy.start (Vf (by omega) ht ⟨_, rfl, fun hh => (by cases hh), fun _ => Gp.start (Ct.start (Ba.start ⟨fun hh => absurd hh (by decide), fun _ => gC hg ht fun x hx => ⟨_, _, _, rfl, _, _, _, rfl, fun hh => absurd rfl hh, fun _ => ⟨_, _, rfl, false, fun w _ => by kernel_rfl, fun hh => (by cases hh), fun _ => ⟨_, _, rfl, GK ⟨_, rfl, by rw [hx]; exact h⟩⟩⟩⟩⟩))⟩)
end
end TwW
end
section
namespace TwW
open Go Tw Go.RowKit Go.Proofs.Tryz
def AW {α : Type} (s : Nat) (E : Hp → List Value → α → Prop) (σ0 σ : Hp) (p : Option Addr) (n c : Nat) (xs : List α) : Prop := GG s E σ p n c xs ∧ Ext σ0 (σ.del p)
section
variable {α : Type} {s bs : Nat} {E : Hp → List Value → α → Prop} {σ0 σ σ' : Hp} {p : Option Addr} {n c : Nat} {xs : List α}
theorem AW.nil (hx : Ext σ0 σ) : AW s E σ0 σ none 0 0 [] := ⟨GG.nil, hx⟩
theorem AW.mono (hE : Gz E) (h : AW s E σ0 σ p n c xs) (hx : Ext σ σ') : AW s E σ0 σ' p n c xs := ⟨h.1.mono hE hx, h.2.trans (hx.del p)⟩
theorem AW.up (h : AW s E σ0 σ p n c xs) : Ext σ0 σ := h.2.trans (Ext.IS _ _)
theorem AW.rd (hE : Gz E) (h : AW s E σ0 σ p n c xs) : Af s E σ p n xs := h.1.rd hE
theorem AW.new (h : AW s E σ0 σ p n c xs) (hx : Ext σ σ') : Ext (σ.new σ') (σ'.del p) := Ext.oe (fun a ha => h.1.block a ha)
theorem AW.JZ {P : Program} {T Et ty : TypeId} {vs : List Value} {x : α} {Φ : Value → Hp → Prop} (hE : Gz E) [JY P T Et s bs] (h : AW s E σ0 σ p n c xs) (hl : vs.length = s) (h1 : GF vs) (hx : E (σ.del p) vs x) (hb : (n + 1) * bs ≤ 140737488355328)
   (hΦ : ∀ p' c' σ', AW s E σ0 σ' p' (n + 1) c' (xs ++ [x]) → Ext (σ.del p) (σ'.del p') → Φ (.slice p' (n + 1) c') σ') {b : Nat} (hn : σ b = none) :
   AJ P (Builtin.append_ #[T, T] ty #[.slice p n c, .slice (some ⟨b, 0, none⟩) 1 1]) (σ.set b (.cells vs.toArray Et (0, 0))) Φ := by
 obtain ⟨⟨hlen, cs, ho, hc⟩, hx0⟩ := h
 refine Dz (ho.mono (.set hn)) ⟨by rw [hl, Nat.one_mul], by omega, .inr ⟨b, 0, rfl, Aq.of fun j v hj => ?_⟩⟩ h1 hb fun p' c' σ' Mp Xy => ?_
 · simp [Hp.ld, Hp.AB, hj]
 · have e : Ext (σ.del p) (σ'.del p') := ((Ext.set hn).del p).trans Xy
   exact hΦ p' c' σ' ⟨⟨by simp [hlen], _, Mp, (hc.snoc hl hx).mono hE e⟩, hx0.trans e⟩ e
end
theorem Bq.one (σ : Hp) (vs : List Value) (x : El) (h : Bq σ vs x) : GF vs := by
 obtain ⟨p, n, c, rfl, _⟩ := h
 intro u hu
 simp only [List.mem_cons, List.not_mem_nil, or_false] at hu
 rcases hu with rfl | rfl <;> rfl
theorem Bq.at {σ : Hp} {p : Option Addr} {n i : Nat} {l : List El} {x : El} (hr : Af 2 Bq σ p n l) (hx : l[i]? = some x) : ∃ b o q m d, p = some ⟨b, o, none⟩ ∧ Aq σ b (o + i * 2) [.slice q m d, .int .u64 x.v] ∧ FV σ q m x.ls := by
 obtain ⟨b, o, vs, hp, ⟨q, m, d, rfl, h⟩, hl⟩ := Af.idx hr hx
 exact ⟨b, o, q, m, d, hp, hl, h⟩
section
variable {σ σ' σ0 : Hp} {R : Rr}
theorem mT {p : Option Addr} {n c : Nat} {xs : List Int} {Φ : Value → Hp → Prop} (hr : E7 .u8 σ p n xs) (h : Φ (.string (strOfNums xs)) σ) : AJ prog (convert 90 9 (.slice p n c)) σ Φ := by
 refine AJ.pu (fun w hs => ?_) h
 have h1 := underlying90
 have h2 := underlying9
 by_cases hn : n = 0
 · subst hn
   have hx : xs = [] := List.eq_nil_of_length_eq_zero hr.1
   subst hx
   rw [run_convert_bytes_string w 90 9 _ p 0 c h1 underlying5 h2]
   cases p <;> simp [Conv.bytesToString, loadCells] <;> rfl
 · obtain ⟨x0, hx0⟩ := hr.ex (k := 0) (by omega)
   obtain ⟨b, o, rfl, _⟩ := hr.at hx0
   refine run_convert_bytes_arg w 90 _ h1 underlying5 b o n c xs hr.1 (fun i hi => ?_) 9 h2
   obtain ⟨x, hx⟩ := hr.ex hi
   obtain ⟨b', o', he, hl⟩ := hr.at hx
   cases he
   have := cell_of hs hl
   simpa [Bi, hx] using this
theorem FN {p : Option Addr} {n c : Nat} {ls : List Lb} (hr : FV σ p n ls) (hs : Ao ls) (h : ∀ σ', Ext σ σ' → R (.returned (.string (FK ls))) σ') : Spec prog 49 #[.slice p n c] σ R :=
 W1.start (VU hr hs fun p' n' c' σ' ho hx => ⟨_, _, _, rfl, mT (Dj.rd (A9.mono (Ext.Cj _ _) ho)) ⟨_, rfl, h σ' hx⟩⟩)
theorem FO {p : Option Addr} {n c : Nat} {ls : List Lb} (hr : FV σ p n ls) (hn : n ≤ 1000000) (h : ∀ p' n' c' σ', FV (σ.new σ') p' n' (BJ ls) → Ext σ σ' → R (.returned (.slice p' n' c')) σ') : Spec prog 146 #[.slice p n c] σ R := by
 refine UB.start fun b hb => ?_
 have hx := Ext.set (o := .cells #[(.string (ByteArray.mk #[95, 95, 110, 97, 109, 101, 95, 95]))] 9 (0, 0)) hb
 refine Iv (ns := [CJ]) (hr.mono CH.mono hx) hn (VV (Hp.AB _ _ _)) fun p' n' c' σ' ho Xy => ⟨_, _, _, rfl, h p' n' c' σ' ((ho.rd CH.mono).mono CH.mono (Ext.DD hx)) (hx.trans Xy)⟩
theorem UZ {p q : Option Addr} {n c m d : Nat} {ls : List Lb} {ns : List ByteArray} (hr : FV σ p n ls) (hn : n ≤ 1000000) (hs : Ez 1 σ q m (ns.map .string))
   (h : ∀ p' n' c' σ', FV (σ.new σ') p' n' (PF ns ls) → Ext σ σ' → R (.returned (.slice p' n' c')) σ') : Spec prog 149 #[.slice p n c, .slice q m d] σ R := by
 refine Qw.start fun b3 ZF => ?_
 have D8 : Ext σ (σ.set b3 (.cells #[.slice q m d] 34 (0, 0))) := .set ZF
 refine PE (f := 198) (g := fun x => CO x.1 ns) GI.en (hr.mono CH.mono D8) hn (fun σ' x R' hx LK => ?_) fun p' n' c' σ' ho hx => ⟨_, _, _, rfl, h p' n' c' σ' ?_ (D8.trans hx)⟩
 · refine GI.start fun _ => ⟨q, m, d, Ac (hx _ _ (Hp.AB _ _ _)) rfl, Ki (hs.mono (D8.trans hx)) ⟨_, rfl, LK⟩⟩
 · exact (ho.rd CH.mono).mono CH.mono (Ext.DD D8)
theorem gD {p q : Option Addr} {n c m d : Nat} {ls : List Lb} {ns : List ByteArray} (hr : FV σ p n ls) (hn : n ≤ 1000000) (hs : Ez 1 σ q m (ns.map .string))
   (h : ∀ p' n' c' σ', FV (σ.new σ') p' n' (BJ (NL ns ls)) → Ext σ σ' → R (.returned (.slice p' n' c')) σ') {R' : Rr} (hR : ∀ p' n' c' σ', R (.returned (.slice p' n' c')) σ' → R' (.returned (.slice p' n' c')) σ') :
   Spec prog 150 #[.slice p n c, .slice q m d] σ (AA R' (CS fun cz n15 W4 y => Spec prog 146 #[.slice cz n15 W4] y (AA R' (CS fun cb n16 Ws AF => R' (.returned (.slice cb n16 Ws)) AF)))) := by
 refine Iv hr hn hs fun p' n' c' σ1 ho hx => ⟨_, _, _, rfl, ?_⟩
 have hl : n' ≤ n := by
   have h1 := ho.1
   have h2 := List.length_filter_le (fun x : Lb => !CO x.1 ns) ls
   have h3 : ls.length = n := hr.1
   omega
 refine FO ((ho.rd CH.mono).mono CH.mono (Ext.Cj _ _)) (by omega) fun p2 n2 c2 σ2 HO A6 => ⟨_, _, _, rfl, hR _ _ _ _ (h p2 n2 c2 σ2 (HO.mono CH.mono (Ext.DD hx)) (hx.trans A6))⟩
theorem QK {n : Nd} {p q r : Option Addr} {k c m d j e : Nat} {ls : List Lb} (hr : FV σ r j ls) (hj : j ≤ 1000000) (hs : Ez 1 σ q m (n.names.map .string))
   (h : ∀ p' n' c' σ', FV (σ.new σ') p' n' (Nt n ls) → Ext σ σ' → R (.returned (.slice p' n' c')) σ') : Spec prog 207 #[Lh n p k c q m d, .slice r j e] σ R := by
 refine dF.start fun _ => ⟨fun h3 => UZ hr hj hs fun p' n' c' σ' hJ hx => ⟨_, _, _, rfl, h p' n' c' σ' ?_ hx⟩, fun h3 => gD hr hj hs (fun p' n' c' σ' hJ hx => h p' n' c' σ' ?_ hx) fun _ _ _ _ hh => hh⟩
 · unfold Nt; rw [if_pos h3]; exact hJ
 · unfold Nt; rw [if_neg h3]; exact hJ
theorem Ao.filter {ls : List Lb} (g : Lb → Bool) (h : Ao ls) : Ao (ls.filter g) := ⟨Nat.le_trans (List.length_filter_le _ _) h.1, fun x hx => h.2 x (List.mem_filter.1 hx).1⟩
theorem Ao.bare {ls : List Lb} (h : Ao ls) : Ao (BJ ls) := h.filter _
theorem Ao.Nt {n : Nd} {ls : List Lb} (h : Ao ls) : Ao (TwW.Nt n ls) := by
 unfold TwW.Nt PF BJ NL
 split
 · exact h.filter _
 · exact (h.filter _).filter _
structure IG (R : Rr) (σ : Hp) (X : Option Vv) : Prop where
 ok : ∀ x σ' p n c q m d, X = some x → Ext σ σ' → Af 2 Bq σ' p n x.vec → Af 2 SL σ' q m x.N9 → n ≤ c → m ≤ d → R (.returned (.tuple #[.agg #[.int .i64 x.kind, .int .u64 x.v, .slice p n c, .slice q m d], .int .i64 0])) σ'
 no : X = none → ∀ σ', Ext σ σ' → R (.returned (.tuple #[.agg #[.int .i64 0, .int .u64 0, .slice none 0 0, .slice none 0 0], .int .i64 223])) σ'
theorem IG.gE {X : Option Vv} (h : IG R σ X) (hx : Ext σ σ') : IG R σ' X := ⟨fun x σ2 p n c q m d h0 h1 h2 h3 => h.ok x σ2 p n c q m d h0 (hx.trans h1) h2 h3, fun h0 σ2 h1 => h.no h0 σ2 (hx.trans h1)⟩
theorem IG.TW {X : Option Vv} (h : IG R σ X) : IG (AA R (fun z y => ∃ W5 W6 W7 W8 W9 XA XB XC jr, z = (.tuple #[.agg #[.int .i64 W5, .int .u64 W6, .slice W7 W8 W9, .slice XA XB XC], .int .i64 jr]) ∧ R (.returned (.tuple #[.agg #[.int .i64 W5, .int .u64 W6, .slice W7 W8 W9, .slice XA XB XC], .int .i64 jr])) y)) σ X :=
 ⟨fun x σ' p n c q m d h0 h1 h2 h3 h4 h5 => ⟨_, _, _, _, _, _, _, _, _, rfl, h.ok x σ' p n c q m d h0 h1 h2 h3 h4 h5⟩, fun h0 σ' h1 => ⟨_, _, _, _, _, _, _, _, _, rfl, h.no h0 σ' h1⟩⟩
theorem gF [Ev] {p q : Option Addr} {n c m d : Nat} {v u : Int} {ls ms : List Lb} (hr : FV σ p n ls) (hs : FV σ q m ms) (h : ∀ σ', Ext σ σ' → R (.returned (.int .i64 (Ca ls ms))) σ') : Spec prog 196 #[.agg #[.slice p n c, .int .u64 v], .agg #[.slice q m d, .int .u64 u]] σ R :=
 Lp.start fun _ _ => LL hr hs fun σ' hx => ⟨_, rfl, h σ' hx⟩
end
end TwW
end
section
namespace TwW
open Go Tw Go.RowKit Go.Proofs.Tryz
def Na (op : Int) (vs : List Int) (w : Int) : Option Int :=
 if op = 4 then some (Vb vs) else if op = 5 then some (PJ 4 (Vb vs) (Bg vs.length)) else if op = 6 then some (Lz 7 vs) else if op = 7 then some (Lz 9 vs) else if op = 8 then some (Bg vs.length)
 else if op = 9 then some (YB (vs.getLast?.getD 0)) else if op = 10 then some (QJ vs) else if vs.length < 2 then none
 else if op = 3 then some (PJ 2 (vs.getLast?.getD 0) (vs.head?.getD 0)) else if op = 2 then some (NW vs) else some (PJ 4 (NW vs) w)
def foldI (op : Int) (vs : List Int) : Int := if op = 1 then Vb vs else if op = 2 then Lz 7 vs else if op = 3 then Lz 9 vs else if op = 4 then PJ 4 (Vb vs) (Bg vs.length) else Bg vs.length
def Fq (op a b : Int) : Int × Bool := if 1 ≤ op ∧ op ≤ 4 then (PJ op a b, true) else (if YC op a b then Bg 1 else Bg 0, YC op a b)
def FF : Fl := { num := Li, abs := ak, floor := Va, whole := Bg, l4 := uZ, over := Na, fold := foldI, Ps := Fq, fa := JN, cmpL := Ca }
structure PQ (σ : Hp) (ab : Nat) (ss : List Sr) (t : Int) : Prop where
 ser : ∃ p n c, σ.ld ⟨ab, 0, none⟩ = some (.slice p n c) ∧ Af 2 EP σ p n ss
 at_ : σ.ld ⟨ab, 1, none⟩ = some (.int .i64 t)
theorem PQ.mono {σ σ' : Hp} {ab : Nat} {ss : List Sr} {t : Int} (h : PQ σ ab ss t) (hx : Ext σ σ') : PQ σ' ab ss t := ⟨let ⟨p, n, c, h1, h2⟩ := h.ser; ⟨p, n, c, hx.ld h1, h2.mono EP.mono hx⟩, hx.ld h.at_⟩
structure qu (ss : List Sr) : Prop where
 ris : ∀ s ∈ ss, YJ s.ps
 sm : ∀ s ∈ ss, Ao s.ls
 len : ss.length ≤ 10000000
structure yp (n : Nd) : Prop where
 mki : ∀ x ∈ n.mt, 1 ≤ x.kind ∧ x.kind ≤ 4
 mv : ∀ x ∈ n.mt, x.val.size ≤ 1000000
 back : 0 ≤ n.back ∧ n.back < 2147483648
 width : 0 ≤ n.width ∧ n.width < 2147483648
section
variable {σ σ' σ0 : Hp} {R : Rr}
theorem Nb {n : Nd} {a p q l : Option Addr} {k c m d j e : Nat} (hg : Gl σ) (ht : FM n.text = true) (h : IG R σ (some ⟨1, Li n.text, [], []⟩)) : Spec prog 100 #[.pointer a, Lh n p k c q m d, .slice l j e] σ R :=
 Bl.start fun _ _ => YW hg ht ⟨_, _, rfl, h.ok _ σ none 0 0 none 0 0 rfl (.refl _) Af.nil Af.nil (Nat.le_refl _) (Nat.le_refl _)⟩
theorem HP {n : Nd} {p q : Option Addr} {k c m d : Nat} {a b : Int} (h : R (.returned (.tuple #[.int .u64 (Fq n.op a b).1, .bool (Fq n.op a b).2])) σ) : Spec prog 156 #[Lh n p k c q m d, .int .u64 a, .int .u64 b] σ R := by
 refine O8.start fun _ => Iy ?_
 unfold Fq at h
 by_cases h1 : 1 ≤ n.op ∧ n.op ≤ 4
 · rw [if_pos h1] at h ⊢
   exact ⟨_, _, rfl, fun _ => h, fun hh => (by cases hh)⟩
 · rw [if_neg h1] at h ⊢
   exact ⟨_, _, rfl, fun hh => (by cases hh), fun _ => Iz ⟨_, _, rfl, au ⟨_, rfl, h⟩⟩⟩
theorem Gb {α β : Type} {f : α → Option β} {xs : List α} {k : Nat} {x : α} (hx : xs[k]? = some x) : (xs.take (k + 1)).filterMap f = (xs.take k).filterMap f ++ (f x).toList := by
 rw [Aa hx, List.filterMap_append]
 cases h : f x <;> simp [List.filterMap_cons, h]
theorem YX {n : Nd} {p q l : Option Addr} {k c m d j e ab : Nat} {ss : List Sr} {t : Int} (hA : PQ σ ab ss t) (hg : Gl σ) (hm : Af 3 Nu σ p k n.mt) (hS : qu ss) (hN : yp n) (ht : -4611686018427387904 ≤ t ∧ t ≤ 4611686018427387904)
   (h : IG R σ (some ⟨2, 0, A0 FF n ss t, []⟩)) : Spec prog 101 #[.pointer (some ⟨ab, 0, none⟩), Lh n p k c q m d, .slice l j e] σ R := by
 obtain ⟨pss, Pu, qw, E6, hr⟩ := hA.ser
 have hl : ss.length = Pu := hr.1
 have hlen := hS.len
 have hb := hN.back
 let f : Sr → Option El := fun s => match (F3 s.ps (t - n.back - 300) (t - n.back)).getLast? with
   | none => none
   | some p => if p.2 = JM ∨ FF.fa n.mt s.ls = false then none else some ⟨s.ls, p.2⟩
 have hf : A0 FF n ss t = ss.filterMap f := rfl
 rw [hf] at h
 refine Ab.start fun _ _ _ => ⟨ab, 0, rfl, pss, Pu, qw, E6, ?_⟩
 suffices H : ∀ g i : Nat, ∀ p8 n8 c8 σ', Pu - i = g → i ≤ Pu → AW 2 Bq σ σ' p8 n8 c8 ((ss.take i).filterMap f) → Ab.A2 R (aD ab 0) n.kind n.op n.text p k c n.width n.back n.EO q m d n.bool n.parts 0 0 none 0 0 none 0 0 2 0 p8 n8 c8 none 0 0 pss Pu qw Pu i σ' from H Pu 0 none 0 0 σ rfl (Nat.zero_le _) (AW.nil (.refl _))
 intro g
 induction g with
 | zero =>
   intro i p8 n8 c8 σ' qz hi ho
   rw [List.take_of_length_le (by omega)] at ho
   exact Ab.AY ⟨fun Au => by omega, fun _ => h.ok _ σ' p8 n8 c8 none 0 0 rfl ho.up (ho.rd Bq.mono) Af.nil (by obtain ⟨cs, V9, _⟩ := ho.1.2; exact A9.cap V9) (Nat.le_refl _)⟩
 | succ g ih =>
   intro i p8 n8 c8 σ' qz hi ho
   have Be : i < Pu := by omega
   obtain ⟨s, hs⟩ := hr.ex Be
   obtain ⟨b, o, p1, n1, c1, q1, m1, d1, rfl, UQ, h1, h2, h3⟩ := EP.at hr hs
   have hZ := hS.sm s (List.mem_of_getElem? hs)
   have yq := hS.ris s (List.mem_of_getElem? hs)
   have hx := ho.up
   have PR : n8 ≤ i := by
     have := ho.1.1
     have h9 := List.length_filterMap_le f (ss.take i)
     rw [List.length_take] at h9
     omega
   have next : ∀ p9 n9 c9 σ2, AW 2 Bq σ σ2 p9 n9 c9 ((ss.take i).filterMap f ++ (f s).toList) → Ab.La R (aD ab 0) n.kind n.op n.text p k c n.width n.back n.EO q m d n.bool n.parts 0 0 none 0 0 none 0 0 2 0 p9 n9 c9 none 0 0 (aD b o) Pu qw Pu i σ2 := fun p9 n9 c9 σ2 Bb =>
     Ab.Ip ⟨AL Be hr.big, ih (i + 1) _ _ _ _ (by omega) (by omega) (by rw [Gb hs]; exact Bb)⟩
   refine Ab.AY ⟨fun _ => ⟨b, o, rfl, by omega, p1, n1, c1, q1, m1, d1, by simpa using UQ.mono hx, fun _ => ⟨ab, 0, rfl, t, hx.ld hA.at_, by unfold AN; omega, by unfold AN; omega, t, hx.ld hA.at_, by unfold AN; omega, PL (h2.mono JO.mono hx) h3 yq fun q2 m2 d2 HO uo => ⟨q2, m2, d2, rfl, fun h0 => ?_, fun h0 => ?_⟩⟩⟩, fun hh => by omega⟩
   · refine next _ _ _ _ ?_
     have e : f s = none := by
       show (match (F3 s.ps (t - n.back - 300) (t - n.back)).getLast? with | none => none | some p => _) = none
       have gG : (F3 s.ps (t - n.back - 300) (t - n.back)).length = m2 := HO.1
       rw [List.length_eq_zero_iff.1 (show (F3 s.ps (t - n.back - 300) (t - n.back)).length = 0 by omega)]; rfl
     rw [e]; simpa using ho
   have gG : (F3 s.ps (t - n.back - 300) (t - n.back)).length = m2 := HO.1
   obtain ⟨y, hy⟩ := HO.ex (k := m2 - 1) (by omega)
   obtain ⟨b2, o2, rfl, ah⟩ := JO.at HO hy
   have e1 : Int.toNat ((m2 : Int) - 1) = m2 - 1 := by omega
   have MX := HO.big
   have AFP : (F3 s.ps (t - n.back - 300) (t - n.back)).getLast? = some y := by rw [List.getLast?_eq_getElem?, gG, hy]
   have ef : f s = if y.2 = JM ∨ JN n.mt s.ls = false then none else some ⟨s.ls, y.2⟩ := by
     show (match (F3 s.ps (t - n.back - 300) (t - n.back)).getLast? with | none => none | some p => _) = _
     rw [AFP]; rfl
   refine ⟨by unfold AN; omega, b2, o2, rfl, by omega, y.2, by rw [e1]; exact ah.2.1, fun Cc => ?_, fun Cc => UY ((hg.mono hx)) (hm.mono Nu.mono hx) (h1.mono CH.mono hx) hN.mv (fun x hx => by have := (hZ.2 x hx).2; omega) hN.mki fun σ2 A6 => ⟨_, rfl, fun hf => ?_, fun htr => ?_⟩⟩
   · refine next _ _ _ _ ?_
     rw [ef, if_pos (.inl Cc)]; simpa using ho
   · refine next _ _ _ _ ?_
     rw [ef, if_pos (.inr hf)]
     simpa using ho.mono Bq.mono A6
   · refine ⟨by unfold AN; omega, by omega, y.2, by rw [e1]; exact A6.ld ah.2.1, fun xw yr => ?_⟩
     have Bb := ho.mono Bq.mono A6
     have he : Bq (σ2.del p8) [.slice p1 n1 c1, .int .u64 y.2] ⟨s.ls, y.2⟩ := ⟨p1, n1, c1, rfl, h1.mono CH.mono Bb.2⟩
     refine AW.JZ Bq.mono Bb rfl (Bq.one _ _ _ he) he (by omega) (fun p' c' σ3 FQ _ => ⟨_, _, _, rfl, next _ _ _ _ ?_⟩) yr
     rw [ef, if_neg (by
                        rintro (h5 | h5)
                        · exact Cc h5
                        · rw [htr] at h5; cases h5)]
     exact FQ
theorem A9.mU {s : Nat} {p q : Option Addr} {n c : Nat} {cs : List Value} (ho : A9 s σ q n c cs) (h : ∀ a, q = some a → ∀ a', p = some a' → a.block ≠ a'.block) : A9 s (σ.del p) q n c cs :=
 ⟨ho.1, ho.2.1, ho.2.2.imp id fun ⟨b', o', arr, T, hp, hb, r⟩ => ⟨b', o', arr, T, hp, AR.2 ⟨fun a' ZI => h _ hp a' ZI, hb⟩, r⟩⟩
theorem AW.sep {α : Type} {s : Nat} {E : Hp → List Value → α → Prop} {p q : Option Addr} {n c m d : Nat} {xs : List α} {ys : List Int} (h : AW s E σ0 σ p n c xs) (g : AW 1 (PW .u64) σ σ' q m d ys) : E7 .u64 (σ'.del p) q m ys ∧ m ≤ d := by
 obtain ⟨⟨_, cs, ho, hc⟩, hx⟩ := g
 have hp := h.1.block
 refine ⟨?_, A9.cap ho⟩
 have Ml := ZW.1 hc
 subst Ml
 refine E7.ig (A9.rd (A9.mU ho fun a ha a' ZI e => ?_))
 cases hh : σ a'.block with
 | none => exact hp a' ZI hh
 | some u => exact (AR.1 (hx _ _ hh)).1 a ha e.symm
theorem SL.one (σ : Hp) (vs : List Value) (x : Rg) (h : SL σ vs x) : GF vs := by
 obtain ⟨p, n, c, q, m, d, rfl, _⟩ := h
 intro u hu
 simp only [List.mem_cons, List.not_mem_nil, or_false] at hu
 rcases hu with rfl | rfl <;> rfl
theorem bI {n : Nd} {p q l : Option Addr} {k c m d j e ab : Nat} {ss : List Sr} {t : Int} (hA : PQ σ ab ss t) (hg : Gl σ) (hm : Af 3 Nu σ p k n.mt) (hS : qu ss) (hN : yp n) (ht : -4611686018427387904 ≤ t ∧ t ≤ 4611686018427387904) (hpl : ∀ s ∈ ss, s.ps.length ≤ 1000000000)
   (h : IG R σ (some ⟨3, Bg n.width, [], aZ FF n ss t⟩)) : Spec prog 102 #[.pointer (some ⟨ab, 0, none⟩), Lh n p k c q m d, .slice l j e] σ R := by
 obtain ⟨pss, Pu, qw, E6, hr⟩ := hA.ser
 have hl : ss.length = Pu := hr.1
 have hlen := hS.len
 have hb := hN.back
 have hw := hN.width
 let fv : Sr → List Int := fun s => ((F3 s.ps (t - n.back - n.width) (t - n.back)).filter fun p => decide (p.2 ≠ JM)).map Prod.snd
 let f : Sr → Option Rg := fun s => bif !(fv s).isEmpty && FF.fa n.mt s.ls then some ⟨s.ls, fv s⟩ else none
 have hf : aZ FF n ss t = ss.filterMap f := rfl
 rw [hf] at h
 refine AQ.start fun _ _ => I0 ⟨_, rfl, fun _ => ⟨ab, 0, rfl, pss, Pu, qw, E6, ?_⟩⟩
 suffices H : ∀ g i : Nat, ∀ p8 n8 c8 σ', Pu - i = g → i ≤ Pu → AW 2 SL σ σ' p8 n8 c8 ((ss.take i).filterMap f) → AQ.A2 R (aD ab 0) n.kind n.op n.text p k c n.width n.back n.EO q m d n.bool n.parts 0 0 none 0 0 none 0 0 3 (Bg n.width) none 0 0 p8 n8 c8 pss Pu qw Pu i σ' from H Pu 0 none 0 0 σ rfl (Nat.zero_le _) (AW.nil (.refl _))
 intro g
 induction g with
 | zero =>
   intro i p8 n8 c8 σ' qz hi ho
   rw [List.take_of_length_le (by omega)] at ho
   exact AQ.AY ⟨fun Au => by omega, fun _ => h.ok _ σ' none 0 0 p8 n8 c8 rfl ho.up Af.nil (ho.rd SL.mono) (Nat.le_refl _) (by obtain ⟨cs, V9, _⟩ := ho.1.2; exact A9.cap V9)⟩
 | succ g ih =>
   intro i p8 n8 c8 σ' qz hi ho
   have Be : i < Pu := by omega
   obtain ⟨s, hs⟩ := hr.ex Be
   obtain ⟨b, o, p1, n1, c1, q1, m1, d1, rfl, UQ, h1, h2, h3⟩ := EP.at hr hs
   have hZ := hS.sm s (List.mem_of_getElem? hs)
   have yq := hS.ris s (List.mem_of_getElem? hs)
   have AQr := hpl s (List.mem_of_getElem? hs)
   have hx := ho.up
   have PR : n8 ≤ i := by
     have := ho.1.1
     have h9 := List.length_filterMap_le f (ss.take i)
     rw [List.length_take] at h9
     omega
   have next : ∀ p9 n9 c9 σ2, AW 2 SL σ σ2 p9 n9 c9 ((ss.take i).filterMap f ++ (f s).toList) → AQ.Lg R (aD ab 0) n.kind n.op n.text p k c n.width n.back n.EO q m d n.bool n.parts 0 0 none 0 0 none 0 0 3 (Bg n.width) none 0 0 p9 n9 c9 (aD b o) Pu qw Pu i σ2 := fun p9 n9 c9 σ2 Bb =>
     AQ.Is ⟨AL Be hr.big, ih (i + 1) _ _ _ _ (by omega) (by omega) (by rw [Gb hs]; exact Bb)⟩
   refine AQ.AY ⟨fun _ => ⟨b, o, rfl, by omega, p1, n1, c1, q1, m1, d1, by simpa using UQ.mono hx, fun _ => ⟨ab, 0, rfl, t, hx.ld hA.at_, by unfold AN; omega, by unfold AN; omega, t, hx.ld hA.at_, by unfold AN; omega, PL (h2.mono JO.mono hx) h3 yq fun q2 m2 d2 HO uo => ⟨q2, m2, d2, rfl, ?_⟩⟩⟩, fun hh => by omega⟩
   have gG : (F3 s.ps (t - n.back - n.width) (t - n.back)).length = m2 := HO.1
   have hm2 : m2 ≤ 1000000000 := by
     have := List.length_filter_le (fun p : Int × Int => decide (t - n.back - n.width < p.1) && decide (p.1 ≤ t - n.back)) s.ps
     rw [← gG]; unfold F3; omega
   have hfv : fv s = ((F3 s.ps (t - n.back - n.width) (t - n.back)).filter fun p => decide (p.2 ≠ JM)).map Prod.snd := rfl
   generalize F3 s.ps (t - n.back - n.width) (t - n.back) = ps at *
   let gv : Pt → Option Int := fun p => if p.2 ≠ JM then some p.2 else none
   have hgv : ∀ l : List Pt, ((l.filter fun p => decide (p.2 ≠ JM)).map Prod.snd) = l.filterMap gv := fun l => by
     induction l with
     | nil => rfl
     | cons a l ih =>
       by_cases ha : a.2 ≠ JM
       · rw [List.filter_cons_of_pos (by simpa using ha), List.map_cons, ih, List.filterMap_cons_some (by show (if a.2 ≠ JM then some a.2 else none) = some a.2; rw [if_pos ha])]
       · rw [List.filter_cons_of_neg (by simpa using ha), ih, List.filterMap_cons_none (by show (if a.2 ≠ JM then some a.2 else none) = none; rw [if_neg ha])]
   rw [hgv] at hfv
   suffices H2 : ∀ g2 i2 : Nat, ∀ q2' LD n11 LF σ2, (0 < m2 → q2' = q2) → m2 - i2 = g2 → i2 ≤ m2 → AW 1 (PW .u64) σ' σ2 LD n11 LF ((ps.take i2).filterMap gv) → AQ.TP R (aD ab 0) n.kind n.op n.text p k c n.width n.back n.EO q m d n.bool n.parts 0 0 none 0 0 none 0 0 3 (Bg n.width) none 0 0 p8 n8 c8 p1 n1 c1 q1 m1 d1 LD n11 LF (aD b o) Pu qw Pu i q2' m2 d2 m2 i2 σ2 from H2 m2 0 q2 none 0 0 σ' (fun _ => rfl) rfl (Nat.zero_le _) (AW.nil (.refl _))
   intro g2
   induction g2 with
   | zero =>
     intro i2 q2' LD n11 LF σ2 hq gH hi2 Bb
     rw [List.take_of_length_le (by omega), ← hfv] at Bb
     have hlv : (fv s).length = n11 := Bb.1.1
     have V9 := ho.mono SL.mono Bb.up
     refine AQ.QE ⟨fun Au => by omega, fun _ => ⟨fun QT => UY (hg.mono (hx.trans Bb.up)) (hm.mono Nu.mono (hx.trans Bb.up)) (h1.mono CH.mono (hx.trans Bb.up)) hN.mv (fun x hx => by have := (hZ.2 x hx).2; omega) hN.mki fun σ3 D8 => ⟨_, rfl, fun htr => ?_, fun hfa => ?_⟩, fun QT => ?_⟩⟩
     · intro b77 AK0
       obtain ⟨hv1, hv2⟩ := ho.sep (Bb.mono (PW.mono _) D8)
       have FQ := V9.mono SL.mono D8
       have he : SL (σ3.del p8) [.slice p1 n1 c1, .slice LD n11 LF] ⟨s.ls, fv s⟩ := ⟨p1, n1, c1, LD, n11, LF, rfl, h1.mono CH.mono FQ.2, hv1, hv2⟩
       refine AW.JZ SL.mono FQ rfl (SL.one _ _ _ he) he (by omega) (fun p' c' σ4 NK _ => ⟨_, _, _, rfl, next _ _ _ _ ?_⟩) AK0
       have ef : f s = some ⟨s.ls, fv s⟩ := by
         show (bif !(fv s).isEmpty && JN n.mt s.ls then some _ else none) = _
         rw [htr]
         cases hfe : fv s with
         | nil => rw [hfe] at hlv; simp at hlv; omega
         | cons a l => rfl
       rw [ef]; exact NK
     · refine next _ _ _ _ ?_
       have ef : f s = none := by
         show (bif !(fv s).isEmpty && JN n.mt s.ls then some _ else none) = _
         rw [hfa, Bool.and_false]; rfl
       rw [ef]; simpa using V9.mono SL.mono D8
     · refine next _ _ _ _ ?_
       have ef : f s = none := by
         show (bif !(fv s).isEmpty && JN n.mt s.ls then some _ else none) = _
         rw [List.length_eq_zero_iff.1 (show (fv s).length = 0 by omega)]; rfl
       rw [ef]; simpa using V9
   | succ g2 ih2 =>
     intro i2 q2' LD n11 LF σ2 hq gH hi2 Bb
     have AFS : i2 < m2 := by omega
     obtain ⟨y, hy⟩ := HO.ex AFS
     obtain ⟨b2, o2, oO, ah⟩ := JO.at HO hy
     have q8 : n11 ≤ i2 := by
       have := Bb.1.1
       have h9 := List.length_filterMap_le gv (ps.take i2)
       rw [List.length_take] at h9
       omega
     rw [hq (by omega), oO]
     have nx : ∀ p9 n9 c9 σ3, AW 1 (PW .u64) σ' σ3 p9 n9 c9 ((ps.take i2).filterMap gv ++ (gv y).toList) → AQ.qR R (aD ab 0) n.kind n.op n.text p k c n.width n.back n.EO q m d n.bool n.parts 0 0 none 0 0 none 0 0 3 (Bg n.width) none 0 0 p8 n8 c8 p1 n1 c1 q1 m1 d1 p9 n9 c9 (aD b o) Pu qw Pu i (aD b2 o2) m2 d2 m2 i2 σ3 := fun p9 n9 c9 σ3 FQ =>
       AQ.qS ⟨AL AFS HO.big, ih2 (i2 + 1) _ _ _ _ _ (fun _ => oO.symm) (by omega) (by omega) (by rw [Gb hy]; exact FQ)⟩
     refine AQ.QE ⟨fun _ => ⟨b2, o2, rfl, by omega, y.1, y.2, by simpa using ah.mono Bb.up, fun _ => ⟨fun A4 => fun b58 AK2 => ?_, fun heq => nx _ _ _ _ ?_⟩⟩, fun hh => by omega⟩
     · refine AW.JZ (PW.mono _) Bb (vs := [.int .u64 y.2]) (x := y.2) rfl (fun u hu => by rw [List.mem_singleton] at hu; subst hu; rfl) rfl (by omega) (fun p' c' σ4 NK _ => ⟨_, _, _, rfl, nx _ _ _ _ ?_⟩) AK2
       rw [show gv y = some y.2 from if_pos A4]; exact NK
     · rw [show gv y = none from if_neg (by simpa using heq)]; simpa using Bb
end
end TwW
end
section
namespace TwW
open Go Tw Go.RowKit Go.Proofs.Tryz
def fnT : List (Nat × Nat) := [(226, 193), (226, 191), (226, 189), (224, 151), (224, 154), (224, 152), (224, 153), (224, 155), (224, 185), (224, 187)]
def Sd (σ : Hp) (fb : Nat) : Prop := ∀ i g f, fnT[i]? = some (g, f) → ∃ b T, σ.ld ⟨fb, i + 1, none⟩ = some (.func (.func g) #[] #[.pointer (aD b 0)]) ∧ σ b = some (.cells #[.func (.func f) #[] #[]] T (0, 0))
theorem Sd.mono {σ σ' : Hp} {fb : Nat} (h : Sd σ fb) (hx : Ext σ σ') : Sd σ' fb := fun i g f hi => let ⟨b, T, h1, h2⟩ := h i g f hi; ⟨b, T, hx.ld h1, hx _ _ h2⟩
section
variable {σ σ' σ0 : Hp} {R : Rr}
theorem Se (h : ∀ fb σ', Sd (σ.new σ') fb → Ext σ σ' → R (.returned (.slice (aD fb 0) 11 11)) σ') : Spec prog 147 #[] σ R := by
 refine Kf.start ?_
 refine CF.start fun b1 h1 => ⟨_, _, _, rfl, ?_⟩
 refine CF.start fun b2 h2 => ⟨_, _, _, rfl, ?_⟩
 refine CF.start fun b3 h3 => ⟨_, _, _, rfl, ?_⟩
 refine CF.start fun b4 h4 => ⟨_, _, _, rfl, ?_⟩
 refine CF.start fun b5 h5 => ⟨_, _, _, rfl, ?_⟩
 refine CF.start fun b6 h6 => ⟨_, _, _, rfl, ?_⟩
 refine CF.start fun b7 h7 => ⟨_, _, _, rfl, ?_⟩
 refine Mx.start fun b8 h8 => ⟨_, _, _, rfl, ?_⟩
 refine Mx.start fun b9 h9 => ⟨_, _, _, rfl, ?_⟩
 refine Mx.start fun Cd SH => ⟨_, _, _, rfl, ?_⟩
 intro fb hfb
 have x10 := Ext.set (o := .cells #[.nilFunc, .func (.func 226) #[] #[.pointer (aD Cd 0)], .func (.func 226) #[] #[.pointer (aD b9 0)], .func (.func 226) #[] #[.pointer (aD b8 0)], .func (.func 224) #[] #[.pointer (aD b1 0)], .func (.func 224) #[] #[.pointer (aD b2 0)], .func (.func 224) #[] #[.pointer (aD b3 0)], .func (.func 224) #[] #[.pointer (aD b4 0)], .func (.func 224) #[] #[.pointer (aD b5 0)], .func (.func 224) #[] #[.pointer (aD b6 0)], .func (.func 224) #[] #[.pointer (aD b7 0)]] 195 (0, 0)) hfb
 have TM := x10 _ _ (Hp.AB _ Cd _)
 have x9 := (Ext.set SH).trans x10
 have c9 := x9 _ _ (Hp.AB _ b9 _)
 have x8 := (Ext.set h9).trans x9
 have c8 := x8 _ _ (Hp.AB _ b8 _)
 have x7 := (Ext.set h8).trans x8
 have c7 := x7 _ _ (Hp.AB _ b7 _)
 have x6 := (Ext.set h7).trans x7
 have c6 := x6 _ _ (Hp.AB _ b6 _)
 have x5 := (Ext.set h6).trans x6
 have c5 := x5 _ _ (Hp.AB _ b5 _)
 have x4 := (Ext.set h5).trans x5
 have c4 := x4 _ _ (Hp.AB _ b4 _)
 have x3 := (Ext.set h4).trans x4
 have c3 := x3 _ _ (Hp.AB _ b3 _)
 have x2 := (Ext.set h3).trans x3
 have c2 := x2 _ _ (Hp.AB _ b2 _)
 have x1 := (Ext.set h2).trans x2
 have c1 := x1 _ _ (Hp.AB _ b1 _)
 have x0 := (Ext.set h1).trans x1
 have n1 : σ b1 = none := h1
 have z1 := Ext.set (o := .cells #[.func (.func 151) #[] #[]] 201 (0, 0)) h1
 have n2 : σ b2 = none := A5 z1 h2
 have z2 := z1.trans (Ext.set (o := .cells #[.func (.func 154) #[] #[]] 201 (0, 0)) h2)
 have n3 : σ b3 = none := A5 z2 h3
 have z3 := z2.trans (Ext.set (o := .cells #[.func (.func 152) #[] #[]] 201 (0, 0)) h3)
 have n4 : σ b4 = none := A5 z3 h4
 have z4 := z3.trans (Ext.set (o := .cells #[.func (.func 153) #[] #[]] 201 (0, 0)) h4)
 have n5 : σ b5 = none := A5 z4 h5
 have z5 := z4.trans (Ext.set (o := .cells #[.func (.func 155) #[] #[]] 201 (0, 0)) h5)
 have n6 : σ b6 = none := A5 z5 h6
 have z6 := z5.trans (Ext.set (o := .cells #[.func (.func 185) #[] #[]] 201 (0, 0)) h6)
 have n7 : σ b7 = none := A5 z6 h7
 have z7 := z6.trans (Ext.set (o := .cells #[.func (.func 187) #[] #[]] 201 (0, 0)) h7)
 have n8 : σ b8 = none := A5 z7 h8
 have z8 := z7.trans (Ext.set (o := .cells #[.func (.func 189) #[] #[]] 232 (0, 0)) h8)
 have n9 : σ b9 = none := A5 z8 h9
 have z9 := z8.trans (Ext.set (o := .cells #[.func (.func 191) #[] #[]] 232 (0, 0)) h9)
 have n10 : σ Cd = none := A5 z9 SH
 have z10 := z9.trans (Ext.set (o := .cells #[.func (.func 193) #[] #[]] 232 (0, 0)) SH)
 have nf : σ fb = none := A5 z10 hfb
 refine h fb _ (fun i g f hi => ?_) x0
 clear x0 x1 x2 x3 x4 x5 x6 x7 x8 x9 x10 z1 z2 z3 z4 z5 z6 z7 z8 z9 z10
 match i, hi with
 | 0, hi => cases hi; exact ⟨Cd, _, Ac (AX.2 ⟨nf, Hp.AB _ _ _⟩) rfl, AX.2 ⟨n10, TM⟩⟩
 | 1, hi => cases hi; exact ⟨b9, _, Ac (AX.2 ⟨nf, Hp.AB _ _ _⟩) rfl, AX.2 ⟨n9, c9⟩⟩
 | 2, hi => cases hi; exact ⟨b8, _, Ac (AX.2 ⟨nf, Hp.AB _ _ _⟩) rfl, AX.2 ⟨n8, c8⟩⟩
 | 3, hi => cases hi; exact ⟨b1, _, Ac (AX.2 ⟨nf, Hp.AB _ _ _⟩) rfl, AX.2 ⟨n1, c1⟩⟩
 | 4, hi => cases hi; exact ⟨b2, _, Ac (AX.2 ⟨nf, Hp.AB _ _ _⟩) rfl, AX.2 ⟨n2, c2⟩⟩
 | 5, hi => cases hi; exact ⟨b3, _, Ac (AX.2 ⟨nf, Hp.AB _ _ _⟩) rfl, AX.2 ⟨n3, c3⟩⟩
 | 6, hi => cases hi; exact ⟨b4, _, Ac (AX.2 ⟨nf, Hp.AB _ _ _⟩) rfl, AX.2 ⟨n4, c4⟩⟩
 | 7, hi => cases hi; exact ⟨b5, _, Ac (AX.2 ⟨nf, Hp.AB _ _ _⟩) rfl, AX.2 ⟨n5, c5⟩⟩
 | 8, hi => cases hi; exact ⟨b6, _, Ac (AX.2 ⟨nf, Hp.AB _ _ _⟩) rfl, AX.2 ⟨n6, c6⟩⟩
 | 9, hi => cases hi; exact ⟨b7, _, Ac (AX.2 ⟨nf, Hp.AB _ _ _⟩) rfl, AX.2 ⟨n7, c7⟩⟩
theorem mV {p : Option Addr} {m c : Nat} {vs : List Int} (hr : E7 .u64 σ p m vs) (h0 : 0 < m) (h : R (.returned (.int .u64 (YB (vs.getLast?.getD 0)))) σ) : Spec prog 185 #[.slice p m c] σ R := by
 have hl : vs.length = m := hr.1
 have MX := hr.big
 obtain ⟨z, hz⟩ := hr.ex (k := m - 1) (by omega)
 obtain ⟨b, o, rfl, ua⟩ := E7.at hr hz
 rw [List.getLast?_eq_getElem?, hl, hz] at h
 exact DL.start ⟨by unfold AN; omega, b, o, rfl, by omega, z, by rw [show Int.toNat ((m : Int) - 1) = m - 1 by omega]; exact ua, Fo ⟨_, rfl, h⟩⟩
theorem mW {p q : Option Addr} {m c j e : Nat} {vs : List Int} (hr : E7 .u64 σ p m vs) (h0 : 0 < m) (h : R (.returned (.int .u64 (PJ 2 (vs.getLast?.getD 0) (vs.head?.getD 0)))) σ) : Spec prog 189 #[.slice p m c, .slice q j e] σ R := by
 have hl : vs.length = m := hr.1
 have MX := hr.big
 obtain ⟨z, hz⟩ := hr.ex (k := m - 1) (by omega)
 obtain ⟨y, hy⟩ := hr.ex (k := 0) (by omega)
 obtain ⟨b, o, rfl, ua⟩ := E7.at hr hz
 obtain ⟨_, _, he, ah⟩ := E7.at hr hy
 cases he
 rw [List.getLast?_eq_getElem?, hl, hz, List.head?_eq_getElem?, hy] at h
 exact DM.start ⟨by unfold AN; omega, b, o, rfl, by omega, z, by rw [show Int.toNat ((m : Int) - 1) = m - 1 by omega]; exact ua, by omega, y, by simpa using ah, YE ⟨_, rfl, h⟩⟩
theorem gI {n : Nd} {p q r : Option Addr} {k c m d lb lo j e fb u v : Nat} {vs : List Int} {w : Int} (ho : 1 ≤ n.op ∧ n.op ≤ 10) (hF : Sd σ fb) (hr : E7 .u64 σ r u vs) (h0 : 0 < u) (hc : u ≤ v) (hj : 0 < j) (hw : σ.ld ⟨lb, lo + 1, none⟩ = some (.int .u64 w))
   (h : ∀ x ok σ', (Na n.op vs w = some x ∧ ok = true ∨ Na n.op vs w = none ∧ ok = false) → Ext σ σ' → R (.returned (.tuple #[.int .u64 x, .bool ok])) σ') :
   ∃ v58, Hp.ld σ ⟨fb, (0 + Int.toNat n.op * 1), none⟩ = some v58 ∧ ∃ (f63 : Nat) (Kc Kd : Array Value), v58 = .func (.func f63) Kc Kd ∧ Enters prog f63 ∧ Spec prog f63 (Kc ++ #[.slice r u v, Lh n p k c q m d, .slice (some ⟨lb, lo, none⟩) j e] ++ Kd) σ R := by
 have hl : vs.length = u := hr.1
 have always : ∀ (i f : Nat) (x : Int), n.op = i + 1 → fnT[i]? = some (224, f) → Na n.op vs w = some x → Enters prog f → (∀ R' : Rr, (∀ σ', Ext σ σ' → R' (.returned (.int .u64 x)) σ') → Spec prog f #[.slice r u v] σ R') →
     ∃ v58, Hp.ld σ ⟨fb, (0 + Int.toNat n.op * 1), none⟩ = some v58 ∧ ∃ (f63 : Nat) (Kc Kd : Array Value), v58 = .func (.func f63) Kc Kd ∧ Enters prog f63 ∧ Spec prog f63 (Kc ++ #[.slice r u v, Lh n p k c q m d, .slice (some ⟨lb, lo, none⟩) j e] ++ Kd) σ R := fun i f x hi hf hx N0 hs => by
   obtain ⟨b, T, h1, h2⟩ := hF i _ _ hf
   refine ⟨_, by rw [show 0 + Int.toNat n.op * 1 = i + 1 by omega]; exact h1, 224, #[], #[.pointer (aD b 0)], rfl, FU.en, FU.start fun _ => ⟨_, Ac h2 rfl, f, #[], #[], rfl, N0, hs _ fun σ' Xy => ⟨_, rfl, h x true σ' (.inl ⟨hx, rfl⟩) Xy⟩⟩⟩
 have two : ∀ (i f : Nat) (x : Int), n.op = i + 1 → fnT[i]? = some (226, f) → (Na n.op vs w = if vs.length < 2 then none else some x) → Enters prog f → (2 ≤ u → ∀ R' : Rr, R' (.returned (.int .u64 x)) σ → Spec prog f #[.slice r u v, .slice (some ⟨lb, lo, none⟩) j e] σ R') →
     ∃ v58, Hp.ld σ ⟨fb, (0 + Int.toNat n.op * 1), none⟩ = some v58 ∧ ∃ (f63 : Nat) (Kc Kd : Array Value), v58 = .func (.func f63) Kc Kd ∧ Enters prog f63 ∧ Spec prog f63 (Kc ++ #[.slice r u v, Lh n p k c q m d, .slice (some ⟨lb, lo, none⟩) j e] ++ Kd) σ R := fun i f x hi hf hx N0 hs => by
   obtain ⟨b, T, h1, h2⟩ := hF i _ _ hf
   refine ⟨_, by rw [show 0 + Int.toNat n.op * 1 = i + 1 by omega]; exact h1, 226, #[], #[.pointer (aD b 0)], rfl, Io.en, Io.start fun _ => ⟨fun Au => h 0 false σ (.inr ⟨by rw [hx, if_pos (by omega)], rfl⟩) (.refl _), fun fV => ⟨_, Ac h2 rfl, f, #[], #[], rfl, N0, hs (by omega) _ ⟨_, rfl, h x true σ (.inl ⟨by rw [hx, if_neg (by omega)], rfl⟩) (.refl _)⟩⟩⟩⟩
 have mR : n.op = 1 ∨ n.op = 2 ∨ n.op = 3 ∨ n.op = 4 ∨ n.op = 5 ∨ n.op = 6 ∨ n.op = 7 ∨ n.op = 8 ∨ n.op = 9 ∨ n.op = 10 := by omega
 rcases mR with e1 | e1 | e1 | e1 | e1 | e1 | e1 | e1 | e1 | e1
 · exact two 0 _ (PJ 4 (NW vs) w) e1 rfl (by rw [e1]; rfl) DT.en fun h2 R' LK => DT.start ⟨lb, lo, rfl, by omega, w, hw, SQ hr h0 ⟨_, rfl, Kp.HT (.refl _), YG ⟨_, rfl, LK⟩⟩⟩
 · exact two 1 _ (NW vs) e1 rfl (by rw [e1]; rfl) DP.en fun h2 R' LK => DP.start (SQ hr h0 ⟨_, rfl, LK⟩)
 · exact two 2 _ (PJ 2 (vs.getLast?.getD 0) (vs.head?.getD 0)) e1 rfl (by rw [e1]; rfl) DM.en fun h2 R' LK => mW hr h0 LK
 · exact always 3 _ (Vb vs) e1 rfl (by rw [e1]; rfl) Fj.en fun R' LK => SO hr h0 hc (LK σ (.refl _))
 · exact always 4 _ (PJ 4 (Vb vs) (Bg vs.length)) e1 rfl (by rw [e1]; rfl) Eh.en fun R' LK => NU hr h0 hc (by rw [← hl]; exact LK σ (.refl _))
 · exact always 5 _ (Lz 7 vs) e1 rfl (by rw [e1]; rfl) Gn.en fun R' LK => SP hr h0 hc (LK σ (.refl _))
 · exact always 6 _ (Lz 9 vs) e1 rfl (by rw [e1]; rfl) Dm.en fun R' LK => L9 hr h0 hc (LK σ (.refl _))
 · exact always 7 _ (Bg vs.length) e1 rfl (by rw [e1]; rfl) Gi.en fun R' LK => Mb (by rw [← hl]; exact LK σ (.refl _))
 · exact always 8 _ (YB (vs.getLast?.getD 0)) e1 rfl (by rw [e1]; rfl) DL.en fun R' LK => mV hr h0 (LK σ (.refl _))
 · exact always 9 _ (QJ vs) e1 rfl (by rw [e1]; rfl) BN.en fun R' LK => TV hr h0 hc LK
end
end TwW
end
section
namespace TwW
open Go Tw Go.RowKit Go.Proofs.Tryz
theorem Spec.mX {P : Program} {f : FuncId} {args : Array Value} {R : Ending → Prop} {σ0 : Hp} (h : @Spec ⟨True⟩ P f args σ0 (fun e σ' => R e ∧ Ext σ0 σ')) {w : World} (hs : Sat σ0 w) :
   Calls P f args w (fun e w' => R e ∧ ∃ q os, w' = { w with heap := w.heap ++ os, drawn := w.drawn + q }) := by
 refine (h w (fun b => b < w.heap.size ∧ σ0 b = none) hs (fun b hb => hb)).mono ?_
 rintro e w' ⟨σ, ⟨hr, hx⟩, hf⟩
 refine ⟨hr, ?_⟩
 obtain ⟨h1, h2, h30⟩ := @Fin.os ⟨True⟩ _ _ _ _ hf
 have hfp := @Fin.BX ⟨True⟩ _ _ _ _ hf
 have hfs := @Fin.sat ⟨True⟩ _ _ _ _ hf
 have hfg := @Fin.grow ⟨True⟩ _ _ _ _ hf
 have hfo := @Fin.out ⟨True⟩ _ _ _ _ hf
 obtain ⟨q, h3⟩ := h30 trivial
 refine ⟨q, w'.heap.extract w.heap.size w'.heap.size, ?_⟩
 have hh : w'.heap = w.heap ++ w'.heap.extract w.heap.size w'.heap.size := by
   apply Array.ext_getElem?
   intro i
   rw [Array.getElem?_append]
   split
   · rename_i hi
     cases hσ : σ0 i with
     | none => exact (hfp i ⟨hi, hσ⟩).2
     | some o => exact (hfs i o (hx i o hσ)).trans (hs i o hσ).symm
   · rename_i hi
     rw [Array.getElem?_extract]
     have := hfg
     split
     · congr 1; omega
     · rename_i h2
       exact Array.getElem?_eq_none (by omega)
 cases w with
 | mk heap tape drawn os output =>
   cases w' with
   | mk AOC AOD AK4 os' AHL =>
     have h4 := hfo
     simp only at h1 h2 h3 h4 hh ⊢
     subst h1 h2 h3 h4
     rw [← hh]
theorem Sf {α : Type} {enc : α → List Value} {k : Nat} (hk : ∀ x, (enc x).length = k) (h0 : 0 < k) : ∀ (xs : List α) (j : Nat), (xs.flatMap enc)[j]? = (xs[j / k]?).bind fun x => (enc x)[j % k]?
 | [], j => by simp
 | x :: xs, j => by
   rw [List.flatMap_cons, List.getElem?_append, hk]
   by_cases hj : j < k
   · rw [if_pos hj, Nat.div_eq_of_lt hj, Nat.mod_eq_of_lt hj]; simp
   · rw [if_neg hj, Sf hk h0 xs, show j / k = (j - k) / k + 1 by rw [← Nat.add_div_right _ h0]; congr 1; omega, show (j - k) % k = j % k by rw [Nat.mod_eq_sub_mod (by omega : j ≥ k)]]
     simp
theorem Ob {α : Type} {enc : α → List Value} {k : Nat} (hk : ∀ x, (enc x).length = k) : ∀ (xs : List α), (xs.flatMap enc).length = xs.length * k
 | [] => by simp
 | x :: xs => by rw [List.flatMap_cons, List.length_append, Ob hk xs, hk, List.length_cons, Nat.add_mul]; omega
theorem Ua {α : Type} [Inhabited α] {enc : α → List Value} (hk : ∀ x, (enc x).length = 2) (d : List α) (j : Nat) (hj : j < d.length * 2) : (d.flatMap enc)[j]? = some (Sort.flatK enc 2 d.toArray)[j]! := by
 rw [Sf (k := 2) hk (by decide), Sort.get_flatK _ _ _ _ (by simpa using hj)]
 have Au : j / 2 < d.length := by omega
 rw [List.getElem?_eq_getElem Au]
 have h2 : j % 2 < (enc d[j / 2]).length := by rw [hk]; exact Nat.mod_lt _ (by decide)
 simp only [Option.bind_some]
 rw [List.getElem?_eq_getElem h2]
 have e1 : d.toArray[j / 2]! = d[j / 2] := by simp [Au]
 rw [e1, getElem!_pos (enc d[j / 2]) (j % 2) h2]
theorem Vj (F arr : Array Value) (o j : Nat) : (Sort.putCells id o F arr)[j]? = if o ≤ j ∧ j < o + F.size then (arr[j]?).map fun _ => F[j - o]! else arr[j]? := by
 simp only [Sort.putCells, Array.getElem?_mapIdx, id]
 by_cases h : o ≤ j ∧ j < o + F.size
 · rw [if_pos h]; simp [h]
 · rw [if_neg h]
   cases arr[j]? with
   | none => rfl
   | some v => simp only [Option.map_some]; rw [if_neg h]
section
variable {σ : Hp} {R : Rr}
theorem di {ρ : Go.Shelf.Ren} (L : Go.Proofs.SlLaysF0.n6 prog ρ) (aE : ∀ w, (isAgg (ρ.t 24)).run prog w = .ok true w) (zE : ∀ w, (Go.sizeOf (ρ.t 24)).run prog w = .ok 2 w) {α : Type} [Inhabited α] {enc : α → List Value} (hk : ∀ x, (enc x).length = 2) (h1 : ∀ x, ∀ v ∈ enc x, v.oneCell' = true) {cf : α → α → Int} (hO : Sort.SWO (Proofs.ltOf cf)) {g : Nat}
   (eg : ∀ args w, (callFunc g args).run prog w = .ok (.enter g args) w) {b o m d : Nat} {ds : List α} (ho : A9 2 σ (some ⟨b, o, none⟩) m d (ds.flatMap enc)) (hm : ds.length = m) (hm0 : m ≠ 0) (Hf : m < 4611686018427387904)
   (qd : ∀ w, Sat (σ.del (some ⟨b, o, none⟩)) w → ∀ x y, Calls prog g #[.agg (enc x).toArray, .agg (enc y).toArray] w fun e w' => e = .returned (.int .i64 (cf x y)) ∧ ∃ n os, w' = Sort.grow (w.drewN n) os)
   (h : ∀ (σ' : Hp) (ds' : List α), ds'.Perm ds → ds'.Pairwise (fun x y => Proofs.ltOf cf y x = false) → A9 2 σ' (some ⟨b, o, none⟩) m d (ds'.flatMap enc) → Ext (σ.del (some ⟨b, o, none⟩)) (σ'.del (some ⟨b, o, none⟩)) → R (.returned (.tuple #[])) σ') :
   Spec prog (ρ.f 6) #[.slice (some ⟨b, o, none⟩) m d, .func (.func g) #[] #[]] σ R := by
 intro w F hs hF
 obtain ⟨arr, T, hb, hw, uo, oZ, Ml⟩ : ∃ arr T, σ b = some (.cells arr T (0, 0)) ∧ w.heap[b]? = some (.cells arr T (0, 0)) ∧ m ≤ d ∧ o + d * 2 ≤ arr.size ∧ (arr.toList.drop o).take (m * 2) = ds.flatMap enc := by
   rcases ho.2.2 with ⟨h1, h2, _⟩ | ⟨b', o', arr, T, hp, hb, uo, Hf, Ml⟩
   · exact absurd h2 hm0
   · cases hp
     exact ⟨arr, T, hb, hs _ _ hb, uo, Hf, Ml⟩
 have AFT : ∀ j, j < m * 2 → arr[o + j]? = some (Sort.flatK enc 2 ds.toArray)[j]! := fun j hj => by
   rw [← Ua hk ds j (by omega), ← Ml, List.getElem?_take, if_pos hj, List.getElem?_drop, Array.getElem?_toList]
 have hH : Sort.HoldsK enc 2 w b o ds.toArray := fun j hj => by
   have On : j < m * 2 := by simpa [hm] using hj
   refine ⟨?_, by simp [World.frozen?, hw]⟩
   simp only [World.cell?, hw, id]
   simpa using AFT j On
 have hblk : b < w.heap.size := (Array.getElem?_eq_some_iff.1 hw).1
 have Mn : ∀ (n : Nat) (dk : Array α) (os : Array Obj) k, (Proofs.sortWorldK enc 2 w b o n dk os).heap[k]? = if k < w.heap.size then (if b = k then (w.heap[k]?).map (Sort.onCells (Sort.putCells id o (Sort.flatK enc 2 dk))) else w.heap[k]?) else os[k - w.heap.size]? := fun n dk os k => by
   simp only [Proofs.sortWorldK, Sort.grow, Sort.putRowK, Sort.putRow, Sort.mapBlock, Sort.ahead, Array.getElem?_append, Array.size_modify, Array.getElem?_modify]
 have hcm : Proofs.CmpLays prog g #[] enc 2 cf b o ds.toArray.size w := fun n os dk _ x y => qd _ (fun k u hk => by
   obtain ⟨HC, hku⟩ := AR.1 hk
   have AK6 : b ≠ k := fun e => HC _ rfl e.symm
   have := hs k u hku
   rw [Mn, if_pos (Array.getElem?_eq_some_iff.1 this).1, if_neg AK6]; exact this) x y
 have AFU := Proofs.AnyQ.slices_SortFunc L 2 aE zE enc hk h1 cf hO g #[] b o d ds.toArray w eg hcm hH hblk (by simpa [hm] using Hf)
 rw [show ds.toArray.size = m by simpa using hm] at AFU
 refine AFU.mono ?_
 rintro e w' ⟨rfl, d', n, os, AFV, AFW, rfl⟩
 obtain ⟨hp1, _, hp3⟩ := AFV
 have hd' : d'.size = m := by rw [hp1]; simpa using hm
 have hP : d'.toList.Perm ds := by
   rw [show m = d'.size from hd'.symm] at hp3
   rw [Array.extract_size] at hp3
   rw [show d'.size = ds.toArray.size from hp1, Array.extract_size] at hp3
   exact hp3
 have cX : d'.toList.length = m := by simpa using hd'
 have hF2 : (Sort.flatK enc 2 d').size = m * 2 := by simp [hd']
 have oP : d'.toList.Pairwise (fun x y => Proofs.ltOf cf y x = false) := List.pairwise_iff_getElem.2 fun i j hi hj cA => by
   have On : j < d'.size := by simpa using hj
   have Be : i < d'.size := by simpa using hi
   have := AFW i j (Nat.zero_le _) cA (by omega)
   rw [getElem!_pos d' j On, getElem!_pos d' i Be] at this
   simpa using this
 have Zz : ((Sort.putCells id o (Sort.flatK enc 2 d') arr).toList.drop o).take (m * 2) = d'.toList.flatMap enc := by
   refine List.ext_getElem? fun j => ?_
   rw [List.getElem?_take]
   by_cases hj : j < m * 2
   · have := Ua hk d'.toList j (by omega)
     rw [if_pos hj, List.getElem?_drop, Array.getElem?_toList, Vj, if_pos (by omega), this, AFT j hj]
     simp
   · rw [if_neg hj, List.getElem?_eq_none (by rw [Ob (k := 2) hk, cX]; omega)]
 refine ⟨σ.set b (.cells (Sort.putCells id o (Sort.flatK enc 2 d') arr) T (0, 0)), h _ d'.toList hP oP ⟨by rw [Ob (k := 2) hk, cX], by have := ho.2.1; omega, .inr ⟨b, o, _, T, rfl, Hp.AB _ _ _, uo, by simpa [Sort.putCells] using oZ, Zz⟩⟩ (by rw [Hp.IT]; exact Ext.refl _), ?_⟩
 · refine ⟨fun k u hk => ?_, fun k hk => ?_, ⟨rfl, rfl, fun _ => ⟨n, rfl⟩⟩, rfl, by simp [Proofs.sortWorldK, Sort.grow, Sort.putRowK, Sort.putRow, Sort.mapBlock, Sort.ahead]⟩
   · rw [Mn]
     by_cases HC : k = b
     · subst HC
       rw [Hp.AB] at hk; cases hk
       rw [if_pos hblk, if_pos rfl, hw]; rfl
     · rw [Hp.AI HC] at hk
       have := hs k u hk
       rw [if_pos (Array.getElem?_eq_some_iff.1 this).1, if_neg (Ne.symm HC)]; exact this
   · have HC : k ≠ b := fun e => by have := (hF k hk).2; rw [e, hb] at this; cases this
     refine ⟨by rw [Hp.AI HC]; exact (hF k hk).2, ?_⟩
     rw [Mn, if_pos (hF k hk).1, if_neg (Ne.symm HC)]
end
end TwW
end
section
namespace Go.Proofs
open Go.Shelf
def Tryz.Sg : Go.Shelf.Ren := ⟨fun | 6 => 195 | 15 => 74 | 14 => 227 | 28 => 117 | 29 => 118 | 20 => 242 | 21 => 243 | 22 => 244 | 23 => 245 | 24 => 246 | 25 => 247 | 26 => 248 | 27 => 249 | 46 => 264 | 47 => 164 | 48 => 165 | 49 => 265 | 50 => 266 | 57 => 293 | n => n, fun | 22 => 67 | 24 => 71 | 25 => 234 | 3 => 3 | 39 => 141 | 0 => 0 | 53 => 168 | 55 => 48 | 4 => 4 | 46 => 162 | 45 => 161 | 50 => 102 | 5 => 5 | 9 => 9 | 66 => 207 | 70 => 211 | 76 => 248 | 77 => 249 | n => n, fun | n => n⟩
theorem Tryz.mY : Go.Proofs.SlLaysF0.n6 Tryz.prog Tryz.Sg := {
 mixed := by kernel_rfl
 f6 := ⟨Tryz.f195.name, by decide, Tryz.func195.trans (congrArg some (by kernel_rfl))⟩
 f14 := ⟨Tryz.f227.name, by decide, Tryz.func227.trans (congrArg some (by kernel_rfl))⟩
 f15 := Tryz.func74.trans (congrArg some (by kernel_rfl))
 f20 := ⟨Tryz.f242.name, by decide, Tryz.func242.trans (congrArg some (by kernel_rfl))⟩
 f21 := ⟨Tryz.f243.name, by decide, Tryz.func243.trans (congrArg some (by kernel_rfl))⟩
 f22 := ⟨Tryz.f244.name, by decide, Tryz.func244.trans (congrArg some (by kernel_rfl))⟩
 f23 := ⟨Tryz.f245.name, by decide, Tryz.func245.trans (congrArg some (by kernel_rfl))⟩
 f24 := ⟨Tryz.f246.name, by decide, Tryz.func246.trans (congrArg some (by kernel_rfl))⟩
 f25 := ⟨Tryz.f247.name, by decide, Tryz.func247.trans (congrArg some (by kernel_rfl))⟩
 f26 := ⟨Tryz.f248.name, by decide, Tryz.func248.trans (congrArg some (by kernel_rfl))⟩
 f27 := ⟨Tryz.f249.name, by decide, Tryz.func249.trans (congrArg some (by kernel_rfl))⟩
 f28 := Tryz.func117.trans (congrArg some (by kernel_rfl))
 f29 := Tryz.func118.trans (congrArg some (by kernel_rfl))
 f46 := ⟨Tryz.f264.name, by decide, Tryz.func264.trans (congrArg some (by kernel_rfl))⟩
 f47 := Tryz.func164.trans (congrArg some (by kernel_rfl))
 f48 := Tryz.func165.trans (congrArg some (by kernel_rfl))
 f49 := ⟨Tryz.f265.name, by decide, Tryz.func265.trans (congrArg some (by kernel_rfl))⟩
 f50 := ⟨Tryz.f266.name, by decide, Tryz.func266.trans (congrArg some (by kernel_rfl))⟩
 f57 := ⟨Tryz.f293.name, by decide, Tryz.func293.trans (congrArg some (by kernel_rfl))⟩
 t0 := Tryz.underlying0
 a0 := Tryz.isAgg0
 z0 := Tryz.sizeOf0
 v0 := Tryz.zeroValue0
 t3 := Tryz.underlying3
 a3 := Tryz.isAgg3
 z3 := Tryz.sizeOf3
 v3 := Tryz.zeroValue3
 t4 := Tryz.underlying4
 a4 := Tryz.isAgg4
 z4 := Tryz.sizeOf4
 v4 := Tryz.zeroValue4
 t5 := Tryz.underlying5
 a5 := Tryz.isAgg5
 z5 := Tryz.sizeOf5
 v5 := Tryz.zeroValue5
 t9 := Tryz.underlying9
 a9 := Tryz.isAgg9
 z9 := Tryz.sizeOf9
 v9 := Tryz.zeroValue9
 t22 := Tryz.underlying67
 a22 := Tryz.isAgg67
 z22 := Tryz.sizeOf67
 v22 := Tryz.zeroValue67
 t25 := Tryz.underlying234
 a25 := Tryz.isAgg234
 z25 := Tryz.sizeOf234
 v25 := Tryz.zeroValue234
 t39 := Tryz.underlying141
 a39 := Tryz.isAgg141
 z39 := Tryz.sizeOf141
 v39 := Tryz.zeroValue141
 t45 := Tryz.underlying161
 a45 := Tryz.isAgg161
 z45 := Tryz.sizeOf161
 v45 := Tryz.zeroValue161
 t46 := Tryz.underlying162
 a46 := Tryz.isAgg162
 z46 := Tryz.sizeOf162
 v46 := Tryz.zeroValue162
 t50 := Tryz.underlying102
 a50 := Tryz.isAgg102
 z50 := Tryz.sizeOf102
 v50 := Tryz.zeroValue102
 t53 := Tryz.underlying168
 a53 := Tryz.isAgg168
 z53 := Tryz.sizeOf168
 v53 := Tryz.zeroValue168
 t55 := Tryz.underlying48
 a55 := Tryz.isAgg48
 z55 := Tryz.sizeOf48
 v55 := Tryz.zeroValue48
 t66 := Tryz.underlying207
 a66 := Tryz.isAgg207
 z66 := Tryz.sizeOf207
 v66 := Tryz.zeroValue207
 t70 := Tryz.underlying211
 a70 := Tryz.isAgg211
 z70 := Tryz.sizeOf211
 v70 := Tryz.zeroValue211
 t76 := Tryz.underlying248
 a76 := Tryz.isAgg248
 z76 := Tryz.sizeOf248
 v76 := Tryz.zeroValue248
 t77 := Tryz.underlying249
 a77 := Tryz.isAgg249
 z77 := Tryz.sizeOf249
 v77 := Tryz.zeroValue249 }
def Tryz.Si : Go.Shelf.Ren := ⟨fun | 6 => 50 | 15 => 74 | 14 => 73 | 28 => 117 | 29 => 118 | 20 => 109 | 21 => 110 | 22 => 111 | 23 => 112 | 24 => 113 | 25 => 114 | 26 => 115 | 27 => 116 | 46 => 163 | 47 => 164 | 48 => 165 | 49 => 166 | 50 => 167 | 57 => 208 | n => n, fun | 22 => 23 | 24 => 40 | 25 => 106 | 3 => 3 | 39 => 141 | 0 => 0 | 53 => 168 | 55 => 48 | 4 => 4 | 46 => 162 | 45 => 161 | 50 => 102 | 5 => 5 | 9 => 9 | 66 => 207 | 70 => 211 | 76 => 248 | 77 => 249 | n => n, fun | n => n⟩
theorem Tryz.yt : Go.Proofs.SlLaysF0.n6 Tryz.prog Tryz.Si := {
 mixed := by kernel_rfl
 f6 := ⟨Tryz.f50.name, by decide, Tryz.func50.trans (congrArg some (by kernel_rfl))⟩
 f14 := ⟨Tryz.f73.name, by decide, Tryz.func73.trans (congrArg some (by kernel_rfl))⟩
 f15 := Tryz.func74.trans (congrArg some (by kernel_rfl))
 f20 := ⟨Tryz.f109.name, by decide, Tryz.func109.trans (congrArg some (by kernel_rfl))⟩
 f21 := ⟨Tryz.f110.name, by decide, Tryz.func110.trans (congrArg some (by kernel_rfl))⟩
 f22 := ⟨Tryz.f111.name, by decide, Tryz.func111.trans (congrArg some (by kernel_rfl))⟩
 f23 := ⟨Tryz.f112.name, by decide, Tryz.func112.trans (congrArg some (by kernel_rfl))⟩
 f24 := ⟨Tryz.f113.name, by decide, Tryz.func113.trans (congrArg some (by kernel_rfl))⟩
 f25 := ⟨Tryz.f114.name, by decide, Tryz.func114.trans (congrArg some (by kernel_rfl))⟩
 f26 := ⟨Tryz.f115.name, by decide, Tryz.func115.trans (congrArg some (by kernel_rfl))⟩
 f27 := ⟨Tryz.f116.name, by decide, Tryz.func116.trans (congrArg some (by kernel_rfl))⟩
 f28 := Tryz.func117.trans (congrArg some (by kernel_rfl))
 f29 := Tryz.func118.trans (congrArg some (by kernel_rfl))
 f46 := ⟨Tryz.f163.name, by decide, Tryz.func163.trans (congrArg some (by kernel_rfl))⟩
 f47 := Tryz.func164.trans (congrArg some (by kernel_rfl))
 f48 := Tryz.func165.trans (congrArg some (by kernel_rfl))
 f49 := ⟨Tryz.f166.name, by decide, Tryz.func166.trans (congrArg some (by kernel_rfl))⟩
 f50 := ⟨Tryz.f167.name, by decide, Tryz.func167.trans (congrArg some (by kernel_rfl))⟩
 f57 := ⟨Tryz.f208.name, by decide, Tryz.func208.trans (congrArg some (by kernel_rfl))⟩
 t0 := Tryz.underlying0
 a0 := Tryz.isAgg0
 z0 := Tryz.sizeOf0
 v0 := Tryz.zeroValue0
 t3 := Tryz.underlying3
 a3 := Tryz.isAgg3
 z3 := Tryz.sizeOf3
 v3 := Tryz.zeroValue3
 t4 := Tryz.underlying4
 a4 := Tryz.isAgg4
 z4 := Tryz.sizeOf4
 v4 := Tryz.zeroValue4
 t5 := Tryz.underlying5
 a5 := Tryz.isAgg5
 z5 := Tryz.sizeOf5
 v5 := Tryz.zeroValue5
 t9 := Tryz.underlying9
 a9 := Tryz.isAgg9
 z9 := Tryz.sizeOf9
 v9 := Tryz.zeroValue9
 t22 := Tryz.underlying23
 a22 := Tryz.isAgg23
 z22 := Tryz.sizeOf23
 v22 := Tryz.zeroValue23
 t25 := Tryz.underlying106
 a25 := Tryz.isAgg106
 z25 := Tryz.sizeOf106
 v25 := Tryz.zeroValue106
 t39 := Tryz.underlying141
 a39 := Tryz.isAgg141
 z39 := Tryz.sizeOf141
 v39 := Tryz.zeroValue141
 t45 := Tryz.underlying161
 a45 := Tryz.isAgg161
 z45 := Tryz.sizeOf161
 v45 := Tryz.zeroValue161
 t46 := Tryz.underlying162
 a46 := Tryz.isAgg162
 z46 := Tryz.sizeOf162
 v46 := Tryz.zeroValue162
 t50 := Tryz.underlying102
 a50 := Tryz.isAgg102
 z50 := Tryz.sizeOf102
 v50 := Tryz.zeroValue102
 t53 := Tryz.underlying168
 a53 := Tryz.isAgg168
 z53 := Tryz.sizeOf168
 v53 := Tryz.zeroValue168
 t55 := Tryz.underlying48
 a55 := Tryz.isAgg48
 z55 := Tryz.sizeOf48
 v55 := Tryz.zeroValue48
 t66 := Tryz.underlying207
 a66 := Tryz.isAgg207
 z66 := Tryz.sizeOf207
 v66 := Tryz.zeroValue207
 t70 := Tryz.underlying211
 a70 := Tryz.isAgg211
 z70 := Tryz.sizeOf211
 v70 := Tryz.zeroValue211
 t76 := Tryz.underlying248
 a76 := Tryz.isAgg248
 z76 := Tryz.sizeOf248
 v76 := Tryz.zeroValue248
 t77 := Tryz.underlying249
 a77 := Tryz.isAgg249
 z77 := Tryz.sizeOf249
 v77 := Tryz.zeroValue249 }
end Go.Proofs
end
section
namespace TwW
open Go Tw Go.RowKit Go.Proofs.Tryz
section
variable {σ σ' σ0 : Hp} {R : Rr}
theorem AK7 {α : Type} {f : α → List Lb} : Sort.SWO (Proofs.ltOf fun x y => Ca (f x) (f y)) where
 irrefl x := by
   have h1 : Ca (f x) (f x) = 0 := (Ax.eq _ _).2 rfl
   exact decide_eq_false (by show ¬ Ca (f x) (f x) < 0; omega)
 trans x y z h1 h2 := by
   unfold Proofs.ltOf at *
   exact decide_eq_true (Ax.trans _ _ _ (of_decide_eq_true h1) (of_decide_eq_true h2))
 ntrans x y z h1 h2 := by
   unfold Proofs.ltOf at *
   have h1 := of_decide_eq_false h1
   have h2 := of_decide_eq_false h2
   dsimp only at h1 h2
   refine decide_eq_false fun h3 => ?_
   dsimp only at h3
   rcases Int.lt_trichotomy (Ca (f x) (f y)) 0 with h | h | h
   · exact h1 h
   · rw [(Ax.eq _ _).1 h] at h3; exact h2 h3
   · have h4 := (Ax.VY _ _).2 h
     exact h2 (Ax.trans _ _ _ h4 h3)
theorem mZ {cs : List Value} {m : Nat} (h : cs.length = m * 2) : (List.finRange m).flatMap (fun i => (cs.drop (i.1 * 2)).take 2) = cs := by
 have hk : ∀ i : Fin m, ((cs.drop (i.1 * 2)).take 2).length = 2 := fun i => by
   have := i.2
   rw [List.length_take, List.length_drop]; omega
 refine List.ext_getElem? fun j => ?_
 rw [Sf hk (by decide)]
 by_cases hj : j < m * 2
 · have Au : j / 2 < m := by omega
   rw [List.getElem?_eq_getElem (by rw [List.length_finRange]; exact Au)]
   simp only [List.getElem_finRange, Option.bind_some, Fin.val_cast]
   rw [List.getElem?_take, if_pos (Nat.mod_lt _ (by decide)), List.getElem?_drop]
   congr 1
   omega
 · rw [List.getElem?_eq_none (by rw [List.length_finRange]; omega), List.getElem?_eq_none (by omega)]; rfl
theorem dj {α : Type} {enc : α → List Value} (hk : ∀ x, (enc x).length = 2) : ∀ (xs : List α) (i : Nat) (x : α), xs[i]? = some x → ((xs.flatMap enc).drop (i * 2)).take 2 = enc x
 | [], i, x, h => by simp at h
 | a :: xs, 0, x, h => by
   simp only [List.getElem?_cons_zero, Option.some.injEq] at h
   subst h
   rw [List.flatMap_cons, Nat.zero_mul, List.drop_zero, ← hk a, List.take_left]
 | a :: xs, i + 1, x, h => by
   rw [List.flatMap_cons, show (i + 1) * 2 = (enc a).length + i * 2 by rw [hk]; omega, List.drop_append]
   simp only [Nat.add_sub_cancel_left, List.drop_eq_nil_of_le (Nat.le_add_right _ _), List.nil_append]
   exact dj hk xs i x (by simpa using h)
theorem q9 {α : Type} (l : List α) {n : Nat} (hn : l.length = n) : (List.finRange n).map (fun i => l[i.1]'(by rw [hn]; exact i.2)) = l := by
 subst hn
 refine List.ext_getElem (by simp) fun i h1 h2 => ?_
 simp
theorem gJ {l : List El} (h : ∀ i a b, l[i]? = some a → l[i + 1]? = some b → Ca a.ls b.ls < 0) : l.Pairwise fun a b => Ca a.ls b.ls < 0 := by
 rw [List.pairwise_iff_getElem]
 intro i j hi hj cA
 induction j with
 | zero => omega
 | succ j ih =>
   have hs := h j l[j] l[j + 1] (List.getElem?_eq_getElem _) (List.getElem?_eq_getElem _)
   by_cases he : i = j
   · subst he; exact hs
   · exact Ax.trans _ _ _ (ih (by omega) (by omega)) hs
theorem ma : Cp FF [] = some [] := by unfold Cp; rw [if_pos List.Pairwise.nil]; rfl
theorem EI {p : Option Addr} {n c : Nat} {l : List El} (ho : AW 2 Bq σ0 σ p n c l) (hn : n ≤ 1000000000000) (h : IG R σ0 ((Cp FF l).map fun l => ⟨2, 0, l, []⟩)) : Spec prog 148 #[.slice p n c] σ R := by
 have hx0 := ho.up
 obtain ⟨⟨hl, cs, V9, hc⟩, hx⟩ := ho
 refine EF.start fun _ => ?_
 by_cases h0 : n = 0
 · subst h0
   have qZ : l = [] := List.length_eq_zero_iff.1 hl
   subst qZ
   rw [ma] at h
   refine Spec.same (v := .tuple #[]) (fun w _ => Go.Proofs.AnyF.slices_SortFunc_none Go.Proofs.Tryz.mY p c _ w) ⟨rfl, EF.BF ⟨fun Au => by omega, fun _ => ?_⟩⟩
   exact h.ok _ σ p 0 c none 0 0 rfl hx0 Af.nil Af.nil (Nat.zero_le _) (Nat.le_refl _)
 obtain ⟨b, o, rfl⟩ : ∃ b o, p = some ⟨b, o, none⟩ := by
   rcases V9.2.2 with ⟨_, h2, _⟩ | ⟨b, o, _, _, hp, _⟩
   · exact absurd h2 h0
   · exact ⟨b, o, hp⟩
 have Zz : cs.length = n * 2 := V9.1
 let enc : Fin n → List Value := fun i => (cs.drop (i.1 * 2)).take 2
 let at_ : Fin n → El := fun i => l[i.1]'(by rw [hl]; exact i.2)
 have hE : ∀ i : Fin n, Bq (σ.del (some ⟨b, o, none⟩)) (enc i) (at_ i) := fun i => hc.2 i.1 (at_ i) (List.getElem?_eq_getElem _)
 have hk : ∀ i, (enc i).length = 2 := fun i => by
   have := i.2
   show ((cs.drop (i.1 * 2)).take 2).length = 2
   rw [List.length_take, List.length_drop]; omega
 have uq : (List.finRange n).flatMap enc = cs := mZ Zz
 haveI : Inhabited (Fin n) := ⟨⟨0, by omega⟩⟩
 refine di (ρ := Go.Proofs.Tryz.Sg) Go.Proofs.Tryz.mY (fun w => by kernel_rfl) (fun w => by kernel_rfl) (α := Fin n) (enc := enc) hk (fun i => Bq.one _ _ _ (hE i)) (cf := fun i j => Ca (at_ i).ls (at_ j).ls) AK7 (g := 196) (fun args w => call196 args w) (b := b) (o := o) (ds := List.finRange n) (by rw [uq]; exact V9) List.length_finRange h0 (by omega) (fun w hw i j => ?_) fun σ1 ds hp oP BY Iu => ⟨rfl, ?_⟩
 · obtain ⟨q1, m1, d1, hv1, F6⟩ := hE i
   obtain ⟨q2, m2, d2, hv2, HO⟩ := hE j
   rw [hv1, hv2]
   exact Spec.mX (R := fun e => e = .returned (.int .i64 (Ca (at_ i).ls (at_ j).ls))) (@gF _ _ ⟨True⟩ _ _ _ _ _ _ _ _ _ _ F6 HO fun σ' Xy => ⟨rfl, Xy⟩) hw
 let l2 : List El := ds.map at_
 have hp2 : l2.Perm l := by
   have := hp.map at_
   rwa [q9 l hl] at this
 have gG : l2.length = n := hp2.length_eq.trans hl
 have hdl : ds.length = n := by have h9 : (ds.map at_).length = n := gG; rwa [List.length_map] at h9
 have hO : AW 2 Bq σ0 σ1 (some ⟨b, o, none⟩) n c l2 := by
   refine ⟨⟨gG, _, BY, ?_, fun i x hi => ?_⟩, hx.trans Iu⟩
   · rw [BY.1, gG]
   · have Be : (ds.map at_)[i]? = some x := hi
     rw [List.getElem?_map] at Be
     cases hd : ds[i]? with
     | none => rw [hd] at Be; cases Be
     | some k =>
       rw [hd] at Be
       simp only [Option.map_some, Option.some.injEq] at Be
       rw [dj hk ds i k hd, ← Be]
       exact Bq.mono _ _ _ _ Iu (hE k)
 have hle : ∀ i a b', l2[i]? = some a → l2[i + 1]? = some b' → ¬ Ca b'.ls a.ls < 0 := fun i a b' ha hb => by
   have hq : l2.Pairwise (fun a b' => ¬ Ca b'.ls a.ls < 0) := by
     refine List.pairwise_map.2 (oP.imp fun {x y} Xz => ?_)
     exact of_decide_eq_false Xz
   obtain ⟨h1, rfl⟩ := List.getElem?_eq_some_iff.1 ha
   obtain ⟨h2, rfl⟩ := List.getElem?_eq_some_iff.1 hb
   exact List.pairwise_iff_getElem.1 hq i (i + 1) h1 h2 (by omega)
 clear_value l2
 clear BY oP hp uq hE hk hdl
 suffices H : ∀ g k : Nat, ∀ σ', n - k = g → 1 ≤ k → k ≤ n → AW 2 Bq σ0 σ' (some ⟨b, o, none⟩) n c l2 → (∀ i a b', i + 1 < k → l2[i]? = some a → l2[i + 1]? = some b' → Ca a.ls b'.ls < 0) → EF.CL R (some ⟨b, o, none⟩) n c 0 0 none 0 0 none 0 0 k σ' from H (n - 1) 1 σ1 rfl (Nat.le_refl _) (by omega) hO (fun i a b' hi => by omega)
 intro g
 induction g with
 | zero =>
   intro k σ' hg h1 bz yu Au
   have hr : Cp FF l = some l2 := fe rfl hp2 (gJ fun i a b' ha hb => Au i a b' (by have := (List.getElem?_eq_some_iff.1 hb).1; omega) ha hb)
   rw [hr] at h
   exact EF.BF ⟨fun Au => by omega, fun _ => h.ok _ σ' _ n c none 0 0 rfl yu.up (yu.rd Bq.mono) Af.nil (by obtain ⟨cs', AK8, _⟩ := yu.1.2; exact A9.cap AK8) (Nat.le_refl _)⟩
 | succ g ih =>
   intro k σ' hg h1 bz yu Au
   have hr := yu.rd Bq.mono
   obtain ⟨y, hy⟩ := hr.ex (k := k) (by omega)
   obtain ⟨x, Xy⟩ := hr.ex (k := k - 1) (by omega)
   obtain ⟨_, _, q1, m1, d1, WA, PU, F6⟩ := Bq.at hr Xy
   cases WA
   obtain ⟨_, _, q2, m2, d2, oO, AK9, HO⟩ := Bq.at hr hy
   cases oO
   have e1 : Int.toNat ((k : Int) - 1) = k - 1 := by omega
   refine EF.BF ⟨fun _ => ⟨by unfold AN; omega, b, o, rfl, by omega, q1, m1, d1, by rw [e1]; exact PU.1, by omega, q2, m2, d2, by simpa using AK9.1, LL F6 HO fun σ2 A6 => ⟨_, rfl, fun hz => ?_, fun hnz => ⟨by unfold AN; omega, ?_⟩⟩⟩, fun hh => by omega⟩
   · refine h.no ?_ σ2 (yu.up.trans A6)
     have : Cp FF l = none := fg rfl hp2 fun oP => by
       obtain ⟨h3, rfl⟩ := List.getElem?_eq_some_iff.1 Xy
       obtain ⟨h4, rfl⟩ := List.getElem?_eq_some_iff.1 hy
       exact List.pairwise_iff_getElem.1 oP (k - 1) k h3 h4 (by omega) hz
     rw [this]; rfl
   · have := ih (k + 1) σ2 (by omega) (by omega) (by omega) (yu.mono Bq.mono A6) fun i a b' hi ha hb => by
       by_cases hik : i + 1 = k
       · rw [hik, hy] at hb; cases hb
         rw [show i = k - 1 by omega, Xy] at ha; cases ha
         have h5 := hle (k - 1) _ _ Xy (by rw [show k - 1 + 1 = k by omega]; exact hy)
         have h6 := (Ax.VY x.ls y.ls)
         have h7 := (Ax.VY y.ls x.ls)
         omega
       · exact Au i a b' (by omega) ha hb
     exact_mod_cast this
end
end TwW
end
section
namespace TwW
open Go Tw Go.RowKit Go.Proofs.Tryz
structure gK (x : Vv) : Prop where
 el : ∀ e ∈ x.vec, Ao e.ls ∧ 0 ≤ e.v
 rg : ∀ r ∈ x.N9, Ao r.ls ∧ 0 < r.vs.length
 len : x.vec.length + x.N9.length ≤ 100000000000
theorem Ao.rd {σ : Hp} {p : Option Addr} {n : Nat} {ls : List Lb} (h : Ao ls) (hr : FV σ p n ls) : n ≤ 1000000 := by
 have h1 := h.1
 have h2 : ls.length = n := hr.1
 omega
theorem rC : ∀ w, (zeroValue 190).run prog w = .ok .nilFunc w := fun w => by
 have h : prog.info? 190 = some t190 := by kernel_rfl
 simp [zeroValue, typeInfo, h]
 rfl
section
variable {σ σ' σ0 : Hp} {R : Rr}
theorem MZ.at {p2 : Option Addr} {n2 i : Nat} {l : List Vv} {x : Vv} (hr : Af 4 MZ σ p2 n2 l) (hx : l[i]? = some x) : ∃ b o p n c q m d, p2 = some ⟨b, o, none⟩ ∧ σ.ld ⟨b, o + i * 4, none⟩ = some (.int .i64 x.kind) ∧ σ.ld ⟨b, o + i * 4 + 1, none⟩ = some (.int .u64 x.v) ∧ σ.ld ⟨b, o + i * 4 + 2, none⟩ = some (.slice p n c) ∧ σ.ld ⟨b, o + i * 4 + 3, none⟩ = some (.slice q m d) ∧ Af 2 Bq σ p n x.vec ∧ Af 2 SL σ q m x.N9 := by
 obtain ⟨b, o, vs, hp, ⟨p, n, c, q, m, d, rfl, h1, h2⟩, hl⟩ := Af.idx hr hx
 exact ⟨b, o, p, n, c, q, m, d, hp, hl.1, hl.2.1, hl.2.2.1, hl.2.2.2.1, h1, h2⟩
theorem SL.at {p : Option Addr} {n i : Nat} {l : List Rg} {x : Rg} (hr : Af 2 SL σ p n l) (hx : l[i]? = some x) : ∃ b o q m d q2 m2 d2, p = some ⟨b, o, none⟩ ∧ Aq σ b (o + i * 2) [.slice q m d, .slice q2 m2 d2] ∧ FV σ q m x.ls ∧ E7 .u64 σ q2 m2 x.vs ∧ m2 ≤ d2 := by
 obtain ⟨b, o, vs, hp, ⟨q, m, d, q2, m2, d2, rfl, h1, h2, h3⟩, hl⟩ := Af.idx hr hx
 exact ⟨b, o, q, m, d, q2, m2, d2, hp, hl, h1, h2, h3⟩
theorem AW.el {p : Option Addr} {n c : Nat} {xs : List El} {q : Option Addr} {m d : Nat} {ls : List Lb} {v : Int} {ty : TypeId} {Φ : Value → Hp → Prop} (ho : AW 2 Bq σ0 σ p n c xs) (hr : FV (σ.del p) q m ls) (hn : n ≤ 1000000000000)
   (hΦ : ∀ p' c' σ', AW 2 Bq σ0 σ' p' (n + 1) c' (xs ++ [⟨ls, v⟩]) → Ext (σ.del p) (σ'.del p') → Φ (.slice p' (n + 1) c') σ') {b : Nat} (hb : σ b = none) :
   AJ prog (Builtin.append_ #[67, 67] ty #[.slice p n c, .slice (some ⟨b, 0, none⟩) 1 1]) (σ.set b (.cells #[.slice q m d, .int .u64 v] 71 (0, 0))) Φ := by
 have he : Bq (σ.del p) [.slice q m d, .int .u64 v] ⟨ls, v⟩ := ⟨q, m, d, rfl, hr⟩
 exact AW.JZ Bq.mono ho rfl (Bq.one _ _ _ he) he (by omega) hΦ hb
theorem mc {n : Nd} {p q a l : Option Addr} {k c m d j e : Nat} {L : List Vv} {x : Vv} (hr : Af 4 MZ σ l j L) (hx : L[0]? = some x) (hV : gK x) (h : IG R σ (l6 FF x)) : Spec prog 106 #[.pointer a, Lh n p k c q m d, .slice l j e] σ R := by
 have hj : 0 < j := by have h1 : L.length = j := hr.1; have := (List.getElem?_eq_some_iff.1 hx).1; omega
 obtain ⟨b, o, pv, nv, cv, qv, mv, dv, rfl, h1, h2, h3, h4, h5, h6⟩ := MZ.at hr hx
 simp only [Nat.zero_mul, Nat.add_zero] at h1 h2 h3 h4
 refine BE.start fun _ _ => ⟨b, o, rfl, by omega, x.kind, h1, fun hk => ⟨by omega, x.v, h2, PK ⟨_, rfl, ?_⟩⟩, fun hk => ⟨by omega, pv, nv, cv, h3, ?_⟩⟩
 · unfold l6 at h; rw [if_pos hk] at h
   exact h.ok _ σ none 0 0 none 0 0 rfl (.refl _) Af.nil Af.nil (Nat.le_refl _) (Nat.le_refl _)
 unfold l6 at h
 rw [if_neg hk] at h
 have hl : x.vec.length = nv := h5.1
 have hlen := hV.len
 suffices H : ∀ g i : Nat, ∀ p8 n8 c8 σ', nv - i = g → i ≤ nv → AW 2 Bq σ σ' p8 n8 c8 ((x.vec.take i).map fun x => ⟨BJ x.ls, FF.l4 x.v⟩) → BE.qH R 0 0 none 0 0 none 0 0 p8 n8 c8 pv nv cv nv i σ' from H nv 0 none 0 0 σ rfl (Nat.zero_le _) (AW.nil (.refl _))
 intro g
 induction g with
 | zero =>
   intro i p8 n8 c8 σ' hg hi ho
   rw [List.take_of_length_le (by omega)] at ho
   have PR := ho.1.1
   rw [List.length_map] at PR
   exact BE.dG ⟨fun Au => by omega, fun _ => EI ho (by omega) h.TW⟩
 | succ g ih =>
   intro i p8 n8 c8 σ' hg hi ho
   have Be : i < nv := by omega
   obtain ⟨y, hy⟩ := h5.ex Be
   obtain ⟨b1, o1, q1, m1, d1, rfl, PU, F6⟩ := Bq.at h5 hy
   have Ho := hV.el y (List.mem_of_getElem? hy)
   have PR := ho.1.1
   rw [List.length_map, List.length_take] at PR
   refine BE.dG ⟨fun _ => ⟨b1, o1, rfl, by omega, q1, m1, d1, y.v, by simpa using PU.mono ho.up, fun _ => FO (F6.mono CH.mono ho.up) (Ho.1.rd F6) fun p' n' c' σ2 HO A6 => ⟨_, _, _, rfl, PK ⟨_, rfl, fun oK ALA => ?_⟩⟩⟩, fun hh => by omega⟩
   refine AW.el (ho.mono Bq.mono A6) (HO.mono CH.mono (ho.new A6)) (by omega) (fun p9 c9 σ3 FQ _ => ⟨_, _, _, rfl, AL Be h5.big, ih (i + 1) _ _ _ _ (by omega) (by omega) ?_⟩) ALA
   rw [Aa hy, List.map_append]; exact FQ
theorem gL {n : Nd} {p q a l : Option Addr} {k c m d j e : Nat} {L : List Vv} {x : Vv} (hr : Af 4 MZ σ l j L) (hx : L[0]? = some x) (hV : gK x) (hv : x.vec ≠ [] → n.op = 11 ∨ n.op = 12) (hw : x.N9 ≠ [] → 1 ≤ n.op ∧ n.op ≤ 10)
   (h : IG R σ ((Cp FF (UM FF n x)).map fun l => ⟨2, 0, l, []⟩)) : Spec prog 103 #[.pointer a, Lh n p k c q m d, .slice l j e] σ R := by
 have hj : 0 < j := by have h1 : L.length = j := hr.1; have := (List.getElem?_eq_some_iff.1 hx).1; omega
 obtain ⟨b, o, pv, nv, cv, qv, mv, dv, rfl, h1, h2, h3, h4, h5, h6⟩ := MZ.at hr hx
 simp only [Nat.zero_mul, Nat.add_zero] at h1 h2 h3 h4
 have hl : x.vec.length = nv := h5.1
 have hlr : x.N9.length = mv := h6.1
 have hlen := hV.len
 refine AT.start fun _ _ => EG fun mb mM => ⟨mb, rfl, ?_⟩
 have s0 := mL.fresh mM
 refine s0.put (by simp) fun σ1 s1 => s1.put (by simp) fun σ2 s2 => ?_
 have A6 := s2.1
 have hml := s2.2.2
 have cont : ∀ v21, (n.op = 11 → v21 = .func (.func 144) #[] #[]) → (n.op = 12 → v21 = .func (.func 145) #[] #[]) → ∃ v, v = v21 ∧ Pq (some ⟨b, o, none⟩) fun Ns cg => In 0 (j : Int) ∧ LS σ2 Ns (cg + 2) fun fO n25 fP => AT.E5 R (aD Ns cg) j e n.kind n.op n.text p k c n.width n.back n.EO q m d n.bool n.parts 0 0 none 0 0 none 0 0 none 0 0 v fO n25 fP (n25 : Int) 0 σ2 := fun v21 ha hf => by
   refine ⟨v21, rfl, b, o, rfl, by omega, pv, nv, cv, A6.ld h3, ?_⟩
   let g1 : El → El := fun x => ⟨BJ x.ls, if n.op = 11 then FF.abs x.v else FF.floor x.v⟩
   let g2 : Rg → Option El := fun s => (FF.over n.op s.vs x.v).map fun v => ⟨BJ s.ls, v⟩
   have hc : UM FF n x = x.vec.map g1 ++ x.N9.filterMap g2 := rfl
   rw [hc] at h
   have second : ∀ g i : Nat, ∀ fb p8 n8 c8 σ', mv - i = g → i ≤ mv → Sd (σ'.del p8) fb → AW 2 Bq σ σ' p8 n8 c8 (x.vec.map g1 ++ (x.N9.take i).filterMap g2) → AT.G2 R (aD b o) j e n.kind n.op n.text p k c n.width n.back n.EO q m d n.bool n.parts 0 0 none 0 0 none 0 0 p8 n8 c8 (aD fb 0) 11 11 qv mv dv mv i σ' := by
     intro g
     induction g with
     | zero =>
       intro i fb p8 n8 c8 σ' hg hi hF ho
       rw [List.take_of_length_le (by omega)] at ho
       have PR := ho.1.1
       rw [List.length_append, List.length_map] at PR
       have h9 := List.length_filterMap_le g2 x.N9
       exact AT.Ir ⟨fun Au => by omega, fun _ => EI ho (by omega) h.TW⟩
     | succ g ih =>
       intro i fb p8 n8 c8 σ' hg hi hF ho
       have Be : i < mv := by omega
       obtain ⟨y, hy⟩ := h6.ex Be
       obtain ⟨b1, o1, q1, m1, d1, q2, m2, d2, rfl, PU, F6, HO, uo⟩ := SL.at h6 hy
       have Ho := hV.rg y (List.mem_of_getElem? hy)
       have IJ := hw fun e => by rw [e] at hlr; simp at hlr; omega
       have hlv : y.vs.length = m2 := HO.1
       have PR := ho.1.1
       rw [List.length_append, List.length_map] at PR
       have h9 := List.length_filterMap_le g2 (x.N9.take i)
       rw [List.length_take] at h9
       have next : ∀ p9 n9 c9 σ3, Sd (σ3.del p9) fb → AW 2 Bq σ σ3 p9 n9 c9 (x.vec.map g1 ++ (x.N9.take i).filterMap g2 ++ (g2 y).toList) → AT.Lg R (aD b o) j e n.kind n.op n.text p k c n.width n.back n.EO q m d n.bool n.parts 0 0 none 0 0 none 0 0 p9 n9 c9 (aD fb 0) 11 11 (aD b1 o1) mv dv mv i σ3 := fun p9 n9 c9 σ3 hF3 FQ =>
         AT.Is ⟨AL Be h6.big, ih (i + 1) _ _ _ _ _ (by omega) (by omega) hF3 (by rw [Gb hy, ← List.append_assoc]; exact FQ)⟩
       refine AT.Ir ⟨fun _ => ⟨b1, o1, rfl, by omega, q1, m1, d1, q2, m2, d2, by simpa using PU.mono ho.up, fun _ => ⟨fb, 0, rfl, by omega, gI (w := x.v) IJ (hF.mono (Ext.IS _ _)) (HO.mono ho.up) (by omega) uo hj (ho.up.ld h2) fun z ok σ3 hz D8 => ⟨z, ok, rfl, fun Di => ?_, fun Di => next _ _ _ _ (hF.mono (D8.del _)) ?_⟩⟩⟩, fun hh => by omega⟩
       · have hz' : FF.over n.op y.vs x.v = some z := by
           rcases hz with ⟨h7, _⟩ | ⟨_, h8⟩
           · exact h7
           · rw [Di] at h8; cases h8
         refine FO (F6.mono CH.mono (ho.up.trans D8)) (Ho.1.rd F6) fun p' n' c' σ4 hr4 Mm => ⟨_, _, _, rfl, fun xw yr => ?_⟩
         have FQ := ho.mono Bq.mono D8
         refine AW.el (FQ.mono Bq.mono Mm) (hr4.mono CH.mono (FQ.new Mm)) (by omega) (fun p9 c9 σ5 QH TT => ⟨_, _, _, rfl, next _ _ _ _ (hF.mono (((D8.trans Mm).del _).trans TT)) ?_⟩) yr
         rw [show g2 y = some ⟨BJ y.ls, z⟩ by show (FF.over n.op y.vs x.v).map _ = _; rw [hz']; rfl]; exact QH
       · have hz' : FF.over n.op y.vs x.v = none := by
           rcases hz with ⟨_, h8⟩ | ⟨h7, _⟩
           · rw [Di] at h8; cases h8
           · exact h7
         rw [show g2 y = none by show (FF.over n.op y.vs x.v).map _ = _; rw [hz']; rfl]
         simpa using ho.mono Bq.mono D8
   suffices H : ∀ g i : Nat, ∀ p8 n8 c8 σ', nv - i = g → i ≤ nv → AW 2 Bq σ σ' p8 n8 c8 ((x.vec.take i).map g1) → AT.E5 R (aD b o) j e n.kind n.op n.text p k c n.width n.back n.EO q m d n.bool n.parts 0 0 none 0 0 none 0 0 p8 n8 c8 v21 pv nv cv nv i σ' from H nv 0 none 0 0 σ2 rfl (Nat.zero_le _) (AW.nil A6)
   intro g
   induction g with
   | zero =>
     intro i p8 n8 c8 σ' hg hi ho
     rw [List.take_of_length_le (by omega)] at ho
     refine AT.FT ⟨fun Au => by omega, fun _ => Se fun fb σ3 hF D8 => ⟨_, _, _, rfl, b, o, rfl, by omega, qv, mv, dv, (ho.up.trans D8).ld h4, second mv 0 fb p8 n8 c8 σ3 rfl (Nat.zero_le _) (hF.mono (ho.new D8)) (by simpa using ho.mono Bq.mono D8)⟩⟩
   | succ g ih =>
     intro i p8 n8 c8 σ' hg hi ho
     have Be : i < nv := by omega
     obtain ⟨y, hy⟩ := h5.ex Be
     obtain ⟨b1, o1, q1, m1, d1, rfl, PU, F6⟩ := Bq.at h5 hy
     have Ho := hV.el y (List.mem_of_getElem? hy)
     have PR := ho.1.1
     rw [List.length_map, List.length_take] at PR
     have IJ := hv fun e => by rw [e] at hl; simp at hl; omega
     refine AT.FT ⟨fun _ => ⟨b1, o1, rfl, by omega, q1, m1, d1, y.v, by simpa using PU.mono ho.up, fun _ => FO (F6.mono CH.mono ho.up) (Ho.1.rd F6) fun p' n' c' σ3 bJ D8 => ⟨_, _, _, rfl, ?_⟩⟩, fun hh => by omega⟩
     have app : ∀ z, (g1 y).v = z → AA R (CI .u64 fun th AF => Al AF fun V5 => AJ prog (Builtin.append_ #[67, 67] 67 #[.slice p8 n8 c8, (.slice (aD V5 0) 1 1)]) (Hp.set AF V5 (.cells #[.slice p' n' c', .int .u64 th] 71 (0, 0))) (CS fun sn n41 iH AH => AN ((i : Int) + 1) ∧ AT.E5 R (aD b o) j e n.kind n.op n.text p k c n.width n.back n.EO q m d n.bool n.parts 0 0 none 0 0 none 0 0 sn n41 iH v21 (aD b1 o1) nv cv nv ((i : Int) + 1) AH)) (.returned (.int .u64 z)) σ3 := fun z hz => by
       refine ⟨z, rfl, fun V5 gM => AW.el (ho.mono Bq.mono D8) (bJ.mono CH.mono (ho.new D8)) (by omega) (fun p9 c9 σ5 QH TT => ⟨_, _, _, rfl, AL Be h5.big, ih (i + 1) _ _ _ _ (by omega) (by omega) ?_⟩) gM⟩
       rw [Aa hy, List.map_append]
       have : g1 y = ⟨BJ y.ls, z⟩ := by rw [← hz]
       simpa [this] using QH
     rcases IJ with IJ | IJ
     · exact ⟨144, #[], #[], ha IJ, ND.en, mC Ho.2 (app _ (by show (if n.op = 11 then ak y.v else _) = _; rw [if_pos IJ]))⟩
     · exact ⟨145, #[], #[], hf IJ, Iq.en, aq (app _ (by show (if n.op = 11 then ak y.v else Va y.v) = _; rw [if_neg (by omega)]))⟩
 refine hml.look rC (fun Dy => cont _ (fun h9 => ?_) fun h9 => ?_) fun v hv => ?_
 · exact absurd h9.symm (Dy (11, .func (.func 144) #[] #[]) (by simp))
 · exact absurd h9.symm (Dy (12, .func (.func 145) #[] #[]) (by simp))
 · simp only [List.nil_append, List.cons_append, List.mem_cons, List.not_mem_nil, or_false, Prod.mk.injEq] at hv
   rcases hv with ⟨h9, rfl⟩ | ⟨h9, rfl⟩
   · exact cont _ (fun _ => rfl) fun h8 => by omega
   · exact cont _ (fun h8 => by omega) fun _ => rfl
end
end TwW
end
section
namespace TwW
open Go Tw Go.RowKit Go.Proofs.Tryz
theorem bK : ∀ w, (zeroValue 71).run prog w = .ok (.agg #[.slice none 0 0, .int .u64 0]) w := fun w => by
 have h : prog.info? 71 = some t71 := by kernel_rfl
 simp [zeroValue, typeInfo, h]
 rfl
def E0 (σ0 : Hp) (v : Value) (x : El) : Prop := ∃ p n c, v = .agg #[.slice p n c, .int .u64 x.v] ∧ FV σ0 p n x.ls
theorem Ub {α : Type} {f : α → Bool} {xs : List α} {k : Nat} {x : α} (hx : xs[k]? = some x) : (xs.take (k + 1)).filter f = (xs.take k).filter f ++ if f x then [x] else [] := by
 rw [Aa hx, List.filter_append]
 by_cases h : f x = true <;> simp [h]
section
variable {σ σ' σ0 : Hp} {R : Rr}
theorem Ext.put {m : Nat} {o : Obj} (hx : Ext σ0 σ) (hm : σ0 m = none) : Ext σ0 (σ.set m o) := fun k u hk => by rw [Hp.AI (fun e => by rw [e, hm] at hk; cases hk)]; exact hx _ _ hk
theorem I2 {n : Nd} {p q pv : Option Addr} {k c m d nv cv : Nat} {vec : List El} (hs : Ez 1 σ q m (n.names.map .string)) (hr : Af 2 Bq σ pv nv vec) (hZ : ∀ e ∈ vec, Ao e.ls)
   (h : ∀ mb σ', MS (E0 σ) σ' mb (VX n vec) → Ext σ σ' → R (.returned (.tuple #[.map (some mb), .bool (fc n vec)])) σ') : Spec prog 206 #[Lh n p k c q m d, .slice pv nv cv] σ R := by
 have hl : vec.length = nv := hr.1
 refine Gs.start fun _ => EG fun mb mM => ⟨mb, rfl, ?_⟩
 let st : List (ByteArray × El) → El → List (ByteArray × El) := fun m x => VW m (FK (Nt n x.ls)) x
 have hk : VX n vec = vec.foldl st [] := rfl
 suffices H : ∀ g i : Nat, ∀ σ', nv - i = g → i ≤ nv → MS (E0 σ) σ' mb ((vec.take i).foldl st []) → Ext σ σ' → Gs.A2 R pv nv cv n.kind n.op n.text p k c n.width n.back n.EO q m d n.bool n.parts (some mb) pv nv cv nv i σ' from H nv 0 _ rfl (Nat.zero_le _) MS.fresh (.set mM)
 intro g
 induction g with
 | zero =>
   intro i σ' hg hi hM hx
   rw [List.take_of_length_le (by omega)] at hM
   refine Gs.AY ⟨fun Au => by omega, fun _ => ⟨_, hM.len, ?_⟩⟩
   have := h mb σ' hM hx
   unfold fc at this
   rw [hk, hl] at this
   rw [show decide ((((vec.foldl st []).length : Nat) : Int) = (nv : Int)) = decide ((vec.foldl st []).length = nv) from decide_eq_decide.2 (by omega)]
   exact this
 | succ g ih =>
   intro i σ' hg hi hM hx
   have Be : i < nv := by omega
   obtain ⟨y, hy⟩ := hr.ex Be
   obtain ⟨b1, o1, q1, m1, d1, rfl, PU, F6⟩ := Bq.at hr hy
   have Ho := hZ y (List.mem_of_getElem? hy)
   refine Gs.AY ⟨fun _ => ⟨b1, o1, rfl, by omega, q1, m1, d1, y.v, by simpa using PU.mono hx, fun _ => QK (F6.mono CH.mono hx) (Ho.rd F6) (hs.mono hx) fun p' n' c' σ2 HO A6 => ⟨_, _, _, rfl, FN (HO.mono CH.mono (Ext.Cj _ _)) Ho.Nt fun σ3 D8 => ⟨_, rfl, ?_⟩⟩⟩, fun hh => by omega⟩
   refine (hM.mono (A6.trans D8)).put (x := y) ⟨q1, m1, d1, rfl, F6⟩ fun o hM' => ⟨AL Be hr.big, ih (i + 1) _ (by omega) (by omega) ?_ (Ext.put (hx.trans (A6.trans D8)) mM)⟩
   rw [Aa hy, List.foldl_append]; exact hM'
theorem gN {n : Nd} {p q a px py : Option Addr} {k c m d nx cx ny cy : Nat} {x y : List El} (hs : Ez 1 σ q m (n.names.map .string)) (Vk : Af 2 Bq σ px nx x) (ur : Af 2 Bq σ py ny y) (me : ∀ e ∈ x, Ao e.ls) (iM : ∀ e ∈ y, Ao e.ls) (hlen : x.length + y.length ≤ 1000000000000)
   (h : IG R σ ((Cp FF (SJ n x y)).map fun l => ⟨2, 0, l, []⟩)) : Spec prog 160 #[.pointer a, Lh n p k c q m d, .slice px nx cx, .slice py ny cy] σ R := by
 have ZG : x.length = nx := Vk.1
 have ah : y.length = ny := ur.1
 refine AV.start fun _ _ => I2 hs Vk me fun mx σ1 hM1 CD => ⟨_, _, rfl, I2 (hs.mono CD) (ur.mono Bq.mono CD) iM fun my σ2 hM2 A6 => ⟨_, _, rfl, ?_⟩⟩
 have hX := CD.trans A6
 have hMx := hM1.mono A6
 replace h := h.gE hX
 let f1 : El → Bool := fun e => decide (n.op = 12) || ((UN n y (Nt n e.ls)).isSome == decide (n.op = 11))
 let f2 : El → Bool := fun e => (UN n x (Nt n e.ls)).isNone && decide (n.op = 12)
 have hf : SJ n x y = x.filter f1 ++ y.filter f2 := rfl
 rw [hf] at h
 have second : ∀ g i : Nat, ∀ p8 n8 c8 σ', ny - i = g → i ≤ ny → AW 2 Bq σ2 σ' p8 n8 c8 (x.filter f1 ++ (y.take i).filter f2) → AV.Jd R n.kind n.op n.text p k c n.width n.back n.EO q m d n.bool n.parts 0 0 none 0 0 none 0 0 (some mx) p8 n8 c8 py ny cy ny i σ' := by
   intro g
   induction g with
   | zero =>
     intro i p8 n8 c8 σ' hg hi ho
     rw [List.take_of_length_le (by omega)] at ho
     have PR := ho.1.1
     rw [List.length_append] at PR
     have h9 := List.length_filter_le f1 x
     have SH := List.length_filter_le f2 y
     exact AV.LC ⟨fun Au => by omega, fun _ => EI ho (by omega) h.TW⟩
   | succ g ih =>
     intro i p8 n8 c8 σ' hg hi ho
     have Be : i < ny := by omega
     obtain ⟨z, hz⟩ := ur.ex Be
     obtain ⟨b1, o1, q1, m1, d1, rfl, PU, F6⟩ := Bq.at ur hz
     have Ho := iM z (List.mem_of_getElem? hz)
     have PR := ho.1.1
     rw [List.length_append] at PR
     have h9 := List.length_filter_le f1 x
     have SH := List.length_filter_le f2 (y.take i)
     rw [List.length_take] at SH
     have next : ∀ p9 n9 c9 σ3, AW 2 Bq σ2 σ3 p9 n9 c9 (x.filter f1 ++ (y.take i).filter f2 ++ if f2 z then [z] else []) → AV.M0 R n.kind n.op n.text p k c n.width n.back n.EO q m d n.bool n.parts 0 0 none 0 0 none 0 0 (some mx) p9 n9 c9 (aD b1 o1) ny cy ny i σ3 := fun p9 n9 c9 σ3 FQ =>
       AV.U7 ⟨AL Be ur.big, ih (i + 1) _ _ _ _ (by omega) (by omega) (by rw [Ub hz, ← List.append_assoc]; exact FQ)⟩
     have aW := hX.trans ho.up
     refine AV.LC ⟨fun _ => ⟨b1, o1, rfl, by omega, q1, m1, d1, z.v, by simpa using PU.mono aW, fun _ => QK (F6.mono CH.mono aW) (Ho.rd F6) (hs.mono aW) fun p' n' c' σ3 bJ D8 => ⟨_, _, _, rfl, FN (bJ.mono CH.mono (Ext.Cj _ _)) Ho.Nt fun σ4 Mm => ⟨_, rfl, ?_⟩⟩⟩, fun hh => by omega⟩
     have NK := ho.mono Bq.mono (D8.trans Mm)
     refine MS.YO (hMx.mono (ho.up.trans (D8.trans Mm))) bK (fun GC => ⟨_, _, _, _, _, rfl, fun _ => ⟨fun _ => ⟨fun V7 => fun iD ALC => ?_, fun V7 => next _ _ _ _ ?_⟩, fun hh => (by cases hh)⟩⟩) fun v e he hE => ?_
     · refine AW.el NK (F6.mono CH.mono (hX.trans NK.2)) (by omega) (fun p9 c9 σ5 QH _ => ⟨_, _, _, rfl, next _ _ _ _ ?_⟩) ALC
       have : f2 z = true := by
         show ((DW (VX n x) (FK (Nt n z.ls))).isNone && decide (n.op = 12)) = true
         rw [GC, decide_eq_true V7]; rfl
       rw [this]; exact QH
     · have : f2 z = false := by
         show ((DW (VX n x) (FK (Nt n z.ls))).isNone && decide (n.op = 12)) = false
         rw [decide_eq_false V7, Bool.and_false]
       rw [this]; simpa using NK
     · obtain ⟨p5, n5, c5, rfl, _⟩ := hE
       refine ⟨_, _, _, _, _, rfl, fun _ => ⟨fun hh => (by cases hh), fun _ => next _ _ _ _ ?_⟩⟩
       have : f2 z = false := by
         show ((DW (VX n x) (FK (Nt n z.ls))).isNone && decide (n.op = 12)) = false
         rw [he]; rfl
       rw [this]; simpa using NK
 suffices H : ∀ g i : Nat, ∀ p8 n8 c8 σ', nx - i = g → i ≤ nx → AW 2 Bq σ2 σ' p8 n8 c8 ((x.take i).filter f1) → AV.qP R py ny cy n.kind n.op n.text p k c n.width n.back n.EO q m d n.bool n.parts 0 0 none 0 0 none 0 0 (some mx) (some my) p8 n8 c8 px nx cx nx i σ' from H nx 0 none 0 0 σ2 rfl (Nat.zero_le _) (AW.nil (.refl _))
 intro g
 induction g with
 | zero =>
   intro i p8 n8 c8 σ' hg hi ho
   rw [List.take_of_length_le (by omega)] at ho
   exact AV.dJ ⟨fun Au => by omega, fun _ => second ny 0 p8 n8 c8 σ' rfl (Nat.zero_le _) (by simpa using ho)⟩
 | succ g ih =>
   intro i p8 n8 c8 σ' hg hi ho
   have Be : i < nx := by omega
   obtain ⟨z, hz⟩ := Vk.ex Be
   obtain ⟨b1, o1, q1, m1, d1, rfl, PU, F6⟩ := Bq.at Vk hz
   have Ho := me z (List.mem_of_getElem? hz)
   have PR := ho.1.1
   have h9 := List.length_filter_le f1 (x.take i)
   rw [List.length_take] at h9
   have next : ∀ p9 n9 c9 σ3, AW 2 Bq σ2 σ3 p9 n9 c9 ((x.take i).filter f1 ++ if f1 z then [z] else []) → AV.VT R py ny cy n.kind n.op n.text p k c n.width n.back n.EO q m d n.bool n.parts 0 0 none 0 0 none 0 0 (some mx) (some my) p9 n9 c9 (aD b1 o1) nx cx nx i σ3 := fun p9 n9 c9 σ3 FQ =>
     AV.qQ ⟨AL Be Vk.big, ih (i + 1) _ _ _ _ (by omega) (by omega) (by rw [Ub hz]; exact FQ)⟩
   have aW := hX.trans ho.up
   refine AV.dJ ⟨fun _ => ⟨b1, o1, rfl, by omega, q1, m1, d1, z.v, by simpa using PU.mono aW, fun _ => QK (F6.mono CH.mono aW) (Ho.rd F6) (hs.mono aW) fun p' n' c' σ3 bJ D8 => ⟨_, _, _, rfl, FN (bJ.mono CH.mono (Ext.Cj _ _)) Ho.Nt fun σ4 Mm => ⟨_, rfl, ?_⟩⟩⟩, fun hh => by omega⟩
   have NK := ho.mono Bq.mono (D8.trans Mm)
   have app : f1 z = true → ∀ fQ, σ4 fQ = none → AJ prog (Builtin.append_ #[67, 67] 67 #[.slice p8 n8 c8, (.slice (aD fQ 0) 1 1)]) (Hp.set σ4 fQ (.cells #[.slice q1 m1 d1, .int .u64 z.v] 71 (0, 0))) (CS fun oC jl oD AZ => AV.VT R py ny cy n.kind n.op n.text p k c n.width n.back n.EO q m d n.bool n.parts 0 0 none 0 0 none 0 0 (some mx) (some my) oC jl oD (aD b1 o1) nx cx nx i AZ) := fun ht fQ ALD => by
     refine AW.el NK (F6.mono CH.mono (hX.trans NK.2)) (by omega) (fun p9 c9 σ5 QH _ => ⟨_, _, _, rfl, next _ _ _ _ ?_⟩) ALD
     rw [ht]; exact QH
   have skip : f1 z = false → AV.VT R py ny cy n.kind n.op n.text p k c n.width n.back n.EO q m d n.bool n.parts 0 0 none 0 0 none 0 0 (some mx) (some my) p8 n8 c8 (aD b1 o1) nx cx nx i σ4 := fun ht => next _ _ _ _ (by rw [ht]; simpa using NK)
   have e1 : f1 z = (decide (n.op = 12) || ((DW (VX n y) (FK (Nt n z.ls))).isSome == decide (n.op = 11))) := rfl
   refine MS.YO ((hM2.imp fun v x hE => hE).mono (ho.up.trans (D8.trans Mm))) bK (fun GC => ⟨_, _, _, _, _, rfl, fun _ => ⟨fun V7 => app ?_, fun V7 => ⟨fun hh => (by cases hh), fun _ => ⟨fun dn => skip ?_, fun dn => app ?_⟩⟩⟩⟩) fun v e he hE => ?_
   · rw [e1, decide_eq_true V7]; rfl
   · rw [e1, decide_eq_false V7, GC, decide_eq_true dn]; rfl
   · rw [e1, decide_eq_false V7, GC, decide_eq_false dn]; rfl
   · obtain ⟨p5, n5, c5, rfl, _⟩ := hE
     refine ⟨_, _, _, _, _, rfl, fun _ => ⟨fun V7 => app ?_, fun V7 => ⟨fun _ => ⟨fun dn => app ?_, fun dn => skip ?_⟩, fun hh => (by cases hh)⟩⟩⟩
     · rw [e1, decide_eq_true V7]; rfl
     · rw [e1, decide_eq_false V7, he, decide_eq_true dn]; rfl
     · rw [e1, decide_eq_false V7, he, decide_eq_false dn]; rfl
end
end TwW
end
section
namespace TwW
open Go Tw Go.RowKit Go.Proofs.Tryz
section
variable {σ σ' σ0 : Hp} {R : Rr}
theorem Sj {n : Nd} {p q a px : Option Addr} {k c m d nx cx f : Nat} {cap : Array Value} {x : List El} {g : Int → Int × Bool} (Vk : Af 2 Bq σ px nx x) (me : ∀ e ∈ x, Ao e.ls) (hlen : x.length ≤ 1000000000000) (N0 : Enters prog f)
   (hC : ∀ (σ2 : Hp) (v : Int) (R' : Rr), Ext σ σ2 → R' (.returned (.tuple #[.int .u64 (g v).1, .bool (g v).2])) σ2 → Spec prog f (#[] ++ #[.int .u64 v] ++ cap) σ2 R')
   (h : IG R σ ((Cp FF (OS n x g)).map fun l => ⟨2, 0, l, []⟩)) : Spec prog 157 #[.pointer a, Lh n p k c q m d, .slice px nx cx, .func (.func f) #[] cap] σ R := by
 have ZG : x.length = nx := Vk.1
 let f1 : El → Option El := fun x => if Er n.op = false ∨ n.bool = true then some ⟨BJ x.ls, (g x.v).1⟩ else if (g x.v).2 then some x else none
 have hf : OS n x g = x.filterMap f1 := rfl
 rw [hf] at h
 refine Ay.start fun _ _ => ?_
 suffices H : ∀ gg i : Nat, ∀ p8 n8 c8 σ', nx - i = gg → i ≤ nx → AW 2 Bq σ σ' p8 n8 c8 ((x.take i).filterMap f1) → Ay.A2 R (.func (.func f) #[] cap) n.kind n.op n.text p k c n.width n.back n.EO q m d n.bool n.parts 0 0 none 0 0 none 0 0 p8 n8 c8 px nx cx nx i σ' from H nx 0 none 0 0 σ rfl (Nat.zero_le _) (AW.nil (.refl _))
 intro gg
 induction gg with
 | zero =>
   intro i p8 n8 c8 σ' hg hi ho
   rw [List.take_of_length_le (by omega)] at ho
   have PR := ho.1.1
   have h9 := List.length_filterMap_le f1 x
   exact Ay.AY ⟨fun Au => by omega, fun _ => EI ho (by omega) h.TW⟩
 | succ gg ih =>
   intro i p8 n8 c8 σ' hg hi ho
   have Be : i < nx := by omega
   obtain ⟨z, hz⟩ := Vk.ex Be
   obtain ⟨b1, o1, q1, m1, d1, rfl, PU, F6⟩ := Bq.at Vk hz
   have Ho := me z (List.mem_of_getElem? hz)
   have PR := ho.1.1
   have h9 := List.length_filterMap_le f1 (x.take i)
   rw [List.length_take] at h9
   have next : ∀ tb p9 n9 c9 σ3, tb = n.bool → AW 2 Bq σ σ3 p9 n9 c9 ((x.take i).filterMap f1 ++ (f1 z).toList) → Ay.G2 R (.func (.func f) #[] cap) n.kind n.op n.text p k c n.width n.back n.EO q m d tb n.parts 0 0 none 0 0 none 0 0 p9 n9 c9 (aD b1 o1) nx cx nx i σ3 := fun tb p9 n9 c9 σ3 oh FQ => by
     subst oh
     exact Ay.Ir ⟨AL Be Vk.big, ih (i + 1) _ _ _ _ (by omega) (by omega) (by rw [Gb hz]; exact FQ)⟩
   have e1 : f1 z = if Er n.op = false ∨ n.bool = true then some ⟨BJ z.ls, (g z.v).1⟩ else if (g z.v).2 then some z else none := rfl
   refine Ay.AY ⟨fun _ => ⟨b1, o1, rfl, by omega, q1, m1, d1, z.v, by simpa using PU.mono ho.up, fun _ => ⟨f, #[], cap, rfl, N0, hC σ' z.v _ ho.up ⟨_, _, rfl, Ce ⟨_, rfl, ?_⟩⟩⟩⟩, fun hh => by omega⟩
   have bare : (Er n.op = false ∨ n.bool = true) → ∀ tb, tb = n.bool → Spec prog 146 #[.slice q1 m1 d1] σ' (AA R (CS fun xD n40 xE AH => Al AH fun cd => AJ prog (Builtin.append_ #[67, 67] 67 #[.slice p8 n8 c8, (.slice (aD cd 0) 1 1)]) (Hp.set AH cd (.cells #[.slice xD n40 xE, .int .u64 (g z.v).1] 71 (0, 0))) (CS fun xF n44 xG AZ => Ay.G2 R (.func (.func f) #[] cap) n.kind n.op n.text p k c n.width n.back n.EO q m d tb n.parts 0 0 none 0 0 none 0 0 xF n44 xG (aD b1 o1) nx cx nx i AZ))) := fun hc tb oh =>
     FO (F6.mono CH.mono ho.up) (Ho.rd F6) fun p' n' c' σ3 bJ D8 => ⟨_, _, _, rfl, fun cd yw => AW.el (ho.mono Bq.mono D8) (bJ.mono CH.mono (ho.new D8)) (by omega) (fun p9 c9 σ5 QH _ => ⟨_, _, _, rfl, next _ _ _ _ _ oh (by rw [e1, if_pos hc]; exact QH)⟩) yw⟩
   refine ⟨fun hcf => bare (.inl hcf) _ rfl, fun hct => ⟨fun hb => bare (.inr hb) _ hb.symm, fun hb => ⟨fun gH => fun T9 mg => ?_, fun gH => next _ _ _ _ _ hb.symm ?_⟩⟩⟩
   · refine AW.el ho (F6.mono CH.mono ho.2) (by omega) (fun p9 c9 σ5 QH _ => ⟨_, _, _, rfl, next _ _ _ _ _ hb.symm ?_⟩) mg
     rw [e1, if_neg (by rw [hct, hb]; simp), if_pos gH]; exact QH
   · rw [e1, if_neg (by rw [hct, hb]; simp), if_neg (by rw [gH]; simp)]; simpa using ho
theorem Vm {n : Nd} {p q a px py : Option Addr} {k c m d nx cx ny cy : Nat} {x y : List El} (hs : Ez 1 σ q m (n.names.map .string)) (Vk : Af 2 Bq σ px nx x) (ur : Af 2 Bq σ py ny y) (me : ∀ e ∈ x, Ao e.ls) (iM : ∀ e ∈ y, Ao e.ls) (hlen : x.length + y.length ≤ 1000000000000)
   (h : IG R σ (((UO FF n x y).bind (Cp FF)).map fun l => ⟨2, 0, l, []⟩)) : Spec prog 161 #[.pointer a, Lh n p k c q m d, .slice px nx cx, .slice py ny cy] σ R := by
 have ZG : x.length = nx := Vk.1
 have ah : y.length = ny := ur.1
 let f1 : El → Option El := fun e => match UN n y (Nt n e.ls) with
   | none => none
   | some o => if Er n.op = false ∨ n.bool = true then some ⟨Nt n e.ls, (FF.Ps n.op e.v o.v).1⟩ else if (FF.Ps n.op e.v o.v).2 then some e else none
 have hf : UO FF n x y = if fc n x && fc n y then some (x.filterMap f1) else none := rfl
 rw [hf] at h
 refine An.start fun _ _ => I2 hs Vk me fun mx σ1 hM1 CD => ⟨_, _, rfl, I2 (hs.mono CD) (ur.mono Bq.mono CD) iM fun my σ2 hM2 A6 => ⟨_, _, rfl, fun h1 => ?_, fun h1 => ⟨fun h2 => ?_, fun h2 => ?_⟩⟩⟩
 · rw [h1] at h; exact h.no rfl _ (CD.trans A6)
 · rw [h2, Bool.and_false] at h; exact h.no rfl _ (CD.trans A6)
 rw [h1, h2] at h
 have hX := CD.trans A6
 replace h : IG R σ2 ((Cp FF (x.filterMap f1)).map fun l => ⟨2, 0, l, []⟩) := h.gE hX
 suffices H : ∀ gg i : Nat, ∀ p8 n8 c8 σ', nx - i = gg → i ≤ nx → AW 2 Bq σ2 σ' p8 n8 c8 ((x.take i).filterMap f1) → An.U6 R n.kind n.op n.text p k c n.width n.back n.EO q m d n.bool n.parts 0 0 none 0 0 none 0 0 (some my) p8 n8 c8 px nx cx nx i σ' from H nx 0 none 0 0 σ2 rfl (Nat.zero_le _) (AW.nil (.refl _))
 intro gg
 induction gg with
 | zero =>
   intro i p8 n8 c8 σ' hg hi ho
   rw [List.take_of_length_le (by omega)] at ho
   have PR := ho.1.1
   have h9 := List.length_filterMap_le f1 x
   exact An.QC ⟨fun Au => by omega, fun _ => EI ho (by omega) h.TW⟩
 | succ gg ih =>
   intro i p8 n8 c8 σ' hg hi ho
   have Be : i < nx := by omega
   obtain ⟨z, hz⟩ := Vk.ex Be
   obtain ⟨b1, o1, q1, m1, d1, rfl, PU, F6⟩ := Bq.at Vk hz
   have Ho := me z (List.mem_of_getElem? hz)
   have PR := ho.1.1
   have h9 := List.length_filterMap_le f1 (x.take i)
   rw [List.length_take] at h9
   have next : ∀ tb p9 n9 c9 σ3, tb = n.bool → AW 2 Bq σ2 σ3 p9 n9 c9 ((x.take i).filterMap f1 ++ (f1 z).toList) → An.M0 R n.kind n.op n.text p k c n.width n.back n.EO q m d tb n.parts 0 0 none 0 0 none 0 0 (some my) p9 n9 c9 (aD b1 o1) nx cx nx i σ3 := fun tb p9 n9 c9 σ3 oh FQ => by
     subst oh
     exact An.U7 ⟨AL Be Vk.big, ih (i + 1) _ _ _ _ (by omega) (by omega) (by rw [Gb hz]; exact FQ)⟩
   have aW := hX.trans ho.up
   refine An.QC ⟨fun _ => ⟨b1, o1, rfl, by omega, q1, m1, d1, z.v, by simpa using PU.mono aW, fun _ => QK (F6.mono CH.mono aW) (Ho.rd F6) (hs.mono aW) fun p' n' c' σ3 bJ D8 => ⟨_, _, _, rfl, FN (bJ.mono CH.mono (Ext.Cj _ _)) Ho.Nt fun σ4 Mm => ⟨_, rfl, ?_⟩⟩⟩, fun hh => by omega⟩
   have NK := ho.mono Bq.mono (D8.trans Mm)
   have hrk : FV (σ4.del p8) p' n' (Nt n z.ls) := bJ.mono CH.mono ((Ext.JX Mm).trans (ho.new (D8.trans Mm)))
   have e1 : f1 z = match DW (VX n y) (FK (Nt n z.ls)) with
     | none => none
     | some o => if Er n.op = false ∨ n.bool = true then some ⟨Nt n z.ls, (Fq n.op z.v o.v).1⟩ else if (Fq n.op z.v o.v).2 then some z else none := rfl
   refine MS.YO (hM2.mono (ho.up.trans (D8.trans Mm))) bK (fun GC => ⟨_, _, _, _, _, rfl, fun _ => ⟨fun _ => next _ _ _ _ _ rfl ?_, fun hh => (by cases hh)⟩⟩) fun v e he hE => ?_
   · rw [e1, GC]; simpa using NK
   obtain ⟨p5, n5, c5, rfl, _⟩ := hE
   rw [he] at e1
   dsimp only at e1
   refine ⟨_, _, _, _, _, rfl, fun _ => ⟨fun hh => (by cases hh), fun _ => HP ⟨_, _, rfl, Ce ⟨_, rfl, ?_⟩⟩⟩⟩
   have bare : (Er n.op = false ∨ n.bool = true) → ∀ tb, tb = n.bool → Al σ4 fun sq => AJ prog (Builtin.append_ #[67, 67] 67 #[.slice p8 n8 c8, (.slice (aD sq 0) 1 1)]) (Hp.set σ4 sq (.cells #[.slice p' n' c', .int .u64 (Fq n.op z.v e.v).1] 71 (0, 0))) (CS fun pM Ww pN CR => An.M0 R n.kind n.op n.text p k c n.width n.back n.EO q m d tb n.parts 0 0 none 0 0 none 0 0 (some my) pM Ww pN (aD b1 o1) nx cx nx i CR) := fun hc tb oh =>
     fun cd yw => AW.el NK hrk (by omega) (fun p9 c9 σ5 QH _ => ⟨_, _, _, rfl, next _ _ _ _ _ oh (by rw [e1, if_pos hc]; exact QH)⟩) yw
   refine ⟨fun hcf => bare (.inl hcf) _ rfl, fun hct => ⟨fun hb => bare (.inr hb) _ hb.symm, fun hb => ⟨fun gH => fun T9 mg => ?_, fun gH => next _ _ _ _ _ hb.symm ?_⟩⟩⟩
   · refine AW.el NK (F6.mono CH.mono (hX.trans NK.2)) (by omega) (fun p9 c9 σ5 QH _ => ⟨_, _, _, rfl, next _ _ _ _ _ hb.symm ?_⟩) mg
     rw [e1, if_neg (by rw [hct, hb]; simp), if_pos gH]; exact QH
   · rw [e1, if_neg (by rw [hct, hb]; simp), if_neg (by rw [gH]; simp)]; simpa using NK
end
end TwW
end
section
namespace TwW
open Go Tw Go.RowKit Go.Proofs.Tryz
theorem yx : ∀ w, (Go.sizeOf 93).run prog w = .ok 4 w := fun w => by kernel_rfl
abbrev WB (x : Vv) (p : Option Addr) (n c : Nat) (q : Option Addr) (m d : Nat) : Array Value := #[.int .i64 x.kind, .int .u64 x.v, .slice p n c, .slice q m d]
abbrev ndC (n : Nd) (p : Option Addr) (k c : Nat) (q : Option Addr) (m d : Nat) : Array Value := #[.int .i64 n.kind, .int .i64 n.op, .string n.text, .slice p k c, .int .i64 n.width, .int .i64 n.back, .int .i64 n.EO, .slice q m d, .bool n.bool, .int .i64 n.parts]
section
variable {σ σ' σ0 : Hp} {R : Rr}
theorem Sk {b : Nat} {c : Array Value} {v0 v1 v2 v3 : Value} {Φ : Unit → Hp → Prop} (hc : c.size = 4) (hb : σ b = some (.cells c 93 (0, 0))) (h1 : ∀ u ∈ [v0, v1, v2, v3], u.oneCell' = true) (hv : (Value.agg #[v0, v1, v2, v3]).cells = #[v0, v1, v2, v3])
   (h : Φ () (σ.set b (.cells #[v0, v1, v2, v3] 93 (0, 0)))) : AJ prog (Instr.storeAt 93 (.pointer (some ⟨b, 0, none⟩)) (.agg #[v0, v1, v2, v3])) σ Φ := by
 refine AJ.store yx hb (by rw [hv]; rfl) (by omega) (by rw [hv]; simpa using h1) ?_
 rw [hv, SU (by rw [hc]; rfl)]
 exact h
theorem Aq.Fs {b : Nat} {c : List Value} {T : TypeId} (h : σ b = some (.cells c.toArray T (0, 0))) : Aq σ b 0 c := Aq.of fun j v hj => by
 rw [Nat.zero_add]; exact Ac h (by simpa using hj)
theorem mh {n : Nd} {p q a l : Option Addr} {k c m d j e : Nat} {L : List Vv} {x y : Vv} (hs : Ez 1 σ q m (n.names.map .string)) (hr : Af 4 MZ σ l j L) (hx : L[0]? = some x) (hy : L[1]? = some y) (hVx : gK x) (hVy : gK y) (h : IG R σ (l5 FF n x y)) :
   Spec prog 105 #[.pointer a, Lh n p k c q m d, .slice l j e] σ R := by
 have hj : 1 < j := by have h1 : L.length = j := hr.1; have := (List.getElem?_eq_some_iff.1 hy).1; omega
 obtain ⟨b, o, px, nx, cx, qx, mx, dx, rfl, h1, h2, h3, h4, h5, h6⟩ := MZ.at hr hx
 obtain ⟨_, _, py, ny, cy, qy, my, dy, he, g1, g2, g3, g4, g5, g6⟩ := MZ.at hr hy
 cases he
 simp only [Nat.zero_mul, Nat.add_zero, Nat.one_mul] at h1 h2 h3 h4 g1 g2 g3 g4
 have ZG := hVx.len
 have ah := hVy.len
 have me := fun z hz => (hVx.el z hz).1
 have iM := fun z hz => (hVy.el z hz).1
 refine C8.start fun b4 hb4 _ => ?_
 have x4 := Ext.set (o := .cells (ndC n p k c q m d) 36 (0, 0)) hb4
 have c4 := Hp.AB σ b4 (.cells (ndC n p k c q m d) 36 (0, 0))
 generalize yy : σ.set b4 (.cells (ndC n p k c q m d) 36 (0, 0)) = σ4 at *
 refine ⟨b, o, rfl, by omega, x.kind, x.v, px, nx, cx, qx, mx, dx, ⟨x4.ld h1, x4.ld h2, x4.ld h3, x4.ld h4, trivial⟩, by omega, y.kind, y.v, py, ny, cy, qy, my, dy, ⟨x4.ld g1, x4.ld g2, x4.ld g3, x4.ld g4, trivial⟩, fun b8 hb8 b9 hb9 => ?_, fun b9 hb9 b8 hb8 => ?_⟩
 focus
   have n8 : b8 ≠ b9 := fun e => by rw [e, Hp.AB] at hb9; cases hb9
   have n9 := (Hp.AU hb9).2
   have nb : ∀ k o, σ4 k = some o → k ≠ b8 ∧ k ≠ b9 := fun k o hk => ⟨fun e => (by rw [e, hb8] at hk; cases hk), fun e => (by rw [e, n9] at hk; cases hk)⟩
   refine Sk rfl (by rw [Hp.AI n8]; exact Hp.AB _ _ _) (by simp [Value.oneCell']) rfl ?_
   refine ⟨fun kb HC u hu => ?_, Sk rfl (by rw [Hp.AI (Ne.symm n8)]; exact Hp.AB _ _ _) (by simp [Value.oneCell']) rfl ?_⟩
   · rw [List.mem_singleton] at HC
     subst HC
     have ZO : ∃ u, σ4 kb = some u := by
       have := x4.ld h1
       unfold Hp.ld at this
       cases hq : σ4 kb with
       | none => rw [hq] at this; cases this
       | some u => exact ⟨u, rfl⟩
     obtain ⟨u', Cy⟩ := ZO
     rw [Hp.AI (nb _ _ Cy).1]; exact hu
   have F8 : ((((σ4.set b8 (.cells #[.int .i64 0, .int .u64 0, .slice none 0 0, .slice none 0 0] 93 (0, 0))).set b9 (.cells #[.int .i64 0, .int .u64 0, .slice none 0 0, .slice none 0 0] 93 (0, 0))).set b8 (.cells (WB x px nx cx qx mx dx) 93 (0, 0))).set b9 (.cells (WB y py ny cy qy my dy) 93 (0, 0))) b8 = some (.cells (WB x px nx cx qx mx dx) 93 (0, 0)) := by rw [Hp.AI n8, Hp.AB]
   have F9 := Hp.AB (((σ4.set b8 (.cells #[.int .i64 0, .int .u64 0, .slice none 0 0, .slice none 0 0] 93 (0, 0))).set b9 (.cells #[.int .i64 0, .int .u64 0, .slice none 0 0, .slice none 0 0] 93 (0, 0))).set b8 (.cells (WB x px nx cx qx mx dx) 93 (0, 0))) b9 (.cells (WB y py ny cy qy my dy) 93 (0, 0))
   have X2 : Ext σ4 ((((σ4.set b8 (.cells #[.int .i64 0, .int .u64 0, .slice none 0 0, .slice none 0 0] 93 (0, 0))).set b9 (.cells #[.int .i64 0, .int .u64 0, .slice none 0 0, .slice none 0 0] 93 (0, 0))).set b8 (.cells (WB x px nx cx qx mx dx) 93 (0, 0))).set b9 (.cells (WB y py ny cy qy my dy) 93 (0, 0))) := fun k o hk => by
     obtain ⟨a1, a2⟩ := nb k o hk
     rw [Hp.AI a2, Hp.AI a1, Hp.AI a2, Hp.AI a1]; exact hk
   generalize ((((σ4.set b8 (.cells #[.int .i64 0, .int .u64 0, .slice none 0 0, .slice none 0 0] 93 (0, 0))).set b9 (.cells #[.int .i64 0, .int .u64 0, .slice none 0 0, .slice none 0 0] 93 (0, 0))).set b8 (.cells (WB x px nx cx qx mx dx) 93 (0, 0))).set b9 (.cells (WB y py ny cy qy my dy) 93 (0, 0))) = y2 at *
 rotate_left
 focus
   have n8 : b9 ≠ b8 := fun e => by rw [e, Hp.AB] at hb8; cases hb8
   have n9 := (Hp.AU hb8).2
   have nb : ∀ k o, σ4 k = some o → k ≠ b8 ∧ k ≠ b9 := fun k o hk => ⟨fun e => (by rw [e, n9] at hk; cases hk), fun e => (by rw [e, hb9] at hk; cases hk)⟩
   refine Sk rfl (Hp.AB _ _ _) (by simp [Value.oneCell']) rfl ?_
   refine ⟨fun kb HC u hu => ?_, Sk rfl (by rw [Hp.AI n8, Hp.AI n8]; exact Hp.AB _ _ _) (by simp [Value.oneCell']) rfl ?_⟩
   · rw [List.mem_singleton] at HC
     subst HC
     have ZO : ∃ u, σ4 kb = some u := by
       have := x4.ld h1
       unfold Hp.ld at this
       cases hq : σ4 kb with
       | none => rw [hq] at this; cases this
       | some u => exact ⟨u, rfl⟩
     obtain ⟨u', Cy⟩ := ZO
     rw [Hp.AI (nb _ _ Cy).1]; exact hu
   have F8 : ((((σ4.set b9 (.cells #[.int .i64 0, .int .u64 0, .slice none 0 0, .slice none 0 0] 93 (0, 0))).set b8 (.cells #[.int .i64 0, .int .u64 0, .slice none 0 0, .slice none 0 0] 93 (0, 0))).set b8 (.cells (WB x px nx cx qx mx dx) 93 (0, 0))).set b9 (.cells (WB y py ny cy qy my dy) 93 (0, 0))) b8 = some (.cells (WB x px nx cx qx mx dx) 93 (0, 0)) := by rw [Hp.AI (Ne.symm n8), Hp.AB]
   have F9 := Hp.AB (((σ4.set b9 (.cells #[.int .i64 0, .int .u64 0, .slice none 0 0, .slice none 0 0] 93 (0, 0))).set b8 (.cells #[.int .i64 0, .int .u64 0, .slice none 0 0, .slice none 0 0] 93 (0, 0))).set b8 (.cells (WB x px nx cx qx mx dx) 93 (0, 0))) b9 (.cells (WB y py ny cy qy my dy) 93 (0, 0))
   have X2 : Ext σ4 ((((σ4.set b9 (.cells #[.int .i64 0, .int .u64 0, .slice none 0 0, .slice none 0 0] 93 (0, 0))).set b8 (.cells #[.int .i64 0, .int .u64 0, .slice none 0 0, .slice none 0 0] 93 (0, 0))).set b8 (.cells (WB x px nx cx qx mx dx) 93 (0, 0))).set b9 (.cells (WB y py ny cy qy my dy) 93 (0, 0))) := fun k o hk => by
     obtain ⟨a1, a2⟩ := nb k o hk
     rw [Hp.AI a2, Hp.AI a1, Hp.AI a1, Hp.AI a2]; exact hk
   generalize ((((σ4.set b9 (.cells #[.int .i64 0, .int .u64 0, .slice none 0 0, .slice none 0 0] 93 (0, 0))).set b8 (.cells #[.int .i64 0, .int .u64 0, .slice none 0 0, .slice none 0 0] 93 (0, 0))).set b8 (.cells (WB x px nx cx qx mx dx) 93 (0, 0))).set b9 (.cells (WB y py ny cy qy my dy) 93 (0, 0))) = y2 at *
 all_goals
   have F4 := X2 _ _ c4
   have X := x4.trans X2
   have yz := Aq.Fs (c := [.int .i64 n.kind, .int .i64 n.op, .string n.text, .slice p k c, .int .i64 n.width, .int .i64 n.back, .int .i64 n.EO, .slice q m d, .bool n.bool, .int .i64 n.parts]) F4
   have hn := h.gE X
   unfold l5 at hn
   refine ⟨x.kind, Ac F8 rfl, fun iQ => ⟨y.kind, Ac F9 rfl, fun uu => ?_, fun uu => ?_⟩, fun iQ => ?_⟩
   · rw [if_pos ⟨iQ, uu⟩] at hn
     exact ⟨_, _, _, _, _, _, _, _, _, _, _, _, _, _, yz, x.v, Ac F8 rfl, y.v, Ac F9 rfl, HP ⟨_, _, rfl, hn.ok _ y2 none 0 0 none 0 0 rfl (.refl _) Af.nil Af.nil (Nat.le_refl _) (Nat.le_refl _)⟩⟩
   · rw [if_neg (fun hh => uu hh.2), if_pos iQ] at hn
     refine ⟨x.kind, Ac F8 rfl, fun _ => ⟨_, _, _, _, _, _, _, _, _, _, _, _, _, _, yz, py, ny, cy, Ac F9 rfl, Sj (g := fun v => Fq n.op x.v v) (g5.mono Bq.mono X) iM (by omega) DN.en (fun σ2 v R' A6 LK => ?_) hn.TW⟩, fun hh => absurd iQ hh⟩
     exact DN.start ⟨_, _, _, _, _, _, _, _, _, _, _, _, _, _, yz.mono A6, x.v, Ac (A6 _ _ F8) rfl, HP ⟨_, _, rfl, LK⟩⟩
   · rw [if_neg (fun hh => iQ hh.1), if_neg iQ] at hn
     refine ⟨x.kind, Ac F8 rfl, fun hh => absurd hh iQ, fun _ => ⟨y.kind, Ac F9 rfl, fun uu => ?_, fun uu => ⟨n.op, Ac F4 rfl, PM ⟨_, rfl, fun Cc => ?_, fun Cc => ?_⟩⟩⟩⟩
     · rw [if_pos uu] at hn
       refine ⟨_, _, _, _, _, _, _, _, _, _, _, _, _, _, yz, px, nx, cx, Ac F8 rfl, Sj (g := fun v => Fq n.op v y.v) (h5.mono Bq.mono X) me (by omega) DI.en (fun σ2 v R' A6 LK => ?_) hn.TW⟩
       exact DI.start ⟨_, _, _, _, _, _, _, _, _, _, _, _, _, _, yz.mono A6, y.v, Ac (A6 _ _ F9) rfl, HP ⟨_, _, rfl, LK⟩⟩
     · rw [if_neg uu, if_pos (of_decide_eq_true Cc)] at hn
       exact ⟨_, _, _, _, _, _, _, _, _, _, _, _, _, _, yz, px, nx, cx, Ac F8 rfl, py, ny, cy, Ac F9 rfl, gN (hs.mono X) (h5.mono Bq.mono X) (g5.mono Bq.mono X) me iM (by omega) hn.TW⟩
     · rw [if_neg uu, if_neg (of_decide_eq_false Cc)] at hn
       exact ⟨_, _, _, _, _, _, _, _, _, _, _, _, _, _, yz, px, nx, cx, Ac F8 rfl, py, ny, cy, Ac F9 rfl, Vm (hs.mono X) (h5.mono Bq.mono X) (g5.mono Bq.mono X) me iM (by omega) hn.TW⟩
end
end TwW
end
section
namespace TwW
open Go Tw Go.RowKit Go.Proofs.Tryz
structure GR where
 b : Nat
 lp : Option Addr
 ln : Nat
 lc : Nat
 vp : Option Addr
 vn : Nat
 vc : Nat
def GR.cl (r : GR) : List Nat := r.b :: QX r.vp
def GR.cell (r : GR) : Obj := .cells #[.slice r.lp r.ln r.lc, .slice r.vp r.vn r.vc] 189 (0, 0)
def FA : List Rg → List GR → List (ByteArray × Nat)
 | g :: gs, r :: rs => (FK g.ls, r.b) :: FA gs rs
 | _, _ => []
structure GS (τ σ : Hp) (m : Nat) (op : Option Addr) (on oc : Nat) (rs : List GR) (gs : List Rg) : Prop where
 len : rs.length = gs.length
 map : MS (fun v b => v = .pointer (aD b 0)) σ m (FA gs rs)
 ord : A9 1 σ op on oc (rs.map fun r => .pointer (aD r.b 0))
 box : ∀ (i : Nat) (r : GR) (g : Rg), rs[i]? = some r → gs[i]? = some g → σ r.b = some r.cell ∧ FV τ r.lp r.ln g.ls ∧ Dj .u64 σ r.vp r.vn r.vc g.vs
 om : ∀ a, op = some a → a.block ≠ m ∧ τ a.block = none
 dm : ∀ (i : Nat) (r : GR), rs[i]? = some r → ∀ k ∈ r.cl, k ≠ m ∧ (∀ a, op = some a → k ≠ a.block) ∧ τ k = none
 vb : ∀ (i : Nat) (r : GR), rs[i]? = some r → ∀ a, r.vp = some a → a.block ≠ r.b
 dr : ∀ (i j : Nat) (r r' : GR), i ≠ j → rs[i]? = some r → rs[j]? = some r' → ∀ k ∈ r.cl, k ∉ r'.cl
 tm : τ m = none
 ext : Ext τ σ
theorem rD : ∀ w, (Go.sizeOf 187).run prog w = .ok 1 w := fun w => by kernel_rfl
theorem rE {p : Option Addr} {k : Nat} : k ∈ QX p ↔ ∃ a, p = some a ∧ k = a.block := by
 cases p with
 | none => simp [QX]
 | some a => simp [QX]
theorem I3 {r : GR} {k : Nat} : k ∈ r.cl ↔ k = r.b ∨ ∃ a, r.vp = some a ∧ k = a.block := by
 unfold GR.cl
 rw [List.mem_cons, rE]
theorem A9.of_eq {s : Nat} {σ σ' : Hp} {p : Option Addr} {n c : Nat} {cs : List Value} (ho : A9 s σ p n c cs) (h : ∀ a, p = some a → σ' a.block = σ a.block) : A9 s σ' p n c cs :=
 ⟨ho.1, ho.2.1, ho.2.2.imp id fun ⟨b', o', arr, T, hp, hb, r⟩ => ⟨b', o', arr, T, hp, by rw [h _ hp]; exact hb, r⟩⟩
theorem Uc : ∀ {gs : List Rg} {rs : List GR} {i : Nat} {g g' : Rg} {r r' : GR}, gs[i]? = some g → rs[i]? = some r → g'.ls = g.ls → r'.b = r.b → FA (gs.set i g') (rs.set i r') = FA gs rs
 | [], _, i, _, _, _, _, hg, _, _, _ => by simp at hg
 | _ :: _, [], i, _, _, _, _, _, hr, _, _ => by simp at hr
 | a :: gs, b :: rs, 0, g, g', r, r', hg, hr, h1, h2 => by
   simp only [List.getElem?_cons_zero, Option.some.injEq] at hg hr
   subst hg; subst hr
   simp only [List.set_cons_zero, FA, h1, h2]
 | a :: gs, b :: rs, i + 1, g, g', r, r', hg, hr, h1, h2 => by
   simp only [List.set_cons_succ, FA]
   rw [Uc (by simpa using hg) (by simpa using hr) h1 h2]
theorem Ud : ∀ {gs : List Rg} {rs : List GR} {g : Rg} {r : GR}, rs.length = gs.length → FA (gs ++ [g]) (rs ++ [r]) = FA gs rs ++ [(FK g.ls, r.b)]
 | [], [], g, r, _ => rfl
 | [], _ :: _, g, r, h => by simp at h
 | _ :: _, [], g, r, h => by simp at h
 | a :: gs, b :: rs, g, r, h => by
   simp only [List.cons_append, FA]
   rw [Ud (by simpa using h)]
theorem Sl : ∀ {gs : List Rg} {rs : List GR} {ls : List Lb} {v : Int} {b : Nat}, rs.length = gs.length → DW (FA gs rs) (FK ls) = some b → ∃ (i : Nat) (g : Rg) (r : GR), gs[i]? = some g ∧ rs[i]? = some r ∧ r.b = b ∧ FL ls v gs = gs.set i ⟨g.ls, g.vs ++ [v]⟩
 | [], _, ls, v, b, _, h => by simp [FA, DW] at h
 | _ :: _, [], ls, v, b, hl, h => by simp at hl
 | g :: gs, r :: rs, ls, v, b, hl, h => by
   unfold FA DW at h
   by_cases hk : FK g.ls = FK ls
   · rw [if_pos hk] at h
     exact ⟨0, g, r, rfl, rfl, by simpa using h, by unfold FL; rw [if_pos hk]; rfl⟩
   · rw [if_neg hk] at h
     obtain ⟨i, g', r', h1, h2, h3, h4⟩ := Sl (v := v) (by simpa using hl) h
     exact ⟨i + 1, g', r', by simpa using h1, by simpa using h2, h3, by unfold FL; rw [if_neg hk, h4]; rfl⟩
theorem Sm : ∀ {gs : List Rg} {rs : List GR} {ls : List Lb} {v : Int}, rs.length = gs.length → DW (FA gs rs) (FK ls) = none → FL ls v gs = gs ++ [⟨ls, [v]⟩] ∧ ∀ a ∈ FA gs rs, a.1 ≠ FK ls
 | [], _, ls, v, _, h => ⟨rfl, fun a ha => by simp [FA] at ha⟩
 | _ :: _, [], ls, v, hl, h => by simp at hl
 | g :: gs, r :: rs, ls, v, hl, h => by
   unfold FA DW at h
   by_cases hk : FK g.ls = FK ls
   · rw [if_pos hk] at h; cases h
   · rw [if_neg hk] at h
     obtain ⟨h1, h2⟩ := Sm (v := v) (by simpa using hl) h
     refine ⟨by unfold FL; rw [if_neg hk, h1]; rfl, fun a ha => ?_⟩
     unfold FA at ha
     rcases List.mem_cons.1 ha with rfl | ha
     · exact hk
     · exact h2 a ha
section
variable {τ σ σ' σ0 : Hp} {R : Rr} {m on oc : Nat} {op : Option Addr} {rs : List GR} {gs : List Rg}
theorem GS.known (h : GS τ σ m op on oc rs gs) {i : Nat} {r : GR} (hr : rs[i]? = some r) : ∀ k ∈ r.cl, ∃ u, σ k = some u := fun k hk => by
 have Au := (List.getElem?_eq_some_iff.1 hr).1
 obtain ⟨g, hg⟩ : ∃ g, gs[i]? = some g := ⟨_, List.getElem?_eq_getElem (by rw [← h.len]; exact Au)⟩
 obtain ⟨h1, _, h3⟩ := h.box i r g hr hg
 rcases I3.1 hk with rfl | ⟨a, ha, rfl⟩
 · exact ⟨_, h1⟩
 · have := A9.block h3 a ha
   cases hh : σ a.block with
   | none => exact absurd hh this
   | some u => exact ⟨u, rfl⟩
theorem GS.grow (h : GS τ σ m op on oc rs gs) (hx : Ext σ σ') : ∃ τ', GS τ' σ' m op on oc rs gs ∧ Ext τ τ' ∧ Ext (σ.new σ') τ' := by
 have ht : Ext τ (τ.or (σ.new σ')) := Ext.qY _ _
 have kn : ∀ k, (∃ u, σ k = some u) → τ k = none → (τ.or (σ.new σ')) k = none := fun k ⟨u, hu⟩ hk => by
   rw [Hp.aV hk]
   cases hh : (σ.new σ') k with
   | none => rfl
   | some v => rw [(AX.1 hh).1] at hu; cases hu
 have ne : ∀ k, σ k ≠ none → ∃ u, σ k = some u := fun k hk => by
   cases hh : σ k with
   | none => exact absurd hh hk
   | some u => exact ⟨u, rfl⟩
 refine ⟨τ.or (σ.new σ'), ⟨h.len, h.map.mono hx, h.ord.mono hx, fun i r g hr hg => ?_, fun a ha => ⟨(h.om a ha).1, kn _ (ne _ (h.ord.block a ha)) (h.om a ha).2⟩, fun i r hr k hk => ?_, h.vb, h.dr, kn _ (ne _ h.map.known) h.tm, ?_⟩, ht, ?_⟩
 · obtain ⟨h1, h2, h3⟩ := h.box i r g hr hg
   exact ⟨hx _ _ h1, h2.mono CH.mono ht, h3.mono hx⟩
 · obtain ⟨h1, h2, h3⟩ := h.dm i r hr k hk
   exact ⟨h1, h2, kn k (h.known hr k hk) h3⟩
 · exact Ext.lx (h.ext.trans hx) (Ext.Cj _ _)
 · refine Ext.aV fun k hk => ?_
   cases hh : τ k with
   | none => rfl
   | some u =>
     have h1 := h.ext _ _ hh
     cases h2 : (σ.new σ') k with
     | none => exact absurd h2 hk
     | some v => rw [(AX.1 h2).1] at h1; cases h1
theorem GS.push {i : Nat} {r : GR} {g : Rg} {v : Int} (h : GS τ σ m op on oc rs gs) (hr : rs[i]? = some r) (hg : gs[i]? = some g) (hb : r.vn ≤ 1000000000000) {Φ : Hp → Prop}
   (hΦ : ∀ σ' r', GS τ σ' m op on oc (rs.set i r') (gs.set i ⟨g.ls, g.vs ++ [v]⟩) → Φ σ') :
   Al σ fun b69 => AJ prog (Builtin.append_ #[187, 187] 187 #[.slice r.vp r.vn r.vc, (.slice (aD b69 0) 1 1)]) (Hp.set σ b69 (.cells #[.int .u64 v] 48 (0, 0))) (CS fun p70 n70 c70 y => AJ prog (Instr.storeAt 187 (.pointer (aD r.b 1)) (.slice p70 n70 c70)) y (fun _ AF => Φ AF)) := fun b69 ALG => by
 obtain ⟨h1, h2, h3⟩ := h.box i r g hr hg
 have uf := (List.getElem?_eq_some_iff.1 hr).1
 have hig := (List.getElem?_eq_some_iff.1 hg).1
 have x1 := Ext.set (o := .cells #[.int .u64 v] 48 (0, 0)) ALG
 refine Dz (A9.mono x1 h3) (VV (f := .int .u64) (x := v) (Hp.AB _ _ _)) GF.P2 (by omega) fun vp' vc' σ2 Bb A6 => ⟨_, _, _, rfl, ?_⟩
 have hvb := h.vb i r hr
 have TA : ∀ k u, σ k = some u → (∀ a, r.vp = some a → k ≠ a.block) → σ2 k = some u ∧ ∀ a, vp' = some a → k ≠ a.block := fun k u hk A4 => by
   obtain ⟨a1, a2⟩ := AR.1 (A6 k u (AR.2 ⟨A4, x1 _ _ hk⟩))
   exact ⟨a2, a1⟩
 obtain ⟨c1, c2⟩ := TA r.b _ h1 fun a ha e => hvb a ha e.symm
 refine AJ.store rD c1 rfl (by simp) (by simp [Value.cells, Value.oneCell']) ?_
 let r' : GR := ⟨r.b, r.lp, r.ln, r.lc, vp', r.vn + 1, vc'⟩
 have TZ : (Obj.cells (Mk #[.slice r.lp r.ln r.lc, .slice r.vp r.vn r.vc] 1 (Value.slice vp' (r.vn + 1) vc').cells.toList) 189 (0, 0)) = r'.cell := by simp [Mk, Value.cells, GR.cell, r']
 rw [TZ]
 have T : ∀ k u, σ k = some u → k ∉ r.cl → (σ2.set r.b r'.cell) k = some u ∧ k ∉ r'.cl := fun k u hk hY => by
   have Nw : k ≠ r.b := fun e => hY (I3.2 (.inl e))
   obtain ⟨a1, a2⟩ := TA k u hk fun a ha e => hY (I3.2 (.inr ⟨a, ha, e⟩))
   exact ⟨by rw [Hp.AI Nw]; exact a1, fun hc => by
     rcases I3.1 hc with e | ⟨a, ha, e⟩
     · exact Nw e
     · exact a2 a ha e⟩
 have TK : ∀ k, (∃ u, σ k = some u) → k ∉ r.cl → (σ2.set r.b r'.cell) k = σ k ∧ k ∉ r'.cl := fun k ⟨u, hu⟩ hY => ⟨by rw [(T k u hu hY).1, hu], (T k u hu hY).2⟩
 have ne : ∀ k, σ k ≠ none → ∃ u, σ k = some u := fun k hk => by
   cases hh : σ k with
   | none => exact absurd hh hk
   | some u => exact ⟨u, rfl⟩
 have mk := TK m (ne _ h.map.known) fun hc => (h.dm i r hr m hc).1 rfl
 have ok : ∀ a, op = some a → (σ2.set r.b r'.cell) a.block = σ a.block ∧ a.block ∉ r'.cl := fun a ha => TK _ (ne _ (h.ord.block a ha)) fun hc => (h.dm i r hr _ hc).2.1 a ha rfl
 have jk : ∀ j s, j ≠ i → rs[j]? = some s → ∀ k ∈ s.cl, (σ2.set r.b r'.cell) k = σ k ∧ k ∉ r'.cl := fun j s hj hs k hk => TK k (h.known hs k hk) (h.dr j i s r hj hs hr k hk)
 have gO : ∀ j s, (rs.set i r')[j]? = some s → (j = i ∧ s = r') ∨ (j ≠ i ∧ rs[j]? = some s) := fun j s hs => by
   by_cases hj : j = i
   · subst hj
     rw [List.getElem?_set_self uf] at hs
     exact .inl ⟨rfl, by simpa using hs.symm⟩
   · rw [List.getElem?_set_ne (Ne.symm hj)] at hs
     exact .inr ⟨hj, hs⟩
 refine hΦ _ r' ⟨by simp [h.len], ?_, ?_, fun j s t hs ht => ?_, fun a ha => h.om a ha, fun j s hs k hk => ?_, fun j s hs a ha => ?_, fun j l s s' hjl hs TD k hk => ?_, h.tm, fun k u hk => ?_⟩
 · rw [Uc (g' := ⟨g.ls, g.vs ++ [v]⟩) (r' := r') hg hr rfl rfl]; exact h.map.loc mk.1
 · have : (rs.set i r').map (fun r => Value.pointer (aD r.b 0)) = rs.map fun r => Value.pointer (aD r.b 0) := by
     rw [List.map_set]
     obtain ⟨_, e⟩ := List.getElem?_eq_some_iff.1 hr
     have : Value.pointer (aD r'.b 0) = (rs.map fun r => Value.pointer (aD r.b 0))[i]'(by simpa using uf) := by simp [e, r']
     rw [this, List.set_getElem_self]
   rw [this]; exact A9.of_eq h.ord fun a ha => (ok a ha).1
 · rcases gO j s hs with ⟨rfl, rfl⟩ | ⟨hj, TD⟩
   · rw [List.getElem?_set_self hig] at ht
     cases ht
     refine ⟨Hp.AB _ _ _, h2, ?_⟩
     have := A9.AI (b := r.b) (o := r'.cell) Bb (fun a ha e => c2 a ha e.symm)
     unfold Dj
     rw [List.map_append]; exact this
   · rw [List.getElem?_set_ne (Ne.symm hj)] at ht
     obtain ⟨a1, a2, a3⟩ := h.box j s t TD ht
     refine ⟨?_, a2, A9.of_eq a3 fun a ha => (jk j s hj TD _ (I3.2 (.inr ⟨a, ha, rfl⟩))).1⟩
     rw [(jk j s hj TD _ (I3.2 (.inl rfl))).1]; exact a1
 · rcases gO j s hs with ⟨rfl, rfl⟩ | ⟨hj, TD⟩
   · refine ⟨fun e => mk.2 (e ▸ hk), fun a ha e => (ok a ha).2 (e ▸ hk), ?_⟩
     cases hq : τ k with
     | none => rfl
     | some u => exact absurd hk (T k u (h.ext _ _ hq) fun hc => by rw [(h.dm j r hr k hc).2.2] at hq; cases hq).2
   · exact h.dm j s TD k hk
 · rcases gO j s hs with ⟨rfl, rfl⟩ | ⟨hj, TD⟩
   · exact fun e => c2 a ha e.symm
   · exact h.vb j s TD a ha
 · rcases gO j s hs with ⟨rfl, rfl⟩ | ⟨hj, Ho⟩
   · rcases gO l s' TD with ⟨rfl, rfl⟩ | ⟨hl, hs2⟩
     · exact absurd rfl hjl
     · exact fun hc => (jk l s' hl hs2 k hc).2 hk
   · rcases gO l s' TD with ⟨rfl, rfl⟩ | ⟨hl, hs2⟩
     · exact (jk j s hj Ho k hk).2
     · exact h.dr j l s s' hjl Ho hs2 k hk
 · exact (T k u (h.ext _ _ hk) fun hc => by rw [(h.dm i r hr k hc).2.2] at hk; cases hk).1
end
end TwW
end
section
namespace TwW
open Go Tw Go.RowKit Go.Proofs.Tryz
theorem rF : ∀ w, (zeroValue 200).run prog w = .ok (.pointer none) w := fun w => by
 have h : prog.info? 200 = some t200 := by kernel_rfl
 simp [zeroValue, typeInfo, h]
 rfl
theorem rG : ∀ w, (zeroValue 201).run prog w = .ok .nilFunc w := fun w => by
 have h : prog.info? 201 = some t201 := by kernel_rfl
 simp [zeroValue, typeInfo, h]
 rfl
section
variable {τ σ σ' σ0 : Hp} {R : Rr} {m on oc : Nat} {op : Option Addr} {rs : List GR} {gs : List Rg}
theorem GS.mono (h : GS τ σ m op on oc rs gs) (hx : Ext σ σ') : GS τ σ' m op on oc rs gs :=
 ⟨h.len, h.map.mono hx, h.ord.mono hx, fun i r g hr hg => let ⟨h1, h2, h3⟩ := h.box i r g hr hg; ⟨hx _ _ h1, h2, h3.mono hx⟩, h.om, h.dm, h.vb, h.dr, h.tm, h.ext.trans hx⟩
theorem GS.add {ls : List Lb} {lp : Option Addr} {ln lc : Nat} (h : GS τ σ m op on oc rs gs) (Dy : ∀ a ∈ FA gs rs, a.1 ≠ FK ls) (hr : FV τ lp ln ls) (hZ : Ao ls) (hon : on ≤ 1000000000000) {Φ : Nat → Option Addr → Nat → Nat → Hp → Prop}
   (hΦ : ∀ b rH oc' σ', GS τ σ' m rH (on + 1) oc' (rs ++ [⟨b, lp, ln, lc, none, 0, 0⟩]) (gs ++ [⟨ls, []⟩]) → Φ b rH (on + 1) oc' σ') :
   Al σ fun OK => Spec prog 49 #[.slice lp ln lc] (Hp.set σ OK (.cells #[.slice lp ln lc, .slice none 0 0] 189 (0, 0))) (AA R (CT fun s56 AH => AJ prog (Instr.mapUpdate 197 (.map (some m)) (.string s56) (.pointer (aD OK 0))) AH (fun _ AZ => Al AZ fun b60 => AJ prog (Builtin.append_ #[198, 198] 198 #[.slice op on oc, (.slice (aD b60 0) 1 1)]) (Hp.set AZ b60 (.cells #[(.pointer (aD OK 0))] 200 (0, 0))) (CS fun p61 n61 c61 D4 => Φ OK p61 n61 c61 D4)))) := fun OK mi => by
 have x1 := Ext.set (o := .cells #[.slice lp ln lc, .slice none 0 0] 189 (0, 0)) mi
 have tb : τ OK = none := A5 h.ext mi
 have ne : ∀ k, σ k ≠ none → ∃ u, σ k = some u := fun k hk => by
   cases hh : σ k with
   | none => exact absurd hh hk
   | some u => exact ⟨u, rfl⟩
 have nem : OK ≠ m := fun e => h.map.known (by rw [← e]; exact mi)
 have neo : ∀ a, op = some a → OK ≠ a.block := fun a ha e => h.ord.block a ha (by rw [← e]; exact mi)
 have ncl : ∀ (i : Nat) (r : GR), rs[i]? = some r → OK ∉ r.cl := fun i r hr hc => by obtain ⟨u, hu⟩ := h.known hr _ hc; rw [mi] at hu; cases hu
 refine FN (hr.mono CH.mono (h.ext.trans x1)) hZ fun σ2 A6 => ⟨_, rfl, ?_⟩
 have h2 := h.mono (x1.trans A6)
 have c2 := A6 _ _ (Hp.AB σ OK (.cells #[.slice lp ln lc, .slice none 0 0] 189 (0, 0)))
 refine h2.map.put (x := OK) rfl fun o hM => fun b60 AFe => ?_
 rw [OX Dy] at hM
 have ALI : A9 1 (σ2.set m o) op on oc (rs.map fun r => .pointer (aD r.b 0)) := A9.of_eq h2.ord fun a ha => Hp.AI (h.om a ha).1
 refine Dz (ALI.mono (.set AFe)) (VV (f := fun v => v) (x := .pointer (aD OK 0)) (Hp.AB _ _ _)) (fun u hu => by simp at hu; subst hu; rfl) (by omega) fun rH oc' σ5 QH TT => ⟨_, _, _, rfl, ?_⟩
 have T : ∀ k u, (σ2.set m o) k = some u → (∀ a, op = some a → k ≠ a.block) → σ5 k = some u ∧ ∀ a, rH = some a → k ≠ a.block := fun k u hk A4 => by
   obtain ⟨a1, a2⟩ := AR.1 (TT k u (AR.2 ⟨A4, (Ext.set AFe) _ _ hk⟩))
   exact ⟨a2, a1⟩
 have T2 : ∀ k u, σ2 k = some u → k ≠ m → (∀ a, op = some a → k ≠ a.block) → σ5 k = some u ∧ ∀ a, rH = some a → k ≠ a.block := fun k u hk uY => T k u (by rw [Hp.AI uY]; exact hk)
 have Tr : ∀ (i : Nat) (r : GR), rs[i]? = some r → ∀ k ∈ r.cl, σ5 k = σ2 k ∧ ∀ a, rH = some a → k ≠ a.block := fun i r hr k hk => by
   obtain ⟨u, hu⟩ := h2.known hr k hk
   obtain ⟨d1, d2, _⟩ := h.dm i r hr k hk
   obtain ⟨a1, a2⟩ := T2 k u hu d1 d2
   exact ⟨by rw [a1, hu], a2⟩
 have hm2 : ∃ u, (σ2.set m o) m = some u := ⟨_, Hp.AB _ _ _⟩
 obtain ⟨um, hum⟩ := hm2
 obtain ⟨m1, m2⟩ := T m um hum fun a ha e => (h.om a ha).1 e.symm
 have gO : ∀ (i : Nat) (r : GR), (rs ++ [(⟨OK, lp, ln, lc, none, 0, 0⟩ : GR)])[i]? = some r → rs[i]? = some r ∨ (i = rs.length ∧ r = ⟨OK, lp, ln, lc, none, 0, 0⟩) := fun i r hr => by
   rw [List.getElem?_append] at hr
   split at hr
   · exact .inl hr
   · rename_i Au
     have rI := (List.getElem?_eq_some_iff.1 hr).1
     simp only [List.length_singleton] at rI
     have : i - rs.length = 0 := by omega
     rw [this] at hr
     exact .inr ⟨by omega, by simpa using hr.symm⟩
 have cn : ∀ k, k ∈ (⟨OK, lp, ln, lc, none, 0, 0⟩ : GR).cl → k = OK := fun k hk => by
   rcases I3.1 hk with e | ⟨a, ha, _⟩
   · exact e
   · cases ha
 obtain ⟨b1, b2⟩ := T2 OK _ c2 nem neo
 refine hΦ OK rH oc' σ5 ⟨by simp [h.len], ?_, ?_, fun i r g hi hg => ?_, fun a ha => ⟨fun e => m2 a ha e.symm, ?_⟩, fun i r hi k hk => ?_, fun i r hi a ha => ?_, fun i j r r' cA hi hj k hk => ?_, h.tm, fun k u hk => ?_⟩
 · rw [Ud h.len]
   exact hM.loc (by rw [m1, hum])
 · rw [List.map_append]; exact QH
 · rcases gO i r hi with Be | ⟨rfl, rfl⟩
   · have Au := (List.getElem?_eq_some_iff.1 Be).1
     rw [List.getElem?_append_left (by rw [← h.len]; exact Au)] at hg
     obtain ⟨a1, a2, a3⟩ := h2.box i r g Be hg
     refine ⟨?_, a2, A9.of_eq a3 fun a ha => (Tr i r Be _ (I3.2 (.inr ⟨a, ha, rfl⟩))).1⟩
     rw [(Tr i r Be _ (I3.2 (.inl rfl))).1]; exact a1
   · rw [h.len, List.getElem?_append_right (Nat.le_refl _), Nat.sub_self] at hg
     simp only [List.getElem?_cons_zero, Option.some.injEq] at hg
     subst hg
     exact ⟨b1, hr, Dj.nil⟩
 · cases hq : τ a.block with
   | none => rfl
   | some u =>
     obtain ⟨_, e2⟩ := T2 a.block u (h2.ext _ _ hq) (fun e => by rw [e, h.tm] at hq; cases hq) (fun a' ZI e => by rw [e, (h.om a' ZI).2] at hq; cases hq)
     exact absurd rfl (e2 a ha)
 · rcases gO i r hi with Be | ⟨rfl, rfl⟩
   · exact ⟨(h.dm i r Be k hk).1, (Tr i r Be k hk).2, (h.dm i r Be k hk).2.2⟩
   · rw [cn k hk]; exact ⟨nem, b2, tb⟩
 · rcases gO i r hi with Be | ⟨rfl, rfl⟩
   · exact h.vb i r Be a ha
   · cases ha
 · rcases gO i r hi with Be | ⟨rfl, rfl⟩
   · rcases gO j r' hj with On | ⟨rfl, rfl⟩
     · exact h.dr i j r r' cA Be On k hk
     · exact fun hc => ncl i r Be (by rw [← cn k hc]; exact hk)
   · rcases gO j r' hj with On | ⟨rfl, rfl⟩
     · exact fun hc => ncl j r' On (by rw [← cn k hk]; exact hc)
     · exact absurd rfl cA
 · exact (T2 k u (h2.ext _ _ hk) (fun e => by rw [e, h.tm] at hk; cases hk) (fun a ha e => by rw [e, (h.om a ha).2] at hk; cases hk)).1
end
end TwW
end
