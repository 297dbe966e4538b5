/-
  Part 4 of the proof that the law EvalScalarsUptoCardSaid of the given program answers true for every input of the given statement; the input reads behind the call as it did. (The texts: packed from 29 texts. Names are shortened by the packing program, for the bound on size.)
-/
import Derived.Test.YtlmhidjgplomgaaGreatDoorA3
import Derived.Shelf.Strings.Search3
import Derived.Shelf.Strings.Split
import Derived.Test.YtlmhidjgplomgaaGreatDoorProg
import Derived.Lib.IndexMore
import Derived.Shelf.SlSortCmp.NoneTotal
import Derived.Shelf.SlGeneric
import Derived.Ground.SlsfProg
set_option linter.all false
section
namespace TwW
open Go Tw Go.RowKit Go.Proofs.Tryz
section
variable [Es] {σ : Hp} {R : Rr}
def Vq : List Int → Int
 | [] => 0
 | v :: l => l.foldl (Nx 1) (Ub v)
theorem SU {p : Option Addr} {n c : Nat} {vs : List Int} (hr : E1 .u64 σ p n vs) (h0 : 0 < n) (hc : n ≤ c) (h : R (.returned (.int .u64 (Vq vs))) σ) : Spec prog 151 #[.slice p n c] σ R := by
 have hl : vs.length = n := hr.1
 obtain ⟨v, hv⟩ := hr.ex h0
 obtain ⟨b, o, rfl, EK⟩ := E1.at hr hv
 refine Fc.start ⟨b, o, rfl, by omega, v, by simpa using EK, Fi ⟨_, rfl, by omega, ?_⟩⟩
 have hs : E1 .u64 σ (IP (aD b o) 1 c 1) (n - 1) ((vs.drop 1).take (n - 1)) := Ag.sub hr (by decide) (by omega) hc
 have hd : (vs.drop 1).take (n - 1) = vs.tail := by rw [List.drop_one, List.take_of_length_le (by rw [List.length_tail]; omega)]
 rw [hd] at hs
 have dD : vs = v :: vs.tail := by
   cases vs with
   | nil => cases hv
   | cons a l => simp only [List.getElem?_cons_zero, Option.some.injEq] at hv; rw [hv]; rfl
 rw [dD] at h
 change R (.returned (.int .u64 (vs.tail.foldl (Nx 1) (Ub v)))) σ at h
 generalize IP (aD b o) 1 c 1 = q at *
 suffices H : ∀ g k : Nat, ∀ (q' : Option Addr) (a : Int), (0 < n - 1 → q' = q) → n - 1 - k = g → k ≤ n - 1 → vs.tail.foldl (Nx 1) (Ub v) = (vs.tail.drop k).foldl (Nx 1) a → Fc.A3 R a q (n - 1) (c - 1) ((n - 1 : Nat) : Int) k σ from H (n - 1) 0 q (Ub v) (fun _ => rfl) (by omega) (by omega) rfl
 intro g
 induction g with
 | zero =>
   intro k q' a _ hg hk he
   refine Fc.AZ ⟨fun Ax => by omega, fun _ => ?_⟩
   rw [List.drop_eq_nil_of_le (by rw [List.length_tail]; omega)] at he
   rw [he] at h; exact h
 | succ g ih =>
   intro k q' a hq hg hk he
   obtain ⟨x, hx⟩ := hs.ex (k := k) (by omega)
   obtain ⟨b', o', rfl, ZZ⟩ := E1.at hs hx
   rw [A6 hx] at he
   refine Fc.AZ ⟨fun _ => ⟨b', o', rfl, by omega, x, by simpa using ZZ, YR ⟨_, rfl, AN (by omega : k < n - 1) hs.big, ih (k + 1) _ _ (fun _ => rfl) (by omega) (by omega) he⟩⟩, fun hh => by omega⟩
theorem Md {p : Option Addr} {n c : Nat} (h : R (.returned (.int .u64 (Bf n))) σ) : Spec prog 155 #[.slice p n c] σ R :=
 Gf.start (I4 ⟨_, rfl, h⟩)
theorem NZ {p : Option Addr} {n c : Nat} {vs : List Int} (hr : E1 .u64 σ p n vs) (h0 : 0 < n) (hc : n ≤ c) (h : R (.returned (.int .u64 (Nx 4 (Vq vs) (Bf n)))) σ) : Spec prog 154 #[.slice p n c] σ R :=
 Ee.start (SU hr h0 hc ⟨_, rfl, Md ⟨_, rfl, YT ⟨_, rfl, h⟩⟩⟩)
def YU (op : Int) (out v : Int) : Int := if SS op v out = true ∨ Ub out = 9221120237041090560 then v else out
def MB (op : Int) : List Int → Int
 | [] => 0
 | v :: l => Ub (l.foldl (YU op) v)
theorem Uc {op : Int} {p : Option Addr} {n c : Nat} {vs : List Int} (hr : E1 .u64 σ p n vs) (h0 : 0 < n) (hc : n ≤ c) (h : R (.returned (.int .u64 (MB op vs))) σ) : Spec prog 202 #[.int .i64 op, .slice p n c] σ R := by
 have hl : vs.length = n := hr.1
 obtain ⟨v, hv⟩ := hr.ex h0
 obtain ⟨b, o, rfl, EK⟩ := E1.at hr hv
 refine FC.start ⟨b, o, rfl, by omega, v, by simpa using EK, by omega, ?_⟩
 have hs : E1 .u64 σ (IP (aD b o) 1 c 1) (n - 1) ((vs.drop 1).take (n - 1)) := Ag.sub hr (by decide) (by omega) hc
 have hd : (vs.drop 1).take (n - 1) = vs.tail := by rw [List.drop_one, List.take_of_length_le (by rw [List.length_tail]; omega)]
 rw [hd] at hs
 have dD : vs = v :: vs.tail := by
   cases vs with
   | nil => cases hv
   | cons a l => simp only [List.getElem?_cons_zero, Option.some.injEq] at hv; rw [hv]; rfl
 rw [dD] at h
 change R (.returned (.int .u64 (Ub (vs.tail.foldl (YU op) v)))) σ at h
 generalize IP (aD b o) 1 c 1 = q at *
 suffices H : ∀ g k : Nat, ∀ (a : Int), n - 1 - k = g → k ≤ n - 1 → vs.tail.foldl (YU op) v = (vs.tail.drop k).foldl (YU op) a → FC.A3 R op a q (n - 1) (c - 1) ((n - 1 : Nat) : Int) k σ from H (n - 1) 0 v (by omega) (by omega) rfl
 intro g
 induction g with
 | zero =>
   intro k a hg hk he
   refine FC.AZ ⟨fun Ax => by omega, fun _ => Fi ⟨_, rfl, ?_⟩⟩
   rw [List.drop_eq_nil_of_le (by rw [List.length_tail]; omega)] at he
   rw [he] at h; exact h
 | succ g ih =>
   intro k a hg hk he
   obtain ⟨x, hx⟩ := hs.ex (k := k) (by omega)
   obtain ⟨b', o', rfl, ZZ⟩ := E1.at hs hx
   rw [A6 hx, List.foldl_cons] at he
   have go : ∀ y, YU op a x = y → FC.kJ R op y (aD b' o') (n - 1) (c - 1) ((n - 1 : Nat) : Int) k σ := fun y hy => FC.qX ⟨AN (by omega : k < n - 1) hs.big, ih (k + 1) y (by omega) (by omega) (by rw [← hy]; exact he)⟩
   refine FC.AZ ⟨fun _ => ⟨b', o', rfl, by omega, x, by simpa using ZZ, I3 ⟨_, _, rfl, fun ht => go x (by unfold YU; rw [if_pos (.inl ht)]), fun hf => mg ⟨_, rfl, fun ht => go x ?_, fun hn => go a ?_⟩⟩⟩, fun hh => by omega⟩
   · unfold YU; rw [if_pos (.inr (of_decide_eq_true ht))]
   · unfold YU; rw [if_neg (by
                                 rintro (h1 | h1)
                                 · rw [h1] at hf; cases hf
                                 · exact absurd h1 (of_decide_eq_false hn))]
theorem SX {p : Option Addr} {n c : Nat} {vs : List Int} (hr : E1 .u64 σ p n vs) (h0 : 0 < n) (hc : n ≤ c) (h : R (.returned (.int .u64 (MB 7 vs))) σ) : Spec prog 152 #[.slice p n c] σ R := Gj.start (Uc hr h0 hc ⟨_, rfl, h⟩)
theorem MC {p : Option Addr} {n c : Nat} {vs : List Int} (hr : E1 .u64 σ p n vs) (h0 : 0 < n) (hc : n ≤ c) (h : R (.returned (.int .u64 (MB 9 vs))) σ) : Spec prog 153 #[.slice p n c] σ R := Dj.start (Uc hr h0 hc ⟨_, rfl, h⟩)
def Na (out : Int) (p : Int × Int) : Int := if SS 7 p.2 p.1 = true then Nx 1 out p.1 else out
def Nb (vs : List Int) : Int := (vs.zip vs.tail).foldl Na (Nx 2 (vs.getLast?.getD 0) (vs.head?.getD 0))
theorem SY {p : Option Addr} {n c : Nat} {vs : List Int} (hr : E1 .u64 σ p n vs) (h0 : 0 < n) (h : R (.returned (.int .u64 (Nb vs))) σ) : Spec prog 192 #[.slice p n c] σ R := by
 have hl : vs.length = n := hr.1
 have Iz := hr.big
 obtain ⟨v, hv⟩ := hr.ex h0
 obtain ⟨z, hz⟩ := hr.ex (k := n - 1) (by omega)
 obtain ⟨b, o, rfl, EK⟩ := E1.at hr hv
 obtain ⟨_, _, he, u9⟩ := E1.at hr hz
 cases he
 have e1 : Int.toNat ((n : Int) - 1) = n - 1 := by omega
 refine D5.start ⟨by unfold AM; omega, b, o, rfl, by omega, z, by rw [e1]; exact u9, by omega, v, by simpa using EK, YS ⟨_, rfl, ?_⟩⟩
 have AFL : Nb vs = (vs.zip vs.tail).foldl Na (Nx 2 z v) := by
   unfold Nb
   rw [List.getLast?_eq_getElem?, hl, hz, List.head?_eq_getElem?, hv]; rfl
 rw [AFL] at h
 suffices H : ∀ g k : Nat, ∀ a : Int, n - 1 - k = g → k ≤ n - 1 → (vs.zip vs.tail).foldl Na (Nx 2 z v) = ((vs.zip vs.tail).drop k).foldl Na a → D5.CN R (aD b o) n c a ((k + 1 : Nat) : Int) σ from H (n - 1) 0 _ (by omega) (by omega) rfl
 have hlen : (vs.zip vs.tail).length = n - 1 := by rw [List.length_zip, List.length_tail]; omega
 intro g
 induction g with
 | zero =>
   intro k a hg hk he
   refine D5.BH ⟨fun Ax => by omega, fun _ => ?_⟩
   rw [List.drop_eq_nil_of_le (by omega)] at he
   rw [he] at h; exact h
 | succ g ih =>
   intro k a hg hk he
   obtain ⟨x, hx⟩ := hr.ex (k := k) (by omega)
   obtain ⟨y, hy⟩ := hr.ex (k := k + 1) (by omega)
   obtain ⟨_, _, h1, ZZ⟩ := E1.at hr hx
   obtain ⟨_, _, h2, bJ⟩ := E1.at hr hy
   cases h1; cases h2
   have AKw : (vs.zip vs.tail)[k]? = some (x, y) := by
     rw [List.getElem?_zip_eq_some]
     exact ⟨hx, by rw [List.getElem?_tail]; exact hy⟩
   rw [A6 AKw, List.foldl_cons] at he
   have e2 : Int.toNat (((k + 1 : Nat) : Int) - 1) = k := by omega
   have e3 : Int.toNat ((k + 1 : Nat) : Int) = k + 1 := by omega
   have go : ∀ w, Na a (x, y) = w → D5.XC R (aD b o) n c w ((k + 1 : Nat) : Int) σ := fun w hw => D5.QG ⟨AN (by omega : k + 1 < n) hr.big, ih (k + 1) w (by omega) (by omega) (by rw [← hw]; exact he)⟩
   refine D5.BH ⟨fun _ => ⟨b, o, rfl, by omega, y, by rw [e3]; exact bJ, by unfold AM; omega, by omega, x, by rw [e2]; exact ZZ, I3 ⟨_, _, rfl, fun ht => ⟨by unfold AM; omega, by omega, x, by rw [e2]; exact ZZ, YR ⟨_, rfl, go _ ?_⟩⟩, fun hf => go _ ?_⟩⟩, fun hh => by omega⟩
   · unfold Na; rw [if_pos ht]
   · unfold Na; rw [if_neg (by rw [hf]; decide)]
end
end TwW
end
section
namespace TwW
open Go Tw Go.RowKit Go.Proofs.Tryz
theorem YV {x : Nat} (h : Da x = true) : ∃ s t, Ieee.double.read x = .nan s t := by
 rw [ID] at h
 cases hd : Ieee.double.read x with
 | nan s t => exact ⟨s, t, rfl⟩
 | number => rw [hd] at h; cases h
 | infinity => rw [hd] at h; cases h
theorem vA {op : Int} {a b : Nat} (h : Da a = true) : yy op a b = none := by
 obtain ⟨s, t, hr⟩ := YV h
 unfold yy Ieee.Format.add Ieee.Format.sub Ieee.Format.mul Ieee.Format.div
 rw [hr]
 simp [Ieee.Datum.sum, Ieee.Datum.product, Ieee.Datum.quotient]
theorem vB {op : Int} {a b : Nat} (h : Da b = true) : yy op a b = none := by
 obtain ⟨s, t, hr⟩ := YV h
 unfold yy Ieee.Format.add Ieee.Format.sub Ieee.Format.mul Ieee.Format.div
 rw [hr]
 cases Ieee.double.read a <;> simp [Ieee.Datum.sum, Ieee.Datum.product, Ieee.Datum.quotient, Ieee.Datum.opposite]
theorem SZ (op : Int) (a b : Nat) : Vo op (toF a) (toF b) = Vo op a b := by
 unfold Vo
 by_cases ha : Da a = true
 · rw [vA ha, show toF a = 9221120237041090560 by unfold toF; rw [ha]; rfl, vA YQ]
 · rw [show toF a = a by unfold toF; rw [if_neg ha]]
   by_cases hb : Da b = true
   · rw [vB hb, show toF b = 9221120237041090560 by unfold toF; rw [hb]; rfl, vB YQ]
   · rw [show toF b = b by unfold toF; rw [if_neg hb]]
abbrev cN : Nat := 4604544271217802189
abbrev dN : Nat := 13827916308072577997
abbrev AFM : Nat := 4607182418800017408
abbrev AFN : Nat := 13830554455654793216
def bR : List (Nat × Nat) := [(AFM, 0), (cN, dN), (0, AFN), (dN, dN), (AFN, 0), (dN, cN), (0, AFM), (cN, cN)]
def Sa (j n : Nat) : List Int → Nat → Nat × Nat → Nat × Nat
 | [], _, a => a
 | x :: l, k, a =>
   let w := bR.getD ((j * k % n) * (8 / n)) (0, 0)
   Sa j n l (k + 1) (Vo 1 a.1 (Vo 3 x.toNat w.1), Vo 1 a.2 (Vo 3 x.toNat w.2))
def rR (vs : List Int) : Nat :=
 let l := Sa (1 % vs.length) vs.length vs 0 (0, 0)
 Vo 1 (Vo 3 l.1 l.1) (Vo 3 l.2 l.2)
section
variable [Es] {σ : Hp} {R : Rr}
theorem Vr {x y : Nat} (h : x ^^^ 9223372036854775808 = y) : YF prog (Op.unary .neg (.float .f64 x)) σ (.float .f64 y) := fun w _ => by subst h; rfl
theorem Te (h : ∀ b T σ', σ b = none → σ' = σ.set b (.cells (bR.map fun p => .complex .f64 p.1 p.2).toArray T (0, 0)) → R (.returned (.slice (aD b 0) 8 8)) σ') : Spec prog 263 #[] σ R := by
 refine Lv.start (GG ⟨_, rfl, dN, Vr (by decide), _, _, fun w _ => rfl, dN, Vr (by decide), dN, Vr (by decide), _, _, fun w _ => rfl, dN, Vr (by decide), _, _, fun w _ => rfl, _, _, fun w _ => rfl, fun b hb => ?_⟩)
 exact h b _ _ hb rfl
theorem gK {j : Nat} (hj : j ≤ 1) {p : Option Addr} {n c : Nat} {vs : List Int} (hr : E1 .u64 σ p n vs) (hn : n = 1 ∨ n = 2 ∨ n = 4 ∨ n = 8)
   (h : ∀ re im σ', Ext σ σ' → toF re = (Sa j n vs 0 (0, 0)).1 → toF im = (Sa j n vs 0 (0, 0)).2 → R (.returned (.complex .f64 re im)) σ') : Spec prog 241 #[.slice p n c, .int .i64 j] σ R := by
 have hl : vs.length = n := hr.1
 have z0 : toF 0 = 0 := by
   unfold toF
   rw [if_neg]
   rw [IC]; decide
 refine H5.start (Te fun b T σ1 hb JW => ⟨_, _, _, rfl, ?_⟩)
 have CK : Ext σ σ1 := by rw [JW]; exact .set hb
 have hlb : ∀ k, k < 8 → ∀ re im, bR[k]? = some (re, im) → σ1.ld ⟨b, 0 + k * 1, none⟩ = some (.complex .f64 re im) := fun k hk re im hw => by
   rw [JW]
   unfold Hp.ld
   simp only [Hp.AB]
   have : (bR.map fun p => Value.complex .f64 p.1 p.2)[k]? = some (.complex .f64 re im) := by rw [List.getElem?_map, hw]; rfl
   simpa using this
 clear JW
 suffices H : ∀ g k : Nat, ∀ re im, ∀ a : Nat × Nat, n - k = g → k ≤ n → toF re = a.1 → toF im = a.2 → Sa j n vs 0 (0, 0) = Sa j n (vs.drop k) k a → H5.rE R p n c j (aD b 0) 8 8 (.complex .f64 re im) k σ1 from H n 0 0 0 (0, 0) rfl (Nat.zero_le _) z0 z0 rfl
 intro g
 induction g with
 | zero =>
   intro k re im a hg hk h1 h2 he
   have cZ : k = n := by omega
   subst cZ
   rw [List.drop_eq_nil_of_le (by omega)] at he
   refine H5.di ⟨fun _ => ?_, fun hh => by omega⟩
   rw [he] at h
   exact h re im σ1 CK h1 h2
 | succ g ih =>
   intro k re im a hg hk h1 h2 he
   have cZ : k < n := by omega
   obtain ⟨x, hx⟩ := hr.ex cZ
   obtain ⟨b', o', rfl, EK⟩ := E1.at hr hx
   rw [A6 hx] at he
   have ht : (j : Int) * k = ((j * k : Nat) : Int) := by push_cast; rfl
   have pN : j * k ≤ 8 := by
     rcases Nat.le_one_iff_eq_zero_or_eq_one.1 hj with h | h <;> subst h <;> omega
   refine H5.di ⟨fun hh => by omega, fun _ => ⟨b', o', rfl, by omega, x, by simpa using CK.ld EK, by unfold AM; omega, by omega, fun JM h27 => ⟨by omega, fun UM h30 => ?_⟩⟩⟩
   have e27 : JM = ((j * k % n : Nat) : Int) := by rw [h27, ht, Int.tmod_eq_emod_of_nonneg (by omega)]; omega
   have e30 : UM = ((8 / n : Nat) : Int) := by rw [h30]; rcases hn with h | h | h | h <;> subst h <;> rfl
   have hm : (j * k % n) * (8 / n) < 8 := by
     have := Nat.mod_lt (j * k) (show 0 < n by omega)
     rcases hn with h | h | h | h <;> subst h <;> simp at * <;> omega
   have ep : JM * UM = (((j * k % n) * (8 / n) : Nat) : Int) := by rw [e27, e30]; push_cast; rfl
   dsimp only
   rw [ep]
   generalize hq : (j * k % n) * (8 / n) = q at *
   obtain ⟨⟨wr, wi⟩, hw⟩ : ∃ w, bR[q]? = some w := ⟨_, List.getElem?_eq_getElem (show q < bR.length from hm)⟩
   have hgd : bR.getD q (0, 0) = (wr, wi) := by rw [List.getD_eq_getElem?_getD, hw]; rfl
   rw [Sa, hq, hgd] at he
   refine ⟨by unfold AM; omega, b, 0, rfl, by omega, wr, wi, by simpa using hlb q hm wr wi hw, GG ⟨_, rfl, fun _ _ _ h => h, re, fun w _ => rfl, wr, fun w _ => rfl, NY fun y hy => ⟨_, rfl, QN fun z hz => ⟨_, rfl, im, fun w _ => rfl, wi, fun w _ => rfl, NY fun y' hy' => ⟨_, rfl, QN fun z' hz' => ⟨_, rfl, z, z', fun w _ => rfl, AN cZ hr.big, ?_⟩⟩⟩⟩⟩⟩
   refine ih (k + 1) z z' _ (by omega) (by omega) ?_ ?_ he
   · rw [hz, ← SZ, h1, hy]
   · rw [hz', ← SZ, h2, hy']
theorem bS {p : Option Addr} {n c : Nat} {vs : List Int} (hr : E1 .u64 σ p n vs) (hn : n = 1 ∨ n = 2 ∨ n = 4 ∨ n = 8)
   (h : ∀ σ', Ext σ σ' → R (.returned (.tuple #[.int .u64 (rR vs : Nat), .int .i64 0])) σ') : Spec prog 225 #[.slice p n c] σ R := by
 have hl : vs.length = n := hr.1
 have Hc : ∀ {t : Bool} {Q : Rr}, Q (.returned (.bool true)) σ → Spec prog 240 #[.int .i64 n] σ Q := fun hq => UQ.start ⟨fun _ => hq, fun h1 => ⟨fun _ => hq, fun h2 => ⟨fun _ => hq, fun h4 => by rw [show decide ((n : Int) = 8) = true from decide_eq_true (by omega)]; exact hq⟩⟩⟩
 refine R6.start (Hc (t := true) ?_)
 refine ⟨true, rfl, fun hf => (by cases hf), fun _ => ⟨by omega, fun x12 WN => ?_⟩⟩
 have e12 : x12 = ((1 % n : Nat) : Int) := by rw [WN, Int.tmod_eq_emod_of_nonneg (by omega)]; exact (Int.natCast_emod 1 n).symm
 rw [e12]
 refine gK (Nat.mod_le 1 n) hr hn fun re im σ1 hx h1 h2 => ⟨_, _, rfl, re, fun w _ => rfl, re, fun w _ => rfl, NY fun y hy => ⟨_, rfl, im, fun w _ => rfl, im, fun w _ => rfl, NY fun z hz => ⟨_, rfl, QN fun u hu => ⟨_, rfl, GH ⟨_, rfl, ?_⟩⟩⟩⟩⟩
 have e : toF u = rR vs := by
   rw [hu, ← SZ, hy, hz]
   unfold rR
   rw [hl]
   dsimp only
   rw [← h1, ← h2, SZ, SZ]
 rw [e]
 exact h σ1 hx
def Ud (n : Nat) : Nat := if 8 ≤ n then 8 else if 4 ≤ n then 4 else if 2 ≤ n then 2 else 1
def QO (vs : List Int) : Int := (rR (vs.drop (vs.length - Ud vs.length)) : Nat)
theorem Tf {p : Option Addr} {n c : Nat} {vs : List Int} (hr : E1 .u64 σ p n vs) (h0 : 0 < n) (hc : n ≤ c)
   (h : ∀ σ', Ext σ σ' → R (.returned (.int .u64 (QO vs))) σ') : Spec prog 187 #[.slice p n c] σ R := by
 have hl : vs.length = n := hr.1
 have Iz := hr.big
 have last : ∀ m : Nat, Ud n = m → m ≤ n → (m = 1 ∨ m = 2 ∨ m = 4 ∨ m = 8) → AM ((n : Int) - m) ∧ ((0 : Int) ≤ ((n : Int) - m) ∧ ((n : Int) - m) ≤ (n : Int)) ∧ Spec prog 225 #[(.slice (IP p (Int.toNat ((n : Int) - m)) c 1) (n - Int.toNat ((n : Int) - m)) (c - Int.toNat ((n : Int) - m)))] σ (AA R (fun z y => ∃ Jp OL, z = (.tuple #[.int .u64 Jp, .int .i64 OL]) ∧ R (.returned (.int .u64 Jp)) y)) := fun m hm hmn hk => by
   have e : Int.toNat ((n : Int) - m) = n - m := by omega
   rw [e]
   refine ⟨by unfold AM; omega, by omega, ?_⟩
   have hs := Ag.sub (i := n - m) (m := m) hr (by decide) (by omega) hc
   rw [List.take_of_length_le (by rw [List.length_drop]; omega)] at hs
   rw [show n - (n - m) = m by omega]
   refine bS hs hk fun σ' hx => ⟨_, _, rfl, ?_⟩
   have := h σ' hx
   unfold QO at this
   rw [hl, hm] at this
   exact this
 have two : ∀ m x : Int, x = IntKind.i64.wrap (Int.tdiv m 2) → (m = 8 ∨ m = 4 ∨ m = 2) → x = m / 2 := fun m x hx hm => by
   rw [hx]; rcases hm with h | h | h <;> subst h <;> rfl
 refine BP.start (BP.A5 ⟨fun h8 => ⟨by decide, fun x1 e1 => ?_⟩, fun h8 => last 8 (by unfold Ud; rw [if_pos (by omega)]) (by omega) (by omega)⟩)
 have e1 := two _ _ e1 (.inl rfl)
 subst e1
 refine BP.A5 ⟨fun h4 => ⟨by decide, fun x2 e2 => ?_⟩, fun h4 => last 4 (by unfold Ud; rw [if_neg (by omega), if_pos (by omega)]) (by omega) (by omega)⟩
 have e2 := two _ _ e2 (.inr (.inl (by decide)))
 subst e2
 refine BP.A5 ⟨fun h2 => ⟨by decide, fun x3 e3 => ?_⟩, fun h2 => last 2 (by unfold Ud; rw [if_neg (by omega), if_neg (by omega), if_pos (by omega)]) (by omega) (by omega)⟩
 have e3 := two _ _ e3 (.inr (.inr (by decide)))
 subst e3
 exact BP.A5 ⟨fun h1 => by omega, fun h1 => last 1 (by unfold Ud; rw [if_neg (by omega), if_neg (by omega), if_neg (by omega)]) (by omega) (by omega)⟩
end
end TwW
end
section
namespace TwW
open Go Tw Go.RowKit Go.Proofs.Tryz
def GI (ps : List Pt) (x : Int) : Nat := ps.countP fun q => decide (q.1 ≤ x)
theorem eE {ps : List Pt} {x : Int} {i : Nat} (hi : i ≤ ps.length) (h1 : ∀ k q, k < i → ps[k]? = some q → q.1 ≤ x) (h2 : ∀ k q, i ≤ k → ps[k]? = some q → x < q.1) : GI ps x = i := by
 unfold GI
 rw [← List.take_append_drop i ps, List.countP_append]
 have e1 : (ps.take i).countP (fun q => decide (q.1 ≤ x)) = (ps.take i).length := List.countP_eq_length.2 fun q hq => by
   obtain ⟨k, hk⟩ := List.mem_iff_getElem?.1 hq
   rw [List.getElem?_take] at hk
   split at hk
   · rename_i hki; exact decide_eq_true (h1 k q hki hk)
   · cases hk
 have e2 : (ps.drop i).countP (fun q => decide (q.1 ≤ x)) = 0 := List.countP_eq_zero.2 fun q hq => by
   obtain ⟨k, hk⟩ := List.mem_iff_getElem?.1 hq
   rw [List.getElem?_drop] at hk
   have := h2 _ q (Nat.le_add_right i k) hk
   simp; omega
 rw [e1, e2, List.length_take]; omega
def YW (ps : List Pt) : Prop := ps.Pairwise fun a b => a.1 < b.1
theorem gL {ps : List Pt} (h : NU ps = true) : YW ps := by
 have hh := ((NV ps).1 h).2
 unfold YW
 rw [List.pairwise_iff_getElem]
 intro i j hi hj ca
 induction j with
 | zero => omega
 | succ j ih =>
   have hs := hh j ps[j] ps[j + 1] (List.getElem?_eq_getElem _) (List.getElem?_eq_getElem _)
   by_cases h : i = j
   · subst h; exact hs
   · exact Int.lt_trans (ih (by omega) (by omega)) hs
theorem eF {ps : List Pt} (h : YW ps) {i j : Nat} {a b : Pt} (ca : i < j) (ha : ps[i]? = some a) (hb : ps[j]? = some b) : a.1 < b.1 := by
 obtain ⟨h1, rfl⟩ := List.getElem?_eq_some_iff.1 ha
 obtain ⟨h2, rfl⟩ := List.getElem?_eq_some_iff.1 hb
 exact List.pairwise_iff_getElem.1 h i j h1 h2 ca
theorem AFQ {x : Int} (h0 : 0 ≤ x) (h1 : x < 18446744073709551616) : IntKind.u64.wrap x = x := by simp [IntKind.wrap, IntKind.bits, IntKind.signed]; omega
theorem AFR {x : Int} (h0 : 0 ≤ x) (h1 : x < 9223372036854775808) : IntKind.i64.wrap x = x := by simp [IntKind.wrap, IntKind.bits, IntKind.signed]; omega
section
variable [Es] {σ : Hp} {R : Rr}
theorem eG {f : Nat} (hf : Enters prog f) (rU : ∀ a b x σ' R', R' (.returned (.int .i64 (if a ≤ x then -1 else 1))) σ' → Spec prog f #[.agg #[.int .i64 a, .int .u64 b], .int .i64 x] σ' R') {p : Option Addr} {n c : Nat} {ps : List Pt} {x : Int} (hr : Ag 2 I1 σ p n ps) (hs : YW ps)
   (h : ∀ t, R (.returned (.tuple #[.int .i64 (GI ps x), .bool t])) σ) : Spec prog 175 #[.slice p n c, .int .i64 x, .func (.func f) #[] #[]] σ R := by
 have hl : ps.length = n := hr.1
 have Iz := hr.big
 refine Aw.start ?_
 suffices H : ∀ g i j : Nat, j - i = g → i ≤ j → j ≤ n → (∀ k q, k < i → ps[k]? = some q → q.1 ≤ x) → (∀ k q, j ≤ k → ps[k]? = some q → x < q.1) → Aw.CN R p n c x (.func (.func f) #[] #[]) n i j σ from
   H n 0 n rfl (Nat.zero_le _) (Nat.le_refl _) (fun k q hk => by omega) (fun k q hk hq => by have := (List.getElem?_eq_some_iff.1 hq).1; omega)
 intro g
 induction g using Nat.strongRecOn with
 | _ g ih =>
   intro i j hg ca hj h1 h2
   refine Aw.BH ⟨fun Ax => ⟨by unfold AM; omega, fun ae e21 => ⟨by decide, fun JP e22 D4 e23 => ?_⟩⟩, fun fz => ⟨fun WE => ?_, fun WE => ?_⟩⟩
   · rw [AFQ (by omega) (by omega)] at e21
     have AKz : JP = ((i + j) / 2 : Nat) := by rw [e22, e21]; show ((i : Int) + j) / 2 ^ 1 = _; omega
     rw [AKz, AFR (by omega) (by omega)] at e23
     generalize hm : (i + j) / 2 = m at *
     have him : i ≤ m ∧ m < j := by omega
     obtain ⟨q, hq⟩ := hr.ex (k := m) (by omega)
     obtain ⟨b, o, rfl, EK⟩ := I1.at hr hq
     rw [e23]
     refine ⟨b, o, rfl, by omega, q.1, q.2, by simpa using EK, f, #[], #[], rfl, hf, rU _ _ _ _ _ ⟨_, rfl, fun yz => ⟨by unfold AM; omega, ?_⟩, fun QZ => ?_⟩⟩
     · have hq1 : q.1 ≤ x := by
         by_cases hh : q.1 ≤ x
         · exact hh
         · rw [if_neg hh] at yz; omega
       refine ih (j - (m + 1)) (by omega) (m + 1) j rfl (by omega) hj (fun k r hk pF => ?_) h2
       by_cases u7 : k = m
       · rw [u7, hq] at pF; cases pF; exact hq1
       · have := eF hs (by omega : k < m) pF hq; omega
     · have hq1 : x < q.1 := by
         by_cases hh : q.1 ≤ x
         · rw [if_pos hh] at QZ; omega
         · omega
       refine ih (m - i) (by omega) i m rfl (by omega) (by omega) h1 (fun k r hk pF => ?_)
       by_cases u7 : k = m
       · rw [u7, hq] at pF; cases pF; exact hq1
       · have := eF hs (by omega : m < k) hq pF; omega
   · have e : i = j := by omega
     subst e
     have hc := eE (by omega) h1 h2
     obtain ⟨q, hq⟩ := hr.ex (k := i) (by omega)
     obtain ⟨b, o, rfl, EK⟩ := I1.at hr hq
     refine ⟨b, o, rfl, by omega, q.1, q.2, by simpa using EK, f, #[], #[], rfl, hf, rU _ _ _ _ _ ⟨_, rfl, ?_⟩⟩
     have := h (decide ((if q.1 ≤ x then (-1 : Int) else 1) = 0))
     rw [hc] at this; exact this
   · have e : i = j := by omega
     subst e
     have hc := eE (by omega) h1 h2
     have := h false
     rw [hc] at this; exact this
omit [Es] in
theorem IE {x : Int} : ∀ {ps : List Pt}, YW ps → GI ps x ≤ ps.length ∧ (∀ k q, k < GI ps x → ps[k]? = some q → q.1 ≤ x) ∧ (∀ k q, GI ps x ≤ k → ps[k]? = some q → x < q.1)
 | [], _ => ⟨Nat.le_refl _, fun k q hk => by simp [GI] at hk, fun k q _ hq => by simp at hq⟩
 | a :: l, h => by
   have hl := List.pairwise_cons.1 h
   obtain ⟨h1, h2, h3⟩ := IE (x := x) (ps := l) hl.2
   by_cases ha : a.1 ≤ x
   · have e : GI (a :: l) x = GI l x + 1 := by unfold GI; rw [List.countP_cons_of_pos (by simpa using ha)]
     rw [e]
     refine ⟨by simp; exact h1, fun k q hk hq => ?_, fun k q hk hq => ?_⟩
     · cases k with
       | zero => simp at hq; subst hq; exact ha
       | succ k => exact h2 k q (by omega) (by simpa using hq)
     · cases k with
       | zero => omega
       | succ k => exact h3 k q (by omega) (by simpa using hq)
   · have e : GI (a :: l) x = 0 := by
       unfold GI
       rw [List.countP_eq_zero]
       intro q hq
       rcases List.mem_cons.1 hq with rfl | hq
       · simpa using ha
       · have := hl.1 q hq
         simp; omega
     rw [e]
     refine ⟨Nat.zero_le _, fun k q hk => by omega, fun k q _ hq => ?_⟩
     cases k with
     | zero => simp at hq; subst hq; omega
     | succ k =>
       have := hl.1 q (List.mem_of_getElem? (by simpa using hq))
       omega
omit [Es] in
theorem rV {ps : List Pt} (hs : YW ps) (Dt Gr : Int) {i m : Nat} (hi : i = min (GI ps Dt) (GI ps Gr)) (hm : m = GI ps Gr - i) : (ps.drop i).take m = Fg ps Dt Gr := by
 obtain ⟨a1, a2, a3⟩ := IE (x := Dt) hs
 obtain ⟨m1, m2, m3⟩ := IE (x := Gr) hs
 have e : ps = ps.take i ++ ((ps.drop i).take m ++ (ps.drop i).drop m) := by rw [List.take_append_drop, List.take_append_drop]
 have hf : Fg ps Dt Gr = Fg (ps.take i) Dt Gr ++ (Fg ((ps.drop i).take m) Dt Gr ++ Fg ((ps.drop i).drop m) Dt Gr) := by
   conv => lhs; rw [e]
   unfold Fg
   rw [List.filter_append, List.filter_append]
 rw [hf]
 have f1 : Fg (ps.take i) Dt Gr = [] := List.filter_eq_nil_iff.2 fun q hq => by
   obtain ⟨k, hk⟩ := List.mem_iff_getElem?.1 hq
   rw [List.getElem?_take] at hk
   split at hk
   · have := a2 k q (by omega) hk; simp; omega
   · cases hk
 have f2 : Fg ((ps.drop i).take m) Dt Gr = (ps.drop i).take m := List.filter_eq_self.2 fun q hq => by
   obtain ⟨k, hk⟩ := List.mem_iff_getElem?.1 hq
   rw [List.getElem?_take] at hk
   split at hk
   · rename_i u7
     rw [List.getElem?_drop] at hk
     have g1 := m2 _ q (by omega) hk
     have g2 := a3 _ q (by omega) hk
     simp; omega
   · cases hk
 have f3 : Fg ((ps.drop i).drop m) Dt Gr = [] := List.filter_eq_nil_iff.2 fun q hq => by
   obtain ⟨k, hk⟩ := List.mem_iff_getElem?.1 hq
   rw [List.getElem?_drop, List.getElem?_drop] at hk
   have := m3 _ q (by omega) hk
   simp; omega
 rw [f1, f2, f3]; simp
theorem PQ {p : Option Addr} {n c : Nat} {ps : List Pt} {Dt Gr : Int} (hr : Ag 2 I1 σ p n ps) (hc : n ≤ c) (hs : YW ps)
   (h : ∀ q m d, Ag 2 I1 σ q m (Fg ps Dt Gr) → m ≤ d → R (.returned (.slice q m d)) σ) : Spec prog 141 #[.slice p n c, .int .i64 Dt, .int .i64 Gr] σ R := by
 have hl : ps.length = n := hr.1
 have c1 : ∀ a b x σ' R', R' (.returned (.int .i64 (if a ≤ x then -1 else 1))) σ' → Spec prog 176 #[.agg #[.int .i64 a, .int .u64 b], .int .i64 x] σ' R' := fun a b x σ' R' hh => Ly.start fun _ => ⟨fun hle => by rw [if_pos hle] at hh; exact hh, fun hle => by rw [if_neg hle] at hh; exact hh⟩
 have c2 : ∀ a b x σ' R', R' (.returned (.int .i64 (if a ≤ x then -1 else 1))) σ' → Spec prog 177 #[.agg #[.int .i64 a, .int .u64 b], .int .i64 x] σ' R' := fun a b x σ' R' hh => Lu.start fun _ => ⟨fun hle => by rw [if_pos hle] at hh; exact hh, fun hle => by rw [if_neg hle] at hh; exact hh⟩
 have ha := (IE (x := Dt) hs).1
 have hm := (IE (x := Gr) hs).1
 refine O9.start (eG (fun args w => call176 args w) c1 hr hs fun t => ⟨_, _, rfl, eG (fun args w => call177 args w) c2 hr hs fun t' => ⟨_, _, rfl, ?_⟩⟩)
 have e : (if ((GI ps Gr : Nat) : Int) < (GI ps Dt : Nat) then ((GI ps Gr : Nat) : Int) else (GI ps Dt : Nat)) = ((min (GI ps Dt) (GI ps Gr) : Nat) : Int) := by split <;> omega
 rw [e]
 generalize hi : min (GI ps Dt) (GI ps Gr) = i
 have Vs := Ag.sub (i := i) (m := GI ps Gr - i) hr (by decide) (by omega) hc
 rw [rV hs Dt Gr hi.symm rfl] at Vs
 refine ⟨by omega, ?_⟩
 have := h _ _ (c - i) Vs (by omega)
 simpa using this
end
end TwW
end
section
namespace TwW
open Go Tw Go.RowKit Go.Proofs.Tryz
theorem IF {α : Type} {P : α → Bool} : ∀ {l : List α} {k : Nat}, k ≤ l.length → (∀ j u, j < k → l[j]? = some u → P u = true) → (∀ u, l[k]? = some u → P u = false) → (l.takeWhile P).length = k
 | [], k, hk, _, _ => by simp at hk; subst hk; rfl
 | a :: l, 0, _, _, h2 => by simp [List.takeWhile, h2 a rfl]
 | a :: l, k + 1, hk, h1, h2 => by
   have ha : P a = true := h1 0 a (by omega) rfl
   simp only [List.takeWhile, ha, List.length_cons]
   rw [IF (k := k) (by simp at hk; omega) (fun j u hj hu => h1 (j + 1) u (by omega) (by simpa using hu)) (fun u hu => h2 u (by simpa using hu))]
def AL (s : ByteArray) : Nat := (s.data.toList.takeWhile Bp).length
theorem LU (s : ByteArray) : AL s ≤ s.size := by
 unfold AL
 exact Nat.le_trans (List.Sublist.length_le (List.takeWhile_sublist _)) (Nat.le_of_eq (Array.length_toList (xs := s.data)))
section
variable [Es] {σ : Hp} {R : Rr}
omit [Es] in
theorem Ue {s : ByteArray} {h : Nat} (hh : h ≤ s.size) : YF prog (Instr.sliceAt 9 (.string s) none (some (.int .i64 (h : Int))) none) σ (.string (s.extract 0 h)) := fun w _ => by
 rw [run_sliceAt_string (h := underlying9)]
 have h1 : (h : Int) ≤ s.size := by omega
 simp [Instr.slice, run_underlying underlying9, Instr.sliceBounds, run_sliceBound, h1, Result.andThen]
omit [Es] in
theorem Nc {s : ByteArray} {l : Nat} (hl : l ≤ s.size) : YF prog (Instr.sliceAt 9 (.string s) (some (.int .i64 (l : Int))) none none) σ (.string (s.extract l s.size)) := fun w _ => by
 rw [run_sliceAt_string (h := underlying9)]
 have h1 : (l : Int) ≤ s.size := by omega
 simp [Instr.slice, run_underlying underlying9, Instr.sliceBounds, run_sliceBound, h1, Result.andThen]
omit [Es] in
theorem byte_at {s : ByteArray} {k : Nat} (hk : k < s.size) : ∃ u, s.data[k]? = some u ∧ s.data.toList[k]? = some u := ⟨s.data[k]'hk, by rw [Array.getElem?_eq_getElem], by rw [Array.getElem?_toList, Array.getElem?_eq_getElem]⟩
theorem Gv {s : ByteArray} (hb : s.size ≤ 4611686018427387904) (h : R (.returned (.int .i64 (AL s))) σ) : Spec prog 131 #[.string s] σ R := by
 have hlen : s.data.toList.length = s.size := Array.length_toList (xs := s.data)
 refine Gh.start ?_
 suffices H : ∀ g k : Nat, s.size - k = g → k ≤ s.size → (∀ j u, j < k → s.data.toList[j]? = some u → Bp u = true) → Gh.GN R s k σ from H s.size 0 rfl (Nat.zero_le _) (fun j u hj => by omega)
 intro g
 induction g with
 | zero =>
   intro k hg hk h1
   have e : AL s = k := IF (by omega) h1 (fun u hu => by have := (List.getElem?_eq_some_iff.1 hu).1; omega)
   rw [e] at h
   exact Gh.A5 ⟨fun Ax => by omega, fun _ => h⟩
 | succ g ih =>
   intro k hg hk h1
   obtain ⟨u, hu, Ct⟩ := byte_at (show k < s.size by omega)
   have stop : Bp u = false → R (.returned (.int .i64 k)) σ := fun hd => by
     have e : AL s = k := IF (by omega) h1 (fun v hv => by rw [Ct] at hv; cases hv; exact hd)
     rw [e] at h; exact h
   refine Gh.A5 ⟨fun _ => ⟨u, by omega, by simpa using hu, OT.start ⟨fun YX => ⟨_, rfl, fun ht => ?_, fun hf => stop ?_⟩, fun YX => ⟨false, rfl, ⟨fun ht => (by cases ht), fun _ => stop ?_⟩⟩⟩⟩, fun hh => by omega⟩
   · refine ⟨AN (by omega : k < s.size) hb, ih (k + 1) (by omega) (by omega) fun j v hj hv => ?_⟩
     by_cases pN : j = k
     · rw [pN, Ct] at hv; cases hv
       have := of_decide_eq_true ht
       exact decide_eq_true (by omega)
     · exact h1 j v (by omega) hv
   · have := of_decide_eq_false hf
     exact decide_eq_false (by omega)
   · exact decide_eq_false (by omega)
end
end TwW
end
section
namespace TwW
open Go Tw Go.RowKit Go.Proofs.Tryz
abbrev Ll (n : Nd) (p : Option Addr) (k c : Nat) (q : Option Addr) (m d : Nat) : Value := .agg #[.int .i64 n.kind, .int .i64 n.op, .string n.text, .slice p k c, .int .i64 n.width, .int .i64 n.back, .int .i64 n.EL, .slice q m d, .bool n.bool, .int .i64 n.parts]
def BJ (n : Nd) : Nd :=
 if n.kind = 1 then ⟨n.kind, 0, n.text, [], 0, 0, 0, [], false, 0⟩
 else if n.kind = 2 then ⟨n.kind, 0, ByteArray.mk #[], [], 0, n.back, 0, [], false, 0⟩
 else if n.kind = 3 then ⟨n.kind, 0, ByteArray.mk #[], [], n.width, n.back, 0, [], false, 0⟩
 else if n.kind = 4 then ⟨n.kind, n.op, ByteArray.mk #[], [], 0, 0, 0, [], false, n.parts⟩
 else if n.kind = 5 then ⟨n.kind, n.op, ByteArray.mk #[], [], 0, 0, n.EL, [], false, n.parts⟩
 else if n.kind = 6 then ⟨n.kind, n.op, ByteArray.mk #[], [], 0, 0, n.EL, [], n.bool, n.parts⟩
 else ⟨n.kind, 0, ByteArray.mk #[], [], 0, 0, 0, [], false, n.parts⟩
theorem mh : ∀ w, (Go.sizeOf 2).run prog w = .ok 1 w := fun w => by kernel_rfl
theorem IG : ∀ w, (Go.sizeOf 3).run prog w = .ok 1 w := fun w => by kernel_rfl
theorem vC : ∀ w, (Go.sizeOf 4).run prog w = .ok 1 w := fun w => by kernel_rfl
theorem AFS : ∀ w, (Go.sizeOf 9).run prog w = .ok 1 w := fun w => by kernel_rfl
theorem mi : ∀ w, (Go.sizeOf 36).run prog w = .ok 10 w := fun w => by kernel_rfl
theorem Sb {c : Array Value} {l : List Value} (h : l.length = c.size) : Mm c 0 l = l.toArray := by
 apply Array.ext_getElem?
 intro j
 rw [P8 l c 0 j (by omega)]
 split
 · simp
 · rename_i hj
   rw [Array.getElem?_eq_none (by omega), List.getElem?_toArray, List.getElem?_eq_none (by omega)]
section
variable [Es] {σ : Hp} {R : Rr}
omit [Es] in
theorem mj {τ : Hp} {b T : Nat} : ∀ {l : List Value} {c : Array Value} {o : Nat}, τ b = some (.cells c T (0, 0)) → (∀ j v, l[j]? = some v → c[o + j]? = some v) → Av τ b o l
 | [], _, _, _, _ => trivial
 | v :: l, c, o, hb, h => ⟨by unfold Hp.ld; rw [hb]; simpa using h 0 v rfl, mj hb fun j u hu => by have := h (j + 1) u (by simpa using hu); rwa [show o + (j + 1) = o + 1 + j by omega] at this⟩
omit [Es] in
theorem eH {τ : Hp} {b : Nat} {o : Obj} (hb : σ b = none) (h : Ext σ τ) : Ext σ (τ.set b o) := fun k u hk => by
 rw [Hp.AI (fun e => by rw [e, hb] at hk; cases hk)]; exact h k u hk
set_option maxHeartbeats 4000000 in
theorem gM {n : Nd} {p q : Option Addr} {k c m d : Nat} (h : ∀ σ', Ext σ σ' → R (.returned (Ll (BJ n) none 0 0 none 0 0)) σ') : Spec prog 121 #[Ll n p k c q m d] σ R := by
 refine SD.start fun _ _ b hb => ?_
 have fin : ∀ (τ : Hp) (c : Array Value) (T : Nat), τ b = some (.cells c T (0, 0)) → Ext σ τ → c = #[.int .i64 (BJ n).kind, .int .i64 (BJ n).op, .string (BJ n).text, .slice none 0 0, .int .i64 (BJ n).width, .int .i64 (BJ n).back, .int .i64 (BJ n).EL, .slice none 0 0, .bool (BJ n).bool, .int .i64 (BJ n).parts] →
     ∃ Xe ak al mC mD mE mF mG mH mI mJ mK mL mM, Av τ b 0 [.int .i64 Xe, .int .i64 ak, .string al, .slice mC mD mE, .int .i64 mF, .int .i64 mG, .int .i64 mH, .slice mI mJ mK, .bool mL, .int .i64 mM] ∧ R (.returned (.agg #[.int .i64 Xe, .int .i64 ak, .string al, .slice mC mD mE, .int .i64 mF, .int .i64 mG, .int .i64 mH, .slice mI mJ mK, .bool mL, .int .i64 mM])) τ := fun τ c T hτ hx hc =>
   ⟨_, _, _, _, _, _, _, _, _, _, _, _, _, _, mj hτ fun j v hv => by rw [hc, Nat.zero_add]; simpa using hv, h τ hx⟩
 have st : ∀ {τ : Hp} {c : Array Value} {T U o : Nat} {v : Value} {Φ : Unit → Hp → Prop}, (∀ w, (Go.sizeOf U).run prog w = .ok 1 w) → τ b = some (.cells c T (0, 0)) → Ext σ τ → o + 1 ≤ c.size → v.cells = #[v] → v.oneCell' = true →
     (∀ (τ' : Hp) (c' : Array Value), c' = Mm c o [v] → c'.size = c.size → τ' b = some (.cells c' T (0, 0)) → Ext σ τ' → Φ () τ') → AJ prog (Instr.storeAt U (.pointer (aD b o)) v) τ Φ := fun {τ c T U o v Φ} hz hτ hx ho h1 h2 hk => by
   refine AJ.store hz hτ (by rw [h1]; rfl) (by simpa using ho) (fun u hu => by rw [h1] at hu; simp at hu; rw [hu]; exact h2) ?_
   rw [h1]
   exact hk _ _ rfl (Hq _ _ _) (Hp.AB _ _ _) (eH hb hx)
 have st0 : ∀ {Φ : Unit → Hp → Prop}, (∀ (τ : Hp) (c : Array Value), c = #[.int .i64 n.kind, .int .i64 0, (.string (ByteArray.mk #[])), .slice none 0 0, .int .i64 0, .int .i64 0, .int .i64 0, .slice none 0 0, .bool false, .int .i64 0] → c.size = 10 → τ b = some (.cells c 36 (0, 0)) → Ext σ τ → Φ () τ) →
     AJ prog (Instr.storeAt 36 (.pointer (aD b 0)) (.agg #[.int .i64 n.kind, .int .i64 0, (.string (ByteArray.mk #[])), .slice none 0 0, .int .i64 0, .int .i64 0, .int .i64 0, .slice none 0 0, .bool false, .int .i64 0])) (Hp.set σ b (.cells #[.int .i64 0, .int .i64 0, (.string (ByteArray.mk #[])), .slice none 0 0, .int .i64 0, .int .i64 0, .int .i64 0, .slice none 0 0, .bool false, .int .i64 0] 36 (0, 0))) Φ := fun {Φ} hk => by
   refine AJ.store mi (Hp.AB _ _ _) rfl (by simp) (by simp [Value.cells, Value.oneCell']) ?_
   exact hk _ _ (Sb rfl) (by rw [Hq]; rfl) (Hp.AB _ _ _) (eH hb (Ext.set hb))
 refine st0 fun τ c0 e0 z0 g0 x0 => ?_
 refine ⟨fun h1 => ?_, fun h1 => ⟨fun h2 => ?_, fun h2 => ⟨fun h3 => ?_, fun h3 => ⟨fun h4 => ?_, fun h4 => ⟨fun h5 => ?_, fun h5 => ⟨fun h6 => ?_, fun h6 => ?_⟩⟩⟩⟩⟩⟩
 · refine st AFS g0 x0 (by omega) rfl rfl fun τ1 c1 e1 z1 g1 x1 => fin τ1 c1 _ g1 x1 ?_
   subst e0 e1; unfold BJ; simp only [h1, if_true]; rfl
 · refine st mh g0 x0 (by omega) rfl rfl fun τ1 c1 e1 z1 g1 x1 => fin τ1 c1 _ g1 x1 ?_
   subst e0 e1; unfold BJ; simp only [h2, if_true]; rfl
 · refine st mh g0 x0 (by omega) rfl rfl fun τ1 c1 e1 z1 g1 x1 => ?_
   refine st mh g1 x1 (by omega) rfl rfl fun τ2 c2 e2 z2 g2 x2 => fin τ2 c2 _ g2 x2 ?_
   subst e0 e1 e2; unfold BJ; simp only [h3, if_true]; rfl
 · refine st IG g0 x0 (by omega) rfl rfl fun τ1 c1 e1 z1 g1 x1 => ?_
   refine st IG g1 x1 (by omega) rfl rfl fun τ2 c2 e2 z2 g2 x2 => fin τ2 c2 _ g2 x2 ?_
   subst e0 e1 e2; unfold BJ; simp only [h4, if_true]; rfl
 · refine st IG g0 x0 (by omega) rfl rfl fun τ1 c1 e1 z1 g1 x1 => ?_
   refine st IG g1 x1 (by omega) rfl rfl fun τ2 c2 e2 z2 g2 x2 => ?_
   refine st IG g2 x2 (by omega) rfl rfl fun τ3 c3 e3 z3 g3 x3 => fin τ3 c3 _ g3 x3 ?_
   subst e0 e1 e2 e3; unfold BJ; simp only [h5, if_true]; rfl
 · refine st IG g0 x0 (by omega) rfl rfl fun τ1 c1 e1 z1 g1 x1 => ?_
   refine st IG g1 x1 (by omega) rfl rfl fun τ2 c2 e2 z2 g2 x2 => ?_
   refine st vC g2 x2 (by omega) rfl rfl fun τ3 c3 e3 z3 g3 x3 => ?_
   refine st IG g3 x3 (by omega) rfl rfl fun τ4 c4 e4 z4 g4 x4 => fin τ4 c4 _ g4 x4 ?_
   subst e0 e1 e2 e3 e4; unfold BJ; simp only [h6, if_true]; rfl
 · refine st IG g0 x0 (by omega) rfl rfl fun τ1 c1 e1 z1 g1 x1 => fin τ1 c1 _ g1 x1 ?_
   subst e0 e1; unfold BJ; simp only [h1, h2, h3, h4, h5, h6, if_false]; rfl
end
end TwW
end
section
namespace TwW
open Go Tw Go.RowKit Go.Proofs.Tryz
section
variable {σ : Hp} {R : Rr}
theorem CZ {k : Int} (h : R (.returned (.bool (DW k))) σ) : Spec prog 124 #[.int .i64 k] σ R := by
 refine Jn.start ⟨fun h1 => ?_, fun h1 => ?_⟩
 · rw [show DW k = decide (k ≤ 10) by unfold DW; rw [decide_eq_true h1]; rfl] at h; exact h
 · rw [show DW k = false by unfold DW; rw [decide_eq_false h1]; rfl] at h; exact h
theorem PR {k : Int} (h : R (.returned (.bool (decide (11 ≤ k ∧ k ≤ 13)))) σ) : Spec prog 128 #[.int .i64 k] σ R := by
 refine R3.start ⟨fun h1 => ?_, fun h1 => ?_⟩
 · rw [show decide (11 ≤ k ∧ k ≤ 13) = decide (k ≤ 13) from decide_eq_decide.2 ⟨fun h => h.2, fun h => ⟨h1, h⟩⟩] at h; exact h
 · rw [show decide (11 ≤ k ∧ k ≤ 13) = false from decide_eq_false (fun hh => h1 hh.1)] at h; exact h
theorem Oa {v l : Int} (h : R (.returned (.bool (MA v l))) σ) : Spec prog 123 #[.int .i64 v, .int .i64 l] σ R := by
 refine R9.start ⟨fun h1 => ?_, fun h1 => ?_⟩
 · rw [show MA v l = decide (v < 2147483648) by unfold MA; rw [decide_eq_true h1]; rfl] at h; exact h
 · rw [show MA v l = false by unfold MA; rw [decide_eq_false h1]; rfl] at h; exact h
theorem Uf {k : Int} (h : R (.returned (.bool (decide (1 ≤ k ∧ k ≤ 4)))) σ) : Spec prog 125 #[.int .i64 k] σ R := by
 refine Q9.start ⟨fun h1 => ?_, fun h1 => ?_⟩
 · rw [show decide (1 ≤ k ∧ k ≤ 4) = decide (k ≤ 4) from decide_eq_decide.2 ⟨fun h => h.2, fun h => ⟨h1, h⟩⟩] at h; exact h
 · rw [show decide (1 ≤ k ∧ k ≤ 4) = false from decide_eq_false (fun hh => h1 hh.1)] at h; exact h
theorem Ob {s : ByteArray} (h : R (.returned (.bool (C8 s))) σ) : Spec prog 126 #[.string s] σ R := by
 refine SA.start (Ko ?_)
 exact ⟨_, rfl, h⟩
theorem Nw.at {p : Option Addr} {n i : Nat} {ms : List Mt} {x : Mt} (hr : Ag 3 Nw σ p n ms) (hx : ms[i]? = some x) : ∃ b o, p = some ⟨b, o, none⟩ ∧ Av σ b (o + i * 3) [.int .i64 x.kind, .string x.name, .string x.val] := by
 obtain ⟨b, o, vs, hp, rfl, hl⟩ := Ag.idx hr hx
 exact ⟨b, o, hp, hl⟩
def bT (m : Mt) : Bool := decide (1 ≤ m.kind ∧ m.kind ≤ 4) && C8 m.name && decide (m.val.size ≤ 256)
theorem PS {p : Option Addr} {n c : Nat} {ms : List Mt} (hr : Ag 3 Nw σ p n ms) (h : R (.returned (.int .i64 (Gt C8 ms))) σ) : Spec prog 80 #[.slice p n c] σ R := by
 have hl : ms.length = n := hr.1
 refine FX.start ⟨fun h8 => ?_, fun h8 => ?_⟩
 · rw [show Gt C8 ms = 41 by unfold Gt; rw [if_pos (by omega)]] at h; exact h
 have hm : Gt C8 ms = if ms.all bT then 0 else 40 := by unfold Gt; rw [if_neg (by omega)]; rfl
 rw [hm] at h
 suffices H : ∀ g k : Nat, n - k = g → k ≤ n → ms.all bT = (ms.drop k).all bT → FX.Lc R p n c n k σ from H n 0 rfl (Nat.zero_le _) rfl
 intro g
 induction g with
 | zero =>
   intro k hg hk he
   rw [List.drop_eq_nil_of_le (by omega)] at he
   rw [he] at h
   exact FX.Ia ⟨fun Ax => by omega, fun _ => h⟩
 | succ g ih =>
   intro k hg hk he
   have G7 : k < n := by omega
   obtain ⟨x, hx⟩ := hr.ex G7
   obtain ⟨b, o, rfl, EK⟩ := Nw.at hr hx
   rw [A6 hx, List.all_cons] at he
   have bad : bT x = false → R (.returned (.int .i64 40)) σ := fun hf => by
     rw [hf] at he
     rw [he] at h; exact h
   refine FX.Ia ⟨fun _ => ⟨b, o, rfl, by omega, x.kind, x.name, x.val, by simpa using EK, fun _ => Uf ⟨_, rfl, fun hf => bad ?_, fun ht => Ob ⟨_, rfl, fun hf => bad ?_, fun hn => ⟨fun hv => bad ?_, fun hv => ⟨AN G7 hr.big, ih (k + 1) (by omega) (by omega) ?_⟩⟩⟩⟩⟩, fun hh => by omega⟩
   · unfold bT; rw [hf]; rfl
   · unfold bT; rw [hf]; simp
   · unfold bT; rw [show decide (x.val.size ≤ 256) = false from decide_eq_false (by omega)]; simp
   · rw [he, show bT x = true by unfold bT; rw [ht, hn, show decide (x.val.size ≤ 256) = true from decide_eq_true (by omega)]; rfl, Bool.true_and]
end
end TwW
end
section
namespace TwW
open Go Tw Go.RowKit Go.Proofs.Tryz
section
variable {σ : Hp} {R : Rr}
theorem bU {n : Nd} {p q : Option Addr} {k c m d : Nat} (hr : Eu 1 σ q m (n.names.map .string)) (h : R (.returned (.bool (OY C8 n))) σ) : Spec prog 122 #[Ll n p k c q m d] σ R := by
 have hl : n.names.length = m := by have := hr.1; simpa using this
 refine Fb.start fun _ => ?_
 suffices H : ∀ g i : Nat, m - i = g → i ≤ m → n.names.all C8 = (n.names.drop i).all C8 → Fb.Hf R n.kind n.op n.text p k c n.width n.back n.EL q m d n.bool n.parts q m d m i σ from H m 0 rfl (Nat.zero_le _) rfl
 have Iz : m ≤ 4611686018427387904 := hr.2.1
 intro g
 induction g with
 | zero =>
   intro i hg hi he
   rw [List.drop_eq_nil_of_le (by omega)] at he
   have e : OY C8 n = (decide (m = 0) || decide (n.EL ≠ 0)) := by unfold OY; rw [he, hl]; rfl
   rw [e] at h
   refine Fb.Be ⟨fun Ax => by omega, fun _ => ⟨fun h0 => ?_, fun h0 => ?_⟩⟩
   · rw [decide_eq_true (show m = 0 by omega)] at h; exact h
   · rw [decide_eq_false (show ¬ m = 0 by omega)] at h; exact h
 | succ g ih =>
   intro i hg hi he
   have Bb : i < m := by omega
   obtain ⟨x, hx⟩ : ∃ x, n.names[i]? = some x := ⟨_, List.getElem?_eq_getElem (by omega)⟩
   obtain ⟨b, o, rfl, EK⟩ := Eu.at1 hr (k := i) (v := .string x) (by rw [List.getElem?_map, hx]; rfl)
   rw [A6 hx, List.all_cons] at he
   refine Fb.Be ⟨fun _ => ⟨b, o, rfl, by omega, x, by simpa using EK, Ob ⟨_, rfl, fun hf => ?_, fun ht => ⟨AN Bb Iz, ih (i + 1) (by omega) (by omega) ?_⟩⟩⟩, fun hh => by omega⟩
   · have e : OY C8 n = false := by unfold OY; rw [he, hf]; rfl
     rw [e] at h; exact h
   · rw [he, ht, Bool.true_and]
theorem ml {a b : ByteArray} : (ByteArray.toList a == ByteArray.toList b) = decide (a.data.toList = b.data.toList) := by
 rw [ByteArray.toList_eq, ByteArray.toList_eq]
 by_cases h : a.data.toList = b.data.toList
 · simp [h]
 · rw [decide_eq_false h]; exact beq_eq_false_iff_ne.2 h
theorem AFT {a b : ByteArray} : (ByteArray.toList a == ByteArray.toList b) = decide (a = b) := by
 rw [ml]
 exact decide_eq_decide.2 ⟨fun h => ByteArray.ext (Array.toList_inj.1 h), fun h => by rw [h]⟩
def Fz (a b : Nd) : Bool := decide (a.kind = b.kind ∧ a.op = b.op ∧ a.text = b.text ∧ a.width = b.width ∧ a.back = b.back ∧ a.EL = b.EL ∧ a.bool = b.bool ∧ a.parts = b.parts)
theorem bV {a b : Nd} {p p' q q' : Option Addr} {k c k' c' m d m' d' : Nat} (h : R (.returned (.bool (Fz a b))) σ) : Spec prog 120 #[Ll a p k c q m d, Ll b p' k' c' q' m' d'] σ R := by
 have no : ¬ (a.kind = b.kind ∧ a.op = b.op ∧ a.text = b.text ∧ a.width = b.width ∧ a.back = b.back ∧ a.EL = b.EL ∧ a.bool = b.bool ∧ a.parts = b.parts) → R (.returned (.bool false)) σ := fun hn => by
   rw [show Fz a b = false from decide_eq_false hn] at h; exact h
 have last : a.kind = b.kind ∧ a.op = b.op ∧ a.text = b.text ∧ a.width = b.width ∧ a.back = b.back ∧ a.EL = b.EL ∧ a.bool = b.bool → R (.returned (.bool (decide (a.parts = b.parts)))) σ := fun hh => by
   rw [show Fz a b = decide (a.parts = b.parts) from decide_eq_decide.2 ⟨fun g => g.2.2.2.2.2.2.2, fun g => ⟨hh.1, hh.2.1, hh.2.2.1, hh.2.2.2.1, hh.2.2.2.2.1, hh.2.2.2.2.2.1, hh.2.2.2.2.2.2, g⟩⟩] at h; exact h
 refine O8.start fun _ _ => ⟨fun h1 => ⟨fun h2 => ⟨fun h3 => ?_, fun h3 => no ?_⟩, fun h2 => no fun g => h2 g.2.1⟩, fun h1 => no fun g => h1 g.1⟩
 · rw [AFT] at h3
   have h3 := of_decide_eq_true h3
   refine ⟨fun h4 => ⟨fun h5 => ⟨fun h6 => ⟨fun t1 => ⟨fun t2 => last ⟨h1, h2, h3, h4, h5, h6, t1.trans t2.symm⟩, fun t2 => no fun g => ?_⟩, fun t1 => ⟨fun t2 => no fun g => ?_, fun t2 => last ⟨h1, h2, h3, h4, h5, h6, t1.trans t2.symm⟩⟩⟩, fun h6 => no fun g => h6 g.2.2.2.2.2.1⟩, fun h5 => no fun g => h5 g.2.2.2.2.1⟩, fun h4 => no fun g => h4 g.2.2.2.1⟩
   · have := g.2.2.2.2.2.2.1; rw [t1, t2] at this; cases this
   · have := g.2.2.2.2.2.2.1; rw [t1, t2] at this; cases this
 · rw [AFT] at h3
   exact fun g => of_decide_eq_false h3 g.2.2.1
end
end TwW
end
section
namespace TwW
open Go Tw Go.RowKit Go.Proofs.Tryz
def FH (s : ByteArray) : Bool :=
 if AL s = 0 then false else if 1 < AL s ∧ s.data[0]? = some 48 then false else if AL s = s.size then decide (AL s ≤ 15)
 else decide (s.data[AL s]? = some 46 ∧ 0 < AL (s.extract (AL s + 1) s.size) ∧ AL s + 1 + AL (s.extract (AL s + 1) s.size) = s.size ∧ AL s + AL (s.extract (AL s + 1) s.size) ≤ 15)
theorem I5 {u : UInt8} {k : Nat} (hk : k < 256) : ((u.toNat : Nat) : Int) = k ↔ u = UInt8.ofNat k := by
 constructor
 · intro h
   apply UInt8.toNat_inj.1
   rw [UInt8.toNat_ofNat']
   omega
 · rintro rfl
   rw [UInt8.toNat_ofNat']
   omega
section
variable {σ : Hp} {R : Rr}
theorem Ks {s : ByteArray} (hb : s.size ≤ 4611686018427387904) (h : R (.returned (.bool (FH s))) σ) : Spec prog 94 #[.string s] σ R := by
 have hle := LU s
 refine SC.start (Gv hb ⟨_, rfl, fun h0 => ?_, fun h0 => ⟨_, Ue hle, ?_⟩⟩)
 · rw [show FH s = false by unfold FH; rw [if_pos (by omega)]] at h; exact h
 have Hc : (s.extract 0 (AL s)).size = AL s := by rw [ByteArray.size_extract]; omega
 have tail : ¬ (1 < AL s ∧ s.data[0]? = some 48) → Br ((AL s : Int) = ((ByteArray.size s : Nat) : Int)) (R (.returned (.bool (decide ((AL s : Int) ≤ 15)))) σ) (AM ((AL s : Int) + 1) ∧ ∃ s24, YF prog (Instr.sliceAt 9 (.string s) (some (.int .i64 ((AL s : Int) + 1))) none none) σ (.string s24) ∧ Spec prog 131 #[.string s24] σ (AA R (CI .i64 fun TJ AH => ∃ u28 : UInt8, 0 ≤ (AL s : Int) ∧ (ByteArray.data s)[Int.toNat (AL s : Int)]? = some u28 ∧ Br ((((UInt8.toNat u28 : Nat) : Int) : Int) = 46) (Br (0 < TJ) (AM ((AL s : Int) + 1) ∧ AM (((AL s : Int) + 1) + TJ) ∧ Br (((((AL s : Int) + 1) + TJ) : Int) = ((ByteArray.size s : Nat) : Int)) (AM ((AL s : Int) + TJ) ∧ R (.returned (.bool (decide ((((AL s : Int) + TJ) : Int) ≤ 15)))) AH) (R (.returned (.bool false)) AH)) (R (.returned (.bool false)) AH)) (R (.returned (.bool false)) AH)))) := fun hn => by
   refine ⟨fun he => ?_, fun he => ⟨by unfold AM; omega, s.extract (AL s + 1) s.size, Nc (l := AL s + 1) (by omega), ?_⟩⟩
   · rw [show FH s = decide ((AL s : Int) ≤ 15) by unfold FH; rw [if_neg (by omega), if_neg hn, if_pos (by omega)]; exact decide_eq_decide.2 (by omega)] at h; exact h
   have AK1 : (s.extract (AL s + 1) s.size).size = s.size - (AL s + 1) := by rw [ByteArray.size_extract]; omega
   have hm := LU (s.extract (AL s + 1) s.size)
   refine Gv (by omega) ?_
   obtain ⟨u, hu, _⟩ := byte_at (show AL s < s.size by omega)
   have hO : FH s = decide (s.data[AL s]? = some 46 ∧ 0 < AL (s.extract (AL s + 1) s.size) ∧ AL s + 1 + AL (s.extract (AL s + 1) s.size) = s.size ∧ AL s + AL (s.extract (AL s + 1) s.size) ≤ 15) := by unfold FH; rw [if_neg (by omega), if_neg hn, if_neg (by omega)]
   rw [hO, hu] at h
   generalize AL (s.extract (AL s + 1) s.size) = m at *
   have b46 := I5 (u := u) (k := 46) (by decide)
   have no : ¬ (u = 46 ∧ 0 < m ∧ AL s + 1 + m = s.size ∧ AL s + m ≤ 15) → R (.returned (.bool false)) σ := fun hh => by
     rw [decide_eq_false (by rw [Option.some.injEq]; exact hh)] at h; exact h
   refine ⟨_, rfl, u, by omega, by simpa using hu, fun Ug => ⟨fun h0m => ⟨by unfold AM; omega, by unfold AM; omega, fun hs => ⟨by unfold AM; omega, ?_⟩, fun hs => no fun g => hs (by omega)⟩, fun h0m => no fun g => h0m (by omega)⟩, fun Ug => no fun g => Ug (b46.2 g.1)⟩
   rw [show decide (some u = some 46 ∧ 0 < m ∧ AL s + 1 + m = s.size ∧ AL s + m ≤ 15) = decide (((AL s : Int) + m) ≤ 15) from decide_eq_decide.2 ⟨fun g => by omega, fun g => ⟨by rw [b46.1 Ug]; rfl, by omega, by omega, by omega⟩⟩] at h
   exact h
 refine M8.start ⟨fun h1 => ?_, fun h1 => ⟨false, rfl, fun ht => (by cases ht), fun _ => tail (by omega)⟩⟩
 obtain ⟨u, hu, _⟩ := byte_at (show 0 < s.size by omega)
 have Po := I5 (u := u) (k := 48) (by decide)
 have Ct : (s.extract 0 (AL s)).data[0]? = some u := by
   rw [ByteArray.data_extract, Array.getElem?_extract]
   rw [if_pos (by have : s.data.size = s.size := rfl; omega)]
   simpa using hu
 refine ⟨u, by omega, by simpa using Ct, _, rfl, fun ht => ?_, fun hf => tail ?_⟩
 · have := Po.1 (of_decide_eq_true ht)
   rw [show FH s = false by unfold FH; rw [if_neg (by omega), if_pos ⟨by omega, by rw [hu, this]; rfl⟩]] at h; exact h
 · rintro ⟨_, g⟩
   rw [hu, Option.some.injEq] at g
   exact of_decide_eq_false hf (Po.2 g)
end
end TwW
end
section
namespace TwW
open Go Tw Go.RowKit Go.Proofs.Tryz
def Fj (n : Nd) : Bool :=
 if n.kind = 1 then FH n.text else if n.kind = 2 then MA n.back 0 else if n.kind = 3 then MA n.width 1 && MA n.back 0
 else if n.kind = 4 then decide (n.parts = 1 ∧ 1 ≤ n.op ∧ n.op ≤ 12)
 else if n.kind = 5 then decide (n.parts = 1 ∧ 1 ≤ n.op ∧ n.op ≤ 5 ∧ (n.EL = 0 ∨ n.EL = 1 ∨ n.EL = 2))
 else if n.kind = 6 then decide (n.parts = 2 ∧ 1 ≤ n.op ∧ n.op ≤ 13 ∧ (n.EL = 0 ∨ n.EL = 3 ∨ n.EL = 4)) && (!n.bool || DW n.op)
 else decide (n.kind = 7 ∧ n.parts = 1)
def E5 (n : Nd) : Bool := Fz n (BJ n) && OY C8 n && !(decide (0 < n.mt.length) && decide (n.kind ≠ 2) && decide (n.kind ≠ 3)) && Fj n
section
variable {σ : Hp} {R : Rr}
theorem gN {n : Nd} {p q : Option Addr} {k c m d : Nat} (hk : n.mt.length = k) (hr : Eu 1 σ q m (n.names.map .string)) (hb : n.text.size ≤ 4611686018427387904) (h : ∀ σ', Ext σ σ' → R (.returned (.bool (E5 n))) σ') : Spec prog 79 #[Ll n p k c q m d] σ R := by
 refine Q6.start fun _ => gM fun σ1 hx => ⟨_, _, _, _, _, _, _, _, _, _, _, _, _, _, rfl, bV ⟨_, rfl, fun hf => ?_, fun ht => bU (hr.mono hx) ⟨_, rfl, fun hf => ?_, fun hn => ?_⟩⟩⟩
 · have := h σ1 hx; rw [show E5 n = false by unfold E5; rw [hf]; rfl] at this; exact this
 · have := h σ1 hx; rw [show E5 n = false by unfold E5; rw [ht, hf]; rfl] at this; exact this
 have hh := h σ1 hx
 have e : E5 n = (!(decide (0 < n.mt.length) && decide (n.kind ≠ 2) && decide (n.kind ≠ 3)) && Fj n) := by unfold E5; rw [ht, hn]; rfl
 rw [e] at hh
 clear e h
 have fin : ¬ (0 < n.mt.length ∧ n.kind ≠ 2 ∧ n.kind ≠ 3) → ∀ t, Fj n = t → R (.returned (.bool t)) σ1 := fun Du t ht => by
   have e2 : (!(decide (0 < n.mt.length) && decide (n.kind ≠ 2) && decide (n.kind ≠ 3))) = true := by
     rw [Bool.not_eq_true', Bool.eq_false_iff]
     intro hc
     simp only [Bool.and_eq_true, decide_eq_true_eq] at hc
     exact Du ⟨hc.1.1, hc.1.2, hc.2⟩
   rw [e2, Bool.true_and, ht] at hh; exact hh
 refine ⟨fun hm => ⟨fun h2 => ⟨fun h3 => ?_, fun h3 => ?_⟩, fun h2 => ?_⟩, fun hm => ?_⟩
 · rw [show (!(decide (0 < n.mt.length) && decide (n.kind ≠ 2) && decide (n.kind ≠ 3))) = false by rw [decide_eq_true (show 0 < n.mt.length by omega), decide_eq_true h2, decide_eq_true h3]; rfl, Bool.false_and] at hh
   exact hh
 all_goals
   have fin := fin (by omega)
   clear hh ht hn
   refine ⟨fun k1 => Ks hb ⟨_, rfl, ?_⟩, fun k1 => ⟨fun k2 => Oa ⟨_, rfl, ?_⟩, fun k2 => ⟨fun k3 => Oa ⟨_, rfl, fun ht => Oa ⟨_, rfl, ?_⟩, fun hf => ?_⟩, fun k3 => ⟨fun k4 => ⟨fun hp => ⟨fun ho => ?_, fun ho => ?_⟩, fun hp => ?_⟩, fun k4 => ⟨fun k5 => ⟨fun hp => ⟨fun ho => ⟨fun Bc => ⟨fun g0 => ?_, fun g0 => ⟨fun g1 => ?_, fun g1 => ?_⟩⟩, fun Bc => ?_⟩, fun ho => ?_⟩, fun hp => ?_⟩, fun k5 => ⟨fun k6 => ⟨fun hp => ⟨fun ho => ⟨fun Bc => ⟨fun g0 => ⟨fun bf => ?_, fun bt => CZ ⟨_, rfl, ?_⟩⟩, fun g0 => ⟨fun g3 => ⟨fun bf => ?_, fun bt => CZ ⟨_, rfl, ?_⟩⟩, fun g3 => ⟨fun g4 => ⟨fun bf => ?_, fun bt => CZ ⟨_, rfl, ?_⟩⟩, fun g4 => ?_⟩⟩⟩, fun Bc => ?_⟩, fun ho => ?_⟩, fun hp => ?_⟩, fun k6 => ⟨fun k7 => ?_, fun k7 => ?_⟩⟩⟩⟩⟩⟩⟩ <;> (refine fin _ ?_; clear fin; unfold Fj; simp [*])
end
end TwW
end
section
namespace TwW
open Go Tw Go.RowKit Go.Proofs.Tryz
section
variable {σ : Hp} {R : Rr}
abbrev tyV (x : Int × Int) : Value := .tuple #[.int .i64 x.1, .int .i64 x.2]
def YY (n : Nd) (a : Int) : Int × Int := if a = (if n.op = 11 ∨ n.op = 12 then 2 else 3) then (2, 0) else (0, 191)
def eI (a : Int) : Int × Int := if a = 2 then (2, 0) else (0, 191)
def mn (a : Int) : Int × Int := if a = 3 then (0, 191) else (a, 0)
theorem bW {w : Option Addr} {n : Nd} {p q r : Option Addr} {k c m d s t : Nat} {l : List Int} {a : Int} (hr : E1 .i64 σ r s l) (ha : l[0]? = some a) (h : R (.returned (tyV (YY n a))) σ) : Spec prog 82 #[.pointer w, Ll n p k c q m d, .slice r s t] σ R := by
 have hs : l.length = s := hr.1
 have h0 := (List.getElem?_eq_some_iff.1 ha).1
 obtain ⟨b, o, rfl, EK⟩ := E1.at hr ha
 have go : ∀ z : Int, (if n.op = 11 ∨ n.op = 12 then 2 else 3) = z → Bh.Ez R (some ⟨b, o, none⟩) s t z σ := fun z hz => by
   unfold YY at h
   rw [hz] at h
   refine Bh.FN ⟨b, o, rfl, by omega, a, by simpa using EK, fun BE => ?_, fun heq => ?_⟩
   · rw [if_neg BE] at h; exact h
   · rw [if_pos (Decidable.not_not.1 heq)] at h; exact h
 exact Bh.start fun _ => ⟨fun h1 => go 2 (if_pos (.inl h1)), fun h1 => ⟨fun h2 => go 2 (if_pos (.inr h2)), fun h2 => go 3 (if_neg (by omega))⟩⟩
theorem gO {w : Option Addr} {n : Nd} {p q r : Option Addr} {k c m d s t : Nat} {l : List Int} {a : Int} (hr : E1 .i64 σ r s l) (ha : l[0]? = some a) (h : R (.returned (tyV (eI a))) σ) : Spec prog 83 #[.pointer w, Ll n p k c q m d, .slice r s t] σ R := by
 have hs : l.length = s := hr.1
 have h0 := (List.getElem?_eq_some_iff.1 ha).1
 obtain ⟨b, o, rfl, EK⟩ := E1.at hr ha
 unfold eI at h
 refine EU.start fun _ => ⟨b, o, rfl, by omega, a, by simpa using EK, fun BE => ?_, fun heq => ?_⟩
 · rw [if_neg BE] at h; exact h
 · rw [if_pos (Decidable.not_not.1 heq)] at h; exact h
theorem gP {w : Option Addr} {n : Nd} {p q r : Option Addr} {k c m d s t : Nat} {l : List Int} {a : Int} (hr : E1 .i64 σ r s l) (ha : l[0]? = some a) (h : R (.returned (tyV (mn a))) σ) : Spec prog 85 #[.pointer w, Ll n p k c q m d, .slice r s t] σ R := by
 have hs : l.length = s := hr.1
 have h0 := (List.getElem?_eq_some_iff.1 ha).1
 obtain ⟨b, o, rfl, EK⟩ := E1.at hr ha
 unfold mn at h
 refine Ei.start fun _ => ⟨b, o, rfl, by omega, a, by simpa using EK, fun heq => ?_, fun BE => ⟨by omega, a, by simpa using EK, ?_⟩⟩
 · rw [if_pos heq] at h; exact h
 · rw [if_neg BE] at h; exact h
end
end TwW
end
section
namespace TwW
open Go Tw Go.RowKit Go.Proofs.Tryz
section
variable {σ : Hp} {R : Rr}
def gQ (n : Nd) (a b : Int) : Int × Int := if a = 3 ∨ b = 3 ∨ ((11 ≤ n.op ∧ n.op ≤ 13 ∨ n.EL ≠ 0) ∧ ¬ (a = 2 ∧ b = 2)) ∨ (a = 1 ∧ b = 1 ∧ DW n.op = true ∧ n.bool = false) then (0, 192) else (if a < b then b else a, 0)
theorem gR {w : Option Addr} {n : Nd} {p q r : Option Addr} {k c m d s t : Nat} {l : List Int} {a b : Int} (hr : E1 .i64 σ r s l) (ha : l[0]? = some a) (hb : l[1]? = some b) (h : R (.returned (tyV (gQ n a b))) σ) : Spec prog 84 #[.pointer w, Ll n p k c q m d, .slice r s t] σ R := by
 have hs : l.length = s := hr.1
 have h1 := (List.getElem?_eq_some_iff.1 hb).1
 obtain ⟨b1, o, rfl, EK⟩ := E1.at hr ha
 obtain ⟨_, _, he, AK2⟩ := E1.at hr hb
 cases he
 have bad : a = 3 ∨ b = 3 ∨ ((11 ≤ n.op ∧ n.op ≤ 13 ∨ n.EL ≠ 0) ∧ ¬ (a = 2 ∧ b = 2)) ∨ (a = 1 ∧ b = 1 ∧ DW n.op = true ∧ n.bool = false) → R (.returned (.tuple #[.int .i64 0, .int .i64 192])) σ := fun hh => by
   unfold gQ at h; rw [if_pos hh] at h; exact h
 have good : ¬ (a = 3 ∨ b = 3 ∨ ((11 ≤ n.op ∧ n.op ≤ 13 ∨ n.EL ≠ 0) ∧ ¬ (a = 2 ∧ b = 2)) ∨ (a = 1 ∧ b = 1 ∧ DW n.op = true ∧ n.bool = false)) → R (.returned (.tuple #[.int .i64 (if a < b then b else a), .int .i64 0])) σ := fun hh => by
   unfold gQ at h; rw [if_neg hh] at h; exact h
 clear h
 refine Ec.start fun _ => ⟨b1, o, rfl, by omega, a, by simpa using EK, by omega, b, by simpa using AK2, ?_⟩
 repeat' first
   | (apply PR; refine Exists.intro _ (And.intro rfl ?_))
   | (apply CZ; refine Exists.intro _ (And.intro rfl ?_))
   | (apply And.intro <;> intro _)
 all_goals first
   | (refine bad ?_; simp_all; done)
   | (refine good ?_; simp_all; done)
   | (refine bad ?_; simp_all; omega)
   | (refine good ?_; simp_all; omega)
end
end TwW
end
section
namespace TwW
open Go Tw Go.RowKit Go.Proofs.Tryz
theorem DH.en : Enters prog 96 := fun args w => call96 args w
theorem Dj.en : Enters prog 153 := fun args w => call153 args w
theorem DI.en : Enters prog 159 := fun args w => call159 args w
theorem BT.en : Enters prog 230 := fun args w => call230 args w
theorem BN.en : Enters prog 294 := fun args w => call294 args w
theorem EU.en : Enters prog 83 := fun args w => call83 args w
theorem Gf.en : Enters prog 155 := fun args w => call155 args w
theorem BP.en : Enters prog 187 := fun args w => call187 args w
theorem Is.en : Enters prog 226 := fun args w => call226 args w
theorem Iv.en : Enters prog 145 := fun args w => call145 args w
theorem Bh.en : Enters prog 82 := fun args w => call82 args w
theorem C6.en : Enters prog 105 := fun args w => call105 args w
theorem DK.en : Enters prog 139 := fun args w => call139 args w
theorem DL.en : Enters prog 185 := fun args w => call185 args w
theorem DM.en : Enters prog 189 := fun args w => call189 args w
theorem FO.en : Enters prog 224 := fun args w => call224 args w
theorem AU.en : Enters prog 103 := fun args w => call103 args w
theorem BG.en : Enters prog 106 := fun args w => call106 args w
theorem DN.en : Enters prog 158 := fun args w => call158 args w
theorem DO.en : Enters prog 171 := fun args w => call171 args w
theorem DP.en : Enters prog 191 := fun args w => call191 args w
theorem Eb.en : Enters prog 217 := fun args w => call217 args w
theorem Ec.en : Enters prog 84 := fun args w => call84 args w
theorem Bl.en : Enters prog 100 := fun args w => call100 args w
theorem Ee.en : Enters prog 154 := fun args w => call154 args w
theorem GF.en : Enters prog 198 := fun args w => call198 args w
theorem Co.en : Enters prog 212 := fun args w => call212 args w
theorem Eg.en : Enters prog 218 := fun args w => call218 args w
theorem Ac.en : Enters prog 101 := fun args w => call101 args w
theorem AR.en : Enters prog 102 := fun args w => call102 args w
theorem DR.en : Enters prog 127 := fun args w => call127 args w
theorem NK.en : Enters prog 144 := fun args w => call144 args w
theorem Fc.en : Enters prog 151 := fun args w => call151 args w
theorem Gj.en : Enters prog 152 := fun args w => call152 args w
theorem Dy.en : Enters prog 220 := fun args w => call220 args w
theorem CD.en : Enters prog 71 := fun args w => call71 args w
theorem Ei.en : Enters prog 85 := fun args w => call85 args w
theorem AP.en : Enters prog 104 := fun args w => call104 args w
theorem DT.en : Enters prog 193 := fun args w => call193 args w
theorem Dz.en : Enters prog 219 := fun args w => call219 args w
instance : mN prog 99 9 3 := ⟨underlying99, underlying9⟩
instance : mQ.pC prog 150 3 148 := ⟨underlying150, underlying3⟩
instance : mQ.pC prog 191 3 190 := ⟨underlying191, underlying3⟩
instance : mN prog 197 9 200 := ⟨underlying197, underlying9⟩
instance : mQ.pC prog 202 3 201 := ⟨underlying202, underlying3⟩
instance : mN prog 243 9 71 := ⟨underlying243, underlying9⟩
end TwW
end
section
namespace TwW
open Go Go.MapKept Tw Go.RowKit Go.Proofs.Tryz
section
variable {P : Program} {σ σ' : Hp} {R : Rr}
def bX (x : Int × Value) (n : Nat) : MapEntry := { key := .int .i64 x.1, val := x.2, born := n }
def MI (σ : Hp) (m : Nat) (l : List (Int × Value)) : Prop := ∃ (bs : List Nat) (clock : Nat), bs.length = l.length ∧ mQ.BQ σ m (List.zipWith bX l bs) clock
theorem MI.loc {m : Nat} {l : List (Int × Value)} (h : MI σ m l) (hx : σ' m = σ m) : MI σ' m l := let ⟨bs, c, h1, h2⟩ := h; ⟨bs, c, h1, h2.loc hx⟩
theorem MI.known {m : Nat} {l : List (Int × Value)} (h : MI σ m l) : σ m ≠ none := let ⟨bs, c, h1, h2⟩ := h; by rw [h2.1]; simp
theorem MI.fresh {m : Nat} : MI (σ.set m (.map #[] 0)) m [] := ⟨[], 0, rfl, mQ.BQ.fresh⟩
theorem MI.put {T K V : TypeId} [mQ.pC P T K V] {m : Nat} {l : List (Int × Value)} {x : Int} {v : Value} {Φ : Unit → Hp → Prop} (h : MI σ m l) (hn : ∀ a ∈ l, a.1 ≠ x)
   (hΦ : ∀ o, MI (σ.set m o) m (l ++ [(x, v)]) → Φ () (σ.set m o)) : AJ P (Instr.mapUpdate T (.map (some m)) (.int .i64 x) v) σ Φ := by
 obtain ⟨bs, clock, hb, hm⟩ := h
 refine mQ.Ha hm (fun Du σ' hσ hm' => ?_) fun l1 e l2 hl he σ' hσ hm' => ?_
 · subst hσ
   refine hΦ _ ⟨bs ++ [clock], clock + 1, by simp [hb], ?_⟩
   rw [List.zipWith_append hb.symm]
   exact hm'
 · have mo : e ∈ List.zipWith bX l bs := by rw [hl]; simp
   obtain ⟨i, hi⟩ := List.mem_iff_getElem?.1 mo
   rw [List.getElem?_zipWith] at hi
   cases rW : l[i]? with
   | none => rw [rW] at hi; cases hi
   | some a =>
     cases hbi : bs[i]? with
     | none => rw [rW, hbi] at hi; cases hi
     | some b =>
       rw [rW, hbi] at hi
       simp only [Option.some.injEq] at hi
       subst hi
       have := hn a (List.mem_of_getElem? rW)
       simp only [bX, Value.int.injEq, true_and] at he
       exact absurd he this
theorem MI.look {T K V : TypeId} [mQ.pC P T K V] {m : Nat} {l : List (Int × Value)} {x : Int} {z : Value} {Φ : Value → Hp → Prop} (h : MI σ m l) (hz : ∀ w, (zeroValue V).run P w = .ok z w)
   (h0 : (∀ a ∈ l, a.1 ≠ x) → Φ z σ) (h1 : ∀ v, (x, v) ∈ l → Φ v σ) : AJ P (Instr.lookup T (.map (some m)) (.int .i64 x) false) σ Φ := by
 obtain ⟨bs, clock, hb, hm⟩ := h
 refine mQ.MY hm hz (fun Du => h0 fun a ha hax => ?_) fun l1 e l2 hl he => ?_
 · obtain ⟨i, hi⟩ := List.mem_iff_getElem?.1 ha
   have Ax := (List.getElem?_eq_some_iff.1 hi).1
   have hm : bX a (bs[i]'(by omega)) ∈ List.zipWith bX l bs := List.mem_iff_getElem?.2 ⟨i, by rw [List.getElem?_zipWith, hi, List.getElem?_eq_getElem (by omega)]⟩
   exact Du _ hm (by rw [← hax]; rfl)
 · have mo : e ∈ List.zipWith bX l bs := by rw [hl]; simp
   obtain ⟨i, hi⟩ := List.mem_iff_getElem?.1 mo
   rw [List.getElem?_zipWith] at hi
   cases rW : l[i]? with
   | none => rw [rW] at hi; cases hi
   | some a =>
     cases hbi : bs[i]? with
     | none => rw [rW, hbi] at hi; cases hi
     | some b =>
       rw [rW, hbi] at hi
       simp only [Option.some.injEq] at hi
       subst hi
       simp only [bX, Value.int.injEq, true_and] at he
       subst he
       exact h1 a.2 (List.mem_of_getElem? rW)
def mq (τ σ : Hp) (m : Nat) (l : List (Int × Value)) : Prop := Ext τ σ ∧ τ m = none ∧ MI σ m l
theorem mq.fresh {τ : Hp} {m : Nat} (h : τ m = none) : mq τ (τ.set m (.map #[] 0)) m [] := ⟨.set h, h, MI.fresh⟩
theorem mq.alloc {τ : Hp} {m b : Nat} {l : List (Int × Value)} {o : Obj} (h : mq τ σ m l) (hb : σ b = none) : mq (τ.set b o) (σ.set b o) m l := by
 have BE : m ≠ b := fun e => h.2.2.known (by rw [e]; exact hb)
 refine ⟨fun k u hk => ?_, by rw [Hp.AI BE]; exact h.2.1, h.2.2.loc (Hp.AI BE)⟩
 by_cases HC : k = b
 · subst HC; rw [Hp.AB] at hk ⊢; exact hk
 · rw [Hp.AI HC] at hk ⊢; exact h.1 _ _ hk
theorem mq.put {τ : Hp} {T K V : TypeId} [mQ.pC P T K V] {m : Nat} {l : List (Int × Value)} {x : Int} {v : Value} {Φ : Unit → Hp → Prop} (h : mq τ σ m l) (hn : ∀ a ∈ l, a.1 ≠ x)
   (hΦ : ∀ σ', mq τ σ' m (l ++ [(x, v)]) → Φ () σ') : AJ P (Instr.mapUpdate T (.map (some m)) (.int .i64 x) v) σ Φ :=
 h.2.2.put hn fun o ho => hΦ _ ⟨fun k u hk => by rw [Hp.AI (fun e => by rw [e, h.2.1] at hk; cases hk)]; exact h.1 _ _ hk, h.2.1, ho⟩
section
variable {α : Type}
theorem Sc {l : List (ByteArray × α)} {k : ByteArray} (h : ∀ a ∈ l, a.1 ≠ k) : Cp l k = none := by
 induction l with
 | nil => rfl
 | cons a l ih => rw [Cp, if_neg (h a (by simp))]; exact ih fun b hb => h b (List.mem_cons_of_mem _ hb)
theorem Uh {l m : List (ByteArray × α)} {k : ByteArray} {y : α} (h : ∀ a ∈ l, a.1 ≠ k) : Cp (l ++ (k, y) :: m) k = some y := by
 induction l with
 | nil => simp [Cp]
 | cons a l ih => rw [List.cons_append, Cp, if_neg (h a (by simp))]; exact ih fun b hb => h b (List.mem_cons_of_mem _ hb)
theorem Oc {l : List (ByteArray × α)} {k : ByteArray} {y : α} (h : ∀ a ∈ l, a.1 ≠ k) : P1 l k y = l ++ [(k, y)] := by
 induction l with
 | nil => rfl
 | cons a l ih => rw [P1, if_neg (h a (by simp)), ih fun b hb => h b (List.mem_cons_of_mem _ hb)]; rfl
theorem YZ {l m : List (ByteArray × α)} {k : ByteArray} {y z : α} (h : ∀ a ∈ l, a.1 ≠ k) : P1 (l ++ (k, z) :: m) k y = l ++ (k, y) :: m := by
 induction l with
 | nil => simp [P1]
 | cons a l ih => rw [List.cons_append, P1, if_neg (h a (by simp)), ih fun b hb => h b (List.mem_cons_of_mem _ hb)]; rfl
def MS (E : Value → α → Prop) (σ : Hp) (m : Nat) (L : List (ByteArray × α)) : Prop :=
 ∃ (l : List MapEntry) (clock : Nat), BQ σ m l clock ∧ l.length = L.length ∧ ∀ (i : Nat) (e : MapEntry) (x : ByteArray × α), l[i]? = some e → L[i]? = some x → e.key = .string x.1 ∧ E e.val x.2
theorem MS.mono {E : Value → α → Prop} {m : Nat} {L : List (ByteArray × α)} (h : MS E σ m L) (hx : Ext σ σ') : MS E σ' m L := let ⟨l, c, h1, h2⟩ := h; ⟨l, c, h1.mono hx, h2⟩
theorem MS.loc {E : Value → α → Prop} {m : Nat} {L : List (ByteArray × α)} (h : MS E σ m L) (hx : σ' m = σ m) : MS E σ' m L := let ⟨l, c, h1, h2⟩ := h; ⟨l, c, h1.loc hx, h2⟩
theorem MS.imp {E E' : Value → α → Prop} {m : Nat} {L : List (ByteArray × α)} (h : MS E σ m L) (hE : ∀ v x, E v x → E' v x) : MS E' σ m L := let ⟨l, c, h1, h2, h3⟩ := h; ⟨l, c, h1, h2, fun i e x he hx => ⟨(h3 i e x he hx).1, hE _ _ (h3 i e x he hx).2⟩⟩
theorem MS.known {E : Value → α → Prop} {m : Nat} {L : List (ByteArray × α)} (h : MS E σ m L) : σ m ≠ none := let ⟨l, c, h1, h2⟩ := h; by rw [h1.1]; simp
theorem MS.fresh {E : Value → α → Prop} {m : Nat} : MS E (σ.set m (.map #[] 0)) m [] := ⟨[], 0, BQ.fresh, rfl, fun i e x he => by simp at he⟩
theorem MS.len {E : Value → α → Prop} {T K V ty : TypeId} [mN P T K V] {m : Nat} {L : List (ByteArray × α)} (h : MS E σ m L) : YF P (Builtin.len_ #[T] ty #[.map (some m)]) σ (.int .i64 L.length) := by
 obtain ⟨l, c, h1, h2, h3⟩ := h
 rw [← h2]; exact mO h1
theorem Sd {E : Value → α → Prop} {l l1 l2 : List MapEntry} {e : MapEntry} {L : List (ByteArray × α)} {s : ByteArray} (hn : (l.map (·.key)).Nodup) (h2 : l.length = L.length) (h3 : ∀ (i : Nat) (e : MapEntry) (x : ByteArray × α), l[i]? = some e → L[i]? = some x → e.key = .string x.1 ∧ E e.val x.2) (hl : l = l1 ++ e :: l2) (he : e.key = .string s) :
   ∃ L1 x L2, L = L1 ++ (s, x) :: L2 ∧ L1.length = l1.length ∧ (∀ a ∈ L1, a.1 ≠ s) ∧ E e.val x := by
 subst hl
 have Ax : l1.length < L.length := by rw [← h2]; simp
 have Me : L = L.take l1.length ++ L[l1.length] :: L.drop (l1.length + 1) := by rw [List.getElem_cons_drop, List.take_append_drop]
 have hx := h3 l1.length e L[l1.length] (by simp) (List.getElem?_eq_getElem _)
 rw [he] at hx
 have hk : L[l1.length].1 = s := by simpa using hx.1.symm
 refine ⟨L.take l1.length, L[l1.length].2, L.drop (l1.length + 1), ?_, by rw [List.length_take]; omega, fun a ha has => ?_, hx.2⟩
 · rw [← hk]; exact Me
 · obtain ⟨i, hi⟩ := List.mem_iff_getElem?.1 ha
   rw [List.getElem?_take] at hi
   split at hi
   · rename_i vD
     have hle : (l1 ++ e :: l2)[i]? = some (l1[i]'vD) := by rw [List.getElem?_append_left vD, List.getElem?_eq_getElem vD]
     have h4 := (h3 i _ a hle hi).1
     rw [List.map_append, List.map_cons, List.nodup_append] at hn
     exact hn.2.2 _ (List.mem_map.2 ⟨l1[i]'vD, List.getElem_mem vD, rfl⟩) _ (by simp; exact .inl rfl) (by rw [h4, he, has])
   · cases hi
theorem MS.rX {E : Value → α → Prop} {l : List MapEntry} {L : List (ByteArray × α)} {s : ByteArray} (h2 : l.length = L.length) (h3 : ∀ (i : Nat) (e : MapEntry) (x : ByteArray × α), l[i]? = some e → L[i]? = some x → e.key = .string x.1 ∧ E e.val x.2) (Du : ∀ e ∈ l, e.key ≠ .string s) : ∀ a ∈ L, a.1 ≠ s := fun a ha has => by
 obtain ⟨i, hi⟩ := List.mem_iff_getElem?.1 ha
 have Ax := (List.getElem?_eq_some_iff.1 hi).1
 have := (h3 i (l[i]'(by omega)) a (List.getElem?_eq_getElem _) hi).1
 exact Du _ (List.getElem_mem _) (by rw [this, has])
theorem MS.look {E : Value → α → Prop} {T K V : TypeId} [mN P T K V] {m : Nat} {L : List (ByteArray × α)} {s : ByteArray} {z : Value} {Φ : Value → Hp → Prop} (h : MS E σ m L) (hz : ∀ w, (zeroValue V).run P w = .ok z w)
   (h0 : Cp L s = none → Φ z σ) (h1 : ∀ v x, Cp L s = some x → E v x → Φ v σ) : AJ P (Instr.lookup T (.map (some m)) (.string s) false) σ Φ := by
 obtain ⟨l, c, hm, h2, h3⟩ := h
 refine MY hm hz (fun Du => h0 (Sc (MS.rX h2 h3 Du))) fun l1 e l2 hl he => ?_
 obtain ⟨L1, x, L2, rfl, _, Du, hE⟩ := Sd hm.nodup h2 h3 hl he
 exact h1 e.val x (Uh Du) hE
theorem MS.Ya {E : Value → α → Prop} {T K V : TypeId} [t : mN P T K V] {m : Nat} {L : List (ByteArray × α)} {s : ByteArray} {z : Value} {Φ : Value → Hp → Prop} (h : MS E σ m L) (hz : ∀ w, (zeroValue V).run P w = .ok z w)
   (h0 : Cp L s = none → Φ (.tuple #[z, .bool false]) σ) (h1 : ∀ v x, Cp L s = some x → E v x → Φ (.tuple #[v, .bool true]) σ) : AJ P (Instr.lookup T (.map (some m)) (.string s) true) σ Φ := by
 obtain ⟨l, c, hm, h2, h3⟩ := h
 rcases FG (s := s) hm.2.2 with ⟨hf, Du⟩ | ⟨l1, e, l2, hl, he, hf⟩
 · refine AJ.pu (fun w hs => ?_) (h0 (Sc (MS.rX h2 h3 Du)))
   have := hs _ _ hm.1
   simp [Instr.lookup, run_underlying t.cb, run_getObj_map this, run_checkKey t.key (k := .string s) trivial, run_findKey t.key hf, hz, Result.andThen]
 · obtain ⟨L1, x, L2, rfl, _, Du, hE⟩ := Sd hm.nodup h2 h3 hl he
   refine AJ.pu (fun w hs => ?_) (h1 e.val x (Uh Du) hE)
   have := hs _ _ hm.1
   simp [Instr.lookup, run_underlying t.cb, run_getObj_map this, run_checkKey t.key (k := .string s) trivial, run_findKey t.key hf, Result.andThen]
theorem MS.put {E : Value → α → Prop} {T K V : TypeId} [mN P T K V] {m : Nat} {L : List (ByteArray × α)} {s : ByteArray} {v : Value} {x : α} {Φ : Unit → Hp → Prop} (h : MS E σ m L) (hv : E v x)
   (hΦ : ∀ o, MS E (σ.set m o) m (P1 L s x) → Φ () (σ.set m o)) : AJ P (Instr.mapUpdate T (.map (some m)) (.string s) v) σ Φ := by
 obtain ⟨l, c, hm, h2, h3⟩ := h
 refine Ha hm (fun Du σ' hσ hm' => ?_) fun l1 e l2 hl he σ' hσ hm' => ?_
 · subst hσ
   refine hΦ _ ⟨_, _, hm', ?_, fun i e y hi hy => ?_⟩
   · rw [Oc (MS.rX h2 h3 Du)]; simp [h2]
   · rw [Oc (MS.rX h2 h3 Du)] at hy
     rw [List.getElem?_append] at hi hy
     split at hi
     · rename_i Ax
       rw [if_pos (by omega)] at hy
       exact h3 i e y hi hy
     · rename_i Ax
       rw [if_neg (by omega)] at hy
       rw [← h2] at hy
       cases hj : i - l.length with
       | zero =>
         rw [hj] at hi hy
         simp only [List.getElem?_cons_zero, Option.some.injEq] at hi hy
         subst hi; subst hy
         exact ⟨rfl, hv⟩
       | succ j => rw [hj] at hi; simp at hi
 · obtain ⟨L1, y, L2, rfl, hlen, Du, hE⟩ := Sd hm.nodup h2 h3 hl he
   subst hσ
   subst hl
   refine hΦ _ ⟨_, _, hm', ?_, fun i e' z hi hz => ?_⟩
   · rw [YZ Du]; simp at h2 ⊢; omega
   · rw [YZ Du] at hz
     by_cases vD : i = l1.length
     · subst vD
       rw [← hlen] at hz
       simp at hi hz
       subst hi; subst hz
       exact ⟨rfl, hv⟩
     · have e1 : (l1 ++ Tw.My s v e.born :: l2)[i]? = (l1 ++ e :: l2)[i]? := by
         rcases Nat.lt_or_ge i l1.length with h | h
         · rw [List.getElem?_append_left h, List.getElem?_append_left h]
         · obtain ⟨k, rfl⟩ : ∃ k, i = l1.length + (k + 1) := ⟨i - l1.length - 1, by omega⟩
           simp [List.getElem?_append_right]
       have e2 : (L1 ++ (s, x) :: L2)[i]? = (L1 ++ (s, y) :: L2)[i]? := by
         rcases Nat.lt_or_ge i L1.length with h | h
         · rw [List.getElem?_append_left h, List.getElem?_append_left h]
         · obtain ⟨k, rfl⟩ : ∃ k, i = L1.length + (k + 1) := ⟨i - L1.length - 1, by omega⟩
           simp [List.getElem?_append_right]
       exact h3 i e' z (by rw [← e1]; exact hi) (by rw [← e2]; exact hz)
end
end
end TwW
end
section
namespace TwW
open Go Tw Go.RowKit Go.Proofs.Tryz
def Ny (n : Nd) (l : List Int) : Int × Int :=
 if n.kind = 1 then (1, 0) else if n.kind = 2 then (2, 0) else if n.kind = 3 then (3, 0) else if n.kind = 4 then YY n (l[0]?.getD 0) else if n.kind = 5 then eI (l[0]?.getD 0)
 else if n.kind = 6 then gQ n (l[0]?.getD 0) (l[1]?.getD 0) else mn (l[0]?.getD 0)
def BO (n : Nd) (st : List Int) : Int × List Int :=
 if E5 n = false ∨ (st.length : Int) < n.parts then (190, st) else if Gt C8 n.mt ≠ 0 then (193, st) else
   ((Ny n (st.drop (st.length - n.parts.toNat))).2, st.take (st.length - n.parts.toNat) ++ [(Ny n (st.drop (st.length - n.parts.toNat))).1])
theorem IH {n : Nd} (h : E5 n = true) : Fj n = true := by
 unfold E5 at h
 simp only [Bool.and_eq_true] at h
 exact h.2
theorem Od {n : Nd} (h : E5 n = true) : Fz n (BJ n) = true := by
 unfold E5 at h
 simp only [Bool.and_eq_true] at h
 exact h.1.1.1
theorem BB.AI {s b : Nat} {o : Obj} {σ : Hp} {p : Option Addr} {n c : Nat} {cs : List Value} (ho : BB s σ p n c cs) (h : ∀ a, p = some a → a.block ≠ b) : BB s (σ.set b o) p n c cs :=
 ⟨ho.1, ho.2.1, ho.2.2.imp id fun ⟨b', o', arr, T, hp, hb, r⟩ => ⟨b', o', arr, T, hp, by rw [Hp.AI (h _ hp)]; exact hb, r⟩⟩
theorem rY : ∀ w, (zeroValue 148).run prog w = .ok .nilFunc w := fun w => by
 have h : prog.info? 148 = some t148 := by kernel_rfl
 simp [zeroValue, typeInfo, h]
 rfl
structure bY (σ0 σ : Hp) (wb : Nat) (p : Option Addr) (n c : Nat) (st : List Int) : Prop where
 cell : σ wb = some (.cells #[.slice p n c] 110 (0, 0))
 own : Dh .i64 σ p n c st
 off : ∀ a, p = some a → a.block ≠ wb ∧ σ0 a.block = none
 new : σ0 wb = none
 ext : Ext σ0 σ
section
variable {σ σ' σ0 : Hp} {R : Rr}
theorem bY.mono {wb : Nat} {p : Option Addr} {n c : Nat} {st : List Int} (h : bY σ0 σ wb p n c st) (hx : Ext σ σ') : bY σ0 σ' wb p n c st := ⟨hx _ _ h.cell, h.own.mono hx, h.off, h.new, h.ext.trans hx⟩
theorem Oe {k : Int} (h : ∀ b, σ b = none → R (.returned (.func (.func 127) #[] #[.pointer (aD b 0)])) (σ.set b (.cells #[.int .i64 k] 3 (0, 0)))) : Spec prog 81 #[.int .i64 k] σ R := R0.start h
theorem Mf {n : Nd} {p q r : Option Addr} {k c m d s t b : Nat} {v : Int} (hb : σ b = some (.cells #[.int .i64 v] 3 (0, 0))) (h : R (.returned (tyV (v, 0))) σ) : Spec prog 127 #[Ll n p k c q m d, .slice r s t, .pointer (aD b 0)] σ R :=
 DR.start fun _ => ⟨v, Ad hb rfl, h⟩
theorem rZ : ∀ w, (Go.sizeOf 108).run prog w = .ok 1 w := fun w => by kernel_rfl
theorem gS {wb : Nat} {p q r : Option Addr} {k c m d j e : Nat} {st : List Int} {n : Nd} (hW : bY σ0 σ wb r j e st) (hm : Ag 3 Nw σ0 p k n.mt) (hr : Eu 1 σ0 q m (n.names.map .string)) (hb : n.text.size ≤ 4611686018427387904) (hj : j ≤ 1000000000000)
   (h : ∀ r' j' e' σ', (BO n st).1 = 0 → bY σ0 σ' wb r' j' e' (BO n st).2 → R (.returned (.int .i64 0)) σ') (h' : ∀ σ', (BO n st).1 ≠ 0 → Ext σ0 σ' → R (.returned (.int .i64 (BO n st).1)) σ') :
   Spec prog 53 #[.pointer (some ⟨wb, 0, none⟩), Ll n p k c q m d] σ R := by
 have hk : n.mt.length = k := hm.1
 have hsl : st.length = j := by have := hW.own.1; simpa using this
 refine JJ.start fun _ => gN hk (hr.mono hW.ext) hb fun σ1 CK => ⟨_, rfl, fun hf => ?_, fun ht => ?_⟩
 · have e1 : BO n st = (190, st) := by unfold BO; rw [if_pos (.inl hf)]
   rw [e1] at h'
   exact h' σ1 (by dsimp only; decide) (hW.ext.trans CK)
 have hW1 := hW.mono CK
 refine ⟨wb, 0, rfl, r, j, e, Ad hW1.cell rfl, fun Ax => ?_, fun fz => PS (hm.mono Nw.mono hW1.ext) ⟨_, rfl, fun BE => ?_, fun h0 => ?_⟩⟩
 · have e1 : BO n st = (190, st) := by unfold BO; rw [if_pos (.inr (by omega))]
   rw [e1] at h'
   exact h' σ1 (by dsimp only; decide) hW1.ext
 · have e1 : BO n st = (193, st) := by unfold BO; rw [if_neg (by rw [ht]; simp; omega), if_pos BE]
   rw [e1] at h'
   exact h' σ1 (by dsimp only; decide) hW1.ext
 have eC := Decidable.not_not.1 h0
 have eS : BO n st = ((Ny n (st.drop (st.length - n.parts.toNat))).2, st.take (st.length - n.parts.toNat) ++ [(Ny n (st.drop (st.length - n.parts.toNat))).1]) := by
   unfold BO; rw [if_neg (by rw [ht]; simp; omega), if_neg h0]
 rw [eS] at h h'
 dsimp only at h h'
 have Cs := IH ht
 have AK4 : 0 ≤ n.parts := by
   unfold Fj at Cs
   have hp := Od ht
   by_cases h1 : n.kind = 1
   · unfold Fz BJ at hp; simp [h1] at hp; omega
   by_cases h2 : n.kind = 2
   · unfold Fz BJ at hp; simp [h2] at hp; omega
   by_cases h3 : n.kind = 3
   · unfold Fz BJ at hp; simp [h3] at hp; omega
   rw [if_neg h1, if_neg h2, if_neg h3] at Cs
   split at Cs
   · simp at Cs; omega
   · split at Cs
     · simp at Cs; omega
     · split at Cs
       · simp at Cs; omega
       · simp at Cs; omega
 obtain ⟨t, hpt⟩ : ∃ t : Nat, n.parts = t := ⟨n.parts.toNat, by omega⟩
 have htj : t ≤ j := by omega
 have htn : n.parts.toNat = t := by omega
 rw [htn, hsl] at h h'
 refine EE fun mb mr => ⟨mb, rfl, ?_⟩
 have s0 := mq.fresh mr
 refine Oe fun b1 Za => ⟨_, _, _, rfl, ?_⟩
 have s1 := s0.alloc (o := .cells #[.int .i64 1] 3 (0, 0)) Za
 refine s1.put (by simp) fun σ2 s2 => Oe fun b2 Pb => ⟨_, _, _, rfl, ?_⟩
 have s3 := s2.alloc (o := .cells #[.int .i64 2] 3 (0, 0)) Pb
 refine s3.put (by simp) fun σ4 s4 => Oe fun b3 ZY => ⟨_, _, _, rfl, ?_⟩
 have s5 := s4.alloc (o := .cells #[.int .i64 3] 3 (0, 0)) ZY
 refine s5.put (by simp) fun σ6 s6 => s6.put (by simp) fun σ7 s7 => s7.put (by simp) fun σ8 s8 => s8.put (by simp) fun σ9 s9 => s9.put (by simp) fun σA sA => ?_
 clear s0 s1 s3 s5 s6 s7 s8 s9
 have n1 : σ1 b1 = none := (Hp.AV Za).2
 have n2 : (σ1.set b1 (.cells #[.int .i64 1] 3 (0, 0))) b2 = none := A8 s2.1 Pb
 have n3 : ((σ1.set b1 (.cells #[.int .i64 1] 3 (0, 0))).set b2 (.cells #[.int .i64 2] 3 (0, 0))) b3 = none := A8 s4.1 ZY
 have x1 : Ext σ1 σA := (Ext.set n1).trans ((Ext.set n2).trans ((Ext.set n3).trans sA.1))
 have c3 := sA.1 b3 _ (Hp.AB _ _ _)
 have c2 := sA.1 b2 _ ((Ext.set n3) _ _ (Hp.AB _ _ _))
 have c1 := sA.1 b1 _ ((Ext.set n3) _ _ ((Ext.set n2) _ _ (Hp.AB _ _ _)))
 have gT := hW1.mono x1
 have hlA := sA.2.2
 clear s2 s4 sA n1 n2 n3 Za Pb ZY
 simp only [List.nil_append, List.cons_append] at hlA
 have e1 : Int.toNat ((j : Int) - n.parts) = j - t := by omega
 refine ⟨r, j, e, Ad gT.cell rfl, by unfold AM; omega, r, j, e, Ad gT.cell rfl, by omega, ?_⟩
 have hce : j ≤ e := BB.cap gT.own
 have Vs : E1 .i64 σA (IP r (j - t) e 1) (j - (j - t)) (st.drop (j - t)) := by
   have := Ag.sub (i := j - t) (m := j - (j - t)) (Dh.rd gT.own) (by decide) (by omega) hce
   rwa [List.take_of_length_le (by rw [List.length_drop]; omega)] at this
 have Vs : E1 .i64 σA (IP r (Int.toNat ((j : Int) - n.parts)) e 1) (j - Int.toNat ((j : Int) - n.parts)) (st.drop (j - t)) := by rw [e1]; exact Vs
 have fin : ∀ x : Int × Int, x = Ny n (st.drop (j - t)) → AA R (fun z aY => ∃ VO HZ, z = (.tuple #[.int .i64 VO, .int .i64 HZ]) ∧ LS aY wb 0 fun ox kG dU => ((0 : Int) ≤ ((j : Int) - n.parts) ∧ ((j : Int) - n.parts) ≤ (dU : Int)) ∧ Al aY fun VH => AJ prog (Builtin.append_ #[108, 108] 108 #[(.slice ox (Int.toNat ((j : Int) - n.parts)) dU), (.slice (aD VH 0) 1 1)]) (Hp.set aY VH (.cells #[.int .i64 VO] 113 (0, 0))) (CS fun p72 n72 c72 xU => AJ prog (Instr.storeAt 108 (.pointer (aD wb 0)) (.slice p72 n72 c72)) xU (fun _ xV => R (.returned (.int .i64 HZ)) xV))) (.returned (tyV x)) σA := fun x hx => by
   rw [← hx] at h h'
   refine ⟨x.1, x.2, rfl, r, j, e, Ad gT.cell rfl, by omega, fun VH mu => ?_⟩
   rw [e1]
   have BY := (BB.take (m := j - t) gT.own (by omega)).mono (Ext.set (o := .cells #[.int .i64 x.1] 113 (0, 0)) mu)
   refine Dx BY (Vk (f := .int .i64) (x := x.1) (Hp.AB _ _ _)) GB.P9 (by omega) fun p' c' σB y5 vE => ⟨_, _, _, rfl, ?_⟩
   have hwb : ∀ a, r = some a → wb ≠ a.block := fun a ha => Ne.symm (gT.off a ha).1
   have Nz : wb ≠ VH := fun e => by rw [← e, gT.cell] at mu; cases mu
   obtain ⟨g1, g2⟩ := AS.1 (vE wb _ (AS.2 ⟨hwb, (Ext.set mu) _ _ gT.cell⟩))
   have hE0 : Ext σ0 (σB.del p') := fun k u hk => vE k u (AS.2 ⟨fun a ha iy => (by rw [iy, (gT.off a ha).2] at hk; cases hk), (Ext.set mu) _ _ (gT.ext _ _ hk)⟩)
   refine AJ.store rZ g2 rfl (by simp) (by simp [Value.cells, Value.oneCell']) ?_
   have ra : bY σ0 (σB.set wb (.cells (Mm #[.slice r j e] 0 (Value.slice p' (j - t + 1) c').cells.toList) 110 (0, 0))) wb p' (j - t + 1) c' (st.take (j - t) ++ [x.1]) := by
     refine ⟨by rw [Hp.AB]; simp [Mm, Value.cells], ?_, fun a ha => ⟨fun e => g1 a ha e.symm, ?_⟩, gT.new, fun k u hk => ?_⟩
     · have := BB.AI (b := wb) (o := .cells (Mm #[.slice r j e] 0 (Value.slice p' (j - t + 1) c').cells.toList) 110 (0, 0)) y5 (fun a ha e => g1 a ha e.symm)
       unfold Dh
       rw [List.map_append, List.map_take]
       simpa using this
     · cases hh : σ0 a.block with
       | none => rfl
       | some u => exact absurd rfl ((AS.1 (hE0 _ _ hh)).1 a ha)
     · rw [Hp.AI (fun e => by rw [e, gT.new] at hk; cases hk)]
       exact (AS.1 (hE0 _ _ hk)).2
   by_cases hz : x.2 = 0
   · rw [hz]; exact h _ _ _ _ hz ra
   · exact h' _ hz ra.ext
 have part : ∀ i, i < t → ∃ v, (st.drop (j - t))[i]? = some v := fun i hi => ⟨_, List.getElem?_eq_getElem (by rw [List.length_drop]; omega)⟩
 refine hlA.look rY (fun Du => ?_) fun v hv => ⟨v, rfl, Kp.HS (.refl _), ?_⟩
 · exfalso
   unfold Fj at Cs
   have g := fun i => Du i
   simp only [List.mem_cons, List.not_mem_nil, or_false, forall_eq_or_imp, forall_eq] at Du
   obtain ⟨a1, a2, a3, a4, a5, a6, a7⟩ := Du
   rw [if_neg (Ne.symm a1), if_neg (Ne.symm a2), if_neg (Ne.symm a3), if_neg (Ne.symm a4), if_neg (Ne.symm a5), if_neg (Ne.symm a6)] at Cs
   exact a7 (of_decide_eq_true Cs).1.symm
 simp only [List.mem_cons, List.not_mem_nil, or_false, Prod.mk.injEq] at hv
 rcases hv with ⟨hn, rfl⟩ | ⟨hn, rfl⟩ | ⟨hn, rfl⟩ | ⟨hn, rfl⟩ | ⟨hn, rfl⟩ | ⟨hn, rfl⟩ | ⟨hn, rfl⟩
 · exact ⟨127, _, _, rfl, DR.en, Mf c1 (fin _ (by unfold Ny; rw [if_pos hn]))⟩
 · exact ⟨127, _, _, rfl, DR.en, Mf c2 (fin _ (by unfold Ny; rw [if_neg (by omega), if_pos hn]))⟩
 · exact ⟨127, _, _, rfl, DR.en, Mf c3 (fin _ (by unfold Ny; rw [if_neg (by omega), if_neg (by omega), if_pos hn]))⟩
 · have ht1 : t = 1 := by unfold Fj at Cs; simp [hn] at Cs; omega
   obtain ⟨v, hv⟩ := part 0 (by omega)
   exact ⟨82, _, _, rfl, Bh.en, bW Vs hv (fin _ (by unfold Ny; rw [if_neg (by omega), if_neg (by omega), if_neg (by omega), if_pos hn, hv]; rfl))⟩
 · have ht1 : t = 1 := by unfold Fj at Cs; simp [hn] at Cs; omega
   obtain ⟨v, hv⟩ := part 0 (by omega)
   exact ⟨83, _, _, rfl, EU.en, gO Vs hv (fin _ (by unfold Ny; rw [if_neg (by omega), if_neg (by omega), if_neg (by omega), if_neg (by omega), if_pos hn, hv]; rfl))⟩
 · have ht1 : t = 2 := by unfold Fj at Cs; simp [hn] at Cs; omega
   obtain ⟨v, hv⟩ := part 0 (by omega)
   obtain ⟨u, hu⟩ := part 1 (by omega)
   exact ⟨84, _, _, rfl, Ec.en, gR Vs hv hu (fin _ (by unfold Ny; rw [if_neg (by omega), if_neg (by omega), if_neg (by omega), if_neg (by omega), if_neg (by omega), if_pos hn, hv, hu]; rfl))⟩
 · have ht1 : t = 1 := by unfold Fj at Cs; simp [hn] at Cs; omega
   obtain ⟨v, hv⟩ := part 0 (by omega)
   exact ⟨85, _, _, rfl, Ei.en, gP Vs hv (fin _ (by unfold Ny; rw [if_neg (by omega), if_neg (by omega), if_neg (by omega), if_neg (by omega), if_neg (by omega), if_neg (by omega), hv]; rfl))⟩
def Cq : List Nd → List Int → Option (List Int)
 | [], st => some st
 | n :: t, st => if (BO n st).1 = 0 then Cq t (BO n st).2 else none
def vF (t : List Nd) : Option (List Int) → Option Int
 | some [k] => if t.length ≤ 4096 then some k else none
 | _ => none
def JY (t : List Nd) : Option Int := vF t (Cq t [])
theorem Ma.at {p : Option Addr} {n i : Nat} {t : List Nd} {x : Nd} (hr : Ag 10 Ma σ p n t) (hx : t[i]? = some x) : ∃ b o p1 k c q m d, p = some ⟨b, o, none⟩ ∧ Av σ b (o + i * 10) [.int .i64 x.kind, .int .i64 x.op, .string x.text, .slice p1 k c, .int .i64 x.width, .int .i64 x.back, .int .i64 x.EL, .slice q m d, .bool x.bool, .int .i64 x.parts] ∧ Ag 3 Nw σ p1 k x.mt ∧ Eu 1 σ q m (x.names.map .string) := by
 obtain ⟨b, o, vs, hp, ⟨p1, k, c, q, m, d, rfl, h1, h2⟩, hl⟩ := Ag.idx hr hx
 exact ⟨b, o, p1, k, c, q, m, d, hp, hl, h1, h2⟩
theorem mw {n : Nd} {st : List Int} : (BO n st).2.length ≤ st.length + 1 := by
 unfold BO
 split
 · exact Nat.le_succ _
 · split
   · exact Nat.le_succ _
   · simp only [List.length_append, List.length_take, List.length_singleton]; omega
theorem Se {p : Option Addr} {n c : Nat} {t : List Nd} (hr : Ag 10 Ma σ p n t) (hn : n ≤ 1000000000) (hb : ∀ x ∈ t, x.text.size ≤ 4611686018427387904)
   (h : ∀ k σ', JY t = some k → Ext σ σ' → R (.returned (.tuple #[.int .i64 k, .int .i64 0, .int .i64 0])) σ') (h' : ∀ k j e σ', JY t = none → e ≠ 0 → Ext σ σ' → R (.returned (.tuple #[.int .i64 k, .int .i64 j, .int .i64 e])) σ') :
   Spec prog 37 #[.slice p n c] σ R := by
 have hl : t.length = n := hr.1
 refine FT.start fun wb hwb => ?_
 suffices H : ∀ g k : Nat, ∀ r j e st σ', n - k = g → k ≤ n → j ≤ k → bY σ σ' wb r j e st → Cq t [] = Cq (t.drop k) st → FT.A3 R p n c (aD wb 0) p n c n k σ' from
   H n 0 none 0 0 [] _ rfl (Nat.zero_le _) (Nat.le_refl _) ⟨Hp.AB _ _ _, Dh.nil, fun a ha => (by cases ha), hwb, .set hwb⟩ rfl
 intro g
 induction g with
 | zero =>
   intro k r j e st σ' hg hk hj hW he
   rw [List.drop_eq_nil_of_le (by omega)] at he
   have CX : st.length = j := by have := hW.own.1; simpa using this
   have ht : JY t = vF t (some st) := by unfold JY; rw [he]; rfl
   refine FT.AZ ⟨fun Ax => by omega, fun _ => ⟨wb, 0, rfl, r, j, e, Ad hW.cell rfl, fun h1 => h' _ _ _ σ' ?_ (by decide) hW.ext, fun h1 => ⟨fun Iz => h' _ _ _ σ' ?_ (by decide) hW.ext, fun iW => ?_⟩⟩⟩
   · rw [ht]
     match st, CX with
     | [], _ => rfl
     | [_], CX => simp at CX; omega
     | _ :: _ :: _, _ => rfl
   · rw [ht]
     match st, CX with
     | [], _ => rfl
     | [_], CX => exact if_neg (by omega)
     | _ :: _ :: _, _ => rfl
   · have vh : j = 1 := by omega
     subst vh
     match st, CX with
     | [x], _ =>
       obtain ⟨b, o, rfl, EK⟩ := E1.at (Dh.rd hW.own) (i := 0) (x := x) rfl
       exact ⟨_, 1, e, Ad hW.cell rfl, b, o, rfl, by omega, x, by simpa using EK, h x σ' (by rw [ht]; exact if_pos (by omega)) hW.ext⟩
 | succ g ih =>
   intro k r j e st σ' hg hk hj hW he
   have G7 : k < n := by omega
   obtain ⟨x, hx⟩ := hr.ex G7
   obtain ⟨b, o, p1, k1, c1, q1, m1, d1, rfl, EK, h1, h2⟩ := Ma.at hr hx
   rw [A6 hx, Cq] at he
   refine FT.AZ ⟨fun _ => ⟨b, o, rfl, by omega, _, _, _, _, _, _, _, _, _, _, _, _, _, _, by simpa using EK.mono hW.ext, fun _ => ?_⟩, fun hh => by omega⟩
   refine gS hW h1 h2 (hb x (List.mem_of_getElem? hx)) (by omega) (fun r' j' e' σ2 h0 hW2 => ⟨0, rfl, fun hh => absurd rfl hh, fun _ => ⟨AN G7 hr.big, ih (k + 1) r' j' e' _ σ2 (by omega) (by omega) ?_ hW2 ?_⟩⟩) fun σ2 h0 A9 => ⟨_, rfl, fun _ => h' _ _ _ σ2 ?_ h0 A9, fun hh => absurd h0 hh⟩
   · have h3 := mw (n := x) (st := st)
     have h4 : (BO x st).2.length = j' := by have := hW2.own.1; simpa using this
     have h5 : st.length = j := by have := hW.own.1; simpa using this
     omega
   · rw [he, if_pos h0]
   · unfold JY; rw [he, if_neg h0]; rfl
end
end TwW
end
section
namespace Go.Proofs
open Go.Shelf
def Tryz.Yb : Go.Shelf.Ren := ⟨fun | 143 => 260 | 219 => 290 | 217 => 169 | 225 => 318 | 224 => 319 | 267 => 320 | 266 => 209 | 314 => 329 | n => n, fun | 9 => 9 | 3 => 3 | 4 => 4 | 5 => 5 | 46 => 141 | 146 => 355 | 51 => 168 | n => n, fun | 1 => 1 | n => n⟩
theorem Tryz.rf : Go.Proofs.Lays.n143 Tryz.prog Tryz.Yb := {
 mixed := by kernel_rfl
 f143 := Tryz.func260.trans (congrArg some (by kernel_rfl))
 f217 := Tryz.func169.trans (congrArg some (by kernel_rfl))
 f219 := Tryz.func290.trans (congrArg some (by kernel_rfl))
 f224 := Tryz.func319.trans (congrArg some (by kernel_rfl))
 f225 := Tryz.func318.trans (congrArg some (by kernel_rfl))
 f266 := Tryz.func209.trans (congrArg some (by kernel_rfl))
 f267 := Tryz.func320.trans (congrArg some (by kernel_rfl))
 f314 := Tryz.func329.trans (congrArg some (by kernel_rfl))
 t3 := Tryz.underlying3
 a3 := Tryz.isAgg3
 z3 := Tryz.sizeOf3
 v3 := Tryz.zeroValue3
 t4 := Tryz.underlying4
 a4 := Tryz.isAgg4
 z4 := Tryz.sizeOf4
 v4 := Tryz.zeroValue4
 t5 := Tryz.underlying5
 a5 := Tryz.isAgg5
 z5 := Tryz.sizeOf5
 v5 := Tryz.zeroValue5
 t9 := Tryz.underlying9
 a9 := Tryz.isAgg9
 z9 := Tryz.sizeOf9
 v9 := Tryz.zeroValue9
 t46 := Tryz.underlying141
 a46 := Tryz.isAgg141
 z46 := Tryz.sizeOf141
 v46 := Tryz.zeroValue141
 t51 := Tryz.underlying168
 a51 := Tryz.isAgg168
 z51 := Tryz.sizeOf168
 v51 := Tryz.zeroValue168
 t146 := Tryz.underlying355
 a146 := Tryz.isAgg355
 z146 := Tryz.sizeOf355
 v146 := Tryz.zeroValue355
 g1 := by kernel_rfl }
open Go.RowKit Go.Lib in
theorem Tryz.strings_Index (s sub : ByteArray) (m : Int) (w : World) (hs : s.size < 4294967281) (hm : w.cell? ⟨1, 0, none⟩ = some (.int .i64 m)) :
   Calls Tryz.prog 260 #[.string s, .string sub] w fun e w' => e = .returned (.int .i64 (Lib.index s.data.toList sub.data.toList)) ∧ w' = w := Any.strings_Index Tryz.rf s sub m w hs hm
def Tryz.Yc : Go.Shelf.Ren := ⟨fun | 146 => 221 | 221 => 237 | 268 => 258 | 138 => 259 | 143 => 260 | 195 => 287 | 197 => 288 | 218 => 289 | 219 => 290 | 260 => 317 | 217 => 169 | 225 => 318 | 224 => 319 | 267 => 320 | 266 => 209 | 314 => 329 | n => n, fun | 9 => 9 | 31 => 34 | 3 => 3 | 4 => 4 | 0 => 0 | 105 => 318 | 21 => 21 | 5 => 5 | 46 => 141 | 119 => 351 | 139 => 354 | 138 => 353 | 146 => 355 | 51 => 168 | n => n, fun | 1 => 1 | 3 => 11 | 4 => 12 | n => n⟩
theorem Tryz.rh : Go.Proofs.Lays.n146 Tryz.prog Tryz.Yc := {
 mixed := by kernel_rfl
 f138 := Tryz.func259.trans (congrArg some (by kernel_rfl))
 f143 := Tryz.func260.trans (congrArg some (by kernel_rfl))
 f146 := Tryz.func221.trans (congrArg some (by kernel_rfl))
 f195 := Tryz.func287.trans (congrArg some (by kernel_rfl))
 f197 := Tryz.func288.trans (congrArg some (by kernel_rfl))
 f217 := Tryz.func169.trans (congrArg some (by kernel_rfl))
 f218 := Tryz.func289.trans (congrArg some (by kernel_rfl))
 f219 := Tryz.func290.trans (congrArg some (by kernel_rfl))
 f221 := Tryz.func237.trans (congrArg some (by kernel_rfl))
 f224 := Tryz.func319.trans (congrArg some (by kernel_rfl))
 f225 := Tryz.func318.trans (congrArg some (by kernel_rfl))
 f260 := Tryz.func317.trans (congrArg some (by kernel_rfl))
 f266 := Tryz.func209.trans (congrArg some (by kernel_rfl))
 f267 := Tryz.func320.trans (congrArg some (by kernel_rfl))
 f268 := Tryz.func258.trans (congrArg some (by kernel_rfl))
 f314 := Tryz.func329.trans (congrArg some (by kernel_rfl))
 t0 := Tryz.underlying0
 a0 := Tryz.isAgg0
 z0 := Tryz.sizeOf0
 v0 := Tryz.zeroValue0
 t3 := Tryz.underlying3
 a3 := Tryz.isAgg3
 z3 := Tryz.sizeOf3
 v3 := Tryz.zeroValue3
 t4 := Tryz.underlying4
 a4 := Tryz.isAgg4
 z4 := Tryz.sizeOf4
 v4 := Tryz.zeroValue4
 t5 := Tryz.underlying5
 a5 := Tryz.isAgg5
 z5 := Tryz.sizeOf5
 v5 := Tryz.zeroValue5
 t9 := Tryz.underlying9
 a9 := Tryz.isAgg9
 z9 := Tryz.sizeOf9
 v9 := Tryz.zeroValue9
 t21 := Tryz.underlying21
 a21 := Tryz.isAgg21
 z21 := Tryz.sizeOf21
 v21 := Tryz.zeroValue21
 t31 := Tryz.underlying34
 a31 := Tryz.isAgg34
 z31 := Tryz.sizeOf34
 v31 := Tryz.zeroValue34
 t46 := Tryz.underlying141
 a46 := Tryz.isAgg141
 z46 := Tryz.sizeOf141
 v46 := Tryz.zeroValue141
 t51 := Tryz.underlying168
 a51 := Tryz.isAgg168
 z51 := Tryz.sizeOf168
 v51 := Tryz.zeroValue168
 t105 := Tryz.underlying318
 a105 := Tryz.isAgg318
 z105 := Tryz.sizeOf318
 v105 := Tryz.zeroValue318
 t119 := Tryz.underlying351
 a119 := Tryz.isAgg351
 z119 := Tryz.sizeOf351
 t138 := Tryz.underlying353
 a138 := Tryz.isAgg353
 z138 := Tryz.sizeOf353
 v138 := Tryz.zeroValue353
 t139 := Tryz.underlying354
 a139 := Tryz.isAgg354
 z139 := Tryz.sizeOf354
 v139 := Tryz.zeroValue354
 t146 := Tryz.underlying355
 a146 := Tryz.isAgg355
 z146 := Tryz.sizeOf355
 v146 := Tryz.zeroValue355
 g1 := by kernel_rfl
 g3 := by kernel_rfl
 g4 := by kernel_rfl }
open Go.RowKit Go.Lib in
theorem Tryz.strings_Split (s sep : ByteArray) (m : Int) (w : World) (hs : s.size < 4294967281) (hm : w.cell? ⟨1, 0, none⟩ = some (.int .i64 m)) (h1 : 1 ≤ sep.size) :
   Calls Tryz.prog 221 #[.string s, .string sep] w fun e w' =>
     e = .returned (.slice (some ⟨w.heap.size, 0, none⟩) (Lib.countB s sep + 1) (Lib.countB s sep + 1)) ∧ w' = w.alloc (.cells ((Lib.splitB sep 0 (Lib.countB s sep) s).map Value.string).toArray 9) := Any.strings_Split Tryz.rh (by kernel_rfl) s sep m w hs hm h1
end Go.Proofs
end
section
namespace TwW
open Go Tw Go.RowKit Go.Proofs.Tryz
section
variable {P : Program} {f : FuncId} {args : Array Value} {σ σ' : Hp} {R : Rr}
theorem Spec.below {v : Value} (h : ∀ w, Sat σ w → Calls P f args w fun e w' => e = .returned v ∧ Below w.heap.size w w') (hR : R (.returned v) σ) : Spec P f args σ R := fun w F hs hF =>
 (h w hs).mono fun e w' ⟨he, hb⟩ => ⟨σ, he ▸ hR, fun b o ho => by
   have h1 := hs b o ho
   rw [hb.block b (Array.getElem?_eq_some_iff.1 h1).1]; exact h1, fun b hFb => ⟨(hF b hFb).2, hb.block b (hF b hFb).1⟩, ⟨hb.os, hb.tape, fun h => h.elim⟩, hb.output, hb.size⟩
theorem Spec.same {v : Value} (h : ∀ w, Sat σ w → Calls P f args w fun e w' => e = .returned v ∧ w' = w) (hR : R (.returned v) σ) : Spec P f args σ R :=
 Spec.below (fun w hs => (h w hs).mono fun e w' ⟨he, hw⟩ => ⟨he, hw ▸ Below.refl _ _⟩) hR
theorem Spec.y7 {o : Obj} {v : Nat → Value} (h : ∀ w, Sat σ w → Calls P f args w fun e w' => e = .returned (v w.heap.size) ∧ w' = w.alloc o) (hR : ∀ b, σ b = none → R (.returned (v b)) (σ.set b o)) : Spec P f args σ R := fun w F hs hF =>
 (h w hs).mono fun e w' ⟨he, hw⟩ => ⟨σ.set w.heap.size o, he ▸ hR _ (FQ hs), by subst hw; exact Fin.alloc hs hF _ rfl (.same rfl rfl rfl) rfl⟩
theorem cell_of {w : World} {b o : Nat} {v : Value} (hs : Sat σ w) (h : σ.ld ⟨b, o, none⟩ = some v) : w.cell? ⟨b, o, none⟩ = some v := by
 have := Tl (ys := [v]) hs ⟨h, trivial⟩ 0 v rfl
 simpa [Bi] using this
end
def Sf : List Nat := [4607182418800017408, 4621819117588971520, 4636737291354636288, 4652007308841189376, 4666723172467343360, 4681608360884174848, 4696837146684686336, 4711630319722168320, 4726483295884279808, 4741671816366391296, 4756540486875873280, 4771362005757984768, 4786511204640096256, 4801453603149578240, 4816244402031689728, 4831355200913801216]
structure Gl (σ : Hp) : Prop where
 len : ∃ m : Int, σ.ld ⟨1, 0, none⟩ = some (.int .i64 m)
 opt : σ.ld ⟨5, 0, none⟩ = some (.bool true)
 bits : σ.ld ⟨6, 0, none⟩ = some (.int .u64 52)
 pow : ∃ b o n c, σ.ld ⟨9, 0, none⟩ = some (.slice (some ⟨b, o, none⟩) n c) ∧ 16 ≤ n ∧ ∀ i v, Sf[i]? = some v → σ.ld ⟨b, o + i * 1, none⟩ = some (.float .f64 v)
theorem Gl.mono {σ σ' : Hp} (h : Gl σ) (hx : Ext σ σ') : Gl σ' := ⟨h.len.imp fun _ => hx.ld, hx.ld h.opt, hx.ld h.bits, let ⟨b, o, n, c, h1, h2, h3⟩ := h.pow; ⟨b, o, n, c, hx.ld h1, h2, fun i v hv => hx.ld (h3 i v hv)⟩⟩
section
variable {σ σ' : Hp} {R : Rr}
theorem index_spec {s t : ByteArray} (hg : Gl σ) (hs : s.size < 4294967281) (h : R (.returned (.int .i64 (Lib.index s.data.toList t.data.toList))) σ) : Spec prog 260 #[.string s, .string t] σ R := by
 obtain ⟨m, hm⟩ := hg.len
 exact Spec.same (fun w hw => Go.Proofs.Tryz.strings_Index s t m w hs (cell_of hw hm)) h
theorem Sg {s : ByteArray} {c : UInt8} (hg : Gl σ) (hs : s.size < 4294967281) (h : ∀ b T, σ b = none → R (.returned (.slice (aD b 0) (EJ c s).length (EJ c s).length)) (σ.set b (.cells ((EJ c s).map Value.string).toArray T (0, 0)))) : Spec prog 221 #[.string s, .string ⟨#[c]⟩] σ R := by
 obtain ⟨m, hm⟩ := hg.len
 have hl : (EJ c s).length = Lib.countB s ⟨#[c]⟩ + 1 := Lib.splitB_all ⟨#[c]⟩ (Nat.le_refl 1) 0 _ s rfl
 have h' := fun b => h b 9
 rw [hl] at h'
 exact Spec.y7 (v := fun b => .slice (aD b 0) _ _) (fun w hw => Go.Proofs.Tryz.strings_Split s ⟨#[c]⟩ m w hs (cell_of hw hm) (Nat.le_refl 1)) h'
theorem bZ {s : ByteArray} {l h : Nat} (hl : l ≤ h) (hh : h ≤ s.size) : YF prog (Instr.sliceAt 9 (.string s) (some (.int .i64 (l : Int))) (some (.int .i64 (h : Int))) none) σ (.string (s.extract l h)) := fun w _ => by
 rw [run_sliceAt_string (h := underlying9)]
 have h1 : (h : Int) ≤ s.size := by omega
 have h2 : (l : Int) ≤ h := by omega
 simp [Instr.slice, run_underlying underlying9, Instr.sliceBounds, run_sliceBound, h1, h2, Result.andThen]
theorem Ye {s t : ByteArray} (h : R (.returned (.bool (decide (t.size ≤ s.size ∧ s.extract 0 t.size = t)))) σ) : Spec prog 285 #[.string s, .string t] σ R := by
 refine HF.start (CC.start ⟨fun hle => ⟨_, Ue (by omega), _, rfl, ?_⟩, fun hgt => ⟨_, rfl, ?_⟩⟩)
 · rw [Ta, show decide (s.extract 0 t.size = t) = decide (t.size ≤ s.size ∧ s.extract 0 t.size = t) from decide_eq_decide.2 ⟨fun h => ⟨by omega, h⟩, fun h => h.2⟩]; exact h
 · rw [show false = decide (t.size ≤ s.size ∧ s.extract 0 t.size = t) from (decide_eq_false fun hh => hgt (by omega)).symm]; exact h
theorem Yf {s t : ByteArray} (hs : s.size ≤ 4611686018427387904) (h : R (.returned (.bool (decide (t.size ≤ s.size ∧ s.extract (s.size - t.size) s.size = t)))) σ) : Spec prog 286 #[.string s, .string t] σ R := by
 refine HJ.start (B8.start ⟨fun hle => ⟨by unfold AM; omega, s.extract (s.size - t.size) s.size, ?_, _, rfl, ?_⟩, fun hgt => ⟨_, rfl, ?_⟩⟩)
 · rw [show ((s.size : Nat) : Int) - ((t.size : Nat) : Int) = ((s.size - t.size : Nat) : Int) by omega]; exact Nc (by omega)
 · rw [Ta, show decide (s.extract (s.size - t.size) s.size = t) = decide (t.size ≤ s.size ∧ s.extract (s.size - t.size) s.size = t) from decide_eq_decide.2 ⟨fun h => ⟨by omega, h⟩, fun h => h.2⟩]; exact h
 · rw [show false = decide (t.size ≤ s.size ∧ s.extract (s.size - t.size) s.size = t) from (decide_eq_false fun hh => hgt (by omega)).symm]; exact h
def ETx (_ : Hp) (vs : List Value) (x : ByteArray) : Prop := vs = [.string x]
theorem ETx.mono : Gy ETx := fun _ _ _ _ _ h => h
abbrev eJ := Ag 1 ETx
theorem eJ.at {p : Option Addr} {n i : Nat} {ls : List ByteArray} {x : ByteArray} (hr : eJ σ p n ls) (hx : ls[i]? = some x) : ∃ b o, p = some ⟨b, o, none⟩ ∧ σ.ld ⟨b, o + i * 1, none⟩ = some (.string x) := by
 obtain ⟨b, o, vs, hp, rfl, hl⟩ := Ag.idx hr hx
 exact ⟨b, o, hp, hl.1⟩
theorem eJ.mz {b : Nat} {T : TypeId} {L : List ByteArray} (h : σ b = some (.cells (L.map Value.string).toArray T (0, 0))) (hb : L.length ≤ 4611686018427387904) : eJ σ (aD b 0) L.length L := by
 refine ⟨rfl, L.map .string, ⟨by simp, hb, .inr ⟨b, 0, rfl, Av.of fun j v hj => ?_⟩⟩, by simp, fun i x hx => ?_⟩
 · rw [Nat.zero_add]; exact Ad h (by simpa using hj)
 · have h1 : (L.map Value.string)[i]? = some (.string x) := by rw [List.getElem?_map, hx]; rfl
   rw [Nat.mul_one, A6 h1]; rfl
theorem ri {p : Option Addr} {n c : Nat} {l : List ByteArray} {s : ByteArray} (hg : Gl σ) (hr : eJ σ p n l) (h0 : 0 < n) (hc : n ≤ c) (hs : s.size < 4294967281) (hl : ∀ x ∈ l, x.size ≤ 4294967296) (h : R (.returned (.bool (yx l s))) σ) :
   Spec prog 257 #[.agg #[.slice p n c], .string s] σ R := by
 have hn : l.length = n := hr.1
 have Iz := hr.big
 obtain ⟨a, ha⟩ := hr.ex h0
 obtain ⟨z, hz⟩ := hr.ex (k := n - 1) (by omega)
 obtain ⟨b, o, rfl, hla⟩ := eJ.at hr ha
 obtain ⟨_, _, he, u9⟩ := eJ.at hr hz
 cases he
 have ea : l.head?.getD ⟨#[]⟩ = a := by rw [List.head?_eq_getElem?, ha]; rfl
 have ez : l.getLast?.getD ⟨#[]⟩ = z := by rw [List.getLast?_eq_getElem?, hn, hz]; rfl
 have e1 : Int.toNat ((n : Int) - 1) = n - 1 := by omega
 have hsa := hl a (List.mem_of_getElem? ha)
 have Hc := hl z (List.mem_of_getElem? hz)
 have eK : yx l s = if n = 1 then decide (s = a) else if s.size < a.size + z.size ∨ s.extract 0 a.size ≠ a ∨ s.extract (s.size - z.size) s.size ≠ z then false else gI l.tail.dropLast (s.extract a.size (s.size - z.size)) := by
   unfold yx; rw [ea, ez, hn]
 rw [eK] at h
 refine C5.start fun _ => ⟨b, o, rfl, by omega, a, by simpa using hla, by unfold AM; omega, by omega, z, by rw [e1]; exact u9, fun h1 => ?_, fun h1 => ?_⟩
 · rw [if_pos (by omega)] at h; rw [Ta]; exact h
 rw [if_neg (by omega)] at h
 refine ⟨by unfold AM; omega, fun Ax => ?_, fun fz => Ye ⟨_, rfl, fun hp => ?_, fun hp => Yf (by omega) ⟨_, rfl, fun hq => ?_, fun hq => ?_⟩⟩⟩
 · rw [if_pos (.inl (by omega))] at h; exact h
 · have := of_decide_eq_false hp
   rw [if_pos (.inr (.inl fun e => this ⟨by omega, e⟩))] at h; exact h
 · have := of_decide_eq_false hq
   rw [if_pos (.inr (.inr fun e => this ⟨by omega, e⟩))] at h; exact h
 have hp' := of_decide_eq_true hp
 have hq' := of_decide_eq_true hq
 rw [if_neg (by
                rintro (h3 | h3 | h3)
                · omega
                · exact h3 hp'.2
                · exact h3 hq'.2)] at h
 have rj : eJ σ (IP (aD b o) 1 c 1) (n - 2) (l.tail.dropLast) := by
   have := Ag.sub (i := 1) (m := n - 2) hr (by decide) (by omega) hc
   rwa [List.drop_one, show n - 2 = l.tail.length - 1 by rw [List.length_tail]; omega, ← List.dropLast_eq_take, List.length_tail, show l.length - 1 - 1 = n - 2 by omega] at this
 refine ⟨by unfold AM; omega, s.extract a.size (s.size - z.size), ?_, by unfold AM; omega, by omega, ?_⟩
 · rw [show ((s.size : Nat) : Int) - ((z.size : Nat) : Int) = ((s.size - z.size : Nat) : Int) by omega]; exact bZ (by omega) (by omega)
 rw [e1, show n - 1 - 1 = n - 2 by omega]
 generalize hu : s.extract a.size (s.size - z.size) = u at *
 have hus : u.size < 4294967281 := by rw [← hu, ByteArray.size_extract]; omega
 generalize IP (aD b o) 1 c 1 = q at *
 generalize l.tail.dropLast = ms at *
 clear hu hla u9 ha hz ea ez eK
 suffices H : ∀ g k : Nat, ∀ (q' : Option Addr) (v : ByteArray), (0 < n - 2 → q' = q) → n - 2 - k = g → k ≤ n - 2 → v.size < 4294967281 → gI ms u = gI (ms.drop k) v → C5.Lf R v q' (n - 2) (c - 1) ((n - 2 : Nat) : Int) k σ from H (n - 2) 0 q u (fun _ => rfl) rfl (Nat.zero_le _) hus rfl
 have hml : ms.length = n - 2 := rj.1
 intro g
 induction g with
 | zero =>
   intro k q' v hq hgk hk hv he
   rw [List.drop_eq_nil_of_le (by omega)] at he
   rw [he] at h
   exact C5.Iu ⟨fun Ax => by omega, fun _ => h⟩
 | succ g ih =>
   intro k q' v hq hgk hk hv he
   have G7 : k < n - 2 := by omega
   obtain ⟨t, ht⟩ := rj.ex G7
   obtain ⟨b2, o2, hq2, Ax⟩ := eJ.at rj ht
   rw [hq (by omega), hq2]
   rw [A6 ht, gI] at he
   refine C5.Iu ⟨fun _ => ⟨b2, o2, rfl, by omega, t, by simpa using Ax, index_spec hg hv ⟨_, rfl, fun yz => ?_, fun QZ => ?_⟩⟩, fun hh => by omega⟩
   · rw [if_pos yz] at he; rw [he] at h; exact h
   · rw [if_neg QZ] at he
     have HB := Lib.index_room v.data.toList t.data.toList (by omega)
     have hv1 : v.data.toList.length = v.size := Array.length_toList (xs := v.data)
     have ht1 : t.data.toList.length = t.size := Array.length_toList (xs := t.data)
     generalize hi : Lib.index v.data.toList t.data.toList = i at *
     refine ⟨by unfold AM; omega, v.extract (i.toNat + t.size) v.size, ?_, AN G7 rj.big, ih (k + 1) _ _ (fun _ => hq2.symm) (by omega) (by omega) (by rw [ByteArray.size_extract]; omega) he⟩
     rw [show i + ((t.size : Nat) : Int) = ((i.toNat + t.size : Nat) : Int) by omega]; exact Nc (by omega)
def nB (σ : Hp) (vs : List Value) (l : List ByteArray) : Prop := ∃ p n c, vs = [.slice p n c] ∧ eJ σ p n l ∧ 0 < n ∧ n ≤ c
theorem nB.mono : Gy nB := fun _ _ _ _ hx ⟨p, n, c, hv, h1, h2⟩ => ⟨p, n, c, hv, h1.mono ETx.mono hx, h2⟩
theorem gU {p : Option Addr} {n c : Nat} {L : List (List ByteArray)} {s : ByteArray} (hg : Gl σ) (hr : Ag 1 nB σ p n L) (hs : s.size < 4294967281) (hl : ∀ l ∈ L, ∀ x ∈ l, x.size ≤ 4294967296) (h : R (.returned (.bool (L.any fun l => yx l s))) σ) :
   Spec prog 236 #[.agg #[.slice p n c], .string s] σ R := by
 have hn : L.length = n := hr.1
 refine BU.start fun _ => ?_
 suffices H : ∀ g k : Nat, n - k = g → k ≤ n → (L.any fun l => yx l s) = ((L.drop k).any fun l => yx l s) → BU.Hf R s p n c n k σ from H n 0 rfl (Nat.zero_le _) rfl
 intro g
 induction g with
 | zero =>
   intro k hg' hk he
   rw [List.drop_eq_nil_of_le (by omega)] at he
   rw [he] at h
   exact BU.Be ⟨fun Ax => by omega, fun _ => h⟩
 | succ g ih =>
   intro k hg' hk he
   have G7 : k < n := by omega
   obtain ⟨l, hx⟩ := hr.ex G7
   obtain ⟨b, o, vs, rfl, ⟨p1, n1, c1, rfl, h1, h2, h3⟩, EK⟩ := Ag.idx hr hx
   rw [A6 hx, List.any_cons] at he
   refine BU.Be ⟨fun _ => ⟨b, o, rfl, by omega, p1, n1, c1, by simpa using EK, fun _ => ri hg h1 h2 h3 hs (hl l (List.mem_of_getElem? hx)) ⟨_, rfl, fun ht => ?_, fun hf => ⟨AN G7 hr.big, ih (k + 1) (by omega) (by omega) ?_⟩⟩⟩, fun hh => by omega⟩
   · rw [ht] at he; rw [he] at h; exact h
   · rw [hf] at he; exact he
theorem Og {c : UInt8} {s : ByteArray} : ∀ x ∈ EJ c s, x.size ≤ s.size := by
 unfold EJ
 generalize Lib.countB s ⟨#[c]⟩ = k
 induction k generalizing s with
 | zero => intro x hx; rw [Lib.splitB_zero, List.mem_singleton] at hx; rw [hx]; exact Nat.le_refl _
 | succ k ih =>
   intro x hx
   unfold Lib.splitB at hx
   split at hx
   · rw [List.mem_singleton] at hx; rw [hx]; exact Nat.le_refl _
   · rcases List.mem_cons.1 hx with rfl | hx
     · rw [ByteArray.size_extract]; omega
     · have := ih x hx
       rw [ByteArray.size_extract] at this; omega
theorem Yg {c : UInt8} {s : ByteArray} : (EJ c s).length ≤ s.size + 1 ∧ 0 < (EJ c s).length := by
 have h1 := Lib.splitB_all ⟨#[c]⟩ (Nat.le_refl 1) 0 _ s rfl
 have h2 := Lib.countB_le ⟨#[c]⟩ (Nat.le_refl 1) s.size s (Nat.le_refl _)
 unfold EJ
 omega
theorem Vt {s : ByteArray} (hg : Gl σ) (hs : s.size ≤ 1000000) (h : ∀ p n c σ', Ag 1 nB σ' p n ((EJ 124 s).map (EJ 42)) → Ext σ σ' → R (.returned (.agg #[.slice p n c])) σ') : Spec prog 179 #[.string s] σ R := by
 refine Dp.start fun _ _ => Sg hg (by omega) fun b T hb => ⟨_, _, _, rfl, ?_⟩
 have CK : Ext σ (σ.set b (.cells ((EJ 124 s).map Value.string).toArray T (0, 0))) := .set hb
 obtain ⟨hlen, _⟩ := Yg (c := 124) (s := s)
 have hr : eJ (σ.set b (.cells ((EJ 124 s).map Value.string).toArray T (0, 0))) (aD b 0) (EJ 124 s).length (EJ 124 s) := eJ.mz (Hp.AB _ _ _) (by omega)
 generalize AK5 : σ.set b (.cells ((EJ 124 s).map Value.string).toArray T (0, 0)) = σ1 at *
 have Hc := Og (c := 124) (s := s)
 generalize EJ 124 s = L at *
 suffices H : ∀ g k : Nat, ∀ p3 n3 c3 σ', L.length - k = g → k ≤ L.length → GC 1 nB (σ1.new σ') p3 n3 c3 ((L.take k).map (EJ 42)) → Ext σ1 σ' → Dp.A3 R none 0 0 p3 n3 c3 (aD b 0) L.length L.length L.length k σ' from H L.length 0 none 0 0 σ1 rfl (Nat.zero_le _) GC.nil (.refl _)
 intro g
 induction g with
 | zero =>
   intro k p3 n3 c3 σ' hg' hk ho hx
   rw [List.take_of_length_le (by omega)] at ho
   exact Dp.AZ ⟨fun Ax => by omega, fun _ => h p3 n3 c3 σ' ((ho.rd nB.mono).mono nB.mono (Ext.Cd _ _)) (CK.trans hx)⟩
 | succ g ih =>
   intro k p3 n3 c3 σ' hg' hk ho hx
   have G7 : k < L.length := by omega
   obtain ⟨x, gD⟩ := hr.ex G7
   obtain ⟨b2, o2, he, ZZ⟩ := eJ.at hr gD
   cases he
   have hxs := Hc x (List.mem_of_getElem? gD)
   have pG : n3 = k := by have := ho.1; rw [List.length_map, List.length_take] at this; omega
   refine Dp.AZ ⟨fun _ => ⟨b, 0, rfl, by omega, x, by simpa using hx.ld ZZ, Sg (hg.mono (CK.trans hx)) (by omega) fun b4 T4 hb4 => ⟨_, _, _, rfl, fun UI AK6 => ?_⟩⟩, fun hh => by omega⟩
   obtain ⟨AOM, AFZ⟩ := Yg (c := 42) (s := x)
   have Mp : Ext σ' (σ'.set b4 (.cells ((EJ 42 x).map Value.string).toArray T4 (0, 0))) := .set hb4
   have hp3 : ∀ a, p3 = some a → σ' a.block ≠ none := fun a ha => by
     have := ho.block a ha
     cases hh : (σ1.new σ') a.block with
     | none => exact absurd hh this
     | some oo => rw [(AY.1 hh).2]; simp
   have AK7 : (σ1.new (σ'.set b4 (.cells ((EJ 42 x).map Value.string).toArray T4 (0, 0))) |>.del p3) b4 = some (.cells ((EJ 42 x).map Value.string).toArray T4 (0, 0)) := AS.2 ⟨fun a ha e => hp3 a ha (by rw [← e]; exact hb4), AY.2 ⟨A8 hx hb4, Hp.AB _ _ _⟩⟩
   refine GC.Jg nB.mono (vs := [.slice (aD b4 0) (EJ 42 x).length (EJ 42 x).length]) (x := EJ 42 x) (hx.trans Mp) (ho.mono nB.mono (Ext.Je Mp)) rfl (fun u hu => by rw [List.mem_singleton] at hu; subst hu; rfl) ⟨_, _, _, rfl, eJ.mz AK7 (by omega), AFZ, Nat.le_refl _⟩ (by omega) (fun p' c' σ2 Bc A9 => ⟨_, _, _, rfl, AN G7 hr.big, ih (k + 1) _ _ _ _ (by omega) (by omega) ?_ A9⟩) AK6
   rw [Ab gD, List.map_append]; exact Bc
theorem Ui {p q : Option Addr} {n c m d : Nat} {ms : List Mt} {ls : List Lb} (hg : Gl σ) (hr : Ag 3 Nw σ p n ms) (hq : F7 σ q m ls) (hm : ∀ x ∈ ms, x.val.size ≤ 1000000) (YO : ∀ x ∈ ls, x.2.size ≤ 1000000) (hk : ∀ x ∈ ms, 1 ≤ x.kind ∧ x.kind ≤ 4) (h : ∀ σ', Ext σ σ' → R (.returned (.bool (JS ms ls))) σ') :
   Spec prog 142 #[.slice p n c, .slice q m d] σ R := by
 have hl : ms.length = n := hr.1
 refine D3.start (PA.start fun kb HC => ⟨_, _, _, rfl, ?_⟩)
 have CK := Ext.set (o := .cells #[.nilFunc, (.func (.func 217) #[] #[]), (.func (.func 218) #[] #[]), (.func (.func 219) #[] #[]), (.func (.func 220) #[] #[])] 221 (0, 0)) HC
 have hc := Hp.AB σ kb (.cells #[.nilFunc, (.func (.func 217) #[] #[]), (.func (.func 218) #[] #[]), (.func (.func 219) #[] #[]), (.func (.func 220) #[] #[])] 221 (0, 0))
 generalize AK5 : σ.set kb (.cells #[.nilFunc, (.func (.func 217) #[] #[]), (.func (.func 218) #[] #[]), (.func (.func 219) #[] #[]), (.func (.func 220) #[] #[])] 221 (0, 0)) = σ1 at *
 have hgs : ∀ k : ByteArray, (Cy ls k).size ≤ 1000000 := fun k => by
   clear hq h
   induction ls with
   | nil => unfold Cy; decide
   | cons a l ih =>
     unfold Cy
     split
     · exact YO a (by simp)
     · exact ih fun x hx => YO x (List.mem_cons_of_mem _ hx)
 suffices H : ∀ g k : Nat, ∀ σ', n - k = g → k ≤ n → Ext σ1 σ' → JS ms ls = JS (ms.drop k) ls → D3.A3 R q m d (aD kb 0) 5 5 p n c n k σ' from H n 0 σ1 rfl (Nat.zero_le _) (.refl _) rfl
 intro g
 induction g with
 | zero =>
   intro k σ' hg' G7 hx he
   have := h σ' (CK.trans hx)
   rw [he, List.drop_eq_nil_of_le (by omega)] at this
   exact D3.AZ ⟨fun Ax => by omega, fun _ => this⟩
 | succ g ih =>
   intro k σ' hg' cZ hx he
   have G7 : k < n := by omega
   obtain ⟨x, gD⟩ := hr.ex G7
   obtain ⟨b, o, rfl, EK⟩ := Nw.at hr gD
   have pH := List.mem_of_getElem? gD
   have hk4 := hk x pH
   have UW : JS ms ls = (NT x ls && JS (ms.drop (k + 1)) ls) := by rw [he, A6 gD]; rfl
   have step : ∀ (t : Bool) (σ2 : Hp), t = NT x ls → Ext σ1 σ2 → AA R (CB fun t35 Aa => Bn t35 (R (.returned (.bool false)) Aa) (AM ((k : Int) + 1) ∧ D3.A3 R q m d (aD kb 0) 5 5 (aD b o) n c n ((k : Int) + 1) Aa)) (.returned (.bool t)) σ2 := fun t σ2 ht A9 => by
     refine ⟨t, rfl, fun hf => ?_, fun htt => ⟨AN G7 hr.big, ih (k + 1) σ2 (by omega) (by omega) A9 ?_⟩⟩
     · have := h σ2 (CK.trans A9)
       rw [UW, ← ht, hf] at this; exact this
     · rw [UW, ← ht, htt]; rfl
   refine D3.AZ ⟨fun _ => ⟨b, o, rfl, by omega, x.kind, x.name, x.val, by simpa using (EK.mono (CK.trans hx)), fun _ => Uf ⟨_, rfl, fun hf => ?_, fun ht => ⟨kb, 0, rfl, by omega, ?_⟩⟩⟩, fun hh => by omega⟩
   · exact absurd hk4 (of_decide_eq_false hf)
   have JT : ∀ σ2 p1 n1 c1, Ag 1 nB σ2 p1 n1 ((EJ 124 x.val).map (EJ 42)) → Ext σ1 σ2 → ∀ R2 : Rr, R2 (.returned (.bool (YK x.val (Cy ls x.name)))) σ2 → Spec prog 236 #[.agg #[.slice p1 n1 c1], .string (Cy ls x.name)] σ2 R2 := fun σ2 p1 n1 c1 aQ A9 R2 rk => by
     refine gU (hg.mono (CK.trans A9)) aQ (by have := hgs x.name; omega) (fun l hl y hy => ?_) ?_
     · obtain ⟨z, hz, rfl⟩ := List.mem_map.1 hl
       have h1 := Og y hy
       have h2 := Og z hz
       have h3 := hm x pH
       omega
     · rw [List.any_map]; exact rk
   have row : ∀ (i : Nat) (f : FuncId) (t : Bool), x.kind = i → (#[.nilFunc, (.func (.func 217) #[] #[]), (.func (.func 218) #[] #[]), (.func (.func 219) #[] #[]), (.func (.func 220) #[] #[])] : Array Value)[i]? = some (.func (.func f) #[] #[]) → Enters prog f → t = NT x ls →
       (∀ p1 n1 c1 σ2 (R2 : Rr), Ag 1 nB σ2 p1 n1 ((EJ 124 x.val).map (EJ 42)) → Ext σ1 σ2 → R2 (.returned (.bool t)) σ2 → Spec prog f #[.agg #[.slice p1 n1 c1, .string x.val], .string (Cy ls x.name)] σ2 R2) →
       ∃ v24, Hp.ld σ' ⟨kb, (0 + Int.toNat x.kind * 1), none⟩ = some v24 ∧ Spec prog 179 #[.string x.val] σ' (AA R (fun z AF => ∃ MT Lh MU, z = (.agg #[.slice MT Lh MU]) ∧ Kp [kb] σ' AF ∧ Spec prog 180 #[.slice q m d, .string x.name] AF (AA R (CT fun s34 AH => Kp [kb] AF AH ∧ ∃ (f35 : Nat) (Xf Xg : Array Value), v24 = .func (.func f35) Xf Xg ∧ Enters prog f35 ∧ Spec prog f35 (Xf ++ #[.agg #[.slice MT Lh MU, .string x.val], .string s34] ++ Xg) AH (AA R (CB fun t35 Aa => Bn t35 (R (.returned (.bool false)) Aa) (AM ((k : Int) + 1) ∧ D3.A3 R q m d (aD kb 0) 5 5 (aD b o) n c n ((k : Int) + 1) Aa)))))) ) := fun i f t hi hv N3 ht hf => by
     refine ⟨.func (.func f) #[] #[], ?_, ?_⟩
     rotate_left
     · refine Vt (hg.mono (CK.trans hx)) (hm x pH) fun p1 n1 c1 σ2 aQ A9 => ⟨p1, n1, c1, rfl, Kp.HS A9, Tc (hq.mono CL.mono (CK.trans (hx.trans A9))) ⟨_, rfl, Kp.HS (.refl _), f, #[], #[], rfl, N3, hf p1 n1 c1 σ2 _ aQ (hx.trans A9) (step t σ2 ht (hx.trans A9))⟩⟩
     rw [hi]
     exact Ad (hx _ _ hc) (by simpa using hv)
   have nC : x.kind = 1 ∨ x.kind = 2 ∨ x.kind = 3 ∨ x.kind = 4 := by omega
   rcases nC with h1 | h1 | h1 | h1
   · exact row 1 217 (decide (Cy ls x.name = x.val)) h1 rfl Eb.en (by unfold NT; rw [if_pos h1]) fun p1 n1 c1 σ2 R2 _ _ rk => Eb.start fun _ => by rw [Ta]; exact rk
   · exact row 2 218 (!decide (Cy ls x.name = x.val)) h1 rfl Eg.en (by unfold NT; rw [if_neg (by omega), if_pos h1]; simp) fun p1 n1 c1 σ2 R2 _ _ rk => Eg.start fun _ => by rw [Ta]; exact rk
   · exact row 3 219 (YK x.val (Cy ls x.name)) h1 rfl Dz.en (by unfold NT; rw [if_neg (by omega), if_neg (by omega), if_pos h1]) fun p1 n1 c1 σ2 R2 aQ A9 rk => Dz.start fun _ => JT σ2 p1 n1 c1 aQ A9 _ ⟨_, rfl, rk⟩
   · exact row 4 220 (!YK x.val (Cy ls x.name)) h1 rfl Dy.en (by unfold NT; rw [if_neg (by omega), if_neg (by omega), if_neg (by omega), if_pos h1]) fun p1 n1 c1 σ2 R2 aQ A9 rk => Dy.start fun _ => JT σ2 p1 n1 c1 aQ A9 _ ⟨_, rfl, rk⟩
end
end TwW
end
section
namespace TwW
open Go Tw Go.RowKit Go.Proofs.Tryz
structure Rs where
 m : Nat
 dot : Bool
 nd : Nat
 dp : Int
def Cr (st : Rs) (u : UInt8) : Rs := if u = 46 then { st with dot := true, dp := st.nd } else if u = 48 ∧ st.nd = 0 then { st with dp := st.dp - 1 } else { st with m := st.m * 10 + (u.toNat - 48), nd := st.nd + 1 }
def HN (s : ByteArray) : Rs := s.data.toList.foldl Cr ⟨0, false, 0, 0⟩
def Si (r : Rs) : Int := if r.m = 0 then 0 else (if r.dot then r.dp else r.nd) - r.nd
def Hb (s : ByteArray) : Int :=
 let r := HN s
 if r.m = 0 then (toF 0 : Nat) else if Si r = 0 then (toF (FloatKind.f64.nearest r.m) : Nat) else (Vo 4 (FloatKind.f64.nearest r.m) (Sf.getD (-Si r).toNat 0) : Nat)
section
variable {σ σ' : Hp} {R : Rr}
theorem Nf {s : ByteArray} (hb : s.size ≤ 4611686018427387904) (h : R (.returned (.int .i64 (AL s))) σ) : Spec prog 213 #[.string s] σ R := by
 have hlen : s.data.toList.length = s.size := Array.length_toList (xs := s.data)
 refine Fe.start ?_
 suffices H : ∀ g k : Nat, s.size - k = g → k ≤ s.size → (∀ j u, j < k → s.data.toList[j]? = some u → Bp u = true) → Fe.GN R s k σ from H s.size 0 rfl (Nat.zero_le _) (fun j u hj => by omega)
 intro g
 induction g with
 | zero =>
   intro k hg hk h1
   have e : AL s = k := IF (by omega) h1 (fun u hu => by have := (List.getElem?_eq_some_iff.1 hu).1; omega)
   rw [e] at h
   exact Fe.A5 ⟨fun Ax => by omega, fun _ => h⟩
 | succ g ih =>
   intro k hg hk h1
   obtain ⟨u, hu, Ct⟩ := byte_at (show k < s.size by omega)
   have stop : Bp u = false → R (.returned (.int .i64 k)) σ := fun hd => by
     have e : AL s = k := IF (by omega) h1 (fun v hv => by rw [Ct] at hv; cases hv; exact hd)
     rw [e] at h; exact h
   refine Fe.A5 ⟨fun _ => ⟨u, by omega, by simpa using hu, fun YX => ⟨u, by omega, by simpa using hu, fun h57 => ?_, fun h57 => stop ?_⟩, fun YX => stop ?_⟩, fun hh => by omega⟩
   · refine ⟨AN (by omega : k < s.size) hb, ih (k + 1) (by omega) (by omega) fun j v hj hv => ?_⟩
     by_cases pN : j = k
     · rw [pN, Ct] at hv; cases hv
       exact decide_eq_true (by omega)
     · exact h1 j v (by omega) hv
   · exact decide_eq_false (by omega)
   · exact decide_eq_false (by omega)
theorem Vu {s : ByteArray} (hb : s.size ≤ 4611686018427387904) (ht : FH s = true) (h : R (.returned (.bool true)) σ) : Spec prog 172 #[.string s] σ R := by
 have hle := LU s
 have h0 : AL s ≠ 0 := fun e => by unfold FH at ht; rw [if_pos e] at ht; cases ht
 have h1 : ¬ (1 < AL s ∧ s.data[0]? = some 48) := fun e => by unfold FH at ht; rw [if_neg h0, if_pos e] at ht; cases ht
 obtain ⟨u0, y8, _⟩ := byte_at (show 0 < s.size by omega)
 have Po := I5 (u := u0) (k := 48) (by decide)
 have tail : Br ((AL s : Int) = ((ByteArray.size s : Nat) : Int)) (R (.returned (.bool (decide ((AL s : Int) ≤ 15)))) σ) (AM ((AL s : Int) + 1) ∧ ∃ tS, YF prog (Instr.sliceAt 9 (.string s) (some (.int .i64 ((AL s : Int) + 1))) none none) σ (.string tS) ∧ Spec prog 213 #[.string tS] σ (AA R (CI .i64 fun XB AF => ∃ tT : UInt8, 0 ≤ (AL s : Int) ∧ (ByteArray.data s)[Int.toNat (AL s : Int)]? = some tT ∧ Br ((((UInt8.toNat tT : Nat) : Int) : Int) = 46) (Br (0 < XB) (AM ((AL s : Int) + 1) ∧ AM (((AL s : Int) + 1) + XB) ∧ Br (((((AL s : Int) + 1) + XB) : Int) = ((ByteArray.size s : Nat) : Int)) (AM ((AL s : Int) + XB) ∧ R (.returned (.bool (decide ((((AL s : Int) + XB) : Int) ≤ 15)))) AF) (R (.returned (.bool false)) AF)) (R (.returned (.bool false)) AF)) (R (.returned (.bool false)) AF)))) := by
   unfold FH at ht
   rw [if_neg h0, if_neg h1] at ht
   refine ⟨fun he => ?_, fun he => ⟨by unfold AM; omega, s.extract (AL s + 1) s.size, Nc (l := AL s + 1) (by omega), ?_⟩⟩
   · rw [if_pos (by omega)] at ht
     rw [decide_eq_true (by have := of_decide_eq_true ht; omega)]; exact h
   · rw [if_neg (by omega)] at ht
     have ht := of_decide_eq_true ht
     have AK1 : (s.extract (AL s + 1) s.size).size = s.size - (AL s + 1) := by rw [ByteArray.size_extract]; omega
     have hm := LU (s.extract (AL s + 1) s.size)
     refine Nf (by omega) ?_
     obtain ⟨u, hu, _⟩ := byte_at (show AL s < s.size by omega)
     rw [hu] at ht
     have b46 := I5 (u := u) (k := 46) (by decide)
     generalize AL (s.extract (AL s + 1) s.size) = m at *
     refine ⟨_, rfl, u, by omega, by simpa using hu, fun Ug => ⟨fun h0m => ⟨by unfold AM; omega, by unfold AM; omega, fun hs => ⟨by unfold AM; omega, ?_⟩, fun hs => absurd (by omega) hs⟩, fun h0m => absurd (by omega) h0m⟩, fun Ug => absurd (b46.2 (by have := ht.1; simpa using this)) Ug⟩
     rw [decide_eq_true (by omega)]; exact h
 refine O5.start (Nf hb ⟨_, rfl, fun hh => absurd hh (by omega), fun _ => ⟨fun h1n => ⟨u0, by omega, by simpa using y8, fun YX => ?_, fun _ => tail⟩, fun _ => tail⟩⟩)
 exact absurd ⟨by omega, by rw [y8, Po.1 YX]; rfl⟩ h1
theorem bc {α : Type} {p : α → Bool} : ∀ {l : List α} {u : α}, u ∈ l.takeWhile p → p u = true
 | [], u, h => by cases h
 | a :: l, u, h => by
   unfold List.takeWhile at h
   split at h
   · rename_i ha
     rcases List.mem_cons.1 h with rfl | h
     · exact ha
     · exact bc h
   · cases h
theorem LV {s : ByteArray} (h : FH s = true) : 0 < s.size ∧ s.size ≤ 16 ∧ (∃ u, s.data.toList[0]? = some u ∧ Bp u = true) ∧ (∀ u ∈ s.data.toList, Bp u = true ∨ u = 46) ∧ (s.data.toList.filter Bp).length ≤ 15 ∧ (∀ j k : Nat, s.data.toList[j]? = some 46 → s.data.toList[k]? = some 46 → j = k) := by
 have hlen : s.data.toList.length = s.size := Array.length_toList (xs := s.data)
 have hle := LU s
 have h0 : AL s ≠ 0 := fun e => by unfold FH at h; rw [if_pos e] at h; cases h
 have h1 : ¬ (1 < AL s ∧ s.data[0]? = some 48) := fun e => by unfold FH at h; rw [if_neg h0, if_pos e] at h; cases h
 unfold FH at h
 rw [if_neg h0, if_neg h1] at h
 have hT : s.data.toList.takeWhile Bp = s.data.toList.take (AL s) := by
   unfold AL
   exact (List.prefix_iff_eq_take.1 (List.takeWhile_prefix _))
 have Vw : ∀ u ∈ s.data.toList.take (AL s), Bp u = true := fun u hu => by rw [← hT] at hu; exact bc hu
 have d46 : Bp 46 = false := by decide
 have ex0 : ∃ u, s.data.toList[0]? = some u ∧ Bp u = true := by
   obtain ⟨u, _, Ct⟩ := byte_at (show 0 < s.size by omega)
   refine ⟨u, Ct, Vw u (List.mem_of_getElem? (i := 0) ?_)⟩
   rw [List.getElem?_take, if_pos (by omega)]; exact Ct
 by_cases he : AL s = s.size
 · rw [if_pos he] at h
   have h15 := of_decide_eq_true h
   have JT : ∀ u ∈ s.data.toList, Bp u = true := fun u hu => Vw u (by rw [List.take_of_length_le (by omega)]; exact hu)
   refine ⟨by omega, by omega, ex0, fun u hu => .inl (JT u hu), by have := List.length_filter_le Bp s.data.toList; omega, fun j k hj _ => ?_⟩
   have := JT 46 (List.mem_of_getElem? hj)
   rw [d46] at this; cases this
 · rw [if_neg he] at h
   have hh := of_decide_eq_true h
   generalize hm : AL (s.extract (AL s + 1) s.size) = m at hh
   have hm2 : m ≤ 15 := by omega
   have Me : s.data.toList = s.data.toList.take (AL s) ++ 46 :: s.data.toList.drop (AL s + 1) := by
     obtain ⟨u, hu, Ct⟩ := byte_at (show AL s < s.size by omega)
     have e46 : u = 46 := by have := hh.1; rw [hu] at this; simpa using this
     rw [← e46, ← A6 Ct, List.take_append_drop]
   have Iy : (s.extract (AL s + 1) s.size).data.toList = s.data.toList.drop (AL s + 1) := by
     rw [ByteArray.data_extract, Array.toList_extract, List.extract_eq_take_drop]
     rw [List.take_of_length_le (by rw [List.length_drop]; omega)]
   have vG : ∀ u ∈ s.data.toList.drop (AL s + 1), Bp u = true := fun u hu => by
     rw [← Iy] at hu
     have hp := List.takeWhile_prefix (p := Bp) (l := (s.extract (AL s + 1) s.size).data.toList)
     have hl : ((s.extract (AL s + 1) s.size).data.toList.takeWhile Bp).length = (s.extract (AL s + 1) s.size).data.toList.length := by
       rw [show ((s.extract (AL s + 1) s.size).data.toList.takeWhile Bp).length = AL (s.extract (AL s + 1) s.size) from rfl, hm, Iy, List.length_drop]; omega
     have := hp.eq_of_length hl
     rw [← this] at hu
     exact bc hu
   refine ⟨by omega, by omega, ex0, fun u hu => ?_, ?_, fun j k hj hk => ?_⟩
   · rw [Me] at hu
     rcases List.mem_append.1 hu with hu | hu
     · exact .inl (Vw u hu)
     · rcases List.mem_cons.1 hu with rfl | hu
       · exact .inr rfl
       · exact .inl (vG u hu)
   · rw [Me, List.filter_append, List.filter_cons, d46]
     have a1 := List.length_filter_le Bp (s.data.toList.take (AL s))
     have a2 := List.length_filter_le Bp (s.data.toList.drop (AL s + 1))
     rw [List.length_take] at a1
     rw [List.length_drop] at a2
     simp only [List.length_append]
     simp
     omega
   · have only : ∀ i : Nat, s.data.toList[i]? = some 46 → i = AL s := fun i hi => by
       rw [Me] at hi
       have cY : (s.data.toList.take (AL s)).length = AL s := by rw [List.length_take]; omega
       rcases Nat.lt_trichotomy i (AL s) with Ax | Ax | Ax
       · rw [List.getElem?_append_left (by omega)] at hi
         have := Vw 46 (List.mem_of_getElem? hi)
         rw [d46] at this; cases this
       · exact Ax
       · rw [List.getElem?_append_right (by omega), cY] at hi
         obtain ⟨d, hd⟩ : ∃ d, i - AL s = d + 1 := ⟨i - AL s - 1, by omega⟩
         rw [hd, List.getElem?_cons_succ] at hi
         have := vG 46 (List.mem_of_getElem? hi)
         rw [d46] at this; cases this
     rw [only j hj, only k hk]
def bd (s : ByteArray) (k : Nat) : Nat := ((s.data.toList.take k).filter Bp).length
structure y9 (s : ByteArray) (k : Nat) (r : Rs) : Prop where
 is : r = (s.data.toList.take k).foldl Cr ⟨0, false, 0, 0⟩
 nd : r.nd ≤ bd s k
 m : r.m < 10 ^ r.nd
 lo : (r.nd : Int) - r.dp ≤ bd s k
 hi : r.dp ≤ r.nd
 sw : r.dot = true → ∃ j, j < k ∧ s.data.toList[j]? = some 46
theorem GY {u : UInt8} (h : Bp u = true) : 48 ≤ u.toNat ∧ u.toNat ≤ 57 := of_decide_eq_true h
theorem y9.zero {s : ByteArray} : y9 s 0 ⟨0, false, 0, 0⟩ := ⟨rfl, Nat.zero_le _, by decide, by simp, by simp, fun h => by cases h⟩
theorem gV {s : ByteArray} {k : Nat} {u : UInt8} (hu : s.data.toList[k]? = some u) : bd s (k + 1) = bd s k + if Bp u then 1 else 0 := by
 unfold bd
 rw [Ab hu, List.filter_append, List.length_append]
 congr 1
 by_cases h : Bp u = true <;> simp [h]
theorem y9.step {s : ByteArray} {k : Nat} {r : Rs} {u : UInt8} (h : y9 s k r) (hu : s.data.toList[k]? = some u) (hd : Bp u = true ∨ u = 46) : y9 s (k + 1) (Cr r u) := by
 have hc := gV hu
 have his : Cr r u = (s.data.toList.take (k + 1)).foldl Cr ⟨0, false, 0, 0⟩ := by rw [Ab hu, List.foldl_append, ← h.is]; rfl
 have h1 := h.nd
 have h2 := h.m
 have h3 := h.lo
 have h4 := h.hi
 by_cases Ug : u = 46
 · subst Ug
   have e : Cr r 46 = { r with dot := true, dp := r.nd } := by unfold Cr; rw [if_pos rfl]
   rw [show Bp 46 = false from by decide] at hc
   simp only [Bool.false_eq_true, if_false, Nat.add_zero] at hc
   rw [e] at his ⊢
   exact ⟨his, by rw [hc]; exact h1, h2, by dsimp only; omega, Int.le_refl _, fun _ => ⟨k, by omega, hu⟩⟩
 have hdg := hd.resolve_right Ug
 have hn := GY hdg
 rw [hdg] at hc
 simp only [if_true] at hc
 by_cases YX : u = 48 ∧ r.nd = 0
 · have e : Cr r u = { r with dp := r.dp - 1 } := by unfold Cr; rw [if_neg Ug, if_pos YX]
   rw [e] at his ⊢
   exact ⟨his, by dsimp only; omega, h2, by dsimp only; omega, by dsimp only; omega, fun hh => let ⟨j, h5, h6⟩ := h.sw hh; ⟨j, by omega, h6⟩⟩
 · have e : Cr r u = { r with m := r.m * 10 + (u.toNat - 48), nd := r.nd + 1 } := by unfold Cr; rw [if_neg Ug, if_neg YX]
   rw [e] at his ⊢
   exact ⟨his, by dsimp only; omega, by dsimp only; rw [Nat.pow_succ]; omega, by dsimp only; omega, by dsimp only; omega, fun hh => let ⟨j, h5, h6⟩ := h.sw hh; ⟨j, by omega, h6⟩⟩
theorem nE {x : Int} (h0 : 0 ≤ x) (h1 : x < 18446744073709551616) : IntKind.u64.wrap x = x := by simp [IntKind.wrap, IntKind.bits, IntKind.signed]; omega
theorem AFa {x : Int} (h0 : 0 ≤ x) (h1 : x < 256) : IntKind.u8.wrap x = x := by simp [IntKind.wrap, IntKind.bits, IntKind.signed]; omega
theorem Yh {n : Nat} (h : n ≤ 15) : 10 ^ n ≤ 1000000000000000 := Nat.le_trans (Nat.pow_le_pow_right (by decide) h) (by decide)
theorem gW {s : ByteArray} (ht : FH s = true) (h : R (.returned (.tuple #[.int .u64 ((HN s).m : Nat), .int .i64 (Si (HN s)), .bool false, .bool false, .bool false, .int .i64 (s.size : Nat), .bool true])) σ) : Spec prog 272 #[.string s] σ R := by
 obtain ⟨hs0, zA, ⟨u0, y8, eM⟩, iz, rl, AFb⟩ := LV ht
 have hlen : s.data.toList.length = s.size := Array.length_toList (xs := s.data)
 have hn0 := GY eM
 have hg0 : s.data[0]? = some u0 := by rw [← Array.getElem?_toList]; exact y8
 have AFc : ∀ k, bd s k ≤ 15 := fun k => Nat.le_trans (List.Sublist.length_le ((List.take_sublist _ _).filter _)) rl
 have Vx : AE.lf R s 0 0 false false false 0 false false 10 19 101 false false 0 0 0 σ := by
   suffices H : ∀ g k : Nat, ∀ r : Rs, s.size - k = g → k ≤ s.size → y9 s k r → AE.lf R s (r.m : Nat) 0 false false false (k : Nat) false false 10 19 101 r.dot (decide (0 < k)) (r.nd : Nat) (r.nd : Nat) r.dp σ from H s.size 0 ⟨0, false, 0, 0⟩ rfl (Nat.zero_le _) .zero
   intro g
   induction g with
   | zero =>
     intro k r hg hk hr
     have cZ : k = s.size := by omega
     have er : r = HN s := by rw [hr.is, List.take_of_length_le (by omega)]; rfl
     have hc := AFc k
     have h1 := hr.nd
     have h3 := hr.lo
     have h4 := hr.hi
     refine AE.dn ⟨fun Ax => by omega, fun _ => ?_⟩
     rw [show decide (0 < k) = true from decide_eq_true (by omega)]
     have fin : ∀ x17 : Int, (r.m ≠ 0 → x17 - r.nd = Si r) → -100 ≤ x17 → x17 ≤ 100 → AE.dj R s (r.m : Nat) 0 false false false (k : Nat) false false 10 101 (r.nd : Nat) x17 σ := fun x17 hx hlo hhi => by
       refine AE.lq ⟨fun hh => absurd hh (by decide), fun _ => AE.lr ⟨fun Ax => by omega, fun _ => ⟨fun hh => absurd hh (by decide), fun _ => AE.lu ⟨fun hm => ⟨by unfold AM; omega, AE.YA ⟨fun hh => (by cases hh), fun _ => ?_⟩⟩, fun hm => AE.YA ⟨fun hh => (by cases hh), fun _ => ?_⟩⟩⟩⟩⟩
       · rw [hx (by omega), cZ, er]; exact h
       · have hm0 : r.m = 0 := by omega
         have : Si (HN s) = 0 := by rw [← er]; unfold Si; rw [if_pos hm0]
         rw [this, ← cZ, ← er] at h; exact h
     refine AE.ll ⟨fun hh => (by cases hh), fun _ => ⟨fun hf => fin _ (fun hm => ?_) (by omega) (by omega), fun hf => fin _ (fun hm => ?_) (by omega) (by omega)⟩⟩
     · unfold Si; rw [if_neg hm, hf]; rfl
     · unfold Si; rw [if_neg hm, hf]; rfl
   | succ g ih =>
     intro k r hg hk hr
     obtain ⟨u, hu, Ct⟩ := byte_at (show k < s.size by omega)
     have aK := iz u (List.mem_of_getElem? Ct)
     have CX := hr.step Ct aK
     have PT := fun h64 => AE.lv (R := R) (σ := σ) (s0 := s) (x2 := ((Cr r u).m : Nat)) (x3 := 0) (t4 := false) (t5 := false) (t6 := false) (x7 := (k : Nat)) (t8 := false) (t9 := false) (x10 := 10) (x11 := 19) (x12 := 101) (t13 := (Cr r u).dot) (t14 := true) (x15 := ((Cr r u).nd : Nat)) (x16 := ((Cr r u).nd : Nat)) (x17 := (Cr r u).dp) ⟨h64, by
       have := ih (k + 1) (Cr r u) (by omega) (by omega) CX
       rw [show decide (0 < k + 1) = true from decide_eq_true (by omega)] at this
       exact_mod_cast this⟩
     have PT := PT (by unfold AM; omega)
     have hc := AFc k
     have h1 := hr.nd
     have h3 := hr.lo
     have h4 := hr.hi
     refine AE.dn ⟨fun _ => ⟨u, by omega, by simpa using hu, fun h95 => ?_, fun h95 => ⟨fun Ug => ⟨fun AFe => ?_, fun AFe => ?_⟩, fun Ug => ?_⟩⟩, fun hh => by omega⟩
     · exfalso
       rcases aK with hd | rfl
       · have := GY hd; omega
       · exact absurd h95 (by decide)
     · exfalso
       obtain ⟨j, hj, QY⟩ := hr.sw AFe
       have e : u = 46 := (I5 (k := 46) (by decide)).1 Ug
       rw [e] at Ct
       have := AFb j k QY Ct
       omega
     · have e : u = 46 := (I5 (k := 46) (by decide)).1 Ug
       have hk0 : 0 < k := by
         rcases Nat.eq_zero_or_pos k with h0 | h0
         · subst h0
           rw [y8] at Ct; cases Ct
           rw [e] at eM; exact absurd eM (by decide)
         · exact h0
       rw [show decide (0 < k) = true from decide_eq_true hk0]
       rw [show Cr r u = { r with dot := true, dp := r.nd } by unfold Cr; rw [if_pos e]] at PT
       exact PT
     have hd := aK.resolve_right fun e => Ug ((I5 (k := 46) (by decide)).2 e)
     have hn := GY hd
     have vH : u ≠ 46 := fun e => Ug ((I5 (k := 46) (by decide)).2 e)
     have Po := I5 (u := u) (k := 48) (by decide)
     refine ⟨fun _ => ⟨fun _ => ?_, fun hh => by omega⟩, fun hh => by omega⟩
     have AQ5 := Nat.lt_of_lt_of_le hr.m (Yh (show r.nd ≤ 15 by omega))
     have digit : ¬ (u = 48 ∧ r.nd = 0) → AM ((r.nd : Int) + 1) ∧ Br ((r.nd : Int) < 19) (Df (IntKind.u64.wrap ((r.m : Int) * 10)) fun x99 => Df (IntKind.u8.wrap (((UInt8.toNat u : Nat) : Int) - 48)) fun fw => Df (IntKind.u64.wrap fw) fun fx => Df (IntKind.u64.wrap (x99 + fx)) fun ax => AM ((r.nd : Int) + 1) ∧ AE.Ff R s ax 0 false false false (k : Nat) false false 10 19 101 r.dot true ((r.nd : Int) + 1) ((r.nd : Int) + 1) r.dp σ) (Br ((((UInt8.toNat u : Nat) : Int) : Int) ≠ 48) (AE.Ff R s (r.m : Nat) 0 false true false (k : Nat) false false 10 19 101 r.dot true ((r.nd : Int) + 1) (r.nd : Nat) r.dp σ) (AE.Ff R s (r.m : Nat) 0 false false false (k : Nat) false false 10 19 101 r.dot true ((r.nd : Int) + 1) (r.nd : Nat) r.dp σ)) := fun Du => by
       refine ⟨by unfold AM; omega, fun _ => fun x99 e99 fw ALA fx ALB ax ALC => ⟨by unfold AM; omega, ?_⟩, fun hh => absurd (by omega) hh⟩
       rw [nE (by omega) (by omega)] at e99
       rw [AFa (by omega) (by omega)] at ALA
       rw [nE (by omega) (by omega)] at ALB
       rw [nE (by omega) (by omega)] at ALC
       rw [show Cr r u = { r with m := r.m * 10 + (u.toNat - 48), nd := r.nd + 1 } by unfold Cr; rw [if_neg vH, if_neg Du]] at PT
       have : ax = ((r.m * 10 + (u.toNat - 48) : Nat) : Int) := by omega
       rw [this]
       exact_mod_cast PT
     refine ⟨fun YX => ⟨fun hz => ⟨by unfold AM; omega, ?_⟩, fun hz => digit fun hh => hz (by omega)⟩, fun YX => digit fun hh => YX (Po.2 hh.1)⟩
     rw [show Cr r u = { r with dp := r.dp - 1 } by unfold Cr; rw [if_neg vH, if_pos ⟨Po.1 YX, by omega⟩]] at PT
     exact PT
 have ALD : AE.TY R s 0 0 false false false 0 false false σ := by
   refine AE.QK ⟨by unfold AM; omega, fun Ax => ⟨u0, by omega, by simpa using hg0, fun YX => ⟨by unfold AM; omega, ?_⟩, fun _ => AE.Ix Vx⟩, fun _ => AE.Ix Vx⟩
   obtain ⟨u1, gC, ALE⟩ := byte_at (show 1 < s.size by omega)
   refine ⟨u1, by decide, by simpa using gC, Ea.start fun x4 e4 => ⟨_, rfl, fun ALF => ?_, fun _ => AE.Ix Vx⟩⟩
   exfalso
   have low : ∀ i : Fin 12, Go.bits .or .u8 (((46 + i.1 : Nat)) : Int) 32 ≠ 120 := by decide
   have F0 : 46 ≤ u1.toNat ∧ u1.toNat < 58 := by
     rcases iz u1 (List.mem_of_getElem? ALE) with hd | rfl
     · have := GY hd; omega
     · decide
   have := low ⟨u1.toNat - 46, by omega⟩
   rw [show 46 + (u1.toNat - 46) = u1.toNat by omega] at this
   exact this (by rw [← e4]; exact ALF)
 refine AE.start ⟨fun hh => by omega, fun _ => ⟨u0, by decide, by simpa using hg0, fun hh => by omega, fun _ => ⟨fun hh => by omega, fun _ => ALD⟩⟩⟩
theorem Vy {s : ByteArray} (ht : FH s = true) (h : R (.returned (.tuple #[.float .f64 0, .int .i64 0, .bool false])) σ) : Spec prog 271 #[.string s] σ R := by
 obtain ⟨hs0, zA, ⟨u0, y8, eM⟩, iz, rl, AFb⟩ := LV ht
 have hn0 := GY eM
 have hg0 : s.data[0]? = some u0 := by rw [← Array.getElem?_toList]; exact y8
 refine Aj.start ⟨fun hh => by omega, fun _ => ⟨u0, by decide, by simpa using hg0, fun hh => by omega, fun _ => Aj.VQ ⟨fun hh => ?_, fun _ => ⟨fun hh => by omega, fun _ => Aj.qZ ⟨fun hh => ?_, fun _ => ⟨fun hh => by omega, fun _ => Aj.VR ⟨fun hh => ?_, fun _ => Aj.qa h⟩⟩⟩⟩⟩⟩⟩
 · have := of_decide_eq_true hh; omega
 · have := of_decide_eq_true hh; omega
 · have := of_decide_eq_true hh; omega
theorem rm {x : Int} : YN prog 281 #[.int .u64 x] σ (.float .f64 x.toNat) := fun w _ => by
 rw [run_callFunc_extern Go.Proofs.Tryz.func281 (by kernel_rfl) (by kernel_rfl) (by kernel_rfl) (e := Extern.MathFloatBits.float64frombits) (by kernel_rfl)]
 rfl
theorem rn {s : ByteArray} (ht : FH s = true) : -15 ≤ Si (HN s) ∧ Si (HN s) ≤ 0 ∧ (HN s).m < 1000000000000000 := by
 obtain ⟨hs0, zA, _, iz, rl, _⟩ := LV ht
 have hlen : s.data.toList.length = s.size := Array.length_toList (xs := s.data)
 have H : ∀ k, k ≤ s.size → y9 s k ((s.data.toList.take k).foldl Cr ⟨0, false, 0, 0⟩) := fun k => by
   induction k with
   | zero => intro _; exact .zero
   | succ k ih =>
     intro hk
     obtain ⟨u, hu, Ct⟩ := byte_at (show k < s.size by omega)
     have := (ih (by omega)).step Ct (iz u (List.mem_of_getElem? Ct))
     rwa [Ab Ct, List.foldl_append]
 have hr := H s.size (Nat.le_refl _)
 rw [List.take_of_length_le (by omega)] at hr
 have hc : bd s s.size ≤ 15 := Nat.le_trans (List.Sublist.length_le ((List.take_sublist _ _).filter _)) rl
 have h1 := hr.nd
 have h3 := hr.lo
 have h4 := hr.hi
 have hm := Nat.lt_of_lt_of_le hr.m (Yh (show _ ≤ 15 by omega))
 change (HN s).m < _ at hm
 change (HN s).nd ≤ _ at h1
 change ((HN s).nd : Int) - (HN s).dp ≤ _ at h3
 change (HN s).dp ≤ (HN s).nd at h4
 unfold Si
 split
 · exact ⟨by decide, by decide, hm⟩
 · split <;> omega
theorem bg {m : Nat} {e : Int} (hg : Gl σ) (hm : m < 1000000000000000) (h1 : -15 ≤ e) (h2 : e ≤ 0) (h : ∀ x : Nat, (toF x : Nat) = (if e = 0 then toF (FloatKind.f64.nearest m) else Vo 4 (FloatKind.f64.nearest m) (Sf.getD (-e).toNat 0)) → R (.returned (.tuple #[.float .f64 x, .bool true])) σ) :
   Spec prog 282 #[.int .u64 (m : Nat), .int .i64 e, .bool false] σ R := by
 refine BI.start ⟨52, hg.bits, by decide, fun x11 zB => ⟨fun hh => ?_, fun _ => ?_⟩⟩
 · exfalso
   apply hh
   rw [zB]
   exact Int.ediv_eq_zero_of_lt (by omega) (by show (m : Int) < 4503599627370496; omega)
 refine SR (v := .float .f64 (FloatKind.f64.nearest m)) (fun w => by kernel_rfl) ⟨_, rfl, fun hh => (by cases hh), fun _ => BI.qp ⟨fun h0 => h _ (by rw [if_pos h0]), fun h0 => ⟨fun hh => by omega, fun _ => ⟨fun _ => ⟨fun _ => ?_, fun hh => absurd (by omega) hh⟩, fun hh => absurd (by omega) hh⟩⟩⟩⟩
 obtain ⟨b, o, n, c, hp, hn, hl⟩ := hg.pow
 refine ⟨_, n, c, hp, fun qk e60 => ?_⟩
 have ALG : qk = -e := by rw [e60]; simp [IntKind.wrap, IntKind.bits, IntKind.signed]; omega
 have Ax : (-e).toNat < Sf.length := by show _ < 16; omega
 refine ⟨b, o, rfl, by omega, Sf.getD (-e).toNat 0, ?_, eD fun y hy => ⟨_, rfl, h y (by rw [if_neg h0]; exact hy)⟩⟩
 rw [ALG]
 exact hl _ _ (by rw [List.getD_eq_getElem?_getD, List.getElem?_eq_getElem Ax]; rfl)
theorem gX {s : ByteArray} (hg : Gl σ) (ht : FH s = true) (h : ∀ x : Nat, ((toF x : Nat) : Int) = Hb s → R (.returned (.tuple #[.float .f64 x, .int .i64 (s.size : Nat), .nilIface])) σ) : Spec prog 253 #[.string s] σ R := by
 obtain ⟨h1, h2, hm⟩ := rn ht
 refine EC.start (Vy ht ⟨_, _, _, rfl, fun hh => (by cases hh), fun _ => gW ht ⟨_, _, _, _, _, _, _, rfl, fun hh => (by cases hh), fun _ => ⟨fun hh => (by cases hh), fun _ => ⟨true, hg.opt, fun _ => CJ.start ⟨fun hh => (by cases hh), fun _ => ⟨_, rfl, by decide, fun ad e67 => ?_⟩⟩, fun hh => (by cases hh)⟩⟩⟩⟩)
 have ALH : ad = 0 := by rw [e67]; rfl
 subst ALH
 refine ⟨fun h0 => fun x71 e71 => .y rm ⟨_, rfl, h _ ?_⟩, fun h0 => ⟨fun hh => by omega, fun _ => ⟨fun hh => by omega, fun _ => ⟨fun _ => bg hg hm h1 h2 fun x hx => ⟨_, _, rfl, fun _ => h x ?_, fun hh => (by cases hh)⟩, fun hh => (by cases hh)⟩⟩⟩⟩
 · have : x71 = 0 := by rw [e71]; decide
   rw [this]
   unfold Hb
   rw [if_pos (by omega)]; rfl
 · unfold Hb
   dsimp only
   rw [if_neg (by omega), hx]
   split <;> rfl
theorem Yi {s : ByteArray} (hg : Gl σ) (ht : FH s = true) (h : R (.returned (.tuple #[.int .u64 (Hb s), .bool true])) σ) : Spec prog 140 #[.string s] σ R := by
 obtain ⟨_, zA, _⟩ := LV ht
 refine O4.start (Vu (by omega) ht ⟨_, rfl, fun hh => (by cases hh), fun _ => Gk.start (Cn.start (Ba.start ⟨fun hh => absurd hh (by decide), fun _ => gX hg ht fun x hx => ⟨_, _, _, rfl, _, _, _, rfl, fun hh => absurd rfl hh, fun _ => ⟨_, _, rfl, false, fun w _ => by kernel_rfl, fun hh => (by cases hh), fun _ => ⟨_, _, rfl, GH ⟨_, rfl, by rw [hx]; exact h⟩⟩⟩⟩⟩))⟩)
end
end TwW
end
section
namespace TwW
open Go Tw Go.RowKit Go.Proofs.Tryz
def AX {α : Type} (s : Nat) (E : Hp → List Value → α → Prop) (σ0 σ : Hp) (p : Option Addr) (n c : Nat) (xs : List α) : Prop := GC s E σ p n c xs ∧ Ext σ0 (σ.del p)
section
variable {α : Type} {s bs : Nat} {E : Hp → List Value → α → Prop} {σ0 σ σ' : Hp} {p : Option Addr} {n c : Nat} {xs : List α}
theorem AX.nil (hx : Ext σ0 σ) : AX s E σ0 σ none 0 0 [] := ⟨GC.nil, hx⟩
theorem AX.mono (hE : Gy E) (h : AX s E σ0 σ p n c xs) (hx : Ext σ σ') : AX s E σ0 σ' p n c xs := ⟨h.1.mono hE hx, h.2.trans (hx.del p)⟩
theorem AX.up (h : AX s E σ0 σ p n c xs) : Ext σ0 σ := h.2.trans (Ext.IV _ _)
theorem AX.rd (hE : Gy E) (h : AX s E σ0 σ p n c xs) : Ag s E σ p n xs := h.1.rd hE
theorem AX.new (h : AX s E σ0 σ p n c xs) (hx : Ext σ σ') : Ext (σ.new σ') (σ'.del p) := Ext.pS (fun a ha => h.1.block a ha)
theorem AX.Jg {P : Program} {T Et ty : TypeId} {vs : List Value} {x : α} {Φ : Value → Hp → Prop} (hE : Gy E) [Jf P T Et s bs] (h : AX s E σ0 σ p n c xs) (hl : vs.length = s) (h1 : GB vs) (hx : E (σ.del p) vs x) (hb : (n + 1) * bs ≤ 140737488355328)
   (hΦ : ∀ p' c' σ', AX s E σ0 σ' p' (n + 1) c' (xs ++ [x]) → Ext (σ.del p) (σ'.del p') → Φ (.slice p' (n + 1) c') σ') {b : Nat} (hn : σ b = none) :
   AJ P (Builtin.append_ #[T, T] ty #[.slice p n c, .slice (some ⟨b, 0, none⟩) 1 1]) (σ.set b (.cells vs.toArray Et (0, 0))) Φ := by
 obtain ⟨⟨hlen, cs, ho, hc⟩, hx0⟩ := h
 refine Dx (ho.mono (.set hn)) ⟨by rw [hl, Nat.one_mul], by omega, .inr ⟨b, 0, rfl, Av.of fun j v hj => ?_⟩⟩ h1 hb fun p' c' σ' Mu YG => ?_
 · simp [Hp.ld, Hp.AB, hj]
 · have e : Ext (σ.del p) (σ'.del p') := ((Ext.set hn).del p).trans YG
   exact hΦ p' c' σ' ⟨⟨by simp [hlen], _, Mu, (hc.snoc hl hx).mono hE e⟩, hx0.trans e⟩ e
end
theorem Bt.one (σ : Hp) (vs : List Value) (x : El) (h : Bt σ vs x) : GB vs := by
 obtain ⟨p, n, c, rfl, _⟩ := h
 intro u hu
 simp only [List.mem_cons, List.not_mem_nil, or_false] at hu
 rcases hu with rfl | rfl <;> rfl
theorem Bt.at {σ : Hp} {p : Option Addr} {n i : Nat} {l : List El} {x : El} (hr : Ag 2 Bt σ p n l) (hx : l[i]? = some x) : ∃ b o q m d, p = some ⟨b, o, none⟩ ∧ Av σ b (o + i * 2) [.slice q m d, .int .u64 x.v] ∧ F7 σ q m x.ls := by
 obtain ⟨b, o, vs, hp, ⟨q, m, d, rfl, h⟩, hl⟩ := Ag.idx hr hx
 exact ⟨b, o, q, m, d, hp, hl, h⟩
section
variable {σ σ' σ0 : Hp} {R : Rr}
theorem nF {p : Option Addr} {n c : Nat} {xs : List Int} {Φ : Value → Hp → Prop} (hr : E1 .u8 σ p n xs) (h : Φ (.string (strOfNums xs)) σ) : AJ prog (convert 90 9 (.slice p n c)) σ Φ := by
 refine AJ.pu (fun w hs => ?_) h
 have h1 := underlying90
 have h2 := underlying9
 by_cases hn : n = 0
 · subst hn
   have hx : xs = [] := List.eq_nil_of_length_eq_zero hr.1
   subst hx
   rw [run_convert_bytes_string w 90 9 _ p 0 c h1 underlying5 h2]
   cases p <;> simp [Conv.bytesToString, loadCells] <;> rfl
 · obtain ⟨x0, hx0⟩ := hr.ex (k := 0) (by omega)
   obtain ⟨b, o, rfl, _⟩ := hr.at hx0
   refine run_convert_bytes_arg w 90 _ h1 underlying5 b o n c xs hr.1 (fun i hi => ?_) 9 h2
   obtain ⟨x, hx⟩ := hr.ex hi
   obtain ⟨b', o', he, hl⟩ := hr.at hx
   cases he
   have := cell_of hs hl
   simpa [Bi, hx] using this
theorem FI {p : Option Addr} {n c : Nat} {ls : List Lb} (hr : F7 σ p n ls) (hs : Aq ls) (h : ∀ σ', Ext σ σ' → R (.returned (.string (Dr ls))) σ') : Spec prog 49 #[.slice p n c] σ R :=
 XD.start (Vj hr hs fun p' n' c' σ' ho hx => ⟨_, _, _, rfl, nF (Dh.rd (BB.mono (Ext.Cd _ _) ho)) ⟨_, rfl, h σ' hx⟩⟩)
theorem FJ {p : Option Addr} {n c : Nat} {ls : List Lb} (hr : F7 σ p n ls) (hn : n ≤ 1000000) (h : ∀ p' n' c' σ', F7 (σ.new σ') p' n' (Ai ls) → Ext σ σ' → R (.returned (.slice p' n' c')) σ') : Spec prog 146 #[.slice p n c] σ R := by
 refine UN.start fun b hb => ?_
 have hx := Ext.set (o := .cells #[(.string (ByteArray.mk #[95, 95, 110, 97, 109, 101, 95, 95]))] 9 (0, 0)) hb
 refine I0 (ns := [A0]) (hr.mono CL.mono hx) hn (Vk (Hp.AB _ _ _)) fun p' n' c' σ' ho YG => ⟨_, _, _, rfl, h p' n' c' σ' ((ho.rd CL.mono).mono CL.mono (Ext.DE hx)) (hx.trans YG)⟩
theorem Uj {p q : Option Addr} {n c m d : Nat} {ls : List Lb} {ns : List ByteArray} (hr : F7 σ p n ls) (hn : n ≤ 1000000) (hs : Eu 1 σ q m (ns.map .string))
   (h : ∀ p' n' c' σ', F7 (σ.new σ') p' n' (UZ ns ls) → Ext σ σ' → R (.returned (.slice p' n' c')) σ') : Spec prog 149 #[.slice p n c, .slice q m d] σ R := by
 refine Q3.start fun b3 ZY => ?_
 have D6 : Ext σ (σ.set b3 (.cells #[.slice q m d] 34 (0, 0))) := .set ZY
 refine PK (f := 198) (g := fun x => Cj x.1 ns) GF.en (hr.mono CL.mono D6) hn (fun σ' x R' hx LO => ?_) fun p' n' c' σ' ho hx => ⟨_, _, _, rfl, h p' n' c' σ' ?_ (D6.trans hx)⟩
 · refine GF.start fun _ => ⟨q, m, d, Ad (hx _ _ (Hp.AB _ _ _)) rfl, Kq (hs.mono (D6.trans hx)) ⟨_, rfl, LO⟩⟩
 · exact (ho.rd CL.mono).mono CL.mono (Ext.DE D6)
theorem gY {p q : Option Addr} {n c m d : Nat} {ls : List Lb} {ns : List ByteArray} (hr : F7 σ p n ls) (hn : n ≤ 1000000) (hs : Eu 1 σ q m (ns.map .string))
   (h : ∀ p' n' c' σ', F7 (σ.new σ') p' n' (Ai (SL ns ls)) → Ext σ σ' → R (.returned (.slice p' n' c')) σ') {R' : Rr} (hR : ∀ p' n' c' σ', R (.returned (.slice p' n' c')) σ' → R' (.returned (.slice p' n' c')) σ') :
   Spec prog 150 #[.slice p n c, .slice q m d] σ (AA R' (CS fun TI n15 Ph y => Spec prog 146 #[.slice TI n15 Ph] y (AA R' (CS fun aO n16 WJ AF => R' (.returned (.slice aO n16 WJ)) AF)))) := by
 refine I0 hr hn hs fun p' n' c' σ1 ho hx => ⟨_, _, _, rfl, ?_⟩
 have hl : n' ≤ n := by
   have h1 := ho.1
   have h2 := List.length_filter_le (fun x : Lb => !Cj x.1 ns) ls
   have h3 : ls.length = n := hr.1
   omega
 refine FJ ((ho.rd CL.mono).mono CL.mono (Ext.Cd _ _)) (by omega) fun p2 n2 c2 σ2 HO A9 => ⟨_, _, _, rfl, hR _ _ _ _ (h p2 n2 c2 σ2 (HO.mono CL.mono (Ext.DE hx)) (hx.trans A9))⟩
theorem QP {n : Nd} {p q r : Option Addr} {k c m d j e : Nat} {ls : List Lb} (hr : F7 σ r j ls) (hj : j ≤ 1000000) (hs : Eu 1 σ q m (n.names.map .string))
   (h : ∀ p' n' c' σ', F7 (σ.new σ') p' n' (Hm n ls) → Ext σ σ' → R (.returned (.slice p' n' c')) σ') : Spec prog 207 #[Ll n p k c q m d, .slice r j e] σ R := by
 refine dZ.start fun _ => ⟨fun h3 => Uj hr hj hs fun p' n' c' σ' iU hx => ⟨_, _, _, rfl, h p' n' c' σ' ?_ hx⟩, fun h3 => gY hr hj hs (fun p' n' c' σ' iU hx => h p' n' c' σ' ?_ hx) fun _ _ _ _ hh => hh⟩
 · unfold Hm; rw [if_pos h3]; exact iU
 · unfold Hm; rw [if_neg h3]; exact iU
theorem Aq.filter {ls : List Lb} (g : Lb → Bool) (h : Aq ls) : Aq (ls.filter g) := ⟨Nat.le_trans (List.length_filter_le _ _) h.1, fun x hx => h.2 x (List.mem_filter.1 hx).1⟩
theorem Aq.bare {ls : List Lb} (h : Aq ls) : Aq (Ai ls) := h.filter _
theorem Aq.Hm {n : Nd} {ls : List Lb} (h : Aq ls) : Aq (TwW.Hm n ls) := by
 unfold TwW.Hm UZ Ai SL
 split
 · exact h.filter _
 · exact (h.filter _).filter _
structure II (R : Rr) (σ : Hp) (X : Option Vv) : Prop where
 ok : ∀ x σ' p n c q m d, X = some x → Ext σ σ' → Ag 2 Bt σ' p n x.vec → Ag 2 SP σ' q m x.OC → n ≤ c → m ≤ d → R (.returned (.tuple #[.agg #[.int .i64 x.kind, .int .u64 x.v, .slice p n c, .slice q m d], .int .i64 0])) σ'
 no : X = none → ∀ σ', Ext σ σ' → R (.returned (.tuple #[.agg #[.int .i64 0, .int .u64 0, .slice none 0 0, .slice none 0 0], .int .i64 223])) σ'
theorem II.gZ {X : Option Vv} (h : II R σ X) (hx : Ext σ σ') : II R σ' X := ⟨fun x σ2 p n c q m d h0 h1 h2 h3 => h.ok x σ2 p n c q m d h0 (hx.trans h1) h2 h3, fun h0 σ2 h1 => h.no h0 σ2 (hx.trans h1)⟩
theorem II.Tg {X : Option Vv} (h : II R σ X) : II (AA R (fun z y => ∃ XG XH XI XJ XK XL XM XN kI, z = (.tuple #[.agg #[.int .i64 XG, .int .u64 XH, .slice XI XJ XK, .slice XL XM XN], .int .i64 kI]) ∧ R (.returned (.tuple #[.agg #[.int .i64 XG, .int .u64 XH, .slice XI XJ XK, .slice XL XM XN], .int .i64 kI])) y)) σ X :=
 ⟨fun x σ' p n c q m d h0 h1 h2 h3 h4 h5 => ⟨_, _, _, _, _, _, _, _, _, rfl, h.ok x σ' p n c q m d h0 h1 h2 h3 h4 h5⟩, fun h0 σ' h1 => ⟨_, _, _, _, _, _, _, _, _, rfl, h.no h0 σ' h1⟩⟩
theorem ga [Es] {p q : Option Addr} {n c m d : Nat} {v u : Int} {ls ms : List Lb} (hr : F7 σ p n ls) (hs : F7 σ q m ms) (h : ∀ σ', Ext σ σ' → R (.returned (.int .i64 (Bu ls ms))) σ') : Spec prog 196 #[.agg #[.slice p n c, .int .u64 v], .agg #[.slice q m d, .int .u64 u]] σ R :=
 Ls.start fun _ _ => LP hr hs fun σ' hx => ⟨_, rfl, h σ' hx⟩
end
end TwW
end
section
namespace TwW
open Go Tw Go.RowKit Go.Proofs.Tryz
def Ng (op : Int) (vs : List Int) (w : Int) : Option Int :=
 if op = 4 then some (Vq vs) else if op = 5 then some (Nx 4 (Vq vs) (Bf vs.length)) else if op = 6 then some (MB 7 vs) else if op = 7 then some (MB 9 vs) else if op = 8 then some (Bf vs.length)
 else if op = 9 then some (Ub (vs.getLast?.getD 0)) else if op = 10 then some (QO vs) else if vs.length < 2 then none
 else if op = 3 then some (Nx 2 (vs.getLast?.getD 0) (vs.head?.getD 0)) else if op = 2 then some (Nb vs) else some (Nx 4 (Nb vs) w)
def foldI (op : Int) (vs : List Int) : Int := if op = 1 then Vq vs else if op = 2 then MB 7 vs else if op = 3 then MB 9 vs else if op = 4 then Nx 4 (Vq vs) (Bf vs.length) else Bf vs.length
def DA (op a b : Int) : Int × Bool := if 1 ≤ op ∧ op ≤ 4 then (Nx op a b, true) else (if SS op a b then Bf 1 else Bf 0, SS op a b)
def FF : Fl := { num := Hb, abs := bN, floor := Vp, whole := Bf, mX := Gu, over := Ng, fold := foldI, P0 := DA, bC := JS, cmpL := Bu }
structure PU (σ : Hp) (ab : Nat) (ss : List Sr) (t : Int) : Prop where
 ser : ∃ p n c, σ.ld ⟨ab, 0, none⟩ = some (.slice p n c) ∧ Ag 2 E4 σ p n ss
 at_ : σ.ld ⟨ab, 1, none⟩ = some (.int .i64 t)
theorem PU.mono {σ σ' : Hp} {ab : Nat} {ss : List Sr} {t : Int} (h : PU σ ab ss t) (hx : Ext σ σ') : PU σ' ab ss t := ⟨let ⟨p, n, c, h1, h2⟩ := h.ser; ⟨p, n, c, hx.ld h1, h2.mono E4.mono hx⟩, hx.ld h.at_⟩
structure rq (ss : List Sr) : Prop where
 ris : ∀ s ∈ ss, YW s.ps
 sm : ∀ s ∈ ss, Aq s.ls
 len : ss.length ≤ 10000000
structure zC (n : Nd) : Prop where
 mki : ∀ x ∈ n.mt, 1 ≤ x.kind ∧ x.kind ≤ 4
 mv : ∀ x ∈ n.mt, x.val.size ≤ 1000000
 back : 0 ≤ n.back ∧ n.back < 2147483648
 width : 0 ≤ n.width ∧ n.width < 2147483648
section
variable {σ σ' σ0 : Hp} {R : Rr}
theorem Nh {n : Nd} {a p q l : Option Addr} {k c m d j e : Nat} (hg : Gl σ) (ht : FH n.text = true) (h : II R σ (some ⟨1, Hb n.text, [], []⟩)) : Spec prog 100 #[.pointer a, Ll n p k c q m d, .slice l j e] σ R :=
 Bl.start fun _ _ => Yi hg ht ⟨_, _, rfl, h.ok _ σ none 0 0 none 0 0 rfl (.refl _) Ag.nil Ag.nil (Nat.le_refl _) (Nat.le_refl _)⟩
theorem HP {n : Nd} {p q : Option Addr} {k c m d : Nat} {a b : Int} (h : R (.returned (.tuple #[.int .u64 (DA n.op a b).1, .bool (DA n.op a b).2])) σ) : Spec prog 156 #[Ll n p k c q m d, .int .u64 a, .int .u64 b] σ R := by
 refine PF.start fun _ => I2 ?_
 unfold DA at h
 by_cases h1 : 1 ≤ n.op ∧ n.op ≤ 4
 · rw [if_pos h1] at h ⊢
   exact ⟨_, _, rfl, fun _ => h, fun hh => (by cases hh)⟩
 · rw [if_neg h1] at h ⊢
   exact ⟨_, _, rfl, fun hh => (by cases hh), fun _ => I3 ⟨_, _, rfl, bQ ⟨_, rfl, h⟩⟩⟩
theorem GZ {α β : Type} {f : α → Option β} {xs : List α} {k : Nat} {x : α} (hx : xs[k]? = some x) : (xs.take (k + 1)).filterMap f = (xs.take k).filterMap f ++ (f x).toList := by
 rw [Ab hx, List.filterMap_append]
 cases h : f x <;> simp [List.filterMap_cons, h]
theorem Yj {n : Nd} {p q l : Option Addr} {k c m d j e ab : Nat} {ss : List Sr} {t : Int} (hA : PU σ ab ss t) (hg : Gl σ) (hm : Ag 3 Nw σ p k n.mt) (hS : rq ss) (hN : zC n) (ht : -4611686018427387904 ≤ t ∧ t ≤ 4611686018427387904)
   (h : II R σ (some ⟨2, 0, AO FF n ss t, []⟩)) : Spec prog 101 #[.pointer (some ⟨ab, 0, none⟩), Ll n p k c q m d, .slice l j e] σ R := by
 obtain ⟨pss, P2, ru, EK, hr⟩ := hA.ser
 have hl : ss.length = P2 := hr.1
 have hlen := hS.len
 have hb := hN.back
 let f : Sr → Option El := fun s => match (Fg s.ps (t - n.back - 300) (t - n.back)).getLast? with
   | none => none
   | some p => if p.2 = IA ∨ FF.bC n.mt s.ls = false then none else some ⟨s.ls, p.2⟩
 have hf : AO FF n ss t = ss.filterMap f := rfl
 rw [hf] at h
 refine Ac.start fun _ _ _ => ⟨ab, 0, rfl, pss, P2, ru, EK, ?_⟩
 suffices H : ∀ g i : Nat, ∀ p8 n8 c8 σ', P2 - i = g → i ≤ P2 → AX 2 Bt σ σ' p8 n8 c8 ((ss.take i).filterMap f) → Ac.A3 R (aD ab 0) n.kind n.op n.text p k c n.width n.back n.EL q m d n.bool n.parts 0 0 none 0 0 none 0 0 2 0 p8 n8 c8 none 0 0 pss P2 ru P2 i σ' from H P2 0 none 0 0 σ rfl (Nat.zero_le _) (AX.nil (.refl _))
 intro g
 induction g with
 | zero =>
   intro i p8 n8 c8 σ' rv hi ho
   rw [List.take_of_length_le (by omega)] at ho
   exact Ac.AZ ⟨fun Ax => by omega, fun _ => h.ok _ σ' p8 n8 c8 none 0 0 rfl ho.up (ho.rd Bt.mono) Ag.nil (by obtain ⟨cs, WO, _⟩ := ho.1.2; exact BB.cap WO) (Nat.le_refl _)⟩
 | succ g ih =>
   intro i p8 n8 c8 σ' rv hi ho
   have Bb : i < P2 := by omega
   obtain ⟨s, hs⟩ := hr.ex Bb
   obtain ⟨b, o, p1, n1, c1, q1, m1, d1, rfl, YO, h1, h2, h3⟩ := E4.at hr hs
   have iW := hS.sm s (List.mem_of_getElem? hs)
   have zD := hS.ris s (List.mem_of_getElem? hs)
   have hx := ho.up
   have PW : n8 ≤ i := by
     have := ho.1.1
     have h9 := List.length_filterMap_le f (ss.take i)
     rw [List.length_take] at h9
     omega
   have next : ∀ p9 n9 c9 σ2, AX 2 Bt σ σ2 p9 n9 c9 ((ss.take i).filterMap f ++ (f s).toList) → Ac.Lf R (aD ab 0) n.kind n.op n.text p k c n.width n.back n.EL q m d n.bool n.parts 0 0 none 0 0 none 0 0 2 0 p9 n9 c9 none 0 0 (aD b o) P2 ru P2 i σ2 := fun p9 n9 c9 σ2 Bc =>
     Ac.Iu ⟨AN Bb hr.big, ih (i + 1) _ _ _ _ (by omega) (by omega) (by rw [GZ hs]; exact Bc)⟩
   refine Ac.AZ ⟨fun _ => ⟨b, o, rfl, by omega, p1, n1, c1, q1, m1, d1, by simpa using YO.mono hx, fun _ => ⟨ab, 0, rfl, t, hx.ld hA.at_, by unfold AM; omega, by unfold AM; omega, t, hx.ld hA.at_, by unfold AM; omega, PQ (h2.mono I1.mono hx) h3 zD fun q2 m2 d2 HO vI => ⟨q2, m2, d2, rfl, fun h0 => ?_, fun h0 => ?_⟩⟩⟩, fun hh => by omega⟩
   · refine next _ _ _ _ ?_
     have e : f s = none := by
       show (match (Fg s.ps (t - n.back - 300) (t - n.back)).getLast? with | none => none | some p => _) = none
       have Yk : (Fg s.ps (t - n.back - 300) (t - n.back)).length = m2 := HO.1
       rw [List.length_eq_zero_iff.1 (show (Fg s.ps (t - n.back - 300) (t - n.back)).length = 0 by omega)]; rfl
     rw [e]; simpa using ho
   have Yk : (Fg s.ps (t - n.back - 300) (t - n.back)).length = m2 := HO.1
   obtain ⟨y, hy⟩ := HO.ex (k := m2 - 1) (by omega)
   obtain ⟨b2, o2, rfl, bJ⟩ := I1.at HO hy
   have e1 : Int.toNat ((m2 : Int) - 1) = m2 - 1 := by omega
   have Iz := HO.big
   have AFg : (Fg s.ps (t - n.back - 300) (t - n.back)).getLast? = some y := by rw [List.getLast?_eq_getElem?, Yk, hy]
   have ef : f s = if y.2 = IA ∨ JS n.mt s.ls = false then none else some ⟨s.ls, y.2⟩ := by
     show (match (Fg s.ps (t - n.back - 300) (t - n.back)).getLast? with | none => none | some p => _) = _
     rw [AFg]; rfl
   refine ⟨by unfold AM; omega, b2, o2, rfl, by omega, y.2, by rw [e1]; exact bJ.2.1, fun CX => ?_, fun CX => Ui ((hg.mono hx)) (hm.mono Nw.mono hx) (h1.mono CL.mono hx) hN.mv (fun x hx => by have := (iW.2 x hx).2; omega) hN.mki fun σ2 A9 => ⟨_, rfl, fun hf => ?_, fun htr => ?_⟩⟩
   · refine next _ _ _ _ ?_
     rw [ef, if_pos (.inl CX)]; simpa using ho
   · refine next _ _ _ _ ?_
     rw [ef, if_pos (.inr hf)]
     simpa using ho.mono Bt.mono A9
   · refine ⟨by unfold AM; omega, by omega, y.2, by rw [e1]; exact A9.ld bJ.2.1, fun yL zF => ?_⟩
     have Bc := ho.mono Bt.mono A9
     have he : Bt (σ2.del p8) [.slice p1 n1 c1, .int .u64 y.2] ⟨s.ls, y.2⟩ := ⟨p1, n1, c1, rfl, h1.mono CL.mono Bc.2⟩
     refine AX.Jg Bt.mono Bc rfl (Bt.one _ _ _ he) he (by omega) (fun p' c' σ3 FL _ => ⟨_, _, _, rfl, next _ _ _ _ ?_⟩) zF
     rw [ef, if_neg (by
                        rintro (h5 | h5)
                        · exact CX h5
                        · rw [htr] at h5; cases h5)]
     exact FL
theorem BB.nG {s : Nat} {p q : Option Addr} {n c : Nat} {cs : List Value} (ho : BB s σ q n c cs) (h : ∀ a, q = some a → ∀ a', p = some a' → a.block ≠ a'.block) : BB s (σ.del p) q n c cs :=
 ⟨ho.1, ho.2.1, ho.2.2.imp id fun ⟨b', o', arr, T, hp, hb, r⟩ => ⟨b', o', arr, T, hp, AS.2 ⟨fun a' Zb => h _ hp a' Zb, hb⟩, r⟩⟩
theorem AX.sep {α : Type} {s : Nat} {E : Hp → List Value → α → Prop} {p q : Option Addr} {n c m d : Nat} {xs : List α} {ys : List Int} (h : AX s E σ0 σ p n c xs) (g : AX 1 (Pa .u64) σ σ' q m d ys) : E1 .u64 (σ'.del p) q m ys ∧ m ≤ d := by
 obtain ⟨⟨_, cs, ho, hc⟩, hx⟩ := g
 have hp := h.1.block
 refine ⟨?_, BB.cap ho⟩
 have Mn := Zp.1 hc
 subst Mn
 refine E1.jM (BB.rd (BB.nG ho fun a ha a' Zb e => ?_))
 cases hh : σ a'.block with
 | none => exact hp a' Zb hh
 | some u => exact (AS.1 (hx _ _ hh)).1 a ha e.symm
theorem SP.one (σ : Hp) (vs : List Value) (x : Rg) (h : SP σ vs x) : GB vs := by
 obtain ⟨p, n, c, q, m, d, rfl, _⟩ := h
 intro u hu
 simp only [List.mem_cons, List.not_mem_nil, or_false] at hu
 rcases hu with rfl | rfl <;> rfl
theorem bh {n : Nd} {p q l : Option Addr} {k c m d j e ab : Nat} {ss : List Sr} {t : Int} (hA : PU σ ab ss t) (hg : Gl σ) (hm : Ag 3 Nw σ p k n.mt) (hS : rq ss) (hN : zC n) (ht : -4611686018427387904 ≤ t ∧ t ≤ 4611686018427387904) (hpl : ∀ s ∈ ss, s.ps.length ≤ 1000000000)
   (h : II R σ (some ⟨3, Bf n.width, [], bE FF n ss t⟩)) : Spec prog 102 #[.pointer (some ⟨ab, 0, none⟩), Ll n p k c q m d, .slice l j e] σ R := by
 obtain ⟨pss, P2, ru, EK, hr⟩ := hA.ser
 have hl : ss.length = P2 := hr.1
 have hlen := hS.len
 have hb := hN.back
 have hw := hN.width
 let fv : Sr → List Int := fun s => ((Fg s.ps (t - n.back - n.width) (t - n.back)).filter fun p => decide (p.2 ≠ IA)).map Prod.snd
 let f : Sr → Option Rg := fun s => bif !(fv s).isEmpty && FF.bC n.mt s.ls then some ⟨s.ls, fv s⟩ else none
 have hf : bE FF n ss t = ss.filterMap f := rfl
 rw [hf] at h
 refine AR.start fun _ _ => I4 ⟨_, rfl, fun _ => ⟨ab, 0, rfl, pss, P2, ru, EK, ?_⟩⟩
 suffices H : ∀ g i : Nat, ∀ p8 n8 c8 σ', P2 - i = g → i ≤ P2 → AX 2 SP σ σ' p8 n8 c8 ((ss.take i).filterMap f) → AR.A3 R (aD ab 0) n.kind n.op n.text p k c n.width n.back n.EL q m d n.bool n.parts 0 0 none 0 0 none 0 0 3 (Bf n.width) none 0 0 p8 n8 c8 pss P2 ru P2 i σ' from H P2 0 none 0 0 σ rfl (Nat.zero_le _) (AX.nil (.refl _))
 intro g
 induction g with
 | zero =>
   intro i p8 n8 c8 σ' rv hi ho
   rw [List.take_of_length_le (by omega)] at ho
   exact AR.AZ ⟨fun Ax => by omega, fun _ => h.ok _ σ' none 0 0 p8 n8 c8 rfl ho.up Ag.nil (ho.rd SP.mono) (Nat.le_refl _) (by obtain ⟨cs, WO, _⟩ := ho.1.2; exact BB.cap WO)⟩
 | succ g ih =>
   intro i p8 n8 c8 σ' rv hi ho
   have Bb : i < P2 := by omega
   obtain ⟨s, hs⟩ := hr.ex Bb
   obtain ⟨b, o, p1, n1, c1, q1, m1, d1, rfl, YO, h1, h2, h3⟩ := E4.at hr hs
   have iW := hS.sm s (List.mem_of_getElem? hs)
   have zD := hS.ris s (List.mem_of_getElem? hs)
   have ARA := hpl s (List.mem_of_getElem? hs)
   have hx := ho.up
   have PW : n8 ≤ i := by
     have := ho.1.1
     have h9 := List.length_filterMap_le f (ss.take i)
     rw [List.length_take] at h9
     omega
   have next : ∀ p9 n9 c9 σ2, AX 2 SP σ σ2 p9 n9 c9 ((ss.take i).filterMap f ++ (f s).toList) → AR.Lj R (aD ab 0) n.kind n.op n.text p k c n.width n.back n.EL q m d n.bool n.parts 0 0 none 0 0 none 0 0 3 (Bf n.width) none 0 0 p9 n9 c9 (aD b o) P2 ru P2 i σ2 := fun p9 n9 c9 σ2 Bc =>
     AR.Ix ⟨AN Bb hr.big, ih (i + 1) _ _ _ _ (by omega) (by omega) (by rw [GZ hs]; exact Bc)⟩
   refine AR.AZ ⟨fun _ => ⟨b, o, rfl, by omega, p1, n1, c1, q1, m1, d1, by simpa using YO.mono hx, fun _ => ⟨ab, 0, rfl, t, hx.ld hA.at_, by unfold AM; omega, by unfold AM; omega, t, hx.ld hA.at_, by unfold AM; omega, PQ (h2.mono I1.mono hx) h3 zD fun q2 m2 d2 HO vI => ⟨q2, m2, d2, rfl, ?_⟩⟩⟩, fun hh => by omega⟩
   have Yk : (Fg s.ps (t - n.back - n.width) (t - n.back)).length = m2 := HO.1
   have hm2 : m2 ≤ 1000000000 := by
     have := List.length_filter_le (fun p : Int × Int => decide (t - n.back - n.width < p.1) && decide (p.1 ≤ t - n.back)) s.ps
     rw [← Yk]; unfold Fg; omega
   have hfv : fv s = ((Fg s.ps (t - n.back - n.width) (t - n.back)).filter fun p => decide (p.2 ≠ IA)).map Prod.snd := rfl
   generalize Fg s.ps (t - n.back - n.width) (t - n.back) = ps at *
   let gv : Pt → Option Int := fun p => if p.2 ≠ IA then some p.2 else none
   have hgv : ∀ l : List Pt, ((l.filter fun p => decide (p.2 ≠ IA)).map Prod.snd) = l.filterMap gv := fun l => by
     induction l with
     | nil => rfl
     | cons a l ih =>
       by_cases ha : a.2 ≠ IA
       · rw [List.filter_cons_of_pos (by simpa using ha), List.map_cons, ih, List.filterMap_cons_some (by show (if a.2 ≠ IA then some a.2 else none) = some a.2; rw [if_pos ha])]
       · rw [List.filter_cons_of_neg (by simpa using ha), ih, List.filterMap_cons_none (by show (if a.2 ≠ IA then some a.2 else none) = none; rw [if_neg ha])]
   rw [hgv] at hfv
   suffices H2 : ∀ g2 i2 : Nat, ∀ q2' Hd n11 He σ2, (0 < m2 → q2' = q2) → m2 - i2 = g2 → i2 ≤ m2 → AX 1 (Pa .u64) σ' σ2 Hd n11 He ((ps.take i2).filterMap gv) → AR.TY R (aD ab 0) n.kind n.op n.text p k c n.width n.back n.EL q m d n.bool n.parts 0 0 none 0 0 none 0 0 3 (Bf n.width) none 0 0 p8 n8 c8 p1 n1 c1 q1 m1 d1 Hd n11 He (aD b o) P2 ru P2 i q2' m2 d2 m2 i2 σ2 from H2 m2 0 q2 none 0 0 σ' (fun _ => rfl) rfl (Nat.zero_le _) (AX.nil (.refl _))
   intro g2
   induction g2 with
   | zero =>
     intro i2 q2' Hd n11 He σ2 hq gb hi2 Bc
     rw [List.take_of_length_le (by omega), ← hfv] at Bc
     have hlv : (fv s).length = n11 := Bc.1.1
     have WO := ho.mono SP.mono Bc.up
     refine AR.QK ⟨fun Ax => by omega, fun _ => ⟨fun QZ => Ui (hg.mono (hx.trans Bc.up)) (hm.mono Nw.mono (hx.trans Bc.up)) (h1.mono CL.mono (hx.trans Bc.up)) hN.mv (fun x hx => by have := (iW.2 x hx).2; omega) hN.mki fun σ3 D6 => ⟨_, rfl, fun htr => ?_, fun hfa => ?_⟩, fun QZ => ?_⟩⟩
     · intro b77 ALK
       obtain ⟨hv1, hv2⟩ := ho.sep (Bc.mono (Pa.mono _) D6)
       have FL := WO.mono SP.mono D6
       have he : SP (σ3.del p8) [.slice p1 n1 c1, .slice Hd n11 He] ⟨s.ls, fv s⟩ := ⟨p1, n1, c1, Hd, n11, He, rfl, h1.mono CL.mono FL.2, hv1, hv2⟩
       refine AX.Jg SP.mono FL rfl (SP.one _ _ _ he) he (by omega) (fun p' c' σ4 NR _ => ⟨_, _, _, rfl, next _ _ _ _ ?_⟩) ALK
       have ef : f s = some ⟨s.ls, fv s⟩ := by
         show (bif !(fv s).isEmpty && JS n.mt s.ls then some _ else none) = _
         rw [htr]
         cases hfe : fv s with
         | nil => rw [hfe] at hlv; simp at hlv; omega
         | cons a l => rfl
       rw [ef]; exact NR
     · refine next _ _ _ _ ?_
       have ef : f s = none := by
         show (bif !(fv s).isEmpty && JS n.mt s.ls then some _ else none) = _
         rw [hfa, Bool.and_false]; rfl
       rw [ef]; simpa using WO.mono SP.mono D6
     · refine next _ _ _ _ ?_
       have ef : f s = none := by
         show (bif !(fv s).isEmpty && JS n.mt s.ls then some _ else none) = _
         rw [List.length_eq_zero_iff.1 (show (fv s).length = 0 by omega)]; rfl
       rw [ef]; simpa using WO
   | succ g2 ih2 =>
     intro i2 q2' Hd n11 He σ2 hq gb hi2 Bc
     have AFj : i2 < m2 := by omega
     obtain ⟨y, hy⟩ := HO.ex AFj
     obtain ⟨b2, o2, pD, bJ⟩ := I1.at HO hy
     have ry : n11 ≤ i2 := by
       have := Bc.1.1
       have h9 := List.length_filterMap_le gv (ps.take i2)
       rw [List.length_take] at h9
       omega
     rw [hq (by omega), pD]
     have nx : ∀ p9 n9 c9 σ3, AX 1 (Pa .u64) σ' σ3 p9 n9 c9 ((ps.take i2).filterMap gv ++ (gv y).toList) → AR.rC R (aD ab 0) n.kind n.op n.text p k c n.width n.back n.EL q m d n.bool n.parts 0 0 none 0 0 none 0 0 3 (Bf n.width) none 0 0 p8 n8 c8 p1 n1 c1 q1 m1 d1 p9 n9 c9 (aD b o) P2 ru P2 i (aD b2 o2) m2 d2 m2 i2 σ3 := fun p9 n9 c9 σ3 FL =>
       AR.rD ⟨AN AFj HO.big, ih2 (i2 + 1) _ _ _ _ _ (fun _ => pD.symm) (by omega) (by omega) (by rw [GZ hy]; exact FL)⟩
     refine AR.QK ⟨fun _ => ⟨b2, o2, rfl, by omega, y.1, y.2, by simpa using bJ.mono Bc.up, fun _ => ⟨fun BE => fun b58 ALM => ?_, fun heq => nx _ _ _ _ ?_⟩⟩, fun hh => by omega⟩
     · refine AX.Jg (Pa.mono _) Bc (vs := [.int .u64 y.2]) (x := y.2) rfl (fun u hu => by rw [List.mem_singleton] at hu; subst hu; rfl) rfl (by omega) (fun p' c' σ4 NR _ => ⟨_, _, _, rfl, nx _ _ _ _ ?_⟩) ALM
       rw [show gv y = some y.2 from if_pos BE]; exact NR
     · rw [show gv y = none from if_neg (by simpa using heq)]; simpa using Bc
end
end TwW
end
section
namespace TwW
open Go Tw Go.RowKit Go.Proofs.Tryz
def fnT : List (Nat × Nat) := [(226, 193), (226, 191), (226, 189), (224, 151), (224, 154), (224, 152), (224, 153), (224, 155), (224, 185), (224, 187)]
def Sj (σ : Hp) (fb : Nat) : Prop := ∀ i g f, fnT[i]? = some (g, f) → ∃ b T, σ.ld ⟨fb, i + 1, none⟩ = some (.func (.func g) #[] #[.pointer (aD b 0)]) ∧ σ b = some (.cells #[.func (.func f) #[] #[]] T (0, 0))
theorem Sj.mono {σ σ' : Hp} {fb : Nat} (h : Sj σ fb) (hx : Ext σ σ') : Sj σ' fb := fun i g f hi => let ⟨b, T, h1, h2⟩ := h i g f hi; ⟨b, T, hx.ld h1, hx _ _ h2⟩
section
variable {σ σ' σ0 : Hp} {R : Rr}
theorem Sk (h : ∀ fb σ', Sj (σ.new σ') fb → Ext σ σ' → R (.returned (.slice (aD fb 0) 11 11)) σ') : Spec prog 147 #[] σ R := by
 refine Km.start ?_
 refine CH.start fun b1 h1 => ⟨_, _, _, rfl, ?_⟩
 refine CH.start fun b2 h2 => ⟨_, _, _, rfl, ?_⟩
 refine CH.start fun b3 h3 => ⟨_, _, _, rfl, ?_⟩
 refine CH.start fun b4 h4 => ⟨_, _, _, rfl, ?_⟩
 refine CH.start fun b5 h5 => ⟨_, _, _, rfl, ?_⟩
 refine CH.start fun b6 h6 => ⟨_, _, _, rfl, ?_⟩
 refine CH.start fun b7 h7 => ⟨_, _, _, rfl, ?_⟩
 refine M3.start fun b8 h8 => ⟨_, _, _, rfl, ?_⟩
 refine M3.start fun b9 h9 => ⟨_, _, _, rfl, ?_⟩
 refine M3.start fun CY SK => ⟨_, _, _, rfl, ?_⟩
 intro fb hfb
 have x10 := Ext.set (o := .cells #[.nilFunc, .func (.func 226) #[] #[.pointer (aD CY 0)], .func (.func 226) #[] #[.pointer (aD b9 0)], .func (.func 226) #[] #[.pointer (aD b8 0)], .func (.func 224) #[] #[.pointer (aD b1 0)], .func (.func 224) #[] #[.pointer (aD b2 0)], .func (.func 224) #[] #[.pointer (aD b3 0)], .func (.func 224) #[] #[.pointer (aD b4 0)], .func (.func 224) #[] #[.pointer (aD b5 0)], .func (.func 224) #[] #[.pointer (aD b6 0)], .func (.func 224) #[] #[.pointer (aD b7 0)]] 195 (0, 0)) hfb
 have TX := x10 _ _ (Hp.AB _ CY _)
 have x9 := (Ext.set SK).trans x10
 have c9 := x9 _ _ (Hp.AB _ b9 _)
 have x8 := (Ext.set h9).trans x9
 have c8 := x8 _ _ (Hp.AB _ b8 _)
 have x7 := (Ext.set h8).trans x8
 have c7 := x7 _ _ (Hp.AB _ b7 _)
 have x6 := (Ext.set h7).trans x7
 have c6 := x6 _ _ (Hp.AB _ b6 _)
 have x5 := (Ext.set h6).trans x6
 have c5 := x5 _ _ (Hp.AB _ b5 _)
 have x4 := (Ext.set h5).trans x5
 have c4 := x4 _ _ (Hp.AB _ b4 _)
 have x3 := (Ext.set h4).trans x4
 have c3 := x3 _ _ (Hp.AB _ b3 _)
 have x2 := (Ext.set h3).trans x3
 have c2 := x2 _ _ (Hp.AB _ b2 _)
 have x1 := (Ext.set h2).trans x2
 have c1 := x1 _ _ (Hp.AB _ b1 _)
 have x0 := (Ext.set h1).trans x1
 have n1 : σ b1 = none := h1
 have z1 := Ext.set (o := .cells #[.func (.func 151) #[] #[]] 201 (0, 0)) h1
 have n2 : σ b2 = none := A8 z1 h2
 have z2 := z1.trans (Ext.set (o := .cells #[.func (.func 154) #[] #[]] 201 (0, 0)) h2)
 have n3 : σ b3 = none := A8 z2 h3
 have z3 := z2.trans (Ext.set (o := .cells #[.func (.func 152) #[] #[]] 201 (0, 0)) h3)
 have n4 : σ b4 = none := A8 z3 h4
 have z4 := z3.trans (Ext.set (o := .cells #[.func (.func 153) #[] #[]] 201 (0, 0)) h4)
 have n5 : σ b5 = none := A8 z4 h5
 have z5 := z4.trans (Ext.set (o := .cells #[.func (.func 155) #[] #[]] 201 (0, 0)) h5)
 have n6 : σ b6 = none := A8 z5 h6
 have z6 := z5.trans (Ext.set (o := .cells #[.func (.func 185) #[] #[]] 201 (0, 0)) h6)
 have n7 : σ b7 = none := A8 z6 h7
 have z7 := z6.trans (Ext.set (o := .cells #[.func (.func 187) #[] #[]] 201 (0, 0)) h7)
 have n8 : σ b8 = none := A8 z7 h8
 have z8 := z7.trans (Ext.set (o := .cells #[.func (.func 189) #[] #[]] 232 (0, 0)) h8)
 have n9 : σ b9 = none := A8 z8 h9
 have z9 := z8.trans (Ext.set (o := .cells #[.func (.func 191) #[] #[]] 232 (0, 0)) h9)
 have n10 : σ CY = none := A8 z9 SK
 have z10 := z9.trans (Ext.set (o := .cells #[.func (.func 193) #[] #[]] 232 (0, 0)) SK)
 have nf : σ fb = none := A8 z10 hfb
 refine h fb _ (fun i g f hi => ?_) x0
 clear x0 x1 x2 x3 x4 x5 x6 x7 x8 x9 x10 z1 z2 z3 z4 z5 z6 z7 z8 z9 z10
 match i, hi with
 | 0, hi => cases hi; exact ⟨CY, _, Ad (AY.2 ⟨nf, Hp.AB _ _ _⟩) rfl, AY.2 ⟨n10, TX⟩⟩
 | 1, hi => cases hi; exact ⟨b9, _, Ad (AY.2 ⟨nf, Hp.AB _ _ _⟩) rfl, AY.2 ⟨n9, c9⟩⟩
 | 2, hi => cases hi; exact ⟨b8, _, Ad (AY.2 ⟨nf, Hp.AB _ _ _⟩) rfl, AY.2 ⟨n8, c8⟩⟩
 | 3, hi => cases hi; exact ⟨b1, _, Ad (AY.2 ⟨nf, Hp.AB _ _ _⟩) rfl, AY.2 ⟨n1, c1⟩⟩
 | 4, hi => cases hi; exact ⟨b2, _, Ad (AY.2 ⟨nf, Hp.AB _ _ _⟩) rfl, AY.2 ⟨n2, c2⟩⟩
 | 5, hi => cases hi; exact ⟨b3, _, Ad (AY.2 ⟨nf, Hp.AB _ _ _⟩) rfl, AY.2 ⟨n3, c3⟩⟩
 | 6, hi => cases hi; exact ⟨b4, _, Ad (AY.2 ⟨nf, Hp.AB _ _ _⟩) rfl, AY.2 ⟨n4, c4⟩⟩
 | 7, hi => cases hi; exact ⟨b5, _, Ad (AY.2 ⟨nf, Hp.AB _ _ _⟩) rfl, AY.2 ⟨n5, c5⟩⟩
 | 8, hi => cases hi; exact ⟨b6, _, Ad (AY.2 ⟨nf, Hp.AB _ _ _⟩) rfl, AY.2 ⟨n6, c6⟩⟩
 | 9, hi => cases hi; exact ⟨b7, _, Ad (AY.2 ⟨nf, Hp.AB _ _ _⟩) rfl, AY.2 ⟨n7, c7⟩⟩
theorem nH {p : Option Addr} {m c : Nat} {vs : List Int} (hr : E1 .u64 σ p m vs) (h0 : 0 < m) (h : R (.returned (.int .u64 (Ub (vs.getLast?.getD 0)))) σ) : Spec prog 185 #[.slice p m c] σ R := by
 have hl : vs.length = m := hr.1
 have Iz := hr.big
 obtain ⟨z, hz⟩ := hr.ex (k := m - 1) (by omega)
 obtain ⟨b, o, rfl, u9⟩ := E1.at hr hz
 rw [List.getLast?_eq_getElem?, hl, hz] at h
 exact DL.start ⟨by unfold AM; omega, b, o, rfl, by omega, z, by rw [show Int.toNat ((m : Int) - 1) = m - 1 by omega]; exact u9, Fi ⟨_, rfl, h⟩⟩
theorem nI {p q : Option Addr} {m c j e : Nat} {vs : List Int} (hr : E1 .u64 σ p m vs) (h0 : 0 < m) (h : R (.returned (.int .u64 (Nx 2 (vs.getLast?.getD 0) (vs.head?.getD 0)))) σ) : Spec prog 189 #[.slice p m c, .slice q j e] σ R := by
 have hl : vs.length = m := hr.1
 have Iz := hr.big
 obtain ⟨z, hz⟩ := hr.ex (k := m - 1) (by omega)
 obtain ⟨y, hy⟩ := hr.ex (k := 0) (by omega)
 obtain ⟨b, o, rfl, u9⟩ := E1.at hr hz
 obtain ⟨_, _, he, bJ⟩ := E1.at hr hy
 cases he
 rw [List.getLast?_eq_getElem?, hl, hz, List.head?_eq_getElem?, hy] at h
 exact DM.start ⟨by unfold AM; omega, b, o, rfl, by omega, z, by rw [show Int.toNat ((m : Int) - 1) = m - 1 by omega]; exact u9, by omega, y, by simpa using bJ, YS ⟨_, rfl, h⟩⟩
theorem gh {n : Nd} {p q r : Option Addr} {k c m d lb lo j e fb u v : Nat} {vs : List Int} {w : Int} (ho : 1 ≤ n.op ∧ n.op ≤ 10) (hF : Sj σ fb) (hr : E1 .u64 σ r u vs) (h0 : 0 < u) (hc : u ≤ v) (hj : 0 < j) (hw : σ.ld ⟨lb, lo + 1, none⟩ = some (.int .u64 w))
   (h : ∀ x ok σ', (Ng n.op vs w = some x ∧ ok = true ∨ Ng n.op vs w = none ∧ ok = false) → Ext σ σ' → R (.returned (.tuple #[.int .u64 x, .bool ok])) σ') :
   ∃ v58, Hp.ld σ ⟨fb, (0 + Int.toNat n.op * 1), none⟩ = some v58 ∧ ∃ (f63 : Nat) (Kj Kk : Array Value), v58 = .func (.func f63) Kj Kk ∧ Enters prog f63 ∧ Spec prog f63 (Kj ++ #[.slice r u v, Ll n p k c q m d, .slice (some ⟨lb, lo, none⟩) j e] ++ Kk) σ R := by
 have hl : vs.length = u := hr.1
 have always : ∀ (i f : Nat) (x : Int), n.op = i + 1 → fnT[i]? = some (224, f) → Ng n.op vs w = some x → Enters prog f → (∀ R' : Rr, (∀ σ', Ext σ σ' → R' (.returned (.int .u64 x)) σ') → Spec prog f #[.slice r u v] σ R') →
     ∃ v58, Hp.ld σ ⟨fb, (0 + Int.toNat n.op * 1), none⟩ = some v58 ∧ ∃ (f63 : Nat) (Kj Kk : Array Value), v58 = .func (.func f63) Kj Kk ∧ Enters prog f63 ∧ Spec prog f63 (Kj ++ #[.slice r u v, Ll n p k c q m d, .slice (some ⟨lb, lo, none⟩) j e] ++ Kk) σ R := fun i f x hi hf hx N3 hs => by
   obtain ⟨b, T, h1, h2⟩ := hF i _ _ hf
   refine ⟨_, by rw [show 0 + Int.toNat n.op * 1 = i + 1 by omega]; exact h1, 224, #[], #[.pointer (aD b 0)], rfl, FO.en, FO.start fun _ => ⟨_, Ad h2 rfl, f, #[], #[], rfl, N3, hs _ fun σ' YG => ⟨_, rfl, h x true σ' (.inl ⟨hx, rfl⟩) YG⟩⟩⟩
 have two : ∀ (i f : Nat) (x : Int), n.op = i + 1 → fnT[i]? = some (226, f) → (Ng n.op vs w = if vs.length < 2 then none else some x) → Enters prog f → (2 ≤ u → ∀ R' : Rr, R' (.returned (.int .u64 x)) σ → Spec prog f #[.slice r u v, .slice (some ⟨lb, lo, none⟩) j e] σ R') →
     ∃ v58, Hp.ld σ ⟨fb, (0 + Int.toNat n.op * 1), none⟩ = some v58 ∧ ∃ (f63 : Nat) (Kj Kk : Array Value), v58 = .func (.func f63) Kj Kk ∧ Enters prog f63 ∧ Spec prog f63 (Kj ++ #[.slice r u v, Ll n p k c q m d, .slice (some ⟨lb, lo, none⟩) j e] ++ Kk) σ R := fun i f x hi hf hx N3 hs => by
   obtain ⟨b, T, h1, h2⟩ := hF i _ _ hf
   refine ⟨_, by rw [show 0 + Int.toNat n.op * 1 = i + 1 by omega]; exact h1, 226, #[], #[.pointer (aD b 0)], rfl, Is.en, Is.start fun _ => ⟨fun Ax => h 0 false σ (.inr ⟨by rw [hx, if_pos (by omega)], rfl⟩) (.refl _), fun fz => ⟨_, Ad h2 rfl, f, #[], #[], rfl, N3, hs (by omega) _ ⟨_, rfl, h x true σ (.inl ⟨by rw [hx, if_neg (by omega)], rfl⟩) (.refl _)⟩⟩⟩⟩
 have nC : n.op = 1 ∨ n.op = 2 ∨ n.op = 3 ∨ n.op = 4 ∨ n.op = 5 ∨ n.op = 6 ∨ n.op = 7 ∨ n.op = 8 ∨ n.op = 9 ∨ n.op = 10 := by omega
 rcases nC with e1 | e1 | e1 | e1 | e1 | e1 | e1 | e1 | e1 | e1
 · exact two 0 _ (Nx 4 (Nb vs) w) e1 rfl (by rw [e1]; rfl) DT.en fun h2 R' LO => DT.start ⟨lb, lo, rfl, by omega, w, hw, SY hr h0 ⟨_, rfl, Kp.HS (.refl _), YT ⟨_, rfl, LO⟩⟩⟩
 · exact two 1 _ (Nb vs) e1 rfl (by rw [e1]; rfl) DP.en fun h2 R' LO => DP.start (SY hr h0 ⟨_, rfl, LO⟩)
 · exact two 2 _ (Nx 2 (vs.getLast?.getD 0) (vs.head?.getD 0)) e1 rfl (by rw [e1]; rfl) DM.en fun h2 R' LO => nI hr h0 LO
 · exact always 3 _ (Vq vs) e1 rfl (by rw [e1]; rfl) Fc.en fun R' LO => SU hr h0 hc (LO σ (.refl _))
 · exact always 4 _ (Nx 4 (Vq vs) (Bf vs.length)) e1 rfl (by rw [e1]; rfl) Ee.en fun R' LO => NZ hr h0 hc (by rw [← hl]; exact LO σ (.refl _))
 · exact always 5 _ (MB 7 vs) e1 rfl (by rw [e1]; rfl) Gj.en fun R' LO => SX hr h0 hc (LO σ (.refl _))
 · exact always 6 _ (MB 9 vs) e1 rfl (by rw [e1]; rfl) Dj.en fun R' LO => MC hr h0 hc (LO σ (.refl _))
 · exact always 7 _ (Bf vs.length) e1 rfl (by rw [e1]; rfl) Gf.en fun R' LO => Md (by rw [← hl]; exact LO σ (.refl _))
 · exact always 8 _ (Ub (vs.getLast?.getD 0)) e1 rfl (by rw [e1]; rfl) DL.en fun R' LO => nH hr h0 (LO σ (.refl _))
 · exact always 9 _ (QO vs) e1 rfl (by rw [e1]; rfl) BP.en fun R' LO => Tf hr h0 hc LO
end
end TwW
end
section
namespace TwW
open Go Tw Go.RowKit Go.Proofs.Tryz
theorem Spec.nJ {P : Program} {f : FuncId} {args : Array Value} {R : Ending → Prop} {σ0 : Hp} (h : @Spec ⟨True⟩ P f args σ0 (fun e σ' => R e ∧ Ext σ0 σ')) {w : World} (hs : Sat σ0 w) :
   Calls P f args w (fun e w' => R e ∧ ∃ q os, w' = { w with heap := w.heap ++ os, drawn := w.drawn + q }) := by
 refine (h w (fun b => b < w.heap.size ∧ σ0 b = none) hs (fun b hb => hb)).mono ?_
 rintro e w' ⟨σ, ⟨hr, hx⟩, hf⟩
 refine ⟨hr, ?_⟩
 obtain ⟨h1, h2, h30⟩ := @Fin.os ⟨True⟩ _ _ _ _ hf
 have hfp := @Fin.BX ⟨True⟩ _ _ _ _ hf
 have hfs := @Fin.sat ⟨True⟩ _ _ _ _ hf
 have hfg := @Fin.grow ⟨True⟩ _ _ _ _ hf
 have hfo := @Fin.out ⟨True⟩ _ _ _ _ hf
 obtain ⟨q, h3⟩ := h30 trivial
 refine ⟨q, w'.heap.extract w.heap.size w'.heap.size, ?_⟩
 have hh : w'.heap = w.heap ++ w'.heap.extract w.heap.size w'.heap.size := by
   apply Array.ext_getElem?
   intro i
   rw [Array.getElem?_append]
   split
   · rename_i hi
     cases hσ : σ0 i with
     | none => exact (hfp i ⟨hi, hσ⟩).2
     | some o => exact (hfs i o (hx i o hσ)).trans (hs i o hσ).symm
   · rename_i hi
     rw [Array.getElem?_extract]
     have := hfg
     split
     · congr 1; omega
     · rename_i h2
       exact Array.getElem?_eq_none (by omega)
 cases w with
 | mk heap tape drawn os output =>
   cases w' with
   | mk AOV AOW ALO os' AHb =>
     have h4 := hfo
     simp only at h1 h2 h3 h4 hh ⊢
     subst h1 h2 h3 h4
     rw [← hh]
theorem Sl {α : Type} {enc : α → List Value} {k : Nat} (hk : ∀ x, (enc x).length = k) (h0 : 0 < k) : ∀ (xs : List α) (j : Nat), (xs.flatMap enc)[j]? = (xs[j / k]?).bind fun x => (enc x)[j % k]?
 | [], j => by simp
 | x :: xs, j => by
   rw [List.flatMap_cons, List.getElem?_append, hk]
   by_cases hj : j < k
   · rw [if_pos hj, Nat.div_eq_of_lt hj, Nat.mod_eq_of_lt hj]; simp
   · rw [if_neg hj, Sl hk h0 xs, show j / k = (j - k) / k + 1 by rw [← Nat.add_div_right _ h0]; congr 1; omega, show (j - k) % k = j % k by rw [Nat.mod_eq_sub_mod (by omega : j ≥ k)]]
     simp
theorem Oh {α : Type} {enc : α → List Value} {k : Nat} (hk : ∀ x, (enc x).length = k) : ∀ (xs : List α), (xs.flatMap enc).length = xs.length * k
 | [] => by simp
 | x :: xs => by rw [List.flatMap_cons, List.length_append, Oh hk xs, hk, List.length_cons, Nat.add_mul]; omega
theorem Uk {α : Type} [Inhabited α] {enc : α → List Value} (hk : ∀ x, (enc x).length = 2) (d : List α) (j : Nat) (hj : j < d.length * 2) : (d.flatMap enc)[j]? = some (Sort.flatK enc 2 d.toArray)[j]! := by
 rw [Sl (k := 2) hk (by decide), Sort.get_flatK _ _ _ _ (by simpa using hj)]
 have Ax : j / 2 < d.length := by omega
 rw [List.getElem?_eq_getElem Ax]
 have h2 : j % 2 < (enc d[j / 2]).length := by rw [hk]; exact Nat.mod_lt _ (by decide)
 simp only [Option.bind_some]
 rw [List.getElem?_eq_getElem h2]
 have e1 : d.toArray[j / 2]! = d[j / 2] := by simp [Ax]
 rw [e1, getElem!_pos (enc d[j / 2]) (j % 2) h2]
theorem Vz (F arr : Array Value) (o j : Nat) : (Sort.putCells id o F arr)[j]? = if o ≤ j ∧ j < o + F.size then (arr[j]?).map fun _ => F[j - o]! else arr[j]? := by
 simp only [Sort.putCells, Array.getElem?_mapIdx, id]
 by_cases h : o ≤ j ∧ j < o + F.size
 · rw [if_pos h]; simp [h]
 · rw [if_neg h]
   cases arr[j]? with
   | none => rfl
   | some v => simp only [Option.map_some]; rw [if_neg h]
section
variable {σ : Hp} {R : Rr}
theorem eO {ρ : Go.Shelf.Ren} (L : Go.Proofs.SlLaysF0.n6 prog ρ) (aE : ∀ w, (isAgg (ρ.t 24)).run prog w = .ok true w) (zE : ∀ w, (Go.sizeOf (ρ.t 24)).run prog w = .ok 2 w) {α : Type} [Inhabited α] {enc : α → List Value} (hk : ∀ x, (enc x).length = 2) (h1 : ∀ x, ∀ v ∈ enc x, v.oneCell' = true) {cf : α → α → Int} (hO : Sort.SWO (Proofs.ltOf cf)) {g : Nat}
   (eg : ∀ args w, (callFunc g args).run prog w = .ok (.enter g args) w) {b o m d : Nat} {ds : List α} (ho : BB 2 σ (some ⟨b, o, none⟩) m d (ds.flatMap enc)) (hm : ds.length = m) (hm0 : m ≠ 0) (Hc : m < 4611686018427387904)
   (rU : ∀ w, Sat (σ.del (some ⟨b, o, none⟩)) w → ∀ x y, Calls prog g #[.agg (enc x).toArray, .agg (enc y).toArray] w fun e w' => e = .returned (.int .i64 (cf x y)) ∧ ∃ n os, w' = Sort.grow (w.drewN n) os)
   (h : ∀ (σ' : Hp) (ds' : List α), ds'.Perm ds → ds'.Pairwise (fun x y => Proofs.ltOf cf y x = false) → BB 2 σ' (some ⟨b, o, none⟩) m d (ds'.flatMap enc) → Ext (σ.del (some ⟨b, o, none⟩)) (σ'.del (some ⟨b, o, none⟩)) → R (.returned (.tuple #[])) σ') :
   Spec prog (ρ.f 6) #[.slice (some ⟨b, o, none⟩) m d, .func (.func g) #[] #[]] σ R := by
 intro w F hs hF
 obtain ⟨arr, T, hb, hw, vI, pP, Mn⟩ : ∃ arr T, σ b = some (.cells arr T (0, 0)) ∧ w.heap[b]? = some (.cells arr T (0, 0)) ∧ m ≤ d ∧ o + d * 2 ≤ arr.size ∧ (arr.toList.drop o).take (m * 2) = ds.flatMap enc := by
   rcases ho.2.2 with ⟨h1, h2, _⟩ | ⟨b', o', arr, T, hp, hb, vI, Hc, Mn⟩
   · exact absurd h2 hm0
   · cases hp
     exact ⟨arr, T, hb, hs _ _ hb, vI, Hc, Mn⟩
 have AFk : ∀ j, j < m * 2 → arr[o + j]? = some (Sort.flatK enc 2 ds.toArray)[j]! := fun j hj => by
   rw [← Uk hk ds j (by omega), ← Mn, List.getElem?_take, if_pos hj, List.getElem?_drop, Array.getElem?_toList]
 have hH : Sort.HoldsK enc 2 w b o ds.toArray := fun j hj => by
   have QY : j < m * 2 := by simpa [hm] using hj
   refine ⟨?_, by simp [World.frozen?, hw]⟩
   simp only [World.cell?, hw, id]
   simpa using AFk j QY
 have hblk : b < w.heap.size := (Array.getElem?_eq_some_iff.1 hw).1
 have Mr : ∀ (n : Nat) (dk : Array α) (os : Array Obj) k, (Proofs.sortWorldK enc 2 w b o n dk os).heap[k]? = if k < w.heap.size then (if b = k then (w.heap[k]?).map (Sort.onCells (Sort.putCells id o (Sort.flatK enc 2 dk))) else w.heap[k]?) else os[k - w.heap.size]? := fun n dk os k => by
   simp only [Proofs.sortWorldK, Sort.grow, Sort.putRowK, Sort.putRow, Sort.mapBlock, Sort.ahead, Array.getElem?_append, Array.size_modify, Array.getElem?_modify]
 have hcm : Proofs.CmpLays prog g #[] enc 2 cf b o ds.toArray.size w := fun n os dk _ x y => rU _ (fun k u hk => by
   obtain ⟨HC, hku⟩ := AS.1 hk
   have ALQ : b ≠ k := fun e => HC _ rfl e.symm
   have := hs k u hku
   rw [Mr, if_pos (Array.getElem?_eq_some_iff.1 this).1, if_neg ALQ]; exact this) x y
 have AFl := Proofs.AnyQ.slices_SortFunc L 2 aE zE enc hk h1 cf hO g #[] b o d ds.toArray w eg hcm hH hblk (by simpa [hm] using Hc)
 rw [show ds.toArray.size = m by simpa using hm] at AFl
 refine AFl.mono ?_
 rintro e w' ⟨rfl, d', n, os, AFm, AFn, rfl⟩
 obtain ⟨hp1, _, hp3⟩ := AFm
 have hd' : d'.size = m := by rw [hp1]; simpa using hm
 have hP : d'.toList.Perm ds := by
   rw [show m = d'.size from hd'.symm] at hp3
   rw [Array.extract_size] at hp3
   rw [show d'.size = ds.toArray.size from hp1, Array.extract_size] at hp3
   exact hp3
 have dJ : d'.toList.length = m := by simpa using hd'
 have hF2 : (Sort.flatK enc 2 d').size = m * 2 := by simp [hd']
 have pE : d'.toList.Pairwise (fun x y => Proofs.ltOf cf y x = false) := List.pairwise_iff_getElem.2 fun i j hi hj ca => by
   have QY : j < d'.size := by simpa using hj
   have Bb : i < d'.size := by simpa using hi
   have := AFn i j (Nat.zero_le _) ca (by omega)
   rw [getElem!_pos d' j QY, getElem!_pos d' i Bb] at this
   simpa using this
 have aK : ((Sort.putCells id o (Sort.flatK enc 2 d') arr).toList.drop o).take (m * 2) = d'.toList.flatMap enc := by
   refine List.ext_getElem? fun j => ?_
   rw [List.getElem?_take]
   by_cases hj : j < m * 2
   · have := Uk hk d'.toList j (by omega)
     rw [if_pos hj, List.getElem?_drop, Array.getElem?_toList, Vz, if_pos (by omega), this, AFk j hj]
     simp
   · rw [if_neg hj, List.getElem?_eq_none (by rw [Oh (k := 2) hk, dJ]; omega)]
 refine ⟨σ.set b (.cells (Sort.putCells id o (Sort.flatK enc 2 d') arr) T (0, 0)), h _ d'.toList hP pE ⟨by rw [Oh (k := 2) hk, dJ], by have := ho.2.1; omega, .inr ⟨b, o, _, T, rfl, Hp.AB _ _ _, vI, by simpa [Sort.putCells] using pP, aK⟩⟩ (by rw [Hp.IW]; exact Ext.refl _), ?_⟩
 · refine ⟨fun k u hk => ?_, fun k hk => ?_, ⟨rfl, rfl, fun _ => ⟨n, rfl⟩⟩, rfl, by simp [Proofs.sortWorldK, Sort.grow, Sort.putRowK, Sort.putRow, Sort.mapBlock, Sort.ahead]⟩
   · rw [Mr]
     by_cases HC : k = b
     · subst HC
       rw [Hp.AB] at hk; cases hk
       rw [if_pos hblk, if_pos rfl, hw]; rfl
     · rw [Hp.AI HC] at hk
       have := hs k u hk
       rw [if_pos (Array.getElem?_eq_some_iff.1 this).1, if_neg (Ne.symm HC)]; exact this
   · have HC : k ≠ b := fun e => by have := (hF k hk).2; rw [e, hb] at this; cases this
     refine ⟨by rw [Hp.AI HC]; exact (hF k hk).2, ?_⟩
     rw [Mr, if_pos (hF k hk).1, if_neg (Ne.symm HC)]
end
end TwW
end
section
namespace Go.Proofs
open Go.Shelf
def Tryz.Sm : Go.Shelf.Ren := ⟨fun | 6 => 195 | 15 => 74 | 14 => 227 | 28 => 117 | 29 => 118 | 20 => 242 | 21 => 243 | 22 => 244 | 23 => 245 | 24 => 246 | 25 => 247 | 26 => 248 | 27 => 249 | 46 => 264 | 47 => 164 | 48 => 165 | 49 => 265 | 50 => 266 | 57 => 293 | n => n, fun | 22 => 67 | 24 => 71 | 25 => 234 | 3 => 3 | 39 => 141 | 0 => 0 | 53 => 168 | 55 => 48 | 4 => 4 | 46 => 162 | 45 => 161 | 50 => 102 | 5 => 5 | 9 => 9 | 66 => 207 | 70 => 211 | 76 => 248 | 77 => 249 | n => n, fun | n => n⟩
theorem Tryz.nK : Go.Proofs.SlLaysF0.n6 Tryz.prog Tryz.Sm := {
 mixed := by kernel_rfl
 f6 := ⟨Tryz.f195.name, by decide, Tryz.func195.trans (congrArg some (by kernel_rfl))⟩
 f14 := ⟨Tryz.f227.name, by decide, Tryz.func227.trans (congrArg some (by kernel_rfl))⟩
 f15 := Tryz.func74.trans (congrArg some (by kernel_rfl))
 f20 := ⟨Tryz.f242.name, by decide, Tryz.func242.trans (congrArg some (by kernel_rfl))⟩
 f21 := ⟨Tryz.f243.name, by decide, Tryz.func243.trans (congrArg some (by kernel_rfl))⟩
 f22 := ⟨Tryz.f244.name, by decide, Tryz.func244.trans (congrArg some (by kernel_rfl))⟩
 f23 := ⟨Tryz.f245.name, by decide, Tryz.func245.trans (congrArg some (by kernel_rfl))⟩
 f24 := ⟨Tryz.f246.name, by decide, Tryz.func246.trans (congrArg some (by kernel_rfl))⟩
 f25 := ⟨Tryz.f247.name, by decide, Tryz.func247.trans (congrArg some (by kernel_rfl))⟩
 f26 := ⟨Tryz.f248.name, by decide, Tryz.func248.trans (congrArg some (by kernel_rfl))⟩
 f27 := ⟨Tryz.f249.name, by decide, Tryz.func249.trans (congrArg some (by kernel_rfl))⟩
 f28 := Tryz.func117.trans (congrArg some (by kernel_rfl))
 f29 := Tryz.func118.trans (congrArg some (by kernel_rfl))
 f46 := ⟨Tryz.f264.name, by decide, Tryz.func264.trans (congrArg some (by kernel_rfl))⟩
 f47 := Tryz.func164.trans (congrArg some (by kernel_rfl))
 f48 := Tryz.func165.trans (congrArg some (by kernel_rfl))
 f49 := ⟨Tryz.f265.name, by decide, Tryz.func265.trans (congrArg some (by kernel_rfl))⟩
 f50 := ⟨Tryz.f266.name, by decide, Tryz.func266.trans (congrArg some (by kernel_rfl))⟩
 f57 := ⟨Tryz.f293.name, by decide, Tryz.func293.trans (congrArg some (by kernel_rfl))⟩
 t0 := Tryz.underlying0
 a0 := Tryz.isAgg0
 z0 := Tryz.sizeOf0
 v0 := Tryz.zeroValue0
 t3 := Tryz.underlying3
 a3 := Tryz.isAgg3
 z3 := Tryz.sizeOf3
 v3 := Tryz.zeroValue3
 t4 := Tryz.underlying4
 a4 := Tryz.isAgg4
 z4 := Tryz.sizeOf4
 v4 := Tryz.zeroValue4
 t5 := Tryz.underlying5
 a5 := Tryz.isAgg5
 z5 := Tryz.sizeOf5
 v5 := Tryz.zeroValue5
 t9 := Tryz.underlying9
 a9 := Tryz.isAgg9
 z9 := Tryz.sizeOf9
 v9 := Tryz.zeroValue9
 t22 := Tryz.underlying67
 a22 := Tryz.isAgg67
 z22 := Tryz.sizeOf67
 v22 := Tryz.zeroValue67
 t25 := Tryz.underlying234
 a25 := Tryz.isAgg234
 z25 := Tryz.sizeOf234
 v25 := Tryz.zeroValue234
 t39 := Tryz.underlying141
 a39 := Tryz.isAgg141
 z39 := Tryz.sizeOf141
 v39 := Tryz.zeroValue141
 t45 := Tryz.underlying161
 a45 := Tryz.isAgg161
 z45 := Tryz.sizeOf161
 v45 := Tryz.zeroValue161
 t46 := Tryz.underlying162
 a46 := Tryz.isAgg162
 z46 := Tryz.sizeOf162
 v46 := Tryz.zeroValue162
 t50 := Tryz.underlying102
 a50 := Tryz.isAgg102
 z50 := Tryz.sizeOf102
 v50 := Tryz.zeroValue102
 t53 := Tryz.underlying168
 a53 := Tryz.isAgg168
 z53 := Tryz.sizeOf168
 v53 := Tryz.zeroValue168
 t55 := Tryz.underlying48
 a55 := Tryz.isAgg48
 z55 := Tryz.sizeOf48
 v55 := Tryz.zeroValue48
 t66 := Tryz.underlying207
 a66 := Tryz.isAgg207
 z66 := Tryz.sizeOf207
 v66 := Tryz.zeroValue207
 t70 := Tryz.underlying211
 a70 := Tryz.isAgg211
 z70 := Tryz.sizeOf211
 v70 := Tryz.zeroValue211
 t76 := Tryz.underlying248
 a76 := Tryz.isAgg248
 z76 := Tryz.sizeOf248
 v76 := Tryz.zeroValue248
 t77 := Tryz.underlying249
 a77 := Tryz.isAgg249
 z77 := Tryz.sizeOf249
 v77 := Tryz.zeroValue249 }
def Tryz.Sn : Go.Shelf.Ren := ⟨fun | 6 => 50 | 15 => 74 | 14 => 73 | 28 => 117 | 29 => 118 | 20 => 109 | 21 => 110 | 22 => 111 | 23 => 112 | 24 => 113 | 25 => 114 | 26 => 115 | 27 => 116 | 46 => 163 | 47 => 164 | 48 => 165 | 49 => 166 | 50 => 167 | 57 => 208 | n => n, fun | 22 => 23 | 24 => 40 | 25 => 106 | 3 => 3 | 39 => 141 | 0 => 0 | 53 => 168 | 55 => 48 | 4 => 4 | 46 => 162 | 45 => 161 | 50 => 102 | 5 => 5 | 9 => 9 | 66 => 207 | 70 => 211 | 76 => 248 | 77 => 249 | n => n, fun | n => n⟩
theorem Tryz.zG : Go.Proofs.SlLaysF0.n6 Tryz.prog Tryz.Sn := {
 mixed := by kernel_rfl
 f6 := ⟨Tryz.f50.name, by decide, Tryz.func50.trans (congrArg some (by kernel_rfl))⟩
 f14 := ⟨Tryz.f73.name, by decide, Tryz.func73.trans (congrArg some (by kernel_rfl))⟩
 f15 := Tryz.func74.trans (congrArg some (by kernel_rfl))
 f20 := ⟨Tryz.f109.name, by decide, Tryz.func109.trans (congrArg some (by kernel_rfl))⟩
 f21 := ⟨Tryz.f110.name, by decide, Tryz.func110.trans (congrArg some (by kernel_rfl))⟩
 f22 := ⟨Tryz.f111.name, by decide, Tryz.func111.trans (congrArg some (by kernel_rfl))⟩
 f23 := ⟨Tryz.f112.name, by decide, Tryz.func112.trans (congrArg some (by kernel_rfl))⟩
 f24 := ⟨Tryz.f113.name, by decide, Tryz.func113.trans (congrArg some (by kernel_rfl))⟩
 f25 := ⟨Tryz.f114.name, by decide, Tryz.func114.trans (congrArg some (by kernel_rfl))⟩
 f26 := ⟨Tryz.f115.name, by decide, Tryz.func115.trans (congrArg some (by kernel_rfl))⟩
 f27 := ⟨Tryz.f116.name, by decide, Tryz.func116.trans (congrArg some (by kernel_rfl))⟩
 f28 := Tryz.func117.trans (congrArg some (by kernel_rfl))
 f29 := Tryz.func118.trans (congrArg some (by kernel_rfl))
 f46 := ⟨Tryz.f163.name, by decide, Tryz.func163.trans (congrArg some (by kernel_rfl))⟩
 f47 := Tryz.func164.trans (congrArg some (by kernel_rfl))
 f48 := Tryz.func165.trans (congrArg some (by kernel_rfl))
 f49 := ⟨Tryz.f166.name, by decide, Tryz.func166.trans (congrArg some (by kernel_rfl))⟩
 f50 := ⟨Tryz.f167.name, by decide, Tryz.func167.trans (congrArg some (by kernel_rfl))⟩
 f57 := ⟨Tryz.f208.name, by decide, Tryz.func208.trans (congrArg some (by kernel_rfl))⟩
 t0 := Tryz.underlying0
 a0 := Tryz.isAgg0
 z0 := Tryz.sizeOf0
 v0 := Tryz.zeroValue0
 t3 := Tryz.underlying3
 a3 := Tryz.isAgg3
 z3 := Tryz.sizeOf3
 v3 := Tryz.zeroValue3
 t4 := Tryz.underlying4
 a4 := Tryz.isAgg4
 z4 := Tryz.sizeOf4
 v4 := Tryz.zeroValue4
 t5 := Tryz.underlying5
 a5 := Tryz.isAgg5
 z5 := Tryz.sizeOf5
 v5 := Tryz.zeroValue5
 t9 := Tryz.underlying9
 a9 := Tryz.isAgg9
 z9 := Tryz.sizeOf9
 v9 := Tryz.zeroValue9
 t22 := Tryz.underlying23
 a22 := Tryz.isAgg23
 z22 := Tryz.sizeOf23
 v22 := Tryz.zeroValue23
 t25 := Tryz.underlying106
 a25 := Tryz.isAgg106
 z25 := Tryz.sizeOf106
 v25 := Tryz.zeroValue106
 t39 := Tryz.underlying141
 a39 := Tryz.isAgg141
 z39 := Tryz.sizeOf141
 v39 := Tryz.zeroValue141
 t45 := Tryz.underlying161
 a45 := Tryz.isAgg161
 z45 := Tryz.sizeOf161
 v45 := Tryz.zeroValue161
 t46 := Tryz.underlying162
 a46 := Tryz.isAgg162
 z46 := Tryz.sizeOf162
 v46 := Tryz.zeroValue162
 t50 := Tryz.underlying102
 a50 := Tryz.isAgg102
 z50 := Tryz.sizeOf102
 v50 := Tryz.zeroValue102
 t53 := Tryz.underlying168
 a53 := Tryz.isAgg168
 z53 := Tryz.sizeOf168
 v53 := Tryz.zeroValue168
 t55 := Tryz.underlying48
 a55 := Tryz.isAgg48
 z55 := Tryz.sizeOf48
 v55 := Tryz.zeroValue48
 t66 := Tryz.underlying207
 a66 := Tryz.isAgg207
 z66 := Tryz.sizeOf207
 v66 := Tryz.zeroValue207
 t70 := Tryz.underlying211
 a70 := Tryz.isAgg211
 z70 := Tryz.sizeOf211
 v70 := Tryz.zeroValue211
 t76 := Tryz.underlying248
 a76 := Tryz.isAgg248
 z76 := Tryz.sizeOf248
 v76 := Tryz.zeroValue248
 t77 := Tryz.underlying249
 a77 := Tryz.isAgg249
 z77 := Tryz.sizeOf249
 v77 := Tryz.zeroValue249 }
end Go.Proofs
end
section
namespace TwW
open Go Tw Go.RowKit Go.Proofs.Tryz
section
variable {σ σ' σ0 : Hp} {R : Rr}
theorem ALR {α : Type} {f : α → List Lb} : Sort.SWO (Proofs.ltOf fun x y => Bu (f x) (f y)) where
 irrefl x := by
   have h1 : Bu (f x) (f x) = 0 := (Au.eq _ _).2 rfl
   exact decide_eq_false (by show ¬ Bu (f x) (f x) < 0; omega)
 trans x y z h1 h2 := by
   unfold Proofs.ltOf at *
   exact decide_eq_true (Au.trans _ _ _ (of_decide_eq_true h1) (of_decide_eq_true h2))
 ntrans x y z h1 h2 := by
   unfold Proofs.ltOf at *
   have h1 := of_decide_eq_false h1
   have h2 := of_decide_eq_false h2
   dsimp only at h1 h2
   refine decide_eq_false fun h3 => ?_
   dsimp only at h3
   rcases Int.lt_trichotomy (Bu (f x) (f y)) 0 with h | h | h
   · exact h1 h
   · rw [(Au.eq _ _).1 h] at h3; exact h2 h3
   · have h4 := (Au.Vm _ _).2 h
     exact h2 (Au.trans _ _ _ h4 h3)
theorem nL {cs : List Value} {m : Nat} (h : cs.length = m * 2) : (List.finRange m).flatMap (fun i => (cs.drop (i.1 * 2)).take 2) = cs := by
 have hk : ∀ i : Fin m, ((cs.drop (i.1 * 2)).take 2).length = 2 := fun i => by
   have := i.2
   rw [List.length_take, List.length_drop]; omega
 refine List.ext_getElem? fun j => ?_
 rw [Sl hk (by decide)]
 by_cases hj : j < m * 2
 · have Ax : j / 2 < m := by omega
   rw [List.getElem?_eq_getElem (by rw [List.length_finRange]; exact Ax)]
   simp only [List.getElem_finRange, Option.bind_some, Fin.val_cast]
   rw [List.getElem?_take, if_pos (Nat.mod_lt _ (by decide)), List.getElem?_drop]
   congr 1
   omega
 · rw [List.getElem?_eq_none (by rw [List.length_finRange]; omega), List.getElem?_eq_none (by omega)]; rfl
theorem eP {α : Type} {enc : α → List Value} (hk : ∀ x, (enc x).length = 2) : ∀ (xs : List α) (i : Nat) (x : α), xs[i]? = some x → ((xs.flatMap enc).drop (i * 2)).take 2 = enc x
 | [], i, x, h => by simp at h
 | a :: xs, 0, x, h => by
   simp only [List.getElem?_cons_zero, Option.some.injEq] at h
   subst h
   rw [List.flatMap_cons, Nat.zero_mul, List.drop_zero, ← hk a, List.take_left]
 | a :: xs, i + 1, x, h => by
   rw [List.flatMap_cons, show (i + 1) * 2 = (enc a).length + i * 2 by rw [hk]; omega, List.drop_append]
   simp only [Nat.add_sub_cancel_left, List.drop_eq_nil_of_le (Nat.le_add_right _ _), List.nil_append]
   exact eP hk xs i x (by simpa using h)
theorem rz {α : Type} (l : List α) {n : Nat} (hn : l.length = n) : (List.finRange n).map (fun i => l[i.1]'(by rw [hn]; exact i.2)) = l := by
 subst hn
 refine List.ext_getElem (by simp) fun i h1 h2 => ?_
 simp
theorem gi {l : List El} (h : ∀ i a b, l[i]? = some a → l[i + 1]? = some b → Bu a.ls b.ls < 0) : l.Pairwise fun a b => Bu a.ls b.ls < 0 := by
 rw [List.pairwise_iff_getElem]
 intro i j hi hj ca
 induction j with
 | zero => omega
 | succ j ih =>
   have hs := h j l[j] l[j + 1] (List.getElem?_eq_getElem _) (List.getElem?_eq_getElem _)
   by_cases he : i = j
   · subst he; exact hs
   · exact Au.trans _ _ _ (ih (by omega) (by omega)) hs
theorem nM : CF FF [] = some [] := by unfold CF; rw [if_pos List.Pairwise.nil]; rfl
theorem EF {p : Option Addr} {n c : Nat} {l : List El} (ho : AX 2 Bt σ0 σ p n c l) (hn : n ≤ 1000000000000) (h : II R σ0 ((CF FF l).map fun l => ⟨2, 0, l, []⟩)) : Spec prog 148 #[.slice p n c] σ R := by
 have hx0 := ho.up
 obtain ⟨⟨hl, cs, WO, hc⟩, hx⟩ := ho
 refine ED.start fun _ => ?_
 by_cases h0 : n = 0
 · subst h0
   have rK : l = [] := List.length_eq_zero_iff.1 hl
   subst rK
   rw [nM] at h
   refine Spec.same (v := .tuple #[]) (fun w _ => Go.Proofs.AnyF.slices_SortFunc_none Go.Proofs.Tryz.nK p c _ w) ⟨rfl, ED.BH ⟨fun Ax => by omega, fun _ => ?_⟩⟩
   exact h.ok _ σ p 0 c none 0 0 rfl hx0 Ag.nil Ag.nil (Nat.zero_le _) (Nat.le_refl _)
 obtain ⟨b, o, rfl⟩ : ∃ b o, p = some ⟨b, o, none⟩ := by
   rcases WO.2.2 with ⟨_, h2, _⟩ | ⟨b, o, _, _, hp, _⟩
   · exact absurd h2 h0
   · exact ⟨b, o, hp⟩
 have aK : cs.length = n * 2 := WO.1
 let enc : Fin n → List Value := fun i => (cs.drop (i.1 * 2)).take 2
 let at_ : Fin n → El := fun i => l[i.1]'(by rw [hl]; exact i.2)
 have hE : ∀ i : Fin n, Bt (σ.del (some ⟨b, o, none⟩)) (enc i) (at_ i) := fun i => hc.2 i.1 (at_ i) (List.getElem?_eq_getElem _)
 have hk : ∀ i, (enc i).length = 2 := fun i => by
   have := i.2
   show ((cs.drop (i.1 * 2)).take 2).length = 2
   rw [List.length_take, List.length_drop]; omega
 have vJ : (List.finRange n).flatMap enc = cs := nL aK
 haveI : Inhabited (Fin n) := ⟨⟨0, by omega⟩⟩
 refine eO (ρ := Go.Proofs.Tryz.Sm) Go.Proofs.Tryz.nK (fun w => by kernel_rfl) (fun w => by kernel_rfl) (α := Fin n) (enc := enc) hk (fun i => Bt.one _ _ _ (hE i)) (cf := fun i j => Bu (at_ i).ls (at_ j).ls) ALR (g := 196) (fun args w => call196 args w) (b := b) (o := o) (ds := List.finRange n) (by rw [vJ]; exact WO) List.length_finRange h0 (by omega) (fun w hw i j => ?_) fun σ1 ds hp pE BY Iy => ⟨rfl, ?_⟩
 · obtain ⟨q1, m1, d1, hv1, F0⟩ := hE i
   obtain ⟨q2, m2, d2, hv2, HO⟩ := hE j
   rw [hv1, hv2]
   exact Spec.nJ (R := fun e => e = .returned (.int .i64 (Bu (at_ i).ls (at_ j).ls))) (@ga _ _ ⟨True⟩ _ _ _ _ _ _ _ _ _ _ F0 HO fun σ' YG => ⟨rfl, YG⟩) hw
 let l2 : List El := ds.map at_
 have hp2 : l2.Perm l := by
   have := hp.map at_
   rwa [rz l hl] at this
 have Yk : l2.length = n := hp2.length_eq.trans hl
 have hdl : ds.length = n := by have h9 : (ds.map at_).length = n := Yk; rwa [List.length_map] at h9
 have hO : AX 2 Bt σ0 σ1 (some ⟨b, o, none⟩) n c l2 := by
   refine ⟨⟨Yk, _, BY, ?_, fun i x hi => ?_⟩, hx.trans Iy⟩
   · rw [BY.1, Yk]
   · have Bb : (ds.map at_)[i]? = some x := hi
     rw [List.getElem?_map] at Bb
     cases hd : ds[i]? with
     | none => rw [hd] at Bb; cases Bb
     | some k =>
       rw [hd] at Bb
       simp only [Option.map_some, Option.some.injEq] at Bb
       rw [eP hk ds i k hd, ← Bb]
       exact Bt.mono _ _ _ _ Iy (hE k)
 have hle : ∀ i a b', l2[i]? = some a → l2[i + 1]? = some b' → ¬ Bu b'.ls a.ls < 0 := fun i a b' ha hb => by
   have hq : l2.Pairwise (fun a b' => ¬ Bu b'.ls a.ls < 0) := by
     refine List.pairwise_map.2 (pE.imp fun {x y} YI => ?_)
     exact of_decide_eq_false YI
   obtain ⟨h1, rfl⟩ := List.getElem?_eq_some_iff.1 ha
   obtain ⟨h2, rfl⟩ := List.getElem?_eq_some_iff.1 hb
   exact List.pairwise_iff_getElem.1 hq i (i + 1) h1 h2 (by omega)
 clear_value l2
 clear BY pE hp vJ hE hk hdl
 suffices H : ∀ g k : Nat, ∀ σ', n - k = g → 1 ≤ k → k ≤ n → AX 2 Bt σ0 σ' (some ⟨b, o, none⟩) n c l2 → (∀ i a b', i + 1 < k → l2[i]? = some a → l2[i + 1]? = some b' → Bu a.ls b'.ls < 0) → ED.CN R (some ⟨b, o, none⟩) n c 0 0 none 0 0 none 0 0 k σ' from H (n - 1) 1 σ1 rfl (Nat.le_refl _) (by omega) hO (fun i a b' hi => by omega)
 intro g
 induction g with
 | zero =>
   intro k σ' hg h1 cZ zH Ax
   have hr : CF FF l = some l2 := gG rfl hp2 (gi fun i a b' ha hb => Ax i a b' (by have := (List.getElem?_eq_some_iff.1 hb).1; omega) ha hb)
   rw [hr] at h
   exact ED.BH ⟨fun Ax => by omega, fun _ => h.ok _ σ' _ n c none 0 0 rfl zH.up (zH.rd Bt.mono) Ag.nil (by obtain ⟨cs', ALS, _⟩ := zH.1.2; exact BB.cap ALS) (Nat.le_refl _)⟩
 | succ g ih =>
   intro k σ' hg h1 cZ zH Ax
   have hr := zH.rd Bt.mono
   obtain ⟨y, hy⟩ := hr.ex (k := k) (by omega)
   obtain ⟨x, YG⟩ := hr.ex (k := k - 1) (by omega)
   obtain ⟨_, _, q1, m1, d1, WQ, PZ, F0⟩ := Bt.at hr YG
   cases WQ
   obtain ⟨_, _, q2, m2, d2, pD, ALT, HO⟩ := Bt.at hr hy
   cases pD
   have e1 : Int.toNat ((k : Int) - 1) = k - 1 := by omega
   refine ED.BH ⟨fun _ => ⟨by unfold AM; omega, b, o, rfl, by omega, q1, m1, d1, by rw [e1]; exact PZ.1, by omega, q2, m2, d2, by simpa using ALT.1, LP F0 HO fun σ2 A9 => ⟨_, rfl, fun hz => ?_, fun hnz => ⟨by unfold AM; omega, ?_⟩⟩⟩, fun hh => by omega⟩
   · refine h.no ?_ σ2 (zH.up.trans A9)
     have : CF FF l = none := gH rfl hp2 fun pE => by
       obtain ⟨h3, rfl⟩ := List.getElem?_eq_some_iff.1 YG
       obtain ⟨h4, rfl⟩ := List.getElem?_eq_some_iff.1 hy
       exact List.pairwise_iff_getElem.1 pE (k - 1) k h3 h4 (by omega) hz
     rw [this]; rfl
   · have := ih (k + 1) σ2 (by omega) (by omega) (by omega) (zH.mono Bt.mono A9) fun i a b' hi ha hb => by
       by_cases hik : i + 1 = k
       · rw [hik, hy] at hb; cases hb
         rw [show i = k - 1 by omega, YG] at ha; cases ha
         have h5 := hle (k - 1) _ _ YG (by rw [show k - 1 + 1 = k by omega]; exact hy)
         have h6 := (Au.Vm x.ls y.ls)
         have h7 := (Au.Vm y.ls x.ls)
         omega
       · exact Ax i a b' (by omega) ha hb
     exact_mod_cast this
end
end TwW
end
section
namespace TwW
open Go Tw Go.RowKit Go.Proofs.Tryz
structure gj (x : Vv) : Prop where
 el : ∀ e ∈ x.vec, Aq e.ls ∧ 0 ≤ e.v
 rg : ∀ r ∈ x.OC, Aq r.ls ∧ 0 < r.vs.length
 len : x.vec.length + x.OC.length ≤ 100000000000
theorem Aq.rd {σ : Hp} {p : Option Addr} {n : Nat} {ls : List Lb} (h : Aq ls) (hr : F7 σ p n ls) : n ≤ 1000000 := by
 have h1 := h.1
 have h2 : ls.length = n := hr.1
 omega
theorem r7 : ∀ w, (zeroValue 190).run prog w = .ok .nilFunc w := fun w => by
 have h : prog.info? 190 = some t190 := by kernel_rfl
 simp [zeroValue, typeInfo, h]
 rfl
section
variable {σ σ' σ0 : Hp} {R : Rr}
theorem Mb.at {p2 : Option Addr} {n2 i : Nat} {l : List Vv} {x : Vv} (hr : Ag 4 Mb σ p2 n2 l) (hx : l[i]? = some x) : ∃ b o p n c q m d, p2 = some ⟨b, o, none⟩ ∧ σ.ld ⟨b, o + i * 4, none⟩ = some (.int .i64 x.kind) ∧ σ.ld ⟨b, o + i * 4 + 1, none⟩ = some (.int .u64 x.v) ∧ σ.ld ⟨b, o + i * 4 + 2, none⟩ = some (.slice p n c) ∧ σ.ld ⟨b, o + i * 4 + 3, none⟩ = some (.slice q m d) ∧ Ag 2 Bt σ p n x.vec ∧ Ag 2 SP σ q m x.OC := by
 obtain ⟨b, o, vs, hp, ⟨p, n, c, q, m, d, rfl, h1, h2⟩, hl⟩ := Ag.idx hr hx
 exact ⟨b, o, p, n, c, q, m, d, hp, hl.1, hl.2.1, hl.2.2.1, hl.2.2.2.1, h1, h2⟩
theorem SP.at {p : Option Addr} {n i : Nat} {l : List Rg} {x : Rg} (hr : Ag 2 SP σ p n l) (hx : l[i]? = some x) : ∃ b o q m d q2 m2 d2, p = some ⟨b, o, none⟩ ∧ Av σ b (o + i * 2) [.slice q m d, .slice q2 m2 d2] ∧ F7 σ q m x.ls ∧ E1 .u64 σ q2 m2 x.vs ∧ m2 ≤ d2 := by
 obtain ⟨b, o, vs, hp, ⟨q, m, d, q2, m2, d2, rfl, h1, h2, h3⟩, hl⟩ := Ag.idx hr hx
 exact ⟨b, o, q, m, d, q2, m2, d2, hp, hl, h1, h2, h3⟩
theorem AX.el {p : Option Addr} {n c : Nat} {xs : List El} {q : Option Addr} {m d : Nat} {ls : List Lb} {v : Int} {ty : TypeId} {Φ : Value → Hp → Prop} (ho : AX 2 Bt σ0 σ p n c xs) (hr : F7 (σ.del p) q m ls) (hn : n ≤ 1000000000000)
   (hΦ : ∀ p' c' σ', AX 2 Bt σ0 σ' p' (n + 1) c' (xs ++ [⟨ls, v⟩]) → Ext (σ.del p) (σ'.del p') → Φ (.slice p' (n + 1) c') σ') {b : Nat} (hb : σ b = none) :
   AJ prog (Builtin.append_ #[67, 67] ty #[.slice p n c, .slice (some ⟨b, 0, none⟩) 1 1]) (σ.set b (.cells #[.slice q m d, .int .u64 v] 71 (0, 0))) Φ := by
 have he : Bt (σ.del p) [.slice q m d, .int .u64 v] ⟨ls, v⟩ := ⟨q, m, d, rfl, hr⟩
 exact AX.Jg Bt.mono ho rfl (Bt.one _ _ _ he) he (by omega) hΦ hb
theorem nN {n : Nd} {p q a l : Option Addr} {k c m d j e : Nat} {L : List Vv} {x : Vv} (hr : Ag 4 Mb σ l j L) (hx : L[0]? = some x) (hV : gj x) (h : II R σ (gF FF x)) : Spec prog 106 #[.pointer a, Ll n p k c q m d, .slice l j e] σ R := by
 have hj : 0 < j := by have h1 : L.length = j := hr.1; have := (List.getElem?_eq_some_iff.1 hx).1; omega
 obtain ⟨b, o, pv, nv, cv, qv, mv, dv, rfl, h1, h2, h3, h4, h5, h6⟩ := Mb.at hr hx
 simp only [Nat.zero_mul, Nat.add_zero] at h1 h2 h3 h4
 refine BG.start fun _ _ => ⟨b, o, rfl, by omega, x.kind, h1, fun hk => ⟨by omega, x.v, h2, PO ⟨_, rfl, ?_⟩⟩, fun hk => ⟨by omega, pv, nv, cv, h3, ?_⟩⟩
 · unfold gF at h; rw [if_pos hk] at h
   exact h.ok _ σ none 0 0 none 0 0 rfl (.refl _) Ag.nil Ag.nil (Nat.le_refl _) (Nat.le_refl _)
 unfold gF at h
 rw [if_neg hk] at h
 have hl : x.vec.length = nv := h5.1
 have hlen := hV.len
 suffices H : ∀ g i : Nat, ∀ p8 n8 c8 σ', nv - i = g → i ≤ nv → AX 2 Bt σ σ' p8 n8 c8 ((x.vec.take i).map fun x => ⟨Ai x.ls, FF.mX x.v⟩) → BG.qm R 0 0 none 0 0 none 0 0 p8 n8 c8 pv nv cv nv i σ' from H nv 0 none 0 0 σ rfl (Nat.zero_le _) (AX.nil (.refl _))
 intro g
 induction g with
 | zero =>
   intro i p8 n8 c8 σ' hg hi ho
   rw [List.take_of_length_le (by omega)] at ho
   have PW := ho.1.1
   rw [List.length_map] at PW
   exact BG.da ⟨fun Ax => by omega, fun _ => EF ho (by omega) h.Tg⟩
 | succ g ih =>
   intro i p8 n8 c8 σ' hg hi ho
   have Bb : i < nv := by omega
   obtain ⟨y, hy⟩ := h5.ex Bb
   obtain ⟨b1, o1, q1, m1, d1, rfl, PZ, F0⟩ := Bt.at h5 hy
   have JW := hV.el y (List.mem_of_getElem? hy)
   have PW := ho.1.1
   rw [List.length_map, List.length_take] at PW
   refine BG.da ⟨fun _ => ⟨b1, o1, rfl, by omega, q1, m1, d1, y.v, by simpa using PZ.mono ho.up, fun _ => FJ (F0.mono CL.mono ho.up) (JW.1.rd F0) fun p' n' c' σ2 HO A9 => ⟨_, _, _, rfl, PO ⟨_, rfl, fun o3 ALU => ?_⟩⟩⟩, fun hh => by omega⟩
   refine AX.el (ho.mono Bt.mono A9) (HO.mono CL.mono (ho.new A9)) (by omega) (fun p9 c9 σ3 FL _ => ⟨_, _, _, rfl, AN Bb h5.big, ih (i + 1) _ _ _ _ (by omega) (by omega) ?_⟩) ALU
   rw [Ab hy, List.map_append]; exact FL
theorem gk {n : Nd} {p q a l : Option Addr} {k c m d j e : Nat} {L : List Vv} {x : Vv} (hr : Ag 4 Mb σ l j L) (hx : L[0]? = some x) (hV : gj x) (hv : x.vec ≠ [] → n.op = 11 ∨ n.op = 12) (hw : x.OC ≠ [] → 1 ≤ n.op ∧ n.op ≤ 10)
   (h : II R σ ((CF FF (Ua FF n x)).map fun l => ⟨2, 0, l, []⟩)) : Spec prog 103 #[.pointer a, Ll n p k c q m d, .slice l j e] σ R := by
 have hj : 0 < j := by have h1 : L.length = j := hr.1; have := (List.getElem?_eq_some_iff.1 hx).1; omega
 obtain ⟨b, o, pv, nv, cv, qv, mv, dv, rfl, h1, h2, h3, h4, h5, h6⟩ := Mb.at hr hx
 simp only [Nat.zero_mul, Nat.add_zero] at h1 h2 h3 h4
 have hl : x.vec.length = nv := h5.1
 have hlr : x.OC.length = mv := h6.1
 have hlen := hV.len
 refine AU.start fun _ _ => EE fun mb mr => ⟨mb, rfl, ?_⟩
 have s0 := mq.fresh mr
 refine s0.put (by simp) fun σ1 s1 => s1.put (by simp) fun σ2 s2 => ?_
 have A9 := s2.1
 have hml := s2.2.2
 have cont : ∀ v21, (n.op = 11 → v21 = .func (.func 144) #[] #[]) → (n.op = 12 → v21 = .func (.func 145) #[] #[]) → ∃ v, v = v21 ∧ Pq (some ⟨b, o, none⟩) fun Ps ky => In 0 (j : Int) ∧ LS σ2 Ps (ky + 2) fun fp n25 fq => AU.Ez R (aD Ps ky) j e n.kind n.op n.text p k c n.width n.back n.EL q m d n.bool n.parts 0 0 none 0 0 none 0 0 none 0 0 v fp n25 fq (n25 : Int) 0 σ2 := fun v21 ha hf => by
   refine ⟨v21, rfl, b, o, rfl, by omega, pv, nv, cv, A9.ld h3, ?_⟩
   let g1 : El → El := fun x => ⟨Ai x.ls, if n.op = 11 then FF.abs x.v else FF.floor x.v⟩
   let g2 : Rg → Option El := fun s => (FF.over n.op s.vs x.v).map fun v => ⟨Ai s.ls, v⟩
   have hc : Ua FF n x = x.vec.map g1 ++ x.OC.filterMap g2 := rfl
   rw [hc] at h
   have second : ∀ g i : Nat, ∀ fb p8 n8 c8 σ', mv - i = g → i ≤ mv → Sj (σ'.del p8) fb → AX 2 Bt σ σ' p8 n8 c8 (x.vec.map g1 ++ (x.OC.take i).filterMap g2) → AU.G1 R (aD b o) j e n.kind n.op n.text p k c n.width n.back n.EL q m d n.bool n.parts 0 0 none 0 0 none 0 0 p8 n8 c8 (aD fb 0) 11 11 qv mv dv mv i σ' := by
     intro g
     induction g with
     | zero =>
       intro i fb p8 n8 c8 σ' hg hi hF ho
       rw [List.take_of_length_le (by omega)] at ho
       have PW := ho.1.1
       rw [List.length_append, List.length_map] at PW
       have h9 := List.length_filterMap_le g2 x.OC
       exact AU.Iw ⟨fun Ax => by omega, fun _ => EF ho (by omega) h.Tg⟩
     | succ g ih =>
       intro i fb p8 n8 c8 σ' hg hi hF ho
       have Bb : i < mv := by omega
       obtain ⟨y, hy⟩ := h6.ex Bb
       obtain ⟨b1, o1, q1, m1, d1, q2, m2, d2, rfl, PZ, F0, HO, vI⟩ := SP.at h6 hy
       have JW := hV.rg y (List.mem_of_getElem? hy)
       have JB := hw fun e => by rw [e] at hlr; simp at hlr; omega
       have hlv : y.vs.length = m2 := HO.1
       have PW := ho.1.1
       rw [List.length_append, List.length_map] at PW
       have h9 := List.length_filterMap_le g2 (x.OC.take i)
       rw [List.length_take] at h9
       have next : ∀ p9 n9 c9 σ3, Sj (σ3.del p9) fb → AX 2 Bt σ σ3 p9 n9 c9 (x.vec.map g1 ++ (x.OC.take i).filterMap g2 ++ (g2 y).toList) → AU.Lj R (aD b o) j e n.kind n.op n.text p k c n.width n.back n.EL q m d n.bool n.parts 0 0 none 0 0 none 0 0 p9 n9 c9 (aD fb 0) 11 11 (aD b1 o1) mv dv mv i σ3 := fun p9 n9 c9 σ3 hF3 FL =>
         AU.Ix ⟨AN Bb h6.big, ih (i + 1) _ _ _ _ _ (by omega) (by omega) hF3 (by rw [GZ hy, ← List.append_assoc]; exact FL)⟩
       refine AU.Iw ⟨fun _ => ⟨b1, o1, rfl, by omega, q1, m1, d1, q2, m2, d2, by simpa using PZ.mono ho.up, fun _ => ⟨fb, 0, rfl, by omega, gh (w := x.v) JB (hF.mono (Ext.IV _ _)) (HO.mono ho.up) (by omega) vI hj (ho.up.ld h2) fun z ok σ3 hz D6 => ⟨z, ok, rfl, fun Cv => ?_, fun Cv => next _ _ _ _ (hF.mono (D6.del _)) ?_⟩⟩⟩, fun hh => by omega⟩
       · have hz' : FF.over n.op y.vs x.v = some z := by
           rcases hz with ⟨h7, _⟩ | ⟨_, h8⟩
           · exact h7
           · rw [Cv] at h8; cases h8
         refine FJ (F0.mono CL.mono (ho.up.trans D6)) (JW.1.rd F0) fun p' n' c' σ4 hr4 Mp => ⟨_, _, _, rfl, fun yL zF => ?_⟩
         have FL := ho.mono Bt.mono D6
         refine AX.el (FL.mono Bt.mono Mp) (hr4.mono CL.mono (FL.new Mp)) (by omega) (fun p9 c9 σ5 QM Td => ⟨_, _, _, rfl, next _ _ _ _ (hF.mono (((D6.trans Mp).del _).trans Td)) ?_⟩) zF
         rw [show g2 y = some ⟨Ai y.ls, z⟩ by show (FF.over n.op y.vs x.v).map _ = _; rw [hz']; rfl]; exact QM
       · have hz' : FF.over n.op y.vs x.v = none := by
           rcases hz with ⟨_, h8⟩ | ⟨h7, _⟩
           · rw [Cv] at h8; cases h8
           · exact h7
         rw [show g2 y = none by show (FF.over n.op y.vs x.v).map _ = _; rw [hz']; rfl]
         simpa using ho.mono Bt.mono D6
   suffices H : ∀ g i : Nat, ∀ p8 n8 c8 σ', nv - i = g → i ≤ nv → AX 2 Bt σ σ' p8 n8 c8 ((x.vec.take i).map g1) → AU.Ez R (aD b o) j e n.kind n.op n.text p k c n.width n.back n.EL q m d n.bool n.parts 0 0 none 0 0 none 0 0 p8 n8 c8 v21 pv nv cv nv i σ' from H nv 0 none 0 0 σ2 rfl (Nat.zero_le _) (AX.nil A9)
   intro g
   induction g with
   | zero =>
     intro i p8 n8 c8 σ' hg hi ho
     rw [List.take_of_length_le (by omega)] at ho
     refine AU.FN ⟨fun Ax => by omega, fun _ => Sk fun fb σ3 hF D6 => ⟨_, _, _, rfl, b, o, rfl, by omega, qv, mv, dv, (ho.up.trans D6).ld h4, second mv 0 fb p8 n8 c8 σ3 rfl (Nat.zero_le _) (hF.mono (ho.new D6)) (by simpa using ho.mono Bt.mono D6)⟩⟩
   | succ g ih =>
     intro i p8 n8 c8 σ' hg hi ho
     have Bb : i < nv := by omega
     obtain ⟨y, hy⟩ := h5.ex Bb
     obtain ⟨b1, o1, q1, m1, d1, rfl, PZ, F0⟩ := Bt.at h5 hy
     have JW := hV.el y (List.mem_of_getElem? hy)
     have PW := ho.1.1
     rw [List.length_map, List.length_take] at PW
     have JB := hv fun e => by rw [e] at hl; simp at hl; omega
     refine AU.FN ⟨fun _ => ⟨b1, o1, rfl, by omega, q1, m1, d1, y.v, by simpa using PZ.mono ho.up, fun _ => FJ (F0.mono CL.mono ho.up) (JW.1.rd F0) fun p' n' c' σ3 bj D6 => ⟨_, _, _, rfl, ?_⟩⟩, fun hh => by omega⟩
     have app : ∀ z, (g1 y).v = z → AA R (CI .u64 fun uM AF => Al AF fun WL => AJ prog (Builtin.append_ #[67, 67] 67 #[.slice p8 n8 c8, (.slice (aD WL 0) 1 1)]) (Hp.set AF WL (.cells #[.slice p' n' c', .int .u64 uM] 71 (0, 0))) (CS fun tY n41 ij AH => AM ((i : Int) + 1) ∧ AU.Ez R (aD b o) j e n.kind n.op n.text p k c n.width n.back n.EL q m d n.bool n.parts 0 0 none 0 0 none 0 0 tY n41 ij v21 (aD b1 o1) nv cv nv ((i : Int) + 1) AH)) (.returned (.int .u64 z)) σ3 := fun z hz => by
       refine ⟨z, rfl, fun WL gn => AX.el (ho.mono Bt.mono D6) (bj.mono CL.mono (ho.new D6)) (by omega) (fun p9 c9 σ5 QM Td => ⟨_, _, _, rfl, AN Bb h5.big, ih (i + 1) _ _ _ _ (by omega) (by omega) ?_⟩) gn⟩
       rw [Ab hy, List.map_append]
       have : g1 y = ⟨Ai y.ls, z⟩ := by rw [← hz]
       simpa [this] using QM
     rcases JB with JB | JB
     · exact ⟨144, #[], #[], ha JB, NK.en, mc JW.2 (app _ (by show (if n.op = 11 then bN y.v else _) = _; rw [if_pos JB]))⟩
     · exact ⟨145, #[], #[], hf JB, Iv.en, bP (app _ (by show (if n.op = 11 then bN y.v else Vp y.v) = _; rw [if_neg (by omega)]))⟩
 refine hml.look r7 (fun Du => cont _ (fun h9 => ?_) fun h9 => ?_) fun v hv => ?_
 · exact absurd h9.symm (Du (11, .func (.func 144) #[] #[]) (by simp))
 · exact absurd h9.symm (Du (12, .func (.func 145) #[] #[]) (by simp))
 · simp only [List.nil_append, List.cons_append, List.mem_cons, List.not_mem_nil, or_false, Prod.mk.injEq] at hv
   rcases hv with ⟨h9, rfl⟩ | ⟨h9, rfl⟩
   · exact cont _ (fun _ => rfl) fun h8 => by omega
   · exact cont _ (fun h8 => by omega) fun _ => rfl
end
end TwW
end
section
namespace TwW
open Go Tw Go.RowKit Go.Proofs.Tryz
theorem bk : ∀ w, (zeroValue 71).run prog w = .ok (.agg #[.slice none 0 0, .int .u64 0]) w := fun w => by
 have h : prog.info? 71 = some t71 := by kernel_rfl
 simp [zeroValue, typeInfo, h]
 rfl
def E0 (σ0 : Hp) (v : Value) (x : El) : Prop := ∃ p n c, v = .agg #[.slice p n c, .int .u64 x.v] ∧ F7 σ0 p n x.ls
theorem Ul {α : Type} {f : α → Bool} {xs : List α} {k : Nat} {x : α} (hx : xs[k]? = some x) : (xs.take (k + 1)).filter f = (xs.take k).filter f ++ if f x then [x] else [] := by
 rw [Ab hx, List.filter_append]
 by_cases h : f x = true <;> simp [h]
section
variable {σ σ' σ0 : Hp} {R : Rr}
theorem Ext.put {m : Nat} {o : Obj} (hx : Ext σ0 σ) (hm : σ0 m = none) : Ext σ0 (σ.set m o) := fun k u hk => by rw [Hp.AI (fun e => by rw [e, hm] at hk; cases hk)]; exact hx _ _ hk
theorem I6 {n : Nd} {p q pv : Option Addr} {k c m d nv cv : Nat} {vec : List El} (hs : Eu 1 σ q m (n.names.map .string)) (hr : Ag 2 Bt σ pv nv vec) (iW : ∀ e ∈ vec, Aq e.ls)
   (h : ∀ mb σ', MS (E0 σ) σ' mb (SM n vec) → Ext σ σ' → R (.returned (.tuple #[.map (some mb), .bool (YH n vec)])) σ') : Spec prog 206 #[Ll n p k c q m d, .slice pv nv cv] σ R := by
 have hl : vec.length = nv := hr.1
 refine Gp.start fun _ => EE fun mb mr => ⟨mb, rfl, ?_⟩
 let st : List (ByteArray × El) → El → List (ByteArray × El) := fun m x => P1 m (Dr (Hm n x.ls)) x
 have hk : SM n vec = vec.foldl st [] := rfl
 suffices H : ∀ g i : Nat, ∀ σ', nv - i = g → i ≤ nv → MS (E0 σ) σ' mb ((vec.take i).foldl st []) → Ext σ σ' → Gp.A3 R pv nv cv n.kind n.op n.text p k c n.width n.back n.EL q m d n.bool n.parts (some mb) pv nv cv nv i σ' from H nv 0 _ rfl (Nat.zero_le _) MS.fresh (.set mr)
 intro g
 induction g with
 | zero =>
   intro i σ' hg hi hM hx
   rw [List.take_of_length_le (by omega)] at hM
   refine Gp.AZ ⟨fun Ax => by omega, fun _ => ⟨_, hM.len, ?_⟩⟩
   have := h mb σ' hM hx
   unfold YH at this
   rw [hk, hl] at this
   rw [show decide ((((vec.foldl st []).length : Nat) : Int) = (nv : Int)) = decide ((vec.foldl st []).length = nv) from decide_eq_decide.2 (by omega)]
   exact this
 | succ g ih =>
   intro i σ' hg hi hM hx
   have Bb : i < nv := by omega
   obtain ⟨y, hy⟩ := hr.ex Bb
   obtain ⟨b1, o1, q1, m1, d1, rfl, PZ, F0⟩ := Bt.at hr hy
   have JW := iW y (List.mem_of_getElem? hy)
   refine Gp.AZ ⟨fun _ => ⟨b1, o1, rfl, by omega, q1, m1, d1, y.v, by simpa using PZ.mono hx, fun _ => QP (F0.mono CL.mono hx) (JW.rd F0) (hs.mono hx) fun p' n' c' σ2 HO A9 => ⟨_, _, _, rfl, FI (HO.mono CL.mono (Ext.Cd _ _)) JW.Hm fun σ3 D6 => ⟨_, rfl, ?_⟩⟩⟩, fun hh => by omega⟩
   refine (hM.mono (A9.trans D6)).put (x := y) ⟨q1, m1, d1, rfl, F0⟩ fun o hM' => ⟨AN Bb hr.big, ih (i + 1) _ (by omega) (by omega) ?_ (Ext.put (hx.trans (A9.trans D6)) mr)⟩
   rw [Ab hy, List.foldl_append]; exact hM'
theorem gq {n : Nd} {p q a px py : Option Addr} {k c m d nx cx ny cy : Nat} {x y : List El} (hs : Eu 1 σ q m (n.names.map .string)) (V0 : Ag 2 Bt σ px nx x) (vK : Ag 2 Bt σ py ny y) (nO : ∀ e ∈ x, Aq e.ls) (iw : ∀ e ∈ y, Aq e.ls) (hlen : x.length + y.length ≤ 1000000000000)
   (h : II R σ ((CF FF (SN n x y)).map fun l => ⟨2, 0, l, []⟩)) : Spec prog 160 #[.pointer a, Ll n p k c q m d, .slice px nx cx, .slice py ny cy] σ R := by
 have ZZ : x.length = nx := V0.1
 have bJ : y.length = ny := vK.1
 refine AW.start fun _ _ => I6 hs V0 nO fun mx σ1 hM1 CK => ⟨_, _, rfl, I6 (hs.mono CK) (vK.mono Bt.mono CK) iw fun my σ2 hM2 A9 => ⟨_, _, rfl, ?_⟩⟩
 have hX := CK.trans A9
 have hMx := hM1.mono A9
 replace h := h.gZ hX
 let f1 : El → Bool := fun e => decide (n.op = 12) || ((PL n y (Hm n e.ls)).isSome == decide (n.op = 11))
 let f2 : El → Bool := fun e => (PL n x (Hm n e.ls)).isNone && decide (n.op = 12)
 have hf : SN n x y = x.filter f1 ++ y.filter f2 := rfl
 rw [hf] at h
 have second : ∀ g i : Nat, ∀ p8 n8 c8 σ', ny - i = g → i ≤ ny → AX 2 Bt σ2 σ' p8 n8 c8 (x.filter f1 ++ (y.take i).filter f2) → AW.Jk R n.kind n.op n.text p k c n.width n.back n.EL q m d n.bool n.parts 0 0 none 0 0 none 0 0 (some mx) p8 n8 c8 py ny cy ny i σ' := by
   intro g
   induction g with
   | zero =>
     intro i p8 n8 c8 σ' hg hi ho
     rw [List.take_of_length_le (by omega)] at ho
     have PW := ho.1.1
     rw [List.length_append] at PW
     have h9 := List.length_filter_le f1 x
     have SK := List.length_filter_le f2 y
     exact AW.LK ⟨fun Ax => by omega, fun _ => EF ho (by omega) h.Tg⟩
   | succ g ih =>
     intro i p8 n8 c8 σ' hg hi ho
     have Bb : i < ny := by omega
     obtain ⟨z, hz⟩ := vK.ex Bb
     obtain ⟨b1, o1, q1, m1, d1, rfl, PZ, F0⟩ := Bt.at vK hz
     have JW := iw z (List.mem_of_getElem? hz)
     have PW := ho.1.1
     rw [List.length_append] at PW
     have h9 := List.length_filter_le f1 x
     have SK := List.length_filter_le f2 (y.take i)
     rw [List.length_take] at SK
     have next : ∀ p9 n9 c9 σ3, AX 2 Bt σ2 σ3 p9 n9 c9 (x.filter f1 ++ (y.take i).filter f2 ++ if f2 z then [z] else []) → AW.M6 R n.kind n.op n.text p k c n.width n.back n.EL q m d n.bool n.parts 0 0 none 0 0 none 0 0 (some mx) p9 n9 c9 (aD b1 o1) ny cy ny i σ3 := fun p9 n9 c9 σ3 FL =>
       AW.VM ⟨AN Bb vK.big, ih (i + 1) _ _ _ _ (by omega) (by omega) (by rw [Ul hz, ← List.append_assoc]; exact FL)⟩
     have az := hX.trans ho.up
     refine AW.LK ⟨fun _ => ⟨b1, o1, rfl, by omega, q1, m1, d1, z.v, by simpa using PZ.mono az, fun _ => QP (F0.mono CL.mono az) (JW.rd F0) (hs.mono az) fun p' n' c' σ3 bj D6 => ⟨_, _, _, rfl, FI (bj.mono CL.mono (Ext.Cd _ _)) JW.Hm fun σ4 Mp => ⟨_, rfl, ?_⟩⟩⟩, fun hh => by omega⟩
     have NR := ho.mono Bt.mono (D6.trans Mp)
     refine MS.Ya (hMx.mono (ho.up.trans (D6.trans Mp))) bk (fun F6 => ⟨_, _, _, _, _, rfl, fun _ => ⟨fun _ => ⟨fun WN => fun ia ALW => ?_, fun WN => next _ _ _ _ ?_⟩, fun hh => (by cases hh)⟩⟩) fun v e he hE => ?_
     · refine AX.el NR (F0.mono CL.mono (hX.trans NR.2)) (by omega) (fun p9 c9 σ5 QM _ => ⟨_, _, _, rfl, next _ _ _ _ ?_⟩) ALW
       have : f2 z = true := by
         show ((Cp (SM n x) (Dr (Hm n z.ls))).isNone && decide (n.op = 12)) = true
         rw [F6, decide_eq_true WN]; rfl
       rw [this]; exact QM
     · have : f2 z = false := by
         show ((Cp (SM n x) (Dr (Hm n z.ls))).isNone && decide (n.op = 12)) = false
         rw [decide_eq_false WN, Bool.and_false]
       rw [this]; simpa using NR
     · obtain ⟨p5, n5, c5, rfl, _⟩ := hE
       refine ⟨_, _, _, _, _, rfl, fun _ => ⟨fun hh => (by cases hh), fun _ => next _ _ _ _ ?_⟩⟩
       have : f2 z = false := by
         show ((Cp (SM n x) (Dr (Hm n z.ls))).isNone && decide (n.op = 12)) = false
         rw [he]; rfl
       rw [this]; simpa using NR
 suffices H : ∀ g i : Nat, ∀ p8 n8 c8 σ', nx - i = g → i ≤ nx → AX 2 Bt σ2 σ' p8 n8 c8 ((x.take i).filter f1) → AW.qz R py ny cy n.kind n.op n.text p k c n.width n.back n.EL q m d n.bool n.parts 0 0 none 0 0 none 0 0 (some mx) (some my) p8 n8 c8 px nx cx nx i σ' from H nx 0 none 0 0 σ2 rfl (Nat.zero_le _) (AX.nil (.refl _))
 intro g
 induction g with
 | zero =>
   intro i p8 n8 c8 σ' hg hi ho
   rw [List.take_of_length_le (by omega)] at ho
   exact AW.df ⟨fun Ax => by omega, fun _ => second ny 0 p8 n8 c8 σ' rfl (Nat.zero_le _) (by simpa using ho)⟩
 | succ g ih =>
   intro i p8 n8 c8 σ' hg hi ho
   have Bb : i < nx := by omega
   obtain ⟨z, hz⟩ := V0.ex Bb
   obtain ⟨b1, o1, q1, m1, d1, rfl, PZ, F0⟩ := Bt.at V0 hz
   have JW := nO z (List.mem_of_getElem? hz)
   have PW := ho.1.1
   have h9 := List.length_filter_le f1 (x.take i)
   rw [List.length_take] at h9
   have next : ∀ p9 n9 c9 σ3, AX 2 Bt σ2 σ3 p9 n9 c9 ((x.take i).filter f1 ++ if f1 z then [z] else []) → AW.Vi R py ny cy n.kind n.op n.text p k c n.width n.back n.EL q m d n.bool n.parts 0 0 none 0 0 none 0 0 (some mx) (some my) p9 n9 c9 (aD b1 o1) nx cx nx i σ3 := fun p9 n9 c9 σ3 FL =>
     AW.q9 ⟨AN Bb V0.big, ih (i + 1) _ _ _ _ (by omega) (by omega) (by rw [Ul hz]; exact FL)⟩
   have az := hX.trans ho.up
   refine AW.df ⟨fun _ => ⟨b1, o1, rfl, by omega, q1, m1, d1, z.v, by simpa using PZ.mono az, fun _ => QP (F0.mono CL.mono az) (JW.rd F0) (hs.mono az) fun p' n' c' σ3 bj D6 => ⟨_, _, _, rfl, FI (bj.mono CL.mono (Ext.Cd _ _)) JW.Hm fun σ4 Mp => ⟨_, rfl, ?_⟩⟩⟩, fun hh => by omega⟩
   have NR := ho.mono Bt.mono (D6.trans Mp)
   have app : f1 z = true → ∀ ft, σ4 ft = none → AJ prog (Builtin.append_ #[67, 67] 67 #[.slice p8 n8 c8, (.slice (aD ft 0) 1 1)]) (Hp.set σ4 ft (.cells #[.slice q1 m1 d1, .int .u64 z.v] 71 (0, 0))) (CS fun ov kB ow Aa => AW.Vi R py ny cy n.kind n.op n.text p k c n.width n.back n.EL q m d n.bool n.parts 0 0 none 0 0 none 0 0 (some mx) (some my) ov kB ow (aD b1 o1) nx cx nx i Aa) := fun ht ft ALX => by
     refine AX.el NR (F0.mono CL.mono (hX.trans NR.2)) (by omega) (fun p9 c9 σ5 QM _ => ⟨_, _, _, rfl, next _ _ _ _ ?_⟩) ALX
     rw [ht]; exact QM
   have skip : f1 z = false → AW.Vi R py ny cy n.kind n.op n.text p k c n.width n.back n.EL q m d n.bool n.parts 0 0 none 0 0 none 0 0 (some mx) (some my) p8 n8 c8 (aD b1 o1) nx cx nx i σ4 := fun ht => next _ _ _ _ (by rw [ht]; simpa using NR)
   have e1 : f1 z = (decide (n.op = 12) || ((Cp (SM n y) (Dr (Hm n z.ls))).isSome == decide (n.op = 11))) := rfl
   refine MS.Ya ((hM2.imp fun v x hE => hE).mono (ho.up.trans (D6.trans Mp))) bk (fun F6 => ⟨_, _, _, _, _, rfl, fun _ => ⟨fun WN => app ?_, fun WN => ⟨fun hh => (by cases hh), fun _ => ⟨fun eQ => skip ?_, fun eQ => app ?_⟩⟩⟩⟩) fun v e he hE => ?_
   · rw [e1, decide_eq_true WN]; rfl
   · rw [e1, decide_eq_false WN, F6, decide_eq_true eQ]; rfl
   · rw [e1, decide_eq_false WN, F6, decide_eq_false eQ]; rfl
   · obtain ⟨p5, n5, c5, rfl, _⟩ := hE
     refine ⟨_, _, _, _, _, rfl, fun _ => ⟨fun WN => app ?_, fun WN => ⟨fun _ => ⟨fun eQ => app ?_, fun eQ => skip ?_⟩, fun hh => (by cases hh)⟩⟩⟩
     · rw [e1, decide_eq_true WN]; rfl
     · rw [e1, decide_eq_false WN, he, decide_eq_true eQ]; rfl
     · rw [e1, decide_eq_false WN, he, decide_eq_false eQ]; rfl
end
end TwW
end
section
namespace TwW
open Go Tw Go.RowKit Go.Proofs.Tryz
section
variable {σ σ' σ0 : Hp} {R : Rr}
theorem Sp {n : Nd} {p q a px : Option Addr} {k c m d nx cx f : Nat} {cap : Array Value} {x : List El} {g : Int → Int × Bool} (V0 : Ag 2 Bt σ px nx x) (nO : ∀ e ∈ x, Aq e.ls) (hlen : x.length ≤ 1000000000000) (N3 : Enters prog f)
   (hC : ∀ (σ2 : Hp) (v : Int) (R' : Rr), Ext σ σ2 → R' (.returned (.tuple #[.int .u64 (g v).1, .bool (g v).2])) σ2 → Spec prog f (#[] ++ #[.int .u64 v] ++ cap) σ2 R')
   (h : II R σ ((CF FF (OW n x g)).map fun l => ⟨2, 0, l, []⟩)) : Spec prog 157 #[.pointer a, Ll n p k c q m d, .slice px nx cx, .func (.func f) #[] cap] σ R := by
 have ZZ : x.length = nx := V0.1
 let f1 : El → Option El := fun x => if DW n.op = false ∨ n.bool = true then some ⟨Ai x.ls, (g x.v).1⟩ else if (g x.v).2 then some x else none
 have hf : OW n x g = x.filterMap f1 := rfl
 rw [hf] at h
 refine A1.start fun _ _ => ?_
 suffices H : ∀ gg i : Nat, ∀ p8 n8 c8 σ', nx - i = gg → i ≤ nx → AX 2 Bt σ σ' p8 n8 c8 ((x.take i).filterMap f1) → A1.A3 R (.func (.func f) #[] cap) n.kind n.op n.text p k c n.width n.back n.EL q m d n.bool n.parts 0 0 none 0 0 none 0 0 p8 n8 c8 px nx cx nx i σ' from H nx 0 none 0 0 σ rfl (Nat.zero_le _) (AX.nil (.refl _))
 intro gg
 induction gg with
 | zero =>
   intro i p8 n8 c8 σ' hg hi ho
   rw [List.take_of_length_le (by omega)] at ho
   have PW := ho.1.1
   have h9 := List.length_filterMap_le f1 x
   exact A1.AZ ⟨fun Ax => by omega, fun _ => EF ho (by omega) h.Tg⟩
 | succ gg ih =>
   intro i p8 n8 c8 σ' hg hi ho
   have Bb : i < nx := by omega
   obtain ⟨z, hz⟩ := V0.ex Bb
   obtain ⟨b1, o1, q1, m1, d1, rfl, PZ, F0⟩ := Bt.at V0 hz
   have JW := nO z (List.mem_of_getElem? hz)
   have PW := ho.1.1
   have h9 := List.length_filterMap_le f1 (x.take i)
   rw [List.length_take] at h9
   have next : ∀ tb p9 n9 c9 σ3, tb = n.bool → AX 2 Bt σ σ3 p9 n9 c9 ((x.take i).filterMap f1 ++ (f1 z).toList) → A1.G1 R (.func (.func f) #[] cap) n.kind n.op n.text p k c n.width n.back n.EL q m d tb n.parts 0 0 none 0 0 none 0 0 p9 n9 c9 (aD b1 o1) nx cx nx i σ3 := fun tb p9 n9 c9 σ3 pU FL => by
     subst pU
     exact A1.Iw ⟨AN Bb V0.big, ih (i + 1) _ _ _ _ (by omega) (by omega) (by rw [GZ hz]; exact FL)⟩
   have e1 : f1 z = if DW n.op = false ∨ n.bool = true then some ⟨Ai z.ls, (g z.v).1⟩ else if (g z.v).2 then some z else none := rfl
   refine A1.AZ ⟨fun _ => ⟨b1, o1, rfl, by omega, q1, m1, d1, z.v, by simpa using PZ.mono ho.up, fun _ => ⟨f, #[], cap, rfl, N3, hC σ' z.v _ ho.up ⟨_, _, rfl, CZ ⟨_, rfl, ?_⟩⟩⟩⟩, fun hh => by omega⟩
   have bare : (DW n.op = false ∨ n.bool = true) → ∀ tb, tb = n.bool → Spec prog 146 #[.slice q1 m1 d1] σ' (AA R (CS fun xX n40 xY AH => Al AH fun dO => AJ prog (Builtin.append_ #[67, 67] 67 #[.slice p8 n8 c8, (.slice (aD dO 0) 1 1)]) (Hp.set AH dO (.cells #[.slice xX n40 xY, .int .u64 (g z.v).1] 71 (0, 0))) (CS fun xZ n44 xd Aa => A1.G1 R (.func (.func f) #[] cap) n.kind n.op n.text p k c n.width n.back n.EL q m d tb n.parts 0 0 none 0 0 none 0 0 xZ n44 xd (aD b1 o1) nx cx nx i Aa))) := fun hc tb pU =>
     FJ (F0.mono CL.mono ho.up) (JW.rd F0) fun p' n' c' σ3 bj D6 => ⟨_, _, _, rfl, fun dO zI => AX.el (ho.mono Bt.mono D6) (bj.mono CL.mono (ho.new D6)) (by omega) (fun p9 c9 σ5 QM _ => ⟨_, _, _, rfl, next _ _ _ _ _ pU (by rw [e1, if_pos hc]; exact QM)⟩) zI⟩
   refine ⟨fun hcf => bare (.inl hcf) _ rfl, fun hct => ⟨fun hb => bare (.inr hb) _ hb.symm, fun hb => ⟨fun gb => fun UJ nP => ?_, fun gb => next _ _ _ _ _ hb.symm ?_⟩⟩⟩
   · refine AX.el ho (F0.mono CL.mono ho.2) (by omega) (fun p9 c9 σ5 QM _ => ⟨_, _, _, rfl, next _ _ _ _ _ hb.symm ?_⟩) nP
     rw [e1, if_neg (by rw [hct, hb]; simp), if_pos gb]; exact QM
   · rw [e1, if_neg (by rw [hct, hb]; simp), if_neg (by rw [gb]; simp)]; simpa using ho
theorem V1 {n : Nd} {p q a px py : Option Addr} {k c m d nx cx ny cy : Nat} {x y : List El} (hs : Eu 1 σ q m (n.names.map .string)) (V0 : Ag 2 Bt σ px nx x) (vK : Ag 2 Bt σ py ny y) (nO : ∀ e ∈ x, Aq e.ls) (iw : ∀ e ∈ y, Aq e.ls) (hlen : x.length + y.length ≤ 1000000000000)
   (h : II R σ (((Kr FF n x y).bind (CF FF)).map fun l => ⟨2, 0, l, []⟩)) : Spec prog 161 #[.pointer a, Ll n p k c q m d, .slice px nx cx, .slice py ny cy] σ R := by
 have ZZ : x.length = nx := V0.1
 have bJ : y.length = ny := vK.1
 let f1 : El → Option El := fun e => match PL n y (Hm n e.ls) with
   | none => none
   | some o => if DW n.op = false ∨ n.bool = true then some ⟨Hm n e.ls, (FF.P0 n.op e.v o.v).1⟩ else if (FF.P0 n.op e.v o.v).2 then some e else none
 have hf : Kr FF n x y = if YH n x && YH n y then some (x.filterMap f1) else none := rfl
 rw [hf] at h
 refine Ap.start fun _ _ => I6 hs V0 nO fun mx σ1 hM1 CK => ⟨_, _, rfl, I6 (hs.mono CK) (vK.mono Bt.mono CK) iw fun my σ2 hM2 A9 => ⟨_, _, rfl, fun h1 => ?_, fun h1 => ⟨fun h2 => ?_, fun h2 => ?_⟩⟩⟩
 · rw [h1] at h; exact h.no rfl _ (CK.trans A9)
 · rw [h2, Bool.and_false] at h; exact h.no rfl _ (CK.trans A9)
 rw [h1, h2] at h
 have hX := CK.trans A9
 replace h : II R σ2 ((CF FF (x.filterMap f1)).map fun l => ⟨2, 0, l, []⟩) := h.gZ hX
 suffices H : ∀ gg i : Nat, ∀ p8 n8 c8 σ', nx - i = gg → i ≤ nx → AX 2 Bt σ2 σ' p8 n8 c8 ((x.take i).filterMap f1) → Ap.VL R n.kind n.op n.text p k c n.width n.back n.EL q m d n.bool n.parts 0 0 none 0 0 none 0 0 (some my) p8 n8 c8 px nx cx nx i σ' from H nx 0 none 0 0 σ2 rfl (Nat.zero_le _) (AX.nil (.refl _))
 intro gg
 induction gg with
 | zero =>
   intro i p8 n8 c8 σ' hg hi ho
   rw [List.take_of_length_le (by omega)] at ho
   have PW := ho.1.1
   have h9 := List.length_filterMap_le f1 x
   exact Ap.QI ⟨fun Ax => by omega, fun _ => EF ho (by omega) h.Tg⟩
 | succ gg ih =>
   intro i p8 n8 c8 σ' hg hi ho
   have Bb : i < nx := by omega
   obtain ⟨z, hz⟩ := V0.ex Bb
   obtain ⟨b1, o1, q1, m1, d1, rfl, PZ, F0⟩ := Bt.at V0 hz
   have JW := nO z (List.mem_of_getElem? hz)
   have PW := ho.1.1
   have h9 := List.length_filterMap_le f1 (x.take i)
   rw [List.length_take] at h9
   have next : ∀ tb p9 n9 c9 σ3, tb = n.bool → AX 2 Bt σ2 σ3 p9 n9 c9 ((x.take i).filterMap f1 ++ (f1 z).toList) → Ap.M6 R n.kind n.op n.text p k c n.width n.back n.EL q m d tb n.parts 0 0 none 0 0 none 0 0 (some my) p9 n9 c9 (aD b1 o1) nx cx nx i σ3 := fun tb p9 n9 c9 σ3 pU FL => by
     subst pU
     exact Ap.VM ⟨AN Bb V0.big, ih (i + 1) _ _ _ _ (by omega) (by omega) (by rw [GZ hz]; exact FL)⟩
   have az := hX.trans ho.up
   refine Ap.QI ⟨fun _ => ⟨b1, o1, rfl, by omega, q1, m1, d1, z.v, by simpa using PZ.mono az, fun _ => QP (F0.mono CL.mono az) (JW.rd F0) (hs.mono az) fun p' n' c' σ3 bj D6 => ⟨_, _, _, rfl, FI (bj.mono CL.mono (Ext.Cd _ _)) JW.Hm fun σ4 Mp => ⟨_, rfl, ?_⟩⟩⟩, fun hh => by omega⟩
   have NR := ho.mono Bt.mono (D6.trans Mp)
   have hrk : F7 (σ4.del p8) p' n' (Hm n z.ls) := bj.mono CL.mono ((Ext.Je Mp).trans (ho.new (D6.trans Mp)))
   have e1 : f1 z = match Cp (SM n y) (Dr (Hm n z.ls)) with
     | none => none
     | some o => if DW n.op = false ∨ n.bool = true then some ⟨Hm n z.ls, (DA n.op z.v o.v).1⟩ else if (DA n.op z.v o.v).2 then some z else none := rfl
   refine MS.Ya (hM2.mono (ho.up.trans (D6.trans Mp))) bk (fun F6 => ⟨_, _, _, _, _, rfl, fun _ => ⟨fun _ => next _ _ _ _ _ rfl ?_, fun hh => (by cases hh)⟩⟩) fun v e he hE => ?_
   · rw [e1, F6]; simpa using NR
   obtain ⟨p5, n5, c5, rfl, _⟩ := hE
   rw [he] at e1
   dsimp only at e1
   refine ⟨_, _, _, _, _, rfl, fun _ => ⟨fun hh => (by cases hh), fun _ => HP ⟨_, _, rfl, CZ ⟨_, rfl, ?_⟩⟩⟩⟩
   have bare : (DW n.op = false ∨ n.bool = true) → ∀ tb, tb = n.bool → Al σ4 fun ta => AJ prog (Builtin.append_ #[67, 67] 67 #[.slice p8 n8 c8, (.slice (aD ta 0) 1 1)]) (Hp.set σ4 ta (.cells #[.slice p' n' c', .int .u64 (DA n.op z.v e.v).1] 71 (0, 0))) (CS fun qD W8 qE BF => Ap.M6 R n.kind n.op n.text p k c n.width n.back n.EL q m d tb n.parts 0 0 none 0 0 none 0 0 (some my) qD W8 qE (aD b1 o1) nx cx nx i BF) := fun hc tb pU =>
     fun dO zI => AX.el NR hrk (by omega) (fun p9 c9 σ5 QM _ => ⟨_, _, _, rfl, next _ _ _ _ _ pU (by rw [e1, if_pos hc]; exact QM)⟩) zI
   refine ⟨fun hcf => bare (.inl hcf) _ rfl, fun hct => ⟨fun hb => bare (.inr hb) _ hb.symm, fun hb => ⟨fun gb => fun UJ nP => ?_, fun gb => next _ _ _ _ _ hb.symm ?_⟩⟩⟩
   · refine AX.el NR (F0.mono CL.mono (hX.trans NR.2)) (by omega) (fun p9 c9 σ5 QM _ => ⟨_, _, _, rfl, next _ _ _ _ _ hb.symm ?_⟩) nP
     rw [e1, if_neg (by rw [hct, hb]; simp), if_pos gb]; exact QM
   · rw [e1, if_neg (by rw [hct, hb]; simp), if_neg (by rw [gb]; simp)]; simpa using NR
end
end TwW
end
section
namespace TwW
open Go Tw Go.RowKit Go.Proofs.Tryz
theorem zJ : ∀ w, (Go.sizeOf 93).run prog w = .ok 4 w := fun w => by kernel_rfl
abbrev WR (x : Vv) (p : Option Addr) (n c : Nat) (q : Option Addr) (m d : Nat) : Array Value := #[.int .i64 x.kind, .int .u64 x.v, .slice p n c, .slice q m d]
abbrev ndC (n : Nd) (p : Option Addr) (k c : Nat) (q : Option Addr) (m d : Nat) : Array Value := #[.int .i64 n.kind, .int .i64 n.op, .string n.text, .slice p k c, .int .i64 n.width, .int .i64 n.back, .int .i64 n.EL, .slice q m d, .bool n.bool, .int .i64 n.parts]
section
variable {σ σ' σ0 : Hp} {R : Rr}
theorem Ss {b : Nat} {c : Array Value} {v0 v1 v2 v3 : Value} {Φ : Unit → Hp → Prop} (hc : c.size = 4) (hb : σ b = some (.cells c 93 (0, 0))) (h1 : ∀ u ∈ [v0, v1, v2, v3], u.oneCell' = true) (hv : (Value.agg #[v0, v1, v2, v3]).cells = #[v0, v1, v2, v3])
   (h : Φ () (σ.set b (.cells #[v0, v1, v2, v3] 93 (0, 0)))) : AJ prog (Instr.storeAt 93 (.pointer (some ⟨b, 0, none⟩)) (.agg #[v0, v1, v2, v3])) σ Φ := by
 refine AJ.store zJ hb (by rw [hv]; rfl) (by omega) (by rw [hv]; simpa using h1) ?_
 rw [hv, Sb (by rw [hc]; rfl)]
 exact h
theorem Av.Fk {b : Nat} {c : List Value} {T : TypeId} (h : σ b = some (.cells c.toArray T (0, 0))) : Av σ b 0 c := Av.of fun j v hj => by
 rw [Nat.zero_add]; exact Ad h (by simpa using hj)
theorem nQ {n : Nd} {p q a l : Option Addr} {k c m d j e : Nat} {L : List Vv} {x y : Vv} (hs : Eu 1 σ q m (n.names.map .string)) (hr : Ag 4 Mb σ l j L) (hx : L[0]? = some x) (hy : L[1]? = some y) (hVx : gj x) (hVy : gj y) (h : II R σ (bF FF n x y)) :
   Spec prog 105 #[.pointer a, Ll n p k c q m d, .slice l j e] σ R := by
 have hj : 1 < j := by have h1 : L.length = j := hr.1; have := (List.getElem?_eq_some_iff.1 hy).1; omega
 obtain ⟨b, o, px, nx, cx, qx, mx, dx, rfl, h1, h2, h3, h4, h5, h6⟩ := Mb.at hr hx
 obtain ⟨_, _, py, ny, cy, qy, my, dy, he, g1, g2, g3, g4, g5, g6⟩ := Mb.at hr hy
 cases he
 simp only [Nat.zero_mul, Nat.add_zero, Nat.one_mul] at h1 h2 h3 h4 g1 g2 g3 g4
 have ZZ := hVx.len
 have bJ := hVy.len
 have nO := fun z hz => (hVx.el z hz).1
 have iw := fun z hz => (hVy.el z hz).1
 refine C6.start fun b4 hb4 _ => ?_
 have x4 := Ext.set (o := .cells (ndC n p k c q m d) 36 (0, 0)) hb4
 have c4 := Hp.AB σ b4 (.cells (ndC n p k c q m d) 36 (0, 0))
 generalize zK : σ.set b4 (.cells (ndC n p k c q m d) 36 (0, 0)) = σ4 at *
 refine ⟨b, o, rfl, by omega, x.kind, x.v, px, nx, cx, qx, mx, dx, ⟨x4.ld h1, x4.ld h2, x4.ld h3, x4.ld h4, trivial⟩, by omega, y.kind, y.v, py, ny, cy, qy, my, dy, ⟨x4.ld g1, x4.ld g2, x4.ld g3, x4.ld g4, trivial⟩, fun b8 hb8 b9 hb9 => ?_, fun b9 hb9 b8 hb8 => ?_⟩
 focus
   have n8 : b8 ≠ b9 := fun e => by rw [e, Hp.AB] at hb9; cases hb9
   have n9 := (Hp.AV hb9).2
   have nb : ∀ k o, σ4 k = some o → k ≠ b8 ∧ k ≠ b9 := fun k o hk => ⟨fun e => (by rw [e, hb8] at hk; cases hk), fun e => (by rw [e, n9] at hk; cases hk)⟩
   refine Ss rfl (by rw [Hp.AI n8]; exact Hp.AB _ _ _) (by simp [Value.oneCell']) rfl ?_
   refine ⟨fun kb HC u hu => ?_, Ss rfl (by rw [Hp.AI (Ne.symm n8)]; exact Hp.AB _ _ _) (by simp [Value.oneCell']) rfl ?_⟩
   · rw [List.mem_singleton] at HC
     subst HC
     have Zh : ∃ u, σ4 kb = some u := by
       have := x4.ld h1
       unfold Hp.ld at this
       cases hq : σ4 kb with
       | none => rw [hq] at this; cases this
       | some u => exact ⟨u, rfl⟩
     obtain ⟨u', Ct⟩ := Zh
     rw [Hp.AI (nb _ _ Ct).1]; exact hu
   have F8 : ((((σ4.set b8 (.cells #[.int .i64 0, .int .u64 0, .slice none 0 0, .slice none 0 0] 93 (0, 0))).set b9 (.cells #[.int .i64 0, .int .u64 0, .slice none 0 0, .slice none 0 0] 93 (0, 0))).set b8 (.cells (WR x px nx cx qx mx dx) 93 (0, 0))).set b9 (.cells (WR y py ny cy qy my dy) 93 (0, 0))) b8 = some (.cells (WR x px nx cx qx mx dx) 93 (0, 0)) := by rw [Hp.AI n8, Hp.AB]
   have F9 := Hp.AB (((σ4.set b8 (.cells #[.int .i64 0, .int .u64 0, .slice none 0 0, .slice none 0 0] 93 (0, 0))).set b9 (.cells #[.int .i64 0, .int .u64 0, .slice none 0 0, .slice none 0 0] 93 (0, 0))).set b8 (.cells (WR x px nx cx qx mx dx) 93 (0, 0))) b9 (.cells (WR y py ny cy qy my dy) 93 (0, 0))
   have X2 : Ext σ4 ((((σ4.set b8 (.cells #[.int .i64 0, .int .u64 0, .slice none 0 0, .slice none 0 0] 93 (0, 0))).set b9 (.cells #[.int .i64 0, .int .u64 0, .slice none 0 0, .slice none 0 0] 93 (0, 0))).set b8 (.cells (WR x px nx cx qx mx dx) 93 (0, 0))).set b9 (.cells (WR y py ny cy qy my dy) 93 (0, 0))) := fun k o hk => by
     obtain ⟨a1, a2⟩ := nb k o hk
     rw [Hp.AI a2, Hp.AI a1, Hp.AI a2, Hp.AI a1]; exact hk
   generalize ((((σ4.set b8 (.cells #[.int .i64 0, .int .u64 0, .slice none 0 0, .slice none 0 0] 93 (0, 0))).set b9 (.cells #[.int .i64 0, .int .u64 0, .slice none 0 0, .slice none 0 0] 93 (0, 0))).set b8 (.cells (WR x px nx cx qx mx dx) 93 (0, 0))).set b9 (.cells (WR y py ny cy qy my dy) 93 (0, 0))) = y2 at *
 rotate_left
 focus
   have n8 : b9 ≠ b8 := fun e => by rw [e, Hp.AB] at hb8; cases hb8
   have n9 := (Hp.AV hb8).2
   have nb : ∀ k o, σ4 k = some o → k ≠ b8 ∧ k ≠ b9 := fun k o hk => ⟨fun e => (by rw [e, n9] at hk; cases hk), fun e => (by rw [e, hb9] at hk; cases hk)⟩
   refine Ss rfl (Hp.AB _ _ _) (by simp [Value.oneCell']) rfl ?_
   refine ⟨fun kb HC u hu => ?_, Ss rfl (by rw [Hp.AI n8, Hp.AI n8]; exact Hp.AB _ _ _) (by simp [Value.oneCell']) rfl ?_⟩
   · rw [List.mem_singleton] at HC
     subst HC
     have Zh : ∃ u, σ4 kb = some u := by
       have := x4.ld h1
       unfold Hp.ld at this
       cases hq : σ4 kb with
       | none => rw [hq] at this; cases this
       | some u => exact ⟨u, rfl⟩
     obtain ⟨u', Ct⟩ := Zh
     rw [Hp.AI (nb _ _ Ct).1]; exact hu
   have F8 : ((((σ4.set b9 (.cells #[.int .i64 0, .int .u64 0, .slice none 0 0, .slice none 0 0] 93 (0, 0))).set b8 (.cells #[.int .i64 0, .int .u64 0, .slice none 0 0, .slice none 0 0] 93 (0, 0))).set b8 (.cells (WR x px nx cx qx mx dx) 93 (0, 0))).set b9 (.cells (WR y py ny cy qy my dy) 93 (0, 0))) b8 = some (.cells (WR x px nx cx qx mx dx) 93 (0, 0)) := by rw [Hp.AI (Ne.symm n8), Hp.AB]
   have F9 := Hp.AB (((σ4.set b9 (.cells #[.int .i64 0, .int .u64 0, .slice none 0 0, .slice none 0 0] 93 (0, 0))).set b8 (.cells #[.int .i64 0, .int .u64 0, .slice none 0 0, .slice none 0 0] 93 (0, 0))).set b8 (.cells (WR x px nx cx qx mx dx) 93 (0, 0))) b9 (.cells (WR y py ny cy qy my dy) 93 (0, 0))
   have X2 : Ext σ4 ((((σ4.set b9 (.cells #[.int .i64 0, .int .u64 0, .slice none 0 0, .slice none 0 0] 93 (0, 0))).set b8 (.cells #[.int .i64 0, .int .u64 0, .slice none 0 0, .slice none 0 0] 93 (0, 0))).set b8 (.cells (WR x px nx cx qx mx dx) 93 (0, 0))).set b9 (.cells (WR y py ny cy qy my dy) 93 (0, 0))) := fun k o hk => by
     obtain ⟨a1, a2⟩ := nb k o hk
     rw [Hp.AI a2, Hp.AI a1, Hp.AI a1, Hp.AI a2]; exact hk
   generalize ((((σ4.set b9 (.cells #[.int .i64 0, .int .u64 0, .slice none 0 0, .slice none 0 0] 93 (0, 0))).set b8 (.cells #[.int .i64 0, .int .u64 0, .slice none 0 0, .slice none 0 0] 93 (0, 0))).set b8 (.cells (WR x px nx cx qx mx dx) 93 (0, 0))).set b9 (.cells (WR y py ny cy qy my dy) 93 (0, 0))) = y2 at *
 all_goals
   have F4 := X2 _ _ c4
   have X := x4.trans X2
   have zL := Av.Fk (c := [.int .i64 n.kind, .int .i64 n.op, .string n.text, .slice p k c, .int .i64 n.width, .int .i64 n.back, .int .i64 n.EL, .slice q m d, .bool n.bool, .int .i64 n.parts]) F4
   have hn := h.gZ X
   unfold bF at hn
   refine ⟨x.kind, Ad F8 rfl, fun nR => ⟨y.kind, Ad F9 rfl, fun vL => ?_, fun vL => ?_⟩, fun nR => ?_⟩
   · rw [if_pos ⟨nR, vL⟩] at hn
     exact ⟨_, _, _, _, _, _, _, _, _, _, _, _, _, _, zL, x.v, Ad F8 rfl, y.v, Ad F9 rfl, HP ⟨_, _, rfl, hn.ok _ y2 none 0 0 none 0 0 rfl (.refl _) Ag.nil Ag.nil (Nat.le_refl _) (Nat.le_refl _)⟩⟩
   · rw [if_neg (fun hh => vL hh.2), if_pos nR] at hn
     refine ⟨x.kind, Ad F8 rfl, fun _ => ⟨_, _, _, _, _, _, _, _, _, _, _, _, _, _, zL, py, ny, cy, Ad F9 rfl, Sp (g := fun v => DA n.op x.v v) (g5.mono Bt.mono X) iw (by omega) DN.en (fun σ2 v R' A9 LO => ?_) hn.Tg⟩, fun hh => absurd nR hh⟩
     exact DN.start ⟨_, _, _, _, _, _, _, _, _, _, _, _, _, _, zL.mono A9, x.v, Ad (A9 _ _ F8) rfl, HP ⟨_, _, rfl, LO⟩⟩
   · rw [if_neg (fun hh => nR hh.1), if_neg nR] at hn
     refine ⟨x.kind, Ad F8 rfl, fun hh => absurd hh nR, fun _ => ⟨y.kind, Ad F9 rfl, fun vL => ?_, fun vL => ⟨n.op, Ad F4 rfl, PR ⟨_, rfl, fun CX => ?_, fun CX => ?_⟩⟩⟩⟩
     · rw [if_pos vL] at hn
       refine ⟨_, _, _, _, _, _, _, _, _, _, _, _, _, _, zL, px, nx, cx, Ad F8 rfl, Sp (g := fun v => DA n.op v y.v) (h5.mono Bt.mono X) nO (by omega) DI.en (fun σ2 v R' A9 LO => ?_) hn.Tg⟩
       exact DI.start ⟨_, _, _, _, _, _, _, _, _, _, _, _, _, _, zL.mono A9, y.v, Ad (A9 _ _ F9) rfl, HP ⟨_, _, rfl, LO⟩⟩
     · rw [if_neg vL, if_pos (of_decide_eq_true CX)] at hn
       exact ⟨_, _, _, _, _, _, _, _, _, _, _, _, _, _, zL, px, nx, cx, Ad F8 rfl, py, ny, cy, Ad F9 rfl, gq (hs.mono X) (h5.mono Bt.mono X) (g5.mono Bt.mono X) nO iw (by omega) hn.Tg⟩
     · rw [if_neg vL, if_neg (of_decide_eq_false CX)] at hn
       exact ⟨_, _, _, _, _, _, _, _, _, _, _, _, _, _, zL, px, nx, cx, Ad F8 rfl, py, ny, cy, Ad F9 rfl, V1 (hs.mono X) (h5.mono Bt.mono X) (g5.mono Bt.mono X) nO iw (by omega) hn.Tg⟩
end
end TwW
end
section
namespace TwW
open Go Tw Go.RowKit Go.Proofs.Tryz
structure GR where
 b : Nat
 lp : Option Addr
 ln : Nat
 lc : Nat
 vp : Option Addr
 vn : Nat
 vc : Nat
def GR.cl (r : GR) : List Nat := r.b :: Qd r.vp
def GR.cell (r : GR) : Obj := .cells #[.slice r.lp r.ln r.lc, .slice r.vp r.vn r.vc] 189 (0, 0)
def E6 : List Rg → List GR → List (ByteArray × Nat)
 | g :: gs, r :: rs => (Dr g.ls, r.b) :: E6 gs rs
 | _, _ => []
structure GS (τ σ : Hp) (m : Nat) (op : Option Addr) (on oc : Nat) (rs : List GR) (gs : List Rg) : Prop where
 len : rs.length = gs.length
 map : MS (fun v b => v = .pointer (aD b 0)) σ m (E6 gs rs)
 ord : BB 1 σ op on oc (rs.map fun r => .pointer (aD r.b 0))
 box : ∀ (i : Nat) (r : GR) (g : Rg), rs[i]? = some r → gs[i]? = some g → σ r.b = some r.cell ∧ F7 τ r.lp r.ln g.ls ∧ Dh .u64 σ r.vp r.vn r.vc g.vs
 om : ∀ a, op = some a → a.block ≠ m ∧ τ a.block = none
 dm : ∀ (i : Nat) (r : GR), rs[i]? = some r → ∀ k ∈ r.cl, k ≠ m ∧ (∀ a, op = some a → k ≠ a.block) ∧ τ k = none
 vb : ∀ (i : Nat) (r : GR), rs[i]? = some r → ∀ a, r.vp = some a → a.block ≠ r.b
 dr : ∀ (i j : Nat) (r r' : GR), i ≠ j → rs[i]? = some r → rs[j]? = some r' → ∀ k ∈ r.cl, k ∉ r'.cl
 tm : τ m = none
 ext : Ext τ σ
theorem r8 : ∀ w, (Go.sizeOf 187).run prog w = .ok 1 w := fun w => by kernel_rfl
theorem r9 {p : Option Addr} {k : Nat} : k ∈ Qd p ↔ ∃ a, p = some a ∧ k = a.block := by
 cases p with
 | none => simp [Qd]
 | some a => simp [Qd]
theorem I7 {r : GR} {k : Nat} : k ∈ r.cl ↔ k = r.b ∨ ∃ a, r.vp = some a ∧ k = a.block := by
 unfold GR.cl
 rw [List.mem_cons, r9]
theorem BB.of_eq {s : Nat} {σ σ' : Hp} {p : Option Addr} {n c : Nat} {cs : List Value} (ho : BB s σ p n c cs) (h : ∀ a, p = some a → σ' a.block = σ a.block) : BB s σ' p n c cs :=
 ⟨ho.1, ho.2.1, ho.2.2.imp id fun ⟨b', o', arr, T, hp, hb, r⟩ => ⟨b', o', arr, T, hp, by rw [h _ hp]; exact hb, r⟩⟩
theorem Um : ∀ {gs : List Rg} {rs : List GR} {i : Nat} {g g' : Rg} {r r' : GR}, gs[i]? = some g → rs[i]? = some r → g'.ls = g.ls → r'.b = r.b → E6 (gs.set i g') (rs.set i r') = E6 gs rs
 | [], _, i, _, _, _, _, hg, _, _, _ => by simp at hg
 | _ :: _, [], i, _, _, _, _, _, hr, _, _ => by simp at hr
 | a :: gs, b :: rs, 0, g, g', r, r', hg, hr, h1, h2 => by
   simp only [List.getElem?_cons_zero, Option.some.injEq] at hg hr
   subst hg; subst hr
   simp only [List.set_cons_zero, E6, h1, h2]
 | a :: gs, b :: rs, i + 1, g, g', r, r', hg, hr, h1, h2 => by
   simp only [List.set_cons_succ, E6]
   rw [Um (by simpa using hg) (by simpa using hr) h1 h2]
theorem Un : ∀ {gs : List Rg} {rs : List GR} {g : Rg} {r : GR}, rs.length = gs.length → E6 (gs ++ [g]) (rs ++ [r]) = E6 gs rs ++ [(Dr g.ls, r.b)]
 | [], [], g, r, _ => rfl
 | [], _ :: _, g, r, h => by simp at h
 | _ :: _, [], g, r, h => by simp at h
 | a :: gs, b :: rs, g, r, h => by
   simp only [List.cons_append, E6]
   rw [Un (by simpa using h)]
theorem Su : ∀ {gs : List Rg} {rs : List GR} {ls : List Lb} {v : Int} {b : Nat}, rs.length = gs.length → Cp (E6 gs rs) (Dr ls) = some b → ∃ (i : Nat) (g : Rg) (r : GR), gs[i]? = some g ∧ rs[i]? = some r ∧ r.b = b ∧ Lk ls v gs = gs.set i ⟨g.ls, g.vs ++ [v]⟩
 | [], _, ls, v, b, _, h => by simp [E6, Cp] at h
 | _ :: _, [], ls, v, b, hl, h => by simp at hl
 | g :: gs, r :: rs, ls, v, b, hl, h => by
   unfold E6 Cp at h
   by_cases hk : Dr g.ls = Dr ls
   · rw [if_pos hk] at h
     exact ⟨0, g, r, rfl, rfl, by simpa using h, by unfold Lk; rw [if_pos hk]; rfl⟩
   · rw [if_neg hk] at h
     obtain ⟨i, g', r', h1, h2, h3, h4⟩ := Su (v := v) (by simpa using hl) h
     exact ⟨i + 1, g', r', by simpa using h1, by simpa using h2, h3, by unfold Lk; rw [if_neg hk, h4]; rfl⟩
theorem Sv : ∀ {gs : List Rg} {rs : List GR} {ls : List Lb} {v : Int}, rs.length = gs.length → Cp (E6 gs rs) (Dr ls) = none → Lk ls v gs = gs ++ [⟨ls, [v]⟩] ∧ ∀ a ∈ E6 gs rs, a.1 ≠ Dr ls
 | [], _, ls, v, _, h => ⟨rfl, fun a ha => by simp [E6] at ha⟩
 | _ :: _, [], ls, v, hl, h => by simp at hl
 | g :: gs, r :: rs, ls, v, hl, h => by
   unfold E6 Cp at h
   by_cases hk : Dr g.ls = Dr ls
   · rw [if_pos hk] at h; cases h
   · rw [if_neg hk] at h
     obtain ⟨h1, h2⟩ := Sv (v := v) (by simpa using hl) h
     refine ⟨by unfold Lk; rw [if_neg hk, h1]; rfl, fun a ha => ?_⟩
     unfold E6 at ha
     rcases List.mem_cons.1 ha with rfl | ha
     · exact hk
     · exact h2 a ha
section
variable {τ σ σ' σ0 : Hp} {R : Rr} {m on oc : Nat} {op : Option Addr} {rs : List GR} {gs : List Rg}
theorem GS.known (h : GS τ σ m op on oc rs gs) {i : Nat} {r : GR} (hr : rs[i]? = some r) : ∀ k ∈ r.cl, ∃ u, σ k = some u := fun k hk => by
 have Ax := (List.getElem?_eq_some_iff.1 hr).1
 obtain ⟨g, hg⟩ : ∃ g, gs[i]? = some g := ⟨_, List.getElem?_eq_getElem (by rw [← h.len]; exact Ax)⟩
 obtain ⟨h1, _, h3⟩ := h.box i r g hr hg
 rcases I7.1 hk with rfl | ⟨a, ha, rfl⟩
 · exact ⟨_, h1⟩
 · have := BB.block h3 a ha
   cases hh : σ a.block with
   | none => exact absurd hh this
   | some u => exact ⟨u, rfl⟩
theorem GS.grow (h : GS τ σ m op on oc rs gs) (hx : Ext σ σ') : ∃ τ', GS τ' σ' m op on oc rs gs ∧ Ext τ τ' ∧ Ext (σ.new σ') τ' := by
 have ht : Ext τ (τ.or (σ.new σ')) := Ext.rJ _ _
 have kn : ∀ k, (∃ u, σ k = some u) → τ k = none → (τ.or (σ.new σ')) k = none := fun k ⟨u, hu⟩ hk => by
   rw [Hp.ay hk]
   cases hh : (σ.new σ') k with
   | none => rfl
   | some v => rw [(AY.1 hh).1] at hu; cases hu
 have ne : ∀ k, σ k ≠ none → ∃ u, σ k = some u := fun k hk => by
   cases hh : σ k with
   | none => exact absurd hh hk
   | some u => exact ⟨u, rfl⟩
 refine ⟨τ.or (σ.new σ'), ⟨h.len, h.map.mono hx, h.ord.mono hx, fun i r g hr hg => ?_, fun a ha => ⟨(h.om a ha).1, kn _ (ne _ (h.ord.block a ha)) (h.om a ha).2⟩, fun i r hr k hk => ?_, h.vb, h.dr, kn _ (ne _ h.map.known) h.tm, ?_⟩, ht, ?_⟩
 · obtain ⟨h1, h2, h3⟩ := h.box i r g hr hg
   exact ⟨hx _ _ h1, h2.mono CL.mono ht, h3.mono hx⟩
 · obtain ⟨h1, h2, h3⟩ := h.dm i r hr k hk
   exact ⟨h1, h2, kn k (h.known hr k hk) h3⟩
 · exact Ext.mT (h.ext.trans hx) (Ext.Cd _ _)
 · refine Ext.ay fun k hk => ?_
   cases hh : τ k with
   | none => rfl
   | some u =>
     have h1 := h.ext _ _ hh
     cases h2 : (σ.new σ') k with
     | none => exact absurd h2 hk
     | some v => rw [(AY.1 h2).1] at h1; cases h1
theorem GS.push {i : Nat} {r : GR} {g : Rg} {v : Int} (h : GS τ σ m op on oc rs gs) (hr : rs[i]? = some r) (hg : gs[i]? = some g) (hb : r.vn ≤ 1000000000000) {Φ : Hp → Prop}
   (hΦ : ∀ σ' r', GS τ σ' m op on oc (rs.set i r') (gs.set i ⟨g.ls, g.vs ++ [v]⟩) → Φ σ') :
   Al σ fun b69 => AJ prog (Builtin.append_ #[187, 187] 187 #[.slice r.vp r.vn r.vc, (.slice (aD b69 0) 1 1)]) (Hp.set σ b69 (.cells #[.int .u64 v] 48 (0, 0))) (CS fun p70 n70 c70 y => AJ prog (Instr.storeAt 187 (.pointer (aD r.b 1)) (.slice p70 n70 c70)) y (fun _ AF => Φ AF)) := fun b69 ALa => by
 obtain ⟨h1, h2, h3⟩ := h.box i r g hr hg
 have vD := (List.getElem?_eq_some_iff.1 hr).1
 have hig := (List.getElem?_eq_some_iff.1 hg).1
 have x1 := Ext.set (o := .cells #[.int .u64 v] 48 (0, 0)) ALa
 refine Dx (BB.mono x1 h3) (Vk (f := .int .u64) (x := v) (Hp.AB _ _ _)) GB.P9 (by omega) fun vp' vc' σ2 Bc A9 => ⟨_, _, _, rfl, ?_⟩
 have hvb := h.vb i r hr
 have TL : ∀ k u, σ k = some u → (∀ a, r.vp = some a → k ≠ a.block) → σ2 k = some u ∧ ∀ a, vp' = some a → k ≠ a.block := fun k u hk BE => by
   obtain ⟨a1, a2⟩ := AS.1 (A9 k u (AS.2 ⟨BE, x1 _ _ hk⟩))
   exact ⟨a2, a1⟩
 obtain ⟨c1, c2⟩ := TL r.b _ h1 fun a ha e => hvb a ha e.symm
 refine AJ.store r8 c1 rfl (by simp) (by simp [Value.cells, Value.oneCell']) ?_
 let r' : GR := ⟨r.b, r.lp, r.ln, r.lc, vp', r.vn + 1, vc'⟩
 have Tk : (Obj.cells (Mm #[.slice r.lp r.ln r.lc, .slice r.vp r.vn r.vc] 1 (Value.slice vp' (r.vn + 1) vc').cells.toList) 189 (0, 0)) = r'.cell := by simp [Mm, Value.cells, GR.cell, r']
 rw [Tk]
 have T : ∀ k u, σ k = some u → k ∉ r.cl → (σ2.set r.b r'.cell) k = some u ∧ k ∉ r'.cl := fun k u hk iV => by
   have Nz : k ≠ r.b := fun e => iV (I7.2 (.inl e))
   obtain ⟨a1, a2⟩ := TL k u hk fun a ha e => iV (I7.2 (.inr ⟨a, ha, e⟩))
   exact ⟨by rw [Hp.AI Nz]; exact a1, fun hc => by
     rcases I7.1 hc with e | ⟨a, ha, e⟩
     · exact Nz e
     · exact a2 a ha e⟩
 have TK : ∀ k, (∃ u, σ k = some u) → k ∉ r.cl → (σ2.set r.b r'.cell) k = σ k ∧ k ∉ r'.cl := fun k ⟨u, hu⟩ iV => ⟨by rw [(T k u hu iV).1, hu], (T k u hu iV).2⟩
 have ne : ∀ k, σ k ≠ none → ∃ u, σ k = some u := fun k hk => by
   cases hh : σ k with
   | none => exact absurd hh hk
   | some u => exact ⟨u, rfl⟩
 have mk := TK m (ne _ h.map.known) fun hc => (h.dm i r hr m hc).1 rfl
 have ok : ∀ a, op = some a → (σ2.set r.b r'.cell) a.block = σ a.block ∧ a.block ∉ r'.cl := fun a ha => TK _ (ne _ (h.ord.block a ha)) fun hc => (h.dm i r hr _ hc).2.1 a ha rfl
 have jk : ∀ j s, j ≠ i → rs[j]? = some s → ∀ k ∈ s.cl, (σ2.set r.b r'.cell) k = σ k ∧ k ∉ r'.cl := fun j s hj hs k hk => TK k (h.known hs k hk) (h.dr j i s r hj hs hr k hk)
 have gu : ∀ j s, (rs.set i r')[j]? = some s → (j = i ∧ s = r') ∨ (j ≠ i ∧ rs[j]? = some s) := fun j s hs => by
   by_cases hj : j = i
   · subst hj
     rw [List.getElem?_set_self vD] at hs
     exact .inl ⟨rfl, by simpa using hs.symm⟩
   · rw [List.getElem?_set_ne (Ne.symm hj)] at hs
     exact .inr ⟨hj, hs⟩
 refine hΦ _ r' ⟨by simp [h.len], ?_, ?_, fun j s t hs ht => ?_, fun a ha => h.om a ha, fun j s hs k hk => ?_, fun j s hs a ha => ?_, fun j l s s' hjl hs TP k hk => ?_, h.tm, fun k u hk => ?_⟩
 · rw [Um (g' := ⟨g.ls, g.vs ++ [v]⟩) (r' := r') hg hr rfl rfl]; exact h.map.loc mk.1
 · have : (rs.set i r').map (fun r => Value.pointer (aD r.b 0)) = rs.map fun r => Value.pointer (aD r.b 0) := by
     rw [List.map_set]
     obtain ⟨_, e⟩ := List.getElem?_eq_some_iff.1 hr
     have : Value.pointer (aD r'.b 0) = (rs.map fun r => Value.pointer (aD r.b 0))[i]'(by simpa using vD) := by simp [e, r']
     rw [this, List.set_getElem_self]
   rw [this]; exact BB.of_eq h.ord fun a ha => (ok a ha).1
 · rcases gu j s hs with ⟨rfl, rfl⟩ | ⟨hj, TP⟩
   · rw [List.getElem?_set_self hig] at ht
     cases ht
     refine ⟨Hp.AB _ _ _, h2, ?_⟩
     have := BB.AI (b := r.b) (o := r'.cell) Bc (fun a ha e => c2 a ha e.symm)
     unfold Dh
     rw [List.map_append]; exact this
   · rw [List.getElem?_set_ne (Ne.symm hj)] at ht
     obtain ⟨a1, a2, a3⟩ := h.box j s t TP ht
     refine ⟨?_, a2, BB.of_eq a3 fun a ha => (jk j s hj TP _ (I7.2 (.inr ⟨a, ha, rfl⟩))).1⟩
     rw [(jk j s hj TP _ (I7.2 (.inl rfl))).1]; exact a1
 · rcases gu j s hs with ⟨rfl, rfl⟩ | ⟨hj, TP⟩
   · refine ⟨fun e => mk.2 (e ▸ hk), fun a ha e => (ok a ha).2 (e ▸ hk), ?_⟩
     cases hq : τ k with
     | none => rfl
     | some u => exact absurd hk (T k u (h.ext _ _ hq) fun hc => by rw [(h.dm j r hr k hc).2.2] at hq; cases hq).2
   · exact h.dm j s TP k hk
 · rcases gu j s hs with ⟨rfl, rfl⟩ | ⟨hj, TP⟩
   · exact fun e => c2 a ha e.symm
   · exact h.vb j s TP a ha
 · rcases gu j s hs with ⟨rfl, rfl⟩ | ⟨hj, JW⟩
   · rcases gu l s' TP with ⟨rfl, rfl⟩ | ⟨hl, hs2⟩
     · exact absurd rfl hjl
     · exact fun hc => (jk l s' hl hs2 k hc).2 hk
   · rcases gu l s' TP with ⟨rfl, rfl⟩ | ⟨hl, hs2⟩
     · exact (jk j s hj JW k hk).2
     · exact h.dr j l s s' hjl JW hs2 k hk
 · exact (T k u (h.ext _ _ hk) fun hc => by rw [(h.dm i r hr k hc).2.2] at hk; cases hk).1
end
end TwW
end
section
namespace TwW
open Go Tw Go.RowKit Go.Proofs.Tryz
theorem sB : ∀ w, (zeroValue 200).run prog w = .ok (.pointer none) w := fun w => by
 have h : prog.info? 200 = some t200 := by kernel_rfl
 simp [zeroValue, typeInfo, h]
 rfl
theorem sC : ∀ w, (zeroValue 201).run prog w = .ok .nilFunc w := fun w => by
 have h : prog.info? 201 = some t201 := by kernel_rfl
 simp [zeroValue, typeInfo, h]
 rfl
section
variable {τ σ σ' σ0 : Hp} {R : Rr} {m on oc : Nat} {op : Option Addr} {rs : List GR} {gs : List Rg}
theorem GS.mono (h : GS τ σ m op on oc rs gs) (hx : Ext σ σ') : GS τ σ' m op on oc rs gs :=
 ⟨h.len, h.map.mono hx, h.ord.mono hx, fun i r g hr hg => let ⟨h1, h2, h3⟩ := h.box i r g hr hg; ⟨hx _ _ h1, h2, h3.mono hx⟩, h.om, h.dm, h.vb, h.dr, h.tm, h.ext.trans hx⟩
theorem GS.add {ls : List Lb} {lp : Option Addr} {ln lc : Nat} (h : GS τ σ m op on oc rs gs) (Du : ∀ a ∈ E6 gs rs, a.1 ≠ Dr ls) (hr : F7 τ lp ln ls) (iW : Aq ls) (hon : on ≤ 1000000000000) {Φ : Nat → Option Addr → Nat → Nat → Hp → Prop}
   (hΦ : ∀ b sD oc' σ', GS τ σ' m sD (on + 1) oc' (rs ++ [⟨b, lp, ln, lc, none, 0, 0⟩]) (gs ++ [⟨ls, []⟩]) → Φ b sD (on + 1) oc' σ') :
   Al σ fun OM => Spec prog 49 #[.slice lp ln lc] (Hp.set σ OM (.cells #[.slice lp ln lc, .slice none 0 0] 189 (0, 0))) (AA R (CT fun s56 AH => AJ prog (Instr.mapUpdate 197 (.map (some m)) (.string s56) (.pointer (aD OM 0))) AH (fun _ Aa => Al Aa fun b60 => AJ prog (Builtin.append_ #[198, 198] 198 #[.slice op on oc, (.slice (aD b60 0) 1 1)]) (Hp.set Aa b60 (.cells #[(.pointer (aD OM 0))] 200 (0, 0))) (CS fun p61 n61 c61 D1 => Φ OM p61 n61 c61 D1)))) := fun OM nS => by
 have x1 := Ext.set (o := .cells #[.slice lp ln lc, .slice none 0 0] 189 (0, 0)) nS
 have tb : τ OM = none := A8 h.ext nS
 have ne : ∀ k, σ k ≠ none → ∃ u, σ k = some u := fun k hk => by
   cases hh : σ k with
   | none => exact absurd hh hk
   | some u => exact ⟨u, rfl⟩
 have nem : OM ≠ m := fun e => h.map.known (by rw [← e]; exact nS)
 have neo : ∀ a, op = some a → OM ≠ a.block := fun a ha e => h.ord.block a ha (by rw [← e]; exact nS)
 have ncl : ∀ (i : Nat) (r : GR), rs[i]? = some r → OM ∉ r.cl := fun i r hr hc => by obtain ⟨u, hu⟩ := h.known hr _ hc; rw [nS] at hu; cases hu
 refine FI (hr.mono CL.mono (h.ext.trans x1)) iW fun σ2 A9 => ⟨_, rfl, ?_⟩
 have h2 := h.mono (x1.trans A9)
 have c2 := A9 _ _ (Hp.AB σ OM (.cells #[.slice lp ln lc, .slice none 0 0] 189 (0, 0)))
 refine h2.map.put (x := OM) rfl fun o hM => fun b60 AFv => ?_
 rw [Oc Du] at hM
 have ALc : BB 1 (σ2.set m o) op on oc (rs.map fun r => .pointer (aD r.b 0)) := BB.of_eq h2.ord fun a ha => Hp.AI (h.om a ha).1
 refine Dx (ALc.mono (.set AFv)) (Vk (f := fun v => v) (x := .pointer (aD OM 0)) (Hp.AB _ _ _)) (fun u hu => by simp at hu; subst hu; rfl) (by omega) fun sD oc' σ5 QM Td => ⟨_, _, _, rfl, ?_⟩
 have T : ∀ k u, (σ2.set m o) k = some u → (∀ a, op = some a → k ≠ a.block) → σ5 k = some u ∧ ∀ a, sD = some a → k ≠ a.block := fun k u hk BE => by
   obtain ⟨a1, a2⟩ := AS.1 (Td k u (AS.2 ⟨BE, (Ext.set AFv) _ _ hk⟩))
   exact ⟨a2, a1⟩
 have T2 : ∀ k u, σ2 k = some u → k ≠ m → (∀ a, op = some a → k ≠ a.block) → σ5 k = some u ∧ ∀ a, sD = some a → k ≠ a.block := fun k u hk u7 => T k u (by rw [Hp.AI u7]; exact hk)
 have Tr : ∀ (i : Nat) (r : GR), rs[i]? = some r → ∀ k ∈ r.cl, σ5 k = σ2 k ∧ ∀ a, sD = some a → k ≠ a.block := fun i r hr k hk => by
   obtain ⟨u, hu⟩ := h2.known hr k hk
   obtain ⟨d1, d2, _⟩ := h.dm i r hr k hk
   obtain ⟨a1, a2⟩ := T2 k u hu d1 d2
   exact ⟨by rw [a1, hu], a2⟩
 have hm2 : ∃ u, (σ2.set m o) m = some u := ⟨_, Hp.AB _ _ _⟩
 obtain ⟨um, hum⟩ := hm2
 obtain ⟨m1, m2⟩ := T m um hum fun a ha e => (h.om a ha).1 e.symm
 have gu : ∀ (i : Nat) (r : GR), (rs ++ [(⟨OM, lp, ln, lc, none, 0, 0⟩ : GR)])[i]? = some r → rs[i]? = some r ∨ (i = rs.length ∧ r = ⟨OM, lp, ln, lc, none, 0, 0⟩) := fun i r hr => by
   rw [List.getElem?_append] at hr
   split at hr
   · exact .inl hr
   · rename_i Ax
     have sE := (List.getElem?_eq_some_iff.1 hr).1
     simp only [List.length_singleton] at sE
     have : i - rs.length = 0 := by omega
     rw [this] at hr
     exact .inr ⟨by omega, by simpa using hr.symm⟩
 have cn : ∀ k, k ∈ (⟨OM, lp, ln, lc, none, 0, 0⟩ : GR).cl → k = OM := fun k hk => by
   rcases I7.1 hk with e | ⟨a, ha, _⟩
   · exact e
   · cases ha
 obtain ⟨b1, b2⟩ := T2 OM _ c2 nem neo
 refine hΦ OM sD oc' σ5 ⟨by simp [h.len], ?_, ?_, fun i r g hi hg => ?_, fun a ha => ⟨fun e => m2 a ha e.symm, ?_⟩, fun i r hi k hk => ?_, fun i r hi a ha => ?_, fun i j r r' ca hi hj k hk => ?_, h.tm, fun k u hk => ?_⟩
 · rw [Un h.len]
   exact hM.loc (by rw [m1, hum])
 · rw [List.map_append]; exact QM
 · rcases gu i r hi with Bb | ⟨rfl, rfl⟩
   · have Ax := (List.getElem?_eq_some_iff.1 Bb).1
     rw [List.getElem?_append_left (by rw [← h.len]; exact Ax)] at hg
     obtain ⟨a1, a2, a3⟩ := h2.box i r g Bb hg
     refine ⟨?_, a2, BB.of_eq a3 fun a ha => (Tr i r Bb _ (I7.2 (.inr ⟨a, ha, rfl⟩))).1⟩
     rw [(Tr i r Bb _ (I7.2 (.inl rfl))).1]; exact a1
   · rw [h.len, List.getElem?_append_right (Nat.le_refl _), Nat.sub_self] at hg
     simp only [List.getElem?_cons_zero, Option.some.injEq] at hg
     subst hg
     exact ⟨b1, hr, Dh.nil⟩
 · cases hq : τ a.block with
   | none => rfl
   | some u =>
     obtain ⟨_, e2⟩ := T2 a.block u (h2.ext _ _ hq) (fun e => by rw [e, h.tm] at hq; cases hq) (fun a' Zb e => by rw [e, (h.om a' Zb).2] at hq; cases hq)
     exact absurd rfl (e2 a ha)
 · rcases gu i r hi with Bb | ⟨rfl, rfl⟩
   · exact ⟨(h.dm i r Bb k hk).1, (Tr i r Bb k hk).2, (h.dm i r Bb k hk).2.2⟩
   · rw [cn k hk]; exact ⟨nem, b2, tb⟩
 · rcases gu i r hi with Bb | ⟨rfl, rfl⟩
   · exact h.vb i r Bb a ha
   · cases ha
 · rcases gu i r hi with Bb | ⟨rfl, rfl⟩
   · rcases gu j r' hj with QY | ⟨rfl, rfl⟩
     · exact h.dr i j r r' ca Bb QY k hk
     · exact fun hc => ncl i r Bb (by rw [← cn k hc]; exact hk)
   · rcases gu j r' hj with QY | ⟨rfl, rfl⟩
     · exact fun hc => ncl j r' QY (by rw [← cn k hk]; exact hc)
     · exact absurd rfl ca
 · exact (T2 k u (h2.ext _ _ hk) (fun e => by rw [e, h.tm] at hk; cases hk) (fun a ha e => by rw [e, (h.om a ha).2] at hk; cases hk)).1
end
end TwW
end
