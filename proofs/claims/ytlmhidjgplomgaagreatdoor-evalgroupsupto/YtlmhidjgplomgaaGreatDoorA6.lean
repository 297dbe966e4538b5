/-
  Part 6 of the proof that the law EvalGroupsUptoCardSaid of the given program answers true for every input of the given statement; the input reads behind the call as it did. (The texts: packed from 8 texts. Names are shortened by the packing program, for the bound on size.)
-/
import Derived.Test.YtlmhidjgplomgaaGreatDoorA5
import Derived.Laws.FloatBits
import Ieee.Arith
import Derived.KernelRfl
set_option linter.all false
section
namespace TwW
open Go Tw Go.RowKit Go.Proofs.Tryz
def bh (u : UInt8) : Bool := decide (97 ≤ u.toNat ∧ u.toNat ≤ 122)
def Pz (s : ByteArray) : Bool := s.data.toList.all bh && (decide (s ≠ ⟨#[]⟩) && (decide (s.size < 60) && !MB s))
theorem Yq {s : ByteArray} : ∀ {l : List ByteArray} {k : Nat}, 0 < k → (0 < Vw l s k ↔ s ∈ l ∧ s ≠ ⟨#[]⟩)
 | [], k, _ => by simp [Vw]
 | x :: l, k, hk => by
   unfold Vw
   by_cases h : x = s ∧ s ≠ ⟨#[]⟩
   · rw [if_pos h]
     exact ⟨fun _ => ⟨by rw [h.1]; exact List.mem_cons_self .., h.2⟩, fun _ => hk⟩
   · rw [if_neg h, Yq (Nat.succ_pos k), List.mem_cons]
     constructor
     · rintro ⟨h1, h2⟩; exact ⟨.inr h1, h2⟩
     · rintro ⟨h1 | h1, h2⟩
       · exact absurd ⟨h1.symm, h2⟩ h
       · exact ⟨h1, h2⟩
theorem S4 {s : ByteArray} {l : List ByteArray} : 0 < GM (⟨#[]⟩ :: l) s ↔ s ∈ l ∧ s ≠ ⟨#[]⟩ := by
 unfold GM Vw
 rw [if_neg (by rintro ⟨rfl, h⟩; exact h rfl)]
 exact Yq (by decide)
section
variable {σ : Hp} {R : Rr}
theorem I5 {l : List ByteArray} {s : ByteArray} {pt : Option Addr} {k j : Nat} (hr : Ez 1 σ pt k (l.map .string)) (hR : ∀ i : Int, (0 ≤ i ↔ s ∈ l) → R (.returned (.int .i64 i)) σ) : Spec prog 60 #[.slice pt k j, .string s] σ R := by
 have hl : l.length = k := by have := hr.1; simpa using this
 have MX : k ≤ 4611686018427387904 := hr.2.1
 refine Fh.start ?_
 suffices H : ∀ g i : Nat, k - i = g → i ≤ k → s ∉ l.take i → Fh.Hi R pt k j s i σ from H k 0 rfl (Nat.zero_le _) (by simp)
 intro g
 induction g with
 | zero =>
   intro i hg hi he
   rw [List.take_of_length_le (by omega)] at he
   exact Fh.BD ⟨fun Au => by omega, fun _ => hR _ ⟨fun hh => by omega, fun hh => absurd hh he⟩⟩
 | succ g ih =>
   intro i hg hi he
   have Be : i < k := by omega
   obtain ⟨x, hx⟩ : ∃ x, l[i]? = some x := ⟨_, List.getElem?_eq_getElem (by omega)⟩
   obtain ⟨b, o, rfl, E6⟩ := Ez.at1 hr (k := i) (v := .string x) (by simp [hx])
   refine Fh.BD ⟨fun _ => ⟨b, o, rfl, by omega, x, by simpa using E6, fun ht => ?_, fun hf => ⟨AL Be MX, ih (i + 1) (by omega) (by omega) ?_⟩⟩, fun hh => by omega⟩
   · rw [QF, decide_eq_true_eq] at ht
     exact hR _ ⟨fun _ => by rw [← ht]; exact List.mem_of_getElem? hx, fun _ => by omega⟩
   · rw [QF, decide_eq_false_iff_not] at hf
     rw [Aa hx, List.mem_append, List.mem_singleton]
     rintro (hh | hh)
     · exact he hh
     · exact hf hh.symm
theorem Yr {s : ByteArray} (hs : s ≠ ⟨#[]⟩) (hR : ∀ σ', Ext σ σ' → R (.returned (.bool (MB s))) σ') : Spec prog 42 #[.string s] σ R := by
 have e1 : Yf = ⟨#[]⟩ :: Yf.tail := rfl
 have e2 : Yg = ⟨#[]⟩ :: Yg.tail := rfl
 have k1 : decide (0 < GM Yf s) = CO s Yf.tail := by
   rw [Bool.eq_iff_iff, decide_eq_true_eq, A7, e1, S4]
   exact ⟨fun h => h.1, fun h => ⟨h, hs⟩⟩
 have k2 : decide (0 < GM Yg s) = CO s Yg.tail := by
   rw [Bool.eq_iff_iff, decide_eq_true_eq, A7, e2, S4]
   exact ⟨fun h => h.1, fun h => ⟨h, hs⟩⟩
 unfold MB at hR
 rw [k1, k2] at hR
 refine RB.start (O1.start fun b1 ZH => ⟨_, _, _, rfl, ?_⟩)
 have x1 := Ext.set (o := .cells (Yf.tail.map Value.string).toArray 9 (0, 0)) ZH
 refine I5 (l := Yf.tail) (Oh (l := Yf.tail) (Hp.AB _ _ _) (by decide)) fun i hi => ⟨_, rfl, fun h0 => ?_, fun h0 => R4.start fun b2 PY => ⟨_, _, _, rfl, ?_⟩⟩
 · have := hR _ x1
   rw [A7.2 (hi.1 h0), Bool.or_true, Bool.true_or] at this
   exact this
 have n1 : CO s Yf.tail = false := by
   rw [Bool.eq_false_iff, ne_eq, A7]; exact fun h => h0 (hi.2 h)
 have x2 := x1.trans (Ext.set (o := .cells (Yg.tail.map Value.string).toArray 9 (0, 0)) PY)
 refine I5 (l := Yg.tail) (Oh (l := Yg.tail) (Hp.AB _ _ _) (by decide)) fun i hi => ⟨_, rfl, fun h0 => ?_, fun h0 b3 ZF => ?_⟩
 · have := hR _ x2
   rw [A7.2 (hi.1 h0), Bool.or_true] at this
   exact this
 have n2 : CO s Yg.tail = false := by
   rw [Bool.eq_false_iff, ne_eq, A7]; exact fun h => h0 (hi.2 h)
 have x3 := x2.trans (Ext.set (o := .cells (Pv.map Value.string).toArray 9 (0, 0)) ZF)
 refine I5 (l := Pv) (Oh (l := Pv) (Hp.AB _ _ _) (by decide)) fun i hi => ⟨_, rfl, ?_⟩
 have := hR _ x3
 rw [n1, n2, Bool.or_false, Bool.or_false] at this
 dsimp only
 rw [show decide (0 ≤ i) = CO s Pv by rw [Bool.eq_iff_iff, decide_eq_true_eq, A7]; exact hi]
 exact this
theorem Ys {s : ByteArray} (hb : s.size ≤ 4611686018427387904) (hR : ∀ σ', Ext σ σ' → R (.returned (.bool (Pz s))) σ') : Spec prog 19 #[.string s] σ R := by
 refine Fb.start (dS (ok := bh) (pt := fun i => Fb.Hi R s i σ) (G := fun b => ∀ σ', Ext σ σ' → R (.returned (.bool (b && (decide (s ≠ ⟨#[]⟩) && (decide (s.size < 60) && !MB s))))) σ') (fun h => ?_) (fun k u hk hu h64 h1 h2 => ?_) hR hb)
 · refine Fb.BD ⟨fun hh => by omega, fun _ => ⟨fun hf => ⟨fun h6 => ?_, fun h6 => ?_⟩, fun ht => ?_⟩⟩
   · rw [QF, decide_eq_false_iff_not] at hf
     refine Yr hf fun σ' hx => ⟨_, rfl, ?_⟩
     have := h σ' hx
     rw [decide_eq_true hf, decide_eq_true (show s.size < 60 by omega)] at this
     exact this
   · have := h σ (.refl _)
     rw [decide_eq_false (show ¬ s.size < 60 by omega), Bool.false_and, Bool.and_false, Bool.and_false] at this
     exact this
   · rw [QF, decide_eq_true_eq] at ht
     have := h σ (.refl _)
     rw [decide_eq_false (show ¬ s ≠ ⟨#[]⟩ from fun hh => hh ht), Bool.false_and, Bool.and_false] at this
     exact this
 · have no : bh u = false → R (.returned (.bool false)) σ := fun hl => by
     have := h2 hl σ (.refl _)
     exact this
   refine Fb.BD ⟨fun _ => ⟨u, by omega, hu, fun h97 => no (decide_eq_false (by omega)), fun h97 => ⟨u, by omega, hu, fun AMK => no (decide_eq_false (by omega)), fun AMK => ⟨h64, h1 (decide_eq_true (by omega))⟩⟩⟩, fun hh => by omega⟩
end
def Gx (s : ByteArray) : Cl := { kind := 3, text := s, span := 0, op := 0, fn := 0, ag := 0, kept := false, big := false, name := true, lp := false, rp := false, comma := false, lsq := false, rsq := false, lbr := false, minus := false, bool := false, on := false, zf := false, u4 := false, out := false, off := false }
theorem QM {s : ByteArray} (h : Pz s = true) : (∀ u ∈ s.data.toList, bh u = true) ∧ s ≠ ⟨#[]⟩ ∧ s.size < 60 ∧ MB s = false := by
 unfold Pz at h
 rw [Bool.and_eq_true, Bool.and_eq_true, Bool.and_eq_true, List.all_eq_true, decide_eq_true_eq, decide_eq_true_eq] at h
 exact ⟨h.1, h.2.1, h.2.2.1, by simpa using h.2.2.2⟩
theorem Yt {s : ByteArray} (h : Pz s = true) : ∃ c w, s.data.toList = c :: w := by
 cases hd : s.data.toList with
 | nil =>
   refine absurd ?_ (QM h).2.1
   apply ByteArray.ext
   apply Array.toList_inj.1
   rw [hd]
 | cons c w => exact ⟨c, w, rfl⟩
theorem rv {s : ByteArray} (h : Pz s = true) : Bs 3 s 0 = Gx s := by
 obtain ⟨h1, h2, h3, h4⟩ := QM h
 obtain ⟨c, w, u5⟩ := Yt h
 have hk := h4
 unfold MB at hk
 rw [Bool.or_eq_false_iff, Bool.or_eq_false_iff, decide_eq_false_iff_not, decide_eq_false_iff_not] at hk
 have hm : ∀ x ∈ Pv, ¬ s = x := fun x hx e => by
   have : CO s Pv = true := A7.2 (by rw [e]; exact hx)
   rw [hk.1.1] at this; cases this
 have IJ : GM rh s = 0 := by
   have e : rh = ⟨#[]⟩ :: rh.tail := rfl
   have : ¬ 0 < GM rh s := by
     rw [e, S4]
     rintro ⟨hx, _⟩
     have key : (rh.tail.all fun x => !x.data.toList.all bh || CO x Pv) = true := by decide +kernel
     have hh := List.all_eq_true.1 key s hx
     rw [List.all_eq_true.2 h1] at hh
     exact hm s (A7.1 (by simpa using hh)) rfl
   omega
 have zF : Db s = true := by
   have Hf : s.data.toList.length = s.size := rfl
   unfold Db
   rw [u5] at Hf ⊢
   rw [List.length_cons] at Hf
   have hc : bh c = true := h1 c (by rw [u5]; exact List.mem_cons_self ..)
   have ye : 97 ≤ c.toNat ∧ c.toNat ≤ 122 := of_decide_eq_true hc
   rw [decide_eq_true (show 0 < s.size by omega), decide_eq_true (show s.size ≤ 64 by omega)]
   simp only [List.head?_cons, Option.any_some, Bool.true_and, Bool.and_eq_true, Bool.not_eq_true', List.all_eq_true]
   refine ⟨decide_eq_false (by omega), fun u hu => ?_⟩
   have Cy : 97 ≤ u.toNat ∧ u.toNat ≤ 122 := of_decide_eq_true (h1 u (by rw [u5]; exact hu))
   exact decide_eq_true (by omega)
 have t5 : ∀ x, IP 3 s 5 x = false := fun x => by unfold IP; rw [decide_eq_false (by decide), Bool.false_and]
 have t3 : ∀ x ∈ Pv, IP 3 s 3 x = false := fun x hx => by unfold IP; rw [decide_eq_false (hm x hx), Bool.and_false]
 unfold Bs Gx
 rw [IJ, show GM Yf s = 0 by omega, show GM Yg s = 0 by omega, h4, zF, decide_eq_false (show ¬ 256 < s.size by omega), t5, t5, t5, t5, t5, t5, t5, t3 _ (A7.1 (by decide)), t3 _ (A7.1 (by decide)), t3 _ (A7.1 (by decide)), t3 _ (A7.1 (by decide)), t3 _ (A7.1 (by decide)), t3 _ (A7.1 (by decide))]
 rfl
theorem eI {u : UInt8} (h : bh u = true) : Nj u = true ∧ Bf u = false ∧ Mh u = true := by
 have h' : 97 ≤ u.toNat ∧ u.toNat ≤ 122 := of_decide_eq_true h
 have h1 : Nj u = true := decide_eq_true (.inl h')
 exact ⟨h1, decide_eq_false (by omega), by unfold Mh; rw [h1]; rfl⟩
theorem Lx.w {s : ByteArray} {l : List UInt8} {ts : List Cl} (hp : Pz s = true) (hl : ∀ u, l.head? = some u → Mh u = false) (h : Lx l ts) : Lx (s.data.toList ++ l) (Gx s :: ts) := by
 obtain ⟨c, w, u5⟩ := Yt hp
 have h1 := (QM hp).1
 have hb : bA (c :: w) = s := by
   apply ByteArray.ext
   apply Array.toList_inj.1
   rw [u5]; rfl
 have hc := eI (h1 c (by rw [u5]; exact List.mem_cons_self ..))
 have := Lx.word (c := c) (w := w) hc.1 hc.2.1 (fun u hu => (eI (h1 u (by rw [u5]; exact List.mem_cons_of_mem _ hu))).2.2) hl h
 rw [hb, rv hp] at this
 rw [u5]; exact this
def kwB (w : List UInt8) : Bool := match w with
 | [] => false
 | c :: w => Nj c && !Bf c && w.all Mh
theorem Lx.kw {l : List UInt8} {ts : List Cl} (w : List UInt8) (hw : kwB w = true) (hl : ∀ u, l.head? = some u → Mh u = false) (h : Lx l ts) : Lx (w ++ l) (Bs 3 (bA w) 0 :: ts) := by
 cases w with
 | nil => cases hw
 | cons c w =>
   unfold kwB at hw
   simp only [Bool.and_eq_true, Bool.not_eq_true', List.all_eq_true] at hw
   exact Lx.word hw.1.1 hw.1.2 hw.2 hl h
theorem Lx.dg {c : UInt8} {l : List UInt8} {ts : List Cl} (h0 : Bf c = true) (h1 : Px (bA [c]) = 0) (h2 : FM (bA [c]) = true) (hl : ∀ u, l.head? = some u → Oi u = false) (h : Lx l ts) : Lx (c :: l) (Bs 1 (bA [c]) 0 :: ts) :=
 Lx.num (w := []) h0 (fun u hu => by cases hu) hl h1 h2 h
section
variable {σ : Hp} {R : Rr}
theorem nZ {s : ByteArray} {ts r : List Cl} {T : List Nd} {f : Nat} {cl : Cl} {p : Option Addr} {n c : Nat} {ss : List Sr} {t : Int} (hg : Gl σ) (hs : Af 2 EP σ p n ss) (hS : SOk ss) (hM : Modest T ss) (hT : T.length ≤ 1000000)
   (hl : Lx s.data.toList ts) (Hf : s.size ≤ 4096) (hn : ts.length ≤ 100000) (hz : pz f 0 0 ts = some (cl :: r, T)) (hk : cl.kind = 0)
   (h : ∀ (σ' : Hp) (p' : Option Addr) (n' c' : Nat), (instF T ss t).1 = 0 → Af 2 EP σ' p' n' ((instF T ss t).2.map fun e => ⟨e.ls, [(t, e.v)]⟩) → Ext σ σ' → R (.returned (.tuple #[.slice p' n' c', .int .i64 0])) σ')
   (h' : ∀ σ', (instF T ss t).1 ≠ 0 → Ext σ σ' → R (.returned (.tuple #[.slice none 0 0, .int .i64 (instF T ss t).1])) σ') :
   Spec prog 20 #[.string s, .slice p n c, .int .i64 t] σ R := by
 refine UD.start (bg hl Hf hn hT hz hk fun σ1 p1 n1 c1 hr CD => ⟨_, _, _, _, _, rfl, fun hh => absurd rfl hh, fun _ => ?_⟩)
 refine Vr (hs.mono EP.mono CD) hS fun p2 c2 σ2 h2 A6 => ⟨_, _, _, rfl, ?_⟩
 refine inst_spec (hg.mono (CD.trans A6)) (hr.mono MY.mono A6) h2 hM (fun τ p' n' c' σ' bs h0 hA hx => ⟨_, _, _, _, rfl, ?_⟩) fun σ' A4 hx => ⟨_, _, _, _, rfl, ?_⟩
 · exact h σ' p' n' c' h0 hA.rd ((CD.trans A6).trans (hx.trans hA.ext))
 · exact h' σ' A4 ((CD.trans A6).trans hx)
end
end TwW
end
section
namespace TwW
open Go Tw Go.RowKit Go.Proofs.Tryz
def cnV (v : Int) : Prop := (Kk v.toNat = false ∧ 0 ≤ v) ∨ v = 9221120237041090560
def AGJ (l : List El) : Prop := l.Pairwise fun a b => Ca a.ls b.ls < 0
def ElS (ss : List Sr) (e : El) : Prop := SI e.ls = 0 ∧ (cnV e.v ∨ ∃ s ∈ ss, ∃ p ∈ s.ps, p.2 = e.v)
structure VS (ss : List Sr) (x : Vv) : Prop where
 el : ∀ e ∈ x.vec, ElS ss e
 up : AGJ x.vec
 rg : ∀ r ∈ x.N9, SI r.ls = 0
 one : x.kind = 1 → cnV x.v
end TwW
end
section
namespace TwW
open Ieee
theorem Mi {m k : Nat} (hm : m ≠ 0) : (m * 2 ^ k).log2 = m.log2 + k := by
 have h0 : m * 2 ^ k ≠ 0 := Nat.mul_ne_zero hm (Nat.pos_iff_ne_zero.1 (Nat.pow_pos (by decide)))
 apply Nat.le_antisymm
 · have := (Nat.log2_lt h0 (k := m.log2 + k + 1)).2 (by
     rw [show m.log2 + k + 1 = (m.log2 + 1) + k by omega, Nat.pow_add]
     exact Nat.mul_lt_mul_of_pos_right Nat.lt_log2_self (Nat.pow_pos (by decide)))
   omega
 · rw [Nat.le_log2 h0, Nat.pow_add]
   exact Nat.mul_le_mul_right _ (Nat.log2_self_le hm)
theorem No (w : Toward) (s : Bool) (n : Nat) : w.cut s n 0 = n := by
 unfold Toward.cut
 simp only [Nat.zero_min, Nat.shiftLeft_zero, Nat.div_one, Nat.mod_one]
 cases w <;> simp
theorem gw {s : Bool} {q d : Nat} (hq : q ≠ 0) : Toward.even.cut s (q * 2 ^ d) d = q := by
 have hp : 0 < 2 ^ d := Nat.pow_pos (by decide)
 unfold Toward.cut
 rw [Mi hq, Nat.min_eq_left (by omega), Nat.one_shiftLeft]
 simp only [Nat.mul_div_cancel _ hp, Nat.mul_mod_left]
 have : (2 ^ d == 2 * 0) = false := by
   rw [beq_eq_false_iff_ne]; omega
 simp [this]
theorem gx {s : Bool} {m d k : Nat} (hm : m ≠ 0) : Toward.even.cut s (m * 2 ^ k) (d + k) = Toward.even.cut s m d := by
 have hk : 0 < 2 ^ k := Nat.pow_pos (by decide)
 unfold Toward.cut
 rw [Mi hm, show min (d + k) (m.log2 + k + 2) = min d (m.log2 + 2) + k by omega]
 generalize min d (m.log2 + 2) = g
 rw [Nat.one_shiftLeft, Nat.one_shiftLeft, Nat.pow_add]
 have hg : 0 < 2 ^ g := Nat.pow_pos (by decide)
 have e1 : m * 2 ^ k / (2 ^ g * 2 ^ k) = m / 2 ^ g := Nat.mul_div_mul_right _ _ hk
 have e2 : m * 2 ^ k % (2 ^ g * 2 ^ k) = m % 2 ^ g * 2 ^ k := Nat.mul_mod_mul_right _ _ _
 simp only [e1, e2]
 have e3 : decide (2 ^ g * 2 ^ k < 2 * (m % 2 ^ g * 2 ^ k)) = decide (2 ^ g < 2 * (m % 2 ^ g)) := decide_eq_decide.2 (by
   rw [← Nat.mul_assoc]; exact Nat.mul_lt_mul_right hk)
 have e4 : (2 ^ g * 2 ^ k == 2 * (m % 2 ^ g * 2 ^ k)) = (2 ^ g == 2 * (m % 2 ^ g)) := by
   rw [← Nat.mul_assoc, Bool.eq_iff_iff, beq_iff_eq, beq_iff_eq]
   exact Nat.mul_left_inj (Nat.pos_iff_ne_zero.1 hk)
 rw [e3, e4]
theorem lp : double.leastPlace = -1074 := rfl
theorem fb : ((double.fractionBits : Nat) : Int) = 52 := by kernel_rfl
theorem TY {s : Bool} {m k : Nat} {p : Int} : double.nearest s (m * 2 ^ k) (p - k) = double.nearest s m p := by
 by_cases hm : m = 0
 · subst hm; rw [Nat.zero_mul]; unfold Format.nearest; simp
 have iA : m * 2 ^ k ≠ 0 := Nat.mul_ne_zero hm (Nat.pos_iff_ne_zero.1 (Nat.pow_pos (by decide)))
 unfold Format.nearest
 rw [if_neg hm, if_neg iA, Mi hm, show p - (k : Int) + ((m.log2 + k : Nat) : Int) - ((double.fractionBits : Nat) : Int) = p + (m.log2 : Nat) - ((double.fractionBits : Nat) : Int) by omega]
 generalize max (p + (m.log2 : Nat) - ((double.fractionBits : Nat) : Int)) double.leastPlace = L
 have key : Toward.even.cut s ((m * 2 ^ k) <<< (p - k - L).toNat) (L - (p - k)).toNat = Toward.even.cut s (m <<< (p - L).toNat) (L - p).toNat := by
   by_cases h1 : L ≤ p
   · have e0 : (L - p).toNat = 0 := by omega
     rw [e0, No, Nat.shiftLeft_eq, Nat.shiftLeft_eq]
     by_cases h2 : L ≤ p - k
     · rw [show (L - (p - k)).toNat = 0 by omega, No, Nat.mul_assoc, ← Nat.pow_add]
       congr 2; omega
     · rw [show (p - k - L).toNat = 0 by omega, Nat.pow_zero, Nat.mul_one]
       have : m * 2 ^ k = m * 2 ^ (p - L).toNat * 2 ^ (L - (p - k)).toNat := by
         rw [Nat.mul_assoc, ← Nat.pow_add]
         congr 2; omega
       rw [this, gw (Nat.mul_ne_zero hm (Nat.pos_iff_ne_zero.1 (Nat.pow_pos (by decide))))]
   · rw [show (p - k - L).toNat = 0 by omega, show (p - L).toNat = 0 by omega, Nat.shiftLeft_zero, Nat.shiftLeft_zero, show (L - (p - k)).toNat = (L - p).toNat + k by omega, gx hm]
 dsimp only
 rw [key]
theorem bj {x : Nat} (hx : x < 18446744073709551616) (hn : (double.read x).isNaN = false) : double.write (double.read x) = x := by
 have e1 : double.signWeight = 9223372036854775808 := by kernel_rfl
 have e2 : double.binade = 4503599627370496 := by kernel_rfl
 have e3 : double.infRung = 9218868437227405312 := by kernel_rfl
 have hw : ∀ r, r = x % 9223372036854775808 → double.word (x / 9223372036854775808 % 2 == 1) r = x := fun r hr => by
   subst hr
   unfold Format.word
   rw [e1]
   split
   · rename_i h; rw [beq_iff_eq] at h; omega
   · rename_i h; rw [beq_iff_eq] at h; omega
 unfold Format.read at hn ⊢
 simp only [e1, e2, e3] at hn ⊢
 split
 · rename_i h1
   simp only [Format.write]
   unfold Format.nearest
   split
   · rename_i h0; exact hw 0 h0.symm
   · rename_i h0
     have hl : (x % 9223372036854775808).log2 < 52 := (Nat.log2_lt h0).2 (by omega)
     dsimp only
     rw [lp, fb, show max ((-1074 : Int) + ((x % 9223372036854775808).log2 : Nat) - 52) (-1074) = -1074 by omega]
     simp only [Int.sub_self, Int.toNat_zero, Nat.shiftLeft_zero, No, Nat.zero_mul, Nat.zero_add, e3]
     rw [Nat.min_eq_left (by omega)]
     exact hw _ rfl
 · split
   · rename_i h1 h2
     simp only [Format.write]
     unfold Format.nearest
     have hm : 4503599627370496 + x % 9223372036854775808 % 4503599627370496 ≠ 0 := by omega
     have hl : (4503599627370496 + x % 9223372036854775808 % 4503599627370496).log2 = 52 := by
       rw [Nat.log2_eq_iff hm]
       omega
     rw [if_neg hm, hl, lp, fb]
     dsimp only
     have hd : 1 ≤ x % 9223372036854775808 / 4503599627370496 := by omega
     rw [show max ((-1074 : Int) + ((x % 9223372036854775808 / 4503599627370496 - 1 : Nat) : Int) + ((52 : Nat) : Int) - 52) (-1074) = -1074 + ((x % 9223372036854775808 / 4503599627370496 - 1 : Nat) : Int) by omega]
     simp only [Int.sub_self, Int.toNat_zero, Nat.shiftLeft_zero, No, e2, e3]
     rw [show ((-1074 : Int) + ((x % 9223372036854775808 / 4503599627370496 - 1 : Nat) : Int) - -1074).toNat = x % 9223372036854775808 / 4503599627370496 - 1 by omega]
     refine hw _ ?_
     rw [Nat.min_eq_left (by omega)]
     omega
   · split
     · rename_i h1 h2 h3
       simp only [Format.write, e3]
       exact hw _ h3.symm
     · rename_i h1 h2 h3
       rw [if_neg h1, if_neg h2, if_neg h3] at hn
       simp [Datum.isNaN] at hn
theorem na {x : Nat} (hx : x < 18446744073709551616) (hn : (double.read x).isNaN = false) : double.mul x 4607182418800017408 = some x := by
 have h1 : double.read 4607182418800017408 = .number false (1 * 2 ^ 52) (0 - (52 : Nat)) := by kernel_rfl
 have hw := bj hx hn
 unfold Format.mul
 rw [h1]
 cases hd : double.read x with
 | nan s t => rw [hd] at hn; cases hn
 | infinity s =>
   rw [hd] at hw
   simp only [Datum.product, Option.map_some, Bool.xor_false]
   rw [if_neg (by decide), Option.map_some, hw]
 | number s m i =>
   rw [hd] at hw
   simp only [Datum.product, Option.map_some, Bool.xor_false, Format.write] at hw ⊢
   rw [Nat.one_mul, show i + ((0 : Int) - ((52 : Nat) : Int)) = i - ((52 : Nat) : Int) by omega, TY, hw]
end TwW
end
section
namespace TwW
open Go Tw
def oU (l : List Int) : Prop := ∀ x ∈ l, 0 ≤ x ∧ x < 256
theorem Np {l : List Int} (h : oU l) : (l.map fun x => UInt8.ofNat x.toNat).map (fun b => (b.toNat : Int)) = l := by
 rw [List.map_map]
 conv => rhs; rw [← List.map_id l]
 refine List.map_congr_left fun x hx => ?_
 have := h x hx
 simp only [Function.comp, id, UInt8.toNat_ofNat']
 omega
theorem str_inj {l m : List Int} (hl : oU l) (hm : oU m) (h : strOfNums l = strOfNums m) : l = m := by
 rw [← Np hl, ← Np hm, SG, SG] at h
 have := congrArg (fun b : ByteArray => b.data.toList) h
 rw [← Np hl, ← Np hm]
 exact congrArg _ this
theorem bk : ∀ n : Nat, oU (uv n) := by
 intro n
 induction n using Nat.strongRecOn with
 | _ n ih =>
   by_cases h : 128 ≤ n
   · rw [MW h]
     intro x hx
     rcases List.mem_cons.1 hx with rfl | hx
     · omega
     · exact ih _ (by omega) x hx
   · rw [Ep h]
     intro x hx
     rw [List.mem_singleton] at hx; omega
theorem eJ (s : ByteArray) : oU (ZE s) := fun x hx => by
 obtain ⟨u, _, rfl⟩ := List.mem_map.1 hx
 have := u.toNat_lt; omega
theorem oU.app {l m : List Int} (h : oU l) (g : oU m) : oU (l ++ m) := fun x hx => by
 rcases List.mem_append.1 hx with hx | hx
 · exact h x hx
 · exact g x hx
theorem Yu (ls : List Lb) : oU (fW ls) := by
 unfold fW
 refine (bk _).app fun x hx => ?_
 obtain ⟨y, _, hy⟩ := List.mem_flatMap.1 hx
 exact (((bk _).app (eJ _)).app ((bk _).app (eJ _))) x hy
theorem Yv : ∀ {a b : List Lb}, a.length = b.length → a.flatMap Lv = b.flatMap Lv → a = b
 | [], [], _, _ => rfl
 | [], _ :: _, h, _ => by simp at h
 | _ :: _, [], h, _ => by simp at h
 | x :: a, y :: b, hl, h => by
   rw [List.flatMap_cons, List.flatMap_cons, show Lv x = uv x.1.size ++ ZE x.1 ++ (uv x.2.size ++ ZE x.2) from rfl, show Lv y = uv y.1.size ++ ZE y.1 ++ (uv y.2.size ++ ZE y.2) from rfl] at h
   simp only [List.append_assoc] at h
   obtain ⟨h1, h⟩ := aX _ _ _ _ h
   obtain ⟨h2, h⟩ := List.append_inj h (by rw [LJ, LJ]; exact h1)
   obtain ⟨h3, h⟩ := aX _ _ _ _ h
   obtain ⟨h4, h⟩ := List.append_inj h (by rw [LJ, LJ]; exact h3)
   have e : x = y := Prod.ext (dQ h2) (dQ h4)
   rw [e, Yv (by simpa using hl) h]
theorem nc {a b : List Lb} (h : FK a = FK b) : a = b := by
 have := str_inj (Yu a) (Yu b) h
 unfold fW at this
 obtain ⟨h1, h2⟩ := aX _ _ _ _ this
 exact Yv h1 h2
theorem Yw {ls : List Lb} {v : Int} : ∀ {gs : List Rg}, (∀ g ∈ gs, g.ls ≠ ls) → FL ls v gs = gs ++ [⟨ls, [v]⟩]
 | [], _ => rfl
 | g :: gs, h => by
   unfold FL
   rw [if_neg (fun e => h g (List.mem_cons_self ..) (nc e)), Yw fun x hx => h x (List.mem_cons_of_mem _ hx)]
   rfl
theorem Yx {k : List Lb → List Lb} : ∀ {L : List El} {gs : List Rg}, L.Pairwise (fun a b => k a.ls ≠ k b.ls) → (∀ g ∈ gs, ∀ x ∈ L, g.ls ≠ k x.ls) → L.foldl (fun gs x => FL (k x.ls) x.v gs) gs = gs ++ L.map fun x => ⟨k x.ls, [x.v]⟩
 | [], gs, _, _ => by simp
 | x :: L, gs, h, hg => by
   obtain ⟨h1, h2⟩ := List.pairwise_cons.1 h
   rw [List.foldl_cons, Yw fun g u6 => hg g u6 x (List.mem_cons_self ..), Yx h2 (fun g u6 y hy => ?_), List.map_cons, List.append_assoc]
   · rfl
   · rcases List.mem_append.1 u6 with u6 | u6
     · exact hg g u6 y (List.mem_cons_of_mem _ hy)
     · rw [List.mem_singleton] at u6
       subst u6
       exact h1 y hy
theorem bm {n : Nd} {L : List El} (h : L.Pairwise fun a b => A3 n a.ls ≠ A3 n b.ls) : Kj FF n ⟨2, 0, L, []⟩ = L.map fun x => ⟨A3 n x.ls, foldI n.op [x.v]⟩ := by
 unfold Kj
 rw [Yx (k := A3 n) h (fun g hg => by cases hg), List.nil_append, List.map_map]
 rfl
theorem Nq {α β : Type} {f g : β → α → β} : ∀ {L : List α} {b : β}, (∀ x ∈ L, ∀ b, f b x = g b x) → L.foldl f b = L.foldl g b
 | [], _, _ => rfl
 | x :: L, b, h => by rw [List.foldl_cons, List.foldl_cons, h x (List.mem_cons_self ..), Nq fun y hy => h y (List.mem_cons_of_mem _ hy)]
theorem Oj {n m : Nd} {L : List El} (IJ : n.op = m.op) (h : ∀ x ∈ L, A3 n x.ls = A3 m x.ls) : Kj FF n ⟨2, 0, L, []⟩ = Kj FF m ⟨2, 0, L, []⟩ := by
 unfold Kj
 rw [IJ, Nq (f := fun gs (x : El) => FL (A3 n x.ls) x.v gs) (g := fun gs (x : El) => FL (A3 m x.ls) x.v gs) fun x hx b => by rw [h x hx]]
theorem ng {w : ByteArray} {ss : List Sr} {t : Int} {e : El} (h : e ∈ A0 FF (Az w) ss t) : ∃ s ∈ ss, s.ls = e.ls ∧ Dl e.ls CJ = w ∧ ∃ p ∈ s.ps, p.2 = e.v := by
 obtain ⟨s, hs, h1⟩ := List.mem_filterMap.1 h
 split at h1
 · cases h1
 · rename_i p hl
   split at h1
   · cases h1
   · rename_i hn
     simp only [Option.some.injEq] at h1
     subst h1
     refine ⟨s, hs, rfl, ?_, p, (List.mem_filter.1 (List.mem_of_getLast? hl)).1, rfl⟩
     simp only [not_or, Bool.not_eq_false] at hn
     have h2 : JN [⟨1, CJ, w⟩] s.ls = true := hn.2
     unfold JN at h2
     simp only [List.all_cons, List.all_nil, Bool.and_true] at h2
     unfold NN at h2
     simp only [if_true, decide_eq_true_eq] at h2
     exact h2
theorem zt {w : ByteArray} {T : List Nd} {st : List Int} (hw : w.size ≤ 256) : DX (Az w :: T) st = DX T (st ++ [2]) := by
 have hf : E9 (Az w) = true := by kernel_rfl
 have hm : Gv Db (Az w).mt = 0 := by
   show Gv Db [⟨1, CJ, w⟩] = 0
   unfold Gv
   simp only [List.length_singleton, List.all_cons, List.all_nil, Bool.and_true]
   rw [if_neg (by decide), if_pos]
   rw [show Db CJ = true by decide, decide_eq_true hw]; rfl
 have hs : BM (Az w) st = (0, st ++ [2]) := by
   unfold BM
   rw [if_neg (by rw [hf]; simp [Az]), if_neg (by rw [hm]; decide)]
   simp [Az, Nv]
 rw [DX, hs]
 rfl
theorem eM {w : ByteArray} {ss : List Sr} {t : Int} {T : List Nd} {st : List Vv} : Iw FF ss t (Az w :: T) st = Iw FF ss t T (st ++ [⟨2, 0, A0 FF (Az w) ss t, []⟩]) := by
 rw [Iw]
 have : EH FF ss t (Az w) (st.drop (st.length - (Az w).parts.toNat)) = some ⟨2, 0, A0 FF (Az w) ss t, []⟩ := by
   unfold EH; rfl
 rw [this, Option.bind_some, show (Az w).parts.toNat = 0 from rfl, Nat.sub_zero, List.take_length]
theorem inst_congr {T U : List Nd} {ss : List Sr} {t : Int} (h1 : G8 T = G8 U) (h2 : BC FF T ss t = BC FF U ss t) : instF T ss t = instF U ss t := by
 unfold instF Es
 rw [h1, h2]
theorem inst_ok {T : List Nd} {ss : List Sr} {t : Int} (h : (instF T ss t).1 = 0) : He none ss = true ∧ BC FF T ss t = some (instF T ss t).2 := by
 unfold instF at h ⊢
 by_cases h0 : Es T ss ≠ 0
 · rw [if_pos h0] at h; exact absurd h h0
 rw [if_neg h0] at h ⊢
 by_cases ht : ¬ (-1099511627776 ≤ t ∧ t ≤ 1099511627776)
 · rw [if_pos ht] at h; exact absurd h (by decide)
 rw [if_neg ht] at h ⊢
 have Di : He none ss = true := by
   have h0 := Decidable.not_not.1 h0
   unfold Es at h0
   cases hq : G8 T with
   | none => rw [hq] at h0; dsimp only at h0; exact absurd h0 (by decide)
   | some k =>
     rw [hq] at h0
     dsimp only at h0
     by_cases h3 : k = 3
     · rw [if_pos h3] at h0; exact absurd h0 (by decide)
     · rw [if_neg h3] at h0
       cases ho : He none ss with
       | true => rfl
       | false => rw [ho] at h0; exact absurd h0 (by decide)
 cases hm : BC FF T ss t with
 | none => rw [hm] at h; exact absurd h (by decide)
 | some l => exact ⟨Di, rfl⟩
theorem HQ {w : ByteArray} {ss : List Sr} {t : Int} {op : Nat} {g : Int} {ns : List ByteArray} : BC FF [Az w, BW op g ns] ss t = Cp FF (Kj FF (BW op g ns) ⟨2, 0, A0 FF (Az w) ss t, []⟩) := by
 unfold BC
 rw [eM, List.nil_append, Iw]
 have : EH FF ss t (BW op g ns) ([(⟨2, 0, A0 FF (Az w) ss t, []⟩ : Vv)].drop (1 - (BW op g ns).parts.toNat)) = (Cp FF (Kj FF (BW op g ns) ⟨2, 0, A0 FF (Az w) ss t, []⟩)).map fun l => ⟨2, 0, l, []⟩ := by
   unfold EH; rfl
 show (Option.bind ((EH FF ss t (BW op g ns) ([(⟨2, 0, A0 FF (Az w) ss t, []⟩ : Vv)].drop (1 - (BW op g ns).parts.toNat))).bind _) _) = _
 rw [this]
 cases Cp FF (Kj FF (BW op g ns) ⟨2, 0, A0 FF (Az w) ss t, []⟩) <;> rfl
end TwW
end
section
namespace TwW
open Go Tw Go.RowKit Go.Proofs.Tryz
section
variable {σ σ' : Hp} {R : Rr} {p : Option Addr} {n c : Nat} {ss : List Sr}
set_option maxRecDepth 100000 in
theorem AGK {x y : Operand} {a b a' b' : ByteArray} : YF prog (do eqGuard .neq 56 x y (.agg #[.string a, .string b]) (.agg #[.string a', .string b']); binOp .neq 56 (.agg #[.string a, .string b]) (.agg #[.string a', .string b'])) σ (.bool (!(a.toList == a'.toList && b.toList == b'.toList))) := fun w _ => by
 have u9 := underlying9
 have hS : prog.underlying 56 = some (.struct (prog.fieldsOf 56)) := by kernel_rfl
 have hp : prog.stoodInHeld 56 = false := by kernel_rfl
 have hf : (prog.fieldsOf 56).toList = [{ name := "Name", type := 9, offset := 0, embedded := false, tag := "", pkgPath := "", byteOffset := 0 }, { name := "Value", type := 9, offset := 1, embedded := false, tag := "", pkgPath := "", byteOffset := 16 }] := by kernel_rfl
 simp only [Sem.run_bind, run_eqGuard_agg _ _ _ _ _ _ _ (show prog.eqGuardType prog.depth 56 = false by kernel_rfl), Result.andThen_ok, run_neq_struct]
 rw [show (10000 : Nat) = 9999 + 1 from rfl, run_equalIn_agg w 9999 56 _ _ hS hp, hf]
 simp only [Op.eqFields]
 go_simp
 by_cases h1 : a.toList = a'.toList <;> by_cases h2 : b.toList = b'.toList <;> simp [h1, h2]
theorem bn {p p' : Option Addr} {n n' c c' : Nat} {ls : List Lb} (h1 : FV σ p n ls) (h2 : FV σ p' n' ls) (hR : R (.returned (.bool true)) σ) : Spec prog 41 #[.slice p n c, .slice p' n' c'] σ R := by
 have e1 : ls.length = n := h1.1
 have e2 : ls.length = n' := h2.1
 refine CW.start ⟨fun A4 => absurd (by omega) A4, fun _ => ?_⟩
 suffices H : ∀ d i : Nat, n - i = d → i ≤ n → CW.DG R p n c p' n' c' i σ from H n 0 rfl (Nat.zero_le _)
 intro d
 induction d with
 | zero => exact fun i hd hi => CW.Cs ⟨fun Au => by omega, fun _ => hR⟩
 | succ d ih =>
   intro i hd hi
   obtain ⟨x, hx⟩ := h1.ex (show i < n by omega)
   obtain ⟨b, o, rfl, l1⟩ := FV.at h1 hx
   obtain ⟨b', o', rfl, l2⟩ := FV.at h2 hx
   exact CW.Cs ⟨fun _ => ⟨b, o, rfl, by omega, x.1, x.2, by simpa using l1, b', o', rfl, by omega, x.1, x.2, by simpa using l2, _, AGK, fun hh => by simp at hh, fun _ => ⟨AL (by omega) h1.big, ih (i + 1) (by omega) (by omega)⟩⟩, fun hh => by omega⟩
theorem I6 {q : Option Addr} {m d : Nat} (h1 : Af 2 EP σ p n ss) (h2 : Af 2 EP σ q m ss) (hR : R (.returned (.bool true)) σ) : Spec prog 18 #[.slice p n c, .slice q m d] σ R := by
 have e1 : ss.length = n := h1.1
 have e2 : ss.length = m := h2.1
 refine CX.start ⟨fun A4 => absurd (by omega) A4, fun _ => ?_⟩
 suffices H : ∀ d' i : Nat, n - i = d' → i ≤ n → CX.DG R p n c q m d i σ from H n 0 rfl (Nat.zero_le _)
 intro d'
 induction d' with
 | zero => exact fun i hd hi => CX.Cs ⟨fun Au => by omega, fun _ => hR⟩
 | succ d' ih =>
   intro i hd hi
   obtain ⟨x, hx⟩ := h1.ex (show i < n by omega)
   obtain ⟨b, o, p1, k1, c1, q1, m1, d1, rfl, l1, AML, AMM, _⟩ := EP.at h1 hx
   obtain ⟨b', o', p2, k2, c2, q2, m2, d2, rfl, l2, AMN, AMO, _⟩ := EP.at h2 hx
   exact CX.Cs ⟨fun _ => ⟨b, o, rfl, by omega, p1, k1, c1, by simpa using l1.1, b', o', rfl, by omega, p2, k2, c2, by simpa using l2.1, bn AML AMN ⟨_, rfl, fun hh => (by cases hh), fun _ => ⟨by omega, q1, m1, d1, by simpa using l1.2.1, by omega, q2, m2, d2, by simpa using l2.2.1, PT AMM AMO ⟨_, rfl, fun hh => (by cases hh), fun _ => ⟨AL (by omega) h1.big, ih (i + 1) (by omega) (by omega)⟩⟩⟩⟩⟩, fun hh => by omega⟩
theorem inst_err {T : List Nd} {t : Int} (h : (instF T ss t).1 ≠ 0) : (instF T ss t).2 = [] := by
 unfold instF at h ⊢
 split at h
 · rename_i h0; rw [if_pos h0]
 · rename_i h0
   rw [if_neg h0]
   split at h
   · rename_i h1; rw [if_pos h1]
   · rename_i h1
     rw [if_neg h1]
     split at h
     · rfl
     · exact absurd rfl h
abbrev ry (T : List Nd) (ss : List Sr) (t : Int) : List Sr := (instF T ss t).2.map fun e => ⟨e.ls, [(t, e.v)]⟩
theorem Yy {T : List Nd} (h : Modest [] ss) (hl : T.length ≤ 100) (ht : (T.all fun x => decide (x.text.size ≤ 100)) = true) : Modest T ss :=
 ⟨by omega, fun x hx => by have := of_decide_eq_true (List.all_eq_true.1 ht x hx); omega, h.s, h.ps, h.nn⟩
theorem Gc {s : ByteArray} {ts : List Cl} {T : List Nd} {cl : Cl} {t : Int} (hg : Gl σ) (hs : Af 2 EP σ p n ss) (hS : SOk ss) (hM : Modest [] ss) (hl : Lx s.data.toList ts) (Hf : s.size ≤ 4096) (hz : pz 60 0 0 ts = some ([cl], T)) (hk : cl.kind = 0) (hn : decide (ts.length ≤ 100000) = true) (hT : decide (T.length ≤ 100) = true) (ht : (T.all fun x => decide (x.text.size ≤ 100)) = true)
   (h : ∀ (σ' : Hp) (p' : Option Addr) (n' c' : Nat), Af 2 EP σ' p' n' (ry T ss t) → Ext σ σ' → R (.returned (.tuple #[.slice p' n' c', .int .i64 (instF T ss t).1])) σ') :
   Spec prog 20 #[.string s, .slice p n c, .int .i64 t] σ R :=
 nZ hg hs hS (Yy hM (of_decide_eq_true hT) ht) (Nat.le_trans (of_decide_eq_true hT) (by decide)) hl Hf (of_decide_eq_true hn) hz hk (fun σ' p' n' c' h0 hr hx => by rw [← h0]; exact h σ' p' n' c' hr hx) fun σ' A4 hx => h σ' none 0 0 (by unfold ry; rw [inst_err A4]; exact Af.nil) hx
end
theorem DC (a b : ByteArray) : (a ++ b).data.toList = a.data.toList ++ b.data.toList := by rw [ByteArray.data_append, Array.toList_append]
theorem zu {c u : UInt8} (h : (c == 61 || c == 33 || c == 60 || c == 62) = false) : CO (bA [c, u]) Nl = false := by
 rw [Bool.eq_false_iff, ne_eq, A7]
 intro hm
 simp only [Bool.or_eq_false_iff, beq_eq_false_iff_ne] at h
 have key : ∀ x ∈ Nl, ∀ c u, x = bA [c, u] → c = 61 ∨ c = 33 ∨ c = 60 ∨ c = 62 := by
   intro x hx c u e
   have e0 := congrArg (fun y : ByteArray => y.data.toList[0]?) e
   simp only [Nl, List.mem_cons, List.not_mem_nil, or_false] at hx
   rcases hx with rfl | rfl | rfl | rfl | rfl | rfl <;> (simp [bA] at e0; simp [← e0])
 rcases key _ hm c u rfl with e | e | e | e
 · exact h.1.1.1 e
 · exact h.1.1.2 e
 · exact h.1.2 e
 · exact h.2 e
theorem Lx.sg {c : UInt8} {l : List UInt8} {ts : List Cl} (h1 : c ∈ nU) (h2 : (c == 61 || c == 33 || c == 60 || c == 62) = false) (h : Lx l ts) : Lx (c :: l) (Bs 5 (bA [c]) 0 :: ts) := Lx.one h1 (fun u _ => zu h2) h
theorem CP {c : UInt8} {l : List UInt8} (h : Mh c = false) : ∀ u, (c :: l).head? = some u → Mh u = false := fun u hu => by cases hu; exact h
theorem rz {f : UInt8 → Bool} : ∀ u, ([] : List UInt8).head? = some u → f u = false := fun u hu => by cases hu
end TwW
end
section
namespace TwW
open Go Tw
def kA : ByteArray := ⟨#[97]⟩
def kB : ByteArray := ⟨#[98]⟩
abbrev nh : Int := 4607182418800017408
theorem r8 : Li ⟨#[49]⟩ = nh := by kernel_rfl
theorem r9 {v : Int} (h0 : 0 ≤ v) (h1 : v < 18446744073709551616) : PJ 3 v nh = YB v := by
 obtain ⟨x, rfl⟩ := Int.eq_ofNat_of_zero_le h0
 unfold PJ YB
 rw [show nh.toNat = 4607182418800017408 from rfl, Int.toNat_natCast]
 congr 1
 unfold V8
 rw [show fAr 3 x 4607182418800017408 = Ieee.double.mul x 4607182418800017408 from rfl]
 cases hn : Kk x with
 | false =>
   rw [LN] at hn
   rw [na (by omega) hn]
   rfl
 | true =>
   have ht : toF x = 9221120237041090560 := by unfold toF; rw [hn]; rfl
   rw [ht]
   rw [LN] at hn
   have : Ieee.double.mul x 4607182418800017408 = none := by
     unfold Ieee.Format.mul
     cases hd : Ieee.double.read x with
     | nan s k => rfl
     | infinity s => rw [hd] at hn; cases hn
     | number s m i => rw [hd] at hn; cases hn
   rw [this]; rfl
theorem sB {w s : ByteArray} {ss : List Sr} {t : Int} {op : Nat} {b : Bool} : BC FF [Az w, Sz s, Kr op b] ss t = Cp FF (OS (Kr op b) (A0 FF (Az w) ss t) fun v => Fq op v (Li s)) := by
 unfold BC
 rw [eM, List.nil_append, Iw]
 have e1 : EH FF ss t (Sz s) ([(⟨2, 0, A0 FF (Az w) ss t, []⟩ : Vv)].drop (1 - (Sz s).parts.toNat)) = some ⟨1, Li s, [], []⟩ := by unfold EH; rfl
 show (Option.bind ((EH FF ss t (Sz s) ([(⟨2, 0, A0 FF (Az w) ss t, []⟩ : Vv)].drop (1 - (Sz s).parts.toNat))).bind _) _) = _
 rw [e1, Option.bind_some]
 show (Option.bind (Iw FF ss t [Kr op b] [⟨2, 0, A0 FF (Az w) ss t, []⟩, ⟨1, Li s, [], []⟩]) _) = _
 rw [Iw]
 have e2 : EH FF ss t (Kr op b) ([(⟨2, 0, A0 FF (Az w) ss t, []⟩ : Vv), ⟨1, Li s, [], []⟩].drop (2 - (Kr op b).parts.toNat)) = (Cp FF (OS (Kr op b) (A0 FF (Az w) ss t) fun v => Fq op v (Li s))).map fun l => ⟨2, 0, l, []⟩ := by
   unfold EH l5; rfl
 show (Option.bind ((EH FF ss t (Kr op b) ([(⟨2, 0, A0 FF (Az w) ss t, []⟩ : Vv), ⟨1, Li s, [], []⟩].drop (2 - (Kr op b).parts.toNat))).bind _) _) = _
 rw [e2]
 cases Cp FF (OS (Kr op b) (A0 FF (Az w) ss t) fun v => Fq op v (Li s)) <;> rfl
theorem sC {op : Nat} {L : List El} {f : Int → Int × Bool} (h : Er op = false) : OS (Kr op false) L f = L.map fun x => ⟨BJ x.ls, (f x.v).1⟩ := by
 unfold OS
 rw [show Er (Kr op false).op = false from h]
 simp only [true_or, if_true]
 show List.filterMap (some ∘ fun x : El => (⟨BJ x.ls, (f x.v).1⟩ : El)) L = _
 rw [List.filterMap_eq_map]
theorem ni {L : List El} {f : El → El} (h : (L.map f).Pairwise fun a b => FF.cmpL a.ls b.ls ≠ 0) : L.Pairwise fun a b => (f a).ls ≠ (f b).ls :=
 (List.pairwise_map.1 h).imp fun S9 e => S9 ((Ax.eq _ _).2 e)
theorem gy {l m : List El} (h : Cp FF l = some m) : l.Pairwise fun a b => FF.cmpL a.ls b.ls ≠ 0 := by
 unfold Cp at h
 split at h
 · assumption
 · cases h
def zv (ls : List Lb) : Prop := ∀ x ∈ ls, x.1 = CJ ∨ x.1 = kA ∨ x.1 = kB
theorem eO {op : Nat} {ls : List Lb} : A3 (BW op 1 []) ls = [] := by
 show PF [] ls = []
 exact List.filter_eq_nil_iff.2 fun x _ => by simp [CO]
theorem sD {op : Nat} {ls : List Lb} (h : zv ls) : A3 (BW op 2 [kA, kB]) ls = [] := by
 show BJ (NL [kA, kB] ls) = []
 unfold BJ NL
 rw [List.filter_filter]
 refine List.filter_eq_nil_iff.2 fun x hx => ?_
 rcases h x hx with e | e | e <;> simp [CO, e]
theorem Vy {op : Nat} {ls : List Lb} (h : zv ls) : A3 (BW op 1 [kA, kB]) ls = BJ ls := by
 show PF [kA, kB] ls = BJ ls
 unfold PF BJ
 refine List.filter_congr fun x hx => ?_
 have n1 : kA ≠ CJ := by decide
 have n2 : kB ≠ CJ := by decide
 rcases h x hx with e | e | e
 · simp [CO, e, n1.symm, n2.symm]
 · simp [CO, e, n1]
 · simp [CO, e, n2]
theorem zw {op : Nat} {ls : List Lb} : A3 (BW op 2 []) ls = BJ ls := by
 show BJ (NL [] ls) = BJ ls
 unfold NL
 rw [List.filter_eq_self.2 fun x _ => by simp [CO]]
theorem S5 {w : ByteArray} {op : Nat} {g : Int} {ns : List ByteArray} (hw : w.size ≤ 256) (h : DX [BW op g ns] [2] = some [2]) : G8 [Az w, BW op g ns] = some 2 := by
 unfold G8
 rw [zt hw, List.nil_append, h]
 rfl
theorem eP {ls : List Lb} {v : Int} : ∀ {gs : List Rg}, (gs.map (·.ls)).Nodup → ((FL ls v gs).map (·.ls)).Nodup ∧ ∀ k ∈ (FL ls v gs).map (·.ls), k = ls ∨ k ∈ gs.map (·.ls)
 | [], _ => ⟨by simp [FL], fun k hk => by simpa [FL] using hk⟩
 | g :: gs, h => by
   rw [List.map_cons, List.nodup_cons] at h
   unfold FL
   split
   · exact ⟨by simpa using h, fun k hk => .inr hk⟩
   · rename_i A4
     obtain ⟨h1, h2⟩ := eP (ls := ls) (v := v) h.2
     refine ⟨?_, fun k hk => ?_⟩
     · rw [List.map_cons, List.nodup_cons]
       refine ⟨fun hm => ?_, h1⟩
       rcases h2 _ hm with e | e
       · exact A4 (congrArg FK e)
       · exact h.1 e
     · rw [List.map_cons] at hk ⊢
       rcases List.mem_cons.1 hk with rfl | hk
       · exact .inr (List.mem_cons_self ..)
       · rcases h2 k hk with e | e
         · exact .inl e
         · exact .inr (List.mem_cons_of_mem _ e)
theorem Yz {k : List Lb → List Lb} : ∀ {L : List El} {gs : List Rg}, (gs.map (·.ls)).Nodup → ((L.foldl (fun gs x => FL (k x.ls) x.v gs) gs).map (·.ls)).Nodup
 | [], _, h => h
 | x :: L, gs, h => by
   rw [List.foldl_cons]
   exact Yz (eP h).1
theorem nj {n : Nd} {p : Vv} : ∃ m, Cp FF (Kj FF n p) = some m := by
 refine ⟨dT FF (Kj FF n p), ?_⟩
 unfold Cp
 rw [if_pos]
 unfold Kj
 rw [List.pairwise_map]
 have h := Yz (k := A3 n) (L := p.vec) (gs := []) List.nodup_nil
 rw [List.Nodup, List.pairwise_map] at h
 exact h.imp fun S9 e => S9 ((Ax.eq _ _).1 e)
theorem Y0 {w : ByteArray} {ss : List Sr} {t : Int} {op : Nat} {g : Int} {ns : List ByteArray} (h : G8 [Az w, BW op g ns] = some 2) : (instF [Az w, BW op g ns] ss t).1 = if He none ss = true then (if ¬ (-1099511627776 ≤ t ∧ t ≤ 1099511627776) then 221 else 0) else 224 := by
 obtain ⟨m, hm⟩ := nj (n := BW op g ns) (p := ⟨2, 0, A0 FF (Az w) ss t, []⟩)
 have ha : Es [Az w, BW op g ns] ss = if He none ss = true then 0 else 224 := by
   unfold Es; rw [h]; rfl
 unfold instF
 rw [ha, HQ, hm]
 by_cases ho : He none ss = true
 · rw [if_pos ho, if_neg (by decide), if_pos ho]
   by_cases ht : -1099511627776 ≤ t ∧ t ≤ 1099511627776
   · rw [if_neg (not_not_intro ht), if_neg (not_not_intro ht)]
   · rw [if_pos ht, if_pos ht]
 · rw [if_neg ho, if_pos (by decide), if_neg ho]
theorem bo {w : ByteArray} {ss : List Sr} {t : Int} (hw : w.size ≤ 256) (hl : ∀ s ∈ ss, zv s.ls) (hv : ∀ s ∈ ss, ∀ p ∈ s.ps, 0 ≤ p.2 ∧ p.2 < 18446744073709551616) :
   instF [Az w, BW 1 0 []] ss t = instF [Az w, BW 1 1 []] ss t ∧ instF [Az w, BW 1 1 []] ss t = instF [Az w, BW 1 2 [kA, kB]] ss t ∧ instF [Az w, BW 3 1 [kA, kB]] ss t = instF [Az w, BW 3 2 []] ss t ∧ (instF [Az w, BW 1 0 []] ss t).1 = (instF [Az w, BW 3 1 [kA, kB]] ss t).1 ∧
     ((instF [Az w, BW 3 1 [kA, kB]] ss t).1 = 0 → (instF [Az w, Sz ⟨#[49]⟩, Kr 3 false] ss t).1 = 0 → (instF [Az w, BW 3 1 [kA, kB]] ss t).2 = (instF [Az w, Sz ⟨#[49]⟩, Kr 3 false] ss t).2) := by
 have S9 : ∀ e ∈ A0 FF (Az w) ss t, zv e.ls := fun e he => by
   obtain ⟨s, hs, h1, _⟩ := ng he
   rw [← h1]; exact hl s hs
 have y1 : G8 [Az w, BW 1 0 []] = some 2 := S5 hw (by kernel_rfl)
 have y2 : G8 [Az w, BW 1 1 []] = some 2 := S5 hw (by kernel_rfl)
 have y3 : G8 [Az w, BW 1 2 [kA, kB]] = some 2 := S5 hw (by kernel_rfl)
 have y4 : G8 [Az w, BW 3 1 [kA, kB]] = some 2 := S5 hw (by kernel_rfl)
 have y5 : G8 [Az w, BW 3 2 []] = some 2 := S5 hw (by kernel_rfl)
 refine ⟨inst_congr (y1.trans y2.symm) ?_, inst_congr (y2.trans y3.symm) ?_, inst_congr (y4.trans y5.symm) ?_, ?_, fun h4 h6 => ?_⟩
 · rw [HQ, HQ]
   congr 1
   exact Oj rfl fun x hx => by rw [eO]; rfl
 · rw [HQ, HQ]
   congr 1
   exact Oj rfl fun x hx => by rw [eO, sD (S9 x hx)]
 · rw [HQ, HQ]
   congr 1
   exact Oj rfl fun x hx => by rw [Vy (S9 x hx), zw]
 · rw [Y0 y1, Y0 y4]
 · obtain ⟨Di, m4⟩ := inst_ok h4
   obtain ⟨_, m6⟩ := inst_ok h6
   rw [HQ] at m4
   rw [sB, sC (by decide)] at m6
   have hp := ni (f := fun x => ⟨BJ x.ls, (Fq (3 : Nat) x.v (Li ⟨#[49]⟩)).1⟩) (gy m6)
   have hpg : (A0 FF (Az w) ss t).Pairwise fun a b => A3 (BW 3 1 [kA, kB]) a.ls ≠ A3 (BW 3 1 [kA, kB]) b.ls := by
     refine (List.Pairwise.and_mem.1 hp).imp fun {a b} hh => ?_
     rw [Vy (S9 a hh.1), Vy (S9 b hh.2.1)]
     exact hh.2.2
   rw [bm hpg] at m4
   have e : (A0 FF (Az w) ss t).map (fun x => (⟨A3 (BW 3 1 [kA, kB]) x.ls, foldI (BW 3 1 [kA, kB]).op [x.v]⟩ : El)) = (A0 FF (Az w) ss t).map fun x => ⟨BJ x.ls, (Fq (3 : Nat) x.v (Li ⟨#[49]⟩)).1⟩ := by
     refine List.map_congr_left fun x hx => ?_
     obtain ⟨s, hs, _, _, p, hp, hpv⟩ := ng hx
     have hr := hv s hs p hp
     rw [Vy (S9 x hx), r8]
     have e1 : foldI (BW 3 1 [kA, kB]).op [x.v] = YB x.v := rfl
     have e2 : (Fq (3 : Nat) x.v nh).1 = PJ 3 x.v nh := rfl
     rw [e1, e2, ← hpv, r9 hr.1 hr.2]
   rw [e, m6] at m4
   exact (Option.some.inj m4).symm
end TwW
end
section
namespace TwW
open Go Tw Go.RowKit Go.Proofs.Tryz
section
variable {σ : Hp} {R : Rr} {p : Option Addr} {n c : Nat} {ss : List Sr} {t : Int} {s : ByteArray}
abbrev JT : Cl := Bs 0 ⟨#[]⟩ 0
theorem gx1 (hp : Pz s = true) : Lx ((((ByteArray.mk #[115, 117, 109, 40]) ++ s) ++ (ByteArray.mk #[41]))).data.toList [Bs 3 (bA [115, 117, 109]) 0, Bs 5 (bA [40]) 0, Gx s, Bs 5 (bA [41]) 0, JT] := by
 rw [DC, DC]
 show Lx ([115, 117, 109] ++ (40 :: (s.data.toList ++ [41]))) _
 exact Lx.kw _ (by decide) (CP (by decide)) (Lx.sg (by decide) (by decide) (Lx.w hp (CP (by decide)) (Lx.sg (by decide) (by decide) Lx.fin)))
theorem gz1 : pz 60 0 0 [Bs 3 (bA [115, 117, 109]) 0, Bs 5 (bA [40]) 0, Gx s, Bs 5 (bA [41]) 0, JT] = some ([JT], [Az s, BW 1 0 []]) := by kernel_rfl
theorem gx2 (hp : Pz s = true) : Lx ((((ByteArray.mk #[115, 117, 109, 32, 98, 121, 32, 40, 41, 32, 40]) ++ s) ++ (ByteArray.mk #[41]))).data.toList [Bs 3 (bA [115, 117, 109]) 0, Bs 3 (bA [98, 121]) 0, Bs 5 (bA [40]) 0, Bs 5 (bA [41]) 0, Bs 5 (bA [40]) 0, Gx s, Bs 5 (bA [41]) 0, JT] := by
 rw [DC, DC]
 show Lx ([115, 117, 109] ++ (32 :: ([98, 121] ++ (32 :: 40 :: 41 :: 32 :: 40 :: (s.data.toList ++ [41]))))) _
 exact Lx.kw _ (by decide) (CP (by decide)) (Lx.sp (Lx.kw _ (by decide) (CP (by decide)) (Lx.sp (Lx.sg (by decide) (by decide) (Lx.sg (by decide) (by decide) (Lx.sp (Lx.sg (by decide) (by decide) (Lx.w hp (CP (by decide)) (Lx.sg (by decide) (by decide) Lx.fin)))))))))
theorem gz2 : pz 60 0 0 [Bs 3 (bA [115, 117, 109]) 0, Bs 3 (bA [98, 121]) 0, Bs 5 (bA [40]) 0, Bs 5 (bA [41]) 0, Bs 5 (bA [40]) 0, Gx s, Bs 5 (bA [41]) 0, JT] = some ([JT], [Az s, BW 1 1 []]) := by kernel_rfl
theorem gx3 (hp : Pz s = true) : Lx ((((ByteArray.mk #[115, 117, 109, 32, 119, 105, 116, 104, 111, 117, 116, 32, 40, 97, 44, 32, 98, 41, 32, 40]) ++ s) ++ (ByteArray.mk #[41]))).data.toList [Bs 3 (bA [115, 117, 109]) 0, Bs 3 (bA [119, 105, 116, 104, 111, 117, 116]) 0, Bs 5 (bA [40]) 0, Bs 3 (bA [97]) 0, Bs 5 (bA [44]) 0, Bs 3 (bA [98]) 0, Bs 5 (bA [41]) 0, Bs 5 (bA [40]) 0, Gx s, Bs 5 (bA [41]) 0, JT] := by
 rw [DC, DC]
 show Lx ([115, 117, 109] ++ (32 :: ([119, 105, 116, 104, 111, 117, 116] ++ (32 :: 40 :: ([97] ++ (44 :: 32 :: ([98] ++ (41 :: 32 :: 40 :: (s.data.toList ++ [41]))))))))) _
 exact Lx.kw _ (by decide) (CP (by decide)) (Lx.sp (Lx.kw _ (by decide) (CP (by decide)) (Lx.sp (Lx.sg (by decide) (by decide) (Lx.kw _ (by decide) (CP (by decide)) (Lx.sg (by decide) (by decide) (Lx.sp (Lx.kw _ (by decide) (CP (by decide)) (Lx.sg (by decide) (by decide) (Lx.sp (Lx.sg (by decide) (by decide) (Lx.w hp (CP (by decide)) (Lx.sg (by decide) (by decide) Lx.fin)))))))))))))
theorem gz3 : pz 60 0 0 [Bs 3 (bA [115, 117, 109]) 0, Bs 3 (bA [119, 105, 116, 104, 111, 117, 116]) 0, Bs 5 (bA [40]) 0, Bs 3 (bA [97]) 0, Bs 5 (bA [44]) 0, Bs 3 (bA [98]) 0, Bs 5 (bA [41]) 0, Bs 5 (bA [40]) 0, Gx s, Bs 5 (bA [41]) 0, JT] = some ([JT], [Az s, BW 1 2 [kA, kB]]) := by kernel_rfl
theorem gx4 (hp : Pz s = true) : Lx ((((ByteArray.mk #[109, 97, 120, 32, 98, 121, 32, 40, 97, 44, 32, 98, 41, 32, 40]) ++ s) ++ (ByteArray.mk #[41]))).data.toList [Bs 3 (bA [109, 97, 120]) 0, Bs 3 (bA [98, 121]) 0, Bs 5 (bA [40]) 0, Bs 3 (bA [97]) 0, Bs 5 (bA [44]) 0, Bs 3 (bA [98]) 0, Bs 5 (bA [41]) 0, Bs 5 (bA [40]) 0, Gx s, Bs 5 (bA [41]) 0, JT] := by
 rw [DC, DC]
 show Lx ([109, 97, 120] ++ (32 :: ([98, 121] ++ (32 :: 40 :: ([97] ++ (44 :: 32 :: ([98] ++ (41 :: 32 :: 40 :: (s.data.toList ++ [41]))))))))) _
 exact Lx.kw _ (by decide) (CP (by decide)) (Lx.sp (Lx.kw _ (by decide) (CP (by decide)) (Lx.sp (Lx.sg (by decide) (by decide) (Lx.kw _ (by decide) (CP (by decide)) (Lx.sg (by decide) (by decide) (Lx.sp (Lx.kw _ (by decide) (CP (by decide)) (Lx.sg (by decide) (by decide) (Lx.sp (Lx.sg (by decide) (by decide) (Lx.w hp (CP (by decide)) (Lx.sg (by decide) (by decide) Lx.fin)))))))))))))
theorem gz4 : pz 60 0 0 [Bs 3 (bA [109, 97, 120]) 0, Bs 3 (bA [98, 121]) 0, Bs 5 (bA [40]) 0, Bs 3 (bA [97]) 0, Bs 5 (bA [44]) 0, Bs 3 (bA [98]) 0, Bs 5 (bA [41]) 0, Bs 5 (bA [40]) 0, Gx s, Bs 5 (bA [41]) 0, JT] = some ([JT], [Az s, BW 3 1 [kA, kB]]) := by kernel_rfl
theorem gx5 (hp : Pz s = true) : Lx ((((ByteArray.mk #[109, 97, 120, 32, 119, 105, 116, 104, 111, 117, 116, 32, 40, 41, 32, 40]) ++ s) ++ (ByteArray.mk #[41]))).data.toList [Bs 3 (bA [109, 97, 120]) 0, Bs 3 (bA [119, 105, 116, 104, 111, 117, 116]) 0, Bs 5 (bA [40]) 0, Bs 5 (bA [41]) 0, Bs 5 (bA [40]) 0, Gx s, Bs 5 (bA [41]) 0, JT] := by
 rw [DC, DC]
 show Lx ([109, 97, 120] ++ (32 :: ([119, 105, 116, 104, 111, 117, 116] ++ (32 :: 40 :: 41 :: 32 :: 40 :: (s.data.toList ++ [41]))))) _
 exact Lx.kw _ (by decide) (CP (by decide)) (Lx.sp (Lx.kw _ (by decide) (CP (by decide)) (Lx.sp (Lx.sg (by decide) (by decide) (Lx.sg (by decide) (by decide) (Lx.sp (Lx.sg (by decide) (by decide) (Lx.w hp (CP (by decide)) (Lx.sg (by decide) (by decide) Lx.fin)))))))))
theorem gz5 : pz 60 0 0 [Bs 3 (bA [109, 97, 120]) 0, Bs 3 (bA [119, 105, 116, 104, 111, 117, 116]) 0, Bs 5 (bA [40]) 0, Bs 5 (bA [41]) 0, Bs 5 (bA [40]) 0, Gx s, Bs 5 (bA [41]) 0, JT] = some ([JT], [Az s, BW 3 2 []]) := by kernel_rfl
theorem gx6 (hp : Pz s = true) : Lx (s ++ (ByteArray.mk #[32, 42, 32, 49])).data.toList [Gx s, Bs 5 (bA [42]) 0, Bs 1 (bA [49]) 0, JT] := by
 rw [DC]
 show Lx (s.data.toList ++ (32 :: 42 :: 32 :: 49 :: [])) _
 exact Lx.w hp (CP (by decide)) (Lx.sp (Lx.sg (by decide) (by decide) (Lx.sp (Lx.dg (by decide) (by kernel_rfl) (by kernel_rfl) rz Lx.fin))))
theorem gz6 : pz 60 0 0 [Gx s, Bs 5 (bA [42]) 0, Bs 1 (bA [49]) 0, JT] = some ([JT], [Az s, Sz ⟨#[49]⟩, Kr 3 false]) := by kernel_rfl
theorem Y1 (AMP : Awk) (hg : Gl σ) (hs : Af 2 EP σ p n ss) (hM : Modest [] ss) (hS : SOk ss) (hv : ∀ s ∈ ss, ∀ p ∈ s.ps, 0 ≤ p.2 ∧ p.2 < 18446744073709551616) (hw : s.size ≤ 4611686018427387904) (h : ∀ σ', Ext σ σ' → R (.returned (.bool true)) σ') :
   Spec prog 6 #[.slice p n c, .int .i64 t, .string s] σ R := by
 have hl : ss.length = n := hs.1
 have awk : ∀ {Q : Rr}, ∀ σ', Ext σ σ' → (∀ σ2, Ext σ σ2 → Q (.returned (.bool true)) σ2) → Spec prog 14 #[] σ' (AA Q (CB fun t26 AF => Q (.returned (.bool t26)) AF)) := fun {Q} σ' hx hq => AMP σ' _ (hg.mono hx) fun σ2 A6 => ⟨_, rfl, hq σ2 (hx.trans A6)⟩
 refine Ah.start (Ys hw fun σ1 CD => ⟨_, rfl, fun _ => awk σ1 CD h, fun hp => ?_⟩)
 have Ho := hs.mono EP.mono CD
 obtain ⟨_, _, ASV, _⟩ := QM hp
 suffices fin : (∀ s ∈ ss, zv s.ls) → ∀ q, q = p → Ah.DG R q n c t s (n : Int) σ1 by
   suffices H : ∀ g i : Nat, n - i = g → i ≤ n → (∀ s ∈ ss.take i, zv s.ls) → Ah.DG R p n c t s (i : Int) σ1 from H n 0 rfl (Nat.zero_le _) (by simp)
   intro g
   induction g with
   | zero =>
     intro i qz hi S9
     have : i = n := by omega
     subst this
     rw [List.take_of_length_le (by omega)] at S9
     exact fin S9 p rfl
   | succ g ih =>
     intro i qz hi S9
     have Be : i < n := by omega
     obtain ⟨x, hx⟩ := Ho.ex Be
     obtain ⟨b, o, p1, k1, c1, q1, m1, d1, rfl, E6, UQ, _, _⟩ := EP.at Ho hx
     have iQ : x.ls.length = k1 := UQ.1
     refine Ah.Cs ⟨fun _ => ?_, fun hh => by omega⟩
     suffices K : ∀ g' j : Nat, k1 - j = g' → j ≤ k1 → zv (x.ls.take j) → Ah.aI R (aD b o) n c t s (i : Int) (j : Int) σ1 from K k1 0 rfl (Nat.zero_le _) (fun y hy => by simp at hy)
     intro g'
     induction g' with
     | zero =>
       intro j hgj hj haj
       rw [List.take_of_length_le (by omega)] at haj
       refine Ah.dA ⟨b, o, rfl, by omega, p1, k1, c1, by simpa using E6.1, fun Au => by omega, fun _ => ⟨AL Be Ho.big, ih (i + 1) (by omega) (by omega) fun y hy => ?_⟩⟩
       rcases (HV hx).1 hy with hy | rfl
       · exact S9 y hy
       · exact haj
     | succ g' ihj =>
       intro j hgj hj haj
       have On : j < k1 := by omega
       obtain ⟨y, hy⟩ := UQ.ex On
       obtain ⟨b2, o2, rfl, gG⟩ := FV.at UQ hy
       have next : (y.1 = CJ ∨ y.1 = kA ∨ y.1 = kB) → AN ((j : Int) + 1) ∧ Ah.aI R (aD b o) n c t s (i : Int) ((j : Int) + 1) σ1 := fun hy1 => ⟨AL On UQ.big, ihj (j + 1) (by omega) (by omega) fun z hz => by
         rcases (HV hy).1 hz with hz | rfl
         · exact haj z hz
         · exact hy1⟩
       refine Ah.dA ⟨b, o, rfl, by omega, aD b2 o2, k1, c1, by simpa using E6.1, fun _ => ⟨by omega, aD b2 o2, k1, c1, by simpa using E6.1, b2, o2, rfl, by omega, y.1, by simpa using gG.1, fun f1 => ⟨fun f2 => ⟨fun f3 => awk σ1 CD h, fun t3 => next (.inr (.inr ?_))⟩, fun t2 => next (.inr (.inl ?_))⟩, fun t1 => next (.inl ?_)⟩, fun hh => by omega⟩
       · rw [QF, decide_eq_true_eq] at t3; exact t3
       · rw [QF, decide_eq_true_eq] at t2; exact t2
       · rw [QF, decide_eq_true_eq] at t1; exact t1
 rintro S9 q rfl
 obtain ⟨g1, g2, g3, g4, g5⟩ := bo (t := t) (w := s) (by omega) S9 hv
 have sz : ∀ (a : Array UInt8) (b : Array UInt8), a.size ≤ 100 → b.size ≤ 100 → (ByteArray.size (ByteArray.mk a) + ByteArray.size s ≤ 9223372036854775807) ∧ (ByteArray.size ((ByteArray.mk a) ++ s) + ByteArray.size (ByteArray.mk b) ≤ 9223372036854775807) ∧ ByteArray.size (((ByteArray.mk a) ++ s) ++ (ByteArray.mk b)) ≤ 4096 := fun a b ha hb => by
   have e1 : ByteArray.size (ByteArray.mk a) = a.size := rfl
   have e2 : ByteArray.size (ByteArray.mk b) = b.size := rfl
   simp only [ByteArray.size_append, e1, e2]
   omega
 have sz6 : ByteArray.size s + ByteArray.size (ByteArray.mk #[32, 42, 32, 49]) ≤ 9223372036854775807 ∧ ByteArray.size (s ++ (ByteArray.mk #[32, 42, 32, 49])) ≤ 4096 := by
   have e1 : ByteArray.size (ByteArray.mk #[32, 42, 32, 49]) = 4 := rfl
   rw [ByteArray.size_append, e1]; omega
 have z1 := sz #[115, 117, 109, 40] #[41] (by decide) (by decide)
 have z2 := sz #[115, 117, 109, 32, 98, 121, 32, 40, 41, 32, 40] #[41] (by decide) (by decide)
 have z3 := sz #[115, 117, 109, 32, 119, 105, 116, 104, 111, 117, 116, 32, 40, 97, 44, 32, 98, 41, 32, 40] #[41] (by decide) (by decide)
 have z4 := sz #[109, 97, 120, 32, 98, 121, 32, 40, 97, 44, 32, 98, 41, 32, 40] #[41] (by decide) (by decide)
 have z5 := sz #[109, 97, 120, 32, 119, 105, 116, 104, 111, 117, 116, 32, 40, 41, 32, 40] #[41] (by decide) (by decide)
 refine Ah.Cs ⟨fun hh => by omega, fun _ => ⟨z1.1, z1.2.1, Gc (hg.mono CD) Ho hS hM (gx1 hp) z1.2.2 gz1 rfl (by kernel_rfl) (by kernel_rfl) (by kernel_rfl) fun σ2 p2 n2 c2 r2 x2 => ⟨_, _, _, _, rfl, z2.1, z2.2.1, ?_⟩⟩⟩
 have X2 := CD.trans x2
 refine Gc (hg.mono X2) (hs.mono EP.mono X2) hS hM (gx2 hp) z2.2.2 gz2 rfl (by kernel_rfl) (by kernel_rfl) (by kernel_rfl) fun σ3 p3 n3 c3 r3 x3 => ⟨_, _, _, _, rfl, z3.1, z3.2.1, ?_⟩
 have X3 := X2.trans x3
 refine Gc (hg.mono X3) (hs.mono EP.mono X3) hS hM (gx3 hp) z3.2.2 gz3 rfl (by kernel_rfl) (by kernel_rfl) (by kernel_rfl) fun σ4 p4 n4 c4 r4 x4 => ⟨_, _, _, _, rfl, z4.1, z4.2.1, ?_⟩
 have X4 := X3.trans x4
 refine Gc (hg.mono X4) (hs.mono EP.mono X4) hS hM (gx4 hp) z4.2.2 gz4 rfl (by kernel_rfl) (by kernel_rfl) (by kernel_rfl) fun σ5 p5 n5 c5 r5 x5 => ⟨_, _, _, _, rfl, z5.1, z5.2.1, ?_⟩
 have X5 := X4.trans x5
 refine Gc (hg.mono X5) (hs.mono EP.mono X5) hS hM (gx5 hp) z5.2.2 gz5 rfl (by kernel_rfl) (by kernel_rfl) (by kernel_rfl) fun σ6 p6 n6 c6 r6 x6 => ⟨_, _, _, _, rfl, sz6.1, ?_⟩
 have X6 := X5.trans x6
 refine Gc (hg.mono X6) (hs.mono EP.mono X6) hS hM (gx6 hp) sz6.2 gz6 rfl (by kernel_rfl) (by kernel_rfl) (by kernel_rfl) fun σ7 p7 n7 c7 r7 x7 => ⟨_, _, _, _, rfl, ?_⟩
 have X7 := X6.trans x7
 have q2 := r2.mono EP.mono (x3.trans (x4.trans (x5.trans (x6.trans x7))))
 have q3 := r3.mono EP.mono (x4.trans (x5.trans (x6.trans x7)))
 have q4 := r4.mono EP.mono (x5.trans (x6.trans x7))
 have q5 := r5.mono EP.mono (x6.trans x7)
 have q6 := r6.mono EP.mono x7
 unfold ry at q2 q3 q4 q5 q6
 rw [g1] at q2
 rw [← g2] at q4
 rw [← g3] at q6
 have c1 := g4
 rw [g1, g2] at c1
 rw [g1, g2, ← g3, c1]
 by_cases hE' : (instF [Az s, BW 3 1 [kA, kB]] ss t).1 ≠ 0
 · exact ⟨fun _ => ⟨fun _ => ⟨fun _ => ⟨fun _ => ⟨fun _ => awk σ7 X7 h, fun hh => absurd rfl hh⟩, fun hh => absurd rfl hh⟩, fun hh => absurd rfl hh⟩, fun hh => absurd rfl hh⟩, fun hh => absurd hE' hh⟩
 have hE := Decidable.not_not.1 hE'
 refine ⟨fun hh => absurd hE hh, fun _ => ⟨fun hh => absurd hE hh, fun _ => ⟨fun hh => absurd hE hh, fun _ => ⟨fun hh => absurd hE hh, fun _ => ⟨fun hh => absurd hE hh, fun _ => ?_⟩⟩⟩⟩⟩
 refine I6 q2 q3 ⟨_, rfl, fun _ => I6 q3 q4 ⟨_, rfl, fun _ => I6 q5 q6 ⟨_, rfl, fun _ => ⟨fun A4 => awk σ7 X7 h, fun h6 => ?_⟩, fun hh => by cases hh⟩, fun hh => by cases hh⟩, fun hh => by cases hh⟩
 have e := g5 hE (Decidable.not_not.1 h6)
 unfold ry at r7
 rw [← e] at r7
 exact I6 q5 r7 ⟨_, rfl, fun _ => awk σ7 X7 h, fun hh => by cases hh⟩
end
end TwW
end
section
namespace Go.Proofs.YtlmhidjgplomgaaGreatDoor.evalGroups
open Go Tw TwW TwW.Rw Go.ChangeShapes Go.WideShapes Go.ChangeAt Go.RowKit Go.Deep
open Go.Proofs.Tryz (f6 func6 params6)
abbrev Y2 : Array Value := #[.slice none 0 0, .int .i64 0, .string ⟨#[]⟩]
noncomputable abbrev wW (os : Os) : World := (LR os).forCall (fun _ _ => 0) ⟨#[], Y2, []⟩
set_option maxRecDepth 1000000
theorem wHr (os : Os) : ((wW os).heap.toList.drop prog.globals.size).take ((begin prog (fun _ _ => 0) default).world.heap.size - prog.globals.size) = (begin prog (fun _ _ => 0) default).world.heap.toList.drop prog.globals.size := by kernel_rfl
theorem AMQ (os : Os) : Input.okWideB prog (wW os) 6 ⟨#[], Y2, []⟩ = true := by kernel_rfl
theorem wHv (os : Os) : (wW os).variablesRefB prog = true := AL2 os (args := Y2)
theorem reads (os : Os) {H : Type} (enc : TypeId × Value → H) : ∃ places, DataW.whole enc prog (wW os).memory f6.params.toList Rows.evalGroupsSpec.vars false Y2.toList 8 = some ([.nil, .lit (.int .i64 0), .lit (.string [])], [], places) :=
 ⟨[], by kernel_rfl⟩
theorem nk (H : Type) (enc : TypeId × Value → H) (W : World) (base : Nat) (args : Array Value) (ds gs : List (DataW H)) (before : List MemPlace)
   (sE : ∀ (j : Nat) t v, f6.params[j]? = some t → args[j]? = some v → Value.okWide prog W .any base t v)
   (hW : DataW.Whole enc prog f6.params.toList Rows.evalGroupsSpec.vars false W args.toList ds gs before) (hk : Rows.uptoBulkAll (ds ++ gs) ≤ 1048576) (hL : laidMetH prog Laid W) (hsh : W.ShapedOpen prog) :
   Calls prog 6 args W fun e W' => ∃ v, e = .returned v ∧ Rows.evalGroupsSpec.post enc prog f6 false true false false W args v W' := by
 have hW' := hW
 obtain ⟨p, q, hA0, hV, rfl, hfz, hnd⟩ := hW
 have hA : DataW.TrodAll enc prog W 0 (fun _ => true) true f6.params.toList args.toList ds p := hA0
 rw [params6] at hA sE
 obtain ⟨v0, vs0, d0, ds0, p0, q0, I7, rfl, rfl, h0, r0⟩ := trodAll_cons hA
 obtain ⟨v1, vs1, d1, ds1, p1, q1, rfl, rfl, rfl, h1, r1⟩ := trodAll_cons r0
 obtain ⟨v2, vs2, d2, ds2, p2, q2, rfl, rfl, rfl, h2, r2⟩ := trodAll_cons r1
 obtain ⟨rfl, rfl, rfl⟩ := trodAll_nil r2
 obtain rfl : args = #[v0, v1, v2] := by cases args; simp_all
 obtain ⟨rfl, rfl⟩ := trodVars_none hV
 simp only [List.append_nil, Rows.uptoBulkAll] at hk
 obtain ⟨a0, n0, c0, ZL, rfl, hr0, hS0⟩ := nI (sE 0 23 v0 rfl rfl) h0 (by omega)
 obtain ⟨x1, rfl, rfl, _, w1⟩ := open_int Go.Proofs.Tryz.underlying2 (sE 1 2 v1 rfl rfl) h1
 obtain ⟨s2, rfl, rfl, rfl, w2⟩ := Go.ChangeMaps.open_string Go.Proofs.Tryz.underlying9 (sE 2 9 v2 rfl rfl) h2
 exact zX (by kernel_rfl) rfl rfl ⟨rfl, rfl, rfl⟩ hW' ((Y1 bO (AF8 hL hsh) hr0 (zc hS0) (zd hS0) (ze hS0) (Nat.le_trans (gb (show Rows.uptoBulk _ ≤ _ by omega)) (by decide))) fun σ' hx => ⟨rfl, hx⟩)
theorem zx : Go.Proofs.Tryz.checked.prog.inits.idxOf? 6 = none := by kernel_rfl
theorem witness (os : Os) (started : os.Started) (H : Type) (enc : TypeId × Value → H) : ∃ (w : World) (tape : Tape) (i : Input), w.os = os ∧ (w.forCall tape i).Shaped Go.Proofs.Tryz.checked.prog ∧ i.vars = [] ∧ Input.okWide Go.Proofs.Tryz.checked.prog (w.forCall tape i) .any w.heap.size 6 i ∧
     (Rows.OpenSpec.upto Rows.evalGroupsSpec).preRow enc Go.Proofs.Tryz.checked.prog f6 Rows.evalGroupsUptoRow.domain false Rows.evalGroupsUptoRow.laid (w.forCall tape i).memory i.args ∧ ({} : Assume).holds Go.Proofs.Tryz.checked.prog (lone (Frame.enter Go.Proofs.Tryz.checked.prog 6 i.args .normal) [] (w.forCall tape i)) := by
 obtain ⟨places, hx⟩ := reads os enc
 exact witness_row_atRef (enc := enc) (C := Go.Proofs.Tryz.checked) false (LR os) Y2 rfl (wHv os) (wHr os) (AMQ os)
     (OpenSpec.preRow_of_cond 8 hx (by as_aux_lemma => kernel_rfl) (fun k hk => by cases hk; as_aux_lemma => kernel_rfl) (by as_aux_lemma => kernel_rfl) (nJ os _))
theorem lifted (os : Os) (started : os.Started) (H : Type) (enc : TypeId × Value → H) (F : Stop.Interp) :
   ReturnsInHanded {} Go.Proofs.Tryz.checked os 6 .any ((Rows.OpenSpec.upto Rows.evalGroupsSpec).preRow enc prog f6 Rows.evalGroupsUptoRow.domain false Rows.evalGroupsUptoRow.laid) (((Rows.OpenSpec.upto Rows.evalGroupsSpec).at F).post enc prog f6 false true false false) := by
 refine returnsInHanded_of_row (C := Go.Proofs.Tryz.checked) (s := Rows.OpenSpec.upto Rows.evalGroupsSpec) own started zx func6 (witness os started H enc) ?_
 intro W base args ds gs before AGM hW _ AGN _ hL hsh _
 exact nk H enc W base args ds gs before AGM hW (of_decide_eq_true (AGN _ rfl)) hL hsh
end Go.Proofs.YtlmhidjgplomgaaGreatDoor.evalGroups
end
