/-
  Part 6 of the proof that the law EvalScalarsUptoCardSaid of the given program answers true for every input of the given statement; the input reads behind the call as it did. (The texts: packed from 10 texts. Names are shortened by the packing program, for the bound on size.)
-/
import Derived.Test.YtlmhidjgplomgaaGreatDoorA5
import Derived.Laws.FloatBits
import Ieee.Arith
import Derived.KernelRfl
set_option linter.all false
section
namespace TwW
open Go Tw Go.RowKit Go.Proofs.Tryz
def cL (u : UInt8) : Bool := decide (97 ≤ u.toNat ∧ u.toNat ≤ 122)
def S7 (s : ByteArray) : Bool := s.data.toList.all cL && (decide (s ≠ ⟨#[]⟩) && (decide (s.size < 60) && !ME s))
theorem Y4 {s : ByteArray} : ∀ {l : List ByteArray} {k : Nat}, 0 < k → (0 < WA l s k ↔ s ∈ l ∧ s ≠ ⟨#[]⟩)
 | [], k, _ => by simp [WA]
 | x :: l, k, hk => by
   unfold WA
   by_cases h : x = s ∧ s ≠ ⟨#[]⟩
   · rw [if_pos h]
     exact ⟨fun _ => ⟨by rw [h.1]; exact List.mem_cons_self .., h.2⟩, fun _ => hk⟩
   · rw [if_neg h, Y4 (Nat.succ_pos k), List.mem_cons]
     constructor
     · rintro ⟨h1, h2⟩; exact ⟨.inr h1, h2⟩
     · rintro ⟨h1 | h1, h2⟩
       · exact absurd ⟨h1.symm, h2⟩ h
       · exact ⟨h1, h2⟩
theorem S8 {s : ByteArray} {l : List ByteArray} : 0 < GJ (⟨#[]⟩ :: l) s ↔ s ∈ l ∧ s ≠ ⟨#[]⟩ := by
 unfold GJ WA
 rw [if_neg (by rintro ⟨rfl, h⟩; exact h rfl)]
 exact Y4 (by decide)
section
variable {σ : Hp} {R : Rr}
theorem I9 {l : List ByteArray} {s : ByteArray} {pt : Option Addr} {k j : Nat} (hr : Eu 1 σ pt k (l.map .string)) (hR : ∀ i : Int, (0 ≤ i ↔ s ∈ l) → R (.returned (.int .i64 i)) σ) : Spec prog 60 #[.slice pt k j, .string s] σ R := by
 have hl : l.length = k := by have := hr.1; simpa using this
 have Iz : k ≤ 4611686018427387904 := hr.2.1
 refine Fa.start ?_
 suffices H : ∀ g i : Nat, k - i = g → i ≤ k → s ∉ l.take i → Fa.GN R pt k j s i σ from H k 0 rfl (Nat.zero_le _) (by simp)
 intro g
 induction g with
 | zero =>
   intro i hg hi he
   rw [List.take_of_length_le (by omega)] at he
   exact Fa.A5 ⟨fun Ax => by omega, fun _ => hR _ ⟨fun hh => by omega, fun hh => absurd hh he⟩⟩
 | succ g ih =>
   intro i hg hi he
   have Bb : i < k := by omega
   obtain ⟨x, hx⟩ : ∃ x, l[i]? = some x := ⟨_, List.getElem?_eq_getElem (by omega)⟩
   obtain ⟨b, o, rfl, EK⟩ := Eu.at1 hr (k := i) (v := .string x) (by simp [hx])
   refine Fa.A5 ⟨fun _ => ⟨b, o, rfl, by omega, x, by simpa using EK, fun ht => ?_, fun hf => ⟨AN Bb Iz, ih (i + 1) (by omega) (by omega) ?_⟩⟩, fun hh => by omega⟩
   · rw [Ta, decide_eq_true_eq] at ht
     exact hR _ ⟨fun _ => by rw [← ht]; exact List.mem_of_getElem? hx, fun _ => by omega⟩
   · rw [Ta, decide_eq_false_iff_not] at hf
     rw [Ab hx, List.mem_append, List.mem_singleton]
     rintro (hh | hh)
     · exact he hh
     · exact hf hh.symm
theorem Y5 {s : ByteArray} (hs : s ≠ ⟨#[]⟩) (hR : ∀ σ', Ext σ σ' → R (.returned (.bool (ME s))) σ') : Spec prog 42 #[.string s] σ R := by
 have e1 : Yt = ⟨#[]⟩ :: Yt.tail := rfl
 have e2 : Yu = ⟨#[]⟩ :: Yu.tail := rfl
 have k1 : decide (0 < GJ Yt s) = Cj s Yt.tail := by
   rw [Bool.eq_iff_iff, decide_eq_true_eq, BA, e1, S8]
   exact ⟨fun h => h.1, fun h => ⟨h, hs⟩⟩
 have k2 : decide (0 < GJ Yu s) = Cj s Yu.tail := by
   rw [Bool.eq_iff_iff, decide_eq_true_eq, BA, e2, S8]
   exact ⟨fun h => h.1, fun h => ⟨h, hs⟩⟩
 unfold ME at hR
 rw [k1, k2] at hR
 refine RF.start (O7.start fun b1 Za => ⟨_, _, _, rfl, ?_⟩)
 have x1 := Ext.set (o := .cells (Yt.tail.map Value.string).toArray 9 (0, 0)) Za
 refine I9 (l := Yt.tail) (Oo (l := Yt.tail) (Hp.AB _ _ _) (by decide)) fun i hi => ⟨_, rfl, fun h0 => ?_, fun h0 => R7.start fun b2 Pb => ⟨_, _, _, rfl, ?_⟩⟩
 · have := hR _ x1
   rw [BA.2 (hi.1 h0), Bool.or_true, Bool.true_or] at this
   exact this
 have n1 : Cj s Yt.tail = false := by
   rw [Bool.eq_false_iff, ne_eq, BA]; exact fun h => h0 (hi.2 h)
 have x2 := x1.trans (Ext.set (o := .cells (Yu.tail.map Value.string).toArray 9 (0, 0)) Pb)
 refine I9 (l := Yu.tail) (Oo (l := Yu.tail) (Hp.AB _ _ _) (by decide)) fun i hi => ⟨_, rfl, fun h0 => ?_, fun h0 b3 ZY => ?_⟩
 · have := hR _ x2
   rw [BA.2 (hi.1 h0), Bool.or_true] at this
   exact this
 have n2 : Cj s Yu.tail = false := by
   rw [Bool.eq_false_iff, ne_eq, BA]; exact fun h => h0 (hi.2 h)
 have x3 := x2.trans (Ext.set (o := .cells (P3.map Value.string).toArray 9 (0, 0)) ZY)
 refine I9 (l := P3) (Oo (l := P3) (Hp.AB _ _ _) (by decide)) fun i hi => ⟨_, rfl, ?_⟩
 have := hR _ x3
 rw [n1, n2, Bool.or_false, Bool.or_false] at this
 dsimp only
 rw [show decide (0 ≤ i) = Cj s P3 by rw [Bool.eq_iff_iff, decide_eq_true_eq, BA]; exact hi]
 exact this
theorem Y6 {s : ByteArray} (hb : s.size ≤ 4611686018427387904) (hR : ∀ σ', Ext σ σ' → R (.returned (.bool (S7 s))) σ') : Spec prog 19 #[.string s] σ R := by
 refine FV.start (dw (ok := cL) (pt := fun i => FV.GN R s i σ) (G := fun b => ∀ σ', Ext σ σ' → R (.returned (.bool (b && (decide (s ≠ ⟨#[]⟩) && (decide (s.size < 60) && !ME s))))) σ') (fun h => ?_) (fun k u hk hu h64 h1 h2 => ?_) hR hb)
 · refine FV.A5 ⟨fun hh => by omega, fun _ => ⟨fun hf => ⟨fun h6 => ?_, fun h6 => ?_⟩, fun ht => ?_⟩⟩
   · rw [Ta, decide_eq_false_iff_not] at hf
     refine Y5 hf fun σ' hx => ⟨_, rfl, ?_⟩
     have := h σ' hx
     rw [decide_eq_true hf, decide_eq_true (show s.size < 60 by omega)] at this
     exact this
   · have := h σ (.refl _)
     rw [decide_eq_false (show ¬ s.size < 60 by omega), Bool.false_and, Bool.and_false, Bool.and_false] at this
     exact this
   · rw [Ta, decide_eq_true_eq] at ht
     have := h σ (.refl _)
     rw [decide_eq_false (show ¬ s ≠ ⟨#[]⟩ from fun hh => hh ht), Bool.false_and, Bool.and_false] at this
     exact this
 · have no : cL u = false → R (.returned (.bool false)) σ := fun hl => by
     have := h2 hl σ (.refl _)
     exact this
   refine FV.A5 ⟨fun _ => ⟨u, by omega, hu, fun h97 => no (decide_eq_false (by omega)), fun h97 => ⟨u, by omega, hu, fun AMe => no (decide_eq_false (by omega)), fun AMe => ⟨h64, h1 (decide_eq_true (by omega))⟩⟩⟩, fun hh => by omega⟩
end
def Gw (s : ByteArray) : Cl := { kind := 3, text := s, span := 0, op := 0, fn := 0, ag := 0, kept := false, big := false, name := true, lp := false, rp := false, comma := false, lsq := false, rsq := false, lbr := false, minus := false, bool := false, on := false, zv := false, vQ := false, out := false, off := false }
theorem QR {s : ByteArray} (h : S7 s = true) : (∀ u ∈ s.data.toList, cL u = true) ∧ s ≠ ⟨#[]⟩ ∧ s.size < 60 ∧ ME s = false := by
 unfold S7 at h
 rw [Bool.and_eq_true, Bool.and_eq_true, Bool.and_eq_true, List.all_eq_true, decide_eq_true_eq, decide_eq_true_eq] at h
 exact ⟨h.1, h.2.1, h.2.2.1, by simpa using h.2.2.2⟩
theorem Y7 {s : ByteArray} (h : S7 s = true) : ∃ c w, s.data.toList = c :: w := by
 cases hd : s.data.toList with
 | nil =>
   refine absurd ?_ (QR h).2.1
   apply ByteArray.ext
   apply Array.toList_inj.1
   rw [hd]
 | cons c w => exact ⟨c, w, rfl⟩
theorem sd {s : ByteArray} (h : S7 s = true) : Mq 3 s 0 = Gw s := by
 obtain ⟨h1, h2, h3, h4⟩ := QR h
 obtain ⟨c, w, vR⟩ := Y7 h
 have hk := h4
 unfold ME at hk
 rw [Bool.or_eq_false_iff, Bool.or_eq_false_iff, decide_eq_false_iff_not, decide_eq_false_iff_not] at hk
 have hm : ∀ x ∈ P3, ¬ s = x := fun x hx e => by
   have : Cj s P3 = true := BA.2 (by rw [e]; exact hx)
   rw [hk.1.1] at this; cases this
 have JB : GJ sS s = 0 := by
   have e : sS = ⟨#[]⟩ :: sS.tail := rfl
   have : ¬ 0 < GJ sS s := by
     rw [e, S8]
     rintro ⟨hx, _⟩
     have key : (sS.tail.all fun x => !x.data.toList.all cL || Cj x P3) = true := by decide +kernel
     have hh := List.all_eq_true.1 key s hx
     rw [List.all_eq_true.2 h1] at hh
     exact hm s (BA.1 (by simpa using hh)) rfl
   omega
 have zT : C8 s = true := by
   have Hc : s.data.toList.length = s.size := rfl
   unfold C8
   rw [vR] at Hc ⊢
   rw [List.length_cons] at Hc
   have hc : cL c = true := h1 c (by rw [vR]; exact List.mem_cons_self ..)
   have yw : 97 ≤ c.toNat ∧ c.toNat ≤ 122 := of_decide_eq_true hc
   rw [decide_eq_true (show 0 < s.size by omega), decide_eq_true (show s.size ≤ 64 by omega)]
   simp only [List.head?_cons, Option.any_some, Bool.true_and, Bool.and_eq_true, Bool.not_eq_true', List.all_eq_true]
   refine ⟨decide_eq_false (by omega), fun u hu => ?_⟩
   have Ct : 97 ≤ u.toNat ∧ u.toNat ≤ 122 := of_decide_eq_true (h1 u (by rw [vR]; exact hu))
   exact decide_eq_true (by omega)
 have t5 : ∀ x, IT 3 s 5 x = false := fun x => by unfold IT; rw [decide_eq_false (by decide), Bool.false_and]
 have t3 : ∀ x ∈ P3, IT 3 s 3 x = false := fun x hx => by unfold IT; rw [decide_eq_false (hm x hx), Bool.and_false]
 unfold Mq Gw
 rw [JB, show GJ Yt s = 0 by omega, show GJ Yu s = 0 by omega, h4, zT, decide_eq_false (show ¬ 256 < s.size by omega), t5, t5, t5, t5, t5, t5, t5, t3 _ (BA.1 (by decide)), t3 _ (BA.1 (by decide)), t3 _ (BA.1 (by decide)), t3 _ (BA.1 (by decide)), t3 _ (BA.1 (by decide)), t3 _ (BA.1 (by decide))]
 rfl
theorem ej {u : UInt8} (h : cL u = true) : Oq u = true ∧ Bp u = false ∧ Ot u = true := by
 have h' : 97 ≤ u.toNat ∧ u.toNat ≤ 122 := of_decide_eq_true h
 have h1 : Oq u = true := decide_eq_true (.inl h')
 exact ⟨h1, decide_eq_false (by omega), by unfold Ot; rw [h1]; rfl⟩
theorem Lx.w {s : ByteArray} {l : List UInt8} {ts : List Cl} (hp : S7 s = true) (hl : ∀ u, l.head? = some u → Ot u = false) (h : Lx l ts) : Lx (s.data.toList ++ l) (Gw s :: ts) := by
 obtain ⟨c, w, vR⟩ := Y7 hp
 have h1 := (QR hp).1
 have hb : bA (c :: w) = s := by
   apply ByteArray.ext
   apply Array.toList_inj.1
   rw [vR]; rfl
 have hc := ej (h1 c (by rw [vR]; exact List.mem_cons_self ..))
 have := Lx.word (c := c) (w := w) hc.1 hc.2.1 (fun u hu => (ej (h1 u (by rw [vR]; exact List.mem_cons_of_mem _ hu))).2.2) hl h
 rw [hb, sd hp] at this
 rw [vR]; exact this
theorem Lx.dg {c : UInt8} {l : List UInt8} {ts : List Cl} (h0 : Bp c = true) (h1 : P5 (bA [c]) = 0) (h2 : FH (bA [c]) = true) (hl : ∀ u, l.head? = some u → Ou u = false) (h : Lx l ts) : Lx (c :: l) (Mq 1 (bA [c]) 0 :: ts) :=
 Lx.num (w := []) h0 (fun u hu => by cases hu) hl h1 h2 h
section
variable {σ : Hp} {R : Rr}
theorem oM {s : ByteArray} {ts r : List Cl} {T : List Nd} {f : Nat} {cl : Cl} {p : Option Addr} {n c : Nat} {ss : List Sr} {t : Int} (hg : Gl σ) (hs : Ag 2 E4 σ p n ss) (hS : SOk ss) (hM : Modest T ss) (hT : T.length ≤ 1000000)
   (hl : Lx s.data.toList ts) (Hc : s.size ≤ 4096) (hn : ts.length ≤ 100000) (hz : pz f 0 0 ts = some (cl :: r, T)) (hk : cl.kind = 0)
   (h : ∀ (σ' : Hp) (p' : Option Addr) (n' c' : Nat), (instF T ss t).1 = 0 → Ag 2 E4 σ' p' n' ((instF T ss t).2.map fun e => ⟨e.ls, [(t, e.v)]⟩) → Ext σ σ' → R (.returned (.tuple #[.slice p' n' c', .int .i64 0])) σ')
   (h' : ∀ σ', (instF T ss t).1 ≠ 0 → Ext σ σ' → R (.returned (.tuple #[.slice none 0 0, .int .i64 (instF T ss t).1])) σ') :
   Spec prog 20 #[.string s, .slice p n c, .int .i64 t] σ R := by
 refine UO.start (cK hl Hc hn hT hz hk fun σ1 p1 n1 c1 hr CK => ⟨_, _, _, _, _, rfl, fun hh => absurd rfl hh, fun _ => ?_⟩)
 refine V6 (hs.mono E4.mono CK) hS fun p2 c2 σ2 h2 A9 => ⟨_, _, _, rfl, ?_⟩
 refine inst_spec (hg.mono (CK.trans A9)) (hr.mono Ma.mono A9) h2 hM (fun τ p' n' c' σ' bs h0 hA hx => ⟨_, _, _, _, rfl, ?_⟩) fun σ' BE hx => ⟨_, _, _, _, rfl, ?_⟩
 · exact h σ' p' n' c' h0 hA.rd ((CK.trans A9).trans (hx.trans hA.ext))
 · exact h' σ' BE ((CK.trans A9).trans hx)
end
end TwW
end
section
namespace TwW
open Go Tw Go.RowKit Go.Proofs.Tryz
def cnV (v : Int) : Prop := (Da v.toNat = false ∧ 0 ≤ v) ∨ v = 9221120237041090560
theorem oN : ∀ x y : List UInt8, Op.bytesLess x y = true ∨ x = y ∨ Op.bytesLess y x = true
 | [], [] => .inr (.inl rfl)
 | [], _ :: _ => .inl rfl
 | _ :: _, [] => .inr (.inr rfl)
 | a :: x, b :: y => by
   simp only [Op.bytesLess, Bool.or_eq_true, Bool.and_eq_true, decide_eq_true_eq, beq_iff_eq]
   rcases Nat.lt_trichotomy a.toNat b.toNat with h | h | h
   · exact .inl (.inl (UInt8.lt_iff_toNat_lt.2 h))
   · have e : a = b := UInt8.toNat_inj.1 h
     subst e
     rcases oN x y with h | h | h
     · exact .inl (.inr ⟨rfl, h⟩)
     · exact .inr (.inl (by rw [h]))
     · exact .inr (.inr (.inr ⟨rfl, h⟩))
   · exact .inr (.inr (.inl (UInt8.lt_iff_toNat_lt.2 h)))
theorem S9 : ∀ x y z : List UInt8, Op.bytesLess x y = true → Op.bytesLess y z = true → Op.bytesLess x z = true
 | _, _, [], _, h => by cases ‹List UInt8› <;> simp [Op.bytesLess] at h
 | [], _, _ :: _, _, _ => rfl
 | _ :: _, [], _, h, _ => by simp [Op.bytesLess] at h
 | a :: x, b :: y, c :: z, h1, h2 => by
   simp only [Op.bytesLess, Bool.or_eq_true, Bool.and_eq_true, decide_eq_true_eq, beq_iff_eq, UInt8.lt_iff_toNat_lt] at h1 h2 ⊢
   rcases h1 with h1 | ⟨rfl, h1⟩
   · rcases h2 with h2 | ⟨rfl, h2⟩
     · exact .inl (by omega)
     · exact .inl h1
   · rcases h2 with h2 | ⟨rfl, h2⟩
     · exact .inl h2
     · exact .inr ⟨rfl, S9 x y z h1 h2⟩
theorem cM : ∀ x : List UInt8, Op.bytesLess x x = false
 | [] => rfl
 | a :: x => by simp [Op.bytesLess, cM x]
theorem oO {a b : ByteArray} (h : sle b a = false) : Op.bytesLess a.toList b.toList = true := by
 unfold sle at h
 simp only [Bool.or_eq_false_iff, beq_eq_false_iff_ne] at h
 rcases oN a.toList b.toList with h1 | h1 | h1
 · exact h1
 · exact absurd h1.symm h.2
 · rw [h1] at h; exact absurd h.1 (by decide)
theorem Y8 {p x y : ByteArray} (h1 : sle x p = false) (h2 : sle y x = false) : sle y p = false := by
 have h3 := S9 _ _ _ (oO h1) (oO h2)
 cases h : sle y p with
 | false => rfl
 | true =>
   unfold sle at h
   simp only [Bool.or_eq_true, beq_iff_eq] at h
   rcases h with h | h
   · have := S9 _ _ _ h3 h
     rw [cM] at this; cases this
   · rw [h, cM] at h3; cases h3
theorem TA {pv : Option ByteArray} {x : Lb} {l : List Lb} : E3 pv (x :: l) = 0 ↔ ¬ C8 x.1 = false ∧ ¬ (x.2.size = 0 ∨ 256 < x.2.size ∨ Px x.2 = false) ∧ ¬ pv.any (sle x.1 ·) = true ∧ E3 (some x.1) l = 0 := by
 have e : E3 pv (x :: l) = if C8 x.1 = false then 31 else if x.2.size = 0 ∨ 256 < x.2.size ∨ Px x.2 = false then 32 else if pv.any (sle x.1 ·) = true then 33 else E3 (some x.1) l := by cases pv <;> rfl
 rw [e]
 constructor
 · intro h
   split at h
   · cases h
   split at h
   · cases h
   split at h
   · cases h
   exact ⟨by assumption, by assumption, by assumption, h⟩
 · rintro ⟨h1, h2, h3, h4⟩
   rw [if_neg h1, if_neg h2, if_neg h3]; exact h4
def AGZ (l : List El) : Prop := l.Pairwise fun a b => Bu a.ls b.ls < 0
def ElS (ss : List Sr) (e : El) : Prop := OV e.ls = 0 ∧ (cnV e.v ∨ ∃ s ∈ ss, ∃ p ∈ s.ps, p.2 = e.v)
structure VS (ss : List Sr) (x : Vv) : Prop where
 el : ∀ e ∈ x.vec, ElS ss e
 up : AGZ x.vec
 rg : ∀ r ∈ x.OC, OV r.ls = 0
 one : x.kind = 1 → cnV x.v
theorem Ur : ∀ {ss : List Sr} {q : Option (List Lb)}, Fh q ss = true → (∀ k, q = some k → ∀ s ∈ ss, Bu k s.ls < 0) ∧ ss.Pairwise fun a b => Bu a.ls b.ls < 0
 | [], q, _ => ⟨fun k _ s hs => (by cases hs), .nil⟩
 | s :: l, q, h => by
   rw [OZ] at h
   simp only [Bool.and_eq_true] at h
   obtain ⟨h1, h2⟩ := Ur h.2
   refine ⟨fun k hk u hu => ?_, List.pairwise_cons.2 ⟨fun u hu => h1 s.ls rfl u hu, h2⟩⟩
   subst hk
   have h3 : Bu k s.ls < 0 := of_decide_eq_true h.1.2
   rcases List.mem_cons.1 hu with rfl | hu
   · exact h3
   · exact Au.trans _ _ _ h3 (h1 s.ls rfl u hu)
theorem iO {ss : List Sr} {n : Nd} {t : Int} (h : Fh none ss = true) : VS ss ⟨2, 0, AO FF n ss t, []⟩ := by
 have key : ∀ (s : Sr) (e : El), (match (Fg s.ps (t - n.back - 300) (t - n.back)).getLast? with
   | none => none
   | some p => if p.2 = IA ∨ FF.bC n.mt s.ls = false then none else some (⟨s.ls, p.2⟩ : El)) = some e → e.ls = s.ls ∧ ∃ p ∈ s.ps, p.2 = e.v := fun s e he => by
   split at he
   · cases he
   · rename_i p hl
     split at he
     · cases he
     · simp only [Option.some.injEq] at he
       subst he
       exact ⟨rfl, p, (List.mem_filter.1 (List.mem_of_getLast? hl)).1, rfl⟩
 refine ⟨fun e he => ?_, ?_, fun r hr => (by cases hr), fun hh => absurd (show (2 : Int) = 1 from hh) (by decide)⟩
 · obtain ⟨s, hs, h1⟩ := List.mem_filterMap.1 he
   obtain ⟨h2, p, hp, hv⟩ := key s e h1
   exact ⟨by rw [h2]; exact (Nk h s hs).1, .inr ⟨s, hs, p, hp, hv⟩⟩
 · show (List.filterMap _ ss).Pairwise _
   refine List.pairwise_filterMap.2 ((Ur h).2.imp fun {a b} YJ e he e' UW => ?_)
   rw [(key a e he).1, (key b e' UW).1]; exact YJ
end TwW
end
section
namespace TwW
open Ieee
theorem Mj {m k : Nat} (hm : m ≠ 0) : (m * 2 ^ k).log2 = m.log2 + k := by
 have h0 : m * 2 ^ k ≠ 0 := Nat.mul_ne_zero hm (Nat.pos_iff_ne_zero.1 (Nat.pow_pos (by decide)))
 apply Nat.le_antisymm
 · have := (Nat.log2_lt h0 (k := m.log2 + k + 1)).2 (by
     rw [show m.log2 + k + 1 = (m.log2 + 1) + k by omega, Nat.pow_add]
     exact Nat.mul_lt_mul_of_pos_right Nat.lt_log2_self (Nat.pow_pos (by decide)))
   omega
 · rw [Nat.le_log2 h0, Nat.pow_add]
   exact Nat.mul_le_mul_right _ (Nat.log2_self_le hm)
theorem Ns (w : Toward) (s : Bool) (n : Nat) : w.cut s n 0 = n := by
 unfold Toward.cut
 simp only [Nat.zero_min, Nat.shiftLeft_zero, Nat.div_one, Nat.mod_one]
 cases w <;> simp
theorem iP {s : Bool} {q d : Nat} (hq : q ≠ 0) : Toward.even.cut s (q * 2 ^ d) d = q := by
 have hp : 0 < 2 ^ d := Nat.pow_pos (by decide)
 unfold Toward.cut
 rw [Mj hq, Nat.min_eq_left (by omega), Nat.one_shiftLeft]
 simp only [Nat.mul_div_cancel _ hp, Nat.mul_mod_left]
 have : (2 ^ d == 2 * 0) = false := by
   rw [beq_eq_false_iff_ne]; omega
 simp [this]
theorem iQ {s : Bool} {m d k : Nat} (hm : m ≠ 0) : Toward.even.cut s (m * 2 ^ k) (d + k) = Toward.even.cut s m d := by
 have hk : 0 < 2 ^ k := Nat.pow_pos (by decide)
 unfold Toward.cut
 rw [Mj hm, show min (d + k) (m.log2 + k + 2) = min d (m.log2 + 2) + k by omega]
 generalize min d (m.log2 + 2) = g
 rw [Nat.one_shiftLeft, Nat.one_shiftLeft, Nat.pow_add]
 have hg : 0 < 2 ^ g := Nat.pow_pos (by decide)
 have e1 : m * 2 ^ k / (2 ^ g * 2 ^ k) = m / 2 ^ g := Nat.mul_div_mul_right _ _ hk
 have e2 : m * 2 ^ k % (2 ^ g * 2 ^ k) = m % 2 ^ g * 2 ^ k := Nat.mul_mod_mul_right _ _ _
 simp only [e1, e2]
 have e3 : decide (2 ^ g * 2 ^ k < 2 * (m % 2 ^ g * 2 ^ k)) = decide (2 ^ g < 2 * (m % 2 ^ g)) := decide_eq_decide.2 (by
   rw [← Nat.mul_assoc]; exact Nat.mul_lt_mul_right hk)
 have e4 : (2 ^ g * 2 ^ k == 2 * (m % 2 ^ g * 2 ^ k)) = (2 ^ g == 2 * (m % 2 ^ g)) := by
   rw [← Nat.mul_assoc, Bool.eq_iff_iff, beq_iff_eq, beq_iff_eq]
   exact Nat.mul_left_inj (Nat.pos_iff_ne_zero.1 hk)
 rw [e3, e4]
theorem lp : double.leastPlace = -1074 := rfl
theorem fb : ((double.fractionBits : Nat) : Int) = 52 := by kernel_rfl
theorem MG {s : Bool} {m k : Nat} {p : Int} : double.nearest s (m * 2 ^ k) (p - k) = double.nearest s m p := by
 by_cases hm : m = 0
 · subst hm; rw [Nat.zero_mul]; unfold Format.nearest; simp
 have iX : m * 2 ^ k ≠ 0 := Nat.mul_ne_zero hm (Nat.pos_iff_ne_zero.1 (Nat.pow_pos (by decide)))
 unfold Format.nearest
 rw [if_neg hm, if_neg iX, Mj hm, show p - (k : Int) + ((m.log2 + k : Nat) : Int) - ((double.fractionBits : Nat) : Int) = p + (m.log2 : Nat) - ((double.fractionBits : Nat) : Int) by omega]
 generalize max (p + (m.log2 : Nat) - ((double.fractionBits : Nat) : Int)) double.leastPlace = L
 have key : Toward.even.cut s ((m * 2 ^ k) <<< (p - k - L).toNat) (L - (p - k)).toNat = Toward.even.cut s (m <<< (p - L).toNat) (L - p).toNat := by
   by_cases h1 : L ≤ p
   · have e0 : (L - p).toNat = 0 := by omega
     rw [e0, Ns, Nat.shiftLeft_eq, Nat.shiftLeft_eq]
     by_cases h2 : L ≤ p - k
     · rw [show (L - (p - k)).toNat = 0 by omega, Ns, Nat.mul_assoc, ← Nat.pow_add]
       congr 2; omega
     · rw [show (p - k - L).toNat = 0 by omega, Nat.pow_zero, Nat.mul_one]
       have : m * 2 ^ k = m * 2 ^ (p - L).toNat * 2 ^ (L - (p - k)).toNat := by
         rw [Nat.mul_assoc, ← Nat.pow_add]
         congr 2; omega
       rw [this, iP (Nat.mul_ne_zero hm (Nat.pos_iff_ne_zero.1 (Nat.pow_pos (by decide))))]
   · rw [show (p - k - L).toNat = 0 by omega, show (p - L).toNat = 0 by omega, Nat.shiftLeft_zero, Nat.shiftLeft_zero, show (L - (p - k)).toNat = (L - p).toNat + k by omega, iQ hm]
 dsimp only
 rw [key]
theorem TB {x : Nat} (hx : x < 18446744073709551616) (hn : (double.read x).isNaN = false) : double.write (double.read x) = x := by
 have e1 : double.signWeight = 9223372036854775808 := by kernel_rfl
 have e2 : double.binade = 4503599627370496 := by kernel_rfl
 have e3 : double.infRung = 9218868437227405312 := by kernel_rfl
 have hw : ∀ r, r = x % 9223372036854775808 → double.word (x / 9223372036854775808 % 2 == 1) r = x := fun r hr => by
   subst hr
   unfold Format.word
   rw [e1]
   split
   · rename_i h; rw [beq_iff_eq] at h; omega
   · rename_i h; rw [beq_iff_eq] at h; omega
 unfold Format.read at hn ⊢
 simp only [e1, e2, e3] at hn ⊢
 split
 · rename_i h1
   simp only [Format.write]
   unfold Format.nearest
   split
   · rename_i h0; exact hw 0 h0.symm
   · rename_i h0
     have hl : (x % 9223372036854775808).log2 < 52 := (Nat.log2_lt h0).2 (by omega)
     dsimp only
     rw [lp, fb, show max ((-1074 : Int) + ((x % 9223372036854775808).log2 : Nat) - 52) (-1074) = -1074 by omega]
     simp only [Int.sub_self, Int.toNat_zero, Nat.shiftLeft_zero, Ns, Nat.zero_mul, Nat.zero_add, e3]
     rw [Nat.min_eq_left (by omega)]
     exact hw _ rfl
 · split
   · rename_i h1 h2
     simp only [Format.write]
     unfold Format.nearest
     have hm : 4503599627370496 + x % 9223372036854775808 % 4503599627370496 ≠ 0 := by omega
     have hl : (4503599627370496 + x % 9223372036854775808 % 4503599627370496).log2 = 52 := by
       rw [Nat.log2_eq_iff hm]
       omega
     rw [if_neg hm, hl, lp, fb]
     dsimp only
     have hd : 1 ≤ x % 9223372036854775808 / 4503599627370496 := by omega
     rw [show max ((-1074 : Int) + ((x % 9223372036854775808 / 4503599627370496 - 1 : Nat) : Int) + ((52 : Nat) : Int) - 52) (-1074) = -1074 + ((x % 9223372036854775808 / 4503599627370496 - 1 : Nat) : Int) by omega]
     simp only [Int.sub_self, Int.toNat_zero, Nat.shiftLeft_zero, Ns, e2, e3]
     rw [show ((-1074 : Int) + ((x % 9223372036854775808 / 4503599627370496 - 1 : Nat) : Int) - -1074).toNat = x % 9223372036854775808 / 4503599627370496 - 1 by omega]
     refine hw _ ?_
     rw [Nat.min_eq_left (by omega)]
     omega
   · split
     · rename_i h1 h2 h3
       simp only [Format.write, e3]
       exact hw _ h3.symm
     · rename_i h1 h2 h3
       rw [if_neg h1, if_neg h2, if_neg h3] at hn
       simp [Datum.isNaN] at hn
theorem oP {x : Nat} (hx : x < 18446744073709551616) (hn : (double.read x).isNaN = false) : double.mul x 4607182418800017408 = some x := by
 have h1 : double.read 4607182418800017408 = .number false (1 * 2 ^ 52) (0 - (52 : Nat)) := by kernel_rfl
 have hw := TB hx hn
 unfold Format.mul
 rw [h1]
 cases hd : double.read x with
 | nan s t => rw [hd] at hn; cases hn
 | infinity s =>
   rw [hd] at hw
   simp only [Datum.product, Option.map_some, Bool.xor_false]
   rw [if_neg (by decide), Option.map_some, hw]
 | number s m i =>
   rw [hd] at hw
   simp only [Datum.product, Option.map_some, Bool.xor_false, Format.write] at hw ⊢
   rw [Nat.one_mul, show i + ((0 : Int) - ((52 : Nat) : Int)) = i - ((52 : Nat) : Int) by omega, MG, hw]
theorem add_zero' {x : Nat} (hx : x < 18446744073709551616) (hn : (double.read x).isNaN = false) (h0 : (double.read x).isZero = false) : double.add x 0 = some x := by
 have h1 : double.read 0 = .number false 0 (-1074) := by kernel_rfl
 have hw := TB hx hn
 unfold Format.add
 rw [h1]
 cases hd : double.read x with
 | nan s t => rw [hd] at hn; cases hn
 | infinity s =>
   rw [hd] at hw
   simp only [Datum.sum, Option.map_some]
   rw [hw]
 | number s m i =>
   rw [hd] at hw h0
   have hm : m ≠ 0 := fun e => by subst e; simp [Datum.isZero] at h0
   simp only [Datum.sum, Option.map_some, Format.write] at hw ⊢
   have hz : signed false 0 ((-1074 : Int) - min i (-1074)).toNat = 0 := by simp [signed]
   rw [hz, Int.add_zero]
   have hp : m * 2 ^ (i - min i (-1074)).toNat ≠ 0 := Nat.mul_ne_zero hm (Nat.pos_iff_ne_zero.1 (Nat.pow_pos (by decide)))
   obtain ⟨hs, ha, hb⟩ : signed s m (i - min i (-1074)).toNat ≠ 0 ∧ (signed s m (i - min i (-1074)).toNat).natAbs = m * 2 ^ (i - min i (-1074)).toNat ∧ decide (signed s m (i - min i (-1074)).toNat < 0) = s := by
     unfold signed
     rw [Nat.shiftLeft_eq]
     generalize m * 2 ^ (i - min i (-1074)).toNat = M at hp
     cases s
     · simp only [Bool.false_eq_true, if_false]
       exact ⟨by omega, by omega, decide_eq_false (by omega)⟩
     · simp only [if_true]
       exact ⟨by omega, by omega, decide_eq_true (by omega)⟩
   rw [if_neg hs]
   rw [ha, hb, show min i (-1074) = i - (((i - min i (-1074)).toNat : Nat) : Int) by omega]
   rw [show (i - (i - (((i - min i (-1074)).toNat : Nat) : Int))).toNat = (i - min i (-1074)).toNat by omega, MG, hw]
end TwW
end
section
namespace TwW
open Go Tw
theorem IK {k : ByteArray} {l : List Lb} (h : E3 (some k) l = 0) : ∀ x ∈ l, sle x.1 k = false := by
 induction l generalizing k with
 | nil => intro x hx; cases hx
 | cons y l ih =>
   obtain ⟨_, _, h3, h4⟩ := TA.1 h
   simp only [Option.any_some, Bool.not_eq_true] at h3
   intro x hx
   rcases List.mem_cons.1 hx with rfl | hx
   · exact h3
   · exact Y8 h3 (ih h4 x hx)
theorem Y9 (a : ByteArray) : sle a a = true := by unfold sle; simp
theorem ZA {a b : ByteArray} (h : sle a b = false) : sle b a = true := by
 cases hb : sle b a with
 | true => rfl
 | false => have := Y8 h hb; rw [Y9] at this; cases this
theorem cP {ls : List Lb} {k : ByteArray} (h : Cy ls k ≠ ⟨#[]⟩) : (k, Cy ls k) ∈ ls := by
 induction ls with
 | nil => exact absurd rfl h
 | cons x l ih =>
   unfold Cy at h ⊢
   split
   · rename_i e; rw [← e]; exact List.mem_cons_self ..
   · rename_i e; rw [if_neg e] at h; exact List.mem_cons_of_mem _ (ih h)
theorem JA {ls : List Lb} (h : ∀ x ∈ ls, x.1 ≠ A0) : Ai ls = ls := List.filter_eq_self.2 fun x hx => by
 unfold Cj
 simp [h x hx]
theorem Us (x : Lb) (l : List Lb) : Ai (x :: l) = if x.1 = A0 then Ai l else x :: Ai l := by
 unfold Ai
 rw [List.filter_cons]
 by_cases h : x.1 = A0
 · rw [if_pos h, if_neg (by simp [Cj, h])]
 · rw [if_neg h, if_pos (by simp [Cj, h])]
theorem ZB {w : ByteArray} (hw : w ≠ ⟨#[]⟩) : ∀ {a b : List Lb} {p q : Option ByteArray}, E3 p a = 0 → E3 q b = 0 → (A0, w) ∈ a → (A0, w) ∈ b → Ai a = Ai b → a = b
 | [], _, _, _, _, _, ha, _, _ => by cases ha
 | _ :: _, [], _, _, _, _, _, hb, _ => by cases hb
 | x :: a, y :: b, p, q, h1, h2, ha, hb, h => by
   obtain ⟨_, _, _, g1⟩ := TA.1 h1
   obtain ⟨_, _, _, g2⟩ := TA.1 h2
   have no : ∀ {k : ByteArray} {l : List Lb}, k = A0 → E3 (some k) l = 0 → ∀ z ∈ l, z.1 ≠ A0 := fun {k l} hk hl z hz e => by
     have := IK hl z hz
     rw [e, hk, Y9] at this; cases this
   rw [Us, Us] at h
   by_cases hx : x.1 = A0
   · have hxw : x = (A0, w) := by
       rcases List.mem_cons.1 ha with rfl | ha
       · rfl
       · exact absurd rfl (no hx g1 _ ha)
     by_cases hy : y.1 = A0
     · have hyw : y = (A0, w) := by
         rcases List.mem_cons.1 hb with rfl | hb
         · rfl
         · exact absurd rfl (no hy g2 _ hb)
       rw [if_pos hx, if_pos hy, JA (no hx g1), JA (no hy g2)] at h
       rw [hxw, hyw, h]
     · exfalso
       rw [if_pos hx, if_neg hy, JA (no hx g1)] at h
       have h3 : sle y.1 x.1 = false := IK g1 y (by rw [h]; exact List.mem_cons_self ..)
       have hbm : (A0, w) ∈ b := by
         rcases List.mem_cons.1 hb with e | hb
         · exact absurd (by rw [← e]) hy
         · exact hb
       have h4 : sle A0 y.1 = false := IK g2 _ hbm
       rw [hx] at h3
       have := ZA h3
       rw [this] at h4; cases h4
   · by_cases hy : y.1 = A0
     · exfalso
       rw [if_neg hx, if_pos hy, JA (no hy g2)] at h
       have h3 : sle x.1 y.1 = false := IK g2 x (by rw [← h]; exact List.mem_cons_self ..)
       have ham : (A0, w) ∈ a := by
         rcases List.mem_cons.1 ha with e | ha
         · exact absurd (by rw [← e]) hx
         · exact ha
       have h4 : sle A0 x.1 = false := IK g1 _ ham
       rw [hy] at h3
       have := ZA h3
       rw [this] at h4; cases h4
     · rw [if_neg hx, if_neg hy, List.cons.injEq] at h
       have ham : (A0, w) ∈ a := by
         rcases List.mem_cons.1 ha with e | ha
         · exact absurd (by rw [← e]) hx
         · exact ha
       have hbm : (A0, w) ∈ b := by
         rcases List.mem_cons.1 hb with e | hb
         · exact absurd (by rw [← e]) hy
         · exact hb
       rw [h.1, ZB hw g1 g2 ham hbm h.2]
def pJ (l : List Int) : Prop := ∀ x ∈ l, 0 ≤ x ∧ x < 256
theorem Nt {l : List Int} (h : pJ l) : (l.map fun x => UInt8.ofNat x.toNat).map (fun b => (b.toNat : Int)) = l := by
 rw [List.map_map]
 conv => rhs; rw [← List.map_id l]
 refine List.map_congr_left fun x hx => ?_
 have := h x hx
 simp only [Function.comp, id, UInt8.toNat_ofNat']
 omega
theorem str_inj {l m : List Int} (hl : pJ l) (hm : pJ m) (h : strOfNums l = strOfNums m) : l = m := by
 rw [← Nt hl, ← Nt hm, SJ, SJ] at h
 have := congrArg (fun b : ByteArray => b.data.toList) h
 rw [← Nt hl, ← Nt hm]
 exact congrArg _ this
theorem cQ : ∀ n : Nat, pJ (uv n) := by
 intro n
 induction n using Nat.strongRecOn with
 | _ n ih =>
   by_cases h : 128 ≤ n
   · rw [MZ h]
     intro x hx
     rcases List.mem_cons.1 hx with rfl | hx
     · omega
     · exact ih _ (by omega) x hx
   · rw [Em h]
     intro x hx
     rw [List.mem_singleton] at hx; omega
theorem ek (s : ByteArray) : pJ (ZX s) := fun x hx => by
 obtain ⟨u, _, rfl⟩ := List.mem_map.1 hx
 have := u.toNat_lt; omega
theorem pJ.app {l m : List Int} (h : pJ l) (g : pJ m) : pJ (l ++ m) := fun x hx => by
 rcases List.mem_append.1 hx with hx | hx
 · exact h x hx
 · exact g x hx
theorem ZC (ls : List Lb) : pJ (gA ls) := by
 unfold gA
 refine (cQ _).app fun x hx => ?_
 obtain ⟨y, _, hy⟩ := List.mem_flatMap.1 hx
 exact (((cQ _).app (ek _)).app ((cQ _).app (ek _))) x hy
theorem ZD : ∀ {a b : List Lb}, a.length = b.length → a.flatMap Lz = b.flatMap Lz → a = b
 | [], [], _, _ => rfl
 | [], _ :: _, h, _ => by simp at h
 | _ :: _, [], h, _ => by simp at h
 | x :: a, y :: b, hl, h => by
   rw [List.flatMap_cons, List.flatMap_cons, show Lz x = uv x.1.size ++ ZX x.1 ++ (uv x.2.size ++ ZX x.2) from rfl, show Lz y = uv y.1.size ++ ZX y.1 ++ (uv y.2.size ++ ZX y.2) from rfl] at h
   simp only [List.append_assoc] at h
   obtain ⟨h1, h⟩ := bB _ _ _ _ h
   obtain ⟨h2, h⟩ := List.append_inj h (by rw [LN, LN]; exact h1)
   obtain ⟨h3, h⟩ := bB _ _ _ _ h
   obtain ⟨h4, h⟩ := List.append_inj h (by rw [LN, LN]; exact h3)
   have e : x = y := Prod.ext (dt h2) (dt h4)
   rw [e, ZD (by simpa using hl) h]
theorem ZE {a b : List Lb} (h : Dr a = Dr b) : a = b := by
 have := str_inj (ZC a) (ZC b) h
 unfold gA at this
 obtain ⟨h1, h2⟩ := bB _ _ _ _ this
 exact ZD h1 h2
theorem oQ {w : ByteArray} {ss : List Sr} {t : Int} {e : El} (h : e ∈ AO FF (Ah w) ss t) : ∃ s ∈ ss, s.ls = e.ls ∧ Cy e.ls A0 = w ∧ ∃ p ∈ s.ps, p.2 = e.v := by
 obtain ⟨s, hs, h1⟩ := List.mem_filterMap.1 h
 split at h1
 · cases h1
 · rename_i p hl
   split at h1
   · cases h1
   · rename_i hn
     simp only [Option.some.injEq] at h1
     subst h1
     refine ⟨s, hs, rfl, ?_, p, (List.mem_filter.1 (List.mem_of_getLast? hl)).1, rfl⟩
     simp only [not_or, Bool.not_eq_false] at hn
     have h2 : JS [⟨1, A0, w⟩] s.ls = true := hn.2
     unfold JS at h2
     simp only [List.all_cons, List.all_nil, Bool.and_true] at h2
     unfold NT at h2
     simp only [if_true, decide_eq_true_eq] at h2
     exact h2
theorem TC {w : ByteArray} {T : List Nd} {st : List Int} (hw : w.size ≤ 256) : Cq (Ah w :: T) st = Cq T (st ++ [2]) := by
 have hf : E5 (Ah w) = true := by kernel_rfl
 have hm : Gt C8 (Ah w).mt = 0 := by
   show Gt C8 [⟨1, A0, w⟩] = 0
   unfold Gt
   simp only [List.length_singleton, List.all_cons, List.all_nil, Bool.and_true]
   rw [if_neg (by decide), if_pos]
   rw [show C8 A0 = true by decide, decide_eq_true hw]; rfl
 have hs : BO (Ah w) st = (0, st ++ [2]) := by
   unfold BO
   rw [if_neg (by rw [hf]; simp [Ah]), if_neg (by rw [hm]; decide)]
   simp [Ah, Ny]
 rw [Cq, hs]
 rfl
theorem Nu {w : ByteArray} {ss : List Sr} {t : Int} {T : List Nd} {st : List Vv} : G8 FF ss t (Ah w :: T) st = G8 FF ss t T (st ++ [⟨2, 0, AO FF (Ah w) ss t, []⟩]) := by
 rw [G8]
 have : C9 FF ss t (Ah w) (st.drop (st.length - (Ah w).parts.toNat)) = some ⟨2, 0, AO FF (Ah w) ss t, []⟩ := by
   unfold C9; rfl
 rw [this, Option.bind_some, show (Ah w).parts.toNat = 0 from rfl, Nat.sub_zero, List.take_length]
end TwW
end
section
namespace TwW
open Go Tw Go.RowKit Go.Proofs.Tryz
section
variable {σ σ' : Hp} {R : Rr} {p : Option Addr} {n c : Nat} {ss : List Sr}
theorem inst_err {T : List Nd} {t : Int} (h : (instF T ss t).1 ≠ 0) : (instF T ss t).2 = [] := by
 unfold instF at h ⊢
 split at h
 · rename_i h0; rw [if_pos h0]
 · rename_i h0
   rw [if_neg h0]
   split at h
   · rename_i h1; rw [if_pos h1]
   · rename_i h1
     rw [if_neg h1]
     split at h
     · rfl
     · exact absurd rfl h
abbrev AAJ (T : List Nd) (ss : List Sr) (t : Int) : List Sr := (instF T ss t).2.map fun e => ⟨e.ls, [(t, e.v)]⟩
theorem ZF {T : List Nd} (h : Modest [] ss) (hl : T.length ≤ 100) (ht : (T.all fun x => decide (x.text.size ≤ 100)) = true) : Modest T ss :=
 ⟨by omega, fun x hx => by have := of_decide_eq_true (List.all_eq_true.1 ht x hx); omega, h.s, h.ps, h.nn⟩
theorem IL {s : ByteArray} {ts : List Cl} {T : List Nd} {cl : Cl} {t : Int} (hg : Gl σ) (hs : Ag 2 E4 σ p n ss) (hS : SOk ss) (hM : Modest [] ss) (hl : Lx s.data.toList ts) (Hc : s.size ≤ 4096) (hz : pz 60 0 0 ts = some ([cl], T)) (hk : cl.kind = 0) (hn : decide (ts.length ≤ 100000) = true) (hT : decide (T.length ≤ 100) = true) (ht : (T.all fun x => decide (x.text.size ≤ 100)) = true)
   (h : ∀ (σ' : Hp) (p' : Option Addr) (n' c' : Nat), Ag 2 E4 σ' p' n' (AAJ T ss t) → Ext σ σ' → R (.returned (.tuple #[.slice p' n' c', .int .i64 (instF T ss t).1])) σ') :
   Spec prog 20 #[.string s, .slice p n c, .int .i64 t] σ R :=
 oM hg hs hS (ZF hM (of_decide_eq_true hT) ht) (Nat.le_trans (of_decide_eq_true hT) (by decide)) hl Hc (of_decide_eq_true hn) hz hk (fun σ' p' n' c' h0 hr hx => by rw [← h0]; exact h σ' p' n' c' hr hx) fun σ' BE hx => h σ' none 0 0 (by unfold AAJ; rw [inst_err BE]; exact Ag.nil) hx
end
theorem Kx (a b : ByteArray) : (a ++ b).data.toList = a.data.toList ++ b.data.toList := by rw [ByteArray.data_append, Array.toList_append]
theorem AAK {c u : UInt8} (h : (c == 61 || c == 33 || c == 60 || c == 62) = false) : Cj (bA [c, u]) Nq = false := by
 rw [Bool.eq_false_iff, ne_eq, BA]
 intro hm
 simp only [Bool.or_eq_false_iff, beq_eq_false_iff_ne] at h
 have key : ∀ x ∈ Nq, ∀ c u, x = bA [c, u] → c = 61 ∨ c = 33 ∨ c = 60 ∨ c = 62 := by
   intro x hx c u e
   have e0 := congrArg (fun y : ByteArray => y.data.toList[0]?) e
   simp only [Nq, List.mem_cons, List.not_mem_nil, or_false] at hx
   rcases hx with rfl | rfl | rfl | rfl | rfl | rfl <;> (simp [bA] at e0; simp [← e0])
 rcases key _ hm c u rfl with e | e | e | e
 · exact h.1.1.1 e
 · exact h.1.1.2 e
 · exact h.1.2 e
 · exact h.2 e
theorem Lx.sg {c : UInt8} {l : List UInt8} {ts : List Cl} (h1 : c ∈ oI) (h2 : (c == 61 || c == 33 || c == 60 || c == 62) = false) (h : Lx l ts) : Lx (c :: l) (Mq 5 (bA [c]) 0 :: ts) := Lx.one h1 (fun u _ => AAK h2) h
theorem cR {c : UInt8} {l : List UInt8} (h : Ot c = false) : ∀ u, (c :: l).head? = some u → Ot u = false := fun u hu => by cases hu; exact h
theorem WC {f : UInt8 → Bool} : ∀ u, ([] : List UInt8).head? = some u → f u = false := fun u hu => by cases hu
end TwW
end
section
namespace TwW
open Go Tw
abbrev se : Int := 4607182418800017408
theorem sf : Hb ⟨#[49]⟩ = se := by kernel_rfl
theorem si {v : Int} (h0 : 0 ≤ v) (h1 : v < 18446744073709551616) : Nx 3 v se = Ub v := by
 obtain ⟨x, rfl⟩ := Int.eq_ofNat_of_zero_le h0
 unfold Nx Ub
 rw [show se.toNat = 4607182418800017408 from rfl, Int.toNat_natCast]
 congr 1
 unfold Vo
 rw [show yy 3 x 4607182418800017408 = Ieee.double.mul x 4607182418800017408 from rfl]
 cases hn : Da x with
 | false =>
   rw [ID] at hn
   rw [oP (by omega) hn]
   rfl
 | true =>
   have ht : toF x = 9221120237041090560 := by unfold toF; rw [hn]; rfl
   rw [ht]
   rw [ID] at hn
   have : Ieee.double.mul x 4607182418800017408 = none := by
     unfold Ieee.Format.mul
     cases hd : Ieee.double.read x with
     | nan s k => rfl
     | infinity s => rw [hd] at hn; cases hn
     | number s m i => rw [hd] at hn; cases hn
   rw [this]; rfl
theorem eo {w s : ByteArray} {ss : List Sr} {t : Int} {op : Nat} {b : Bool} : A7 FF [Ah w, On s, Bg op b] ss t = CF FF (OW (Bg op b) (AO FF (Ah w) ss t) fun v => DA op v (Hb s)) := by
 unfold A7
 rw [Nu, List.nil_append, G8]
 have e1 : C9 FF ss t (On s) ([(⟨2, 0, AO FF (Ah w) ss t, []⟩ : Vv)].drop (1 - (On s).parts.toNat)) = some ⟨1, Hb s, [], []⟩ := by unfold C9; rfl
 show (Option.bind ((C9 FF ss t (On s) ([(⟨2, 0, AO FF (Ah w) ss t, []⟩ : Vv)].drop (1 - (On s).parts.toNat))).bind _) _) = _
 rw [e1, Option.bind_some]
 show (Option.bind (G8 FF ss t [Bg op b] [⟨2, 0, AO FF (Ah w) ss t, []⟩, ⟨1, Hb s, [], []⟩]) _) = _
 rw [G8]
 have e2 : C9 FF ss t (Bg op b) ([(⟨2, 0, AO FF (Ah w) ss t, []⟩ : Vv), ⟨1, Hb s, [], []⟩].drop (2 - (Bg op b).parts.toNat)) = (CF FF (OW (Bg op b) (AO FF (Ah w) ss t) fun v => DA op v (Hb s))).map fun l => ⟨2, 0, l, []⟩ := by
   unfold C9 bF; rfl
 show (Option.bind ((C9 FF ss t (Bg op b) ([(⟨2, 0, AO FF (Ah w) ss t, []⟩ : Vv), ⟨1, Hb s, [], []⟩].drop (2 - (Bg op b).parts.toNat))).bind _) _) = _
 rw [e2]
 cases CF FF (OW (Bg op b) (AO FF (Ah w) ss t) fun v => DA op v (Hb s)) <;> rfl
theorem et {op : Nat} {L : List El} {f : Int → Int × Bool} (h : DW op = false) : OW (Bg op false) L f = L.map fun x => ⟨Ai x.ls, (f x.v).1⟩ := by
 unfold OW
 rw [show DW (Bg op false).op = false from h]
 simp only [true_or, if_true]
 show List.filterMap (some ∘ fun x : El => (⟨Ai x.ls, (f x.v).1⟩ : El)) L = _
 rw [List.filterMap_eq_map]
end TwW
end
section
namespace TwW
open Go Tw Go.RowKit Go.Proofs.Tryz
section
variable {σ : Hp} {R : Rr} {p : Option Addr} {n c : Nat} {ss : List Sr} {t : Int} {s : ByteArray}
abbrev Mk : Cl := Mq 0 ⟨#[]⟩ 0
theorem gx6 (hp : S7 s = true) : Lx (s ++ (ByteArray.mk #[32, 42, 32, 49])).data.toList [Gw s, Mq 5 (bA [42]) 0, Mq 1 (bA [49]) 0, Mk] := by
 rw [Kx]
 show Lx (s.data.toList ++ (32 :: 42 :: 32 :: 49 :: [])) _
 exact Lx.w hp (cR (by decide)) (Lx.sp (Lx.sg (by decide) (by decide) (Lx.sp (Lx.dg (by decide) (by kernel_rfl) (by kernel_rfl) WC Lx.fin))))
theorem gz6 : pz 60 0 0 [Gw s, Mq 5 (bA [42]) 0, Mq 1 (bA [49]) 0, Mk] = some ([Mk], [Ah s, On ⟨#[49]⟩, Bg 3 false]) := by kernel_rfl
end
end TwW
end
section
namespace TwW
open Go Tw
theorem oR {ls : List Lb} (h : OV ls = 0) : E3 none ls = 0 := by
 unfold OV at h
 split at h
 · cases h
 · exact h
section
variable {w : ByteArray} {ss : List Sr} {t : Int}
theorem oS (Cv : Fh none ss = true) (hw : w ≠ ⟨#[]⟩) : (AO FF (Ah w) ss t).Pairwise fun a b => Ai a.ls ≠ Ai b.ls := by
 have hV := iO (n := Ah w) (t := t) Cv
 refine (List.Pairwise.and_mem.1 hV.up).imp fun {a b} hh e => ?_
 obtain ⟨ha, hb, Ax⟩ := hh
 have mem : ∀ {x : El}, x ∈ AO FF (Ah w) ss t → (A0, w) ∈ x.ls ∧ E3 none x.ls = 0 := fun {x} hx => by
   obtain ⟨_, _, _, hg, _⟩ := oQ hx
   refine ⟨?_, oR (hV.el x hx).1⟩
   have := cP (ls := x.ls) (k := A0) (by rw [hg]; exact hw)
   rw [hg] at this; exact this
 have := ZB hw (mem ha).2 (mem hb).2 (mem ha).1 (mem hb).1 e
 rw [(Au.eq _ _).2 this] at Ax
 exact absurd Ax (by decide)
theorem Ky {l : List El} (h : l.Pairwise fun a b => a.ls ≠ b.ls) : ∃ m, CF FF l = some m ∧ m.Perm l := by
 refine ⟨dz FF l, ?_, Gs l⟩
 unfold CF
 rw [if_pos]
 exact h.imp fun YJ e => YJ ((Au.eq _ _).1 e)
theorem sj : A7 FF [Ah w] ss t = some (AO FF (Ah w) ss t) := by
 unfold A7
 rw [Nu]; rfl
theorem iR (ls : List Lb) : Ai (Ai ls) = Ai ls := by
 unfold Ai
 rw [List.filter_filter]
 congr 1
 funext x
 simp
def Ti (l : List El) : List El := l.map fun x => ⟨Ai x.ls, Gu x.v⟩
theorem oT : A7 FF [Ah w, JZ, JZ] ss t = (CF FF (Ti (AO FF (Ah w) ss t))).bind fun m => CF FF (Ti m) := by
 unfold A7
 rw [Nu, List.nil_append, G8]
 have e1 : ∀ l : List El, C9 FF ss t JZ ([(⟨2, 0, l, []⟩ : Vv)].drop (1 - JZ.parts.toNat)) = (CF FF (Ti l)).map fun m => ⟨2, 0, m, []⟩ := fun l => by unfold C9 gF Ti; rfl
 show (Option.bind ((C9 FF ss t JZ ([(⟨2, 0, AO FF (Ah w) ss t, []⟩ : Vv)].drop (1 - JZ.parts.toNat))).bind _) _) = _
 rw [e1]
 cases CF FF (Ti (AO FF (Ah w) ss t)) with
 | none => rfl
 | some m =>
   rw [Option.map_some, Option.bind_some, Option.bind_some]
   show (Option.bind (G8 FF ss t [JZ] [⟨2, 0, m, []⟩]) _) = _
   rw [G8]
   show (Option.bind ((C9 FF ss t JZ ([(⟨2, 0, m, []⟩ : Vv)].drop (1 - JZ.parts.toNat))).bind _) _) = _
   rw [e1]
   cases CF FF (Ti m) <;> rfl
theorem ZG {α : Type} {k : ByteArray} {x : α} : ∀ {m : List (ByteArray × α)}, (∀ y ∈ m, y.1 ≠ k) → P1 m k x = m ++ [(k, x)]
 | [], _ => rfl
 | (a, b) :: m, h => by
   unfold P1
   rw [if_neg (h (a, b) (List.mem_cons_self ..)), ZG fun y hy => h y (List.mem_cons_of_mem _ hy)]; rfl
theorem ZH {n : Nd} : ∀ {L : List El} {m : List (ByteArray × El)}, L.Pairwise (fun a b => Hm n a.ls ≠ Hm n b.ls) → (∀ y ∈ m, ∀ x ∈ L, y.1 ≠ Dr (Hm n x.ls)) → L.foldl (fun m x => P1 m (Dr (Hm n x.ls)) x) m = m ++ L.map fun x => (Dr (Hm n x.ls), x)
 | [], m, _, _ => by simp
 | x :: L, m, h, hm => by
   obtain ⟨h1, h2⟩ := List.pairwise_cons.1 h
   rw [List.foldl_cons, ZG fun y hy => hm y hy x (List.mem_cons_self ..), ZH h2 (fun y hy z hz => ?_), List.map_cons, List.append_assoc]
   · rfl
   · rcases List.mem_append.1 hy with hy | hy
     · exact hm y hy z (List.mem_cons_of_mem _ hz)
     · rw [List.mem_singleton] at hy
       subst hy
       exact fun e => h1 z hz (ZE e)
theorem ZI {n : Nd} : ∀ {L : List El}, L.Pairwise (fun a b => Hm n a.ls ≠ Hm n b.ls) → ∀ {x : El}, x ∈ L → Cp (L.map fun x => (Dr (Hm n x.ls), x)) (Dr (Hm n x.ls)) = some x
 | [], _, x, hx => by cases hx
 | y :: L, h, x, hx => by
   obtain ⟨h1, h2⟩ := List.pairwise_cons.1 h
   rw [List.map_cons]
   unfold Cp
   rcases List.mem_cons.1 hx with rfl | hx
   · rw [if_pos rfl]
   · rw [if_neg (fun e => h1 x hx (ZE e)), ZI h2 hx]
theorem Ut {α : Type} {f : α → Option α} {p : α → Bool} : ∀ {l : List α}, (∀ x ∈ l, f x = if p x = true then some x else none) → l.filterMap f = l.filter p
 | [], _ => rfl
 | x :: l, h => by
   rw [List.filterMap_cons, h x (List.mem_cons_self ..), List.filter_cons, Ut fun y hy => h y (List.mem_cons_of_mem _ hy)]
   cases p x <;> rfl
theorem eu {op : Nat} {b : Bool} (ls : List Lb) : Hm (Bg op b) ls = Ai ls := by
 show (if (0 : Int) = 3 then UZ [] ls else Ai (SL [] ls)) = Ai ls
 rw [if_neg (by decide)]
 unfold SL
 rw [List.filter_eq_self.2 fun x _ => by simp [Cj]]
theorem iS {op : Nat} (hc : DW op = true) (h : (AO FF (Ah w) ss t).Pairwise fun a b => Ai a.ls ≠ Ai b.ls) :
   Kr FF (Bg op false) (AO FF (Ah w) ss t) (AO FF (Ah w) ss t) = some ((AO FF (Ah w) ss t).filter fun e => (DA op e.v e.v).2) := by
 generalize AO FF (Ah w) ss t = L at *
 have hp : L.Pairwise fun a b => Hm (Bg op false) a.ls ≠ Hm (Bg op false) b.ls := h.imp fun YJ => by rw [eu, eu]; exact YJ
 have hk : SM (Bg op false) L = L.map fun x => (Dr (Hm (Bg op false) x.ls), x) := by
   unfold SM
   rw [ZH hp (fun y hy => by cases hy), List.nil_append]
 have h1 : YH (Bg op false) L = true := by
   unfold YH
   rw [hk, List.length_map]
   exact decide_eq_true rfl
 unfold Kr
 rw [h1, Bool.and_self, if_pos rfl]
 congr 1
 refine Ut fun x hx => ?_
 have : PL (Bg op false) L (Hm (Bg op false) x.ls) = some x := by
   unfold PL
   rw [hk]; exact ZI hp hx
 rw [this]
 dsimp only
 rw [if_neg (by
                rintro (hh | hh)
                · rw [show DW (Bg op false).op = DW op from rfl, hc] at hh; cases hh
                · cases hh)]
 rfl
theorem sk {op : Nat} (h2 : ¬ (11 ≤ (op : Int) ∧ (op : Int) ≤ 13)) : A7 FF [Ah w, Ah w, Bg op false] ss t = (Kr FF (Bg op false) (AO FF (Ah w) ss t) (AO FF (Ah w) ss t)).bind (CF FF) := by
 unfold A7
 rw [Nu, Nu, List.nil_append, G8]
 have e2 : C9 FF ss t (Bg op false) ([(⟨2, 0, AO FF (Ah w) ss t, []⟩ : Vv), ⟨2, 0, AO FF (Ah w) ss t, []⟩].drop (2 - (Bg op false).parts.toNat)) = ((Kr FF (Bg op false) (AO FF (Ah w) ss t) (AO FF (Ah w) ss t)).bind (CF FF)).map fun l => ⟨2, 0, l, []⟩ := by
   show bF FF (Bg op false) ⟨2, 0, AO FF (Ah w) ss t, []⟩ ⟨2, 0, AO FF (Ah w) ss t, []⟩ = _
   unfold bF
   rw [if_neg (fun hh => absurd hh.1 (by decide : ¬ (2 : Int) = 1)), if_neg (by decide : ¬ (2 : Int) = 1), if_neg (by decide : ¬ (2 : Int) = 1), if_neg (show ¬ (11 ≤ (Bg op false).op ∧ (Bg op false).op ≤ 13) from h2)]
 show (Option.bind ((C9 FF ss t (Bg op false) ([(⟨2, 0, AO FF (Ah w) ss t, []⟩ : Vv), ⟨2, 0, AO FF (Ah w) ss t, []⟩].drop (2 - (Bg op false).parts.toNat))).bind _) _) = _
 rw [e2]
 cases (Kr FF (Bg op false) (AO FF (Ah w) ss t) (AO FF (Ah w) ss t)).bind (CF FF) <;> rfl
theorem ZJ {T : List Nd} (hT : JY T = some 2) (h : ¬ (Fh none ss = true ∧ -1099511627776 ≤ t ∧ t ≤ 1099511627776)) : (instF T ss t).1 = if Fh none ss = true then 221 else 224 := by
 have ha : E7 T ss = if Fh none ss = true then 0 else 224 := by
   unfold E7; rw [hT]; rfl
 unfold instF
 rw [ha]
 by_cases ho : Fh none ss = true
 · rw [if_pos ho, if_neg (by decide), if_pos (fun hh => h ⟨ho, hh⟩), if_pos ho]
 · rw [if_neg ho, if_pos (by decide), if_neg ho]
theorem IM {T : List Nd} {l : List El} (hT : JY T = some 2) (h : Fh none ss = true ∧ -1099511627776 ≤ t ∧ t ≤ 1099511627776) (hm : A7 FF T ss t = some l) : instF T ss t = (0, l) := by
 have ha : E7 T ss = 0 := by
   unfold E7; rw [hT, h.1]; rfl
 unfold instF
 rw [ha, if_neg (by decide), if_neg (not_not_intro h.2), hm]
theorem Uu {T : List Nd} (hw : w.size ≤ 256) (hl : T.length < 4096) (h : Cq T [2] = some [2]) : JY (Ah w :: T) = some 2 := by
 unfold JY
 rw [TC hw, List.nil_append, h]
 show (if (Ah w :: T).length ≤ 4096 then some (2 : Int) else none) = some 2
 rw [if_pos (by rw [List.length_cons]; omega)]
end
theorem ew {r : Nat} (hr : r < 2 ^ 63) : 2 ^ 63 ^^^ r = 2 ^ 63 + r := by
 have h1 := Nat.two_pow_add_eq_or_of_lt hr 1
 rw [Nat.mul_one] at h1
 rw [h1]
 refine Nat.eq_of_testBit_eq fun i => ?_
 rw [Nat.testBit_xor, Nat.testBit_or, Nat.testBit_two_pow]
 by_cases hi : 63 = i
 · subst hi
   rw [Nat.testBit_lt_two_pow hr]; rfl
 · rw [decide_eq_false hi, Bool.false_xor, Bool.false_or]
theorem oU {x : Nat} (hx : x < 2 ^ 64) : x ^^^ 2 ^ 63 = (x + 2 ^ 63) % 2 ^ 64 := by
 by_cases h : x < 2 ^ 63
 · rw [Nat.xor_comm, ew h]; omega
 · have hr : x - 2 ^ 63 < 2 ^ 63 := by omega
   have e : x = 2 ^ 63 ^^^ (x - 2 ^ 63) := by rw [ew hr]; omega
   have h2 : x ^^^ 2 ^ 63 = x - 2 ^ 63 := by
     conv => lhs; rw [e]
     rw [Nat.xor_comm (2 ^ 63), Nat.xor_assoc, Nat.xor_self, Nat.xor_zero]
   rw [h2]; omega
theorem ZK {x : Nat} (hx : x < 18446744073709551616) : Go.bits .xor .u64 (x : Int) 9223372036854775808 = (((x + 9223372036854775808) % 18446744073709551616 : Nat) : Int) := by
 have e : Go.bits .xor .u64 (x : Int) 9223372036854775808 = IntKind.u64.wrap (((BitVec.ofInt 64 (x : Int)) ^^^ (BitVec.ofInt 64 9223372036854775808)).toNat : Int) := rfl
 have h1 : (BitVec.ofInt 64 (x : Int)).toNat = x := by
   rw [BitVec.toNat_ofInt]
   have : (((2 ^ 64 : Nat) : Int)) = 18446744073709551616 := by decide
   omega
 have h2 : (BitVec.ofInt 64 9223372036854775808).toNat = 2 ^ 63 := rfl
 rw [e, BitVec.toNat_xor, h1, h2, oU hx]
 simp [IntKind.wrap, IntKind.bits, IntKind.signed]
theorem TD {x : Nat} : Da ((x + 9223372036854775808) % 18446744073709551616) = Da x := by
 rw [Bool.eq_iff_iff, IC, IC]
 omega
theorem AGa {v : Int} (h0 : 0 ≤ v) (h1 : v < 18446744073709551616) (hn : Da v.toNat = false) : Gu (Gu v) = v := by
 obtain ⟨x, rfl⟩ := Int.eq_ofNat_of_zero_le h0
 rw [Int.toNat_natCast] at hn
 have hx : x < 18446744073709551616 := by omega
 have e1 : Gu (x : Int) = (((x + 9223372036854775808) % 18446744073709551616 : Nat) : Int) := by
   unfold Gu
   rw [ZK hx]
   unfold Ub
   rw [Int.toNat_natCast]
   unfold toF
   rw [TD, hn, if_neg (by decide)]
 rw [e1]
 unfold Gu
 rw [ZK (Nat.mod_lt _ (by decide))]
 unfold Ub
 rw [Int.toNat_natCast]
 unfold toF
 rw [TD, TD, hn, if_neg (by decide)]
 omega
theorem AAL {v : Int} (h0 : 0 ≤ v) (hn : Da v.toNat = false) : Ub v = v := by
 unfold Ub toF
 rw [hn, if_neg (by decide), Int.toNat_of_nonneg h0]
theorem oV : Hb ⟨#[48]⟩ = 0 := by kernel_rfl
theorem oW {v : Int} (h0 : 0 ≤ v) (h1 : v < 18446744073709551616) (hn : Da v.toNat = false) (hz : (Ieee.double.read v.toNat).isZero = false) : Nx 1 v 0 = v := by
 obtain ⟨x, rfl⟩ := Int.eq_ofNat_of_zero_le h0
 rw [Int.toNat_natCast] at hn hz
 unfold Nx
 rw [Int.toNat_natCast, show (0 : Int).toNat = 0 from rfl]
 congr 1
 unfold Vo
 rw [show yy 1 x 0 = Ieee.double.add x 0 from rfl]
 have Tj := hn
 rw [ID] at Tj
 rw [add_zero' (by omega) Tj hz]
 show toF x = x
 unfold toF
 rw [hn]; rfl
theorem zero_eq {x : Nat} (h : (Ieee.double.read x).isZero = true) : Ieee.double.order x 0 = some .eq := by
 unfold Ieee.Format.order
 have h1 : Ieee.double.read 0 = .number false 0 (-1074) := by kernel_rfl
 rw [h1]
 cases hd : Ieee.double.read x with
 | nan s k => rw [hd] at h; cases h
 | infinity s => rw [hd] at h; cases h
 | number s m i =>
   rw [hd] at h
   cases m with
   | succ m => cases h
   | zero =>
     simp only [Ieee.Datum.order]
     have : ∀ s u, Ieee.signed s 0 u = 0 := fun s u => by unfold Ieee.signed; cases s <;> simp
     rw [this, this]; rfl
theorem oX (v : Int) : SS 5 v v = !Da v.toNat := by
 unfold SS fCm Da
 simp only [if_true, Bool.not_not]
 rfl
theorem TE {α : Type} {f : α → Bool} : ∀ l : List α, (l.filter f).length + (l.filter fun e => !f e).length = l.length
 | [] => rfl
 | x :: l => by
   have := TE (f := f) l
   rw [List.filter_cons, List.filter_cons, List.length_cons]
   cases f x <;> simp <;> omega
theorem ZL {w : ByteArray} {ss : List Sr} {t : Int} (Cv : Fh none ss = true ∧ -1099511627776 ≤ t ∧ t ≤ 1099511627776) (hw : w ≠ ⟨#[]⟩) (hw2 : w.size ≤ 256) (hv : ∀ s ∈ ss, ∀ p ∈ s.ps, 0 ≤ p.2 ∧ p.2 < 18446744073709551616) :
   ∃ L A B C D, instF [Ah w] ss t = (0, L) ∧ instF [Ah w, On ⟨#[49]⟩, Bg 3 false] ss t = (0, A) ∧ instF [Ah w, JZ, JZ] ss t = (0, B) ∧ instF [Ah w, Ah w, Bg 5 false] ss t = (0, C) ∧ instF [Ah w, On ⟨#[48]⟩, Bg 1 false] ss t = (0, D) ∧
     A.length = L.length ∧ B.length = L.length ∧ D.length = L.length ∧ C.length + (L.filter fun e => Da e.v.toNat).length = L.length ∧
     (∀ e ∈ L, 0 ≤ e.v) ∧ ∀ e ∈ L, Da e.v.toNat = false → (∃ a ∈ A, a.v = e.v) ∧ (∃ a ∈ B, a.v = e.v) ∧ ((Ieee.double.read e.v.toNat).isZero = false → ∃ a ∈ D, a.v = e.v) := by
 have hb := oS (t := t) Cv.1 hw
 have hr : ∀ e ∈ AO FF (Ah w) ss t, 0 ≤ e.v ∧ e.v < 18446744073709551616 := fun e he => by
   obtain ⟨s, hs, _, _, p, hp, hpv⟩ := oQ he
   rw [← hpv]; exact hv s hs p hp
 have mp : ∀ f : Int → Int, ((AO FF (Ah w) ss t).map fun x => (⟨Ai x.ls, f x.v⟩ : El)).Pairwise fun a b => a.ls ≠ b.ls := fun f => List.pairwise_map.2 hb
 obtain ⟨A, a1, a2⟩ := Ky (mp fun v => (DA (3 : Nat) v (Hb ⟨#[49]⟩)).1)
 obtain ⟨D, d1, d2⟩ := Ky (mp fun v => (DA (1 : Nat) v (Hb ⟨#[48]⟩)).1)
 obtain ⟨M, m1, m2⟩ := Ky (mp Gu)
 have hM : (Ti M).Pairwise fun a b => a.ls ≠ b.ls := by
   have h1 : (Ti ((AO FF (Ah w) ss t).map fun x => (⟨Ai x.ls, Gu x.v⟩ : El))).Pairwise fun a b => a.ls ≠ b.ls := by
     unfold Ti
     rw [List.map_map, List.pairwise_map]
     exact hb.imp fun YJ => by simp only [Function.comp, iR]; exact YJ
   exact ((m2.map (fun x => (⟨Ai x.ls, Gu x.v⟩ : El))).pairwise_iff (fun YJ e => YJ e.symm)).2 h1
 obtain ⟨B, b1, b2⟩ := Ky hM
 have hC : ((AO FF (Ah w) ss t).filter fun e => (DA (5 : Nat) e.v e.v).2).Pairwise fun a b => a.ls ≠ b.ls :=
   (List.Pairwise.sublist List.filter_sublist hb).imp fun YJ e => YJ (by rw [e])
 obtain ⟨C, c1, c2⟩ := Ky hC
 refine ⟨AO FF (Ah w) ss t, A, B, C, D, IM (Uu hw2 (by decide) (by kernel_rfl)) Cv sj, IM (Uu hw2 (by decide) (by kernel_rfl)) Cv ?_, IM (Uu hw2 (by decide) (by kernel_rfl)) Cv ?_, IM ?_ Cv ?_, IM (Uu hw2 (by decide) (by kernel_rfl)) Cv ?_, ?_, ?_, ?_, ?_, fun e he => (hr e he).1, fun e he hn => ⟨?_, ?_, fun hz => ?_⟩⟩
 · rw [eo, et (by decide)]; exact a1
 · rw [oT]
   show (CF FF ((AO FF (Ah w) ss t).map fun x => (⟨Ai x.ls, Gu x.v⟩ : El))).bind _ = _
   rw [m1]; exact b1
 · unfold JY
   rw [TC hw2, TC hw2, List.nil_append]
   have : Cq [Bg 5 false] ([2] ++ [2]) = some [2] := by kernel_rfl
   rw [this]; rfl
 · rw [sk (by decide), iS (by decide) hb]; exact c1
 · rw [eo, et (by decide)]; exact d1
 · rw [a2.length_eq, List.length_map]
 · rw [b2.length_eq]
   unfold Ti
   rw [List.length_map, m2.length_eq, List.length_map]
 · rw [d2.length_eq, List.length_map]
 · rw [c2.length_eq]
   have h1 : ((AO FF (Ah w) ss t).filter fun e => (DA (5 : Nat) e.v e.v).2) = (AO FF (Ah w) ss t).filter fun e => !Da e.v.toNat := by
     refine List.filter_congr fun e _ => ?_
     show SS 5 e.v e.v = _
     exact oX e.v
   rw [h1]
   have h2 := TE (f := fun e : El => Da e.v.toNat) (AO FF (Ah w) ss t)
   omega
 · refine ⟨⟨Ai e.ls, (DA (3 : Nat) e.v (Hb ⟨#[49]⟩)).1⟩, a2.mem_iff.2 (List.mem_map.2 ⟨e, he, rfl⟩), ?_⟩
   show (DA (3 : Nat) e.v (Hb ⟨#[49]⟩)).1 = e.v
   rw [sf]
   show Nx 3 e.v se = e.v
   rw [si (hr e he).1 (hr e he).2, AAL (hr e he).1 hn]
 · have hm : (⟨Ai e.ls, Gu e.v⟩ : El) ∈ M := m2.mem_iff.2 (List.mem_map.2 ⟨e, he, rfl⟩)
   refine ⟨⟨Ai (Ai e.ls), Gu (Gu e.v)⟩, b2.mem_iff.2 (List.mem_map.2 ⟨_, hm, rfl⟩), ?_⟩
   exact AGa (hr e he).1 (hr e he).2 hn
 · refine ⟨⟨Ai e.ls, (DA (1 : Nat) e.v (Hb ⟨#[48]⟩)).1⟩, d2.mem_iff.2 (List.mem_map.2 ⟨e, he, rfl⟩), ?_⟩
   show (DA (1 : Nat) e.v (Hb ⟨#[48]⟩)).1 = e.v
   rw [oV]
   exact oW (hr e he).1 (hr e he).2 hn hz
end TwW
end
section
namespace TwW
open Go Tw Go.RowKit Go.Proofs.Tryz
section
variable {σ : Hp} {R : Rr} {p : Option Addr} {n c : Nat} {ss : List Sr} {t : Int} {s : ByteArray}
abbrev AGb (t : Int) (l : List El) : List Sr := l.map fun e => ⟨e.ls, [(t, e.v)]⟩
theorem oY {l : List El} {i : Nat} {e : El} (hr : Ag 2 E4 σ p n (AGb t l)) (he : l[i]? = some e) : ∃ b o p1 n1 c1 b2 o2 d1, p = some ⟨b, o, none⟩ ∧ Av σ b (o + i * 2) [.slice p1 n1 c1, .slice (aD b2 o2) 1 d1] ∧ F7 σ p1 n1 e.ls ∧ Av σ b2 o2 [.int .i64 t, .int .u64 e.v] := by
 obtain ⟨b, o, p1, n1, c1, q1, m1, d1, rfl, EK, YO, hps, _⟩ := E4.at hr (i := i) (s := ⟨e.ls, [(t, e.v)]⟩) (by rw [List.getElem?_map, he]; rfl)
 have zX : 1 = m1 := hps.1
 subst zX
 obtain ⟨b2, o2, rfl, Yk⟩ := I1.at hps (i := 0) (x := (t, e.v)) rfl
 exact ⟨b, o, p1, n1, c1, b2, o2, d1, rfl, EK, YO, by simpa using Yk⟩
theorem TF {v : Int} {l : List El} (hr : Ag 2 E4 σ p n (AGb t l)) (hR : R (.returned (.bool (l.any fun e => decide (e.v = v)))) σ) : Spec prog 23 #[.slice p n c, .int .u64 v] σ R := by
 have hl : l.length = n := by have := hr.1; rwa [List.length_map] at this
 have Iz := hr.big
 refine H4.start ?_
 suffices H : ∀ g i : Nat, n - i = g → i ≤ n → (l.any fun e => decide (e.v = v)) = ((l.drop i).any fun e => decide (e.v = v)) → H4.GN R p n c v (i : Int) σ from H n 0 rfl (Nat.zero_le _) rfl
 intro g
 induction g with
 | zero =>
   intro i hg hi he
   rw [List.drop_eq_nil_of_le (by omega)] at he
   refine H4.A5 ⟨fun Ax => by omega, fun _ => ?_⟩
   rw [he] at hR; exact hR
 | succ g ih =>
   intro i hg hi he
   have Bb : i < n := by omega
   obtain ⟨e, hei⟩ : ∃ e, l[i]? = some e := ⟨_, List.getElem?_eq_getElem (by omega)⟩
   obtain ⟨b, o, p1, n1, c1, b2, o2, d1, rfl, EK, _, Yk⟩ := oY hr hei
   rw [A6 hei, List.any_cons] at he
   refine H4.A5 ⟨fun _ => ⟨b, o, rfl, by omega, aD b2 o2, 1, d1, by simpa using EK.2.1, fun _ => ⟨by omega, aD b2 o2, 1, d1, by simpa using EK.2.1, b2, o2, rfl, by decide, e.v, by simpa using Yk.2.1, fun hv => ?_, fun hv => ⟨AN Bb Iz, ih (i + 1) (by omega) (by omega) ?_⟩⟩, fun hh => absurd rfl hh⟩, fun hh => by omega⟩
   · rw [he, decide_eq_true hv, Bool.true_or] at hR; exact hR
   · rw [he, decide_eq_false hv, Bool.false_or]
theorem sx1 (hp : S7 s = true) : Lx s.data.toList [Gw s, Mk] := by
 have := Lx.w hp WC Lx.fin
 rwa [List.append_nil] at this
theorem sz1 : pz 60 0 0 [Gw s, Mk] = some ([Mk], [Ah s]) := by kernel_rfl
theorem sx3 (hp : S7 s = true) : Lx ((ByteArray.mk #[45, 45]) ++ s).data.toList [Mq 5 (bA [45]) 0, Mq 5 (bA [45]) 0, Gw s, Mk] := by
 rw [Kx]
 show Lx (45 :: 45 :: s.data.toList) _
 exact Lx.sg (by decide) (by decide) (Lx.sg (by decide) (by decide) (sx1 hp))
theorem sz3 : pz 60 0 0 [Mq 5 (bA [45]) 0, Mq 5 (bA [45]) 0, Gw s, Mk] = some ([Mk], [Ah s, JZ, JZ]) := by kernel_rfl
theorem sx4 (hp : S7 s = true) : Lx ((s ++ (ByteArray.mk #[32, 61, 61, 32])) ++ s).data.toList [Gw s, Mq 5 (bA [61, 61]) 0, Gw s, Mk] := by
 rw [Kx, Kx, List.append_assoc]
 show Lx (s.data.toList ++ (32 :: 61 :: 61 :: 32 :: s.data.toList)) _
 exact Lx.w hp (cR (by decide)) (Lx.sp (Lx.two (by decide) (Lx.sp (sx1 hp))))
theorem sz4 : pz 60 0 0 [Gw s, Mq 5 (bA [61, 61]) 0, Gw s, Mk] = some ([Mk], [Ah s, Ah s, Bg 5 false]) := by kernel_rfl
theorem sx5 (hp : S7 s = true) : Lx (s ++ (ByteArray.mk #[32, 43, 32, 48])).data.toList [Gw s, Mq 5 (bA [43]) 0, Mq 1 (bA [48]) 0, Mk] := by
 rw [Kx]
 show Lx (s.data.toList ++ (32 :: 43 :: 32 :: 48 :: [])) _
 exact Lx.w hp (cR (by decide)) (Lx.sp (Lx.sg (by decide) (by decide) (Lx.sp (Lx.dg (by decide) (by kernel_rfl) (by kernel_rfl) WC Lx.fin))))
theorem sz5 : pz 60 0 0 [Gw s, Mq 5 (bA [43]) 0, Mq 1 (bA [48]) 0, Mk] = some ([Mk], [Ah s, On ⟨#[48]⟩, Bg 1 false]) := by kernel_rfl
theorem WD (AMh : Awk) (hg : Gl σ) (hs : Ag 2 E4 σ p n ss) (hM : Modest [] ss) (hS : SOk ss) (hv : ∀ s ∈ ss, ∀ p ∈ s.ps, 0 ≤ p.2 ∧ p.2 < 18446744073709551616) (hw : s.size ≤ 4611686018427387904) (h : ∀ σ', Ext σ σ' → R (.returned (.bool true)) σ') :
   Spec prog 5 #[.slice p n c, .int .i64 t, .string s] σ R := by
 have awk : ∀ {Q : Rr}, ∀ σ', Ext σ σ' → (∀ σ2, Ext σ σ2 → Q (.returned (.bool true)) σ2) → Spec prog 14 #[] σ' (AA Q (CB fun t26 AF => Q (.returned (.bool t26)) AF)) := fun {Q} σ' hx hq => AMh σ' _ (hg.mono hx) fun σ2 A9 => ⟨_, rfl, hq σ2 (hx.trans A9)⟩
 refine A4.start (Y6 hw fun σ1 CK => ⟨_, rfl, fun _ => awk σ1 CK h, fun hp => ?_⟩)
 obtain ⟨_, BE, ASm, _⟩ := QR hp
 have e4 : ∀ a b c d : UInt8, ByteArray.size (ByteArray.mk #[a, b, c, d]) = 4 := fun _ _ _ _ => rfl
 have e2 : ∀ a b : UInt8, ByteArray.size (ByteArray.mk #[a, b]) = 2 := fun _ _ => rfl
 refine IL (hg.mono CK) (hs.mono E4.mono CK) hS hM (sx1 hp) (by omega) sz1 rfl (by kernel_rfl) (by kernel_rfl) (by kernel_rfl) fun σ2 p2 n2 c2 r2 x2 => ⟨_, _, _, _, rfl, by rw [e4]; omega, ?_⟩
 have X2 := CK.trans x2
 refine IL (hg.mono X2) (hs.mono E4.mono X2) hS hM (gx6 hp) (by rw [ByteArray.size_append, e4]; omega) gz6 rfl (by kernel_rfl) (by kernel_rfl) (by kernel_rfl) fun σ3 p3 n3 c3 r3 x3 => ⟨_, _, _, _, rfl, by rw [e2]; omega, ?_⟩
 have X3 := X2.trans x3
 refine IL (hg.mono X3) (hs.mono E4.mono X3) hS hM (sx3 hp) (by rw [ByteArray.size_append, e2]; omega) sz3 rfl (by kernel_rfl) (by kernel_rfl) (by kernel_rfl) fun σ4 p4 n4 c4 r4 x4 => ⟨_, _, _, _, rfl, by rw [e4]; omega, by rw [ByteArray.size_append, e4]; omega, ?_⟩
 have X4 := X3.trans x4
 refine IL (hg.mono X4) (hs.mono E4.mono X4) hS hM (sx4 hp) (by rw [ByteArray.size_append, ByteArray.size_append, e4]; omega) sz4 rfl (by kernel_rfl) (by kernel_rfl) (by kernel_rfl) fun σ5 p5 n5 c5 r5 x5 => ⟨_, _, _, _, rfl, by rw [e4]; omega, ?_⟩
 have X5 := X4.trans x5
 refine IL (hg.mono X5) (hs.mono E4.mono X5) hS hM (sx5 hp) (by rw [ByteArray.size_append, e4]; omega) sz5 rfl (by kernel_rfl) (by kernel_rfl) (by kernel_rfl) fun σ6 p6 n6 c6 r6 x6 => ⟨_, _, _, _, rfl, ?_⟩
 have X6 := X5.trans x6
 by_cases Yo : Fh none ss = true ∧ -1099511627776 ≤ t ∧ t ≤ 1099511627776
 case neg =>
   have y4 : JY [Ah s, Ah s, Bg 5 false] = some 2 := by
     unfold JY
     rw [TC (by omega), TC (by omega), List.nil_append]
     have : Cq [Bg 5 false] ([2] ++ [2]) = some [2] := by kernel_rfl
     rw [this]; rfl
   rw [ZJ (T := [Ah s]) (Uu (by omega) (by decide) (by kernel_rfl)) Yo, ZJ (T := [Ah s, On ⟨#[49]⟩, Bg 3 false]) (Uu (by omega) (by decide) (by kernel_rfl)) Yo]
   have hc : (if Fh none ss = true then (221 : Int) else 224) ≠ 0 := by split <;> decide
   exact ⟨fun _ => ⟨fun _ => ⟨fun _ => ⟨fun _ => awk σ6 X6 h, fun hh => absurd hc hh⟩, fun hh => absurd hc hh⟩, fun hh => absurd hc hh⟩, fun hh => absurd hc hh⟩
 case pos =>
 obtain ⟨L, A, B, C, D, i1, i2, i3, i4, i5, l1, l2, l3, l4, hnn, iT⟩ := ZL Yo BE (by omega) hv
 have q2 := r2.mono E4.mono (x3.trans (x4.trans (x5.trans x6)))
 have q3 := r3.mono E4.mono (x4.trans (x5.trans x6))
 have q4 := r4.mono E4.mono (x5.trans x6)
 have q5 := r5.mono E4.mono x6
 have q6 := r6
 unfold AAJ at q2 q3 q4 q5 q6
 rw [i1] at q2
 rw [i2] at q3
 rw [i3] at q4
 rw [i4] at q5
 rw [i5] at q6
 rw [i1, i2, i3, i4, i5]
 have m2 : L.length = n2 := by have := q2.1; rwa [List.length_map] at this
 have m3 : A.length = n3 := by have := q3.1; rwa [List.length_map] at this
 have m4 : B.length = n4 := by have := q4.1; rwa [List.length_map] at this
 have m5 : C.length = n5 := by have := q5.1; rwa [List.length_map] at this
 have m6 : D.length = n6 := by have := q6.1; rwa [List.length_map] at this
 have z : ∀ {P : Prop}, ((0 : Int) ≠ 0) → P := fun hh => absurd rfl hh
 refine ⟨z, fun _ => ⟨z, fun _ => ⟨z, fun _ => ⟨z, fun _ => ⟨z, fun _ => ⟨fun hh => absurd (by omega) hh, fun _ => ⟨fun hh => absurd (by omega) hh, fun _ => ⟨fun hh => absurd (by omega) hh, fun _ => ⟨fun hh => by omega, fun _ => ?_⟩⟩⟩⟩⟩⟩⟩⟩⟩
 have Iz := q2.big
 suffices H : ∀ g i : Nat, ∀ k : Nat, n2 - i = g → i ≤ n2 → k = ((L.take i).filter fun e => Da e.v.toNat).length → A4.qP R p2 n2 c2 p3 n3 c3 p4 n4 c4 p5 n5 c5 p6 n6 c6 (k : Int) (i : Int) σ6 from H n2 0 0 rfl (Nat.zero_le _) rfl
 intro g
 induction g with
 | zero =>
   intro i k rv hi hk
   rw [List.take_of_length_le (by omega)] at hk
   exact A4.dQ ⟨fun Ax => by omega, fun _ => ⟨by unfold AM; omega, fun _ => awk σ6 X6 h, fun hh => absurd (by omega) hh⟩⟩
 | succ g ih =>
   intro i k rv hi hk
   have Bb : i < n2 := by omega
   obtain ⟨e, hei⟩ : ∃ e, L[i]? = some e := ⟨_, List.getElem?_eq_getElem (by omega)⟩
   have hem := List.mem_of_getElem? hei
   obtain ⟨b, o, p1, n1, c1, b2, o2, d1, hpe, EK, _, Yk⟩ := oY q2 hei
   have vS : k ≤ i := by
     rw [hk]
     have := List.length_filter_le (fun e : El => Da e.v.toNat) (L.take i)
     rw [List.length_take] at this
     omega
   have next : ∀ k' : Nat, k' = ((L.take (i + 1)).filter fun e => Da e.v.toNat).length → A4.j7 R p2 n2 c2 p3 n3 c3 p4 n4 c4 p5 n5 c5 p6 n6 c6 (k' : Int) (i : Int) σ6 := fun k' G7 => A4.qR ⟨AN Bb Iz, ih (i + 1) k' (by omega) (by omega) G7⟩
   subst hpe
   have htk : L.take (i + 1) = L.take i ++ [e] := Ab hei
   refine A4.dQ ⟨fun _ => ⟨b, o, rfl, by omega, aD b2 o2, 1, d1, by simpa using EK.2.1, fun hh => absurd rfl hh, fun _ => ⟨by omega, aD b2 o2, 1, d1, by simpa using EK.2.1, b2, o2, rfl, by decide, e.v, by simpa using Yk.2.1, .y bL ⟨_, rfl, Da e.v.toNat, fun w _ => rfl, fun hn => ?_, fun hn => ?_⟩⟩⟩, fun hh => by omega⟩
   · refine ⟨by unfold AM; omega, ?_⟩
     have := next (k + 1) (by rw [htk, List.filter_append, List.length_append, ← hk, List.filter_cons, hn]; rfl)
     rw [show ((k + 1 : Nat) : Int) = (k : Int) + 1 by omega] at this
     exact this
   · obtain ⟨⟨a1, am, av⟩, ⟨b1, bm, bv⟩, hd⟩ := iT e hem hn
     have G7 : k = ((L.take (i + 1)).filter fun e => Da e.v.toNat).length := by rw [htk, List.filter_append, List.length_append, ← hk, List.filter_cons, hn]; rfl
     have cS : ∀ {M : List El} {x : El}, x ∈ M → x.v = e.v → (M.any fun y => decide (y.v = e.v)) = true := fun {M x} hx hxv => List.any_eq_true.2 ⟨x, hx, decide_eq_true hxv⟩
     refine TF q3 ⟨_, rfl, fun hf => ?_, fun _ => TF q4 ⟨_, rfl, fun hf => ?_, fun _ => TF q6 ⟨_, rfl, fun hf => ⟨!(Ieee.double.order e.v.toNat 0 == some .eq), fun w _ => rfl, fun ht => ?_, fun _ => next k G7⟩, fun _ => next k G7⟩⟩⟩
     · rw [cS am av] at hf; cases hf
     · rw [cS bm bv] at hf; cases hf
     · exfalso
       have hz : (Ieee.double.read e.v.toNat).isZero = false := by
         cases hz : (Ieee.double.read e.v.toNat).isZero with
         | false => rfl
         | true => rw [zero_eq hz] at ht; exact absurd ht (by decide)
       obtain ⟨d, dm, dv⟩ := hd hz
       rw [cS dm dv] at hf; cases hf
end
end TwW
end
section
namespace Go.Proofs.YtlmhidjgplomgaaGreatDoor.evalScalars
open Go Tw TwW TwW.Rw Go.ChangeShapes Go.WideShapes Go.ChangeAt Go.RowKit Go.Deep
open Go.Proofs.Tryz (f5 func5 params5)
abbrev ZM : Array Value := #[.slice none 0 0, .int .i64 0, .string ⟨#[]⟩]
noncomputable abbrev wW (os : Os) : World := (LX os).forCall (fun _ _ => 0) ⟨#[], ZM, []⟩
set_option maxRecDepth 1000000
theorem wHr (os : Os) : ((wW os).heap.toList.drop prog.globals.size).take ((begin prog (fun _ _ => 0) default).world.heap.size - prog.globals.size) = (begin prog (fun _ _ => 0) default).world.heap.toList.drop prog.globals.size := by kernel_rfl
theorem AMj (os : Os) : Input.okWideB prog (wW os) 5 ⟨#[], ZM, []⟩ = true := by kernel_rfl
theorem wHv (os : Os) : (wW os).variablesRefB prog = true := AMM os (args := ZM)
theorem reads (os : Os) {H : Type} (enc : TypeId × Value → H) : ∃ places, DataW.whole enc prog (wW os).memory f5.params.toList Rows.evalScalarsSpec.vars false ZM.toList 8 = some ([.nil, .lit (.int .i64 0), .lit (.string [])], [], places) :=
 ⟨[], by kernel_rfl⟩
theorem oZ (H : Type) (enc : TypeId × Value → H) (W : World) (base : Nat) (args : Array Value) (ds gs : List (DataW H)) (before : List MemPlace)
   (iT : ∀ (j : Nat) t v, f5.params[j]? = some t → args[j]? = some v → Value.okWide prog W .any base t v)
   (hW : DataW.Whole enc prog f5.params.toList Rows.evalScalarsSpec.vars false W args.toList ds gs before) (hk : Rows.uptoBulkAll (ds ++ gs) ≤ 1048576) (hL : laidMetH prog Laid W) (hsh : W.ShapedOpen prog) :
   Calls prog 5 args W fun e W' => ∃ v, e = .returned v ∧ Rows.evalScalarsSpec.post enc prog f5 false true false false W args v W' := by
 have hW' := hW
 obtain ⟨p, q, hA0, hV, rfl, hfz, hnd⟩ := hW
 have hA : DataW.TrodAll enc prog W 0 (fun _ => true) true f5.params.toList args.toList ds p := hA0
 rw [params5] at hA iT
 obtain ⟨v0, vs0, d0, ds0, p0, q0, JC, rfl, rfl, h0, r0⟩ := trodAll_cons hA
 obtain ⟨v1, vs1, d1, ds1, p1, q1, rfl, rfl, rfl, h1, r1⟩ := trodAll_cons r0
 obtain ⟨v2, vs2, d2, ds2, p2, q2, rfl, rfl, rfl, h2, r2⟩ := trodAll_cons r1
 obtain ⟨rfl, rfl, rfl⟩ := trodAll_nil r2
 obtain rfl : args = #[v0, v1, v2] := by cases args; simp_all
 obtain ⟨rfl, rfl⟩ := trodVars_none hV
 simp only [List.append_nil, Rows.uptoBulkAll] at hk
 obtain ⟨a0, n0, c0, Ze, rfl, hr0, hS0⟩ := nu (iT 0 23 v0 rfl rfl) h0 (by omega)
 obtain ⟨x1, rfl, rfl, _, w1⟩ := open_int Go.Proofs.Tryz.underlying2 (iT 1 2 v1 rfl rfl) h1
 obtain ⟨s2, rfl, rfl, rfl, w2⟩ := Go.ChangeMaps.open_string Go.Proofs.Tryz.underlying9 (iT 2 9 v2 rfl rfl) h2
 exact zm (by kernel_rfl) rfl rfl ⟨rfl, rfl, rfl⟩ hW' ((WD bq (AGO hL hsh) hr0 (zr hS0) (zt hS0) (zu hS0) (Nat.le_trans (iG (show Rows.uptoBulk _ ≤ _ by omega)) (by decide))) fun σ' hx => ⟨rfl, hx⟩)
theorem AAM : Go.Proofs.Tryz.checked.prog.inits.idxOf? 5 = none := by kernel_rfl
theorem witness (os : Os) (started : os.Started) (H : Type) (enc : TypeId × Value → H) : ∃ (w : World) (tape : Tape) (i : Input), w.os = os ∧ (w.forCall tape i).Shaped Go.Proofs.Tryz.checked.prog ∧ i.vars = [] ∧ Input.okWide Go.Proofs.Tryz.checked.prog (w.forCall tape i) .any w.heap.size 5 i ∧
     (Rows.OpenSpec.upto Rows.evalScalarsSpec).preRow enc Go.Proofs.Tryz.checked.prog f5 Rows.evalScalarsUptoRow.domain false Rows.evalScalarsUptoRow.laid (w.forCall tape i).memory i.args ∧ ({} : Assume).holds Go.Proofs.Tryz.checked.prog (lone (Frame.enter Go.Proofs.Tryz.checked.prog 5 i.args .normal) [] (w.forCall tape i)) := by
 obtain ⟨places, hx⟩ := reads os enc
 exact witness_row_atRef (enc := enc) (C := Go.Proofs.Tryz.checked) false (LX os) ZM rfl (wHv os) (wHr os) (AMj os)
     (OpenSpec.preRow_of_cond 8 hx (by as_aux_lemma => kernel_rfl) (fun k hk => by cases hk; as_aux_lemma => kernel_rfl) (by as_aux_lemma => kernel_rfl) (nw os _))
theorem lifted (os : Os) (started : os.Started) (H : Type) (enc : TypeId × Value → H) (F : Stop.Interp) :
   ReturnsInHanded {} Go.Proofs.Tryz.checked os 5 .any ((Rows.OpenSpec.upto Rows.evalScalarsSpec).preRow enc prog f5 Rows.evalScalarsUptoRow.domain false Rows.evalScalarsUptoRow.laid) (((Rows.OpenSpec.upto Rows.evalScalarsSpec).at F).post enc prog f5 false true false false) := by
 refine returnsInHanded_of_row (C := Go.Proofs.Tryz.checked) (s := Rows.OpenSpec.upto Rows.evalScalarsSpec) own started AAM func5 (witness os started H enc) ?_
 intro W base args ds gs before AGc hW _ AGd _ hL hsh _
 exact oZ H enc W base args ds gs before AGc hW (of_decide_eq_true (AGd _ rfl)) hL hsh
end Go.Proofs.YtlmhidjgplomgaaGreatDoor.evalScalars
end
