/-
  Part 6 of the proof that the law EvalCountersUptoCardSaid of the given program answers true for every input of the given statement; the input reads behind the call as it did. (The texts: packed from 14 texts. Names are shortened by the packing program, for the bound on size.)
-/
import Derived.Test.YtlmhidjgplomgaaGreatDoorA5
import Derived.Laws.FloatBits
import Ieee.Arith
import Derived.KernelRfl
set_option linter.all false
section
namespace TwW
open Go Tw Go.RowKit Go.Proofs.Tryz
section
variable {σ : Hp} {R : Rr}
end
def kwB (w : List UInt8) : Bool := match w with
 | [] => false
 | c :: w => Pn c && !BQ c && w.all Po
theorem Lx.kw {l : List UInt8} {ts : List Cl} (w : List UInt8) (hw : kwB w = true) (hl : ∀ u, l.head? = some u → Po u = false) (h : Lx l ts) : Lx (w ++ l) (He 3 (bA w) 0 :: ts) := by
 cases w with
 | nil => cases hw
 | cons c w =>
   unfold kwB at hw
   simp only [Bool.and_eq_true, Bool.not_eq_true', List.all_eq_true] at hw
   exact Lx.word hw.1.1 hw.1.2 hw.2 hl h
section
variable {σ : Hp} {R : Rr}
theorem nX {s : ByteArray} {ts r : List Cl} {T : List Nd} {f : Nat} {cl : Cl} {p : Option Addr} {n c : Nat} {ss : List Sr} {t : Int} (hg : Gl σ) (hs : Ag 2 GM σ p n ss) (hS : SOk ss) (hM : Modest T ss) (hT : T.length ≤ 1000000)
   (hl : Lx s.data.toList ts) (HW : s.size ≤ 4096) (hn : ts.length ≤ 100000) (hz : pz f 0 0 ts = some (cl :: r, T)) (hk : cl.kind = 0)
   (h : ∀ (σ' : Hp) (p' : Option Addr) (n' c' : Nat), (instF T ss t).1 = 0 → Ag 2 GM σ' p' n' ((instF T ss t).2.map fun e => ⟨e.ls, [(t, e.v)]⟩) → Ext σ σ' → R (.returned (.tuple #[.slice p' n' c', .int .i64 0])) σ')
   (h' : ∀ σ', (instF T ss t).1 ≠ 0 → Ext σ σ' → R (.returned (.tuple #[.slice none 0 0, .int .i64 (instF T ss t).1])) σ') :
   Spec prog 20 #[.string s, .slice p n c, .int .i64 t] σ R := by
 refine T8.start (bk hl HW hn hT hz hk fun σ1 p1 n1 c1 hr Cd => ⟨_, _, _, _, _, rfl, fun hh => absurd rfl hh, fun _ => ?_⟩)
 refine Vy (hs.mono GM.mono Cd) hS fun p2 c2 σ2 h2 A4 => ⟨_, _, _, rfl, ?_⟩
 refine inst_spec (hg.mono (Cd.trans A4)) (hr.mono MX.mono A4) h2 hM (fun τ p' n' c' σ' bs h0 hA hx => ⟨_, _, _, _, rfl, ?_⟩) fun σ' A3 hx => ⟨_, _, _, _, rfl, ?_⟩
 · exact h σ' p' n' c' h0 hA.rd ((Cd.trans A4).trans (hx.trans hA.ext))
 · exact h' σ' A3 ((Cd.trans A4).trans hx)
end
end TwW
end
section
namespace TwW
open Go Tw Go.RowKit Go.Proofs.Tryz
def cnV (v : Int) : Prop := (H4 v.toNat = false ∧ 0 ≤ v) ∨ v = 9221120237041090560
def AGD (l : List El) : Prop := l.Pairwise fun a b => CN a.ls b.ls < 0
def ElS (ss : List Sr) (e : El) : Prop := OQ e.ls = 0 ∧ (cnV e.v ∨ ∃ s ∈ ss, ∃ p ∈ s.ps, p.2 = e.v)
structure VS (ss : List Sr) (x : Vv) : Prop where
 el : ∀ e ∈ x.vec, ElS ss e
 up : AGD x.vec
 rg : ∀ r ∈ x.N5, OQ r.ls = 0
 one : x.kind = 1 → cnV x.v
end TwW
end
section
namespace TwW
open Ieee
theorem Mi {m k : Nat} (hm : m ≠ 0) : (m * 2 ^ k).log2 = m.log2 + k := by
 have h0 : m * 2 ^ k ≠ 0 := Nat.mul_ne_zero hm (Nat.pos_iff_ne_zero.1 (Nat.pow_pos (by decide)))
 apply Nat.le_antisymm
 · have := (Nat.log2_lt h0 (k := m.log2 + k + 1)).2 (by
     rw [show m.log2 + k + 1 = (m.log2 + 1) + k by omega, Nat.pow_add]
     exact Nat.mul_lt_mul_of_pos_right Nat.lt_log2_self (Nat.pow_pos (by decide)))
   omega
 · rw [Nat.le_log2 h0, Nat.pow_add]
   exact Nat.mul_le_mul_right _ (Nat.log2_self_le hm)
theorem Su (w : Toward) (s : Bool) (n : Nat) : w.cut s n 0 = n := by
 unfold Toward.cut
 simp only [Nat.zero_min, Nat.shiftLeft_zero, Nat.div_one, Nat.mod_one]
 cases w <;> simp
theorem gi {s : Bool} {q d : Nat} (hq : q ≠ 0) : Toward.even.cut s (q * 2 ^ d) d = q := by
 have hp : 0 < 2 ^ d := Nat.pow_pos (by decide)
 unfold Toward.cut
 rw [Mi hq, Nat.min_eq_left (by omega), Nat.one_shiftLeft]
 simp only [Nat.mul_div_cancel _ hp, Nat.mul_mod_left]
 have : (2 ^ d == 2 * 0) = false := by
   rw [beq_eq_false_iff_ne]; omega
 simp [this]
theorem gj {s : Bool} {m d k : Nat} (hm : m ≠ 0) : Toward.even.cut s (m * 2 ^ k) (d + k) = Toward.even.cut s m d := by
 have hk : 0 < 2 ^ k := Nat.pow_pos (by decide)
 unfold Toward.cut
 rw [Mi hm, show min (d + k) (m.log2 + k + 2) = min d (m.log2 + 2) + k by omega]
 generalize min d (m.log2 + 2) = g
 rw [Nat.one_shiftLeft, Nat.one_shiftLeft, Nat.pow_add]
 have hg : 0 < 2 ^ g := Nat.pow_pos (by decide)
 have e1 : m * 2 ^ k / (2 ^ g * 2 ^ k) = m / 2 ^ g := Nat.mul_div_mul_right _ _ hk
 have e2 : m * 2 ^ k % (2 ^ g * 2 ^ k) = m % 2 ^ g * 2 ^ k := Nat.mul_mod_mul_right _ _ _
 simp only [e1, e2]
 have e3 : decide (2 ^ g * 2 ^ k < 2 * (m % 2 ^ g * 2 ^ k)) = decide (2 ^ g < 2 * (m % 2 ^ g)) := decide_eq_decide.2 (by
   rw [← Nat.mul_assoc]; exact Nat.mul_lt_mul_right hk)
 have e4 : (2 ^ g * 2 ^ k == 2 * (m % 2 ^ g * 2 ^ k)) = (2 ^ g == 2 * (m % 2 ^ g)) := by
   rw [← Nat.mul_assoc, Bool.eq_iff_iff, beq_iff_eq, beq_iff_eq]
   exact Nat.mul_left_inj (Nat.pos_iff_ne_zero.1 hk)
 rw [e3, e4]
theorem lp : double.leastPlace = -1074 := rfl
theorem fb : ((double.fractionBits : Nat) : Int) = 52 := by kernel_rfl
theorem TQ {s : Bool} {m k : Nat} {p : Int} : double.nearest s (m * 2 ^ k) (p - k) = double.nearest s m p := by
 by_cases hm : m = 0
 · subst hm; rw [Nat.zero_mul]; unfold Format.nearest; simp
 have hY : m * 2 ^ k ≠ 0 := Nat.mul_ne_zero hm (Nat.pos_iff_ne_zero.1 (Nat.pow_pos (by decide)))
 unfold Format.nearest
 rw [if_neg hm, if_neg hY, Mi hm, show p - (k : Int) + ((m.log2 + k : Nat) : Int) - ((double.fractionBits : Nat) : Int) = p + (m.log2 : Nat) - ((double.fractionBits : Nat) : Int) by omega]
 generalize max (p + (m.log2 : Nat) - ((double.fractionBits : Nat) : Int)) double.leastPlace = L
 have key : Toward.even.cut s ((m * 2 ^ k) <<< (p - k - L).toNat) (L - (p - k)).toNat = Toward.even.cut s (m <<< (p - L).toNat) (L - p).toNat := by
   by_cases h1 : L ≤ p
   · have e0 : (L - p).toNat = 0 := by omega
     rw [e0, Su, Nat.shiftLeft_eq, Nat.shiftLeft_eq]
     by_cases h2 : L ≤ p - k
     · rw [show (L - (p - k)).toNat = 0 by omega, Su, Nat.mul_assoc, ← Nat.pow_add]
       congr 2; omega
     · rw [show (p - k - L).toNat = 0 by omega, Nat.pow_zero, Nat.mul_one]
       have : m * 2 ^ k = m * 2 ^ (p - L).toNat * 2 ^ (L - (p - k)).toNat := by
         rw [Nat.mul_assoc, ← Nat.pow_add]
         congr 2; omega
       rw [this, gi (Nat.mul_ne_zero hm (Nat.pos_iff_ne_zero.1 (Nat.pow_pos (by decide))))]
   · rw [show (p - k - L).toNat = 0 by omega, show (p - L).toNat = 0 by omega, Nat.shiftLeft_zero, Nat.shiftLeft_zero, show (L - (p - k)).toNat = (L - p).toNat + k by omega, gj hm]
 dsimp only
 rw [key]
def JJ (n : Int) : Nat := double.nearest (decide (n < 0)) n.natAbs 0
theorem GD {n : Int} (hn : n.natAbs < 9007199254740992) : ∃ k : Nat, double.read (JJ n) = .number (decide (n < 0)) (n.natAbs * 2 ^ k) (0 - (k : Int)) := by
 have e1 : double.signWeight = 9223372036854775808 := by kernel_rfl
 have e2 : double.binade = 4503599627370496 := by kernel_rfl
 have e3 : double.infRung = 9218868437227405312 := by kernel_rfl
 by_cases h0 : n = 0
 · subst h0
   obtain ⟨kq, hkq⟩ : ∃ k : Nat, (k : Int) = 1074 := ⟨1074, rfl⟩
   refine ⟨kq, ?_⟩
   have : JJ 0 = 0 := by unfold JJ Format.nearest; rfl
   rw [this]
   have : double.read 0 = .number false 0 (-1074) := by kernel_rfl
   rw [this, show (0 : Int).natAbs = 0 from rfl, Nat.zero_mul, hkq]; rfl
 · have hm : n.natAbs ≠ 0 := by omega
   have hl : n.natAbs.log2 < 53 := (Nat.log2_lt hm).2 (by omega)
   have hle := Nat.log2_self_le hm
   have As := Nat.lt_log2_self (n := n.natAbs)
   have hz : n.natAbs * 2 ^ (52 - n.natAbs.log2) < 9007199254740992 ∧ 4503599627370496 ≤ n.natAbs * 2 ^ (52 - n.natAbs.log2) := by
     constructor
     · have h2 := Nat.mul_lt_mul_of_pos_right As (Nat.pow_pos (n := 52 - n.natAbs.log2) (show 0 < 2 by decide))
       rw [← Nat.pow_add, show n.natAbs.log2 + 1 + (52 - n.natAbs.log2) = 53 by omega] at h2
       exact h2
     · have h2 := Nat.mul_le_mul_right (2 ^ (52 - n.natAbs.log2)) hle
       rw [← Nat.pow_add, show n.natAbs.log2 + (52 - n.natAbs.log2) = 52 by omega] at h2
       exact h2
   refine ⟨52 - n.natAbs.log2, ?_⟩
   have hf : JJ n = double.word (decide (n < 0)) ((1022 + n.natAbs.log2) * 4503599627370496 + n.natAbs * 2 ^ (52 - n.natAbs.log2)) := by
     unfold JJ Format.nearest
     rw [if_neg hm, lp, fb]
     dsimp only
     rw [show max ((0 : Int) + (n.natAbs.log2 : Nat) - 52) (-1074) = (n.natAbs.log2 : Nat) - 52 by omega, show ((0 : Int) - ((n.natAbs.log2 : Nat) - 52)).toNat = 52 - n.natAbs.log2 by omega, show (((n.natAbs.log2 : Nat) : Int) - 52 - 0).toNat = 0 by omega, Su, Nat.shiftLeft_eq, e2, e3, show ((((n.natAbs.log2 : Nat) : Int) - 52) - -1074).toNat = 1022 + n.natAbs.log2 by omega, Nat.min_eq_left (by omega)]
   rw [hf]
   generalize n.natAbs * 2 ^ (52 - n.natAbs.log2) = M at *
   generalize hg : n.natAbs.log2 = g at *
   have hw : ∀ s, double.word s ((1022 + g) * 4503599627370496 + M) % 9223372036854775808 = (1022 + g) * 4503599627370496 + M ∧ (double.word s ((1022 + g) * 4503599627370496 + M) / 9223372036854775808 % 2 == 1) = s := by
     intro s
     unfold Format.word
     rw [e1]
     cases s
     · rw [if_neg (by decide)]; refine ⟨by omega, ?_⟩; rw [beq_eq_false_iff_ne]; omega
     · rw [if_pos rfl]; refine ⟨by omega, ?_⟩; rw [beq_iff_eq]; omega
   unfold Format.read
   simp only [e1, e2, e3]
   rw [(hw _).1, (hw _).2, if_neg (by omega), if_pos (by omega), lp]
   congr 1
   · omega
   · omega
theorem eF {s : Bool} {m u : Nat} : signed s m u = (if s then -1 else 1) * ((m : Int) * 2 ^ u) := by
 unfold signed
 rw [Nat.shiftLeft_eq]
 cases s <;> simp
theorem nY {a b : Int} {i j : Nat} {s t : Bool} (ha : s = decide (a < 0)) (hb : t = decide (b < 0) ∨ (b = 0)) (hz : a + b ≠ 0 ∨ (s && t) = false) :
   (Datum.sum (.number s (a.natAbs * 2 ^ i) (0 - (i : Int))) (.number t (b.natAbs * 2 ^ j) (0 - (j : Int)))).map double.write = some (JJ (a + b)) := by
 simp only [Datum.sum, Option.map_some, Format.write, Option.some.injEq]
 have Se : min ((0 : Int) - (i : Int)) (0 - (j : Int)) = 0 - ((max i j : Nat) : Int) := by omega
 rw [Se, show ((0 : Int) - (i : Int) - (0 - ((max i j : Nat) : Int))).toNat = max i j - i by omega, show ((0 : Int) - (j : Int) - (0 - ((max i j : Nat) : Int))).toNat = max i j - j by omega]
 have hx : ∀ (c : Int) (u : Bool) (k : Nat), k ≤ max i j → (u = decide (c < 0) ∨ c = 0) → signed u (c.natAbs * 2 ^ k) (max i j - k) = c * 2 ^ (max i j) := fun c u k hk hu => by
   rw [eF]
   push_cast
   rw [Int.mul_assoc, ← Int.pow_add, show k + (max i j - k) = max i j by omega, ← Int.mul_assoc]
   congr 1
   rcases hu with rfl | rfl
   · by_cases hc : c < 0
     · rw [decide_eq_true hc, if_pos rfl]; omega
     · rw [decide_eq_false hc, if_neg (by decide)]; omega
   · simp
 rw [hx a s i (by omega) (.inl ha), hx b t j (by omega) hb, ← Int.add_mul]
 have hp : (0 : Int) < 2 ^ max i j := Int.pow_pos (by decide)
 by_cases h0 : a + b = 0
 · rw [h0, Int.zero_mul, if_pos rfl]
   rcases hz with hz | hz
   · exact absurd h0 hz
   · rw [hz]; unfold JJ Format.nearest; simp
 · have A3 : (a + b) * 2 ^ max i j ≠ 0 := Int.mul_ne_zero h0 (by omega)
   rw [if_neg A3]
   have hs : decide ((a + b) * 2 ^ max i j < 0) = decide (a + b < 0) := decide_eq_decide.2 ⟨fun h => by
     apply Decidable.byContradiction
     intro hc
     have := Int.mul_nonneg (show 0 ≤ a + b by omega) (Int.le_of_lt hp)
     omega, fun h => Int.mul_neg_of_neg_of_pos h hp⟩
   rw [hs, Int.natAbs_mul, show ((2 : Int) ^ max i j).natAbs = 2 ^ max i j by rw [Int.natAbs_pow]; rfl, TQ]
   rfl
theorem zn {a b : Int} (ha : a.natAbs < 9007199254740992) (hb : b.natAbs < 9007199254740992) : double.add (JJ a) (JJ b) = some (JJ (a + b)) := by
 obtain ⟨i, hi⟩ := GD ha
 obtain ⟨j, hj⟩ := GD hb
 unfold Format.add
 rw [hi, hj]
 refine nY rfl (.inl rfl) ?_
 by_cases h : a + b = 0
 · right
   by_cases h1 : a < 0
   · rw [decide_eq_false (show ¬ b < 0 by omega), Bool.and_false]
   · rw [decide_eq_false h1, Bool.false_and]
 · exact .inl h
theorem zo {a b : Int} (ha : 0 ≤ a ∧ a < 9007199254740992) (hb : b.natAbs < 9007199254740992) : double.sub (JJ a) (JJ b) = some (JJ (a - b)) := by
 obtain ⟨i, hi⟩ := GD (n := a) (by omega)
 obtain ⟨j, hj⟩ := GD hb
 unfold Format.sub
 rw [hi, hj]
 simp only [Datum.opposite]
 have e : b.natAbs = (-b).natAbs := by omega
 rw [e, show a - b = a + -b by omega]
 refine nY rfl ?_ (.inr (by rw [decide_eq_false (show ¬ a < 0 by omega), Bool.false_and]))
 by_cases h0 : b = 0
 · right; omega
 · left
   by_cases h1 : b < 0
   · rw [decide_eq_true h1, decide_eq_false (show ¬ -b < 0 by omega)]; rfl
   · rw [decide_eq_false h1, decide_eq_true (show -b < 0 by omega)]; rfl
theorem nZ {a b : Int} (ha : a.natAbs < 9007199254740992) (hb : b.natAbs < 9007199254740992) : double.order (JJ a) (JJ b) = some (compare a b) := by
 obtain ⟨i, hi⟩ := GD ha
 obtain ⟨j, hj⟩ := GD hb
 unfold Format.order
 rw [hi, hj]
 simp only [Datum.order, Option.some.injEq]
 have Se : min ((0 : Int) - (i : Int)) (0 - (j : Int)) = 0 - ((max i j : Nat) : Int) := by omega
 rw [Se, show ((0 : Int) - (i : Int) - (0 - ((max i j : Nat) : Int))).toNat = max i j - i by omega, show ((0 : Int) - (j : Int) - (0 - ((max i j : Nat) : Int))).toNat = max i j - j by omega]
 have hx : ∀ (c : Int) (k : Nat), k ≤ max i j → signed (decide (c < 0)) (c.natAbs * 2 ^ k) (max i j - k) = c * 2 ^ (max i j) := fun c k hk => by
   rw [eF]
   push_cast
   rw [Int.mul_assoc, ← Int.pow_add, show k + (max i j - k) = max i j by omega, ← Int.mul_assoc]
   congr 1
   by_cases hc : c < 0
   · rw [decide_eq_true hc, if_pos rfl]; omega
   · rw [decide_eq_false hc, if_neg (by decide)]; omega
 rw [hx a i (by omega), hx b j (by omega)]
 have hp : (0 : Int) < 2 ^ max i j := Int.pow_pos (by decide)
 rcases Int.lt_trichotomy a b with h | h | h
 · rw [Int.compare_eq_lt.2 h, Int.compare_eq_lt.2 (Int.mul_lt_mul_of_pos_right h hp)]
 · subst h; rw [Int.compare_eq_eq.2 rfl, Int.compare_eq_eq.2 rfl]
 · rw [Int.compare_eq_gt.2 h, Int.compare_eq_gt.2 (Int.mul_lt_mul_of_pos_right h hp)]
end TwW
end
section
namespace TwW
open Go Tw Go.RowKit Go.Proofs.Tryz
section
variable {σ σ' : Hp} {R : Rr} {p : Option Addr} {n c : Nat} {ss : List Sr}
theorem inst_err {T : List Nd} {t : Int} (h : (instF T ss t).1 ≠ 0) : (instF T ss t).2 = [] := by
 unfold instF at h ⊢
 split at h
 · rename_i h0; rw [if_pos h0]
 · rename_i h0
   rw [if_neg h0]
   split at h
   · rename_i h1; rw [if_pos h1]
   · rename_i h1
     rw [if_neg h1]
     split at h
     · rfl
     · exact absurd rfl h
abbrev zp (T : List Nd) (ss : List Sr) (t : Int) : List Sr := (instF T ss t).2.map fun e => ⟨e.ls, [(t, e.v)]⟩
theorem Y2 {T : List Nd} (h : Modest [] ss) (hl : T.length ≤ 100) (ht : (T.all fun x => decide (x.text.size ≤ 100)) = true) : Modest T ss :=
 ⟨by omega, fun x hx => by have := of_decide_eq_true (List.all_eq_true.1 ht x hx); omega, h.s, h.ps, h.nn⟩
theorem Ud {s : ByteArray} {ts : List Cl} {T : List Nd} {cl : Cl} {t : Int} (hg : Gl σ) (hs : Ag 2 GM σ p n ss) (hS : SOk ss) (hM : Modest [] ss) (hl : Lx s.data.toList ts) (HW : s.size ≤ 4096) (hz : pz 60 0 0 ts = some ([cl], T)) (hk : cl.kind = 0) (hn : decide (ts.length ≤ 100000) = true) (hT : decide (T.length ≤ 100) = true) (ht : (T.all fun x => decide (x.text.size ≤ 100)) = true)
   (h : ∀ (σ' : Hp) (p' : Option Addr) (n' c' : Nat), Ag 2 GM σ' p' n' (zp T ss t) → Ext σ σ' → R (.returned (.tuple #[.slice p' n' c', .int .i64 (instF T ss t).1])) σ') :
   Spec prog 20 #[.string s, .slice p n c, .int .i64 t] σ R :=
 nX hg hs hS (Y2 hM (of_decide_eq_true hT) ht) (Nat.le_trans (of_decide_eq_true hT) (by decide)) hl HW (of_decide_eq_true hn) hz hk (fun σ' p' n' c' h0 hr hx => by rw [← h0]; exact h σ' p' n' c' hr hx) fun σ' A3 hx => h σ' none 0 0 (by unfold zp; rw [inst_err A3]; exact Ag.nil) hx
end
theorem Nh (a b : ByteArray) : (a ++ b).data.toList = a.data.toList ++ b.data.toList := by rw [ByteArray.data_append, Array.toList_append]
theorem zq {c u : UInt8} (h : (c == 61 || c == 33 || c == 60 || c == 62) = false) : FU (bA [c, u]) Nf = false := by
 rw [Bool.eq_false_iff, ne_eq, R9]
 intro hm
 simp only [Bool.or_eq_false_iff, beq_eq_false_iff_ne] at h
 have key : ∀ x ∈ Nf, ∀ c u, x = bA [c, u] → c = 61 ∨ c = 33 ∨ c = 60 ∨ c = 62 := by
   intro x hx c u e
   have e0 := congrArg (fun y : ByteArray => y.data.toList[0]?) e
   simp only [Nf, List.mem_cons, List.not_mem_nil, or_false] at hx
   rcases hx with rfl | rfl | rfl | rfl | rfl | rfl <;> (simp [bA] at e0; simp [← e0])
 rcases key _ hm c u rfl with e | e | e | e
 · exact h.1.1.1 e
 · exact h.1.1.2 e
 · exact h.1.2 e
 · exact h.2 e
theorem Lx.sg {c : UInt8} {l : List UInt8} {ts : List Cl} (h1 : c ∈ nS) (h2 : (c == 61 || c == 33 || c == 60 || c == 62) = false) (h : Lx l ts) : Lx (c :: l) (He 5 (bA [c]) 0 :: ts) := Lx.one h1 (fun u _ => zq h2) h
theorem V3 {c : UInt8} {l : List UInt8} (h : Po c = false) : ∀ u, (c :: l).head? = some u → Po u = false := fun u hu => by cases hu; exact h
theorem na {c : UInt8} {l : List UInt8} (h : JS c = false) : ∀ u, (c :: l).head? = some u → JS u = false := fun u hu => by cases hu; exact h
end TwW
end
section
namespace TwW
open Go Tw Go.RowKit Go.Proofs.Tryz
section
variable {σ : Hp} {R : Rr} {p : Option Addr} {n c : Nat} {ss : List Sr} {t : Int} {s : ByteArray}
abbrev gk : Cl := He 0 ⟨#[]⟩ 0
end
end TwW
end
section
namespace TwW
open Go Tw
section
variable {w : ByteArray} {ss : List Sr} {t : Int}
theorem Ue {T : List Nd} {l : List El} (hT : Li T = some 2) (h : JQ none ss = true ∧ -1099511627776 ≤ t ∧ t ≤ 1099511627776) (hm : Bg FF T ss t = some l) : instF T ss t = (0, l) := by
 have ha : Fu T ss = 0 := by
   unfold Fu; rw [hT, h.1]; rfl
 unfold instF
 rw [ha, if_neg (by decide), if_neg (not_not_intro h.2), hm]
end
end TwW
end
section
namespace TwW
open Go Tw Go.RowKit Go.Proofs.Tryz
section
variable {σ : Hp} {R : Rr} {p : Option Addr} {n c : Nat} {ss : List Sr} {t : Int} {s : ByteArray}
abbrev AGE (t : Int) (l : List El) : List Sr := l.map fun e => ⟨e.ls, [(t, e.v)]⟩
theorem zr {l : List El} {i : Nat} {e : El} (hr : Ag 2 GM σ p n (AGE t l)) (he : l[i]? = some e) : ∃ b o p1 n1 c1 b2 o2 d1, p = some ⟨b, o, none⟩ ∧ Au σ b (o + i * 2) [.slice p1 n1 c1, .slice (aD b2 o2) 1 d1] ∧ Fj σ p1 n1 e.ls ∧ Au σ b2 o2 [.int .i64 t, .int .u64 e.v] := by
 obtain ⟨b, o, p1, n1, c1, q1, m1, d1, rfl, D8, YO, hps, _⟩ := GM.at hr (i := i) (s := ⟨e.ls, [(t, e.v)]⟩) (by rw [List.getElem?_map, he]; rfl)
 have zJ : 1 = m1 := hps.1
 subst zJ
 obtain ⟨b2, o2, rfl, Vp⟩ := Gp.at hps (i := 0) (x := (t, e.v)) rfl
 exact ⟨b, o, p1, n1, c1, b2, o2, d1, rfl, D8, YO, by simpa using Vp⟩
theorem Y3 {v : Int} {l : List El} (hr : Ag 2 GM σ p n (AGE t l)) (hR : R (.returned (.bool (l.any fun e => decide (e.v = v)))) σ) : Spec prog 23 #[.slice p n c, .int .u64 v] σ R := by
 have hl : l.length = n := by have := hr.1; rwa [List.length_map] at this
 have MV := hr.big
 refine Hv.start ?_
 suffices H : ∀ g i : Nat, n - i = g → i ≤ n → (l.any fun e => decide (e.v = v)) = ((l.drop i).any fun e => decide (e.v = v)) → Hv.I7 R p n c v (i : Int) σ from H n 0 rfl (Nat.zero_le _) rfl
 intro g
 induction g with
 | zero =>
   intro i hg hi he
   rw [List.drop_eq_nil_of_le (by omega)] at he
   refine Hv.BN ⟨fun As => by omega, fun _ => ?_⟩
   rw [he] at hR; exact hR
 | succ g ih =>
   intro i hg hi he
   have Bh : i < n := by omega
   obtain ⟨e, hei⟩ : ∃ e, l[i]? = some e := ⟨_, List.getElem?_eq_getElem (by omega)⟩
   obtain ⟨b, o, p1, n1, c1, b2, o2, d1, rfl, D8, _, Vp⟩ := zr hr hei
   rw [A2 hei, List.any_cons] at he
   refine Hv.BN ⟨fun _ => ⟨b, o, rfl, by omega, aD b2 o2, 1, d1, by simpa using D8.2.1, fun _ => ⟨by omega, aD b2 o2, 1, d1, by simpa using D8.2.1, b2, o2, rfl, by decide, e.v, by simpa using Vp.2.1, fun hv => ?_, fun hv => ⟨AN Bh MV, ih (i + 1) (by omega) (by omega) ?_⟩⟩, fun hh => absurd rfl hh⟩, fun hh => by omega⟩
   · rw [he, decide_eq_true hv, Bool.true_or] at hR; exact hR
   · rw [he, decide_eq_false hv, Bool.false_or]
end
end TwW
end
section
namespace TwW
open Go Tw
def Ef (n : Int) : Int := (JJ n : Nat)
theorem nc (n : Int) : Ap n = Ef n := rfl
theorem ng {n : Int} (h : n.natAbs < 9007199254740992) : H4 (JJ n) = false := by
 rw [LN]
 obtain ⟨k, hk⟩ := GD h
 rw [hk]; rfl
theorem nh {n : Int} (h : n.natAbs < 9007199254740992) : toF (JJ n) = JJ n := by
 unfold toF; rw [ng h, if_neg (by decide)]
theorem sE {a b : Int} (ha : a.natAbs < 4503599627370496) (hb : b.natAbs < 4503599627370496) : Ma 1 (Ef a) (Ef b) = Ef (a + b) := by
 unfold Ma Ef
 rw [Int.toNat_natCast, Int.toNat_natCast]
 congr 1
 unfold UL
 rw [show uh 1 (JJ a) (JJ b) = Ieee.double.add (JJ a) (JJ b) from rfl, zn (by omega) (by omega)]
 exact nh (by omega)
theorem sF {a b : Int} (ha : 0 ≤ a ∧ a < 4503599627370496) (hb : b.natAbs < 4503599627370496) : Ma 2 (Ef a) (Ef b) = Ef (a - b) := by
 unfold Ma Ef
 rw [Int.toNat_natCast, Int.toNat_natCast]
 congr 1
 unfold UL
 rw [show uh 2 (JJ a) (JJ b) = Ieee.double.sub (JJ a) (JJ b) from rfl, zo ⟨ha.1, by omega⟩ (by omega)]
 exact nh (by omega)
theorem zt {a b : Int} (ha : a.natAbs < 4503599627370496) (hb : b.natAbs < 4503599627370496) : TL 7 (Ef a) (Ef b) = decide (a < b) := by
 unfold TL Ef fCm
 rw [Int.toNat_natCast, Int.toNat_natCast, nZ (by omega) (by omega)]
 simp only [show ¬ (7 : Int) = 5 by decide, show ¬ (7 : Int) = 6 by decide, if_false, if_true]
 rw [Bool.eq_iff_iff, decide_eq_true_eq, beq_iff_eq, Option.some.injEq]
 exact Int.compare_eq_lt
def EA : List Int → Int
 | [] => 0
 | [_] => 0
 | a :: b :: l => (if a ≤ b then b - a else b) + EA (b :: l)
theorem Uf : ∀ (l : List Int) (p q : Int), EA (l ++ [p, q]) = EA (l ++ [p]) + (if p ≤ q then q - p else q)
 | [], p, q => by simp [EA]
 | [a], p, q => by simp [EA]
 | a :: b :: l, p, q => by
   have := Uf (b :: l) p q
   simp only [List.cons_append] at this ⊢
   simp only [EA]
   rw [this]; omega
def eG : List Int → Int
 | [] => 0
 | [_] => 0
 | a :: b :: l => (if b < a then a else 0) + eG (b :: l)
theorem Y4 : ∀ (a : Int) (l : List Int), EA (a :: l) = (l.getLast?.getD a) - a + eG (a :: l)
 | a, [] => by simp [EA, eG]
 | a, b :: l => by
   have := Y4 b l
   simp only [EA, eG]
   rw [this]
   have e : ((b :: l).getLast?.getD a) = l.getLast?.getD b := by
     cases l with
     | nil => rfl
     | cons c l => rw [List.getLast?_cons]; rfl
   rw [e]
   split <;> split <;> omega
theorem Ug : ∀ (l : List Int), (∀ x ∈ l, 0 ≤ x ∧ x < 1000) → 0 ≤ eG l ∧ eG l ≤ 1000 * l.length
 | [], _ => by simp [eG]
 | [_], _ => by simp [eG]
 | a :: b :: l, h => by
   have h1 := Ug (b :: l) fun x hx => h x (List.mem_cons_of_mem _ hx)
   have h2 := h a (List.mem_cons_self ..)
   simp only [eG, List.length_cons] at *
   split <;> omega
set_option maxRecDepth 100000 in
theorem ni {a b c M : Nat} (h1 : b ≤ a + 1000) (h2 : a + 1000 * (c + 1 + 1) < M) : b + 1000 * (c + 1) < M := by omega
set_option maxRecDepth 100000 in
theorem Uh : ∀ (l : List Int) (s : Int), (∀ x ∈ l, 0 ≤ x ∧ x < 1000) → s.natAbs + 1000 * l.length < 4503599627370496 → ((l.map Ef).zip (l.map Ef).tail).foldl JH (Ef s) = Ef (s + eG l)
 | [], s, _, _ => by simp [eG]
 | [_], s, _, _ => by simp [eG]
 | a :: b :: l, s, h, hb => by
   have ha := h a (List.mem_cons_self ..)
   have hbb := h b (by simp)
   simp only [List.map_cons, List.tail_cons, List.zip_cons_cons, List.foldl_cons]
   simp only [List.length_cons] at hb
   have e : JH (Ef s) (Ef a, Ef b) = Ef (s + if b < a then a else 0) := by
     unfold JH
     rw [zt (by omega) (by omega)]
     by_cases As : b < a
     · rw [decide_eq_true As, if_pos rfl, if_pos As, sE (by omega) (by omega)]
     · rw [decide_eq_false As, if_neg (by decide), if_neg As, Int.add_zero]
   have hs : (s + if b < a then a else 0).natAbs ≤ s.natAbs + 1000 := by split <;> omega
   rw [e]
   have hr : eG (a :: b :: l) = (if b < a then a else 0) + eG (b :: l) := rfl
   rw [hr, ← Int.add_assoc]
   generalize (s + if b < a then a else 0) = s' at *
   exact Uh (b :: l) s' (fun x hx => h x (List.mem_cons_of_mem _ hx)) (by rw [List.length_cons]; exact ni hs hb)
set_option maxRecDepth 100000 in
theorem sG {a : Int} {l : List Int} (h : ∀ x ∈ a :: l, 0 ≤ x ∧ x < 1000) (hl : l.length ≤ 1000) : JI ((a :: l).map Ef) = Ef (EA (a :: l)) := by
 have ha := h a (List.mem_cons_self ..)
 have mo : 0 ≤ l.getLast?.getD a ∧ l.getLast?.getD a < 1000 := by
   cases hq : l.getLast? with
   | none => exact ha
   | some z => exact h z (List.mem_cons_of_mem _ (List.mem_of_getLast? hq))
 have e1 : ((a :: l).map Ef).getLast?.getD 0 = Ef (l.getLast?.getD a) := by
   rw [List.getLast?_map, List.getLast?_cons]; rfl
 have e2 : ((a :: l).map Ef).head?.getD 0 = Ef a := rfl
 have hr := Ug (a :: l) h
 unfold JI
 rw [e1, e2, sF ⟨mo.1, by omega⟩ (by omega), Uh (a :: l) _ h (by simp only [List.length_cons] at *; omega), Y4]
theorem Y5 {s : Bool} {r : Nat} (h : r ≤ 9218868437227405312) : (Ieee.double.read (Ieee.double.word s r)).isNaN = false := by
 have e1 : Ieee.double.signWeight = 9223372036854775808 := by kernel_rfl
 have e2 : Ieee.double.binade = 4503599627370496 := by kernel_rfl
 have e3 : Ieee.double.infRung = 9218868437227405312 := by kernel_rfl
 have hw : Ieee.double.word s r % 9223372036854775808 = r := by
   unfold Ieee.Format.word
   rw [e1]
   split <;> omega
 unfold Ieee.Format.read
 simp only [e1, e2, e3, hw]
 split
 · rfl
 · split
   · rfl
   · rw [if_pos (by omega)]; rfl
theorem nj {s : Bool} {m : Nat} {p : Int} : (Ieee.double.read (Ieee.double.nearest s m p)).isNaN = false := by
 have e3 : Ieee.double.infRung = 9218868437227405312 := by kernel_rfl
 unfold Ieee.Format.nearest
 split
 · exact Y5 (by decide)
 · exact Y5 (by rw [e3]; exact Nat.min_le_right _ _)
theorem zu {a b : Int} (ha : a.natAbs < 4503599627370496) (hb : b.natAbs < 4503599627370496) (h0 : b ≠ 0) : ∃ r, Ieee.double.div (JJ a) (JJ b) = some r ∧ H4 r = false := by
 obtain ⟨i, hi⟩ := GD (n := a) (by omega)
 obtain ⟨j, hj⟩ := GD (n := b) (by omega)
 have hn : b.natAbs * 2 ^ j ≠ 0 := Nat.mul_ne_zero (by omega) (Nat.pos_iff_ne_zero.1 (Nat.pow_pos (by decide)))
 unfold Ieee.Format.div
 rw [hi, hj]
 simp only [Ieee.Datum.quotient]
 rw [if_neg hn, Option.map_some]
 exact ⟨_, rfl, by rw [LN]; exact nj⟩
section
variable {σ : Hp}
theorem sH {a b r : Nat} {Φ : Value → Hp → Prop} (hr : Ieee.double.div a b = some r) (h : Φ (.float .f64 r) σ) : AJ prog (Go.binOp .quo 51 (.float .f64 a) (.float .f64 b)) σ Φ :=
 H5 (v := .float .f64 r) (fun w => by
   have e : (Go.binOp .quo 51 (.float .f64 a) (.float .f64 b)).run prog w = (AEw a b (Ieee.double.div a b)).run prog w := by
     refine (show _ = (Op.floatArith .quo .f64 a b).run prog w from rfl).trans ?_; unfold Op.floatArith; simp only [FloatKind.format]; cases Ieee.double.div a b <;> rfl
   rw [e, hr]; rfl) h
end
theorem sI {a b : Int} {r : Nat} (hr : Ieee.double.div (JJ a) (JJ b) = some r) (hn : H4 r = false) : Ma 4 (Ef a) (Ef b) = (r : Int) := by
 unfold Ma Ef
 rw [Int.toNat_natCast, Int.toNat_natCast]
 unfold UL
 rw [show uh 4 (JJ a) (JJ b) = Ieee.double.div (JJ a) (JJ b) from rfl, hr]
 show ((toF r : Nat) : Int) = r
 unfold toF
 rw [hn, if_neg (by decide)]
end TwW
end
section
namespace TwW
open Go Tw
theorem Y6 {P : Nat → Prop} (hd : ∀ i, P (i + 1) → P i) : ∀ m, ∃ j, j ≤ m ∧ ∀ i, i < m → (P i ↔ i < j)
 | 0 => ⟨0, Nat.le_refl _, fun i hi => absurd hi (Nat.not_lt_zero _)⟩
 | m + 1 => by
   obtain ⟨j, hj, h⟩ := Y6 hd m
   by_cases hm : P m
   · have all : ∀ k i, i + k = m → P i := fun k => by
       induction k with
       | zero => intro i hi; rw [Nat.add_zero] at hi; subst hi; exact hm
       | succ k ih => intro i hi; exact hd i (ih (i + 1) (by omega))
     exact ⟨m + 1, Nat.le_refl _, fun i hi => ⟨fun _ => hi, fun _ => all (m - i) i (by omega)⟩⟩
   · refine ⟨j, by omega, fun i hi => ?_⟩
     by_cases h1 : i < m
     · exact h i h1
     · have : i = m := by omega
       subst this
       exact ⟨fun hp => absurd hp hm, fun hl => by omega⟩
theorem Kr {α : Type} {q : α → Bool} : ∀ {L : List α} {j : Nat}, (∀ i x, L[i]? = some x → (q x = true ↔ j ≤ i)) → L.filter q = L.drop j
 | [], j, _ => by simp
 | a :: L, 0, h => by
   rw [List.filter_cons, (h 0 a rfl).2 (Nat.le_refl _), if_pos rfl, Kr (j := 0) fun i x hx => ⟨fun _ => Nat.zero_le _, fun _ => (h (i + 1) x hx).2 (Nat.zero_le _)⟩]
   rfl
 | a :: L, j + 1, h => by
   have h0 : ¬ q a = true := fun hq => absurd ((h 0 a rfl).1 hq) (by omega)
   rw [List.filter_cons, if_neg h0, Kr (j := j) fun i x hx => (h (i + 1) x hx).trans (by omega)]
   rfl
def IC (d : Int) (vl : List Int) : List (Int × Int) := vl.mapIdx fun i v => ((i : Int) * d, Ef v)
abbrev kM : ByteArray := ⟨#[109]⟩
def nk (d : Int) (vl : List Int) : Sr := ⟨[(B8, kM)], IC d vl⟩
section
variable {d w t : Int} {vl : List Int} {j : Nat}
theorem Mj {i : Nat} : (IC d vl)[i]? = vl[i]?.map fun v => ((i : Int) * d, Ef v) := List.getElem?_mapIdx
theorem QD : (IC d vl).length = vl.length := List.length_mapIdx
theorem nq {v : Int} : IC d (vl ++ [v]) = IC d vl ++ [((vl.length : Int) * d, Ef v)] := List.mapIdx_concat
theorem sJ : (IC d vl).map Prod.snd = vl.map Ef := by
 apply List.ext_getElem?
 intro i
 rw [List.getElem?_map, Mj, List.getElem?_map]
 cases vl[i]? <;> rfl
theorem nr {v : Int} (h : v.natAbs < 9007199254740992) : Ef v ≠ Gk := fun e => by
 have h1 := ng h
 have h2 : JJ v = 9218868437227405314 := by unfold Ef Gk at e; omega
 rw [h2] at h1
 have : H4 9218868437227405314 = true := by kernel_rfl
 rw [this] at h1; cases h1
theorem gn (hd : ∀ i : Nat, i < vl.length → ((i : Int) * d ≤ t - w ↔ i < j)) (hj : j < vl.length) (ht : ∀ i : Nat, i < vl.length → (i : Int) * d ≤ t) (hv : ∀ v ∈ vl, 0 ≤ v ∧ v < 1000) :
   Fk FF (E9 kM w) [nk d vl] t = [⟨[(B8, kM)], (vl.drop j).map Ef⟩] := by
 have e1 : E6 (IC d vl) (t - (E9 kM w).back - (E9 kM w).width) (t - (E9 kM w).back) = (IC d vl).drop j := by
   unfold E6
   refine Kr fun i x hx => ?_
   rw [Mj] at hx
   obtain ⟨v, ou, rfl⟩ := Option.map_eq_some_iff.1 hx
   have hi := (List.getElem?_eq_some_iff.1 ou).1
   have a1 := hd i hi
   have a2 := ht i hi
   show (decide (t - 0 - w < (i : Int) * d) && decide ((i : Int) * d ≤ t - 0)) = true ↔ j ≤ i
   rw [Bool.and_eq_true, decide_eq_true_eq, decide_eq_true_eq]
   generalize (i : Int) * d = T at *
   omega
 have e2 : ((IC d vl).drop j).filter (fun p => decide (p.2 ≠ Gk)) = (IC d vl).drop j := by
   refine List.filter_eq_self.2 fun x hx => ?_
   obtain ⟨i, hi⟩ := List.mem_iff_getElem?.1 (List.mem_of_mem_drop hx)
   rw [Mj] at hi
   obtain ⟨v, ou, rfl⟩ := Option.map_eq_some_iff.1 hi
   have := hv v (List.mem_of_getElem? ou)
   exact decide_eq_true (nr (by omega))
 have e3 : ((IC d vl).drop j).map Prod.snd = (vl.drop j).map Ef := by rw [List.map_drop, sJ, List.map_drop]
 have e4 : (vl.drop j).map Ef ≠ [] := fun e => by
   have := congrArg List.length e
   rw [List.length_map, List.length_drop, List.length_nil] at this
   omega
 have e5 : FF.aZ (E9 kM w).mt [(B8, kM)] = true := by
   show Kk [⟨1, B8, kM⟩] [(B8, kM)] = true
   kernel_rfl
 unfold Fk
 simp only [List.filterMap_cons, List.filterMap_nil, nk]
 rw [e1, e2, e3, e5]
 cases hq : (vl.drop j).map Ef with
 | nil => exact absurd hq e4
 | cons a l => rfl
theorem nu {op : Nat} {ss : List Sr} : Bg FF [E9 kM w, C1 op] ss t = DL FF (Ly FF (C1 op) ⟨3, Ap w, [], Fk FF (E9 kM w) ss t⟩) := by
 unfold Bg
 rw [MW]
 have e1 : Gn FF ss t (E9 kM w) (([] : List Vv).drop (0 - (E9 kM w).parts.toNat)) = some ⟨3, Ap w, [], Fk FF (E9 kM w) ss t⟩ := by
   unfold Gn; rfl
 show (Option.bind ((Gn FF ss t (E9 kM w) (([] : List Vv).drop (0 - (E9 kM w).parts.toNat))).bind _) _) = _
 rw [e1, Option.bind_some]
 show (Option.bind (MW FF ss t [C1 op] [(⟨3, Ap w, [], Fk FF (E9 kM w) ss t⟩ : Vv)]) _) = _
 rw [MW]
 have e2 : Gn FF ss t (C1 op) ([(⟨3, Ap w, [], Fk FF (E9 kM w) ss t⟩ : Vv)].drop (1 - (C1 op).parts.toNat)) = (DL FF (Ly FF (C1 op) ⟨3, Ap w, [], Fk FF (E9 kM w) ss t⟩)).map fun l => ⟨2, 0, l, []⟩ := by
   unfold Gn; rfl
 show (Option.bind ((Gn FF ss t (C1 op) ([(⟨3, Ap w, [], Fk FF (E9 kM w) ss t⟩ : Vv)].drop (1 - (C1 op).parts.toNat))).bind _) _) = _
 rw [e2]
 cases DL FF (Ly FF (C1 op) ⟨3, Ap w, [], Fk FF (E9 kM w) ss t⟩) <;> rfl
theorem sK {e : El} : DL FF [e] = some [e] := by
 unfold DL
 rw [if_pos (List.pairwise_singleton ..)]
 rfl
theorem nw : DL FF [] = some [] := by
 unfold DL
 rw [if_pos List.Pairwise.nil]
 rfl
theorem zv (hd : 0 < d) (hl : 0 < vl.length) : JQ none [nk d vl] = true := by
 unfold JQ
 have h1 : OQ (nk d vl).ls = 0 := by
   show OQ [(B8, kM)] = 0
   kernel_rfl
 have h2 : MZ (nk d vl).ps = true := (Kl _).2 ⟨by show 0 < (IC d vl).length; rw [QD]; exact hl, fun i a b ha hb => by
   have ha : (IC d vl)[i]? = some a := ha
   have hb : (IC d vl)[i + 1]? = some b := hb
   rw [Mj] at ha hb
   obtain ⟨x, _, rfl⟩ := Option.map_eq_some_iff.1 ha
   obtain ⟨y, _, rfl⟩ := Option.map_eq_some_iff.1 hb
   show (i : Int) * d < ((i + 1 : Nat) : Int) * d
   rw [show ((i + 1 : Nat) : Int) = (i : Int) + 1 by omega, Int.add_mul, Int.one_mul]
   omega⟩
 rw [h1, h2]; rfl
end
theorem zw : ((List.range 501).all fun k => decide (k = 0) || (decide (Li [E9 kM (k : Int), C1 1] = some 2) && decide (Li [E9 kM (k : Int), C1 2] = some 2))) = true := by kernel_rfl
theorem nz {w : Int} (h : 1 ≤ w ∧ w ≤ 500) : Li [E9 kM w, C1 1] = some 2 ∧ Li [E9 kM w, C1 2] = some 2 := by
 have := List.all_eq_true.1 zw w.toNat (List.mem_range.2 (by omega))
 simp only [Bool.or_eq_true, Bool.and_eq_true, decide_eq_true_eq] at this
 rw [Int.toNat_of_nonneg (by omega)] at this
 rcases this with h0 | h1
 · omega
 · exact h1
theorem gq {d w t : Int} {vl : List Int} {j : Nat} (hd : 0 < d) (hw : 1 ≤ w ∧ w ≤ 500) (hl : vl.length ≤ 200) (hc : ∀ i : Nat, i < vl.length → ((i : Int) * d ≤ t - w ↔ i < j)) (hj : j < vl.length) (ht : ∀ i : Nat, i < vl.length → (i : Int) * d ≤ t)
   (hb : -1099511627776 ≤ t ∧ t ≤ 1099511627776) (hv : ∀ v ∈ vl, 0 ≤ v ∧ v < 1000) :
   instF [E9 kM w, C1 2] [nk d vl] t = (0, if (vl.drop j).length < 2 then [] else [⟨[], Ef (EA (vl.drop j))⟩]) ∧
   instF [E9 kM w, C1 1] [nk d vl] t = (0, if (vl.drop j).length < 2 then [] else [⟨[], Ma 4 (Ef (EA (vl.drop j))) (Ef w)⟩]) := by
 have hr := gn hc hj ht hv
 have hvd : ∀ v ∈ vl.drop j, 0 ≤ v ∧ v < 1000 := fun v ou => hv v (List.mem_of_mem_drop ou)
 have D8 : (vl.drop j).length ≤ 200 := by rw [List.length_drop]; omega
 have dV : (vl.drop j) ≠ [] → JI ((vl.drop j).map Ef) = Ef (EA (vl.drop j)) := by
   generalize vl.drop j = K at *
   cases K with
   | nil => exact fun hh => absurd rfl hh
   | cons a l => exact fun _ => sG hvd (by rw [List.length_cons] at D8; omega)
 have A3 : ¬ (vl.drop j).length < 2 → (vl.drop j) ≠ [] := fun h e => by rw [e] at h; exact h (by decide)
 have AGF : C0 [(B8, kM)] = [] := by kernel_rfl
 have key : ∀ {op : Nat} {x : Int}, HJ op ((vl.drop j).map Ef) (Ap w) = (if (vl.drop j).length < 2 then none else some x) → Bg FF [E9 kM w, C1 op] [nk d vl] t = some (if (vl.drop j).length < 2 then [] else [⟨[], x⟩]) := fun {op x} ho => by
   rw [nu, hr]
   unfold Ly
   have e : ([(⟨[(B8, kM)], (vl.drop j).map Ef⟩ : Rg)].filterMap fun s => (FF.over (C1 op).op s.vs (Ap w)).map fun v => (⟨C0 s.ls, v⟩ : El)) = if (vl.drop j).length < 2 then [] else [⟨[], x⟩] := by
     simp only [List.filterMap_cons, List.filterMap_nil]
     rw [show FF.over (C1 op).op ((vl.drop j).map Ef) (Ap w) = _ from ho]
     by_cases h2 : (vl.drop j).length < 2
     · rw [if_pos h2, if_pos h2]; rfl
     · rw [if_neg h2, if_neg h2, Option.map_some, AGF]
   rw [List.map_nil, List.nil_append, e]
   split
   · exact nw
   · exact sK
 have o2 : HJ 2 ((vl.drop j).map Ef) (Ap w) = if (vl.drop j).length < 2 then none else some (Ef (EA (vl.drop j))) := by
   unfold HJ
   simp only [show ¬ (2 : Int) = 4 by decide, show ¬ (2 : Int) = 5 by decide, show ¬ (2 : Int) = 6 by decide, show ¬ (2 : Int) = 7 by decide, show ¬ (2 : Int) = 8 by decide, show ¬ (2 : Int) = 9 by decide, show ¬ (2 : Int) = 10 by decide, show ¬ (2 : Int) = 3 by decide, if_false, if_true, List.length_map]
   by_cases h2 : (vl.drop j).length < 2
   · rw [if_pos h2, if_pos h2]
   · rw [if_neg h2, if_neg h2, dV (A3 h2)]
 have o1 : HJ 1 ((vl.drop j).map Ef) (Ap w) = if (vl.drop j).length < 2 then none else some (Ma 4 (Ef (EA (vl.drop j))) (Ef w)) := by
   unfold HJ
   simp only [show ¬ (1 : Int) = 4 by decide, show ¬ (1 : Int) = 5 by decide, show ¬ (1 : Int) = 6 by decide, show ¬ (1 : Int) = 7 by decide, show ¬ (1 : Int) = 8 by decide, show ¬ (1 : Int) = 9 by decide, show ¬ (1 : Int) = 10 by decide, show ¬ (1 : Int) = 3 by decide, show ¬ (1 : Int) = 2 by decide, if_false, if_true, List.length_map]
   by_cases h2 : (vl.drop j).length < 2
   · rw [if_pos h2, if_pos h2]
   · rw [if_neg h2, if_neg h2, dV (A3 h2), nc]
 have ok := zv hd (by omega : 0 < vl.length)
 exact ⟨Ue (nz hw).2 ⟨ok, hb⟩ (key (op := 2) o2), Ue (nz hw).1 ⟨ok, hb⟩ (key (op := 1) o1)⟩
end TwW
end
section
namespace TwW
open Go Tw Go.RowKit Go.Proofs.Tryz
def txF : Nat → Int → ByteArray → Bool → ByteArray
 | 0, _, s, _ => s
 | f + 1, x, s, t => if t = true ∨ 0 < x then txF f (x / 10) (strOfNums [48 + x % 10] ++ s) false else s
section
variable {σ σ0 : Hp} {R : Rr}
theorem Ui : ∀ (f : Nat) (x : Int) (s : ByteArray) (t : Bool) (σ : Hp), 0 ≤ x → x ≤ 1000000 → x + (if t then 1 else 0) < f → s.size + f ≤ 100000 → (∀ σ', Ext σ σ' → R (.returned (.string (txF f x s t))) σ') → GZ.BT R x s t σ
 | 0, x, s, t, σ, h0, _, h2, _, _ => by exfalso; split at h2 <;> omega
 | f + 1, x, s, t, σ, h0, h1, h2, h3, h => by
   have go : (t = true ∨ 0 < x) → (10 ≠ (0 : Int) ∧ Df (Int.tmod x 10) fun x11 => AK (48 + x11) ∧ Df (IntKind.u8.wrap (48 + x11)) fun Bl => Al σ fun BB => AJ prog (convert 90 9 (.slice (aD BB 0) 1 1)) (Hp.set σ BB (.cells #[.int .u8 Bl] 5 (0, 0))) (CT fun oJ y => (ByteArray.size oJ + ByteArray.size s ≤ 9223372036854775807) ∧ 10 ≠ (0 : Int) ∧ Df (IntKind.i64.wrap (Int.tdiv x 10)) fun Ck => GZ.BT R Ck (oJ ++ s) false y)) := fun hc => by
     refine ⟨by decide, fun x11 ZJ => ?_⟩
     have rI : x11 = x % 10 := ZJ.trans (Int.tmod_eq_emod_of_nonneg h0)
     subst rI
     refine ⟨by unfold AK; omega, fun Bl h13 BB h14 => ?_⟩
     have e13 : Bl = 48 + x % 10 := by rw [h13]; simp [IntKind.wrap, IntKind.bits, IntKind.signed]; omega
     subst e13
     have HW : (strOfNums [48 + x % 10]).size = 1 := strOfNums_size _
     refine Yj (xs := [48 + x % 10]) (Di.ZY (SA (f := .int .u8) (Hp.AB _ _ _))) ⟨_, rfl, by rw [HW]; omega, by decide, fun Ck h19 => ?_⟩
     have e19 : Ck = x / 10 := by
       rw [h19, Int.tdiv_eq_ediv_of_nonneg h0]; simp [IntKind.wrap, IntKind.bits, IntKind.signed]; omega
     subst e19
     refine Ui f (x / 10) _ false _ (by omega) (by omega) ?_ (by rw [ByteArray.size_append, HW]; omega) fun σ' hx => ?_
     · rw [if_neg (by decide)]
       rcases hc with ht | hp
       · subst ht; rw [if_pos rfl] at h2; omega
       · split at h2 <;> omega
     · have := h σ' ((Ext.set h14).trans hx)
       rw [txF, if_pos hc] at this
       exact this
   refine GZ.A5 ⟨fun ht => go (.inl ht), fun hf => ⟨fun hp => go (.inr hp), fun hn => ?_⟩⟩
   have := h σ (.refl _)
   rw [txF, if_neg (by
     rintro (hh | hh)
     · rw [hf] at hh; cases hh
     · exact hn hh)] at this
   exact this
def tx (w : Int) : ByteArray := txF 1000 w ⟨#[]⟩ true
theorem Uj {w : Int} (hw : 0 ≤ w ∧ w ≤ 500) (h : ∀ σ', Ext σ σ' → R (.returned (.string (tx w))) σ') : Spec prog 26 #[.int .i64 w] σ R :=
 GZ.start (Ui 1000 w _ true σ hw.1 (by omega) (by rw [if_pos rfl]; omega) (by decide) h)
def vG (w : Nat) : Bool := match (tx w).data.toList ++ [115] with
 | [] => false
 | c :: r => BQ c && r.all JS && decide (Mh (bA (c :: r)) = (w : Int)) && decide (r.length ≤ 10)
theorem oA : ((List.range 501).all fun k => decide (k = 0) || vG k) = true := by kernel_rfl
theorem sL {w : Int} (hw : 1 ≤ w ∧ w ≤ 500) : ∃ c r, (tx w).data.toList ++ [115] = c :: r ∧ BQ c = true ∧ (∀ u ∈ r, JS u = true) ∧ Mh (bA (c :: r)) = w ∧ (tx w).size ≤ 10 := by
 have h := List.all_eq_true.1 oA w.toNat (List.mem_range.2 (by omega))
 have hn : ((w.toNat : Nat) : Int) = w := Int.toNat_of_nonneg (by omega)
 simp only [Bool.or_eq_true, decide_eq_true_eq] at h
 rcases h with h | h
 · omega
 unfold vG at h
 rw [hn] at h
 cases hq : (tx w).data.toList ++ [115] with
 | nil => rw [hq] at h; cases h
 | cons c r =>
   rw [hq] at h
   simp only [Bool.and_eq_true, decide_eq_true_eq, List.all_eq_true] at h
   refine ⟨c, r, rfl, h.1.1.1, h.1.1.2, h.1.2, ?_⟩
   have e := congrArg List.length hq
   simp only [List.length_append, List.length_cons, List.length_nil] at e
   have : (tx w).size = (tx w).data.toList.length := (Array.length_toList ..).symm
   rw [this]
   have := h.2
   omega
theorem cx2 {w : Int} {c : UInt8} {r : List UInt8} (e : (tx w).data.toList ++ [115] = c :: r) (h1 : BQ c = true) (h2 : ∀ u ∈ r, JS u = true) (h3 : Mh (bA (c :: r)) = w) (hw : 1 ≤ w) :
   Lx (((ByteArray.mk #[105, 110, 99, 114, 101, 97, 115, 101, 40, 109, 91]) ++ tx w) ++ (ByteArray.mk #[115, 93, 41])).data.toList [He 3 (bA [105, 110, 99, 114, 101, 97, 115, 101]) 0, He 5 (bA [40]) 0, He 3 (bA [109]) 0, He 5 (bA [91]) 0, He 2 (bA (c :: r)) w, He 5 (bA [93]) 0, He 5 (bA [41]) 0, gk] := by
 rw [Nh, Nh]
 have e2 : [115, 93, 41] = [115] ++ ([93, 41] : List UInt8) := rfl
 rw [List.append_assoc, show (ByteArray.mk #[115, 93, 41]).data.toList = [115] ++ ([93, 41] : List UInt8) from rfl, ← List.append_assoc (tx w).data.toList, e]
 show Lx ([105, 110, 99, 114, 101, 97, 115, 101] ++ (40 :: ([109] ++ (91 :: ((c :: r) ++ [93, 41]))))) _
 refine Lx.kw _ (by decide) (V3 (by decide)) (Lx.sg (by decide) (by decide) (Lx.kw _ (by decide) (V3 (by decide)) (Lx.sg (by decide) (by decide) ?_)))
 have := Lx.span (w := r) h1 h2 (na (by decide)) (by rw [h3]; omega) (Lx.sg (c := 93) (by decide) (by decide) (Lx.sg (c := 41) (by decide) (by decide) Lx.fin))
 rw [h3] at this
 exact this
theorem cx1 {w : Int} {c : UInt8} {r : List UInt8} (e : (tx w).data.toList ++ [115] = c :: r) (h1 : BQ c = true) (h2 : ∀ u ∈ r, JS u = true) (h3 : Mh (bA (c :: r)) = w) (hw : 1 ≤ w) :
   Lx (((ByteArray.mk #[114, 97, 116, 101, 40, 109, 91]) ++ tx w) ++ (ByteArray.mk #[115, 93, 41])).data.toList [He 3 (bA [114, 97, 116, 101]) 0, He 5 (bA [40]) 0, He 3 (bA [109]) 0, He 5 (bA [91]) 0, He 2 (bA (c :: r)) w, He 5 (bA [93]) 0, He 5 (bA [41]) 0, gk] := by
 rw [Nh, Nh]
 rw [List.append_assoc, show (ByteArray.mk #[115, 93, 41]).data.toList = [115] ++ ([93, 41] : List UInt8) from rfl, ← List.append_assoc (tx w).data.toList, e]
 show Lx ([114, 97, 116, 101] ++ (40 :: ([109] ++ (91 :: ((c :: r) ++ [93, 41]))))) _
 refine Lx.kw _ (by decide) (V3 (by decide)) (Lx.sg (by decide) (by decide) (Lx.kw _ (by decide) (V3 (by decide)) (Lx.sg (by decide) (by decide) ?_)))
 have := Lx.span (w := r) h1 h2 (na (by decide)) (by rw [h3]; omega) (Lx.sg (c := 93) (by decide) (by decide) (Lx.sg (c := 41) (by decide) (by decide) Lx.fin))
 rw [h3] at this
 exact this
theorem cz2 {s : ByteArray} {w : Int} : pz 60 0 0 [He 3 (bA [105, 110, 99, 114, 101, 97, 115, 101]) 0, He 5 (bA [40]) 0, He 3 (bA [109]) 0, He 5 (bA [91]) 0, He 2 s w, He 5 (bA [93]) 0, He 5 (bA [41]) 0, gk] = some ([gk], [E9 kM w, C1 2]) := by kernel_rfl
theorem cz1 {s : ByteArray} {w : Int} : pz 60 0 0 [He 3 (bA [114, 97, 116, 101]) 0, He 5 (bA [40]) 0, He 3 (bA [109]) 0, He 5 (bA [91]) 0, He 2 s w, He 5 (bA [93]) 0, He 5 (bA [41]) 0, gk] = some ([gk], [E9 kM w, C1 1]) := by kernel_rfl
def Ks (x : Int) : Int := Go.bits .and .i64 x 9223372036854775807
theorem zx (x : Int) : 0 ≤ Ks x ∧ Ks x ≤ 9223372036854775807 := by
 constructor
 · have h2 : (BitVec.ofInt 64 9223372036854775807).toNat = 9223372036854775807 := rfl
   have e : Ks x = IntKind.i64.wrap (((BitVec.ofInt 64 x) &&& (BitVec.ofInt 64 9223372036854775807)).toNat : Int) := rfl
   rw [e, BitVec.toNat_and, h2]
   have hle : (BitVec.ofInt 64 x).toNat &&& 9223372036854775807 ≤ 9223372036854775807 := Nat.and_le_right
   generalize (BitVec.ofInt 64 x).toNat &&& 9223372036854775807 = y at hle
   simp [IntKind.wrap, IntKind.bits, IntKind.signed]; omega
 · have := (bits_within .and .i64 x 9223372036854775807).2
   have e2 : IntKind.max .i64 = 9223372036854775807 := rfl
   rw [e2] at this; exact this
theorem ID {x : Int} (h : R (.returned (.int .i64 (Ks x))) σ) : Spec prog 24 #[.int .i64 x] σ R := XY.start fun x4 h4 => by rw [h4]; exact h
theorem oB {n : Int} {Φ : Value → Hp → Prop} (h : Φ (.float .f64 (JJ n)) σ) : AJ prog (convert 3 51 (.int .i64 n)) σ Φ := H5 (v := .float .f64 (FloatKind.f64.nearest n)) (fun w => by kernel_rfl) h
theorem AGH {n : Int} {Φ : Value → Hp → Prop} (h : Φ (.float .f64 (JJ n)) σ) : AJ prog (convert 2 51 (.int .i64 n)) σ Φ := H5 (v := .float .f64 (FloatKind.f64.nearest n)) (fun w => by kernel_rfl) h
theorem AV.oE {p : Option Addr} {n c b : Nat} {o o' : Obj} {xs : List Pt} (h : AV 2 Gp (σ0.set b o) σ p n c xs) : AV 2 Gp (σ0.set b o') (σ.set b o') p n c xs := by
 obtain ⟨⟨hl, cs, BI, hch⟩, hx⟩ := h
 obtain ⟨A3, hb⟩ := AP.1 (hx b o (Hp.AB ..))
 refine ⟨⟨hl, cs, ?_, hch.1, hch.2⟩, fun k u hk => ?_⟩
 · obtain ⟨h1, h0, h2⟩ := BI
   refine ⟨h1, h0, ?_⟩
   rcases h2 with h2 | ⟨b2, o2, arr, T, hp, PN, rest⟩
   · exact .inl h2
   · exact .inr ⟨b2, o2, arr, T, hp, by rw [Hp.AI (fun e => A3 _ hp e.symm)]; exact PN, rest⟩
 · by_cases Fz : k = b
   · subst Fz
     rw [Hp.AB] at hk
     exact AP.2 ⟨A3, by rw [Hp.AB]; exact hk⟩
   · rw [Hp.AI Fz] at hk
     obtain ⟨a1, a2⟩ := AP.1 (hx k u (by rw [Hp.AI Fz]; exact hk))
     exact AP.2 ⟨a1, by rw [Hp.AI Fz]; exact a2⟩
end
end TwW
end
section
namespace TwW
open Go Tw Go.RowKit Go.Proofs.Tryz
theorem Mk : ∀ (l : List Int), (∀ x ∈ l, 0 ≤ x ∧ x < 1000) → 0 ≤ EA l ∧ EA l ≤ 1000 * l.length
 | [], _ => by simp [EA]
 | [_], _ => by simp [EA]
 | a :: b :: l, h => by
   have h1 := Mk (b :: l) fun x hx => h x (List.mem_cons_of_mem _ hx)
   have h2 := h a (List.mem_cons_self ..)
   have h3 := h b (by simp)
   simp only [EA, List.length_cons] at *
   split <;> omega
theorem Gs {α : Type} {l : List α} {i j : Nat} {v : α} (hv : l[i]? = some v) (hj : j ≤ i) : (l.take (i + 1)).drop j = (l.take i).drop j ++ [v] := by
 have hi := (List.getElem?_eq_some_iff.1 hv).1
 rw [Ab hv, List.drop_append_of_le_length (by rw [List.length_take]; omega)]
theorem gu {l : List Int} {i j : Nat} {v : Int} (hv : l[i]? = some v) :
   (i < j → EA ((l.take (i + 1)).drop j) = EA ((l.take i).drop j)) ∧ (i = j → EA ((l.take (i + 1)).drop j) = EA ((l.take i).drop j)) ∧
   (∀ u, l[i - 1]? = some u → j < i → EA ((l.take (i + 1)).drop j) = EA ((l.take i).drop j) + (if u ≤ v then v - u else v)) := by
 have hi := (List.getElem?_eq_some_iff.1 hv).1
 refine ⟨fun h => ?_, fun h => ?_, fun u hu h => ?_⟩
 · rw [List.drop_eq_nil_of_le (by rw [List.length_take]; omega), List.drop_eq_nil_of_le (by rw [List.length_take]; omega)]
 · subst h
   rw [Gs hv (Nat.le_refl _), List.drop_eq_nil_of_le (by rw [List.length_take]; omega)]; rfl
 · have e : (l.take i).drop j = (l.take (i - 1)).drop j ++ [u] := by
     have := Gs (i := i - 1) hu (show j ≤ i - 1 by omega)
     rwa [show i - 1 + 1 = i by omega] at this
   rw [Gs hv (by omega), e, List.append_assoc]
   exact Uf _ u v
def Ni (xs : List Int) : List Int := (xs.take 200).map fun x => Ks x % 1000
abbrev srO (lb : Nat) (q : Option Addr) (i e : Nat) : Obj := .cells #[(.slice (aD lb 0) 1 1), .slice q i e] 40 (0, 0)
section
variable {σ σ1 : Hp} {R : Rr} {p : Option Addr} {n c : Nat} {xs : List Int} {g s d w : Int} {lb sb : Nat}
theorem Nj : (Ni xs).length = min 200 xs.length := by unfold Ni; rw [List.length_map, List.length_take]
theorem bm {i : Nat} {x : Int} (hx : xs[i]? = some x) (hi : i < 200) : (Ni xs)[i]? = some (Ks x % 1000) := by
 unfold Ni
 rw [List.getElem?_map, List.getElem?_take_of_lt hi, hx]; rfl
theorem Nk : ∀ v ∈ Ni xs, 0 ≤ v ∧ v < 1000 := fun v hv => by
 unfold Ni at hv
 obtain ⟨x, _, rfl⟩ := List.mem_map.1 hv
 exact ⟨Int.emod_nonneg _ (by decide), Int.emod_lt_of_pos _ (by decide)⟩
theorem bn {i : Nat} {d : Int} (hi : i ≤ 200) (hd : 1 ≤ d ∧ d ≤ 50) : 0 ≤ (i : Int) * d ∧ (i : Int) * d ≤ 10000 := by
 have h1 := Int.mul_nonneg (show 0 ≤ (i : Int) by omega) (show 0 ≤ d by omega)
 have h2 := Int.mul_le_mul (show (i : Int) ≤ 200 by omega) hd.2 (by omega) (by decide)
 exact ⟨h1, by omega⟩
theorem Nl {x y k : Int} (hk : 0 < k) (h : y = Int.tmod (Ks x) k) : y = Ks x % k := h.trans (Int.tmod_eq_emod_of_nonneg (zx x).1)
structure Bd (σ1 τ : Hp) (lb sb : Nat) (q : Option Addr) (m e : Nat) (d : Int) (vl : List Int) : Prop where
 out : AV 2 Gp (σ1.set sb (srO lb q m e)) τ q m e (IC d vl)
theorem Bd.cell {τ : Hp} {q : Option Addr} {m e : Nat} {vl : List Int} (h : Bd σ1 τ lb sb q m e d vl) : τ sb = some (srO lb q m e) := h.out.up sb _ (Hp.AB ..)
theorem Bd.ext {τ : Hp} {q : Option Addr} {m e : Nat} {vl : List Int} (h : Bd σ1 τ lb sb q m e d vl) (hb : σ1 sb = none) : Ext σ1 τ := (Ext.set hb).trans h.out.up
theorem Bd.ld {τ : Hp} {q : Option Addr} {m e : Nat} {vl : List Int} (h : Bd σ1 τ lb sb q m e d vl) : Hp.ld τ ⟨sb, 0 + 1, none⟩ = some (.slice q m e) := Ac h.cell rfl
theorem Bd.sr {τ : Hp} {q : Option Addr} {m e : Nat} {vl : List Int} (h : Bd σ1 τ lb sb q m e d vl) (hb : σ1 sb = none) (hl : σ1 lb = some (.cells #[(.string (ByteArray.mk #[95, 95, 110, 97, 109, 101, 95, 95])), (.string (ByteArray.mk #[109]))] 56 (0, 0))) : Ag 2 GM τ (aD sb 0) 1 [nk d vl] := by
 have rA : Fj τ (aD lb 0) 1 [(B8, kM)] := HV (h.ext hb _ _ hl) rfl rfl (by decide) fun i x hx => match i, hx with
   | 0, hx => by cases hx; rfl
   | i + 1, hx => by simp at hx
 have mr : m ≤ e := by obtain ⟨cs, ho, _⟩ := h.out.1.2; exact A6.cap ho
 exact HV h.cell rfl rfl (by decide) fun i x hx => match i, hx with
   | 0, hx => by cases hx; exact ⟨_, _, _, _, _, _, rfl, rA, h.out.rd Gp.mono, mr⟩
   | i + 1, hx => by simp at hx
theorem oC (hr : Di .i64 σ1 p n xs) (hb : σ1 sb = none) (hd : 1 ≤ d ∧ d ≤ 50) (hp : 0 < n → ∃ b o, p = some ⟨b, o, none⟩)
   (Ns : ∀ τ q e i, Bd σ1 τ lb sb q i e d (Ni xs) → ¬ ((i : Int) < n ∧ (i : Int) < 200) → AO.TE R p n c d w (aD sb 0) 1 1 (i : Int) τ) :
   ∀ (k i : Nat) (τ : Hp) (q : Option Addr) (e : Nat), (Ni xs).length - i = k → i ≤ (Ni xs).length → Bd σ1 τ lb sb q i e d ((Ni xs).take i) → AO.TE R p n c d w (aD sb 0) 1 1 (i : Int) τ := by
 have hl : xs.length = n := hr.1
 have hm := Nj (xs := xs)
 intro k
 induction k with
 | zero =>
   intro i τ q e hk hi ho
   rw [List.take_of_length_le (by omega)] at ho
   exact Ns τ q e i ho (by omega)
 | succ k ih =>
   intro i τ q e hk hi ho
   have PL : i < n := by omega
   have yw : i < 200 := by omega
   obtain ⟨x, hx⟩ := hr.ex PL
   obtain ⟨b, o, sW, D8⟩ := hr.at hx
   subst sW
   have hT := bn (i := i) (by omega) hd
   have hxt := ho.ext hb
   refine AO.LJ ⟨fun _ => ⟨fun _ => ⟨sb, 0, rfl, by decide, q, i, e, ho.ld, by unfold AK; omega, b, o, rfl, by unfold In; omega, x, by simpa using (hxt.ld D8), ID ⟨_, rfl, .EE (.refl _), by decide, fun jS h56 => oB ⟨_, rfl, .EE (.refl _), Gr ⟨_, rfl, .EE (.refl _), fun oR h60 => ?_⟩⟩⟩⟩, fun hh => by omega⟩, fun hh => by omega⟩
   have e56 := Nl (by decide) h56
   subst e56
   have hv := bm hx yw
   refine AV.JL (vs := [.int .i64 ((i : Int) * d), .int .u64 (Ef (Ks x % 1000))]) (x := ((i : Int) * d, Ef (Ks x % 1000))) Gp.mono ho.out rfl (Gp.one σ1 _ ((i : Int) * d, Ef (Ks x % 1000)) rfl) rfl (by omega) (fun p' c' σ4 Lw _ => ⟨_, _, _, rfl, by decide, ?_⟩) h60
   have h4 : σ4 sb = some (srO lb q i e) := Lw.up sb _ (Hp.AB ..)
   refine st1 (c' := #[(.slice (aD lb 0) 1 1), .slice p' (i + 1) c']) mz h4 rfl rfl (by show 1 < 2; decide) rfl ⟨by unfold AK; omega, ?_⟩
   have hS : IC d ((Ni xs).take (i + 1)) = IC d ((Ni xs).take i) ++ [((i : Int) * d, Ef (Ks x % 1000))] := by
     rw [Ab hv, nq, List.length_take, Nat.min_eq_left hi]
   have := ih (i + 1) (σ4.set sb (srO lb p' (i + 1) c')) p' c' (by omega) (by omega) ⟨by rw [hS]; exact Lw.oE⟩
   rw [show ((i + 1 : Nat) : Int) = (i : Int) + 1 by omega] at this
   exact this
end
end TwW
end
section
namespace TwW
open Go Tw Go.RowKit Go.Proofs.Tryz
section
variable {σ σ1 τ : Hp} {R : Rr} {p q : Option Addr} {n c m e : Nat} {xs : List Int} {g s d w t : Int} {lb sb : Nat}
theorem Bd.mod {vl : List Int} (hl : vl.length ≤ 200) : Modest [] [nk d vl] := ⟨Nat.zero_le _, fun x hx => (by cases hx), (by show 1 ≤ 10000000; decide), fun s hs => by
   obtain rfl := List.mem_singleton.1 hs
   show (IC d vl).length ≤ _
   rw [QD]; omega, fun s hs x hx => by
   obtain rfl := List.mem_singleton.1 hs
   obtain ⟨i, hi⟩ := List.mem_iff_getElem?.1 hx
   have hi : (IC d vl)[i]? = some x := hi
   rw [Mj] at hi
   obtain ⟨v, _, rfl⟩ := Option.map_eq_some_iff.1 hi
   exact Int.natCast_nonneg _⟩
theorem Bd.sok {vl : List Int} (hl : vl.length ≤ 200) : SOk [nk d vl] := ⟨(by show 1 ≤ 1000000000000; decide), fun s hs => by
   obtain rfl := List.mem_singleton.1 hs
   show 1 ≤ _
   decide, fun s hs => by
   obtain rfl := List.mem_singleton.1 hs
   show (IC d vl).length ≤ _
   rw [QD]; omega⟩
theorem zy {j : Nat} (gw : Awk) (hg : Gl τ) (h : Bd σ1 τ lb sb q m e d (Ni xs)) (hb : σ1 sb = none) (hl : σ1 lb = some (.cells #[(.string (ByteArray.mk #[95, 95, 110, 97, 109, 101, 95, 95])), (.string (ByteArray.mk #[109]))] 56 (0, 0)))
   (hd : 1 ≤ d ∧ d ≤ 50) (hw : 1 ≤ w ∧ w ≤ 500) (hm : (Ni xs).length = m) (ht : t = ((m - 1 : Nat) : Int) * d) (hj : j < m) (hc : ∀ i : Nat, i < m → ((i : Int) * d ≤ t - w ↔ i < j)) (hR : ∀ σ', Ext τ σ' → R (.returned (.bool true)) σ') :
   AO.Hu R p n c w (aD sb 0) 1 1 t (EA ((Ni xs).drop j)) ((m - j : Nat) : Int) (m : Int) τ := by
 have hm2 : m ≤ 200 := by rw [← hm, Nj]; omega
 have awk : ∀ {Q : Rr}, ∀ σ', Ext τ σ' → (∀ σ2, Ext τ σ2 → Q (.returned (.bool true)) σ2) → Spec prog 14 #[] σ' (AA Q (CB fun t26 AF => Q (.returned (.bool t26)) AF)) := fun {Q} σ' hx hq => gw σ' _ (hg.mono hx) fun σ2 A4 => ⟨_, rfl, hq σ2 (hx.trans A4)⟩
 obtain ⟨cc, cr, ec, e1, e2, e3, e4⟩ := sL hw
 have hmul := bn (i := m - 1) (by omega) hd
 have hK := Mk ((Ni xs).drop j) fun v hv => Nk v (List.mem_of_mem_drop hv)
 have hKl : ((Ni xs).drop j).length = m - j := by rw [List.length_drop, hm]
 rw [hKl] at hK
 obtain ⟨i2, i1⟩ := gq (d := d) (w := w) (t := t) (vl := Ni xs) (j := j) (by omega) hw (by omega) (by rw [hm]; exact hc) (by omega) (fun i hi => by
   rw [ht]; exact Int.mul_le_mul_of_nonneg_right (by omega) (by omega)) (by omega) Nk
 rw [hKl] at i1 i2
 have hs := h.sr hb hl
 have hS := Bd.sok (d := d) (vl := Ni xs) (by omega)
 have hM := Bd.mod (d := d) (vl := Ni xs) (by omega)
 have z3 : ByteArray.size (ByteArray.mk #[115, 93, 41]) = 3 := rfl
 have z11 : ByteArray.size (ByteArray.mk #[105, 110, 99, 114, 101, 97, 115, 101, 40, 109, 91]) = 11 := rfl
 have z7 : ByteArray.size (ByteArray.mk #[114, 97, 116, 101, 40, 109, 91]) = 7 := rfl
 refine AO.P5 ⟨sb, 0, rfl, by decide, q, m, e, h.ld, fun hh => by omega, fun _ => Uj ⟨by omega, hw.2⟩ fun σ2 x2 => ⟨_, rfl, by rw [z11]; omega, by rw [ByteArray.size_append, z11, z3]; omega, ?_⟩⟩
 refine Ud (hg.mono x2) (hs.mono GM.mono x2) hS hM (cx2 ec e1 e2 e3 hw.1) (by rw [ByteArray.size_append, ByteArray.size_append, z11, z3]; omega) cz2 rfl (by kernel_rfl) (by kernel_rfl) (by kernel_rfl) fun σ3 p3 n3 c3 r3 x3 => ⟨_, _, _, _, rfl, ?_⟩
 have X3 := x2.trans x3
 refine Uj ⟨by omega, hw.2⟩ fun σ4 x4 => ⟨_, rfl, by rw [z7]; omega, by rw [ByteArray.size_append, z7, z3]; omega, ?_⟩
 have X4 := X3.trans x4
 refine Ud (hg.mono X4) (hs.mono GM.mono X4) hS hM (cx1 ec e1 e2 e3 hw.1) (by rw [ByteArray.size_append, ByteArray.size_append, z7, z3]; omega) cz1 rfl (by kernel_rfl) (by kernel_rfl) (by kernel_rfl) fun σ5 p5 n5 c5 r5 x5 => ⟨_, _, _, _, rfl, ?_⟩
 have X5 := X4.trans x5
 have q3 := r3.mono GM.mono (x4.trans x5)
 have q5 := r5
 unfold zp at q3 q5
 rw [i2] at q3
 rw [i1] at q5
 rw [i1, i2]
 have z : ∀ {P : Prop}, ((0 : Int) ≠ 0) → P := fun hh => absurd rfl hh
 by_cases h2 : m - j < 2
 case pos =>
   rw [if_pos h2] at q3 q5
   have m3 : 0 = n3 := q3.1
   have m5 : 0 = n5 := q5.1
   subst m3; subst m5
   exact ⟨z, fun _ => ⟨z, fun _ => ⟨fun hh => absurd hh (by decide), fun _ => ⟨fun hh => by omega, fun _ => ⟨fun hh => absurd hh (by decide), fun _ => ⟨fun hh => by omega, fun _ => ⟨fun _ => awk σ5 X5 hR, fun hh => by omega⟩⟩⟩⟩⟩⟩⟩
 case neg =>
 rw [if_neg h2] at q3 q5
 have m3 : 1 = n3 := q3.1
 have m5 : 1 = n5 := q5.1
 subst m3; subst m5
 obtain ⟨r, Es, Gv⟩ := zu (a := EA ((Ni xs).drop j)) (b := w) (by omega) (by omega) (by omega)
 rw [sI Es Gv] at q5
 refine ⟨z, fun _ => ⟨z, fun _ => ⟨fun _ => ⟨fun _ => ⟨fun _ => ⟨fun _ => ⟨fun hh => by omega, fun _ => oB ⟨_, rfl, Gr ⟨_, rfl, Y3 q3 ⟨_, rfl, fun _ => oB ⟨_, rfl, AGH ⟨_, rfl, sH Es ⟨_, rfl, Gr ⟨_, rfl, Y3 q5 ⟨_, rfl, fun _ => awk σ5 X5 hR, fun hf => ?_⟩⟩⟩⟩⟩, fun hf => ?_⟩⟩⟩⟩, fun hh => by omega⟩, fun hh => absurd rfl hh⟩, fun hh => by omega⟩, fun hh => absurd rfl hh⟩⟩⟩
 · simp at hf
 · simp [Ef] at hf
theorem sM {j : Nat} (gw : Awk) (hg : Gl τ) (hr : Di .i64 τ p n xs) (h : Bd σ1 τ lb sb q m e d (Ni xs)) (hb : σ1 sb = none) (hl : σ1 lb = some (.cells #[(.string (ByteArray.mk #[95, 95, 110, 97, 109, 101, 95, 95])), (.string (ByteArray.mk #[109]))] 56 (0, 0)))
   (hd : 1 ≤ d ∧ d ≤ 50) (hw : 1 ≤ w ∧ w ≤ 500) (hm : (Ni xs).length = m) (ht : t = ((m - 1 : Nat) : Int) * d) (hj : j < m) (hc : ∀ i : Nat, i < m → ((i : Int) * d ≤ t - w ↔ i < j)) (hR : ∀ σ', Ext τ σ' → R (.returned (.bool true)) σ') :
   ∀ (k i : Nat), m - i = k → i ≤ m → AO.Hu R p n c w (aD sb 0) 1 1 t (EA (((Ni xs).take i).drop j)) ((i - j : Nat) : Int) (i : Int) τ := by
 have hm2 : m ≤ 200 := by rw [← hm, Nj]; omega
 have hmn : m ≤ n := by rw [← hm, Nj, ← hr.1]; omega
 have hmul := bn (i := m - 1) (by omega) hd
 intro k
 induction k with
 | zero =>
   intro i hk hi
   have : i = m := by omega
   subst this
   rw [List.take_of_length_le (by omega)]
   exact zy gw hg h hb hl hd hw hm ht hj hc hR
 | succ k ih =>
   intro i hk hi
   have yj : i < m := by omega
   obtain ⟨x, hx⟩ := hr.ex (show i < n by omega)
   obtain ⟨b, o, sW, D8⟩ := hr.at hx
   subst sW
   have hv := bm hx (show i < 200 by omega)
   obtain ⟨b2, o2, hq, Vp⟩ := Gp.at (h.out.rd Gp.mono) (i := i) (x := ((i : Int) * d, Ef (Ks x % 1000))) (by rw [Mj, hv]; rfl)
   subst hq
   obtain ⟨s1, s2, s3⟩ := gu (j := j) hv
   have next : ∀ a cnt : Int, a = EA (((Ni xs).take (i + 1)).drop j) → cnt = ((i + 1 - j : Nat) : Int) → AO.fL R (aD b o) n c w (aD sb 0) 1 1 t a cnt (i : Int) τ := fun a cnt ha hcn => by
     have := ih (i + 1) (by omega) (by omega)
     rw [← ha, ← hcn, show ((i + 1 : Nat) : Int) = (i : Int) + 1 by omega] at this
     exact AO.qc ⟨by unfold AK; omega, this⟩
   have hci := hc i yj
   have hKb := Mk (((Ni xs).take i).drop j) fun v hv => Nk v (List.mem_of_mem_take (List.mem_of_mem_drop hv))
   have hKl : (((Ni xs).take i).drop j).length ≤ 200 := by rw [List.length_drop, List.length_take]; omega
   refine AO.P5 ⟨sb, 0, rfl, by decide, aD b2 o2, m, e, h.ld, fun _ => ⟨by decide, aD b2 o2, m, e, h.ld, b2, o2, rfl, by unfold In; omega, (i : Int) * d, by simpa using Vp.1, by unfold AK; omega, fun hle => next _ _ (s1 (hci.1 hle)).symm (by have := hci.1 hle; omega), fun ug => ?_⟩, fun hh => by omega⟩
   have ZS : ¬ i < j := fun hh => ug (hci.2 hh)
   refine ⟨by unfold AK; omega, fun h1 => ?_, fun h1 => next _ _ (s2 (by omega)).symm (by omega)⟩
   obtain ⟨y, hy⟩ := hr.ex (show i - 1 < n by omega)
   obtain ⟨b', o', sW, rn⟩ := hr.at hy
   cases sW
   have hu := bm hy (show i - 1 < 200 by omega)
   have s3 := s3 _ hu (by omega)
   have ex : ((i : Int) - 1).toNat = i - 1 := by omega
   have hv0 := Nk _ (List.mem_of_getElem? hv)
   have uy := Nk _ (List.mem_of_getElem? hu)
   refine ⟨by unfold AK; omega, b, o, rfl, by unfold In; omega, y, by rw [ex]; simpa using rn, by unfold In; omega, x, by simpa using D8, ID ⟨_, rfl, .EE (.refl _), by decide, fun qb AMP => ID ⟨_, rfl, by decide, fun fM AMQ => ?_⟩⟩⟩
   have AMR := Nl (by decide) AMP
   have AMS := Nl (by decide) AMQ
   subst AMR
   subst AMS
   refine ⟨by unfold AK; omega, fun hle => ⟨by unfold AK; omega, next _ _ ?_ (by omega)⟩, fun ug => next _ _ ?_ (by omega)⟩
   · rw [s3, if_pos hle]; omega
   · rw [s3, if_neg ug]
theorem TR (gw : Awk) (hg : Gl σ) (hr : Di .i64 σ p n xs) (h : ∀ σ', Ext σ σ' → R (.returned (.bool true)) σ') :
   Spec prog 7 #[.slice p n c, .int .i64 g, .int .i64 s] σ R := by
 refine AO.start (ID ⟨_, rfl, by decide, fun CL h23 => ?_⟩)
 have e23 := Nl (by decide) h23
 have hd : 1 ≤ 1 + CL ∧ 1 + CL ≤ 50 := by
   have a1 := Int.emod_nonneg (Ks g) (show (50 : Int) ≠ 0 by decide)
   have a2 := Int.emod_lt_of_pos (Ks g) (show (0 : Int) < 50 by decide)
   omega
 refine ⟨by unfold AK; omega, ID ⟨_, rfl, by decide, fun Gu h27 => ?_⟩⟩
 have e27 := Nl (by decide) h27
 have hw : 1 ≤ 1 + Gu ∧ 1 + Gu ≤ 500 := by
   have a1 := Int.emod_nonneg (Ks s) (show (500 : Int) ≠ 0 by decide)
   have a2 := Int.emod_lt_of_pos (Ks s) (show (0 : Int) < 500 by decide)
   omega
 refine ⟨by unfold AK; omega, fun lb hlb sb hsb => ?_⟩
 have x1 := Ext.set (o := .cells #[(.string (ByteArray.mk #[95, 95, 110, 97, 109, 101, 95, 95])), (.string (ByteArray.mk #[109]))] 56 (0, 0)) hlb
 have hl := Hp.AB σ lb (.cells #[(.string (ByteArray.mk #[95, 95, 110, 97, 109, 101, 95, 95])), (.string (ByteArray.mk #[109]))] 56 (0, 0))
 generalize σ.set lb (.cells #[(.string (ByteArray.mk #[95, 95, 110, 97, 109, 101, 95, 95])), (.string (ByteArray.mk #[109]))] 56 (0, 0)) = σ1 at *
 have Es : Di .i64 σ1 p n xs := Di.mono x1 hr
 have hlen : xs.length = n := hr.1
 refine oC Es hsb hd (fun h0 => ?_) (fun τ q e i hB WO => ?_) _ 0 _ none 0 rfl (Nat.zero_le _) ⟨AV.nil (.refl _)⟩
 · obtain ⟨x, hx⟩ := hr.ex h0
   obtain ⟨b, o, hp, _⟩ := hr.at hx
   exact ⟨b, o, hp⟩
 have hxt := hB.ext hsb
 have zz := x1.trans hxt
 have hi : (Ni xs).length = i := by
   have := hB.out.1.1
   rwa [QD] at this
 have yw : i ≤ 200 := by rw [← hi, Nj]; omega
 have awk : ∀ {Q : Rr}, ∀ σ', Ext σ σ' → (∀ σ2, Ext σ σ2 → Q (.returned (.bool true)) σ2) → Spec prog 14 #[] σ' (AA Q (CB fun t26 AF => Q (.returned (.bool t26)) AF)) := fun {Q} σ' hx hq => gw σ' _ (hg.mono hx) fun σ2 A4 => ⟨_, rfl, hq σ2 (hx.trans A4)⟩
 have fin : 0 < i → ∃ b o, q = some ⟨b, o, none⟩ ∧ Hp.ld τ ⟨b, o + Int.toNat ((i : Int) - 1) * 2, none⟩ = some (.int .i64 (((i - 1 : Nat) : Int) * (1 + CL))) ∧ AO.Hu R p n c (1 + Gu) (aD sb 0) 1 1 (((i - 1 : Nat) : Int) * (1 + CL)) 0 0 0 τ := fun h0 => by
   obtain ⟨v, hv⟩ : ∃ v, (Ni xs)[i - 1]? = some v := ⟨_, List.getElem?_eq_getElem (by omega)⟩
   obtain ⟨b2, o2, hq, Vp⟩ := Gp.at (hB.out.rd Gp.mono) (i := i - 1) (x := (((i - 1 : Nat) : Int) * (1 + CL), Ef v)) (by rw [Mj, hv]; rfl)
   refine ⟨b2, o2, hq, by rw [show ((i : Int) - 1).toNat = i - 1 by omega]; simpa using Vp.1, ?_⟩
   obtain ⟨j, hj, hc⟩ := Y6 (P := fun k : Nat => (k : Int) * (1 + CL) ≤ ((i - 1 : Nat) : Int) * (1 + CL) - (1 + Gu)) (fun k hk => by
     have : ((k + 1 : Nat) : Int) * (1 + CL) = (k : Int) * (1 + CL) + (1 + CL) := by
       rw [show ((k + 1 : Nat) : Int) = (k : Int) + 1 by omega, Int.add_mul, Int.one_mul]
     rw [this] at hk
     omega) i
   have ZS : j < i := by
     by_cases ZS : j < i
     · exact ZS
     · have := (hc (i - 1) (by omega)).2 (by omega)
       omega
   have := sM (c := c) (k := i) (i := 0) gw (hg.mono zz) (Di.mono hxt Es) hB hsb hl hd hw hi rfl ZS hc (fun σ' hx => h σ' (zz.trans hx)) rfl (Nat.zero_le _)
   rw [List.take_zero, List.drop_nil, Nat.zero_sub] at this
   exact this
 have I0 : 0 < i → AK ((i : Int) - 1) := fun _ => by unfold AK; omega
 by_cases PL : (i : Int) < n
 · have h0 : ¬ ((i : Int) = 0) := fun hh => WO ⟨PL, by omega⟩
   obtain ⟨b2, o2, hq, f1, f2⟩ := fin (by omega)
   exact AO.LJ ⟨fun _ => ⟨fun h2 => absurd ⟨PL, h2⟩ WO, fun _ => ⟨sb, 0, rfl, by decide, q, i, e, hB.ld, fun hh => absurd hh h0, fun _ => ⟨by decide, q, i, e, hB.ld, by decide, q, i, e, hB.ld, I0 (by omega), b2, o2, hq, by unfold In; omega, _, f1, f2⟩⟩⟩, fun hh => absurd PL hh⟩
 · refine AO.LJ ⟨fun hh => absurd hh PL, fun _ => ⟨sb, 0, rfl, by decide, q, i, e, hB.ld, fun hh => awk τ zz h, fun h0 => ?_⟩⟩
   obtain ⟨b2, o2, hq, f1, f2⟩ := fin (by omega)
   exact ⟨by decide, q, i, e, hB.ld, by decide, q, i, e, hB.ld, I0 (by omega), b2, o2, hq, by unfold In; omega, _, f1, f2⟩
end
end TwW
end
section
set_option maxRecDepth 100000
namespace TwW.Rw
open Go Tw TwW Go.RowKit Go.ChangeShapes Go.WideShapes Go.ChangeAt Go.Deep Go.Proofs.Tryz Go.Proofs.YtlmhidjgplomgaaGreatDoor
section
variable {H : Type} {enc : TypeId × Value → H} {W : World} {base : Nat} {v v' : Value} {d d' : DataW H} {ps ps' : List MemPlace} {r : Reach}
theorem sN (hv : Value.okWide prog W r base 57 v) (h : DataW.Trod enc prog W 0 (fun _ => true) true 57 v d ps) (hw : Rows.uptoBulk d ≤ 1048576) : ∃ p n c xs, v = .slice p n c ∧ Di .i64 (full W) p n xs ∧ ALx (fun x : Int => (Lit.int .i64 x).wf = true) xs := by
 obtain ⟨a, l, c, rfl⟩ := okWide_slice underlying57 hv
 obtain ⟨fuel, hf⟩ := h
 obtain ⟨xs, ⟨p, n, c', e, _, hr⟩, hI, _⟩ := Sk.len (s := 1) underlying57 (by kernel_rfl) (by decide) (Sk.int underlying3) hf hw
 have e' : [Value.slice a l c] = [.slice p n c'] := by simpa [Value.cells] using e
 cases e'
 exact ⟨a, l, c, xs, rfl, hr, hI⟩
end
end TwW.Rw
end
section
namespace Go.Proofs.YtlmhidjgplomgaaGreatDoor.evalCounters
open Go Tw TwW TwW.Rw Go.ChangeShapes Go.WideShapes Go.ChangeAt Go.RowKit Go.Deep
open Go.Proofs.Tryz (f7 func7 params7)
abbrev Y7 : Array Value := #[.slice none 0 0, .int .i64 0, .int .i64 0]
noncomputable abbrev wW (os : Os) : World := (LR os).forCall (fun _ _ => 0) ⟨#[], Y7, []⟩
set_option maxRecDepth 1000000
theorem wHr (os : Os) : ((wW os).heap.toList.drop prog.globals.size).take ((begin prog (fun _ _ => 0) default).world.heap.size - prog.globals.size) = (begin prog (fun _ _ => 0) default).world.heap.toList.drop prog.globals.size := by kernel_rfl
theorem AMT (os : Os) : Input.okWideB prog (wW os) 7 ⟨#[], Y7, []⟩ = true := by kernel_rfl
theorem wHv (os : Os) : (wW os).variablesRefB prog = true := AL4 os (args := Y7)
theorem reads (os : Os) {H : Type} (enc : TypeId × Value → H) : ∃ places, DataW.whole enc prog (wW os).memory f7.params.toList Rows.evalCountersSpec.vars false Y7.toList 8 = some ([.nil, .lit (.int .i64 0), .lit (.int .i64 0)], [], places) :=
 ⟨[], by kernel_rfl⟩
theorem oD (H : Type) (enc : TypeId × Value → H) (W : World) (base : Nat) (args : Array Value) (ds gs : List (DataW H)) (before : List MemPlace)
   (sO : ∀ (j : Nat) t v, f7.params[j]? = some t → args[j]? = some v → Value.okWide prog W .any base t v)
   (hW : DataW.Whole enc prog f7.params.toList Rows.evalCountersSpec.vars false W args.toList ds gs before) (hk : Rows.uptoBulkAll (ds ++ gs) ≤ 1048576) (hL : laidMetH prog Laid W) (hsh : W.ShapedOpen prog) :
   Calls prog 7 args W fun e W' => ∃ v, e = .returned v ∧ Rows.evalCountersSpec.post enc prog f7 false true false false W args v W' := by
 have hW' := hW
 obtain ⟨p, q, hA0, hV, rfl, hfz, hnd⟩ := hW
 have hA : DataW.TrodAll enc prog W 0 (fun _ => true) true f7.params.toList args.toList ds p := hA0
 rw [params7] at hA sO
 obtain ⟨v0, vs0, d0, ds0, p0, q0, Iz, rfl, rfl, h0, r0⟩ := trodAll_cons hA
 obtain ⟨v1, vs1, d1, ds1, p1, q1, rfl, rfl, rfl, h1, r1⟩ := trodAll_cons r0
 obtain ⟨v2, vs2, d2, ds2, p2, q2, rfl, rfl, rfl, h2, r2⟩ := trodAll_cons r1
 obtain ⟨rfl, rfl, rfl⟩ := trodAll_nil r2
 obtain rfl : args = #[v0, v1, v2] := by cases args; simp_all
 obtain ⟨rfl, rfl⟩ := trodVars_none hV
 simp only [List.append_nil, Rows.uptoBulkAll] at hk
 obtain ⟨a0, n0, c0, xs0, rfl, hr0, hI0⟩ := sN (sO 0 57 v0 rfl rfl) h0 (by omega)
 obtain ⟨x1, rfl, rfl, _, w1⟩ := open_int Go.Proofs.Tryz.underlying3 (sO 1 3 v1 rfl rfl) h1
 obtain ⟨x2, rfl, rfl, _, w2⟩ := open_int Go.Proofs.Tryz.underlying3 (sO 2 3 v2 rfl rfl) h2
 exact zS (by kernel_rfl) rfl rfl ⟨rfl, rfl, rfl⟩ hW' ((TR bQ (AF3 hL hsh) hr0) fun σ' hx => ⟨rfl, hx⟩)
theorem AAA : Go.Proofs.Tryz.checked.prog.inits.idxOf? 7 = none := by kernel_rfl
theorem witness (os : Os) (started : os.Started) (H : Type) (enc : TypeId × Value → H) : ∃ (w : World) (tape : Tape) (i : Input), w.os = os ∧ (w.forCall tape i).Shaped Go.Proofs.Tryz.checked.prog ∧ i.vars = [] ∧ Input.okWide Go.Proofs.Tryz.checked.prog (w.forCall tape i) .any w.heap.size 7 i ∧
     (Rows.OpenSpec.upto Rows.evalCountersSpec).preRow enc Go.Proofs.Tryz.checked.prog f7 Rows.evalCountersUptoRow.domain false Rows.evalCountersUptoRow.laid (w.forCall tape i).memory i.args ∧ ({} : Assume).holds Go.Proofs.Tryz.checked.prog (lone (Frame.enter Go.Proofs.Tryz.checked.prog 7 i.args .normal) [] (w.forCall tape i)) := by
 obtain ⟨places, hx⟩ := reads os enc
 exact witness_row_atRef (enc := enc) (C := Go.Proofs.Tryz.checked) false (LR os) Y7 rfl (wHv os) (wHr os) (AMT os)
     (OpenSpec.preRow_of_cond 8 hx (by as_aux_lemma => kernel_rfl) (fun k hk => by cases hk; as_aux_lemma => kernel_rfl) (by as_aux_lemma => kernel_rfl) (nH os _))
theorem lifted (os : Os) (started : os.Started) (H : Type) (enc : TypeId × Value → H) (F : Stop.Interp) :
   ReturnsInHanded {} Go.Proofs.Tryz.checked os 7 .any ((Rows.OpenSpec.upto Rows.evalCountersSpec).preRow enc prog f7 Rows.evalCountersUptoRow.domain false Rows.evalCountersUptoRow.laid) (((Rows.OpenSpec.upto Rows.evalCountersSpec).at F).post enc prog f7 false true false false) := by
 refine returnsInHanded_of_row (C := Go.Proofs.Tryz.checked) (s := Rows.OpenSpec.upto Rows.evalCountersSpec) own started AAA func7 (witness os started H enc) ?_
 intro W base args ds gs before AGI hW _ AGJ _ hL hsh _
 exact oD H enc W base args ds gs before AGI hW (of_decide_eq_true (AGJ _ rfl)) hL hsh
end Go.Proofs.YtlmhidjgplomgaaGreatDoor.evalCounters
end
