/-
  Part 6 of the proof that the law EvalOverUptoCardSaid of the given program answers true for every input of the given statement; the input reads behind the call as it did. (The texts: packed from 18 texts. Names are shortened by the packing program, for the bound on size.)
-/
import Derived.Test.YtlmhidjgplomgaaGreatDoorA5
import Ieee.Arith
import Derived.KernelRfl
set_option linter.all false
section
namespace TwW
open Ieee
theorem Mm {m k : Nat} (hm : m ≠ 0) : (m * 2 ^ k).log2 = m.log2 + k := by
 have h0 : m * 2 ^ k ≠ 0 := Nat.mul_ne_zero hm (Nat.pos_iff_ne_zero.1 (Nat.pow_pos (by decide)))
 apply Nat.le_antisymm
 · have := (Nat.log2_lt h0 (k := m.log2 + k + 1)).2 (by
     rw [show m.log2 + k + 1 = (m.log2 + 1) + k by omega,Nat.pow_add]
     exact Nat.mul_lt_mul_of_pos_right Nat.lt_log2_self (Nat.pow_pos (by decide)))
   omega
 · rw [Nat.le_log2 h0,Nat.pow_add]
   exact Nat.mul_le_mul_right _ (Nat.log2_self_le hm)
theorem TB (w : Toward) (s : Bool) (n : Nat) : w.cut s n 0 = n := by
 unfold Toward.cut
 simp only [Nat.zero_min,Nat.shiftLeft_zero,Nat.div_one,Nat.mod_one]
 cases w <;> simp
theorem iS {s : Bool} {q d : Nat} (hq : q ≠ 0) : Toward.even.cut s (q * 2 ^ d) d = q := by
 have hp : 0 < 2 ^ d := Nat.pow_pos (by decide)
 unfold Toward.cut
 rw [Mm hq,Nat.min_eq_left (by omega),Nat.one_shiftLeft]
 simp only [Nat.mul_div_cancel _ hp,Nat.mul_mod_left]
 have : (2 ^ d == 2 * 0) = false := by
   rw [beq_eq_false_iff_ne]; omega
 simp [this]
theorem iT {s : Bool} {m d k : Nat} (hm : m ≠ 0) : Toward.even.cut s (m * 2 ^ k) (d + k) = Toward.even.cut s m d := by
 have hk : 0 < 2 ^ k := Nat.pow_pos (by decide)
 unfold Toward.cut
 rw [Mm hm,show min (d + k) (m.log2 + k + 2) = min d (m.log2 + 2) + k by omega]
 generalize min d (m.log2 + 2) = g
 rw [Nat.one_shiftLeft,Nat.one_shiftLeft,Nat.pow_add]
 have hg : 0 < 2 ^ g := Nat.pow_pos (by decide)
 have e1 : m * 2 ^ k / (2 ^ g * 2 ^ k) = m / 2 ^ g := Nat.mul_div_mul_right _ _ hk
 have e2 : m * 2 ^ k % (2 ^ g * 2 ^ k) = m % 2 ^ g * 2 ^ k := Nat.mul_mod_mul_right _ _ _
 simp only [e1,e2]
 have e3 : decide (2 ^ g * 2 ^ k < 2 * (m % 2 ^ g * 2 ^ k)) = decide (2 ^ g < 2 * (m % 2 ^ g)) := decide_eq_decide.2 (by
   rw [← Nat.mul_assoc]; exact Nat.mul_lt_mul_right hk)
 have e4 : (2 ^ g * 2 ^ k == 2 * (m % 2 ^ g * 2 ^ k)) = (2 ^ g == 2 * (m % 2 ^ g)) := by
   rw [← Nat.mul_assoc,Bool.eq_iff_iff,beq_iff_eq,beq_iff_eq]
   exact Nat.mul_left_inj (Nat.pos_iff_ne_zero.1 hk)
 rw [e3,e4]
theorem lp : double.leastPlace = -1074 := rfl
theorem fb : ((double.fractionBits : Nat) : Int) = 52 := by kernel_rfl
theorem Th {s : Bool} {m k : Nat} {p : Int} : double.nearest s (m * 2 ^ k) (p - k) = double.nearest s m p := by
 by_cases hm : m = 0
 · subst hm; rw [Nat.zero_mul]; unfold Format.nearest; simp
 have iq : m * 2 ^ k ≠ 0 := Nat.mul_ne_zero hm (Nat.pos_iff_ne_zero.1 (Nat.pow_pos (by decide)))
 unfold Format.nearest
 rw [if_neg hm,if_neg iq,Mm hm,show p - (k : Int) + ((m.log2 + k : Nat) : Int) - ((double.fractionBits : Nat) : Int) = p + (m.log2 : Nat) - ((double.fractionBits : Nat) : Int) by omega]
 generalize max (p + (m.log2 : Nat) - ((double.fractionBits : Nat) : Int)) double.leastPlace = L
 have key : Toward.even.cut s ((m * 2 ^ k) <<< (p - k - L).toNat) (L - (p - k)).toNat = Toward.even.cut s (m <<< (p - L).toNat) (L - p).toNat := by
   by_cases h1 : L ≤ p
   · have e0 : (L - p).toNat = 0 := by omega
     rw [e0,TB,Nat.shiftLeft_eq,Nat.shiftLeft_eq]
     by_cases h2 : L ≤ p - k
     · rw [show (L - (p - k)).toNat = 0 by omega,TB,Nat.mul_assoc,← Nat.pow_add]
       congr 2; omega
     · rw [show (p - k - L).toNat = 0 by omega,Nat.pow_zero,Nat.mul_one]
       have : m * 2 ^ k = m * 2 ^ (p - L).toNat * 2 ^ (L - (p - k)).toNat := by
         rw [Nat.mul_assoc,← Nat.pow_add]
         congr 2; omega
       rw [this,iS (Nat.mul_ne_zero hm (Nat.pos_iff_ne_zero.1 (Nat.pow_pos (by decide))))]
   · rw [show (p - k - L).toNat = 0 by omega,show (p - L).toNat = 0 by omega,Nat.shiftLeft_zero,Nat.shiftLeft_zero,show (L - (p - k)).toNat = (L - p).toNat + k by omega,iT hm]
 dsimp only
 rw [key]
def BB (n : Int) : Nat := double.nearest (decide (n < 0)) n.natAbs 0
theorem Eh {n : Int} (hn : n.natAbs < 9007199254740992) : ∃ k : Nat,double.read (BB n) = .number (decide (n < 0)) (n.natAbs * 2 ^ k) (0 - (k : Int)) := by
 have e1 : double.signWeight = 9223372036854775808 := by kernel_rfl
 have e2 : double.binade = 4503599627370496 := by kernel_rfl
 have e3 : double.infRung = 9218868437227405312 := by kernel_rfl
 by_cases h0 : n = 0
 · subst h0
   obtain ⟨kq,hkq⟩ : ∃ k : Nat,(k : Int) = 1074 := ⟨1074,rfl⟩
   refine ⟨kq,?_⟩
   have : BB 0 = 0 := by unfold BB Format.nearest; rfl
   rw [this]
   have : double.read 0 = .number false 0 (-1074) := by kernel_rfl
   rw [this,show (0 : Int).natAbs = 0 from rfl,Nat.zero_mul,hkq]; rfl
 · have hm : n.natAbs ≠ 0 := by omega
   have hl : n.natAbs.log2 < 53 := (Nat.log2_lt hm).2 (by omega)
   have hle := Nat.log2_self_le hm
   have Ax := Nat.lt_log2_self (n := n.natAbs)
   have hz : n.natAbs * 2 ^ (52 - n.natAbs.log2) < 9007199254740992 ∧ 4503599627370496 ≤ n.natAbs * 2 ^ (52 - n.natAbs.log2) := by
     constructor
     · have h2 := Nat.mul_lt_mul_of_pos_right Ax (Nat.pow_pos (n := 52 - n.natAbs.log2) (show 0 < 2 by decide))
       rw [← Nat.pow_add,show n.natAbs.log2 + 1 + (52 - n.natAbs.log2) = 53 by omega] at h2
       exact h2
     · have h2 := Nat.mul_le_mul_right (2 ^ (52 - n.natAbs.log2)) hle
       rw [← Nat.pow_add,show n.natAbs.log2 + (52 - n.natAbs.log2) = 52 by omega] at h2
       exact h2
   refine ⟨52 - n.natAbs.log2,?_⟩
   have hf : BB n = double.word (decide (n < 0)) ((1022 + n.natAbs.log2) * 4503599627370496 + n.natAbs * 2 ^ (52 - n.natAbs.log2)) := by
     unfold BB Format.nearest
     rw [if_neg hm,lp,fb]
     dsimp only
     rw [show max ((0 : Int) + (n.natAbs.log2 : Nat) - 52) (-1074) = (n.natAbs.log2 : Nat) - 52 by omega,show ((0 : Int) - ((n.natAbs.log2 : Nat) - 52)).toNat = 52 - n.natAbs.log2 by omega,show (((n.natAbs.log2 : Nat) : Int) - 52 - 0).toNat = 0 by omega,TB,Nat.shiftLeft_eq,e2,e3,show ((((n.natAbs.log2 : Nat) : Int) - 52) - -1074).toNat = 1022 + n.natAbs.log2 by omega,Nat.min_eq_left (by omega)]
   rw [hf]
   generalize n.natAbs * 2 ^ (52 - n.natAbs.log2) = M at *
   generalize hg : n.natAbs.log2 = g at *
   have hw : ∀ s,double.word s ((1022 + g) * 4503599627370496 + M) % 9223372036854775808 = (1022 + g) * 4503599627370496 + M ∧ (double.word s ((1022 + g) * 4503599627370496 + M) / 9223372036854775808 % 2 == 1) = s := by
     intro s
     unfold Format.word
     rw [e1]
     cases s
     · rw [if_neg (by decide)]; refine ⟨by omega,?_⟩; rw [beq_eq_false_iff_ne]; omega
     · rw [if_pos rfl]; refine ⟨by omega,?_⟩; rw [beq_iff_eq]; omega
   unfold Format.read
   simp only [e1,e2,e3]
   rw [(hw _).1,(hw _).2,if_neg (by omega),if_pos (by omega),lp]
   congr 1
   · omega
   · omega
theorem eh {s : Bool} {m u : Nat} : signed s m u = (if s then -1 else 1) * ((m : Int) * 2 ^ u) := by
 unfold signed
 rw [Nat.shiftLeft_eq]
 cases s <;> simp
theorem ot {a b : Int} {i j : Nat} {s t : Bool} (ha : s = decide (a < 0)) (hb : t = decide (b < 0) ∨ (b = 0)) (hz : a + b ≠ 0 ∨ (s && t) = false) :
   (Datum.sum (.number s (a.natAbs * 2 ^ i) (0 - (i : Int))) (.number t (b.natAbs * 2 ^ j) (0 - (j : Int)))).map double.write = some (BB (a + b)) := by
 simp only [Datum.sum,Option.map_some,Format.write,Option.some.injEq]
 have S0 : min ((0 : Int) - (i : Int)) (0 - (j : Int)) = 0 - ((max i j : Nat) : Int) := by omega
 rw [S0,show ((0 : Int) - (i : Int) - (0 - ((max i j : Nat) : Int))).toNat = max i j - i by omega,show ((0 : Int) - (j : Int) - (0 - ((max i j : Nat) : Int))).toNat = max i j - j by omega]
 have hx : ∀ (c : Int) (u : Bool) (k : Nat),k ≤ max i j → (u = decide (c < 0) ∨ c = 0) → signed u (c.natAbs * 2 ^ k) (max i j - k) = c * 2 ^ (max i j) := fun c u k hk hu => by
   rw [eh]
   push_cast
   rw [Int.mul_assoc,← Int.pow_add,show k + (max i j - k) = max i j by omega,← Int.mul_assoc]
   congr 1
   rcases hu with rfl | rfl
   · by_cases hc : c < 0
     · rw [decide_eq_true hc,if_pos rfl]; omega
     · rw [decide_eq_false hc,if_neg (by decide)]; omega
   · simp
 rw [hx a s i (by omega) (.inl ha),hx b t j (by omega) hb,← Int.add_mul]
 have hp : (0 : Int) < 2 ^ max i j := Int.pow_pos (by decide)
 by_cases h0 : a + b = 0
 · rw [h0,Int.zero_mul,if_pos rfl]
   rcases hz with hz | hz
   · exact absurd h0 hz
   · rw [hz]; unfold BB Format.nearest; simp
 · have A4 : (a + b) * 2 ^ max i j ≠ 0 := Int.mul_ne_zero h0 (by omega)
   rw [if_neg A4]
   have hs : decide ((a + b) * 2 ^ max i j < 0) = decide (a + b < 0) := decide_eq_decide.2 ⟨fun h => by
     apply Decidable.byContradiction
     intro hc
     have := Int.mul_nonneg (show 0 ≤ a + b by omega) (Int.le_of_lt hp)
     omega,fun h => Int.mul_neg_of_neg_of_pos h hp⟩
   rw [hs,Int.natAbs_mul,show ((2 : Int) ^ max i j).natAbs = 2 ^ max i j by rw [Int.natAbs_pow]; rfl,Th]
   rfl
theorem ou {a b : Int} (ha : a.natAbs < 9007199254740992) (hb : b.natAbs < 9007199254740992) : double.add (BB a) (BB b) = some (BB (a + b)) := by
 obtain ⟨i,hi⟩ := Eh ha
 obtain ⟨j,hj⟩ := Eh hb
 unfold Format.add
 rw [hi,hj]
 refine ot rfl (.inl rfl) ?_
 by_cases h : a + b = 0
 · right
   by_cases h1 : a < 0
   · rw [decide_eq_false (show ¬ b < 0 by omega),Bool.and_false]
   · rw [decide_eq_false h1,Bool.false_and]
 · exact .inl h
theorem ov {a b : Int} (ha : 0 ≤ a ∧ a < 9007199254740992) (hb : b.natAbs < 9007199254740992) : double.sub (BB a) (BB b) = some (BB (a - b)) := by
 obtain ⟨i,hi⟩ := Eh (n := a) (by omega)
 obtain ⟨j,hj⟩ := Eh hb
 unfold Format.sub
 rw [hi,hj]
 simp only [Datum.opposite]
 have e : b.natAbs = (-b).natAbs := by omega
 rw [e,show a - b = a + -b by omega]
 refine ot rfl ?_ (.inr (by rw [decide_eq_false (show ¬ a < 0 by omega),Bool.false_and]))
 by_cases h0 : b = 0
 · right; omega
 · left
   by_cases h1 : b < 0
   · rw [decide_eq_true h1,decide_eq_false (show ¬ -b < 0 by omega)]; rfl
   · rw [decide_eq_false h1,decide_eq_true (show -b < 0 by omega)]; rfl
theorem Ns {a b : Int} (ha : a.natAbs < 9007199254740992) (hb : b.natAbs < 9007199254740992) : double.order (BB a) (BB b) = some (compare a b) := by
 obtain ⟨i,hi⟩ := Eh ha
 obtain ⟨j,hj⟩ := Eh hb
 unfold Format.order
 rw [hi,hj]
 simp only [Datum.order,Option.some.injEq]
 have S0 : min ((0 : Int) - (i : Int)) (0 - (j : Int)) = 0 - ((max i j : Nat) : Int) := by omega
 rw [S0,show ((0 : Int) - (i : Int) - (0 - ((max i j : Nat) : Int))).toNat = max i j - i by omega,show ((0 : Int) - (j : Int) - (0 - ((max i j : Nat) : Int))).toNat = max i j - j by omega]
 have hx : ∀ (c : Int) (k : Nat),k ≤ max i j → signed (decide (c < 0)) (c.natAbs * 2 ^ k) (max i j - k) = c * 2 ^ (max i j) := fun c k hk => by
   rw [eh]
   push_cast
   rw [Int.mul_assoc,← Int.pow_add,show k + (max i j - k) = max i j by omega,← Int.mul_assoc]
   congr 1
   by_cases hc : c < 0
   · rw [decide_eq_true hc,if_pos rfl]; omega
   · rw [decide_eq_false hc,if_neg (by decide)]; omega
 rw [hx a i (by omega),hx b j (by omega)]
 have hp : (0 : Int) < 2 ^ max i j := Int.pow_pos (by decide)
 rcases Int.lt_trichotomy a b with h | h | h
 · rw [Int.compare_eq_lt.2 h,Int.compare_eq_lt.2 (Int.mul_lt_mul_of_pos_right h hp)]
 · subst h; rw [Int.compare_eq_eq.2 rfl,Int.compare_eq_eq.2 rfl]
 · rw [Int.compare_eq_gt.2 h,Int.compare_eq_gt.2 (Int.mul_lt_mul_of_pos_right h hp)]
end TwW
end
section
namespace TwW
open Go Tw Go.RowKit Go.Proofs.Tryz
section
variable {σ σ' : Hp} {R : Rr} {p : Option Addr} {n c : Nat} {ss : List Sr}
theorem inst_err {T : List Nd} {t : Int} (h : (instF T ss t).1 ≠ 0) : (instF T ss t).2 = [] := by
 unfold instF at h ⊢
 split at h
 · rename_i h0; rw [if_pos h0]
 · rename_i h0
   rw [if_neg h0]
   split at h
   · rename_i h1; rw [if_pos h1]
   · rename_i h1
     rw [if_neg h1]
     split at h
     · rfl
     · exact absurd rfl h
abbrev AAs (T : List Nd) (ss : List Sr) (t : Int) : List Sr := (instF T ss t).2.map fun e => ⟨e.ls,[(t,e.v)]⟩
theorem Y8 {T : List Nd} (h : Modest [] ss) (hl : T.length ≤ 100) (ht : (T.all fun x => decide (x.text.size ≤ 100)) = true) : Modest T ss :=
 ⟨by omega,fun x hx => by have := of_decide_eq_true (List.all_eq_true.1 ht x hx); omega,h.s,h.ps,h.nn⟩
theorem iU {s : ByteArray} {ts : List Cl} {T : List Nd} {cl : Cl} {t : Int} (hg : Gl σ) (hs : Ae 2 GL σ p n ss) (hS : SOk ss) (hM : Modest [] ss) (hl : Lx s.data.toList ts) (HY : s.size ≤ 4096) (hz : pz 60 0 0 ts = some ([cl],T)) (hk : cl.kind = 0) (hn : decide (ts.length ≤ 100000) = true) (hT : decide (T.length ≤ 100) = true) (ht : (T.all fun x => decide (x.text.size ≤ 100)) = true)
   (h : ∀ (σ' : Hp) (p' : Option Addr) (n' c' : Nat),Ae 2 GL σ' p' n' (AAs T ss t) → Ext σ σ' → R (.returned (.tuple #[.slice p' n' c',.int .i64 (instF T ss t).1])) σ') :
   Spec prog 20 #[.string s,.slice p n c,.int .i64 t] σ R :=
 oh hg hs hS (Y8 hM (of_decide_eq_true hT) ht) (Nat.le_trans (of_decide_eq_true hT) (by decide)) hl HY (of_decide_eq_true hn) hz hk (fun σ' p' n' c' h0 hr hx => by rw [← h0]; exact h σ' p' n' c' hr hx) fun σ' A4 hx => h σ' none 0 0 (by unfold AAs; rw [inst_err A4]; exact Ae.nil) hx
end
theorem TC (a b : ByteArray) : (a ++ b).data.toList = a.data.toList ++ b.data.toList := by rw [ByteArray.data_append,Array.toList_append]
theorem AAt {c u : UInt8} (h : (c == 61 || c == 33 || c == 60 || c == 62) = false) : Fb (bA [c,u]) Nq = false := by
 rw [Bool.eq_false_iff,ne_eq,SO]
 intro hm
 simp only [Bool.or_eq_false_iff,beq_eq_false_iff_ne] at h
 have key : ∀ x ∈ Nq,∀ c u,x = bA [c,u] → c = 61 ∨ c = 33 ∨ c = 60 ∨ c = 62 := by
   intro x hx c u e
   have e0 := congrArg (fun y : ByteArray => y.data.toList[0]?) e
   simp only [Nq,List.mem_cons,List.not_mem_nil,or_false] at hx
   rcases hx with rfl | rfl | rfl | rfl | rfl | rfl <;> (simp [bA] at e0; simp [← e0])
 rcases key _ hm c u rfl with e | e | e | e
 · exact h.1.1.1 e
 · exact h.1.1.2 e
 · exact h.1.2 e
 · exact h.2 e
theorem Lx.sg {c : UInt8} {l : List UInt8} {ts : List Cl} (h1 : c ∈ oa) (h2 : (c == 61 || c == 33 || c == 60 || c == 62) = false) (h : Lx l ts) : Lx (c :: l) (N2 5 (bA [c]) 0 :: ts) := Lx.one h1 (fun u _ => AAt h2) h
theorem ow {c : UInt8} {l : List UInt8} (h : P4 c = false) : ∀ u,(c :: l).head? = some u → P4 u = false := fun u hu => by cases hu; exact h
theorem AAu {c : UInt8} {l : List UInt8} (h : Kv c = false) : ∀ u,(c :: l).head? = some u → Kv u = false := fun u hu => by cases hu; exact h
end TwW
end
section
namespace TwW
open Go Tw Go.RowKit Go.Proofs.Tryz
section
variable {σ : Hp} {R : Rr} {p : Option Addr} {n c : Nat} {ss : List Sr} {t : Int} {s : ByteArray}
abbrev AAv : Cl := N2 0 ⟨#[]⟩ 0
end
end TwW
end
section
namespace TwW
open Go Tw
section
variable {w : ByteArray} {ss : List Sr} {t : Int}
theorem iV {T : List Nd} {l : List El} (hT : Ng T = some 2) (h : JT none ss = true ∧ -1099511627776 ≤ t ∧ t ≤ 1099511627776) (hm : Bk FF T ss t = some l) : instF T ss t = (0,l) := by
 have ha : F7 T ss = 0 := by
   unfold F7; rw [hT,h.1]; rfl
 unfold instF
 rw [ha,if_neg (by decide),if_neg (not_not_intro h.2),hm]
end
end TwW
end
section
namespace TwW
open Go Tw Go.RowKit Go.Proofs.Tryz
section
variable {σ : Hp} {R : Rr} {p : Option Addr} {n c : Nat} {ss : List Sr} {t : Int} {s : ByteArray}
abbrev AAw (t : Int) (l : List El) : List Sr := l.map fun e => ⟨e.ls,[(t,e.v)]⟩
theorem oy {l : List El} {i : Nat} {e : El} (hr : Ae 2 GL σ p n (AAw t l)) (he : l[i]? = some e) : ∃ b o p1 n1 c1 b2 o2 d1,p = some ⟨b,o,none⟩ ∧ As σ b (o + i * 2) [.slice p1 n1 c1,.slice (aD b2 o2) 1 d1] ∧ Fo σ p1 n1 e.ls ∧ As σ b2 o2 [.int .i64 t,.int .u64 e.v] := by
 obtain ⟨b,o,p1,n1,c1,q1,m1,d1,rfl,Ek,YW,hps,_⟩ := GL.at hr (i := i) (s := ⟨e.ls,[(t,e.v)]⟩) (by rw [List.getElem?_map,he]; rfl)
 have hm1 : 1 = m1 := hps.1
 subst hm1
 obtain ⟨b2,o2,rfl,Uj⟩ := Ey.at hps (i := 0) (x := (t,e.v)) rfl
 exact ⟨b,o,p1,n1,c1,b2,o2,d1,rfl,Ek,YW,by simpa using Uj⟩
theorem oz {v : Int} {l : List El} (hr : Ae 2 GL σ p n (AAw t l)) (hR : R (.returned (.bool (l.any fun e => decide (e.v = v)))) σ) : Spec prog 23 #[.slice p n c,.int .u64 v] σ R := by
 have hl : l.length = n := by have := hr.1; rwa [List.length_map] at this
 have Hf := hr.big
 refine H6.start ?_
 suffices H : ∀ g i : Nat,n - i = g → i ≤ n → (l.any fun e => decide (e.v = v)) = ((l.drop i).any fun e => decide (e.v = v)) → H6.JD R p n c v (i : Int) σ from H n 0 rfl (Nat.zero_le _) rfl
 intro g
 induction g with
 | zero =>
   intro i hg hi he
   rw [List.drop_eq_nil_of_le (by omega)] at he
   refine H6.BR ⟨fun Ax => by omega,fun _ => ?_⟩
   rw [he] at hR; exact hR
 | succ g ih =>
   intro i hg hi he
   have BM : i < n := by omega
   obtain ⟨e,hei⟩ : ∃ e,l[i]? = some e := ⟨_,List.getElem?_eq_getElem (by omega)⟩
   obtain ⟨b,o,p1,n1,c1,b2,o2,d1,rfl,Ek,_,Uj⟩ := oy hr hei
   rw [A3 hei,List.any_cons] at he
   refine H6.BR ⟨fun _ => ⟨b,o,rfl,by omega,aD b2 o2,1,d1,by simpa using Ek.2.1,fun _ => ⟨by omega,aD b2 o2,1,d1,by simpa using Ek.2.1,b2,o2,rfl,by decide,e.v,by simpa using Uj.2.1,fun hv => ?_,fun hv => ⟨AN BM Hf,ih (i + 1) (by omega) (by omega) ?_⟩⟩,fun hh => absurd rfl hh⟩,fun hh => by omega⟩
   · rw [he,decide_eq_true hv,Bool.true_or] at hR; exact hR
   · rw [he,decide_eq_false hv,Bool.false_or]
end
end TwW
end
section
namespace TwW
open Go Tw
def BI (n : Int) : Int := (BB n : Nat)
theorem cK {n : Int} (h : n.natAbs < 9007199254740992) : Hg (BB n) = false := by
 rw [LP]
 obtain ⟨k,hk⟩ := Eh h
 rw [hk]; rfl
theorem cL {n : Int} (h : n.natAbs < 9007199254740992) : toF (BB n) = BB n := by
 unfold toF; rw [cK h,if_neg (by decide)]
theorem tW {a b : Int} (ha : a.natAbs < 4503599627370496) (hb : b.natAbs < 4503599627370496) : Kq 1 (BI a) (BI b) = BI (a + b) := by
 unfold Kq BI
 rw [Int.toNat_natCast,Int.toNat_natCast]
 congr 1
 unfold Ua
 rw [show vo 1 (BB a) (BB b) = Ieee.double.add (BB a) (BB b) from rfl,ou (by omega) (by omega)]
 exact cL (by omega)
theorem tX {a b : Int} (ha : 0 ≤ a ∧ a < 4503599627370496) (hb : b.natAbs < 4503599627370496) : Kq 2 (BI a) (BI b) = BI (a - b) := by
 unfold Kq BI
 rw [Int.toNat_natCast,Int.toNat_natCast]
 congr 1
 unfold Ua
 rw [show vo 2 (BB a) (BB b) = Ieee.double.sub (BB a) (BB b) from rfl,ov ⟨ha.1,by omega⟩ (by omega)]
 exact cL (by omega)
theorem AAx {a b : Int} (ha : a.natAbs < 4503599627370496) (hb : b.natAbs < 4503599627370496) : Pz 7 (BI a) (BI b) = decide (a < b) := by
 unfold Pz BI fCm
 rw [Int.toNat_natCast,Int.toNat_natCast,Ns (by omega) (by omega)]
 simp only [show ¬ (7 : Int) = 5 by decide,show ¬ (7 : Int) = 6 by decide,if_false,if_true]
 rw [Bool.eq_iff_iff,decide_eq_true_eq,beq_iff_eq,Option.some.injEq]
 exact Int.compare_eq_lt
theorem Y9 {s : Bool} {r : Nat} (h : r ≤ 9218868437227405312) : (Ieee.double.read (Ieee.double.word s r)).isNaN = false := by
 have e1 : Ieee.double.signWeight = 9223372036854775808 := by kernel_rfl
 have e2 : Ieee.double.binade = 4503599627370496 := by kernel_rfl
 have e3 : Ieee.double.infRung = 9218868437227405312 := by kernel_rfl
 have hw : Ieee.double.word s r % 9223372036854775808 = r := by
   unfold Ieee.Format.word
   rw [e1]
   split <;> omega
 unfold Ieee.Format.read
 simp only [e1,e2,e3,hw]
 split
 · rfl
 · split
   · rfl
   · rw [if_pos (by omega)]; rfl
theorem o0 {s : Bool} {m : Nat} {p : Int} : (Ieee.double.read (Ieee.double.nearest s m p)).isNaN = false := by
 have e3 : Ieee.double.infRung = 9218868437227405312 := by kernel_rfl
 unfold Ieee.Format.nearest
 split
 · exact Y9 (by decide)
 · exact Y9 (by rw [e3]; exact Nat.min_le_right _ _)
theorem AAy {a b : Int} (ha : a.natAbs < 4503599627370496) (hb : b.natAbs < 4503599627370496) (h0 : b ≠ 0) : ∃ r,Ieee.double.div (BB a) (BB b) = some r ∧ Hg r = false := by
 obtain ⟨i,hi⟩ := Eh (n := a) (by omega)
 obtain ⟨j,hj⟩ := Eh (n := b) (by omega)
 have hn : b.natAbs * 2 ^ j ≠ 0 := Nat.mul_ne_zero (by omega) (Nat.pos_iff_ne_zero.1 (Nat.pow_pos (by decide)))
 unfold Ieee.Format.div
 rw [hi,hj]
 simp only [Ieee.Datum.quotient]
 rw [if_neg hn,Option.map_some]
 exact ⟨_,rfl,by rw [LP]; exact o0⟩
section
variable {σ : Hp}
theorem tY {a b r : Nat} {Φ : Value → Hp → Prop} (hr : Ieee.double.div a b = some r) (h : Φ (.float .f64 r) σ) : AJ prog (Go.binOp .quo 51 (.float .f64 a) (.float .f64 b)) σ Φ :=
 Dk (v := .float .f64 r) (fun w => by
   have e : (Go.binOp .quo 51 (.float .f64 a) (.float .f64 b)).run prog w = (sI a b (Ieee.double.div a b)).run prog w := by
     refine (show _ = (Op.floatArith .quo .f64 a b).run prog w from rfl).trans ?_; unfold Op.floatArith; simp only [FloatKind.format]; cases Ieee.double.div a b <;> rfl
   rw [e,hr]; rfl) h
end
theorem tZ {a b : Int} {r : Nat} (hr : Ieee.double.div (BB a) (BB b) = some r) (hn : Hg r = false) : Kq 4 (BI a) (BI b) = (r : Int) := by
 unfold Kq BI
 rw [Int.toNat_natCast,Int.toNat_natCast]
 unfold Ua
 rw [show vo 4 (BB a) (BB b) = Ieee.double.div (BB a) (BB b) from rfl,hr]
 show ((toF r : Nat) : Int) = r
 unfold toF
 rw [hn,if_neg (by decide)]
end TwW
end
section
namespace TwW
open Go Tw
def ANP (d : Int) (vl : List Int) : List (Int × Int) := vl.mapIdx fun i v => ((i : Int) * d,BI v)
abbrev kM : ByteArray := ⟨#[109]⟩
section
variable {d w t : Int} {vl : List Int} {j : Nat}
theorem pA {v : Int} (h : v.natAbs < 9007199254740992) : BI v ≠ Gy := fun e => by
 have h1 := cK h
 have h2 : BB v = 9218868437227405314 := by unfold BI Gy at e; omega
 rw [h2] at h1
 have : Hg 9218868437227405314 = true := by kernel_rfl
 rw [this] at h1; cases h1
theorem pB {op : Nat} {ss : List Sr} : Bk FF [G2 kM w,E2 op] ss t = DL FF (MB FF (E2 op) ⟨3,Aq w,[],Fy FF (G2 kM w) ss t⟩) := by
 unfold Bk
 rw [Mc]
 have e1 : G0 FF ss t (G2 kM w) (([] : List Vv).drop (0 - (G2 kM w).parts.toNat)) = some ⟨3,Aq w,[],Fy FF (G2 kM w) ss t⟩ := by
   unfold G0; rfl
 show (Option.bind ((G0 FF ss t (G2 kM w) (([] : List Vv).drop (0 - (G2 kM w).parts.toNat))).bind _) _) = _
 rw [e1,Option.bind_some]
 show (Option.bind (Mc FF ss t [E2 op] [(⟨3,Aq w,[],Fy FF (G2 kM w) ss t⟩ : Vv)]) _) = _
 rw [Mc]
 have e2 : G0 FF ss t (E2 op) ([(⟨3,Aq w,[],Fy FF (G2 kM w) ss t⟩ : Vv)].drop (1 - (E2 op).parts.toNat)) = (DL FF (MB FF (E2 op) ⟨3,Aq w,[],Fy FF (G2 kM w) ss t⟩)).map fun l => ⟨2,0,l,[]⟩ := by
   unfold G0; rfl
 show (Option.bind ((G0 FF ss t (E2 op) ([(⟨3,Aq w,[],Fy FF (G2 kM w) ss t⟩ : Vv)].drop (1 - (E2 op).parts.toNat))).bind _) _) = _
 rw [e2]
 cases DL FF (MB FF (E2 op) ⟨3,Aq w,[],Fy FF (G2 kM w) ss t⟩) <;> rfl
theorem ta {e : El} : DL FF [e] = some [e] := by
 unfold DL
 rw [if_pos (List.pairwise_singleton ..)]
 rfl
theorem ZA : DL FF [] = some [] := by
 unfold DL
 rw [if_pos List.Pairwise.nil]
 rfl
end
end TwW
end
section
namespace TwW
open Go Tw Go.RowKit Go.Proofs.Tryz
def txF : Nat → Int → ByteArray → Bool → ByteArray
 | 0,_,s,_ => s
 | f + 1,x,s,t => if t = true ∨ 0 < x then txF f (x / 10) (strOfNums [48 + x % 10] ++ s) false else s
section
variable {σ σ0 : Hp} {R : Rr}
theorem Us : ∀ (f : Nat) (x : Int) (s : ByteArray) (t : Bool) (σ : Hp),0 ≤ x → x ≤ 1000000 → x + (if t then 1 else 0) < f → s.size + f ≤ 100000 → (∀ σ',Ext σ σ' → R (.returned (.string (txF f x s t))) σ') → Gk.BF R x s t σ
 | 0,x,s,t,σ,h0,_,h2,_,_ => by exfalso; split at h2 <;> omega
 | f + 1,x,s,t,σ,h0,h1,h2,h3,h => by
   have go : (t = true ∨ 0 < x) → (10 ≠ (0 : Int) ∧ Df (Int.tmod x 10) fun x11 => AM (48 + x11) ∧ Df (IntKind.u8.wrap (48 + x11)) fun Dn => Al σ fun BC => AJ prog (convert 90 9 (.slice (aD BC 0) 1 1)) (Hp.set σ BC (.cells #[.int .u8 Dn] 5 (0,0))) (CT fun pf y => (ByteArray.size pf + ByteArray.size s ≤ 9223372036854775807) ∧ 10 ≠ (0 : Int) ∧ Df (IntKind.i64.wrap (Int.tdiv x 10)) fun Cn => Gk.BF R Cn (pf ++ s) false y)) := fun hc => by
     refine ⟨by decide,fun x11 Za => ?_⟩
     have sd : x11 = x % 10 := Za.trans (Int.tmod_eq_emod_of_nonneg h0)
     subst sd
     refine ⟨by unfold AM; omega,fun Dn h13 BC h14 => ?_⟩
     have e13 : Dn = 48 + x % 10 := by rw [h13]; simp [IntKind.wrap,IntKind.bits,IntKind.signed]; omega
     subst e13
     have HY : (strOfNums [48 + x % 10]).size = 1 := strOfNums_size _
     refine Yp (xs := [48 + x % 10]) (Ep.Zo (SP (f := .int .u8) (Hp.AB _ _ _))) ⟨_,rfl,by rw [HY]; omega,by decide,fun Cn h19 => ?_⟩
     have e19 : Cn = x / 10 := by
       rw [h19,Int.tdiv_eq_ediv_of_nonneg h0]; simp [IntKind.wrap,IntKind.bits,IntKind.signed]; omega
     subst e19
     refine Us f (x / 10) _ false _ (by omega) (by omega) ?_ (by rw [ByteArray.size_append,HY]; omega) fun σ' hx => ?_
     · rw [if_neg (by decide)]
       rcases hc with ht | hp
       · subst ht; rw [if_pos rfl] at h2; omega
       · split at h2 <;> omega
     · have := h σ' ((Ext.set h14).trans hx)
       rw [txF,if_pos hc] at this
       exact this
   refine Gk.Ay ⟨fun ht => go (.inl ht),fun hf => ⟨fun hp => go (.inr hp),fun hn => ?_⟩⟩
   have := h σ (.refl _)
   rw [txF,if_neg (by
     rintro (hh | hh)
     · rw [hf] at hh; cases hh
     · exact hn hh)] at this
   exact this
def tx (w : Int) : ByteArray := txF 1000 w ⟨#[]⟩ true
theorem iW {w : Int} (hw : 0 ≤ w ∧ w ≤ 500) (h : ∀ σ',Ext σ σ' → R (.returned (.string (tx w))) σ') : Spec prog 26 #[.int .i64 w] σ R :=
 Gk.start (Us 1000 w _ true σ hw.1 (by omega) (by rw [if_pos rfl]; omega) (by decide) h)
def wP (w : Nat) : Bool := match (tx w).data.toList ++ [115] with
 | [] => false
 | c :: r => BX c && r.all Kv && decide (Np (bA (c :: r)) = (w : Int)) && decide (r.length ≤ 10)
theorem pC : ((List.range 501).all fun k => decide (k = 0) || wP k) = true := by kernel_rfl
theorem ei {w : Int} (hw : 1 ≤ w ∧ w ≤ 500) : ∃ c r,(tx w).data.toList ++ [115] = c :: r ∧ BX c = true ∧ (∀ u ∈ r,Kv u = true) ∧ Np (bA (c :: r)) = w ∧ (tx w).size ≤ 10 := by
 have h := List.all_eq_true.1 pC w.toNat (List.mem_range.2 (by omega))
 have hn : ((w.toNat : Nat) : Int) = w := Int.toNat_of_nonneg (by omega)
 simp only [Bool.or_eq_true,decide_eq_true_eq] at h
 rcases h with h | h
 · omega
 unfold wP at h
 rw [hn] at h
 cases hq : (tx w).data.toList ++ [115] with
 | nil => rw [hq] at h; cases h
 | cons c r =>
   rw [hq] at h
   simp only [Bool.and_eq_true,decide_eq_true_eq,List.all_eq_true] at h
   refine ⟨c,r,rfl,h.1.1.1,h.1.1.2,h.1.2,?_⟩
   have e := congrArg List.length hq
   simp only [List.length_append,List.length_cons,List.length_nil] at e
   have : (tx w).size = (tx w).data.toList.length := (Array.length_toList ..).symm
   rw [this]
   have := h.2
   omega
def ZB (x : Int) : Int := Go.bits .and .i64 x 9223372036854775807
theorem AAz (x : Int) : 0 ≤ ZB x ∧ ZB x ≤ 9223372036854775807 := by
 constructor
 · have h2 : (BitVec.ofInt 64 9223372036854775807).toNat = 9223372036854775807 := rfl
   have e : ZB x = IntKind.i64.wrap (((BitVec.ofInt 64 x) &&& (BitVec.ofInt 64 9223372036854775807)).toNat : Int) := rfl
   rw [e,BitVec.toNat_and,h2]
   have hle : (BitVec.ofInt 64 x).toNat &&& 9223372036854775807 ≤ 9223372036854775807 := Nat.and_le_right
   generalize (BitVec.ofInt 64 x).toNat &&& 9223372036854775807 = y at hle
   simp [IntKind.wrap,IntKind.bits,IntKind.signed]; omega
 · have := (bits_within .and .i64 x 9223372036854775807).2
   have e2 : IntKind.max .i64 = 9223372036854775807 := rfl
   rw [e2] at this; exact this
theorem iX {x : Int} (h : R (.returned (.int .i64 (ZB x))) σ) : Spec prog 24 #[.int .i64 x] σ R := Xm.start fun x4 h4 => by rw [h4]; exact h
theorem wR {n : Int} {Φ : Value → Hp → Prop} (h : Φ (.float .f64 (BB n)) σ) : AJ prog (convert 3 51 (.int .i64 n)) σ Φ := Dk (v := .float .f64 (FloatKind.f64.nearest n)) (fun w => by kernel_rfl) h
theorem AV.jM {p : Option Addr} {n c b : Nat} {o o' : Obj} {xs : List Pt} (h : AV 2 Ey (σ0.set b o) σ p n c xs) : AV 2 Ey (σ0.set b o') (σ.set b o') p n c xs := by
 obtain ⟨⟨hl,cs,BN,hch⟩,hx⟩ := h
 obtain ⟨A4,hb⟩ := AP.1 (hx b o (Hp.AB ..))
 refine ⟨⟨hl,cs,?_,hch.1,hch.2⟩,fun k u hk => ?_⟩
 · obtain ⟨h1,h0,h2⟩ := BN
   refine ⟨h1,h0,?_⟩
   rcases h2 with h2 | ⟨b2,o2,arr,T,hp,Pb,rest⟩
   · exact .inl h2
   · exact .inr ⟨b2,o2,arr,T,hp,by rw [Hp.AI (fun e => A4 _ hp e.symm)]; exact Pb,rest⟩
 · by_cases GG : k = b
   · subst GG
     rw [Hp.AB] at hk
     exact AP.2 ⟨A4,by rw [Hp.AB]; exact hk⟩
   · rw [Hp.AI GG] at hk
     obtain ⟨a1,a2⟩ := AP.1 (hx k u (by rw [Hp.AI GG]; exact hk))
     exact AP.2 ⟨a1,by rw [Hp.AI GG]; exact a2⟩
end
end TwW
end
section
namespace TwW
open Go Tw Go.RowKit Go.Proofs.Tryz
abbrev iY (lb : Nat) (q : Option Addr) (i e : Nat) : Obj := .cells #[(.slice (aD lb 0) 1 1),.slice q i e] 40 (0,0)
section
variable {σ σ1 : Hp} {R : Rr} {p : Option Addr} {n c : Nat} {xs : List Int} {g s d w : Int} {lb sb : Nat}
theorem tc {x y k : Int} (hk : 0 < k) (h : y = Int.tmod (ZB x) k) : y = ZB x % k := h.trans (Int.tmod_eq_emod_of_nonneg (AAz x).1)
structure Bd (σ1 τ : Hp) (lb sb : Nat) (q : Option Addr) (m e : Nat) (d : Int) (vl : List Int) : Prop where
 out : AV 2 Ey (σ1.set sb (iY lb q m e)) τ q m e (ANP d vl)
end
end TwW
end
section
set_option maxRecDepth 100000
noncomputable section
namespace TwW
open Go Tw Go.Proofs.Tryz
variable [Ej] {R : Rr} {σ : Hp}

namespace AK
variable {p0 p8 po kJ : Option Addr} {n0 c0 n8 c8 n19 fg n20 kL : Nat} {x1 x2 x7 x10 x15 Lu : Int} {v9 v11 v12 v13 gD v17 : Value} {te : ByteArray} {y9 Lz Nt NL WY : Nat}
def M : Fw := ⟨prog,10,f10,[14,20,23,24,25,26,27],[16],false,[(10,15,false),(11,24,true),(12,10,false)],[],[(8144,[(0,wL),(1,wI),(7,wI),(8,wL),(9,wV),(10,wI),(11,wV),(12,wV),(13,wV),(14,wV),(15,wI)]),(262096,[(1,wI),(8,wL),(10,wI),(18,wT),(19,wL),(20,wL),(21,wI)]),(262099,[(1,wI),(8,wL),(10,wI),(18,wT),(19,wL),(20,wL),(21,wI)]),(8147,[(0,wL),(1,wI),(7,wI),(8,wL),(9,wV),(10,wI),(11,wV),(12,wV),(13,wV),(14,wV),(15,wI)]),(2085502,[(0,wL),(1,wI),(7,wI),(8,wL),(9,wV),(10,wI),(11,wV),(12,wV),(13,wV),(15,wI),(17,wV)])]⟩
theorem ok : M.Ok := ⟨.cons call14 (.cons call20 (.cons call23 (.cons call24 (.cons call25 (.cons call26 (.cons call27 (AG.nil))))))),mixed,func10,by kernel_rfl⟩
def pD := M.pt 0
def pE := M.pt 1
def TD := M.pt 2
def IJ := M.pt 3
def Mn := M.pt 4
theorem start (h : Spec prog 24 #[.int .i64 x2] σ (AA R (CI .i64 fun QL y => 500 ≠ (0 : Int) ∧ Df (Int.tmod QL 500) fun Vc => AM (1 + Vc) ∧ Al y fun Pn => Al (Hp.set y Pn (.cells #[(.string (ByteArray.mk #[95,95,110,97,109,101,95,95])),(.string (ByteArray.mk #[109]))] 56 (0,0))) fun b31 => Br (x1 < (-274877906944)) (Spec prog 14 #[] (Hp.set (Hp.set y Pn (.cells #[(.string (ByteArray.mk #[95,95,110,97,109,101,95,95])),(.string (ByteArray.mk #[109]))] 56 (0,0))) b31 (.cells #[(.slice (aD Pn 0) 1 1),.slice none 0 0] 40 (0,0))) (AA R (CB fun t38 AF => R (.returned (.bool t38)) AF))) (Br (274877906944 < x1) (Spec prog 14 #[] (Hp.set (Hp.set y Pn (.cells #[(.string (ByteArray.mk #[95,95,110,97,109,101,95,95])),(.string (ByteArray.mk #[109]))] 56 (0,0))) b31 (.cells #[(.slice (aD Pn 0) 1 1),.slice none 0 0] 40 (0,0))) (AA R (CB fun t38 AF => R (.returned (.bool t38)) AF))) (Spec prog 27 #[.int .i64 1] (Hp.set (Hp.set y Pn (.cells #[(.string (ByteArray.mk #[95,95,110,97,109,101,95,95])),(.string (ByteArray.mk #[109]))] 56 (0,0))) b31 (.cells #[(.slice (aD Pn 0) 1 1),.slice none 0 0] 40 (0,0))) (AA R (fun z AF => ∃ x39,(Value.float .f64 x39) = z ∧ Spec prog 27 #[(.int .i64 (-1))] AF (AA R (fun z AH => ∃ fi,(Value.float .f64 fi) = z ∧ pD R p0 n0 c0 x1 (1 + Vc) (aD b31 0) 1 1 (.float .f64 0) 0 (Value.float .f64 x39) (Value.float .f64 fi) (.float .f64 0) (.float .f64 0) 0 AH))))))))) : Spec prog 10 #[.slice p0 n0 c0,.int .i64 x1,.int .i64 x2] σ R := M.start h ok
theorem ej (h : Br (x15 < (n0 : Int)) (Pq p0 fun EE Nu => In x15 (n0 : Int) ∧ LI .i64 σ EE (Nu + Int.toNat x15 * 2) fun SB => In x15 (n0 : Int) ∧ LI .u64 σ EE ((Nu + Int.toNat x15 * 2) + 1) fun pg => 1000 ≠ (0 : Int) ∧ Df (Int.tmod pg 1000) fun x57 => (AJ prog (convert 48 51 (.int .u64 x57)) σ (fun z y => ∃ iZ,(Value.float .f64 iZ) = z ∧ Kp [EE] σ y ∧ (Spec prog 25 #[(Value.float .f64 iZ)] y (AA R (CI .u64 fun Ut AF => Kp [EE] y AF ∧ ∀ I9 : Nat,Pq p8 fun FL GC => In 0 (n8 : Int) ∧ LS AF FL (GC + 1) fun fc XN fe => Br (0 < (XN : Int)) (In 0 (n8 : Int) ∧ LS AF FL (GC + 1) fun p73 n73 c73 => In 0 (n8 : Int) ∧ LS AF FL (GC + 1) fun p77 fu c77 => AM ((fu : Int) - 1) ∧ Pq p73 fun b80 o80 => In (((fu : Int) - 1)) (n73 : Int) ∧ LI .i64 AF b80 (o80 + Int.toNat ((fu : Int) - 1) * 2) fun x82 => Br (SB ≤ x82) (IJ R (aD EE Nu) n0 c0 x1 x7 (aD FL GC) n8 c8 (.float .f64 y9) x10 (.float .f64 Lz) (.float .f64 Nt) (.float .f64 NL) (.float .f64 WY) x15 AF) (In 0 (n8 : Int) ∧ LS AF FL (GC + 1) fun aY aZ ad => Al AF fun Lq => AJ prog (Builtin.append_ #[38,38] 38 #[.slice aY aZ ad,(.slice (aD Lq 0) 1 1)]) (Hp.set AF Lq (.cells #[.int .i64 SB,.int .u64 Ut] 50 (0,0))) (CS fun fw fx fy AH => In 0 (n8 : Int) ∧ AJ prog (Instr.storeAt 38 (.pointer (aD FL (GC + 1))) (.slice fw fx fy)) AH (fun _ AZ => AM (x1 - x7) ∧ Br (SB ≤ (x1 - x7)) (IJ R (aD EE Nu) n0 c0 x1 x7 (aD FL GC) n8 c8 (.float .f64 y9) x10 (.float .f64 Lz) (.float .f64 Nt) (.float .f64 NL) (.float .f64 WY) x15 AZ) (Br (x1 < SB) (IJ R (aD EE Nu) n0 c0 x1 x7 (aD FL GC) n8 c8 (.float .f64 y9) x10 (.float .f64 Lz) (.float .f64 Nt) (.float .f64 NL) (.float .f64 WY) x15 AZ) (EN prog 22 #[.int .u64 Ut] AZ (fun z CE => ∃ Ei,(Value.float .f64 Ei) = z ∧ Br (x10 = 0) (Mn R (aD EE Nu) n0 c0 x1 x7 (aD FL GC) n8 c8 (.float .f64 y9) x10 (.float .f64 Lz) (.float .f64 Nt) (Value.float .f64 Ei) x15 (Value.float .f64 Ei) CE) (Mn R (aD EE Nu) n0 c0 x1 x7 (aD FL GC) n8 c8 (.float .f64 y9) x10 (.float .f64 Lz) (.float .f64 Nt) (.float .f64 NL) x15 (Value.float .f64 Ei) CE)))))))) (In 0 (n8 : Int) ∧ LS AF FL (GC + 1) fun aY aZ ad => Al AF fun Lq => AJ prog (Builtin.append_ #[38,38] 38 #[.slice aY aZ ad,(.slice (aD Lq 0) 1 1)]) (Hp.set AF Lq (.cells #[.int .i64 SB,.int .u64 Ut] 50 (0,0))) (CS fun fw fx fy AH => In 0 (n8 : Int) ∧ AJ prog (Instr.storeAt 38 (.pointer (aD FL (GC + 1))) (.slice fw fx fy)) AH (fun _ AZ => AM (x1 - x7) ∧ Br (SB ≤ (x1 - x7)) (IJ R (aD EE Nu) n0 c0 x1 x7 (aD FL GC) n8 c8 (.float .f64 y9) x10 (.float .f64 Lz) (.float .f64 Nt) (.float .f64 NL) (.float .f64 WY) x15 AZ) (Br (x1 < SB) (IJ R (aD EE Nu) n0 c0 x1 x7 (aD FL GC) n8 c8 (.float .f64 y9) x10 (.float .f64 Lz) (.float .f64 Nt) (.float .f64 NL) (.float .f64 WY) x15 AZ) (EN prog 22 #[.int .u64 Ut] AZ (fun z CE => ∃ Ei,(Value.float .f64 Ei) = z ∧ Br (x10 = 0) (Mn R (aD EE Nu) n0 c0 x1 x7 (aD FL GC) n8 c8 (.float .f64 y9) x10 (.float .f64 Lz) (.float .f64 Nt) (Value.float .f64 Ei) x15 (Value.float .f64 Ei) CE) (Mn R (aD EE Nu) n0 c0 x1 x7 (aD FL GC) n8 c8 (.float .f64 y9) x10 (.float .f64 Lz) (.float .f64 Nt) (.float .f64 NL) x15 (Value.float .f64 Ei) CE)))))))))) ∧ (∀ I9 : Nat,Spec prog 25 #[(Value.float .f64 iZ)] y (AA R (CI .u64 fun Ut AF => Kp [EE] y AF ∧ Pq p8 fun FL GC => In 0 (n8 : Int) ∧ LS AF FL (GC + 1) fun fc XN fe => Br (0 < (XN : Int)) (In 0 (n8 : Int) ∧ LS AF FL (GC + 1) fun p73 n73 c73 => In 0 (n8 : Int) ∧ LS AF FL (GC + 1) fun p77 fu c77 => AM ((fu : Int) - 1) ∧ Pq p73 fun b80 o80 => In (((fu : Int) - 1)) (n73 : Int) ∧ LI .i64 AF b80 (o80 + Int.toNat ((fu : Int) - 1) * 2) fun x82 => Br (SB ≤ x82) (IJ R (aD EE Nu) n0 c0 x1 x7 (aD FL GC) n8 c8 (.float .f64 y9) x10 (.float .f64 Lz) (.float .f64 Nt) (.float .f64 NL) (.float .f64 WY) x15 AF) (In 0 (n8 : Int) ∧ LS AF FL (GC + 1) fun aY aZ ad => Al AF fun Lq => AJ prog (Builtin.append_ #[38,38] 38 #[.slice aY aZ ad,(.slice (aD Lq 0) 1 1)]) (Hp.set AF Lq (.cells #[.int .i64 SB,.int .u64 Ut] 50 (0,0))) (CS fun fw fx fy AH => In 0 (n8 : Int) ∧ AJ prog (Instr.storeAt 38 (.pointer (aD FL (GC + 1))) (.slice fw fx fy)) AH (fun _ AZ => AM (x1 - x7) ∧ Br (SB ≤ (x1 - x7)) (IJ R (aD EE Nu) n0 c0 x1 x7 (aD FL GC) n8 c8 (.float .f64 y9) x10 (.float .f64 Lz) (.float .f64 Nt) (.float .f64 NL) (.float .f64 WY) x15 AZ) (Br (x1 < SB) (IJ R (aD EE Nu) n0 c0 x1 x7 (aD FL GC) n8 c8 (.float .f64 y9) x10 (.float .f64 Lz) (.float .f64 Nt) (.float .f64 NL) (.float .f64 WY) x15 AZ) (EN prog 22 #[.int .u64 Ut] AZ (fun z CE => ∃ Ei,(Value.float .f64 Ei) = z ∧ Br (x10 = 0) (Mn R (aD EE Nu) n0 c0 x1 x7 (aD FL GC) n8 c8 (.float .f64 y9) x10 (.float .f64 Lz) (.float .f64 Nt) (Value.float .f64 Ei) x15 (Value.float .f64 Ei) CE) (Mn R (aD EE Nu) n0 c0 x1 x7 (aD FL GC) n8 c8 (.float .f64 y9) x10 (.float .f64 Lz) (.float .f64 Nt) (.float .f64 NL) x15 (Value.float .f64 Ei) CE)))))))) (In 0 (n8 : Int) ∧ LS AF FL (GC + 1) fun aY aZ ad => Al AF fun Lq => AJ prog (Builtin.append_ #[38,38] 38 #[.slice aY aZ ad,(.slice (aD Lq 0) 1 1)]) (Hp.set AF Lq (.cells #[.int .i64 SB,.int .u64 Ut] 50 (0,0))) (CS fun fw fx fy AH => In 0 (n8 : Int) ∧ AJ prog (Instr.storeAt 38 (.pointer (aD FL (GC + 1))) (.slice fw fx fy)) AH (fun _ AZ => AM (x1 - x7) ∧ Br (SB ≤ (x1 - x7)) (IJ R (aD EE Nu) n0 c0 x1 x7 (aD FL GC) n8 c8 (.float .f64 y9) x10 (.float .f64 Lz) (.float .f64 Nt) (.float .f64 NL) (.float .f64 WY) x15 AZ) (Br (x1 < SB) (IJ R (aD EE Nu) n0 c0 x1 x7 (aD FL GC) n8 c8 (.float .f64 y9) x10 (.float .f64 Lz) (.float .f64 Nt) (.float .f64 NL) (.float .f64 WY) x15 AZ) (EN prog 22 #[.int .u64 Ut] AZ (fun z CE => ∃ Ei,(Value.float .f64 Ei) = z ∧ Br (x10 = 0) (Mn R (aD EE Nu) n0 c0 x1 x7 (aD FL GC) n8 c8 (.float .f64 y9) x10 (.float .f64 Lz) (.float .f64 Nt) (Value.float .f64 Ei) x15 (Value.float .f64 Ei) CE) (Mn R (aD EE Nu) n0 c0 x1 x7 (aD FL GC) n8 c8 (.float .f64 y9) x10 (.float .f64 Lz) (.float .f64 Nt) (.float .f64 NL) x15 (Value.float .f64 Ei) CE)))))))))))) ∧ (∀ I9 : Nat,AJ prog (convert 48 51 (.int .u64 x57)) σ (fun z y => ∃ iZ,(Value.float .f64 iZ) = z ∧ Kp [EE] σ y ∧ Spec prog 25 #[(Value.float .f64 iZ)] y (AA R (CI .u64 fun Ut AF => Kp [EE] y AF ∧ Pq p8 fun FL GC => In 0 (n8 : Int) ∧ LS AF FL (GC + 1) fun fc XN fe => Br (0 < (XN : Int)) (In 0 (n8 : Int) ∧ LS AF FL (GC + 1) fun p73 n73 c73 => In 0 (n8 : Int) ∧ LS AF FL (GC + 1) fun p77 fu c77 => AM ((fu : Int) - 1) ∧ Pq p73 fun b80 o80 => In (((fu : Int) - 1)) (n73 : Int) ∧ LI .i64 AF b80 (o80 + Int.toNat ((fu : Int) - 1) * 2) fun x82 => Br (SB ≤ x82) (IJ R (aD EE Nu) n0 c0 x1 x7 (aD FL GC) n8 c8 (.float .f64 y9) x10 (.float .f64 Lz) (.float .f64 Nt) (.float .f64 NL) (.float .f64 WY) x15 AF) (In 0 (n8 : Int) ∧ LS AF FL (GC + 1) fun aY aZ ad => Al AF fun Lq => AJ prog (Builtin.append_ #[38,38] 38 #[.slice aY aZ ad,(.slice (aD Lq 0) 1 1)]) (Hp.set AF Lq (.cells #[.int .i64 SB,.int .u64 Ut] 50 (0,0))) (CS fun fw fx fy AH => In 0 (n8 : Int) ∧ AJ prog (Instr.storeAt 38 (.pointer (aD FL (GC + 1))) (.slice fw fx fy)) AH (fun _ AZ => AM (x1 - x7) ∧ Br (SB ≤ (x1 - x7)) (IJ R (aD EE Nu) n0 c0 x1 x7 (aD FL GC) n8 c8 (.float .f64 y9) x10 (.float .f64 Lz) (.float .f64 Nt) (.float .f64 NL) (.float .f64 WY) x15 AZ) (Br (x1 < SB) (IJ R (aD EE Nu) n0 c0 x1 x7 (aD FL GC) n8 c8 (.float .f64 y9) x10 (.float .f64 Lz) (.float .f64 Nt) (.float .f64 NL) (.float .f64 WY) x15 AZ) (EN prog 22 #[.int .u64 Ut] AZ (fun z CE => ∃ Ei,(Value.float .f64 Ei) = z ∧ Br (x10 = 0) (Mn R (aD EE Nu) n0 c0 x1 x7 (aD FL GC) n8 c8 (.float .f64 y9) x10 (.float .f64 Lz) (.float .f64 Nt) (Value.float .f64 Ei) x15 (Value.float .f64 Ei) CE) (Mn R (aD EE Nu) n0 c0 x1 x7 (aD FL GC) n8 c8 (.float .f64 y9) x10 (.float .f64 Lz) (.float .f64 Nt) (.float .f64 NL) x15 (Value.float .f64 Ei) CE)))))))) (In 0 (n8 : Int) ∧ LS AF FL (GC + 1) fun aY aZ ad => Al AF fun Lq => AJ prog (Builtin.append_ #[38,38] 38 #[.slice aY aZ ad,(.slice (aD Lq 0) 1 1)]) (Hp.set AF Lq (.cells #[.int .i64 SB,.int .u64 Ut] 50 (0,0))) (CS fun fw fx fy AH => In 0 (n8 : Int) ∧ AJ prog (Instr.storeAt 38 (.pointer (aD FL (GC + 1))) (.slice fw fx fy)) AH (fun _ AZ => AM (x1 - x7) ∧ Br (SB ≤ (x1 - x7)) (IJ R (aD EE Nu) n0 c0 x1 x7 (aD FL GC) n8 c8 (.float .f64 y9) x10 (.float .f64 Lz) (.float .f64 Nt) (.float .f64 NL) (.float .f64 WY) x15 AZ) (Br (x1 < SB) (IJ R (aD EE Nu) n0 c0 x1 x7 (aD FL GC) n8 c8 (.float .f64 y9) x10 (.float .f64 Lz) (.float .f64 Nt) (.float .f64 NL) (.float .f64 WY) x15 AZ) (EN prog 22 #[.int .u64 Ut] AZ (fun z CE => ∃ Ei,(Value.float .f64 Ei) = z ∧ Br (x10 = 0) (Mn R (aD EE Nu) n0 c0 x1 x7 (aD FL GC) n8 c8 (.float .f64 y9) x10 (.float .f64 Lz) (.float .f64 Nt) (Value.float .f64 Ei) x15 (Value.float .f64 Ei) CE) (Mn R (aD EE Nu) n0 c0 x1 x7 (aD FL GC) n8 c8 (.float .f64 y9) x10 (.float .f64 Lz) (.float .f64 Nt) (.float .f64 NL) x15 (Value.float .f64 Ei) CE)))))))))))) (Pq p8 fun lv AHE => In 0 (n8 : Int) ∧ LS σ lv (AHE + 1) fun ATX n128 ATY => Br ((n128 : Int) = 0) (Spec prog 14 #[] σ (AA R (CB fun t131 y => R (.returned (.bool t131)) y))) (Spec prog 26 #[.int .i64 x7] σ (AA R (CT fun AA0 y => (ByteArray.size (ByteArray.mk #[40,109,91]) + ByteArray.size AA0 ≤ 9223372036854775807) ∧ (ByteArray.size ((ByteArray.mk #[40,109,91]) ++ AA0) + ByteArray.size (ByteArray.mk #[115,93,41]) ≤ 9223372036854775807) ∧ Al y fun AHF => AJ prog (convert 3 51 (.int .i64 x10)) (Hp.set y AHF (.cells #[(.string (ByteArray.mk #[99,111,117,110,116,95,111,118,101,114,95,116,105,109,101])),(.string (ByteArray.mk #[115,117,109,95,111,118,101,114,95,116,105,109,101])),(.string (ByteArray.mk #[109,105,110,95,111,118,101,114,95,116,105,109,101])),(.string (ByteArray.mk #[109,97,120,95,111,118,101,114,95,116,105,109,101])),(.string (ByteArray.mk #[108,97,115,116,95,111,118,101,114,95,116,105,109,101])),(.string (ByteArray.mk #[97,118,103,95,111,118,101,114,95,116,105,109,101])),(.string (ByteArray.mk #[100,101,108,116,97]))] 9 (0,0))) (fun z AF => ∃ AHG,(Value.float .f64 AHG) = z ∧ AJ prog (convert 3 51 (.int .i64 (if x10 < 1 then 1 else x10))) AF (fun z AH => ∃ AHH,(Value.float .f64 AHH) = z ∧ AJ prog (binOp .quo 51 (.float .f64 y9) (Value.float .f64 AHH)) AH (fun z AZ => ∃ AHI,(Value.float .f64 AHI) = z ∧ AJ prog (binOp .sub 51 (.float .f64 WY) (.float .f64 NL)) AZ (fun z CE => ∃ AHJ,(Value.float .f64 AHJ) = z ∧ Al CE fun AHK => pE R x1 (aD lv AHE) n8 c8 x10 ((((ByteArray.mk #[40,109,91]) ++ AA0) ++ (ByteArray.mk #[115,93,41]))) (aD AHF 0) 7 7 (aD AHK 0) 7 7 0 (Hp.set CE AHK (.cells #[(Value.float .f64 AHG),(.float .f64 y9),(.float .f64 Lz),(.float .f64 Nt),(.float .f64 WY),(Value.float .f64 AHI),(Value.float .f64 AHJ)] 51 (0,0)))))))))))) : pD R p0 n0 c0 x1 x7 p8 n8 c8 (.float .f64 y9) x10 (.float .f64 Lz) (.float .f64 Nt) (.float .f64 NL) (.float .f64 WY) x15 σ := M.of h ok rfl
theorem ek (h : Br (Lu < (n19 : Int)) (Pq po fun pF pG => In Lu (n19 : Int) ∧ LT σ pF (pG + Int.toNat Lu * 1) fun AHL => (ByteArray.size AHL + ByteArray.size te ≤ 9223372036854775807) ∧ Spec prog 20 #[(.string (AHL ++ te)),.slice p8 n8 c8,.int .i64 x1] σ (AA R (fun z y => ∃ pH Nv pI wS,z = (.tuple #[.slice pH Nv pI,.int .i64 wS]) ∧ Br (wS ≠ 0) (R (.returned (.bool false)) y) (Br (x10 = 0) (Br ((Nv : Int) ≠ 0) (R (.returned (.bool false)) y) (TD R x1 p8 n8 c8 x10 te (aD pF pG) n19 fg kJ n20 kL Lu y)) (Br (Lu = 6) (Br (x10 < 2) (Br ((Nv : Int) ≠ 0) (R (.returned (.bool false)) y) (TD R x1 p8 n8 c8 x10 te (aD pF pG) n19 fg kJ n20 kL Lu y)) (Br ((Nv : Int) ≠ 1) (R (.returned (.bool false)) y) (Pq pH fun ZC ZD => In 0 (Nv : Int) ∧ LS y ZC ZD fun AHM n192 AHN => Br ((n192 : Int) ≠ 0) (R (.returned (.bool false)) y) (Pq kJ fun ZE ZF => In Lu (n20 : Int) ∧ ∃ ZG,Hp.ld y ⟨ZE,(ZF + Int.toNat Lu * 1),none⟩ = some (Value.float .f64 ZG) ∧ Spec prog 25 #[(Value.float .f64 ZG)] y (AA R (CI .u64 fun pJ AF => Spec prog 23 #[(.slice (aD ZC ZD) Nv pI),.int .u64 pJ] AF (AA R (CB fun t203 AH => Bn t203 (R (.returned (.bool false)) AH) (TD R x1 p8 n8 c8 x10 te (aD pF pG) n19 fg (aD ZE ZF) n20 kL Lu AH))))))))) (Br ((Nv : Int) ≠ 1) (R (.returned (.bool false)) y) (Pq pH fun ZC ZD => In 0 (Nv : Int) ∧ LS y ZC ZD fun AHM n192 AHN => Br ((n192 : Int) ≠ 0) (R (.returned (.bool false)) y) (Pq kJ fun ZE ZF => In Lu (n20 : Int) ∧ ∃ ZG,Hp.ld y ⟨ZE,(ZF + Int.toNat Lu * 1),none⟩ = some (Value.float .f64 ZG) ∧ Spec prog 25 #[(Value.float .f64 ZG)] y (AA R (CI .u64 fun pJ AF => Spec prog 23 #[(.slice (aD ZC ZD) Nv pI),.int .u64 pJ] AF (AA R (CB fun t203 AH => Bn t203 (R (.returned (.bool false)) AH) (TD R x1 p8 n8 c8 x10 te (aD pF pG) n19 fg (aD ZE ZF) n20 kL Lu AH))))))))))))) (Spec prog 14 #[] σ (AA R (CB fun t206 y => R (.returned (.bool t206)) y)))) : pE R x1 p8 n8 c8 x10 te po n19 fg kJ n20 kL Lu σ := M.of h ok rfl
theorem pK (h : AM (Lu + 1) ∧ pE R x1 p8 n8 c8 x10 te po n19 fg kJ n20 kL (Lu + 1) σ) : TD R x1 p8 n8 c8 x10 te po n19 fg kJ n20 kL Lu σ := M.of h ok rfl
theorem Nw (h : AM (x15 + 1) ∧ pD R p0 n0 c0 x1 x7 p8 n8 c8 v9 x10 v11 v12 v13 gD (x15 + 1) σ) : IJ R p0 n0 c0 x1 x7 p8 n8 c8 v9 x10 v11 v12 v13 gD x15 σ := M.of h ok rfl
theorem eo (h : AM (x10 + 1) ∧ AJ prog (binOp .add 51 v9 v17) σ (fun z y => ∃ AHO,(Value.float .f64 AHO) = z ∧ AJ prog (Builtin.min_ #[51,51] 51 #[v11,v17]) y (fun z AF => ∃ AHP,(Value.float .f64 AHP) = z ∧ AJ prog (Builtin.max_ #[51,51] 51 #[v12,v17]) AF (fun z AH => ∃ AHQ,(Value.float .f64 AHQ) = z ∧ IJ R p0 n0 c0 x1 x7 p8 n8 c8 (Value.float .f64 AHO) (x10 + 1) (Value.float .f64 AHP) (Value.float .f64 AHQ) v13 v17 x15 AH)))) : Mn R p0 n0 c0 x1 x7 p8 n8 c8 v9 x10 v11 v12 v13 x15 v17 σ := M.of h ok rfl
end AK
end TwW
end
end
section
namespace TwW
open Go Tw Go.RowKit Go.Proofs.Tryz
def CIn (τ : Hp) (vs : List Value) (x : Sr × Option Addr × Nat) : Prop := ∃ p n c,vs = [.slice p n c,.slice x.2.1 x.1.ps.length x.2.2] ∧ Fo τ p n x.1.ls
def OwP (σ : Hp) (q : Option Addr × Nat) (ps : List Pt) : Prop := ∃ cs,A6 2 σ q.1 ps.length q.2 cs ∧ Ch 2 Ey σ cs ps
structure Cpy (τ σ : Hp) (p : Option Addr) (n c : Nat) (ss : List Sr) (qs : List (Option Addr × Nat)) : Prop where
 len : qs.length = ss.length
 own : ∃ cs,A6 2 σ p n c cs ∧ Ch 2 CIn τ cs (ss.zip qs)
 pts : ∀ (i : Nat) (q : Option Addr × Nat) (s : Sr),qs[i]? = some q → ss[i]? = some s → OwP σ q s.ps
 sep : ∀ (i : Nat) (q : Option Addr × Nat),qs[i]? = some q → ∀ a,q.1 = some a → τ a.block = none ∧ ∀ a',p = some a' → a.block ≠ a'.block
 nd : ∀ (i j : Nat) (q r : Option Addr × Nat),qs[i]? = some q → qs[j]? = some r → i ≠ j → ∀ a a',q.1 = some a → r.1 = some a' → a.block ≠ a'.block
 op : ∀ a,p = some a → τ a.block = none
 ext : Ext τ σ
section
variable {σ σ' τ : Hp} {R : Rr} {p : Option Addr} {n c : Nat} {ss : List Sr} {qs : List (Option Addr × Nat)}
end
end TwW
end
section
namespace TwW
open Go Tw
def Bq : List Int → Int
 | [] => 0
 | a :: l => a + Bq l
theorem Nx : ∀ {l : List Int},(∀ x ∈ l,0 ≤ x) → 0 ≤ Bq l
 | [],_ => Int.le_refl _
 | a :: l,h => by
   have h1 := h a (List.mem_cons_self ..)
   have h2 := Nx (l := l) fun x hx => h x (List.mem_cons_of_mem _ hx)
   show 0 ≤ a + Bq l
   omega
theorem TE : ∀ (l m : List Int),Bq (l ++ m) = Bq l + Bq m
 | [],m => by simp [Bq]
 | a :: l,m => by
   have := TE l m
   simp only [List.cons_append,Bq]
   omega
theorem QT {k : Int} : ∀ {l : List Int},(∀ x ∈ l,x ≤ k) → Bq l ≤ k * l.length
 | [],_ => by simp [Bq]
 | a :: l,h => by
   have h1 := h a (List.mem_cons_self ..)
   have h2 := QT (l := l) fun x hx => h x (List.mem_cons_of_mem _ hx)
   simp only [Bq,List.length_cons]
   rw [show ((l.length + 1 : Nat) : Int) = (l.length : Int) + 1 by omega,Int.mul_add,Int.mul_one]
   omega
theorem TF {n : Int} (h : n.natAbs < 4503599627370496) : nrm (BI n) = BI n := by
 unfold nrm BI
 rw [Int.toNat_natCast,cL (by omega)]
theorem fold_add : ∀ (l : List Int) (s : Int),0 ≤ s → (∀ x ∈ l,0 ≤ x) → s + Bq l < 4503599627370496 → (l.map BI).foldl (Kq 1) (BI s) = BI (s + Bq l)
 | [],s,_,_,_ => by simp [Bq]
 | a :: l,s,h0,h,hb => by
   have ha := h a (List.mem_cons_self ..)
   have hl := Nx (l := l) fun x hx => h x (List.mem_cons_of_mem _ hx)
   simp only [Bq] at hb ⊢
   rw [List.map_cons,List.foldl_cons,tW (by omega) (by omega),fold_add l (s + a) (by omega) (fun x hx => h x (List.mem_cons_of_mem _ hx)) (by omega),Int.add_assoc]
theorem tf {l : List Int} (h0 : l ≠ []) (h : ∀ x ∈ l,0 ≤ x) (hb : Bq l < 4503599627370496) : Oc (l.map BI) = BI (Bq l) := by
 cases l with
 | nil => exact absurd rfl h0
 | cons a l =>
   have ha := h a (List.mem_cons_self ..)
   have hl := Nx (l := l) fun x hx => h x (List.mem_cons_of_mem _ hx)
   simp only [Bq] at hb ⊢
   show (l.map BI).foldl (Kq 1) (nrm (BI a)) = _
   rw [TF (by omega),fold_add l a ha (fun x hx => h x (List.mem_cons_of_mem _ hx)) hb]
def WD (a : Int) (l : List Int) : Int := l.foldl (fun a b => if b < a then b else a) a
def ia (a : Int) (l : List Int) : Int := l.foldl (fun a b => if a < b then b else a) a
def P6 : List Int → Int
 | [] => 0
 | a :: l => WD a l
def WE : List Int → Int
 | [] => 0
 | a :: l => ia a l
def wX (m : Int) (l : List Int) : Prop := m ∈ l ∧ ∀ x ∈ l,m ≤ x
theorem TG : ∀ (l : List Int) (a : Int),wX (WD a l) (a :: l)
 | [],a => ⟨List.mem_cons_self ..,fun x hx => by rw [List.mem_singleton.1 hx]; exact Int.le_refl _⟩
 | b :: l,a => by
   obtain ⟨h1,h2⟩ := TG l (if b < a then b else a)
   refine ⟨?_,fun x hx => ?_⟩
   · rcases List.mem_cons.1 h1 with e | e
     · show WD (if b < a then b else a) l ∈ _
       rw [e]
       split
       · exact List.mem_cons_of_mem _ (List.mem_cons_self ..)
       · exact List.mem_cons_self ..
     · exact List.mem_cons_of_mem _ (List.mem_cons_of_mem _ e)
   · have h3 := h2 _ (List.mem_cons_self ..)
     show WD (if b < a then b else a) l ≤ x
     rcases List.mem_cons.1 hx with rfl | hx
     · split at h3 <;> (split <;> omega)
     · rcases List.mem_cons.1 hx with rfl | hx
       · split at h3 <;> (split <;> omega)
       · exact h2 x (List.mem_cons_of_mem _ hx)
theorem cM {l : List Int} (h : l ≠ []) : wX (P6 l) l := by
 cases l with
 | nil => exact absurd rfl h
 | cons a l => exact TG l a
theorem ib {l : List Int} {x : Int} (h : l ≠ []) : P6 (l ++ [x]) = if x < P6 l then x else P6 l := by
 cases l with
 | nil => exact absurd rfl h
 | cons a l =>
   show WD a (l ++ [x]) = _
   unfold WD
   rw [List.foldl_append]; rfl
theorem ic {l : List Int} {x : Int} (h : l ≠ []) : WE (l ++ [x]) = if WE l < x then x else WE l := by
 cases l with
 | nil => exact absurd rfl h
 | cons a l =>
   show ia a (l ++ [x]) = _
   unfold ia
   rw [List.foldl_append]; rfl
theorem wY {n : Int} (h : n.natAbs < 4503599627370496) : nrm (BI n) ≠ 9221120237041090560 := fun e => by
 rw [TF h] at e
 have h1 := cK (n := n) (by omega)
 have h2 : BB n = 9221120237041090560 := by unfold BI at e; omega
 rw [h2] at h1
 have : Hg 9221120237041090560 = true := by kernel_rfl
 rw [this] at h1; cases h1
theorem AA1 {a b : Int} (ha : a.natAbs < 4503599627370496) (hb : b.natAbs < 4503599627370496) : Pz 9 (BI a) (BI b) = decide (b < a) := by
 unfold Pz BI fCm
 rw [Int.toNat_natCast,Int.toNat_natCast,Ns (by omega) (by omega)]
 simp only [show ¬ (9 : Int) = 5 by decide,show ¬ (9 : Int) = 6 by decide,show ¬ (9 : Int) = 7 by decide,show ¬ (9 : Int) = 8 by decide,if_false,if_true]
 rw [Bool.eq_iff_iff,decide_eq_true_eq,beq_iff_eq,Option.some.injEq]
 exact Int.compare_eq_gt
abbrev qH (l : List Int) : Prop := ∀ x ∈ l,x.natAbs < 4503599627370496
theorem ANQ {a b : Int} (ha : a.natAbs < 4503599627370496) (hb : b.natAbs < 4503599627370496) : Lk 7 (BI a) (BI b) = BI (if b < a then b else a) := by
 unfold Lk
 rw [AAx hb ha]
 by_cases h : b < a
 · rw [if_pos (.inl (decide_eq_true h)),if_pos h]
 · rw [if_neg (by rintro (h1 | h1)
                  · exact h (of_decide_eq_true h1)
                  · exact wY ha h1),if_neg h]
theorem ANR {a b : Int} (ha : a.natAbs < 4503599627370496) (hb : b.natAbs < 4503599627370496) : Lk 9 (BI a) (BI b) = BI (if a < b then b else a) := by
 unfold Lk
 rw [AA1 hb ha]
 by_cases h : a < b
 · rw [if_pos (.inl (decide_eq_true h)),if_pos h]
 · rw [if_neg (by rintro (h1 | h1)
                  · exact h (of_decide_eq_true h1)
                  · exact wY ha h1),if_neg h]
theorem wZ : ∀ (l : List Int) (a : Int),a.natAbs < 4503599627370496 → qH l → (l.map BI).foldl (Lk 7) (BI a) = BI (WD a l) ∧ (WD a l).natAbs < 4503599627370496
 | [],a,ha,_ => ⟨rfl,ha⟩
 | b :: l,a,ha,h => by
   have hb := h b (List.mem_cons_self ..)
   rw [List.map_cons,List.foldl_cons,ANQ ha hb]
   exact wZ l _ (by split <;> omega) fun x hx => h x (List.mem_cons_of_mem _ hx)
theorem pL : ∀ (l : List Int) (a : Int),a.natAbs < 4503599627370496 → qH l → (l.map BI).foldl (Lk 9) (BI a) = BI (ia a l) ∧ (ia a l).natAbs < 4503599627370496
 | [],a,ha,_ => ⟨rfl,ha⟩
 | b :: l,a,ha,h => by
   have hb := h b (List.mem_cons_self ..)
   rw [List.map_cons,List.foldl_cons,ANR ha hb]
   exact pL l _ (by split <;> omega) fun x hx => h x (List.mem_cons_of_mem _ hx)
theorem pM {l : List Int} (h0 : l ≠ []) (h : qH l) : HS 7 (l.map BI) = BI (P6 l) := by
 cases l with
 | nil => exact absurd rfl h0
 | cons a l =>
   obtain ⟨h1,h2⟩ := wZ l a (h a (List.mem_cons_self ..)) fun x hx => h x (List.mem_cons_of_mem _ hx)
   show nrm ((l.map BI).foldl (Lk 7) (BI a)) = BI (WD a l)
   rw [h1,TF h2]
theorem pN {l : List Int} (h0 : l ≠ []) (h : qH l) : HS 9 (l.map BI) = BI (WE l) := by
 cases l with
 | nil => exact absurd rfl h0
 | cons a l =>
   obtain ⟨h1,h2⟩ := pL l a (h a (List.mem_cons_self ..)) fun x hx => h x (List.mem_cons_of_mem _ hx)
   show nrm ((l.map BI).foldl (Lk 9) (BI a)) = BI (ia a l)
   rw [h1,TF h2]
def Ny (l : List Int) : Nat := if l = [] then 9218868437227405312 else BB (P6 l)
def Nz (l : List Int) : Nat := if l = [] then 18442240474082181120 else BB (WE l)
theorem tg {b : Int} (hb : b.natAbs < 4503599627370496) : Ieee.double.order 9218868437227405312 (BB b) = some .gt := by
 obtain ⟨j,hj⟩ := Eh (n := b) (by omega)
 have h1 : Ieee.double.read 9218868437227405312 = .infinity false := by kernel_rfl
 unfold Ieee.Format.order
 rw [h1,hj]; rfl
theorem pP {b : Int} (hb : b.natAbs < 4503599627370496) : Ieee.double.order 18442240474082181120 (BB b) = some .lt := by
 obtain ⟨j,hj⟩ := Eh (n := b) (by omega)
 have h1 : Ieee.double.read 18442240474082181120 = .infinity true := by kernel_rfl
 unfold Ieee.Format.order
 rw [h1,hj]; rfl
theorem th {a b r : Nat} {w : World} (h : match Ieee.double.order a b with
   | none => False
   | some .lt => r = a
   | some .gt => r = b
   | some .eq => a = b ∧ r = a) : (Builtin.min_ #[51,51] 51 #[.float .f64 a,.float .f64 b]).run prog w = .ok (.float .f64 r) w := by
 have e : (Builtin.min_ #[51,51] 51 #[.float .f64 a,.float .f64 b]) = Builtin.min2 (.float .f64 a) (.float .f64 b) >>= fun x => pure x := rfl
 rw [e]
 unfold Builtin.min2
 have e2 : FloatKind.f64.format.order a b = Ieee.double.order a b := rfl
 dsimp only
 rw [e2]
 generalize Ieee.double.order a b = o at h
 match o,h with
 | some .lt,h => subst h; rfl
 | some .gt,h => subst h; rfl
 | some .eq,h =>
   obtain ⟨h1,h2⟩ := h
   subst h1; subst h2
   dsimp only
   split <;> rfl
theorem ti {a b r : Nat} {w : World} (h : match Ieee.double.order a b with
   | none => False
   | some .lt => r = b
   | some .gt => r = a
   | some .eq => a = b ∧ r = a) : (Builtin.max_ #[51,51] 51 #[.float .f64 a,.float .f64 b]).run prog w = .ok (.float .f64 r) w := by
 have e : (Builtin.max_ #[51,51] 51 #[.float .f64 a,.float .f64 b]) = Builtin.max2 (.float .f64 a) (.float .f64 b) >>= fun x => pure x := rfl
 rw [e]
 unfold Builtin.max2
 have e2 : FloatKind.f64.format.order a b = Ieee.double.order a b := rfl
 dsimp only
 rw [e2]
 generalize Ieee.double.order a b = o at h
 match o,h with
 | some .lt,h => subst h; rfl
 | some .gt,h => subst h; rfl
 | some .eq,h =>
   obtain ⟨h1,h2⟩ := h
   subst h1; subst h2
   dsimp only
   split <;> rfl
section
variable {σ : Hp} {l : List Int} {x : Int} {Φ : Value → Hp → Prop}
theorem ZH (hl : qH l) (hx : x.natAbs < 4503599627370496) (h : Φ (.float .f64 (Ny (l ++ [x]))) σ) : AJ prog (Builtin.min_ #[51,51] 51 #[.float .f64 (Ny l),.float .f64 (BB x)]) σ Φ := by
 refine Dk (v := .float .f64 (Ny (l ++ [x]))) (fun w => th ?_) h
 have A4 : l ++ [x] ≠ [] := by simp
 unfold Ny
 rw [if_neg A4]
 by_cases h0 : l = []
 · subst h0
   rw [if_pos rfl,tg hx]; rfl
 · rw [if_neg h0,Ns (by have := hl _ (cM h0).1; omega) (by omega),ib h0]
   rcases Int.lt_trichotomy (P6 l) x with hh | hh | hh
   · rw [Int.compare_eq_lt.2 hh,if_neg (by omega)]
   · rw [← hh,Int.compare_eq_eq.2 rfl,if_neg (by omega)]; exact ⟨rfl,rfl⟩
   · rw [Int.compare_eq_gt.2 hh,if_pos hh]
theorem pQ (h0 : l ≠ []) (hl : qH l) : (WE l).natAbs < 4503599627370496 := by
 cases l with
 | nil => exact absurd rfl h0
 | cons a l => exact (pL l a (hl a (List.mem_cons_self ..)) fun x hx => hl x (List.mem_cons_of_mem _ hx)).2
theorem ZI (hl : qH l) (hx : x.natAbs < 4503599627370496) (h : Φ (.float .f64 (Nz (l ++ [x]))) σ) : AJ prog (Builtin.max_ #[51,51] 51 #[.float .f64 (Nz l),.float .f64 (BB x)]) σ Φ := by
 refine Dk (v := .float .f64 (Nz (l ++ [x]))) (fun w => ti ?_) h
 have A4 : l ++ [x] ≠ [] := by simp
 unfold Nz
 rw [if_neg A4]
 by_cases h0 : l = []
 · subst h0
   rw [if_pos rfl,pP hx]; rfl
 · rw [if_neg h0,Ns (by have := pQ h0 hl; omega) (by omega),ic h0]
   rcases Int.lt_trichotomy (WE l) x with hh | hh | hh
   · rw [Int.compare_eq_lt.2 hh,if_pos hh]
   · rw [← hh,Int.compare_eq_eq.2 rfl,if_neg (by omega)]; exact ⟨rfl,rfl⟩
   · rw [Int.compare_eq_gt.2 hh,if_neg (by omega)]
theorem ZJ {a b : Int} (ha : a.natAbs < 4503599627370496) (hb : b.natAbs < 4503599627370496) (h : Φ (.float .f64 (BB (a + b))) σ) : AJ prog (Go.binOp .add 51 (.float .f64 (BB a)) (.float .f64 (BB b))) σ Φ :=
 Dk (v := .float .f64 (BB (a + b))) (fun w => by
   have e : (Go.binOp .add 51 (.float .f64 (BB a)) (.float .f64 (BB b))).run prog w = (sI (BB a) (BB b) (Ieee.double.add (BB a) (BB b))).run prog w := by
     refine (show _ = (Op.floatArith .add .f64 (BB a) (BB b)).run prog w from rfl).trans ?_; unfold Op.floatArith; simp only [FloatKind.format]; cases Ieee.double.add (BB a) (BB b) <;> rfl
   rw [e,ou (by omega) (by omega)]; rfl) h
theorem pR {a b : Int} (ha : 0 ≤ a ∧ a < 4503599627370496) (hb : b.natAbs < 4503599627370496) (h : Φ (.float .f64 (BB (a - b))) σ) : AJ prog (Go.binOp .sub 51 (.float .f64 (BB a)) (.float .f64 (BB b))) σ Φ :=
 Dk (v := .float .f64 (BB (a - b))) (fun w => by
   have e : (Go.binOp .sub 51 (.float .f64 (BB a)) (.float .f64 (BB b))).run prog w = (sI (BB a) (BB b) (Ieee.double.sub (BB a) (BB b))).run prog w := by
     refine (show _ = (Op.floatArith .sub .f64 (BB a) (BB b)).run prog w from rfl).trans ?_; unfold Op.floatArith; simp only [FloatKind.format]; cases Ieee.double.sub (BB a) (BB b) <;> rfl
   rw [e,ov ⟨ha.1,by omega⟩ (by omega)]; rfl) h
end
end TwW
end
section
namespace TwW
open Go Tw
abbrev LZ := List Lb × Int
def elZ (x : LZ) : El := ⟨x.1,BI x.2⟩
structure AQB (w b : ByteArray) (ss : List Sr) (t : Int) (MX MC MM : List LZ) (K : List Int) : Prop where
 x : (instF [Yy w,S6 1 1 [b]] ss t).2 = MX.map elZ
 c : (instF [Yy w,S6 5 1 [b]] ss t).2 = MC.map elZ
 m : (instF [Yy w,S6 2 1 [b]] ss t).2 = MM.map elZ
 lc : MC.length = MX.length
 lm : MM.length = MX.length
 e : MX = [] ↔ K = []
 kl : K.length ≤ 2000000
 k : ∀ v ∈ K,0 ≤ v ∧ v < 1000
 nx : ∀ v ∈ MX,0 ≤ v.2
 nc : ∀ v ∈ MC,0 ≤ v.2
 nm : ∀ v ∈ MM,0 ≤ v.2 ∧ v.2 < 1000
 sx : Bq (MX.map (·.2)) = Bq K
 sc : Bq (MC.map (·.2)) = K.length
 sm : K ≠ [] → P6 (MM.map (·.2)) = P6 K
 y : (instF [Yy w,S6 1 0 []] ss t).2 = if K = [] then [] else [⟨[],BI (Bq K)⟩]
 d : (instF [Yy w,S6 5 0 []] ss t).2 = if K = [] then [] else [⟨[],BI K.length⟩]
 n : (instF [Yy w,S6 2 0 []] ss t).2 = if K = [] then [] else [⟨[],BI (P6 K)⟩]
 z : (instF [Yy w,S6 1 1 [b],S6 1 0 []] ss t).2 = if K = [] then [] else [⟨[],BI (Bq K)⟩]
end TwW
end
section
namespace TwW
open Go Tw Go.RowKit Go.Proofs.Tryz
section
variable {s : ByteArray} {c : UInt8}
end
section
variable {σ σ0 τ : Hp} {R : Rr}
theorem pS {n : Int} {Φ : Value → Hp → Prop} (h : Φ (.float .f64 (BB n)) σ) : AJ prog (convert 48 51 (.int .u64 n)) σ Φ := Dk (v := .float .f64 (FloatKind.f64.nearest n)) (fun w => by kernel_rfl) h
theorem inf_spec (h : R (.returned (.float .f64 9218868437227405312)) σ) : Spec prog 27 #[.int .i64 1] σ R :=
 Ke.start ⟨fun _ => Ke.Ay (.y Ob ⟨_,rfl,h⟩),fun hh => absurd (by decide) hh⟩
end
end TwW
end
section
namespace TwW
open Go Tw
abbrev PZ := Int × Int
def ZK (x : PZ) : Int × Int := (x.1,BI x.2)
def pT (A : List PZ) : Sr := ⟨[(CH,kM)],A.map ZK⟩
def qI (w t : Int) (x : PZ) : Bool := decide (t - w < x.1) && decide (x.1 ≤ t)
def BV (w t : Int) (A : List PZ) : List Int := (A.filter (qI w t)).map (·.2)
abbrev tj (A : List PZ) : Prop := ∀ x ∈ A,0 ≤ x.2 ∧ x.2 < 1000
def ZL (A : List PZ) : Prop := ∀ (k : Nat) (a b : PZ),A[k]? = some a → A[k + 1]? = some b → a.1 < b.1
theorem ZL.snoc {A : List PZ} {x : PZ} (h : ZL A) (hx : ∀ a,A[A.length - 1]? = some a → a.1 < x.1) : ZL (A ++ [x]) := fun k a b ha hb => by
 have hk := (List.getElem?_eq_some_iff.1 hb).1
 rw [List.length_append,List.length_singleton] at hk
 rw [List.getElem?_append_left (by omega)] at ha
 by_cases h1 : k + 1 < A.length
 · rw [List.getElem?_append_left h1] at hb
   exact h k a b ha hb
 · have e : k + 1 = A.length := by omega
   rw [List.getElem?_append_right (by omega),e,Nat.sub_self] at hb
   cases hb
   exact hx a (by rw [show A.length - 1 = k by omega]; exact ha)
section
variable {w t : Int} {A : List PZ}
theorem win_snoc {x : PZ} : BV w t (A ++ [x]) = BV w t A ++ if qI w t x = true then [x.2] else [] := by
 unfold BV
 rw [List.filter_append,List.map_append]
 congr 1
 rw [List.filter_cons]
 split <;> rfl
theorem WG (h : tj A) : ∀ v ∈ BV w t A,0 ≤ v ∧ v < 1000 := fun v hv => by
 obtain ⟨x,hx,rfl⟩ := List.mem_map.1 hv
 exact h x (List.mem_filter.1 hx).1
theorem WH : (BV w t A).length ≤ A.length := by
 unfold BV
 rw [List.length_map]
 exact List.length_filter_le ..
theorem cP (hv : tj A) : Fy FF (G2 kM w) [pT A] t = if BV w t A = [] then [] else [⟨[(CH,kM)],(BV w t A).map BI⟩] := by
 have e1 : FC (A.map ZK) (t - (G2 kM w).back - (G2 kM w).width) (t - (G2 kM w).back) = (A.filter (qI w t)).map ZK := by
   unfold FC
   rw [List.filter_map]
   congr 1
   refine List.filter_congr fun x hx => ?_
   show (decide (t - 0 - w < x.1) && decide (x.1 ≤ t - 0)) = (decide (t - w < x.1) && decide (x.1 ≤ t))
   rw [Int.sub_zero]
 have e2 : ((A.filter (qI w t)).map ZK).filter (fun p => decide (p.2 ≠ Gy)) = (A.filter (qI w t)).map ZK := by
   refine List.filter_eq_self.2 fun x hx => ?_
   obtain ⟨y,hy,rfl⟩ := List.mem_map.1 hx
   have := hv y (List.mem_filter.1 hy).1
   exact decide_eq_true (pA (by omega))
 have e3 : ((A.filter (qI w t)).map ZK).map Prod.snd = (BV w t A).map BI := by
   unfold BV
   rw [List.map_map,List.map_map]; rfl
 have e5 : FF.bD (G2 kM w).mt [(CH,kM)] = true := by
   show Kn [⟨1,CH,kM⟩] [(CH,kM)] = true
   kernel_rfl
 unfold Fy
 simp only [List.filterMap_cons,List.filterMap_nil,pT]
 rw [e1,e2,e3,e5]
 cases hq : BV w t A with
 | nil => rfl
 | cons a l => simp
def DU (K : List Int) : Int := K.head?.getD 0
def Dl (K : List Int) : Int := K.getLast?.getD 0
def QU (op : Nat) (K : List Int) : Option Int :=
 if K = [] then none else if op = 3 then (if K.length < 2 then none else some (BI (Dl K - DU K))) else some (if op = 8 then BI K.length else if op = 4 then BI (Bq K) else if op = 6 then BI (P6 K) else if op = 7 then BI (WE K) else if op = 9 then BI (Dl K) else Kq 4 (BI (Bq K)) (BI K.length))
abbrev tn (op : Nat) : Prop := op = 8 ∨ op = 4 ∨ op = 6 ∨ op = 7 ∨ op = 9 ∨ op = 5 ∨ op = 3
theorem Uu {K : List Int} (h : K ≠ []) : DU K ∈ K := by
 cases K with
 | nil => exact absurd rfl h
 | cons a l => exact List.mem_cons_self ..
theorem ZM {K : List Int} (h : K ≠ []) : Dl K ∈ K := by
 unfold Dl
 cases hq : K.getLast? with
 | none => exact absurd (List.getLast?_eq_none_iff.1 hq) h
 | some z => exact List.mem_of_getLast? hq
theorem tq {op : Nat} {K : List Int} (G5 : tn op) (h0 : K ≠ []) (h : ∀ v ∈ K,0 ≤ v ∧ v < 1000) (hl : K.length ≤ 2000000) : MG op (K.map BI) (Aq w) = QU op K := by
 have hs := QT (k := 1000) (l := K) fun x hx => by have := h x hx; omega
 have hm : qH K := fun x hx => by have := h x hx; omega
 have Ov := h _ (ZM h0)
 have hf1 := h _ (Uu h0)
 have e1 : (K.map BI).getLast?.getD 0 = BI (Dl K) := by
   unfold Dl
   rw [List.getLast?_map]
   cases hq : K.getLast? with
   | none => exact absurd (List.getLast?_eq_none_iff.1 hq) h0
   | some z => rfl
 have e2 : (K.map BI).head?.getD 0 = BI (DU K) := by
   cases K with
   | nil => exact absurd rfl h0
   | cons a l => rfl
 have sm : Oc (K.map BI) = BI (Bq K) := tf h0 (fun x hx => (h x hx).1) (by omega)
 unfold QU
 rw [if_neg h0]
 rcases G5 with rfl | rfl | rfl | rfl | rfl | rfl | rfl
 · show some (Aq (K.map BI).length) = _
   rw [List.length_map]; rfl
 · show some (Oc (K.map BI)) = _
   rw [sm]; rfl
 · show some (HS 7 (K.map BI)) = _
   rw [pM h0 hm]; rfl
 · show some (HS 9 (K.map BI)) = _
   rw [pN h0 hm]; rfl
 · show some (nrm ((K.map BI).getLast?.getD 0)) = _
   rw [e1,TF (by omega)]; rfl
 · show some (Kq 4 (Oc (K.map BI)) (Aq (K.map BI).length)) = _
   rw [sm,List.length_map]; rfl
 · show (if (K.map BI).length < 2 then none else some (Kq 2 ((K.map BI).getLast?.getD 0) ((K.map BI).head?.getD 0))) = _
   rw [e1,e2,tX (by omega) (by omega),List.length_map]; rfl
theorem pU {op : Nat} (G5 : tn op) (hv : tj A) (hl : A.length ≤ 2000000) : Bk FF [G2 kM w,E2 op] [pT A] t = some (match QU op (BV w t A) with | none => [] | some x => [⟨[],x⟩]) := by
 have hb : DP [(CH,kM)] = [] := by kernel_rfl
 rw [pB,cP hv]
 by_cases h0 : BV w t A = []
 · have e : QU op (BV w t A) = none := by unfold QU; rw [if_pos h0]
   rw [if_pos h0,e]
   exact ZA
 · rw [if_neg h0]
   have ho := tq (w := w) G5 h0 (WG hv) (Nat.le_trans WH hl)
   unfold MB
   rw [List.map_nil,List.nil_append]
   simp only [List.filterMap_cons,List.filterMap_nil]
   rw [show FF.over (E2 op).op ((BV w t A).map BI) (Aq w) = _ from ho,hb]
   cases QU op (BV w t A) with
   | none => exact ZA
   | some x => exact ta
theorem tr (h : ZL A) (h0 : A ≠ []) : JT none [pT A] = true := by
 unfold JT
 have h1 : OY (pT A).ls = 0 := by
   show OY [(CH,kM)] = 0
   kernel_rfl
 have h2 : Mf (pT A).ps = true := (Ko _).2 ⟨by
   show 0 < (A.map ZK).length
   rw [List.length_map]; exact List.length_pos_iff.2 h0,fun i a b ha hb => by
   have ha : (A.map ZK)[i]? = some a := ha
   have hb : (A.map ZK)[i + 1]? = some b := hb
   rw [List.getElem?_map] at ha hb
   obtain ⟨x,hx,rfl⟩ := Option.map_eq_some_iff.1 ha
   obtain ⟨y,hy,rfl⟩ := Option.map_eq_some_iff.1 hb
   exact h i x y hx hy⟩
 rw [h1,h2]; rfl
end
theorem AHR : ((List.range 501).all fun k => decide (k = 0) || ([8,4,6,7,9,5,3].all fun op : Nat => decide (Ng [G2 kM (k : Int),E2 op] = some 2))) = true := by kernel_rfl
theorem pV {w t : Int} {A : List PZ} {op : Nat} (G5 : tn op) (hw : 1 ≤ w ∧ w ≤ 500) (hv : tj A) (hl : A.length ≤ 2000000) (h : ZL A) (h0 : A ≠ []) (hb : -1099511627776 ≤ t ∧ t ≤ 1099511627776) :
   instF [G2 kM w,E2 op] [pT A] t = (0,match QU op (BV w t A) with | none => [] | some x => [⟨[],x⟩]) := by
 have ty : Ng [G2 kM w,E2 op] = some 2 := by
   have := List.all_eq_true.1 AHR w.toNat (List.mem_range.2 (by omega))
   rw [Bool.or_eq_true,decide_eq_true_eq,List.all_eq_true] at this
   rw [Int.toNat_of_nonneg (by omega)] at this
   rcases this with h0 | h1
   · omega
   · exact of_decide_eq_true (h1 op (by rcases G5 with rfl | rfl | rfl | rfl | rfl | rfl | rfl <;> decide))
 exact iV ty ⟨tr h h0,hb⟩ (pU G5 hv hl)
end TwW
end
section
namespace TwW
open Go Tw Go.RowKit Go.Proofs.Tryz
section
variable {nm : List UInt8} {w : Int} {c : UInt8} {r : List UInt8}
theorem ox (hk : kwB nm = true) (e : (tx w).data.toList ++ [115] = c :: r) (h1 : BX c = true) (h2 : ∀ u ∈ r,Kv u = true) (h3 : Np (bA (c :: r)) = w) (hw : 1 ≤ w) :
   Lx (bA nm ++ ((bA [40,109,91] ++ tx w) ++ bA [115,93,41])).data.toList [N2 3 (bA nm) 0,N2 5 (bA [40]) 0,N2 3 (bA [109]) 0,N2 5 (bA [91]) 0,N2 2 (bA (c :: r)) w,N2 5 (bA [93]) 0,N2 5 (bA [41]) 0,AAv] := by
 rw [TC,TC,TC,List.append_assoc,show (bA [115,93,41]).data.toList = [115] ++ ([93,41] : List UInt8) from rfl,← List.append_assoc (tx w).data.toList,e]
 show Lx (nm ++ (40 :: ([109] ++ (91 :: ((c :: r) ++ [93,41]))))) _
 refine Lx.kw _ hk (ow (by decide)) (Lx.sg (by decide) (by decide) (Lx.kw _ (by decide) (ow (by decide)) (Lx.sg (by decide) (by decide) ?_)))
 have := Lx.span (w := r) h1 h2 (AAu (by decide)) (by rw [h3]; omega) (Lx.sg (c := 93) (by decide) (by decide) (Lx.sg (c := 41) (by decide) (by decide) Lx.fin))
 rw [h3] at this
 exact this
end
abbrev ANT (nm : List UInt8) (u : ByteArray) (w : Int) : List Cl := [N2 3 (bA nm) 0,N2 5 (bA [40]) 0,N2 3 (bA [109]) 0,N2 5 (bA [91]) 0,N2 2 u w,N2 5 (bA [93]) 0,N2 5 (bA [41]) 0,AAv]
def WI : List (List UInt8 × Nat) := [([99,111,117,110,116,95,111,118,101,114,95,116,105,109,101],8),([115,117,109,95,111,118,101,114,95,116,105,109,101],4),([109,105,110,95,111,118,101,114,95,116,105,109,101],6),([109,97,120,95,111,118,101,114,95,116,105,109,101],7),([108,97,115,116,95,111,118,101,114,95,116,105,109,101],9),([97,118,103,95,111,118,101,114,95,116,105,109,101],5),([100,101,108,116,97],3)]
theorem ANU {u : ByteArray} {w : Int} : ∀ x ∈ WI,kwB x.1 = true ∧ x.1.length ≤ 20 ∧ tn x.2 ∧ pz 60 0 0 (ANT x.1 u w) = some ([AAv],[G2 kM w,E2 x.2]) := fun x hx => by
 simp only [WI,List.mem_cons,List.not_mem_nil,or_false] at hx
 rcases hx with rfl | rfl | rfl | rfl | rfl | rfl | rfl
 · exact ⟨by decide,by decide,by decide,by kernel_rfl⟩
 · exact ⟨by decide,by decide,by decide,by kernel_rfl⟩
 · exact ⟨by decide,by decide,by decide,by kernel_rfl⟩
 · exact ⟨by decide,by decide,by decide,by kernel_rfl⟩
 · exact ⟨by decide,by decide,by decide,by kernel_rfl⟩
 · exact ⟨by decide,by decide,by decide,by kernel_rfl⟩
 · exact ⟨by decide,by decide,by decide,by kernel_rfl⟩
section
variable {σ σ1 τ : Hp} {R : Rr} {p q : Option Addr} {n c m e : Nat} {xs : List Pt} {t w : Int} {lb sb : Nat} {A : List PZ}
structure Bo (σ1 τ : Hp) (lb sb : Nat) (q : Option Addr) (m e : Nat) (A : List PZ) : Prop where
 out : AV 2 Ey (σ1.set sb (iY lb q m e)) τ q m e (A.map ZK)
theorem Bo.cell (h : Bo σ1 τ lb sb q m e A) : τ sb = some (iY lb q m e) := h.out.up sb _ (Hp.AB ..)
theorem Bo.ext (h : Bo σ1 τ lb sb q m e A) (hb : σ1 sb = none) : Ext σ1 τ := (Ext.set hb).trans h.out.up
theorem Bo.ld (h : Bo σ1 τ lb sb q m e A) : Hp.ld τ ⟨sb,0 + 1,none⟩ = some (.slice q m e) := AU h.cell rfl
theorem Bo.len (h : Bo σ1 τ lb sb q m e A) : A.length = m := by
 have := h.out.1.1
 rwa [List.length_map] at this
theorem Bo.sr (h : Bo σ1 τ lb sb q m e A) (hb : σ1 sb = none) (hl : σ1 lb = some (.cells #[(.string (ByteArray.mk #[95,95,110,97,109,101,95,95])),(.string (ByteArray.mk #[109]))] 56 (0,0))) : Ae 2 GL τ (aD sb 0) 1 [pT A] := by
 have rA : Fo τ (aD lb 0) 1 [(CH,kM)] := Hh (h.ext hb _ _ hl) rfl rfl (by decide) fun i x hx => match i,hx with
   | 0,hx => by cases hx; rfl
   | i + 1,hx => by simp at hx
 have oH : m ≤ e := by obtain ⟨cs,ho,_⟩ := h.out.1.2; exact A6.cap ho
 exact Hh h.cell rfl rfl (by decide) fun i x hx => match i,hx with
   | 0,hx => by cases hx; exact ⟨_,_,_,_,_,_,rfl,rA,h.out.rd Ey.mono,oH⟩
   | i + 1,hx => by simp at hx
theorem ANV (hl : A.length ≤ 2000000) : Modest [] [pT A] := ⟨Nat.zero_le _,fun x hx => (by cases hx),(by show 1 ≤ 10000000; decide),fun s hs => by
   obtain rfl := List.mem_singleton.1 hs
   show (A.map ZK).length ≤ _
   rw [List.length_map]; omega,fun s hs x hx => by
   obtain rfl := List.mem_singleton.1 hs
   obtain ⟨y,_,rfl⟩ := List.mem_map.1 hx
   exact Int.natCast_nonneg _⟩
theorem ANW (hl : A.length ≤ 2000000) : SOk [pT A] := ⟨(by show 1 ≤ 1000000000000; decide),fun s hs => by
   obtain rfl := List.mem_singleton.1 hs
   show 1 ≤ _
   decide,fun s hs => by
   obtain rfl := List.mem_singleton.1 hs
   show (A.map ZK).length ≤ _
   rw [List.length_map]; omega⟩
theorem cQ {nb wb : Nat} {ws : List Nat} {cs ns : Nat} {K : List Int} (WJ : Awk) (hg : Gl σ) (hs : Ae 2 GL σ (aD sb 0) 1 [pT A]) (hw : 1 ≤ w ∧ w ≤ 500) (hv : tj A) (hl : A.length ≤ 2000000) (jK : ZL A) (h0 : A ≠ []) (hb : -1099511627776 ≤ t ∧ t ≤ 1099511627776) (hK : K = BV w t A)
   (hn : ∀ i x,WI[i]? = some x → Hp.ld σ ⟨nb,0 + i * 1,none⟩ = some (.string (bA x.1)))
   (hwd : ∀ (i : Nat) x,WI[i]? = some x → ∃ wd : Nat,Hp.ld σ ⟨wb,0 + i * 1,none⟩ = some (.float .f64 wd) ∧ ∀ X,QU x.2 K = some X → X = (wd : Int))
   (hR : ∀ σ',Ext σ σ' → R (.returned (.bool true)) σ') :
   AK.pE R t (aD sb 0) 1 1 (K.length : Int) ((bA [40,109,91] ++ tx w) ++ bA [115,93,41]) (aD nb 0) 7 7 (aD wb 0) 7 7 0 σ := by
 obtain ⟨cc,cr,ec,e1,e2,e3,e4⟩ := ei hw
 have hlen : WI.length = 7 := rfl
 suffices H : ∀ g i : Nat,∀ σ',7 - i = g → i ≤ 7 → Ext σ σ' → AK.pE R t (aD sb 0) 1 1 (K.length : Int) ((bA [40,109,91] ++ tx w) ++ bA [115,93,41]) (aD nb 0) 7 7 (aD wb 0) 7 7 (i : Int) σ' from H 7 0 σ rfl (by decide) (.refl _)
 intro g
 induction g with
 | zero =>
   intro i σ' nU hi hx
   exact AK.ek ⟨fun hh => by omega,fun _ => WJ σ' _ (hg.mono hx) fun σ2 A5 => ⟨_,rfl,hR σ2 (hx.trans A5)⟩⟩
 | succ g ih =>
   intro i σ' nU hi hx
   have BM : i < 7 := by omega
   obtain ⟨x,hxi⟩ : ∃ x,WI[i]? = some x := ⟨_,List.getElem?_eq_getElem (by rw [hlen]; exact BM)⟩
   obtain ⟨hk,wa,G5,hpz⟩ := ANU (u := bA (cc :: cr)) (w := w) x (List.mem_of_getElem? hxi)
   obtain ⟨wd,ANX,ANY⟩ := hwd i x hxi
   have AA2 : x.2 = 3 ↔ i = 6 := by
     have key : ∀ i : Fin 7,∀ x,WI[i.1]? = some x → (x.2 = 3 ↔ i.1 = 6) := by
       intro i y hy
       match i with
       | 0 => cases hy; decide
       | 1 => cases hy; decide
       | 2 => cases hy; decide
       | 3 => cases hy; decide
       | 4 => cases hy; decide
       | 5 => cases hy; decide
       | 6 => cases hy; decide
     exact key ⟨i,BM⟩ x hxi
   have ans := pV G5 hw hv hl jK h0 hb
   rw [← hK] at ans
   have s1 : (bA x.1).size = x.1.length := by simp [bA,ByteArray.size]
   have s2 : ((bA [40,109,91] ++ tx w) ++ bA [115,93,41]).size = 6 + (tx w).size := by
     rw [ByteArray.size_append,ByteArray.size_append]
     show 3 + (tx w).size + 3 = _
     omega
   refine AK.ek ⟨fun _ => ⟨nb,0,rfl,by unfold In; omega,_,by rw [Int.toNat_natCast]; exact hx.ld (hn i x hxi),by rw [s1,s2]; omega,iU (hg.mono hx) (hs.mono GL.mono hx) (ANW hl) (ANV hl) (ox hk ec e1 e2 e3 hw.1) (by rw [ByteArray.size_append,s1,s2]; omega) hpz rfl (by kernel_rfl) (by kernel_rfl) (by kernel_rfl) fun σ2 p2 n2 c2 r2 x2 => ⟨_,_,_,_,rfl,?_⟩⟩,fun hh => by omega⟩
   have X2 := hx.trans x2
   unfold AAs at r2
   rw [ans] at r2 ⊢
   have next : AK.TD R t (aD sb 0) 1 1 (K.length : Int) ((bA [40,109,91] ++ tx w) ++ bA [115,93,41]) (aD nb 0) 7 7 (aD wb 0) 7 7 (i : Int) σ2 := AK.pK ⟨by unfold AM; omega,by
     have := ih (i + 1) σ2 (by omega) (by omega) X2
     rw [show ((i + 1 : Nat) : Int) = (i : Int) + 1 by omega] at this
     exact this⟩
   have DQ : QU x.2 K = none → n2 = 0 := fun e => by
     rw [e] at r2
     exact r2.1.symm
   have chk : QU x.2 K ≠ none → Br ((n2 : Int) ≠ 1) (R (.returned (.bool false)) σ2) (Pq p2 fun ZC ZD => In 0 (n2 : Int) ∧ LS σ2 ZC ZD fun AHM n192 AHN => Br ((n192 : Int) ≠ 0) (R (.returned (.bool false)) σ2) (Pq (aD wb 0) fun ZE ZF => In (i : Int) ((7 : Nat) : Int) ∧ ∃ ZG,Hp.ld σ2 ⟨ZE,(ZF + Int.toNat (i : Int) * 1),none⟩ = some (Value.float .f64 ZG) ∧ Spec prog 25 #[(Value.float .f64 ZG)] σ2 (AA R (CI .u64 fun pJ AF => Spec prog 23 #[(.slice (aD ZC ZD) n2 c2),.int .u64 pJ] AF (AA R (CB fun t203 AH => Bn t203 (R (.returned (.bool false)) AH) (AK.TD R t (aD sb 0) 1 1 (K.length : Int) ((bA [40,109,91] ++ tx w) ++ bA [115,93,41]) (aD nb 0) 7 7 (aD ZE ZF) 7 7 (i : Int) AH)))))))  := fun A4 => by
     cases hq : QU x.2 K with
     | none => exact absurd hq A4
     | some X =>
       rw [hq] at r2
       have q2 : Ae 2 GL σ2 p2 n2 (AAw t [⟨[],X⟩]) := r2
       have P1 : 1 = n2 := q2.1
       subst P1
       obtain ⟨b1,o1,p3,n3,c3,b3,o3,d3,rfl,l1,l2,l3⟩ := oy q2 (i := 0) rfl
       have jH : 0 = n3 := l2.1
       subst jH
       refine ⟨fun hh => absurd rfl hh,fun _ => ⟨b1,o1,rfl,by decide,p3,0,c3,by simpa using l1.1,fun hh => absurd rfl hh,fun _ => ⟨wb,0,rfl,by unfold In; omega,wd,by rw [Int.toNat_natCast]; exact X2.ld ANX,Fj ⟨_,rfl,oz q2 ⟨_,rfl,fun hf => ?_,fun _ => next⟩⟩⟩⟩⟩
       rw [ANY X hq] at hf
       simp at hf
   refine ⟨fun hh => absurd rfl hh,fun _ => ⟨fun hK0 => ⟨fun hh => absurd (DQ (by
     have : K = [] := List.eq_nil_of_length_eq_zero (by omega)
     unfold QU; rw [if_pos this])) (by omega),fun _ => next⟩,fun hK0 => ?_⟩⟩
   have hKn : K ≠ [] := fun e => hK0 (by rw [e]; rfl)
   refine ⟨fun h6 => ⟨fun h2 => ⟨fun hh => absurd (DQ (by
     unfold QU
     rw [if_neg hKn,if_pos (AA2.2 (by omega)),if_pos (by omega)])) (by omega),fun _ => next⟩,fun h2 => chk fun e => ?_⟩,fun h6 => chk fun e => ?_⟩
   · unfold QU at e
     rw [if_neg hKn,if_pos (AA2.2 (by omega)),if_neg (by omega)] at e
     cases e
   · unfold QU at e
     rw [if_neg hKn,if_neg (fun hh => h6 (by have := AA2.1 hh; omega))] at e
     cases e
theorem pW {EE : Nat} {v : Int} {P : Int → Hp → Prop} (h : P (BI v) σ) :
   (AJ prog (convert 48 51 (.int .u64 v)) σ (fun z y => ∃ iZ,(Value.float .f64 iZ) = z ∧ Kp [EE] σ y ∧ (Spec prog 25 #[(Value.float .f64 iZ)] y (AA R (CI .u64 fun Ut AF => Kp [EE] y AF ∧ ∀ I9 : Nat,P Ut AF))) ∧ (∀ I9 : Nat,Spec prog 25 #[(Value.float .f64 iZ)] y (AA R (CI .u64 fun Ut AF => Kp [EE] y AF ∧ P Ut AF))))) ∧ (∀ I9 : Nat,AJ prog (convert 48 51 (.int .u64 v)) σ (fun z y => ∃ iZ,(Value.float .f64 iZ) = z ∧ Kp [EE] σ y ∧ Spec prog 25 #[(Value.float .f64 iZ)] y (AA R (CI .u64 fun Ut AF => Kp [EE] y AF ∧ P Ut AF)))) :=
 ⟨pS ⟨_,rfl,.Dr (.refl _),Fj ⟨_,rfl,.Dr (.refl _),fun _ => h⟩,fun _ => Fj ⟨_,rfl,.Dr (.refl _),h⟩⟩,fun _ => pS ⟨_,rfl,.Dr (.refl _),Fj ⟨_,rfl,.Dr (.refl _),h⟩⟩⟩
theorem ig (h : R (.returned (.float .f64 18442240474082181120)) σ) : Spec prog 27 #[.int .i64 (-1)] σ R :=
 Ke.start ⟨fun hh => absurd hh (by decide),fun _ => Ke.Ay (.y Ob ⟨_,rfl,h⟩)⟩
theorem cR {i : Nat} {K : List Int} (WJ : Awk) (hg : Gl τ) (h : Bo σ1 τ lb sb q m e A) (hb : σ1 sb = none) (hl : σ1 lb = some (.cells #[(.string (ByteArray.mk #[95,95,110,97,109,101,95,95])),(.string (ByteArray.mk #[109]))] 56 (0,0)))
   (hw : 1 ≤ w ∧ w ≤ 500) (hv : tj A) (hlen : A.length ≤ 2000000) (jK : ZL A) (ht : -1099511627776 ≤ t ∧ t ≤ 1099511627776) (P8 : ¬ (i : Int) < n) (hK : K = BV w t A) (hR : ∀ σ',Ext τ σ' → R (.returned (.bool true)) σ') :
   AK.pD R p n c t w (aD sb 0) 1 1 (.float .f64 (BB (Bq K))) (K.length : Int) (.float .f64 (Ny K)) (.float .f64 (Nz K)) (.float .f64 (BB (DU K))) (.float .f64 (BB (Dl K))) (i : Int) τ := by
 have hm := h.len
 have kK : ∀ v ∈ K,0 ≤ v ∧ v < 1000 := by rw [hK]; exact WG hv
 have kl : K.length ≤ 2000000 := by rw [hK]; exact Nat.le_trans WH hlen
 have s0 := Nx (l := K) fun x hx => (kK x hx).1
 have s1 := QT (k := 1000) (l := K) fun x hx => by have := kK x hx; omega
 have fl : (0 ≤ DU K ∧ DU K < 1000) ∧ 0 ≤ Dl K ∧ Dl K < 1000 := by
   by_cases h0 : K = []
   · rw [h0]; decide
   · exact ⟨kK _ (Uu h0),kK _ (ZM h0)⟩
 obtain ⟨d,hd⟩ : ∃ d : Int,d = if (K.length : Int) < 1 then 1 else (K.length : Int) := ⟨_,rfl⟩
 have hd1 : 1 ≤ d ∧ d ≤ 2000000 := by rw [hd]; split <;> omega
 obtain ⟨r,FM,G4⟩ := AAy (a := Bq K) (b := d) (by omega) (by omega) (by omega)
 have z3 : ByteArray.size (ByteArray.mk #[40,109,91]) = 3 := rfl
 have z3' : ByteArray.size (ByteArray.mk #[115,93,41]) = 3 := rfl
 refine AK.ej ⟨fun hh => absurd hh P8,fun _ => ⟨sb,0,rfl,by decide,q,m,e,h.ld,fun h0 => WJ τ _ hg fun σ2 A5 => ⟨_,rfl,hR σ2 A5⟩,fun h0 => iW ⟨by omega,hw.2⟩ fun σ2 x2 => ⟨_,rfl,?_⟩⟩⟩
 obtain ⟨_,_,_,_,_,_,HY⟩ := ei hw
 refine ⟨by rw [z3]; omega,by rw [ByteArray.size_append,z3,z3']; omega,fun nb Mv => wR ⟨_,rfl,?_⟩⟩
 rw [← hd]
 refine wR ⟨_,rfl,tY FM ⟨_,rfl,pR (by omega) (by omega) ⟨_,rfl,fun wb hwb => ?_⟩⟩⟩
 have x3 := Ext.set (o := .cells #[(.string (ByteArray.mk #[99,111,117,110,116,95,111,118,101,114,95,116,105,109,101])),(.string (ByteArray.mk #[115,117,109,95,111,118,101,114,95,116,105,109,101])),(.string (ByteArray.mk #[109,105,110,95,111,118,101,114,95,116,105,109,101])),(.string (ByteArray.mk #[109,97,120,95,111,118,101,114,95,116,105,109,101])),(.string (ByteArray.mk #[108,97,115,116,95,111,118,101,114,95,116,105,109,101])),(.string (ByteArray.mk #[97,118,103,95,111,118,101,114,95,116,105,109,101])),(.string (ByteArray.mk #[100,101,108,116,97]))] 9 (0,0)) Mv
 have c3 := Hp.AB σ2 nb (.cells #[(.string (ByteArray.mk #[99,111,117,110,116,95,111,118,101,114,95,116,105,109,101])),(.string (ByteArray.mk #[115,117,109,95,111,118,101,114,95,116,105,109,101])),(.string (ByteArray.mk #[109,105,110,95,111,118,101,114,95,116,105,109,101])),(.string (ByteArray.mk #[109,97,120,95,111,118,101,114,95,116,105,109,101])),(.string (ByteArray.mk #[108,97,115,116,95,111,118,101,114,95,116,105,109,101])),(.string (ByteArray.mk #[97,118,103,95,111,118,101,114,95,116,105,109,101])),(.string (ByteArray.mk #[100,101,108,116,97]))] 9 (0,0))
 generalize Hp.set σ2 nb _ = σ3 at *
 have x4 := Ext.set (o := .cells #[(Value.float .f64 (BB (K.length : Int))),(.float .f64 (BB (Bq K))),(.float .f64 (Ny K)),(.float .f64 (Nz K)),(.float .f64 (BB (Dl K))),(Value.float .f64 r),(Value.float .f64 (BB (Dl K - DU K)))] 51 (0,0)) hwb
 have c4 := Hp.AB σ3 wb (.cells #[(Value.float .f64 (BB (K.length : Int))),(.float .f64 (BB (Bq K))),(.float .f64 (Ny K)),(.float .f64 (Nz K)),(.float .f64 (BB (Dl K))),(Value.float .f64 r),(Value.float .f64 (BB (Dl K - DU K)))] 51 (0,0))
 have c3' := x4 _ _ c3
 have X := x2.trans (x3.trans x4)
 have hA0 : A ≠ [] := fun e => h0 (by rw [← hm,e]; rfl)
 refine cQ (K := K) (ws := []) (cs := 0) (ns := 0) WJ (hg.mono X) ((h.sr hb hl).mono GL.mono X) hw hv hlen jK hA0 ht hK (fun j y hj => ?_) (fun j y hj => ?_) fun σ' hx => hR σ' (X.trans hx)
 · match j,hj with
   | 0,hj => cases hj; exact AU c3' rfl
   | 1,hj => cases hj; exact AU c3' rfl
   | 2,hj => cases hj; exact AU c3' rfl
   | 3,hj => cases hj; exact AU c3' rfl
   | 4,hj => cases hj; exact AU c3' rfl
   | 5,hj => cases hj; exact AU c3' rfl
   | 6,hj => cases hj; exact AU c3' rfl
   | j + 7,hj => simp [WI] at hj
 · have un : ∀ {op : Nat} {X : Int},QU op K = some X → K ≠ [] := fun h e => by
     unfold QU at h
     rw [if_pos e] at h
     cases h
   match j,hj with
   | 0,hj => cases hj; exact ⟨_,AU c4 rfl,fun X hX => by
       have hn := un hX
       unfold QU at hX
       rw [if_neg hn] at hX
       exact (Option.some.inj hX).symm⟩
   | 1,hj => cases hj; exact ⟨_,AU c4 rfl,fun X hX => by
       have hn := un hX
       unfold QU at hX
       rw [if_neg hn] at hX
       exact (Option.some.inj hX).symm⟩
   | 2,hj => cases hj; exact ⟨_,AU c4 rfl,fun X hX => by
       have hn := un hX
       unfold QU at hX
       rw [if_neg hn] at hX
       have e : BI (P6 K) = X := Option.some.inj hX
       rw [← e]
       unfold Ny
       rw [if_neg hn]; rfl⟩
   | 3,hj => cases hj; exact ⟨_,AU c4 rfl,fun X hX => by
       have hn := un hX
       unfold QU at hX
       rw [if_neg hn] at hX
       have e : BI (WE K) = X := Option.some.inj hX
       rw [← e]
       unfold Nz
       rw [if_neg hn]; rfl⟩
   | 4,hj => cases hj; exact ⟨_,AU c4 rfl,fun X hX => by
       have hn := un hX
       unfold QU at hX
       rw [if_neg hn] at hX
       exact (Option.some.inj hX).symm⟩
   | 5,hj => cases hj; exact ⟨_,AU c4 rfl,fun X hX => by
       have hn := un hX
       unfold QU at hX
       rw [if_neg hn] at hX
       have e : Kq 4 (BI (Bq K)) (BI K.length) = X := Option.some.inj hX
       have zx : d = (K.length : Int) := by
         have := List.length_pos_iff.2 hn
         rw [hd,if_neg (by omega)]
       rw [← e,← zx,tZ FM G4]⟩
   | 6,hj => cases hj; exact ⟨_,AU c4 rfl,fun X hX => by
       have hn := un hX
       unfold QU at hX
       rw [if_neg hn,if_pos rfl] at hX
       split at hX
       · cases hX
       · exact (Option.some.inj hX).symm⟩
   | j + 7,hj => simp [WI] at hj
theorem cS (WJ : Awk) (hg : Gl σ1) (hr : Ae 2 Ey σ1 p n xs) (hb : σ1 sb = none) (hl : σ1 lb = some (.cells #[(.string (ByteArray.mk #[95,95,110,97,109,101,95,95])),(.string (ByteArray.mk #[109]))] 56 (0,0)))
   (qF : ∀ x ∈ xs,0 ≤ x.2) (hn : n ≤ 2000000) (hw : 1 ≤ w ∧ w ≤ 500) (ht : -274877906944 ≤ t ∧ t ≤ 274877906944) (hR : ∀ σ',Ext σ1 σ' → R (.returned (.bool true)) σ') :
   ∀ (g i : Nat) (τ : Hp) (q : Option Addr) (m e : Nat) (A : List PZ),n - i = g → i ≤ n → Bo σ1 τ lb sb q m e A → tj A → ZL A → A.length ≤ i →
     AK.pD R p n c t w (aD sb 0) 1 1 (.float .f64 (BB (Bq (BV w t A)))) ((BV w t A).length : Int) (.float .f64 (Ny (BV w t A))) (.float .f64 (Nz (BV w t A))) (.float .f64 (BB (DU (BV w t A)))) (.float .f64 (BB (Dl (BV w t A)))) (i : Int) τ := by
 intro g
 induction g with
 | zero =>
   intro i τ q m e A nU hi h hv jK hA
   have X := h.ext hb
   exact cR WJ (hg.mono X) h hb hl hw hv (by omega) jK (by omega) (by omega) rfl fun σ' hx => hR σ' (X.trans hx)
 | succ g ih =>
   intro i τ q m e A nU hi h hv jK hA
   have BM : i < n := by omega
   have X := h.ext hb
   have hm := h.len
   obtain ⟨x,hx⟩ := hr.ex BM
   have jI := qF x (List.mem_of_getElem? hx)
   obtain ⟨b,o,rfl,ANb⟩ := Ey.at hr hx
   have Ek := ANb.mono X
   have kK := WG (w := w) (t := t) hv
   have kl := Nat.le_trans (WH (w := w) (t := t) (A := A)) hA
   have s0 := Nx (l := BV w t A) fun x hx => (kK x hx).1
   have s1 := QT (k := 1000) (l := BV w t A) fun x hx => by have := kK x hx; omega
   have Hf := hr.big
   have skip : AK.IJ R (aD b o) n c t w (aD sb 0) 1 1 (.float .f64 (BB (Bq (BV w t A)))) ((BV w t A).length : Int) (.float .f64 (Ny (BV w t A))) (.float .f64 (Nz (BV w t A))) (.float .f64 (BB (DU (BV w t A)))) (.float .f64 (BB (Dl (BV w t A)))) (i : Int) τ :=
     AK.Nw ⟨AN BM Hf,by
       have := ih (i + 1) τ q m e A (by omega) (by omega) h hv jK (by omega)
       rw [show ((i + 1 : Nat) : Int) = (i : Int) + 1 by omega] at this
       exact this⟩
   refine AK.ej ⟨fun _ => ⟨b,o,rfl,by unfold In; omega,x.1,by simpa using Ek.1,by unfold In; omega,x.2,by simpa using Ek.2.1,by decide,fun x57 h57 => ?_⟩,fun hh => by omega⟩
   have e57 : x57 = x.2 % 1000 := h57.trans (Int.tmod_eq_emod_of_nonneg jI)
   subst e57
   have v0 := Int.emod_nonneg x.2 (show (1000 : Int) ≠ 0 by decide)
   have v1 := Int.emod_lt_of_pos x.2 (show (0 : Int) < 1000 by decide)
   generalize x.2 % 1000 = v at *
   refine pW ?_
   have last : ∀ a,A[A.length - 1]? = some a → ∃ b2 o2,q = some ⟨b2,o2,none⟩ ∧ Hp.ld τ ⟨b2,o2 + (m - 1) * 2,none⟩ = some (.int .i64 a.1) := fun a ha => by
     obtain ⟨b2,o2,hq,Uj⟩ := Ey.at (h.out.rd Ey.mono) (i := A.length - 1) (x := ZK a) (by rw [List.getElem?_map,ha]; rfl)
     rw [hm] at Uj
     exact ⟨b2,o2,hq,Uj.1⟩
   have oF : ∀ a,A[A.length - 1]? = some a → 0 < m := fun a ha => by
     have := (List.getElem?_eq_some_iff.1 ha).1; omega
   by_cases hz : 0 < m
   case neg =>
     have WM : ∀ a,A[A.length - 1]? = some a → a.1 < x.1 := fun a ha => absurd (oF a ha) hz
     refine ⟨sb,0,rfl,by decide,q,m,e,h.ld,fun hh => by omega,fun _ => ?_⟩
     refine ⟨by decide,q,m,e,h.ld,fun Lq nk => ?_⟩
     refine AV.IU (vs := [.int .i64 x.1,.int .u64 (BI v)]) (x := ZK (x.1,v)) Ey.mono h.out rfl (Ey.one σ1 _ (ZK (x.1,v)) rfl) rfl (by omega) (fun p' c' σ4 Kl _ => ⟨_,_,_,rfl,by decide,?_⟩) nk
     have h4 : σ4 sb = some (iY lb q m e) := Kl.up sb _ (Hp.AB ..)
     have hB : Bo σ1 (σ4.set sb (iY lb p' (m + 1) c')) lb sb p' (m + 1) c' (A ++ [(x.1,v)]) := ⟨by rw [List.map_append]; exact Kl.jM⟩
     have hvB : tj (A ++ [(x.1,v)]) := fun y hy => by
       rcases List.mem_append.1 hy with hy | hy
       · exact hv y hy
       · rw [List.mem_singleton.1 hy]; exact ⟨v0,v1⟩
     have nx := ih (i + 1) _ p' (m + 1) c' (A ++ [(x.1,v)]) (by omega) (by omega) hB hvB (jK.snoc WM) (by rw [List.length_append,List.length_singleton]; omega)
     rw [win_snoc,show ((i + 1 : Nat) : Int) = (i : Int) + 1 by omega] at nx
     have out : qI w t (x.1,v) = false → AK.IJ R (aD b o) n c t w (aD sb 0) 1 1 (.float .f64 (BB (Bq (BV w t A)))) ((BV w t A).length : Int) (.float .f64 (Ny (BV w t A))) (.float .f64 (Nz (BV w t A))) (.float .f64 (BB (DU (BV w t A)))) (.float .f64 (BB (Dl (BV w t A)))) (i : Int) (σ4.set sb (iY lb p' (m + 1) c')) := fun hf => by
       rw [hf,if_neg (by decide),List.append_nil] at nx
       exact AK.Nw ⟨AN BM Hf,nx⟩
     refine st1 (c' := #[(.slice (aD lb 0) 1 1),.slice p' (m + 1) c']) bm h4 rfl rfl (by show 1 < 2; decide) rfl ⟨by unfold AM; omega,fun h1 => out ?_,fun h1 => ⟨fun h2 => out ?_,fun h2 => ?_⟩⟩
     · show (decide (t - w < x.1) && decide (x.1 ≤ t)) = false
       rw [decide_eq_false (by omega),Bool.false_and]
     · show (decide (t - w < x.1) && decide (x.1 ≤ t)) = false
       rw [decide_eq_false (show ¬ x.1 ≤ t by omega),Bool.and_false]
     have P8 : qI w t (x.1,v) = true := by
       show (decide (t - w < x.1) && decide (x.1 ≤ t)) = true
       rw [decide_eq_true (show t - w < x.1 by omega),decide_eq_true (show x.1 ≤ t by omega)]; rfl
     rw [P8,if_pos rfl] at nx
     generalize BV w t A = K at *
     have sm : qH K := fun y hy => by have := kK y hy; omega
     have fv : (BI v).toNat = BB v := by unfold BI; exact Int.toNat_natCast _
     have e1 : Bq (K ++ [v]) = Bq K + v := by rw [TE]; simp [Bq]
     have e2 : (((K ++ [v]).length : Nat) : Int) = (K.length : Int) + 1 := by rw [List.length_append,List.length_singleton]; omega
     have e3 : Dl (K ++ [v]) = v := by unfold Dl; rw [List.getLast?_concat]; rfl
     rw [e1,e2,e3] at nx
     have fin : ∀ f0 : Int,DU (K ++ [v]) = f0 → AK.Mn R (aD b o) n c t w (aD sb 0) 1 1 (.float .f64 (BB (Bq K))) (K.length : Int) (.float .f64 (Ny K)) (.float .f64 (Nz K)) (.float .f64 (BB f0)) (i : Int) (.float .f64 (BB v)) (σ4.set sb (iY lb p' (m + 1) c')) := fun f0 hf => by
       rw [hf] at nx
       exact AK.eo ⟨by unfold AM; omega,ZJ (by omega) (by omega) ⟨_,rfl,ZH sm (by omega) ⟨_,rfl,ZI sm (by omega) ⟨_,rfl,AK.Nw ⟨AN BM Hf,nx⟩⟩⟩⟩⟩
     refine .y Ob ⟨_,rfl,?_⟩
     rw [fv]
     refine ⟨fun jn => fin v ?_,fun jn => fin (DU K) ?_⟩
     · have : K = [] := List.eq_nil_of_length_eq_zero (by omega)
       rw [this]; rfl
     · cases hK : K with
       | nil => rw [hK] at jn; exact absurd rfl jn
       | cons a l => rfl
   case pos =>
     obtain ⟨a,ha⟩ : ∃ a,A[A.length - 1]? = some a := ⟨_,List.getElem?_eq_getElem (by omega)⟩
     obtain ⟨b2,o2,hq,Uj⟩ := last a ha
     refine ⟨sb,0,rfl,by decide,q,m,e,h.ld,fun _ => ⟨by decide,q,m,e,h.ld,by decide,q,m,e,h.ld,by unfold AM; omega,b2,o2,hq,by unfold In; omega,a.1,by rw [show ((m : Int) - 1).toNat = m - 1 by omega]; exact Uj,fun hle => skip,fun hgt => ?_⟩,fun hh => absurd hh (by omega)⟩
     have WM : ∀ a',A[A.length - 1]? = some a' → a'.1 < x.1 := fun a' V0 => by
       rw [ha] at V0
       cases V0
       omega
     refine ⟨by decide,q,m,e,h.ld,fun Lq nk => ?_⟩
     refine AV.IU (vs := [.int .i64 x.1,.int .u64 (BI v)]) (x := ZK (x.1,v)) Ey.mono h.out rfl (Ey.one σ1 _ (ZK (x.1,v)) rfl) rfl (by omega) (fun p' c' σ4 Kl _ => ⟨_,_,_,rfl,by decide,?_⟩) nk
     have h4 : σ4 sb = some (iY lb q m e) := Kl.up sb _ (Hp.AB ..)
     have hB : Bo σ1 (σ4.set sb (iY lb p' (m + 1) c')) lb sb p' (m + 1) c' (A ++ [(x.1,v)]) := ⟨by rw [List.map_append]; exact Kl.jM⟩
     have hvB : tj (A ++ [(x.1,v)]) := fun y hy => by
       rcases List.mem_append.1 hy with hy | hy
       · exact hv y hy
       · rw [List.mem_singleton.1 hy]; exact ⟨v0,v1⟩
     have nx := ih (i + 1) _ p' (m + 1) c' (A ++ [(x.1,v)]) (by omega) (by omega) hB hvB (jK.snoc WM) (by rw [List.length_append,List.length_singleton]; omega)
     rw [win_snoc,show ((i + 1 : Nat) : Int) = (i : Int) + 1 by omega] at nx
     have out : qI w t (x.1,v) = false → AK.IJ R (aD b o) n c t w (aD sb 0) 1 1 (.float .f64 (BB (Bq (BV w t A)))) ((BV w t A).length : Int) (.float .f64 (Ny (BV w t A))) (.float .f64 (Nz (BV w t A))) (.float .f64 (BB (DU (BV w t A)))) (.float .f64 (BB (Dl (BV w t A)))) (i : Int) (σ4.set sb (iY lb p' (m + 1) c')) := fun hf => by
       rw [hf,if_neg (by decide),List.append_nil] at nx
       exact AK.Nw ⟨AN BM Hf,nx⟩
     refine st1 (c' := #[(.slice (aD lb 0) 1 1),.slice p' (m + 1) c']) bm h4 rfl rfl (by show 1 < 2; decide) rfl ⟨by unfold AM; omega,fun h1 => out ?_,fun h1 => ⟨fun h2 => out ?_,fun h2 => ?_⟩⟩
     · show (decide (t - w < x.1) && decide (x.1 ≤ t)) = false
       rw [decide_eq_false (by omega),Bool.false_and]
     · show (decide (t - w < x.1) && decide (x.1 ≤ t)) = false
       rw [decide_eq_false (show ¬ x.1 ≤ t by omega),Bool.and_false]
     have P8 : qI w t (x.1,v) = true := by
       show (decide (t - w < x.1) && decide (x.1 ≤ t)) = true
       rw [decide_eq_true (show t - w < x.1 by omega),decide_eq_true (show x.1 ≤ t by omega)]; rfl
     rw [P8,if_pos rfl] at nx
     generalize BV w t A = K at *
     have sm : qH K := fun y hy => by have := kK y hy; omega
     have fv : (BI v).toNat = BB v := by unfold BI; exact Int.toNat_natCast _
     have e1 : Bq (K ++ [v]) = Bq K + v := by rw [TE]; simp [Bq]
     have e2 : (((K ++ [v]).length : Nat) : Int) = (K.length : Int) + 1 := by rw [List.length_append,List.length_singleton]; omega
     have e3 : Dl (K ++ [v]) = v := by unfold Dl; rw [List.getLast?_concat]; rfl
     rw [e1,e2,e3] at nx
     have fin : ∀ f0 : Int,DU (K ++ [v]) = f0 → AK.Mn R (aD b o) n c t w (aD sb 0) 1 1 (.float .f64 (BB (Bq K))) (K.length : Int) (.float .f64 (Ny K)) (.float .f64 (Nz K)) (.float .f64 (BB f0)) (i : Int) (.float .f64 (BB v)) (σ4.set sb (iY lb p' (m + 1) c')) := fun f0 hf => by
       rw [hf] at nx
       exact AK.eo ⟨by unfold AM; omega,ZJ (by omega) (by omega) ⟨_,rfl,ZH sm (by omega) ⟨_,rfl,ZI sm (by omega) ⟨_,rfl,AK.Nw ⟨AN BM Hf,nx⟩⟩⟩⟩⟩
     refine .y Ob ⟨_,rfl,?_⟩
     rw [fv]
     refine ⟨fun jn => fin v ?_,fun jn => fin (DU K) ?_⟩
     · have : K = [] := List.eq_nil_of_length_eq_zero (by omega)
       rw [this]; rfl
     · cases hK : K with
       | nil => rw [hK] at jn; exact absurd rfl jn
       | cons a l => rfl
theorem ZN {ps : List Pt} {s : Int} (WJ : Awk) (hg : Gl σ) (hr : Ae 2 Ey σ p n ps) (qF : ∀ x ∈ ps,0 ≤ x.2) (hn : n ≤ 2000000) (h : ∀ σ',Ext σ σ' → R (.returned (.bool true)) σ') :
   Spec prog 10 #[.slice p n c,.int .i64 t,.int .i64 s] σ R := by
 refine AK.start (iX ⟨_,rfl,by decide,fun Vc h26 => ?_⟩)
 have e26 := tc (by decide) h26
 have hw : 1 ≤ 1 + Vc ∧ 1 + Vc ≤ 500 := by
   have a1 := Int.emod_nonneg (ZB s) (show (500 : Int) ≠ 0 by decide)
   have a2 := Int.emod_lt_of_pos (ZB s) (show (0 : Int) < 500 by decide)
   omega
 refine ⟨by unfold AM; omega,fun lb hlb sb hsb => ?_⟩
 have x1 := Ext.set (o := .cells #[(.string (ByteArray.mk #[95,95,110,97,109,101,95,95])),(.string (ByteArray.mk #[109]))] 56 (0,0)) hlb
 have hl := Hp.AB σ lb (.cells #[(.string (ByteArray.mk #[95,95,110,97,109,101,95,95])),(.string (ByteArray.mk #[109]))] 56 (0,0))
 generalize σ.set lb (.cells #[(.string (ByteArray.mk #[95,95,110,97,109,101,95,95])),(.string (ByteArray.mk #[109]))] 56 (0,0)) = σ1 at *
 have x2 := Ext.set (o := iY lb none 0 0) hsb
 have awk : Spec prog 14 #[] (σ1.set sb (iY lb none 0 0)) (AA R (CB fun t26 AF => R (.returned (.bool t26)) AF)) := WJ _ _ (hg.mono (x1.trans x2)) fun σ2 A5 => ⟨_,rfl,h σ2 ((x1.trans x2).trans A5)⟩
 have z0 : (0 : Nat) = BB 0 := by unfold BB Ieee.Format.nearest; rfl
 refine ⟨fun _ => awk,fun hlo => ⟨fun _ => awk,fun hhi => inf_spec ⟨_,rfl,ig ⟨_,rfl,?_⟩⟩⟩⟩
 have := cS (c := c) (t := t) (w := 1 + Vc) WJ (hg.mono x1) (hr.mono Ey.mono x1) hsb hl qF hn hw (by omega) (fun σ' hx => h σ' (x1.trans hx)) n 0 _ none 0 0 [] rfl (Nat.zero_le _) ⟨AV.nil (.refl _)⟩ (fun x hx => by cases hx) (fun k a b ha => by simp at ha) (Nat.le_refl _)
 rw [z0]
 exact this
end
end TwW
end
section
set_option maxRecDepth 100000
namespace TwW.Rw
open Go Tw TwW Go.RowKit Go.ChangeShapes Go.WideShapes Go.ChangeAt Go.Deep Go.Proofs.Tryz Go.Proofs.YtlmhidjgplomgaaGreatDoor
section
variable {H : Type} {enc : TypeId × Value → H} {W : World} {base : Nat} {v v' : Value} {d d' : DataW H} {ps ps' : List MemPlace} {r : Reach}
theorem pX (hv : Value.okWide prog W r base 38 v) (h : DataW.Trod enc prog W 0 (fun _ => true) true 38 v d ps) (hw : Rows.uptoBulk d ≤ 1048576) : ∃ p n c xs,v = .slice p n c ∧ Ae 2 Ey (full W) p n xs ∧ AGw (fun p : Pt => 0 ≤ p.2 ∧ p.2 < 18446744073709551616) xs := by
 obtain ⟨a,l,c,rfl⟩ := okWide_slice underlying38 hv
 obtain ⟨fuel,hf⟩ := h
 obtain ⟨xs,⟨p,n,c',e,_,hr⟩,hI,_⟩ := AAX hf hw
 have e' : [Value.slice a l c] = [.slice p n c'] := by simpa [Value.cells] using e
 cases e'
 exact ⟨a,l,c,xs,rfl,hr,hI⟩
end
end TwW.Rw
end
section
namespace Go.Proofs.YtlmhidjgplomgaaGreatDoor.evalOver
open Go Tw TwW TwW.Rw Go.ChangeShapes Go.WideShapes Go.ChangeAt Go.RowKit Go.Deep
open Go.Proofs.Tryz (f10 func10 params10)
abbrev ZO : Array Value := #[.slice none 0 0,.int .i64 0,.int .i64 0]
noncomputable abbrev wW (os : Os) : World := (LV os).forCall (fun _ _ => 0) ⟨#[],ZO,[]⟩
set_option maxRecDepth 1000000
theorem wHr (os : Os) : ((wW os).heap.toList.drop prog.globals.size).take ((begin prog (fun _ _ => 0) default).world.heap.size - prog.globals.size) = (begin prog (fun _ _ => 0) default).world.heap.toList.drop prog.globals.size := by kernel_rfl
theorem ANd (os : Os) : Input.okWideB prog (wW os) 10 ⟨#[],ZO,[]⟩ = true := by kernel_rfl
theorem wHv (os : Os) : (wW os).variablesRefB prog = true := AM8 os (args := ZO)
theorem reads (os : Os) {H : Type} (enc : TypeId × Value → H) : ∃ places,DataW.whole enc prog (wW os).memory f10.params.toList Rows.evalOverSpec.vars false ZO.toList 8 = some ([.nil,.lit (.int .i64 0),.lit (.int .i64 0)],[],places) :=
 ⟨[],by kernel_rfl⟩
theorem pY (H : Type) (enc : TypeId × Value → H) (W : World) (base : Nat) (args : Array Value) (ds gs : List (DataW H)) (before : List MemPlace)
   (tu : ∀ (j : Nat) t v,f10.params[j]? = some t → args[j]? = some v → Value.okWide prog W .any base t v)
   (hW : DataW.Whole enc prog f10.params.toList Rows.evalOverSpec.vars false W args.toList ds gs before) (hk : Rows.uptoBulkAll (ds ++ gs) ≤ 1048576) (hL : laidMetH prog Laid W) (hsh : W.ShapedOpen prog) :
   Calls prog 10 args W fun e W' => ∃ v,e = .returned v ∧ Rows.evalOverSpec.post enc prog f10 false true false false W args v W' := by
 have hW' := hW
 obtain ⟨p,q,hA0,hV,rfl,hfz,hnd⟩ := hW
 have hA : DataW.TrodAll enc prog W 0 (fun _ => true) true f10.params.toList args.toList ds p := hA0
 rw [params10] at hA tu
 obtain ⟨v0,vs0,d0,ds0,p0,q0,I5,rfl,rfl,h0,r0⟩ := trodAll_cons hA
 obtain ⟨v1,vs1,d1,ds1,p1,q1,rfl,rfl,rfl,h1,r1⟩ := trodAll_cons r0
 obtain ⟨v2,vs2,d2,ds2,p2,q2,rfl,rfl,rfl,h2,r2⟩ := trodAll_cons r1
 obtain ⟨rfl,rfl,rfl⟩ := trodAll_nil r2
 obtain rfl : args = #[v0,v1,v2] := by cases args; simp_all
 obtain ⟨rfl,rfl⟩ := trodVars_none hV
 simp only [List.append_nil,Rows.uptoBulkAll] at hk
 obtain ⟨a0,n0,c0,ps0,rfl,hr0,hP0⟩ := pX (tu 0 38 v0 rfl rfl) h0 (by omega)
 obtain ⟨x1,rfl,rfl,_,w1⟩ := open_int Go.Proofs.Tryz.underlying2 (tu 1 2 v1 rfl rfl) h1
 obtain ⟨x2,rfl,rfl,_,w2⟩ := open_int Go.Proofs.Tryz.underlying3 (tu 2 3 v2 rfl rfl) h2
 exact AAY (by kernel_rfl) rfl rfl ⟨rfl,rfl,rfl⟩ hW' ((ZN bo (AGy hL hsh) hr0 (fun x hx => (hP0.1 x hx).1) (Nat.le_trans (show n0 ≤ 1048576 by have := hr0.1; have := hP0.2; omega) (by decide))) fun σ' hx => ⟨rfl,hx⟩)
theorem AA4 : Go.Proofs.Tryz.checked.prog.inits.idxOf? 10 = none := by kernel_rfl
theorem witness (os : Os) (started : os.Started) (H : Type) (enc : TypeId × Value → H) : ∃ (w : World) (tape : Tape) (i : Input),w.os = os ∧ (w.forCall tape i).Shaped Go.Proofs.Tryz.checked.prog ∧ i.vars = [] ∧ Input.okWide Go.Proofs.Tryz.checked.prog (w.forCall tape i) .any w.heap.size 10 i ∧
     (Rows.OpenSpec.upto Rows.evalOverSpec).preRow enc Go.Proofs.Tryz.checked.prog f10 Rows.evalOverUptoRow.domain false Rows.evalOverUptoRow.laid (w.forCall tape i).memory i.args ∧ ({} : Assume).holds Go.Proofs.Tryz.checked.prog (lone (Frame.enter Go.Proofs.Tryz.checked.prog 10 i.args .normal) [] (w.forCall tape i)) := by
 obtain ⟨places,hx⟩ := reads os enc
 exact witness_row_atRef (enc := enc) (C := Go.Proofs.Tryz.checked) false (LV os) ZO rfl (wHv os) (wHr os) (ANd os)
     (OpenSpec.preRow_of_cond 8 hx (by as_aux_lemma => kernel_rfl) (fun k hk => by cases hk; as_aux_lemma => kernel_rfl) (by as_aux_lemma => kernel_rfl) (oP os _))
theorem lifted (os : Os) (started : os.Started) (H : Type) (enc : TypeId × Value → H) (F : Stop.Interp) :
   ReturnsInHanded {} Go.Proofs.Tryz.checked os 10 .any ((Rows.OpenSpec.upto Rows.evalOverSpec).preRow enc prog f10 Rows.evalOverUptoRow.domain false Rows.evalOverUptoRow.laid) (((Rows.OpenSpec.upto Rows.evalOverSpec).at F).post enc prog f10 false true false false) := by
 refine returnsInHanded_of_row (C := Go.Proofs.Tryz.checked) (s := Rows.OpenSpec.upto Rows.evalOverSpec) own started AA4 func10 (witness os started H enc) ?_
 intro W base args ds gs before AHS hW _ AHT _ hL hsh _
 exact pY H enc W base args ds gs before AHS hW (of_decide_eq_true (AHT _ rfl)) hL hsh
end Go.Proofs.YtlmhidjgplomgaaGreatDoor.evalOver
end
