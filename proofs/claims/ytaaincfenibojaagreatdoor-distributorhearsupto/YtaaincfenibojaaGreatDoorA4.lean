/-
  Part 4 of the proof that the law DistributorHearsUptoCardSaid of the given program answers true for every input of the given statement; the input reads behind the call as it did. (The texts: packed from 27 texts. Names are shortened by the packing program, for the bound on size.)
-/
import Derived.Test.YtaaincfenibojaaGreatDoorA3
import Derived.Lib.SmallJoins
import Derived.Lib.ItoaLen
import Derived.Lib.ItoaMem
import Derived.WalkKit
import Derived.Defers
import Derived.Recover
import Derived.Laws.IdiomStrings
set_option linter.all false
section
namespace TwW
open Go Tw Go.RowKit Go.Proofs.Tryz
section
variable {P : Program} {f : FuncId} {args : Array Value} {σ : Hp} {R : Rr} {v : Value}
theorem Spec.below (h : ∀ w, Sat σ w → Calls P f args w fun e w' => e = .returned v ∧ Below w.heap.size w w') (hR : R (.returned v) σ) : Spec P f args σ R := fun w F hs hF =>
 (h w hs).mono fun e w' ⟨he, hb⟩ => ⟨σ, he ▸ hR, fun b o ho => by
   have h1 := hs b o ho
   rw [hb.block b (Array.getElem?_eq_some_iff.1 h1).1]; exact h1, fun b hFb => ⟨(hF b hFb).2, hb.block b (hF b hFb).1⟩, ⟨hb.os, hb.tape, fun h => h.elim⟩, hb.output, hb.size⟩
theorem Spec.same (h : ∀ w, Sat σ w → Calls P f args w fun e w' => e = .returned v ∧ w' = w) (hR : R (.returned v) σ) : Spec P f args σ R :=
 Spec.below (fun w hs => (h w hs).mono fun e w' ⟨he, hw⟩ => ⟨he, hw ▸ Below.refl _ _⟩) hR
end
def Tb (σ : Hp) : Prop := ∃ g T fr, prog.globalNamed "internal/strconv.uint64pow10" = some g ∧ σ g = some (.cells (Lib.pow10Tab.map fun z => Value.int .u64 z).toArray T fr)
theorem Tb.mono {σ σ' : Hp} (h : Tb σ) (hx : Ext σ σ') : Tb σ' := let ⟨g, T, fr, h1, h2⟩ := h; ⟨g, T, fr, h1, hx _ _ h2⟩
theorem Tb.is {σ : Hp} (h : Tb σ) {w : World} (hs : Sat σ w) : Lib.TabIs prog w "internal/strconv.uint64pow10" .u64 Lib.pow10Tab := by
 obtain ⟨g, T, fr, h1, h2⟩ := h
 simp [Lib.TabIs, World.var?, h1, hs _ _ h2]
def strOf (xs : List Int) : ByteArray := ⟨(xs.map fun n => UInt8.ofNat n.toNat).toArray⟩
section
variable {σ : Hp} {R : Rr}
theorem GK {p : Option Addr} {n c : Nat} {xs : List Int} {Φ : Value → Hp → Prop} (hr : CA .u8 σ p n xs) (h : Φ (.string (strOfNums xs)) σ) : AJ prog (convert 84 9 (.slice p n c)) σ Φ := by
 refine AJ.pu (fun w hs => ?_) h
 have h1 := underlying84
 have h2 := underlying9
 by_cases hn : n = 0
 · subst hn
   have hx : xs = [] := List.eq_nil_of_length_eq_zero hr.1
   subst hx
   rw [run_convert_bytes_string w 84 9 _ p 0 c h1 underlying5 h2]
   cases p <;> simp [Conv.bytesToString, loadCells] <;> rfl
 · obtain ⟨x0, aI⟩ := hr.ex (k := 0) (by omega)
   obtain ⟨b, o, rfl, _⟩ := hr.at aI
   refine run_convert_bytes_arg w 84 _ h1 underlying5 b o n c xs hr.1 (fun i hi => ?_) 9 h2
   obtain ⟨x, hx⟩ := hr.ex hi
   obtain ⟨b', o', he, hl⟩ := hr.at hx
   cases he
   rw [List.getD_eq_getElem?_getD, hx]
   simpa using hs.ld hl
theorem Xi (l : List UInt8) : strOfNums (l.map fun b => (b.toNat : Int)) = ⟨l.toArray⟩ := by
 apply ByteArray.ext
 apply Array.toList_inj.1
 rw [strOfNums_data, List.map_map]
 conv => rhs; rw [← List.map_id l]
 exact List.map_congr_left fun a _ => by simp
theorem yq : prog.underlying 290 = some (.array 24 5) := underlying290
theorem Xj {b T u : Nat} (hb : σ b = none) (hu : u < 18446744073709551616) {c : Nat} (h : ∀ σ', Ext σ σ' → CA .u8 σ' (some ⟨b, 0, none⟩) (Lib.nDigits u) ((Lib.decDigits u).map fun x => (x.toNat : Int)) → R (.returned (.tuple #[])) σ') :
   Spec prog 217 #[.slice (some ⟨b, 0, none⟩) (Lib.nDigits u) c, .int .u64 u] (σ.set b (.cells Lib.zeros24 T (0, 0))) R := fun w F hs hF => by
 have u7 : Lib.nDigits u ≤ 20 := Lib.nDigits_le20 u hu
 have hw := hs b _ (Hp.AA _ _ _)
 let d : Array UInt8 := Array.replicate (Lib.nDigits u) 0
 have hH : Sort.Holds (fun (b : UInt8) => Value.int .u8 (b.toNat : Int)) w b 0 d := fun j hj => by
   have UQ : j < Lib.nDigits u := by simpa [d] using hj
   refine ⟨?_, by simp [World.frozen?, hw]⟩
   have : d[j]! = 0 := by simp [d, UQ]
   simp only [World.cell?, hw, this, Nat.zero_add]
   simpa using Lib.zeros24_at j (by omega)
 have IB := Go.Proofs.Tryz.internal_strconv_formatBase10 b 0 c u d w hH (by simpa [d] using Lib.lt_pow_nDigits u) hu (by simp [d]; omega)
 rw [show d.size = Lib.nDigits u by simp [d]] at IB
 refine IB.mono ?_
 rintro e w' ⟨rfl, n, v', dk, rfl, hI⟩
 have Ee : dk.size = Lib.nDigits u := hI.size
 have hblk : b < w.heap.size := (Array.getElem?_eq_some_iff.1 hw).1
 have DL : ∀ k, ((Sort.putRow (fun (b : UInt8) => Value.int .u8 (b.toNat : Int)) w b 0 dk).drewN n).heap[k]? = if b = k then (w.heap[k]?).map (Sort.onCells (Sort.putCells (fun (b : UInt8) => Value.int .u8 (b.toNat : Int)) 0 dk)) else w.heap[k]? := fun k => by
   simp only [Sort.putRow, Sort.mapBlock, World.drewN, Array.getElem?_modify]
 refine ⟨σ.set b (.cells (Sort.putCells (fun (b : UInt8) => Value.int .u8 (b.toNat : Int)) 0 dk Lib.zeros24) T (0, 0)), h _ (.set hb) ?_, fun k o hk => ?_, fun k hk => ?_, ⟨rfl, rfl, fun _ => ⟨n, rfl⟩⟩, rfl, by simp [Sort.putRow, Sort.mapBlock, World.drewN]⟩
 · have hlen : (Lib.decDigits u).length = Lib.nDigits u := Lib.decDigits_length u
   refine CA.Lz ⟨by simp [hlen], by omega, .inr ⟨b, 0, rfl, EF.of fun j x hx => AD (Hp.AA _ _ _) ?_⟩⟩
   have hj : j < (Lib.decDigits u).length := by
     have := (List.getElem?_eq_some_iff.1 hx).1
     simpa using this
   rw [FJ, if_pos (by omega), Nat.zero_add, Lib.zeros24_at j (by omega), Nat.sub_zero, ← Lib.row_is_numeral hI j hj]
   simp [hj] at hx ⊢
   exact hx
 · rw [DL]
   by_cases DD : k = b
   · subst DD
     rw [Hp.AA] at hk; cases hk
     rw [if_pos rfl, hw]; rfl
   · rw [Hp.AF DD] at hk
     rw [if_neg (Ne.symm DD)]
     exact hs k o (by rw [Hp.AF DD]; exact hk)
 · have DD : k ≠ b := fun e => by have := (hF k hk).2; rw [e, Hp.AA] at this; cases this
   refine ⟨by rw [Hp.AF DD]; have := (hF k hk).2; rwa [Hp.AF DD] at this, ?_⟩
   rw [DL, if_neg (Ne.symm DD)]
theorem vA {b k : Nat} (hk : k ≤ 24) {τ : Hp} : YF prog (Instr.sliceAt 290 (.pointer (some ⟨b, 0, none⟩)) none (some (.int .i64 (k : Int))) none) τ (.slice (some ⟨b, 0, none⟩) k 24) := fun w _ => by
 have h5 : ∀ w, (Go.sizeOf 5).run prog w = .ok 1 w := fun w => by
   have h : prog.info? 5 = some t5 := by kernel_rfl
   simp [Go.sizeOf, typeInfo, h, show t5.size = 1 from rfl]
 have dN : (k : Int) ≤ 24 := by omega
 simp [Instr.sliceAt, run_underlying yq, Instr.sliceBounds, run_sliceBound, dN, Instr.slice, Result.andThen, h5, Instr.sureAddr, Addr.add]
theorem Tj {u : Nat} (hu : u < 9223372036854775808) (ht : Tb σ) (h : ∀ σ', Ext σ σ' → R (.returned (.string ⟨(Lib.decDigits u).toArray⟩)) σ') : Spec prog 58 #[.int .u64 u, .int .i64 10] σ R := by
 refine G5.start (De.start ⟨fun _ => ⟨fun hs E7 h14 => ?_, fun hb b5 XT => ?_⟩, fun hh => absurd rfl hh⟩)
 · have e14 : E7 = (u : Int) := by rw [h14]; simp [IntKind.wrap, IntKind.bits, IntKind.signed]; omega
   subst e14
   exact Spec.same (fun w _ => Go.Proofs.Tryz.internal_strconv_small u (by omega) w) ⟨_, rfl, _, rfl, h σ (Ext.refl _)⟩
 · have hx : Ext σ (σ.set b5 (.cells Lib.zeros24 290 (0, 0))) := .set XT
   refine Spec.same (fun w hs => Go.Proofs.Tryz.internal_strconv_numDigits u (by omega) (by omega) w ((ht.mono hx).is hs)) ⟨_, rfl, some ⟨b5, 0, none⟩, Lib.nDigits u, 24, ?_, ?_⟩
   · exact vA (by have := Lib.nDigits_le20 u (by omega); omega)
   · refine Xj XT (by omega) fun σ' Cc hr => ⟨rfl, some ⟨b5, 0, none⟩, Lib.nDigits u, 24, ?_, GK hr ⟨_, rfl, _, rfl, ?_⟩⟩
     · exact vA (by have := Lib.nDigits_le20 u (by omega); omega)
     · rw [Xi]; exact h σ' Cc
end
def DS (b : UInt8) : Bool := decide (48 ≤ b.toNat) && decide (b.toNat ≤ 57)
def LN (a : Nat) (l : List UInt8) : Nat := l.foldl (fun a b => a * 10 + (b.toNat - 48)) a
theorem Dx (a : Nat) (b : UInt8) (l : List UInt8) : LN a (b :: l) = LN (a * 10 + (b.toNat - 48)) l := by unfold LN; rw [List.foldl_cons]
theorem Q1 (a : Nat) (l m : List UInt8) : LN a (l ++ m) = LN (LN a l) m := by simp [LN, List.foldl_append]
theorem gC (k : Nat) : LN 0 (List.replicate k 48) = 0 := by
 induction k with
 | zero => rfl
 | succ k ih =>
   rw [List.replicate_succ, Dx]
   have e : 0 * 10 + ((48 : UInt8).toNat - 48) = 0 := by decide
   rw [e, ih]
theorem Fz : ∀ (l : List UInt8) (a : Nat), LN a l = a * 10 ^ l.length + LN 0 l
 | [], a => by simp [LN]
 | b :: l, a => by
   rw [Dx, Dx, Fz l, Fz l (0 * 10 + (b.toNat - 48)), List.length_cons, Nat.pow_succ, Nat.add_mul, Nat.zero_mul, Nat.zero_add, Nat.mul_assoc, Nat.mul_comm 10, Nat.add_assoc]
theorem Q2 : ∀ (l : List UInt8), l.all DS = true → LN 0 l < 10 ^ l.length
 | [], _ => by simp [LN]
 | b :: l, h => by
   simp only [List.all_cons, Bool.and_eq_true] at h
   have h1 := Q2 l h.2
   have hb : b.toNat - 48 ≤ 9 := by have := h.1; simp [DS] at this; omega
   rw [Dx, Fz, List.length_cons, Nat.pow_succ, Nat.zero_mul, Nat.zero_add]
   have : (b.toNat - 48) * 10 ^ l.length ≤ 9 * 10 ^ l.length := Nat.mul_le_mul_right _ hb
   omega
theorem la : ∀ (l m : List UInt8), l.length = m.length → l.all DS = true → m.all DS = true → LN 0 l = LN 0 m → l = m
 | [], [], _, _, _, _ => rfl
 | b :: l, c :: m, hl, h, g, he => by
   simp only [List.length_cons, Nat.succ.injEq] at hl
   simp only [List.all_cons, Bool.and_eq_true] at h g
   rw [Dx, Dx, Fz, Fz m, hl, Nat.zero_mul, Nat.zero_add, Nat.zero_add] at he
   have h1 := Q2 l h.2
   have h2 := Q2 m g.2
   rw [hl] at h1
   have hb := h.1
   have hc := g.1
   simp [DS] at hb hc
   have hp : 0 < 10 ^ m.length := Nat.pow_pos (by decide)
   have e1 : b.toNat - 48 = c.toNat - 48 := by
     have d1 : ((b.toNat - 48) * 10 ^ m.length + LN 0 l) / 10 ^ m.length = b.toNat - 48 := by
       rw [Nat.mul_comm, Nat.mul_add_div hp, Nat.div_eq_of_lt h1, Nat.add_zero]
     have d2 : ((c.toNat - 48) * 10 ^ m.length + LN 0 m) / 10 ^ m.length = c.toNat - 48 := by
       rw [Nat.mul_comm, Nat.mul_add_div hp, Nat.div_eq_of_lt h2, Nat.add_zero]
     rw [← d1, ← d2, he]
   have e2 : LN 0 l = LN 0 m := by rw [e1] at he; omega
   have e3 : b = c := UInt8.toNat_inj.1 (by omega)
   rw [e3, la l m hl h.2 g.2 e2]
theorem vB : ∀ (l m : List UInt8), l.length = m.length → l.all DS = true → m.all DS = true → l ≤ m → LN 0 l ≤ LN 0 m
 | [], [], _, _, _, _ => Nat.le_refl _
 | b :: l, c :: m, hl, h, g, he => by
   simp only [List.length_cons, Nat.succ.injEq] at hl
   simp only [List.all_cons, Bool.and_eq_true] at h g
   rw [Dx, Dx, Fz, Fz m, hl, Nat.zero_mul, Nat.zero_add, Nat.zero_add]
   have h1 := Q2 l h.2
   rw [hl] at h1
   have hb := h.1
   have hc := g.1
   simp [DS] at hb hc
   rcases List.cons_le_cons_iff.1 he with Ag | ⟨rfl, hle⟩
   · have Q3 : b.toNat < c.toNat := UInt8.lt_iff_toNat_lt.1 Ag
     have : (b.toNat - 48 + 1) * 10 ^ m.length ≤ (c.toNat - 48) * 10 ^ m.length := Nat.mul_le_mul_right _ (by omega)
     rw [Nat.add_mul] at this
     omega
   · have := vB l m hl h.2 g.2 hle
     omega
theorem lg {d : Nat} (h : d < 10) : DS (UInt8.ofNat (48 + d)) = true ∧ (UInt8.ofNat (48 + d)).toNat - 48 = d := by
 have : (UInt8.ofNat (48 + d)).toNat = 48 + d := by rw [UInt8.toNat_ofNat']; omega
 simp [DS, this]; omega
theorem VB (u : Nat) : (Lib.decDigits u).all DS = true ∧ LN 0 (Lib.decDigits u) = u := by
 induction u using Nat.strongRecOn with
 | _ u ih =>
   rw [Lib.decDigits]
   by_cases h : u < 10
   · rw [dif_pos h]
     have := lg h
     refine ⟨by rw [List.all_cons, this.1]; rfl, ?_⟩
     rw [Dx, this.2]; simp [LN]
   · rw [dif_neg h]
     have h1 := ih (u / 10) (by omega)
     have h2 := lg (show u % 10 < 10 by omega)
     rw [List.all_append, h1.1, Q1, h1.2]
     refine ⟨by rw [List.all_cons, h2.1]; rfl, ?_⟩
     rw [Dx, h2.2]; simp only [LN, List.foldl_nil]; omega
def Jy (u : Nat) : List UInt8 := List.replicate (8 - (Lib.decDigits u).length) 48 ++ Lib.decDigits u
theorem dO {u : Nat} (h : u < 100000000) : (Lib.decDigits u).length ≤ 8 := by
 rw [Lib.decDigits_length]
 rcases Nat.lt_or_ge 8 (Lib.nDigits u) with h1 | h1
 · exfalso
   have hd := VB u
   have : ∀ (k : Nat) (v : Nat), v < 10 ^ k → 0 < k → Lib.nDigits v ≤ k := by
     intro k
     induction k with
     | zero => intro v _ h; omega
     | succ k ih =>
       intro v hv _
       by_cases rq : v < 10
       · rw [Lib.nDigits_small rq]; omega
       · rw [Lib.nDigits_big rq]
         have hk : 0 < k := by
           rcases Nat.eq_zero_or_pos k with rfl | hk
           · simp at hv; omega
           · exact hk
         have := ih (v / 10) (by rw [Nat.div_lt_iff_lt_mul (by decide)]; rw [Nat.pow_succ] at hv; exact hv) hk
         omega
   have := this 8 u (by omega) (by decide)
   omega
 · exact h1
theorem Iy {u : Nat} (h : u < 100000000) : (Jy u).length = 8 := by
 have := dO h
 simp [Jy]; omega
theorem KV (u : Nat) : (Jy u).all DS = true := by
 rw [Jy, List.all_append, (VB u).1, Bool.and_true]
 rw [List.all_eq_true]
 intro x hx
 rw [List.eq_of_mem_replicate hx]; rfl
theorem M3 (u : Nat) : LN 0 (Jy u) = u := by rw [Jy, Q1, gC, (VB u).2]
theorem rr {l : List UInt8} (hl : l.length = 8) (hd : l.all DS = true) : Jy (LN 0 l) = l ∧ LN 0 l < 100000000 := by
 have Ag := Q2 l hd
 rw [hl] at Ag
 have Q3 : LN 0 l < 100000000 := by omega
 exact ⟨la _ _ (by rw [Iy Q3, hl]) (KV _) hd (M3 _), Q3⟩
theorem dP (c : Nat) : Lib.repeatL [48] c = List.replicate c 48 := by
 induction c with
 | zero => rfl
 | succ c ih => rw [Lib.repeatL, ih, List.replicate_succ]; rfl
section
variable {σ : Hp} {R : Rr}
theorem lh {u : Nat} (hu : u < 100000000) (ht : Tb σ) (h : ∀ σ', Ext σ σ' → R (.returned (.string ⟨(Jy u).toArray⟩)) σ') : Spec prog 226 #[.int .u64 u, .int .i64 8] σ R := by
 have hl := dO hu
 refine QW.start (Tj (by omega) ht fun σ' hx => ⟨_, rfl, OU.start ⟨?_, ?_⟩⟩)
 · have : (ByteArray.size ⟨(Lib.decDigits u).toArray⟩) = (Lib.decDigits u).length := by simp [ByteArray.size]
   rw [this]; unfold AO; omega
 · have e1 : (ByteArray.size ⟨(Lib.decDigits u).toArray⟩) = (Lib.decDigits u).length := by simp [ByteArray.size]
   rw [e1]
   have e2 : (if (8 - ((Lib.decDigits u).length : Int)) < 0 then (0 : Int) else 8 - ((Lib.decDigits u).length : Int)) = ((8 - (Lib.decDigits u).length : Nat) : Int) := by split <;> omega
   rw [e2]
   refine Spec.below (fun w _ => Go.Proofs.Tryz.strings_Repeat ⟨#[48]⟩ (8 - (Lib.decDigits u).length) w (by omega) ?_) ⟨_, rfl, ?_, _, rfl, ?_⟩
   · have : ByteArray.size ⟨#[48]⟩ = 1 := rfl
     rw [this]; omega
   · have : ByteArray.size ⟨(Lib.repeatL (ByteArray.mk #[48]).data.toList (8 - (Lib.decDigits u).length)).toArray⟩ = 8 - (Lib.decDigits u).length := by
       show (List.toArray (Lib.repeatL [48] _)).size = _
       rw [dP]; simp
     rw [this]; omega
   · have : (⟨(Lib.repeatL (ByteArray.mk #[48]).data.toList (8 - (Lib.decDigits u).length)).toArray⟩ ++ ⟨(Lib.decDigits u).toArray⟩ : ByteArray) = ⟨(Jy u).toArray⟩ := by
       apply ByteArray.ext
       show _ = (Jy u).toArray
       rw [ByteArray.data_append]
       show (List.toArray (Lib.repeatL [48] _)) ++ _ = _
       rw [dP, Jy]; simp
     rw [this]; exact h σ' hx
end
end TwW
end
section
namespace TwW
open Go Tw Go.RowKit Go.Proofs.Tryz
def Cn : ByteArray := ⟨#[47]⟩
def kc : ByteArray := ⟨#[99]⟩
def ks : ByteArray := ⟨#[115]⟩
def cat (dir kind : ByteArray) : ByteArray := dir ++ Cn ++ kind
def AG (dir kind : ByteArray) (no : Nat) : ByteArray := cat dir kind ++ ⟨(Jy no).toArray⟩
def BC (dir : ByteArray) : ByteArray := dir ++ ⟨#[47, 110, 101, 119]⟩
def rest (s t : ByteArray) : List UInt8 := s.data.toList.drop t.size
def numOf (dir kind s : ByteArray) : Nat := if BR s (cat dir kind) = true ∧ (rest s (cat dir kind)).length = 8 ∧ (rest s (cat dir kind)).all DS = true then LN 0 (rest s (cat dir kind)) else 0
theorem DA (a b : ByteArray) : (a ++ b).data.toList = a.data.toList ++ b.data.toList := by rw [ByteArray.data_append, Array.toList_append]
theorem lj {a b : ByteArray} (h : a.data.toList = b.data.toList) : a = b := ByteArray.ext (Array.toList_inj.1 h)
theorem KW (dir kind : ByteArray) : (cat dir kind).data.toList = dir.data.toList ++ 47 :: kind.data.toList := by
 rw [cat, DA, DA]; simp [Cn]
theorem Cm (dir kind : ByteArray) (no : Nat) : (AG dir kind no).data.toList = (cat dir kind).data.toList ++ Jy no := by rw [AG, DA]
theorem Iz (s : ByteArray) : s.size = s.data.toList.length := rfl
theorem VC (dir kind : ByteArray) (no : Nat) : BR (AG dir kind no) (cat dir kind) = true ∧ rest (AG dir kind no) (cat dir kind) = Jy no := by
 refine ⟨?_, ?_⟩
 · rw [BR, Cm]; simp
 · rw [rest, Cm, Iz, List.drop_left]
theorem By {dir kind : ByteArray} {no : Nat} (h : no < 100000000) : numOf dir kind (AG dir kind no) = no := by
 have h1 := VC dir kind no
 rw [numOf, h1.1, h1.2, if_pos ⟨rfl, Iy h, KV no⟩, M3]
theorem EE {dir kind s : ByteArray} (h : 0 < numOf dir kind s) : s = AG dir kind (numOf dir kind s) ∧ numOf dir kind s < 100000000 := by
 unfold numOf at h ⊢
 split at h
 · rename_i hc
   rw [if_pos hc]
   have h8 := rr hc.2.1 hc.2.2
   refine ⟨lj ?_, h8.2⟩
   rw [Cm, h8.1]
   have hp : (cat dir kind).data.toList <+: s.data.toList := by simpa [BR] using hc.1
   obtain ⟨t, ht⟩ := hp
   rw [rest, ← ht, Iz, List.drop_left]
 · omega
theorem Ex {dir kind : ByteArray} {a b : Nat} (ha : a < 100000000) (hb : b < 100000000) (h : AG dir kind a = AG dir kind b) : a = b := by
 rw [← By (dir := dir) (kind := kind) ha, h, By hb]
theorem BL {dir : ByteArray} {a b : Nat} : AG dir kc a ≠ AG dir ks b := fun h => by
 have := congrArg (fun s : ByteArray => s.data.toList) h
 simp only [Cm, KW, List.append_assoc, List.append_cancel_left_eq] at this
 simp [kc, ks] at this
theorem Bq {dir kind : ByteArray} {a : Nat} (hk : kind = kc ∨ kind = ks) : BC dir ≠ AG dir kind a := fun h => by
 have := congrArg (fun s : ByteArray => s.data.toList) h
 simp only [BC, Cm, KW, DA, List.append_assoc, List.append_cancel_left_eq] at this
 rcases hk with rfl | rfl <;> simp [kc, ks] at this
theorem I0 {dir s : ByteArray} (h : 0 < numOf dir kc s) : numOf dir ks s = 0 := by
 rcases Nat.eq_zero_or_pos (numOf dir ks s) with h0 | h0
 · exact h0
 · exact absurd ((EE h).1.symm.trans (EE h0).1) BL
theorem Ku {dir kind : ByteArray} (hk : kind = kc ∨ kind = ks) : numOf dir kind (BC dir) = 0 := by
 rcases Nat.eq_zero_or_pos (numOf dir kind (BC dir)) with h0 | h0
 · exact h0
 · exact absurd (EE h0).1 (Bq hk)
def CL (dir : ByteArray) : Bool := Ae dir && decide (dir.size ≤ 32)
theorem ru {b : UInt8} (h : DS b = true) : fW b = true := by
 have h2 : (decide (48 ≤ b.toNat) && decide (b.toNat ≤ 57)) = true := h
 unfold fW
 rw [h2]; simp only [Bool.or_true, Bool.true_or]
theorem FM {dir kind : ByteArray} {no : Nat} (hd : CL dir = true) (hk : kind = kc ∨ kind = ks) (hn : no < 100000000) : Ae (AG dir kind no) = true := by
 simp only [CL, Ae, Bool.and_eq_true, decide_eq_true_eq] at hd
 obtain ⟨⟨⟨h1, h2⟩, h3⟩, h4⟩ := hd
 have hl : (AG dir kind no).size = dir.size + 10 := by
   rw [Iz, Cm, KW, List.length_append, List.length_append, Iy hn, List.length_cons]
   rcases hk with rfl | rfl <;> rfl
 have ha : (AG dir kind no).data.toList.all fW = true := by
   rw [Cm, KW, List.all_append, List.all_append, h3]
   have hd : (Jy no).all fW = true := by
     have := KV no
     rw [List.all_eq_true] at this ⊢
     exact fun x hx => ru (this x hx)
   rw [hd]
   rcases hk with rfl | rfl <;> rfl
 simp only [Ae, ha, hl, Bool.and_true, Bool.and_eq_true, decide_eq_true_eq]
 omega
theorem rv {dir : ByteArray} (hd : CL dir = true) : Ae (BC dir) = true := by
 simp only [CL, Ae, Bool.and_eq_true, decide_eq_true_eq] at hd
 obtain ⟨⟨⟨h1, h2⟩, h3⟩, h4⟩ := hd
 have hl : (BC dir).size = dir.size + 4 := by rw [Iz, BC, DA, List.length_append]; rfl
 have ha : (BC dir).data.toList.all fW = true := by
   rw [BC, DA, List.all_append, h3]; rfl
 simp only [Ae, ha, hl, Bool.and_true, Bool.and_eq_true, decide_eq_true_eq]
 omega
section
variable {σ : Hp} {R : Rr}
theorem DI {b : Nat} {dir kind : ByteArray} {no : Nat} (hl : σ.ld ⟨b, 0 + 1, none⟩ = some (.string dir)) (hd : dir.size ≤ 32) (hk : kind = kc ∨ kind = ks) (hn : no < 100000000) (ht : Tb σ)
   (h : ∀ σ', Ext σ σ' → R (.returned (.string (AG dir kind no))) σ') : Spec prog 134 #[.pointer (some ⟨b, 0, none⟩), .string kind, .int .i64 no] σ R := by
 have Xk : kind.size = 1 := by rcases hk with rfl | rfl <;> rfl
 have R6 : (Cn).size = 1 := rfl
 refine Mp.start ⟨b, 0, rfl, dir, hl, ?_, ?_, fun Nv h15 => ?_⟩
 · show dir.size + Cn.size ≤ _; rw [R6]; omega
 · rw [ByteArray.size_append, Xk]; show dir.size + Cn.size + 1 ≤ _; rw [R6]; omega
 · have e15 : Nv = (no : Int) := by rw [h15]; simp [IntKind.wrap, IntKind.bits, IntKind.signed]; omega
   subst e15
   refine lh hn ht fun σ' hx => ⟨_, rfl, Kp.CG hx, ?_, ?_⟩
   · have : (ByteArray.size ⟨(Jy no).toArray⟩) = 8 := by
       show (Jy no).toArray.size = 8
       rw [List.size_toArray, Iy hn]
     rw [ByteArray.size_append, ByteArray.size_append, this, Xk]; show dir.size + Cn.size + 1 + 8 ≤ _; rw [R6]; omega
   · exact h σ' hx
theorem Q4 {b : Nat} {dir : ByteArray} (hl : σ.ld ⟨b, 0 + 1, none⟩ = some (.string dir)) (hd : dir.size ≤ 32) (h : R (.returned (.string (BC dir))) σ) : Spec prog 229 #[.pointer (some ⟨b, 0, none⟩)] σ R := by
 refine Lm.start ⟨b, 0, rfl, dir, hl, ?_, h⟩
 have : ByteArray.size ⟨#[47, 110, 101, 119]⟩ = 4 := rfl
 rw [this]; omega
theorem Oo : ∀ (l : List UInt8) (a : Nat), l.all DS = true → Lib.decFrom a l = some (LN a l)
 | [], a, _ => rfl
 | b :: l, a, h => by
   simp only [List.all_cons, Bool.and_eq_true] at h
   have hb := h.1
   simp [DS] at hb
   rw [Lib.decFrom, Lib.digitVal, if_pos hb]
   simp only
   rw [Oo l _ h.2, Dx]
theorem lk {l : List UInt8} (h0 : l ≠ []) (h : l.all DS = true) : Lib.atoi l = some (LN 0 l : Nat) := by
 match l, h0 with
 | b :: r, _ =>
   have hb := h
   simp only [List.all_cons, Bool.and_eq_true] at hb
   have hb := hb.1
   simp [DS] at hb
   have n1 : (b == 45) = false := by
     rw [beq_eq_false_iff_ne]; intro e; subst e; simp at hb
   have n2 : (b == 43) = false := by
     rw [beq_eq_false_iff_ne]; intro e; subst e; simp at hb
   simp only [Lib.atoi, n1, n2, Lib.decNat, List.isEmpty_cons, Oo _ 0 h]
   rfl
theorem KX {b : Nat} {dir kind s : ByteArray} (hl : σ.ld ⟨b, 0 + 1, none⟩ = some (.string dir)) (hd : dir.size ≤ 32) (hk : kind = kc ∨ kind = ks)
   (h : R (.returned (.int .i64 (numOf dir kind s))) σ) : Spec prog 257 #[.pointer (some ⟨b, 0, none⟩), .string kind, .string s] σ R := by
 have Xk : kind.size = 1 := by rcases hk with rfl | rfl <;> rfl
 have R6 : (Cn).size = 1 := rfl
 refine C1.start ⟨b, 0, rfl, dir, hl, ?_, ?_, fp (fun hf => ⟨_, _, rfl, fun _ => ?_, fun hh => (by cases hh)⟩) fun ht => ⟨_, _, rfl, fun hh => (by cases hh), fun _ => ⟨fun h8 => ?_, fun h8 => ?_⟩⟩⟩
 · show dir.size + Cn.size ≤ _; rw [R6]; omega
 · rw [ByteArray.size_append, Xk]; show dir.size + Cn.size + 1 ≤ _; rw [R6]; omega
 · have Vu : BR s (cat dir kind) = false := hf
   have : numOf dir kind s = 0 := by simp [numOf, Vu]
   rw [this] at h; exact h
 all_goals
   have ht' : BR s (cat dir kind) = true := ht
   have hr : (s.extract (cat dir kind).size s.size).data.toList = rest s (cat dir kind) := by
     rw [XV, rest, List.take_of_length_le (by rw [List.length_drop]; exact Nat.le_refl _)]
   have Ee : (s.extract (cat dir kind).size s.size).size = (rest s (cat dir kind)).length := by rw [Iz, hr]
 · have : numOf dir kind s = 0 := by
     have : (rest s (cat dir kind)).length ≠ 8 := fun e => h8 (by show ((s.extract (cat dir kind).size s.size).size : Int) = 8; rw [Ee, e]; rfl)
     simp [numOf, this]
   rw [this] at h; exact h
 · have hlen : (rest s (cat dir kind)).length = 8 := by
     have : ¬ (((s.extract (cat dir kind).size s.size).size : Int) ≠ 8) := h8
     rw [Ee] at this; omega
   show C1.LL R (s.extract (cat dir kind).size s.size) 0 σ
   generalize s.extract (cat dir kind).size s.size = t at hr Ee
   have bad : (∃ (k : Nat) (u : UInt8), (rest s (cat dir kind))[k]? = some u ∧ DS u = false) → R (.returned (.int .i64 0)) σ := fun ⟨k, u, hu, hdg⟩ => by
     have E5 : (rest s (cat dir kind)).all DS = false := by
       rw [List.all_eq_false]
       exact ⟨u, List.mem_of_getElem? hu, by simp [hdg]⟩
     have : numOf dir kind s = 0 := by simp [numOf, E5]
     rw [this] at h; exact h
   suffices H : ∀ d k : Nat, 8 - k = d → k ≤ 8 → ((rest s (cat dir kind)).take k).all DS = true → C1.LL R t k σ from H 8 0 rfl (by omega) rfl
   intro d
   induction d with
   | zero =>
     intro k hd hk E5
     rw [List.take_of_length_le (by omega)] at E5
     refine C1.Pt ⟨fun hh => by omega, fun _ => ?_⟩
     have yr : numOf dir kind s = LN 0 (rest s (cat dir kind)) := by rw [numOf, if_pos ⟨ht', hlen, E5⟩]
     rw [yr] at h
     refine Spec.below (v := .tuple #[.int .i64 (LN 0 (rest s (cat dir kind)) : Nat), .nilIface]) (fun w _ => (Go.Proofs.Tryz.strconv_Atoi t _ (by omega) (by rw [hr]; exact lk (fun e => by rw [e] at hlen; cases hlen) E5) w).mono ?_) ⟨_, _, rfl, h⟩
     rintro e w' ⟨he, t', hw⟩
     exact ⟨he, hw ▸ Go.Joins.below_bytesWorld _ _ _ _ (Nat.le_refl _)⟩
   | succ d ih =>
     intro k hd hk E5
     obtain ⟨u, hu⟩ : ∃ u, (rest s (cat dir kind))[k]? = some u := ⟨_, List.getElem?_eq_getElem (by omega)⟩
     have Y3 : t.data[Int.toNat (k : Int)]? = some u := by
       rw [← hr] at hu
       simpa using hu
     refine C1.Pt ⟨fun _ => ⟨u, by omega, Y3, fun R8 => bad ⟨k, u, hu, by simp [DS]; omega⟩, fun R8 => ⟨u, by omega, Y3, fun hhi => bad ⟨k, u, hu, by simp [DS]; omega⟩, fun hhi => ⟨by unfold AO; omega, ih (k + 1) (by omega) (by omega) ?_⟩⟩⟩, fun hh => by omega⟩
     rw [AR hu, List.all_append, E5]
     simp [DS]; omega
end
end TwW
end
section
namespace TwW
open Go Tw Go.RowKit Go.Proofs.Tryz
abbrev bX (code : Int) : List PanicEntry := [{ v := .iface 295 (.agg #[.int .i64 code]), recovered := false }]
theorem ry (w : World) : (binOp BinOp.neq 20 .nilIface .nilIface).run prog w = .ok (.bool false) w := by kernel_rfl
theorem ll (c : Int) (w : World) : (binOp BinOp.neq 20 (.iface 295 (.agg #[.int .i64 c])) .nilIface).run prog w = .ok (.bool true) w := by kernel_rfl
theorem aJ (p : Addr) (w : World) :
   CallsD prog 220 #[.pointer (some p)] .returning w fun e u' w' => e = .returned (.tuple #[]) ∧ u' = .returning ∧ w' = w := by
 refine callsD_of_wpS func220 rfl fun c₀ cs hu => ?_
 apply wpS_seq
 apply wpS_region
 simp [wpOpsS, go_sem, recoverD, hu, Exit.thenS]
 apply wpS_seq
 apply wpS_region
 simp [wpOpsS, go_sem, Exit.thenS, ry]
 refine wpS_cond (t := false) (by simp [Act.eval, Array.replicate, ntmps220]) ?_
 simp only [Bool.false_eq_true, if_false]
 refine wpS_of_wp (wp_skip ?_)
 cases c₀
 simp_all [bodyPostS, results, results220, Exit.thenS]
theorem lq (c : Int) (w : World) : (Instr.typeAssert (.iface 295 (.agg #[.int .i64 c])) 20 295 true).run prog w = .ok (.tuple #[.agg #[.int .i64 c], .bool true]) w := by
 simp [Instr.typeAssert, run_underlying underlying295]
theorem aK (b : Nat) (code : Int) (w : World) {x : Value} {T : TypeId} (hb : w.heap[b]? = some (.cells #[x] T (0, 0))) :
   CallsD prog 220 #[.pointer (some ⟨b, 0, none⟩)] (.panicking (bX code)) w fun e u' w' => e = .returned (.tuple #[]) ∧ u' = .panicking [{ v := .iface 295 (.agg #[.int .i64 code]), recovered := true }] ∧
     w' = (w.alloc (.cells #[.int .i64 code] 295)).setCell ⟨b, 0, none⟩ (.int .i64 code) := by
 have Ag : b < w.heap.size := (Array.getElem?_eq_some_iff.1 hb).1
 have hh : (w.alloc (.cells #[.int .i64 code] 295)).heap[b]? = some (.cells #[x] T (0, 0)) := by
   have e : (w.alloc (.cells #[.int .i64 code] 295)).heap = w.heap.push (.cells #[.int .i64 code] 295) := rfl
   rw [e, Array.getElem?_push, if_neg (by omega)]; exact hb
 have hc : (w.alloc (.cells #[.int .i64 code] 295)).cell? ⟨b, 0, none⟩ = some x := by simp only [World.cell?, hh]; rfl
 have hfz : (w.alloc (.cells #[.int .i64 code] 295)).frozen? ⟨b, 0, none⟩ = false := by simp only [World.frozen?, hh]; rfl
 refine callsD_of_wpS func220 rfl fun c₀ cs hu => ?_
 apply wpS_seq
 apply wpS_region
 simp [wpOpsS, go_sem, recoverD, hu, Exit.thenS]
 apply wpS_seq
 apply wpS_region
 simp [wpOpsS, go_sem, Exit.thenS, ll]
 refine wpS_cond (t := true) (by simp [Act.eval, Array.replicate, ntmps220]) ?_
 simp only [if_true]
 apply wpS_seq
 apply wpS_region
 simp [wpOpsS, go_sem, Exit.thenS, lq]
 apply wpS_seq
 apply wpS_seq
 apply wpS_region
 simp [wpOpsS, go_sem, Exit.thenS]
 refine wpS_cond (t := false) (by simp [Act.eval, Array.replicate, ntmps220]) ?_
 simp only [Bool.false_eq_true, if_false]
 refine wpS_of_wp (wp_skip ?_)
 simp only [Exit.thenS]
 apply wpS_region
 simp [wpOpsS, go_sem, Exit.thenS, hc, hfz]
 simp [bodyPostS, results, results220]
theorem Q5 {w : World} {b : Nat} {x v : Value} {T : TypeId} (h : w.heap[b]? = some (.cells #[x] T (0, 0))) : (w.setCell ⟨b, 0, none⟩ v).heap[b]? = some (.cells #[v] T (0, 0)) ∧ ∀ k, k ≠ b → (w.setCell ⟨b, 0, none⟩ v).heap[k]? = w.heap[k]? := by
 have Ag : b < w.heap.size := (Array.getElem?_eq_some_iff.1 h).1
 refine ⟨?_, fun k hk => ?_⟩
 · simp only [World.setCell, Array.getElem?_modify, if_true, h]; rfl
 · simp only [World.setCell, Array.getElem?_modify, if_neg (Ne.symm hk)]
theorem gD (f : Nat) (cap : Array Value) (w : World) (J8 : ∀ w, (callFunc f cap).run prog w = .ok (.enter f cap) w) {R : Ending → World → Prop} (h : Calls prog f cap (w.alloc (.cells #[.int .i64 0] 67)) fun e w' => w'.heap[w.heap.size]? = some (.cells #[.int .i64 0] 67 (0, 0)) ∧
     ((e = .returned (.tuple #[]) ∧ R (.returned (.int .i64 0)) (w'.setCell ⟨w.heap.size, 0, none⟩ (.int .i64 0))) ∨ (∃ code, e = .panicked (bX code) ∧ R (.returned (.int .i64 code)) ((w'.alloc (.cells #[.int .i64 code] 295)).setCell ⟨w.heap.size, 0, none⟩ (.int .i64 code))))) :
   Calls prog 129 #[.func (.func f) #[] cap] w R := by
 have hmf : ∀ (fn : Fn) (first cap : Array Value) (w : World), (Instr.makeFunc fn first cap).run prog w = .ok (.func fn first cap) w := fun _ _ _ _ => rfl
 go_enter_defers func129, ntmps129
 go_wp2
 rename_i K1 ha1 K2 ha2
 refine h.mono ?_
 rintro e w' ⟨Fe, ⟨rfl, hR⟩ | ⟨code, rfl, hR⟩⟩
 · have hc : w'.cell? ⟨w.heap.size, 0, none⟩ = some (.int .i64 0) := by simp only [World.cell?, Fe]; rfl
   have hfz : w'.frozen? ⟨w.heap.size, 0, none⟩ = false := by simp only [World.frozen?, Fe]; rfl
   apply ha2
   simp only [wpList, Exit.then]
   apply ha1
   go_wp2
   have UW : (w'.setCell ⟨w.heap.size, 0, none⟩ (.int .i64 0)).cell? ⟨w.heap.size, 0, none⟩ = some (.int .i64 0) := by simp only [World.cell?, (Q5 Fe).1]; rfl
   simp only [bodyPostD]
   refine leaves_cons (f := 220) (args := #[.pointer (some ⟨w.heap.size, 0, none⟩)]) (by simp) (by simp [go_sem]) ?_
   refine (aJ ⟨w.heap.size, 0, none⟩ _).mono ?_
   rintro e u' vu ⟨rfl, rfl, rfl⟩
   simp [Leaves, settle, results, results129, go_sem, UW]
   exact hR
 · simp only [bodyPostD]
   refine leaves_cons (f := 220) (args := #[.pointer (some ⟨w.heap.size, 0, none⟩)]) (by simp) (by simp [go_sem]) ?_
   refine (aK w.heap.size code w' Fe).mono ?_
   rintro e u' vu ⟨rfl, rfl, rfl⟩
   have hh : (w'.alloc (.cells #[.int .i64 code] 295)).heap[w.heap.size]? = some (.cells #[.int .i64 0] 67 (0, 0)) := by
     have Ag : w.heap.size < w'.heap.size := (Array.getElem?_eq_some_iff.1 Fe).1
     have e : (w'.alloc (.cells #[.int .i64 code] 295)).heap = w'.heap.push (.cells #[.int .i64 code] 295) := rfl
     rw [e, Array.getElem?_push, if_neg (by omega)]; exact Fe
   have UW : ((w'.alloc (.cells #[.int .i64 code] 295)).setCell ⟨w.heap.size, 0, none⟩ (.int .i64 code)).cell? ⟨w.heap.size, 0, none⟩ = some (.int .i64 code) := by simp only [World.cell?, (Q5 hh).1]; rfl
   simp [Leaves, settle, results, results129, go_sem, UW]
   exact hR
theorem KY {σ : Hp} {R : Rr} {f : Nat} {cap : Array Value} (J8 : Enters prog f)
   (h : Spec prog f cap σ fun e σ' => (e = .returned (.tuple #[]) ∧ R (.returned (.int .i64 0)) σ') ∨ ∃ code, e = .panicked (bX code) ∧ R (.returned (.int .i64 code)) σ') : Spec prog 129 #[.func (.func f) #[] cap] σ R := fun w F hs hF => by
 have Ee : (w.alloc (.cells #[.int .i64 0] 67)).heap.size = w.heap.size + 1 := by
   have e : (w.alloc (.cells #[.int .i64 0] 67)).heap = w.heap.push (.cells #[.int .i64 0] 67) := rfl
   rw [e]; simp
 have hold : ∀ k : Nat, k < w.heap.size → (w.alloc (.cells #[.int .i64 0] 67)).heap[k]? = w.heap[k]? := fun k hk => by
   have e : (w.alloc (.cells #[.int .i64 0] 67)).heap = w.heap.push (.cells #[.int .i64 0] 67) := rfl
   rw [e, Array.getElem?_push, if_neg (by omega)]
 have C8 : (w.alloc (.cells #[.int .i64 0] 67)).heap[w.heap.size]? = some (.cells #[.int .i64 0] 67 (0, 0)) := by
   have e : (w.alloc (.cells #[.int .i64 0] 67)).heap = w.heap.push (.cells #[.int .i64 0] 67) := rfl
   rw [e]; simp
 have Ag : ∀ b o, σ b = some o → b < w.heap.size := fun b o hb => (Array.getElem?_eq_some_iff.1 (hs b o hb)).1
 refine gD f cap w (fun w => J8 cap w) ((h (w.alloc (.cells #[.int .i64 0] 67)) (fun k => F k ∨ k = w.heap.size) (fun b o hb => by rw [hold b (Ag b o hb)]; exact hs b o hb) (fun k hk => ?_)).mono ?_)
 · rw [Ee]
   rcases hk with hk | rfl
   · exact ⟨by have := (hF k hk).1; omega, (hF k hk).2⟩
   · exact ⟨by omega, DM hs⟩
 · rintro e w' ⟨σ', hr, hf⟩
   have hp := hf.C7 w.heap.size (.inr rfl)
   have Fe := hp.2.trans C8
   have key : ∀ (w2 : World) (v : Value), w2.heap[w.heap.size]? = some (.cells #[.int .i64 0] 67 (0, 0)) → (∀ (k : Nat) (o : Obj), w'.heap[k]? = some o → w2.heap[k]? = some o) → (∀ k : Nat, k < w'.heap.size → w2.heap[k]? = w'.heap[k]?) → w'.heap.size ≤ w2.heap.size → w2.os = w'.os → w2.tape = w'.tape → w2.output = w'.output →
       Fin σ' F w (w2.setCell ⟨w.heap.size, 0, none⟩ v) := by
     intro w2 v h1 h2 fg h3 h4 h5 h6
     have ZG := Q5 (v := v) h1
     refine ⟨fun b o hb => ?_, fun k hk => ?_, ⟨h4.trans hf.os.1, h5.trans hf.os.2.1, fun h => h.elim⟩, h6.trans hf.out, ?_⟩
     · have Ad : b ≠ w.heap.size := fun e => by rw [e, hp.1] at hb; cases hb
       rw [ZG.2 b Ad]; exact h2 b o (hf.sat b o hb)
     · have iQ := (hF k hk).1
       have Ad : k ≠ w.heap.size := by omega
       have rb := hf.C7 k (.inl hk)
       refine ⟨rb.1, ?_⟩
       rw [ZG.2 k Ad, fg k (by have := hf.grow; rw [Ee] at this; omega), rb.2, hold k iQ]
     · have := hf.grow
       rw [Ee] at this
       have e : (w2.setCell ⟨w.heap.size, 0, none⟩ v).heap.size = w2.heap.size := by simp [World.setCell]
       omega
   refine ⟨Fe, ?_⟩
   rcases hr with ⟨rfl, hr⟩ | ⟨code, rfl, hr⟩
   · exact .inl ⟨rfl, σ', hr, key w' _ Fe (fun k o h => h) (fun k _ => rfl) (Nat.le_refl _) rfl rfl rfl⟩
   · have e : (w'.alloc (.cells #[.int .i64 code] 295)).heap = w'.heap.push (.cells #[.int .i64 code] 295) := rfl
     have hg : ∀ k : Nat, k < w'.heap.size → (w'.alloc (.cells #[.int .i64 code] 295)).heap[k]? = w'.heap[k]? := fun k hk => by rw [e, Array.getElem?_push, if_neg (by omega)]
     have AE2 : w.heap.size < w'.heap.size := (Array.getElem?_eq_some_iff.1 Fe).1
     exact .inr ⟨code, rfl, σ', hr, key _ _ (by rw [hg _ AE2]; exact Fe) (fun k o h => by rw [hg k (Array.getElem?_eq_some_iff.1 h).1]; exact h) hg (by rw [e]; simp) rfl rfl rfl⟩
end TwW
end
section
namespace TwW
open Go Tw Go.RowKit Go.Proofs.Tryz
structure Wl where
 dir : ByteArray
 check : Nat
 AP : List Nat
 opn : Nat
 size : Nat
abbrev JI (l : List Nat) : List Int := l.map fun (n : Nat) => (n : Int)
abbrev rz (d : Nat) (W : Wl) (p : Option Addr) (n c : Nat) : Array Value := #[.pointer (some ⟨d, 0, none⟩), .string W.dir, .int .i64 W.check, .slice p n c, .int .i64 W.opn, .int .i64 W.size]
structure Fh (σ : Hp) (b d : Nat) (W : Wl) (S : List Nat) (p : Option Addr) (c : Nat) (T : TypeId) : Prop where
 Ek : S = b :: DJ p
 out : b ∉ DJ p
 obj : σ b = some (.cells (rz d W p W.AP.length c) T (0, 0))
 own : AS .i64 σ p W.AP.length c (JI W.AP)
section
variable {σ σ' τ τ' : Hp} {b d : Nat} {W : Wl} {S Sd : List Nat} {p : Option Addr} {c : Nat} {T : TypeId} {D : Dk}
theorem Fh.known (h : Fh σ b d W S p c T) : ∀ k ∈ S, σ k ≠ none := by
 intro k hk
 rw [h.Ek] at hk
 rcases List.mem_cons.1 hk with rfl | hk
 · rw [h.obj]; simp
 · cases p with
   | none => cases hk
   | some a => simp [DJ] at hk; subst hk; exact h.own.block a rfl
theorem Fh.loc (h : Fh σ b d W S p c T) (hs : ∀ k ∈ S, σ' k = σ k) : Fh σ' b d W S p c T := by
 have hf := h.Ek
 subst hf
 exact ⟨rfl, h.out, (hs b (by simp)).trans h.obj, Own.loc h.own fun k hk => hs k (by simp [hk])⟩
theorem Fh.mono (h : Fh σ b d W S p c T) (hx : Ext σ σ') : Fh σ' b d W S p c T := h.loc fun k hk => by
 cases hs : σ k with
 | none => exact absurd hs (h.known k hk)
 | some o => exact hx k o hs
theorem Fh.vC (h : Fh σ b d W S p c T) : b ∈ S := by rw [h.Ek]; simp
def Ai (σ : Hp) (d : Nat) (D : Dk) (τ : Hp) : Prop := ∃ S, A3 σ d D S ∧ Ext τ (σ.off S)
def Aj (σ : Hp) (d b : Nat) (D : Dk) (W : Wl) (τ : Hp) : Prop := ∃ Sd S p c T, A3 σ d D Sd ∧ Fh (σ.off Sd) b d W S p c T ∧ Ext τ ((σ.off Sd).off S)
theorem Ai.names (h : Ai σ d D τ) : ∀ s, (D.files s).isSome = true → Ae s = true := let ⟨_, h1, _⟩ := h; h1.names
theorem Ai.ext (h : Ai σ d D τ) : Ext τ σ := let ⟨S, _, h2⟩ := h; h2.trans (Ext.CJ _ _)
theorem Aj.ext (h : Aj σ d b D W τ) : Ext τ σ := let ⟨_, _, _, _, _, _, _, h3⟩ := h; h3.trans ((Ext.CJ _ _).trans (Ext.CJ _ _))
theorem Ai.EW (h : Ai σ d D τ) (hx : Ext τ' τ) : Ai σ d D τ' := let ⟨S, h1, h2⟩ := h; ⟨S, h1, hx.trans h2⟩
theorem Aj.EW (h : Aj σ d b D W τ) (hx : Ext τ' τ) : Aj σ d b D W τ' := let ⟨Sd, S, p, c, T, h1, h2, h3⟩ := h; ⟨Sd, S, p, c, T, h1, h2, hx.trans h3⟩
theorem Aj.gE (h : Aj σ d b D W τ) : Ai σ d D τ := let ⟨Sd, S, p, c, T, h1, h2, h3⟩ := h; ⟨Sd, h1, h3.trans (Ext.CJ _ _)⟩
theorem Ai.grow (h : Ai σ d D τ) (hx : Ext σ σ') : ∃ τ', Ai σ' d D τ' ∧ Ext τ τ' ∧ Ext (σ.new σ') τ' := by
 obtain ⟨S, h1, h2⟩ := h
 refine ⟨σ'.off S, ⟨S, h1.mono hx, Ext.refl _⟩, h2.trans (hx.off S), fun k o hk => ?_⟩
 obtain ⟨h3, h4⟩ := AQ.1 hk
 exact Hp.AH.2 ⟨fun hs => h1.known k hs h3, h4⟩
theorem Aj.grow (h : Aj σ d b D W τ) (hx : Ext σ σ') : ∃ τ', Aj σ' d b D W τ' ∧ Ext τ τ' ∧ Ext (σ.new σ') τ' := by
 obtain ⟨Sd, S, p, c, T, h1, h2, h3⟩ := h
 refine ⟨(σ'.off Sd).off S, ⟨Sd, S, p, c, T, h1.mono hx, h2.mono (hx.off Sd), Ext.refl _⟩, h3.trans ((hx.off Sd).off S), fun k o hk => ?_⟩
 obtain ⟨h4, h5⟩ := AQ.1 hk
 refine Hp.AH.2 ⟨fun hs => ?_, Hp.AH.2 ⟨fun hs => h1.known k hs h4, h5⟩⟩
 have := h2.known k hs
 exact this (Hp.KB h4)
theorem Aj.mono (h : Aj σ d b D W τ) (hx : Ext σ σ') : Aj σ' d b D W τ := let ⟨_, h1, h2, _⟩ := h.grow hx; h1.EW h2
theorem Ai.mono (h : Ai σ d D τ) (hx : Ext σ σ') : Ai σ' d D τ := let ⟨_, h1, h2, _⟩ := h.grow hx; h1.EW h2
theorem Aj.box {k : Nat} {o : Obj} (h : Aj σ d b D W τ) (hk : σ k = none) : ∃ τ', Aj (σ.set k o) d b D W τ' ∧ Ext τ τ' ∧ τ' k = some o := by
 obtain ⟨τ', h1, h2, h3⟩ := h.grow (.set hk (o := o))
 exact ⟨τ', h1, h2, h3 k o (AQ.2 ⟨hk, Hp.AA _ _ _⟩)⟩
theorem Ai.box {k : Nat} {o : Obj} (h : Ai σ d D τ) (hk : σ k = none) : ∃ τ', Ai (σ.set k o) d D τ' ∧ Ext τ τ' ∧ τ' k = some o := by
 obtain ⟨τ', h1, h2, h3⟩ := h.grow (.set hk (o := o))
 exact ⟨τ', h1, h2, h3 k o (AQ.2 ⟨hk, Hp.AA _ _ _⟩)⟩
theorem Aj.step {D' : Dk} {S S' : List Nat} (h1 : Fh (σ.off Sd) b d W S p c T) (h2 : Ext τ ((σ.off Sd).off S)) (hd : A3 σ' d D' S') (hx : Ext (σ.off Sd) (σ'.off S')) : Aj σ' d b D' W τ :=
 ⟨S', S, p, c, T, hd, h1.mono hx, h2.trans (hx.off S)⟩
structure ALW (σ : Hp) (d b : Nat) (D : Dk) (W : Wl) : Prop where
 ptr : σ.ld ⟨b, 0, none⟩ = some (.pointer (some ⟨d, 0, none⟩))
 dir : σ.ld ⟨b, 0 + 1, none⟩ = some (.string W.dir)
 check : σ.ld ⟨b, 0 + 2, none⟩ = some (.int .i64 W.check)
 AP : ∃ p c, W.AP.length ≤ c ∧ σ.ld ⟨b, 0 + 3, none⟩ = some (.slice p W.AP.length c) ∧ CA .i64 σ p W.AP.length (JI W.AP)
 opn : σ.ld ⟨b, 0 + 4, none⟩ = some (.int .i64 W.opn)
 size : σ.ld ⟨b, 0 + 5, none⟩ = some (.int .i64 W.size)
theorem Aj.rd (h : Aj σ d b D W τ) : ALW σ d b D W := by
 obtain ⟨Sd, S, p, c, T, h1, h2, h3⟩ := h
 have h2 := h2.mono (Ext.CJ _ _)
 exact ⟨AD h2.obj rfl, AD h2.obj rfl, AD h2.obj rfl, ⟨p, c, Own.cap h2.own, AD h2.obj rfl, h2.own.rd⟩, AD h2.obj rfl, AD h2.obj rfl⟩
theorem Aj.st {W' : Wl} {i : Nat} {x : Int} {Φ : Unit → Hp → Prop} (h : Aj σ d b D W τ) (hi : i + 1 ≤ 6) (hs : W'.AP = W.AP)
   (hw : ∀ p n c, DX (rz d W p n c) i [Value.int .i64 x] = rz d W' p n c) (hΦ : ∀ σ', Aj σ' d b D W' τ → Φ () σ') : AJ prog (Instr.storeAt 3 (.pointer (some ⟨b, i, none⟩)) (.int .i64 x)) σ Φ := by
 obtain ⟨Sd, S, p, c, T, h1, h2, h3⟩ := h
 have hb := Hp.AH.1 h2.obj
 refine AJ.store (v := .int .i64 x) Hr hb.2 rfl (by simp; omega) (by simp [Value.cells, Value.oneCell']) ?_
 refine hΦ _ ⟨Sd, S, p, c, T, h1.loc fun k hk => Hp.AF fun e => hb.1 (e ▸ hk), ?_, ?_⟩
 · rw [Hp.FB hb.1]
   refine ⟨h2.Ek, h2.out, by rw [Hp.AA, hs]; exact congrArg (fun a => some (Obj.cells a T (0, 0))) (hw p _ c), ?_⟩
   rw [hs]
   exact Own.loc h2.own fun k hk => Hp.AF fun e => h2.out (e ▸ hk)
 · rw [Hp.FB hb.1, Hp.Gj h2.vC]; exact h3
theorem lr : ∀ w, (Go.sizeOf 26).run prog w = .ok 1 w := fun w => by
 have h : prog.info? 26 = some t26 := by kernel_rfl
 simp [Go.sizeOf, typeInfo, h, show t26.size = 1 from rfl]
theorem Aj.cut {p' : Option Addr} {n' c' : Nat} {l : List Nat} {Φ : Unit → Hp → Prop} (h : Aj σ d b D W τ) (hl : l.length = n')
   (hp : ∀ p c, σ.ld ⟨b, 0 + 3, none⟩ = some (.slice p W.AP.length c) → DJ p' = DJ p ∧ ∀ ρ, AS .i64 ρ p W.AP.length c (JI W.AP) → AS .i64 ρ p' n' c' (JI l))
   (hΦ : ∀ σ', Aj σ' d b D { W with AP := l } τ → Φ () σ') : AJ prog (Instr.storeAt 26 (.pointer (some ⟨b, 0 + 3, none⟩)) (.slice p' n' c')) σ Φ := by
 obtain ⟨Sd, S, p, c, T, h1, h2, h3⟩ := h
 have hb := Hp.AH.1 h2.obj
 obtain ⟨e1, e2⟩ := hp p c (AD hb.2 rfl)
 refine AJ.store (v := .slice p' n' c') lr hb.2 rfl (by simp) (by simp [Value.cells, Value.oneCell']) ?_
 refine hΦ _ ⟨Sd, S, p', c', T, h1.loc fun k hk => Hp.AF fun e => hb.1 (e ▸ hk), ?_, ?_⟩
 · rw [Hp.FB hb.1]
   refine ⟨by rw [e1]; exact h2.Ek, by rw [e1]; exact h2.out, by rw [Hp.AA]; subst hl; rfl, ?_⟩
   have := e2 _ h2.own
   subst hl
   exact Own.loc this fun k hk => Hp.AF fun e => h2.out (by rw [← e1]; exact e ▸ hk)
 · rw [Hp.FB hb.1, Hp.Gj h2.vC]; exact h3
theorem Aj.app {k : Nat} {p : Option Addr} {n c NS : Nat} {Φ : Unit → Hp → Prop} (h : Aj σ d b D W τ) (hp : σ.ld ⟨b, 0 + 3, none⟩ = some (.slice p n c)) (Fy : W.AP.length ≤ 67108864) (hn : σ NS = none) {K : Hp → Hp → Prop}
   (hK : ∀ σ', Ext τ σ' → K (σ.set NS (.cells #[.int .i64 k] 3 (0, 0))) σ')
   (hΦ : ∀ σ', Aj σ' d b D { W with AP := W.AP ++ [k] } τ → Φ () σ') :
   AJ prog (Builtin.append_ #[26, 26] 26 #[.slice p n c, .slice (some ⟨NS, 0, none⟩) 1 1]) (σ.set NS (.cells #[.int .i64 k] 3 (0, 0))) (fun v σ1 => ∃ p' n' c', v = .slice p' n' c' ∧ K (σ.set NS (.cells #[.int .i64 k] 3 (0, 0))) σ1 ∧
     AJ prog (Instr.storeAt 26 (.pointer (some ⟨b, 0 + 3, none⟩)) (.slice p' n' c')) σ1 Φ) := by
 obtain ⟨Sd, S, p0, c0, T, h1, h2, h3⟩ := h
 have hb := Hp.AH.1 h2.obj
 have hpe : σ.ld ⟨b, 0 + 3, none⟩ = some (.slice p0 W.AP.length c0) := AD hb.2 rfl
 rw [hpe] at hp
 cases hp
 let σ1 : Hp := σ.set NS (.cells #[.int .i64 k] 3 (0, 0))
 have hx : Ext σ σ1 := .set hn
 have Pu := h1.mono hx
 have ZL := h2.mono (hx.off Sd)
 have h31 := h3.trans ((hx.off Sd).off S)
 have ALX : Gi 1 σ1 (some ⟨NS, 0, none⟩) 1 [.int .i64 k] := ⟨rfl, by omega, .inr ⟨NS, 0, rfl, AD (Hp.AA _ _ _) rfl, trivial⟩⟩
 have Aa : AS .i64 σ1 p W.AP.length c (JI W.AP) := ZL.own.mono (Ext.CJ _ _)
 refine MW (T := 26) Aa ALX (fun u hu => by simp at hu; subst hu; rfl) (by omega) fun p' c' σ2 B1 An _ => ?_
 rw [Hp.Dc, Hp.Dc] at An
 have keep : ∀ j o, j ∉ DJ p → σ1 j = some o → σ2 j = some o ∧ j ∉ DJ p' := fun j o h4 h5 => by
   have := Hp.AH.1 (An j o (Hp.AH.2 ⟨h4, h5⟩)); exact ⟨this.2, this.1⟩
 have hp0 : ∀ j ∈ Sd, j ∉ DJ p := fun j hj UQ => ZL.known j (by rw [ZL.Ek]; simp [UQ]) (Hp.Ef hj)
 have PN : A3 σ2 d D Sd := Pu.loc fun j hj => by
   cases hs : σ1 j with
   | none => exact absurd hs (Pu.known j hj)
   | some o => exact (keep j o (hp0 j hj) hs).1
 have ALY : ∀ j ∈ DJ p', j ∉ Sd := fun j hj hs => by
   cases R6 : σ1 j with
   | none => exact absurd R6 (Pu.known j hs)
   | some o => exact (keep j o (hp0 j hs) R6).2 hj
 have PR := Hp.AH.1 ZL.obj
 have HV := keep b _ ZL.out PR.2
 have hτ : Ext τ ((σ2.off Sd).off (b :: DJ p')) := fun j o hj => by
   have h4 := Hp.AH.1 (h31 j o hj)
   have h5 := Hp.AH.1 h4.2
   rw [ZL.Ek] at h4
   simp only [List.mem_cons, not_or] at h4
   have h6 := keep j o h4.1.2 h5.2
   exact Hp.AH.2 ⟨by simp [h4.1.1, h6.2], Hp.AH.2 ⟨h5.1, h6.1⟩⟩
 refine ⟨p', _, c', rfl, hK σ2 (hτ.trans ((Ext.CJ _ _).trans (Ext.CJ _ _))), ?_⟩
 refine AJ.store (v := .slice p' (W.AP.length + 1) c') lr HV.1 rfl (by simp) (by simp [Value.cells, Value.oneCell']) ?_
 refine hΦ _ ⟨Sd, b :: DJ p', p', c', T, PN.loc fun j hj => Hp.AF fun e => PR.1 (e ▸ hj), ?_, ?_⟩
 · rw [Hp.FB PR.1]
   refine ⟨rfl, HV.2, by rw [Hp.AA, List.length_append]; rfl, ?_⟩
   have Dl : AS .i64 σ2 p' (W.AP ++ [k]).length c' (JI (W.AP ++ [k])) := by simpa [AS] using B1
   have Pv : AS .i64 (σ2.off Sd) p' (W.AP ++ [k]).length c' (JI (W.AP ++ [k])) := Own.loc Dl fun j hj => Hp.BN (ALY j hj)
   exact Own.loc Pv fun j hj => Hp.AF fun e => HV.2 (e ▸ hj)
 · rw [Hp.FB PR.1, Hp.Gj (by simp)]; exact hτ
end
end TwW
end
section
namespace TwW
open Go Tw Go.RowKit Go.Proofs.Tryz
abbrev Bz := List (List Int)
abbrev Fs := ByteArray → Option Fl
def Good (rs : Bz) : Prop := ∀ r ∈ rs, r.length ≤ 65536 ∧ E8 r
theorem Good.short {rs : Bz} (h : Good rs) : M1 rs := fun r hr => (h r hr).1
theorem Good.nil : Good [] := fun r hr => by cases hr
theorem Good.append {rs ss : Bz} (h : Good rs) (g : Good ss) : Good (rs ++ ss) := fun r hr => (List.mem_append.1 hr).elim (h r) (g r)
theorem Good.take {rs : Bz} (h : Good rs) (k : Nat) : Good (rs.take k) := fun r hr => h r (List.mem_of_mem_take hr)
theorem BO {xs ys : List Int} (hx : E8 xs) (hy : E8 ys) : E8 (xs ++ ys) := fun a ha => (List.mem_append.1 ha).elim (hx a) (hy a)
theorem gF {r : List Int} (h : r.length ≤ 65536) (h8 : E8 r) : E8 (frame r) := by
 unfold frame
 refine BO (BO (KT 9 _ (by omega)) ?_) h8
 intro x hx
 simp only [Y6, List.mem_cons, List.not_mem_nil, or_false] at hx
 rcases hx with rfl | rfl | rfl | rfl <;> omega
theorem M4 : ∀ {rs : Bz}, Good rs → E8 (AU rs)
 | [], _ => fun x hx => by cases hx
 | r :: rs, h => by
   rw [B5]
   exact BO (gF (h r (by simp)).1 (h r (by simp)).2) (M4 fun x hx => h x (by simp [hx]))
theorem lu {xs : List Int} (h : E8 xs) (k : Nat) : E8 (xs.take k) := fun x hx => h x (List.mem_of_mem_take hx)
theorem gG {r : List Int} {j : Nat} (hr : r.length ≤ 65536) (hj : j < (frame r).length) : gA ((frame r).take j) := fun r' ⟨h1, rest, h2⟩ => by
 rw [List.drop_zero] at h2
 have h3 : frame r' ++ (rest ++ (frame r).drop j) = frame r := by rw [← List.append_assoc, ← h2, List.take_append_drop]
 have h4 : uv r'.length ++ (Y6 (Xd r') ++ (r' ++ (rest ++ (frame r).drop j))) = uv r.length ++ (Y6 (Xd r) ++ r) := by
   generalize rest ++ (frame r).drop j = Z at h3
   simpa [frame, List.append_assoc] using h3
 have h5 := (lU _ _ _ _ h4).1
 have h6 := congrArg List.length h2
 rw [List.length_append, Ew, h5, List.length_take] at h6
 rw [Ew] at hj h6
 omega
theorem Xl : ∀ (rs : Bz) (j : Nat), M1 rs → ∃ k t, k ≤ rs.length ∧ (AU rs).take j = AU (rs.take k) ++ t ∧ gA t ∧ ∀ m, m ≤ rs.length → (AU (rs.take m)).length ≤ j → m ≤ k
 | [], j, _ => ⟨0, [], Nat.le_refl _, by simp [AU], EV, fun m hm _ => hm⟩
 | r :: rs, j, hs => by
   by_cases hj : j < (frame r).length
   · refine ⟨0, (frame r).take j, Nat.zero_le _, by rw [B5, List.take_append_of_le_length (by omega)]; simp [AU], gG (hs r (by simp)) hj, fun m hm h => ?_⟩
     cases m with
     | zero => exact Nat.le_refl _
     | succ m =>
       rw [List.take_succ_cons, B5, List.length_append] at h
       omega
   · obtain ⟨k, t, h1, h2, h3, h4⟩ := Xl rs (j - (frame r).length) fun x hx => hs x (by simp [hx])
     refine ⟨k + 1, t, by simp; omega, ?_, h3, fun m hm h => ?_⟩
     · rw [B5, List.take_append, List.take_of_length_le (by omega), h2, List.take_succ_cons, B5, List.append_assoc]
     · cases m with
       | zero => omega
       | succ m =>
         rw [List.take_succ_cons, B5, List.length_append] at h
         have := h4 m (by simp at hm; exact hm) (by omega)
         omega
def Has (fs : Fs) (s : ByteArray) (x : List Int) : Prop := ∃ f, fs s = some f ∧ f.data = x
theorem Has.VD {fs : Fs} {s : ByteArray} {x : List Int} (h : Has fs s x) : (fs s).isSome = true := by obtain ⟨f, h, _⟩ := h; simp [h]
abbrev Sg := List (Nat × Bz)
def Ao (sg : Sg) : Bz := sg.flatMap (·.2)
theorem CD (a b : Sg) : Ao (a ++ b) = Ao a ++ Ao b := by simp [Ao]
theorem Ey (x : Nat × Bz) : Ao [x] = x.2 := by simp [Ao]
structure Shape (fs : Fs) (dir : ByteArray) (cnt check : Nat) (rc : Bz) (sg : Sg) (tail : List Int) : Prop where
 PT : 0 < check → Has fs (AG dir kc check) (AU rc)
 Xm : check = 0 → rc = []
 Y7 : ∀ s, (fs s).isSome = true → numOf dir kc s ≤ check
 aL : check ≤ cnt
 gt : ∀ x ∈ sg, check < x.1 ∧ x.1 ≤ cnt
 Jz : sg.Pairwise fun x y => x.1 < y.1
 dQ : ∀ s, (fs s).isSome = true → check < numOf dir ks s → ∃ x ∈ sg, x.1 = numOf dir ks s
 file : ∀ k x, sg[k]? = some x → Has fs (AG dir ks x.1) (AU x.2 ++ if k + 1 = sg.length then tail else [])
 vD : sg = [] → tail = []
 ALZ : gA tail
 Oq : Good rc
 Lt : ∀ x ∈ sg, Good x.2
 vE : E8 tail
def Kept (fs : Fs) (dir : ByteArray) (check : Nat) (sg : Sg) : Prop := (∀ f, 0 < check → fs (AG dir kc check) = some f → f.GY = f.data.length) ∧ ∀ k x, sg[k]? = some x → k + 1 < sg.length → ∀ f, fs (AG dir ks x.1) = some f → f.GY = f.data.length
def Xn (fs : Fs) (dir : ByteArray) (cnt : Nat) (told : Bz) (w : Bool) : Prop := ∃ check rc sg tail, Shape fs dir cnt check rc sg tail ∧ told = rc ++ Ao sg ∧ Kept fs dir check sg ∧ (w = true → tail = [])
abbrev HN (fs : Fs) (dir : ByteArray) (cnt : Nat) (told : Bz) : Prop := Xn fs dir cnt told false
structure A5 (fs : Fs) (cnt : Nat) (W : Wl) (rc : Bz) (sg : Sg) (safe : Nat) : Prop where
 sh : Shape fs W.dir cnt W.check rc sg []
 AP : W.AP = sg.map (·.1)
 opn : W.check < W.opn ∧ W.opn ≤ cnt + 1 ∧ ∀ x ∈ sg, x.1 ≤ W.opn
 size : ∀ x ∈ sg, x.1 = W.opn → W.size = (AU x.2).length
 I1 : (∀ x ∈ sg, x.1 ≠ W.opn) → W.size = 0
 sync : ∀ f, 0 < W.check → fs (AG W.dir kc W.check) = some f → f.GY = f.data.length
 Ot : ∀ x ∈ sg, x.1 < W.opn → ∀ f, fs (AG W.dir ks x.1) = some f → f.GY = f.data.length
 dur : ∀ x ∈ sg, x.1 = W.opn → ∃ m f, m ≤ x.2.length ∧ fs (AG W.dir ks x.1) = some f ∧ (AU (x.2.take m)).length ≤ f.GY ∧ safe + x.2.length ≤ (rc ++ Ao sg).length + m
 gH : (∀ x ∈ sg, x.1 ≠ W.opn) → safe ≤ (rc ++ Ao sg).length
theorem dR {sg : Sg} {n : Nat} (hr : sg.Pairwise fun x y => x.1 < y.1) (hle : ∀ x ∈ sg, x.1 ≤ n) {x : Nat × Bz} (hx : x ∈ sg) (he : x.1 = n) : ∃ s0, sg = s0 ++ [x] ∧ ∀ y ∈ s0, y.1 < n := by
 obtain ⟨a, b, rfl⟩ := List.append_of_mem hx
 rw [List.pairwise_append, List.pairwise_cons] at hr
 have hb : b = [] := by
   cases b with
   | nil => rfl
   | cons y b =>
     have h1 := hr.2.1.1 y (by simp)
     have h2 := hle y (by simp)
     omega
 subst hb
 exact ⟨a, rfl, fun y hy => by have := hr.2.2 y hy x (by simp); omega⟩
theorem Gg.VD {fs gs : Fs} (h : Gg fs gs) {s : ByteArray} (hs : (gs s).isSome = true) : (fs s).isSome = true := by
 cases hf : fs s with
 | none => rw [(h s).1 hf] at hs; cases hs
 | some f => rfl
theorem Gg.GY {fs gs : Fs} (h : Gg fs gs) {s : ByteArray} {f : Fl} (hf : gs s = some f) : f.GY = f.data.length := by
 cases hs : fs s with
 | none => rw [(h s).1 hs] at hf; cases hf
 | some g =>
   obtain ⟨k, h1, h2, h3⟩ := (h s).2 g hs
   rw [h3] at hf
   cases hf
   simp only [List.length_take]; omega
theorem Gg.kept {fs gs : Fs} (h : Gg fs gs) {dir : ByteArray} {check : Nat} {sg : Sg} : Kept gs dir check sg := ⟨fun f _ hf => h.GY hf, fun _ _ _ _ f hf => h.GY hf⟩
theorem Gg.whole {fs gs : Fs} (h : Gg fs gs) {s : ByteArray} {x : List Int} (hx : Has fs s x) (hs : ∀ f, fs s = some f → f.GY = f.data.length) : Has gs s x := by
 obtain ⟨f, hf, rfl⟩ := hx
 obtain ⟨k, h1, h2, h3⟩ := (h s).2 f hf
 rw [hs f hf] at h1
 exact ⟨_, h3, by rw [List.take_of_length_le (by omega)]⟩
theorem A5.dS {fs gs : Fs} {cnt : Nat} {W : Wl} {rc : Bz} {sg : Sg} {safe : Nat} (h : A5 fs cnt W rc sg safe) (hc : Gg fs gs) : ∃ told, HN gs W.dir cnt told ∧ told <+: rc ++ Ao sg ∧ safe ≤ told.length := by
 by_cases hl : ∃ x ∈ sg, x.1 = W.opn
 · obtain ⟨x, hx, he⟩ := hl
   obtain ⟨s0, rfl, Ag⟩ := dR h.sh.Jz h.opn.2.2 hx he
   obtain ⟨m, f, hm, hf, hms, dT⟩ := h.dur x hx he
   obtain ⟨f2, pD, PN⟩ := h.sh.file s0.length x (by simp)
   rw [hf] at pD
   cases pD
   simp at PN
   obtain ⟨j, UR, oA, hj3⟩ := (hc _).2 f hf
   have Tk := h.sh.Lt x hx
   obtain ⟨k, t, hk, hkt, ht, yt⟩ := Xl x.2 j Tk.short
   refine ⟨rc ++ Ao (s0 ++ [(x.1, x.2.take k)]), ⟨W.check, rc, s0 ++ [(x.1, x.2.take k)], t, ⟨fun h0 => hc.whole (h.sh.PT h0) fun f hf => h.sync f h0 hf, h.sh.Xm, fun s hs => h.sh.Y7 s (hc.VD hs), h.sh.aL, ?_, ?_, ?_, ?_, ?_, ht, h.sh.Oq, ?_, ?_⟩, rfl, hc.kept, fun h => (by cases h)⟩, ?_, ?_⟩
   · intro y hy
     rcases List.mem_append.1 hy with hy | hy
     · exact h.sh.gt y (by simp [hy])
     · simp at hy; subst hy; exact h.sh.gt x (by simp)
   · have := h.sh.Jz
     rw [List.pairwise_append] at this ⊢
     exact ⟨this.1, by simp, fun y hy z hz => by simp at hz; subst hz; exact this.2.2 y hy x (by simp)⟩
   · intro s hs Q3
     obtain ⟨y, hy, yu⟩ := h.sh.dQ s (hc.VD hs) Q3
     rcases List.mem_append.1 hy with hy | hy
     · exact ⟨y, by simp [hy], yu⟩
     · simp at hy; subst hy; exact ⟨(y.1, y.2.take k), by simp, yu⟩
   · intro i y hy
     rcases Nat.lt_or_ge i s0.length with hi | hi
     · rw [List.getElem?_append_left hi] at hy
       have IH : y ∈ s0 := List.mem_of_getElem? hy
       have h1 := h.sh.file i y (by rw [List.getElem?_append_left hi]; exact hy)
       rw [if_neg (by simp; omega)] at h1 ⊢
       exact hc.whole h1 fun f hf => h.Ot y (by simp [IH]) (Ag y IH) f hf
     · have oZ : i = s0.length := by
         have := (List.getElem?_eq_some_iff.1 hy).1
         simp at this; omega
       subst oZ
       simp at hy
       subst hy
       rw [if_pos (by simp)]
       exact ⟨_, hj3, by rw [PN, hkt]⟩
   · intro e; simp at e
   · intro y hy
     rcases List.mem_append.1 hy with hy | hy
     · exact h.sh.Lt y (by simp [hy])
     · simp at hy; subst hy; exact Tk.take k
   · have h8 := lu (M4 Tk) j
     rw [hkt] at h8
     exact fun a ha => h8 a (List.mem_append_right _ ha)
   · rw [CD, CD, Ey, Ey]
     exact (List.prefix_append_right_inj _).2 ((List.prefix_append_right_inj _).2 (List.take_prefix _ _))
   · have w7 := yt m hm (by omega)
     rw [CD, Ey] at dT ⊢
     simp only [List.length_append, List.length_take] at dT ⊢
     omega
 · have Be : ∀ x ∈ sg, x.1 ≠ W.opn := fun x hx he => hl ⟨x, hx, he⟩
   refine ⟨rc ++ Ao sg, ⟨W.check, rc, sg, [], ⟨fun h0 => hc.whole (h.sh.PT h0) fun f hf => h.sync f h0 hf, h.sh.Xm, fun s hs => h.sh.Y7 s (hc.VD hs), h.sh.aL, h.sh.gt, h.sh.Jz, fun s hs => h.sh.dQ s (hc.VD hs), fun i y hy => ?_, fun _ => rfl, EV, h.sh.Oq, h.sh.Lt, h.sh.vE⟩, rfl, hc.kept, fun h => (by cases h)⟩, List.prefix_refl _, h.gH Be⟩
   have IH := List.mem_of_getElem? hy
   exact hc.whole (h.sh.file i y hy) fun f hf => h.Ot y IH (by have := h.opn.2.2 y IH; have := Be y IH; omega) f hf
end TwW
end
section
namespace TwW
open Go Tw Go.RowKit Go.Proofs.Tryz
section
variable {fs gs : Fs} {dir : ByteArray} {cnt cnt' check : Nat} {rc : Bz} {sg : Sg} {tail : List Int} {W : Wl} {safe : Nat}
theorem C6 {s : ByteArray} {x : Option Fl} : BG fs s x s = x := by simp [BG]
theorem Ax {s t : ByteArray} {x : Option Fl} (h : t ≠ s) : BG fs s x t = fs t := by simp [BG, h]
theorem Cf {s t : ByteArray} {xs : List Int} (h : t ≠ s) : Em fs s xs t = fs t := Ax h
theorem Shape.congr (h : Shape fs dir cnt check rc sg tail) (hc : cnt ≤ cnt') (h1 : 0 < check → gs (AG dir kc check) = fs (AG dir kc check)) (h2 : ∀ x ∈ sg, gs (AG dir ks x.1) = fs (AG dir ks x.1))
   (h3 : ∀ s, (gs s).isSome = true → (fs s).isSome = true ∨ (numOf dir kc s = 0 ∧ numOf dir ks s = 0)) : Shape gs dir cnt' check rc sg tail :=
 { h with
   PT := fun h0 => by obtain ⟨f, hf, e⟩ := h.PT h0; exact ⟨f, by rw [h1 h0, hf], e⟩
   Y7 := fun s hs => (h3 s hs).elim (h.Y7 s) fun ⟨e, _⟩ => by omega
   aL := Nat.le_trans h.aL hc
   gt := fun x hx => ⟨(h.gt x hx).1, Nat.le_trans (h.gt x hx).2 hc⟩
   dQ := fun s hs Ag => (h3 s hs).elim (fun h4 => h.dQ s h4 Ag) fun ⟨_, e⟩ => by omega
   file := fun k x hx => by obtain ⟨f, hf, e⟩ := h.file k x hx; exact ⟨f, by rw [h2 x (List.mem_of_getElem? hx), hf], e⟩ }
theorem A5.congr (h : A5 fs cnt W rc sg safe) (hc : cnt ≤ cnt') (h1 : 0 < W.check → gs (AG W.dir kc W.check) = fs (AG W.dir kc W.check)) (h2 : ∀ x ∈ sg, gs (AG W.dir ks x.1) = fs (AG W.dir ks x.1))
   (h3 : ∀ s, (gs s).isSome = true → (fs s).isSome = true ∨ (numOf W.dir kc s = 0 ∧ numOf W.dir ks s = 0)) : A5 gs cnt' W rc sg safe :=
 { sh := h.sh.congr hc h1 h2 h3
   AP := h.AP
   opn := ⟨h.opn.1, by have := h.opn.2.1; omega, h.opn.2.2⟩
   size := h.size
   I1 := h.I1
   sync := fun f h0 hf => h.sync f h0 (by rw [← h1 h0]; exact hf)
   Ot := fun x hx Ag f hf => h.Ot x hx Ag f (by rw [← h2 x hx]; exact hf)
   dur := fun x hx he => by obtain ⟨m, f, a, b, c⟩ := h.dur x hx he; exact ⟨m, f, a, by rw [h2 x hx]; exact b, c⟩
   gH := h.gH }
theorem A5.fresh (h : A5 fs cnt W rc sg safe) (hc : cnt ≤ cnt') (hg : ∀ s, s ≠ BC W.dir → gs s = fs s) : A5 gs cnt' W rc sg safe :=
 h.congr hc (fun _ => hg _ (Bq (.inl rfl)).symm) (fun x _ => hg _ (Bq (.inr rfl)).symm) fun s hs => by
   by_cases JT : s = BC W.dir
   · subst JT; exact .inr ⟨Ku (.inl rfl), Ku (.inr rfl)⟩
   · rw [hg s JT] at hs; exact .inl hs
theorem A5.free (h : A5 fs cnt W rc sg safe) (hn : cnt < 99999999) (Be : ∀ x ∈ sg, x.1 ≠ W.opn) : fs (AG W.dir ks W.opn) = none := by
 cases hf : fs (AG W.dir ks W.opn) with
 | none => rfl
 | some f =>
   have ho := h.opn
   have e := By (dir := W.dir) (kind := ks) (no := W.opn) (by omega)
   obtain ⟨x, hx, An⟩ := h.sh.dQ _ (by rw [hf]; rfl) (by rw [e]; exact ho.1)
   exact absurd (An.trans e) (Be x hx)
theorem A5.vF {s0 : Sg} {x : Nat × Bz} {r : List Int} (h : A5 fs cnt W rc (s0 ++ [x]) safe) (hn : cnt < 99999998) (he : x.1 = W.opn) (hr : r.length ≤ 65536) (h8 : E8 r) :
   A5 (Em fs (AG W.dir ks W.opn) (frame r)) (cnt + 1) { W with size := W.size + (frame r).length } rc (s0 ++ [(x.1, x.2 ++ [r])]) safe := by
 have hx : x ∈ s0 ++ [x] := by simp
 have Ag : ∀ y ∈ s0, y.1 < W.opn := fun y hy => by
   have := h.sh.Jz
   rw [List.pairwise_append] at this
   have := this.2.2 y hy x (by simp); omega
 have hb : W.opn < 100000000 := by have := h.opn.2.1; omega
 have Ad : ∀ y ∈ s0, AG W.dir ks y.1 ≠ AG W.dir ks W.opn := fun y hy e => by
   have := Ag y hy
   have := Ex (by omega) hb e; omega
 obtain ⟨f, hf, hd⟩ := h.sh.file s0.length x (by simp)
 rw [he] at hf
 simp at hd
 have hg : Good (x.2 ++ [r]) := (h.sh.Lt x hx).append fun r' I9 => by simp at I9; subst I9; exact ⟨hr, h8⟩
 have Vu : Em fs (AG W.dir ks W.opn) (frame r) (AG W.dir ks W.opn) = some ⟨f.data ++ frame r, f.GY⟩ := by simp [Em, BG, hf]
 have Cl : ∀ y, y ∈ s0 ++ [(x.1, x.2 ++ [r])] → y ∈ s0 ∨ y = (x.1, x.2 ++ [r]) := fun y hy => by simpa using hy
 refine ⟨⟨fun h0 => ?_, h.sh.Xm, fun s hs => ?_, Nat.le_succ_of_le h.sh.aL, fun y hy => ?_, ?_, fun s hs Q3 => ?_, fun i y hy => ?_, fun e => by simp at e, EV, h.sh.Oq, fun y hy => ?_, h.sh.vE⟩, ?_, ⟨h.opn.1, by have := h.opn.2.1; simp only; omega, fun y hy => ?_⟩, fun y hy dU => ?_, fun Be => absurd he (Be (x.1, x.2 ++ [r]) (by simp)), fun g h0 hg => ?_, fun y hy VE g hg => ?_, fun y hy dU => ?_, fun Be => absurd he (Be (x.1, x.2 ++ [r]) (by simp))⟩
 · obtain ⟨g, hg, e⟩ := h.sh.PT h0
   exact ⟨g, by rw [Cf BL]; exact hg, e⟩
 · by_cases JT : s = AG W.dir ks W.opn
   · subst JT; exact h.sh.Y7 _ (by rw [hf]; rfl)
   · rw [Cf JT] at hs; exact h.sh.Y7 s hs
 · rcases Cl y hy with hy | rfl
   · have := h.sh.gt y (by simp [hy]); exact ⟨this.1, by omega⟩
   · have := h.sh.gt x hx; exact ⟨this.1, by omega⟩
 · have := h.sh.Jz
   rw [List.pairwise_append] at this ⊢
   exact ⟨this.1, by simp, fun y hy z hz => by simp at hz; subst hz; exact this.2.2 y hy x (by simp)⟩
 · have : (fs s).isSome = true := by
     by_cases JT : s = AG W.dir ks W.opn
     · subst JT; rw [hf]; rfl
     · rw [Cf JT] at hs; exact hs
   obtain ⟨y, hy, yu⟩ := h.sh.dQ s this Q3
   rcases List.mem_append.1 hy with hy | hy
   · exact ⟨y, by simp [hy], yu⟩
   · simp at hy; subst hy; exact ⟨(y.1, y.2 ++ [r]), by simp, yu⟩
 · rcases Nat.lt_or_ge i s0.length with hi | hi
   · rw [List.getElem?_append_left hi] at hy
     have IH : y ∈ s0 := List.mem_of_getElem? hy
     obtain ⟨g, hg, e⟩ := h.sh.file i y (by rw [List.getElem?_append_left hi]; exact hy)
     rw [if_neg (by simp; omega)] at e ⊢
     exact ⟨g, by rw [Cf (Ad y IH)]; exact hg, e⟩
   · have oZ : i = s0.length := by
       have := (List.getElem?_eq_some_iff.1 hy).1
       simp at this; omega
     subst oZ
     simp at hy
     subst hy
     refine ⟨_, by rw [he]; exact Vu, ?_⟩
     simp [hd, AU]
 · rcases Cl y hy with hy | rfl
   · exact h.sh.Lt y (by simp [hy])
   · exact hg
 · simp [h.AP]
 · rcases Cl y hy with hy | rfl
   · exact h.opn.2.2 y (by simp [hy])
   · exact h.opn.2.2 x hx
 · rcases Cl y hy with hy | rfl
   · have := Ag y hy; simp only at dU; omega
   · have := h.size x hx he
     simp [this, AU]
 · rw [Cf BL] at hg; exact h.sync g h0 hg
 · rcases Cl y hy with hy | rfl
   · rw [Cf (Ad y hy)] at hg; exact h.Ot y (by simp [hy]) VE g hg
   · simp only at VE; omega
 · rcases Cl y hy with hy | rfl
   · have := Ag y hy; simp only at dU; omega
   · obtain ⟨m, g, hm, hg, hms, hs⟩ := h.dur x hx he
     rw [he, hf] at hg
     cases hg
     refine ⟨m, _, by simp; omega, by rw [he]; exact Vu, ?_, ?_⟩
     · rw [List.take_append_of_le_length hm]; exact hms
     · simp only [CD, Ey, List.length_append, List.length_cons, List.length_nil] at hs ⊢; omega
theorem A5.vG {r : List Int} (h : A5 fs cnt W rc sg safe) (hn : cnt < 99999998) (Be : ∀ x ∈ sg, x.1 ≠ W.opn) (hr : r.length ≤ 65536) (h8 : E8 r) :
   A5 (Em fs (AG W.dir ks W.opn) (frame r)) (cnt + 1) { W with AP := W.AP ++ [W.opn], size := W.size + (frame r).length } rc (sg ++ [(W.opn, [r])]) safe := by
 have hb : W.opn < 100000000 := by have := h.opn.2.1; omega
 have bf := h.free (by omega) Be
 have Ag : ∀ y ∈ sg, y.1 < W.opn := fun y hy => by have := h.opn.2.2 y hy; have := Be y hy; omega
 have Ad : ∀ y ∈ sg, AG W.dir ks y.1 ≠ AG W.dir ks W.opn := fun y hy e => by
   have := Ag y hy
   have := Ex (by omega) hb e; omega
 have Vu : Em fs (AG W.dir ks W.opn) (frame r) (AG W.dir ks W.opn) = some ⟨frame r, 0⟩ := by simp [Em, BG, bf]
 have Cl : ∀ y, y ∈ sg ++ [(W.opn, [r])] → y ∈ sg ∨ y = (W.opn, [r]) := fun y hy => by simpa using hy
 have yr := By (dir := W.dir) (kind := ks) hb
 have hold : ∀ s, (Em fs (AG W.dir ks W.opn) (frame r) s).isSome = true → (fs s).isSome = true ∨ s = AG W.dir ks W.opn := fun s hs => by
   by_cases JT : s = AG W.dir ks W.opn
   · exact .inr JT
   · rw [Cf JT] at hs; exact .inl hs
 refine ⟨⟨fun h0 => ?_, h.sh.Xm, fun s hs => ?_, Nat.le_succ_of_le h.sh.aL, fun y hy => ?_, ?_, fun s hs Q3 => ?_, fun i y hy => ?_, fun e => by simp at e, EV, h.sh.Oq, fun y hy => ?_, h.sh.vE⟩, ?_, ⟨h.opn.1, by have := h.opn.2.1; simp only; omega, fun y hy => ?_⟩, fun y hy dU => ?_, fun yw => absurd rfl (yw (W.opn, [r]) (by simp)), fun g h0 hg => ?_, fun y hy VE g hg => ?_, fun y hy dU => ?_, fun yw => absurd rfl (yw (W.opn, [r]) (by simp))⟩
 · obtain ⟨g, hg, e⟩ := h.sh.PT h0
   exact ⟨g, by rw [Cf BL]; exact hg, e⟩
 · rcases hold s hs with hs | rfl
   · exact h.sh.Y7 s hs
   · show numOf W.dir kc (AG W.dir ks W.opn) ≤ W.check
     rcases Nat.eq_zero_or_pos (numOf W.dir kc (AG W.dir ks W.opn)) with h0 | h0
     · omega
     · have := I0 h0
       have := h.opn.1; omega
 · rcases Cl y hy with hy | rfl
   · have := h.sh.gt y hy; exact ⟨this.1, by omega⟩
   · exact ⟨h.opn.1, h.opn.2.1⟩
 · rw [List.pairwise_append]
   exact ⟨h.sh.Jz, by simp, fun y hy z hz => by simp at hz; subst hz; exact Ag y hy⟩
 · rcases hold s hs with hs | rfl
   · obtain ⟨y, hy, yu⟩ := h.sh.dQ s hs Q3
     exact ⟨y, by simp [hy], yu⟩
   · exact ⟨(W.opn, [r]), by simp, yr.symm⟩
 · rcases Nat.lt_or_ge i sg.length with hi | hi
   · rw [List.getElem?_append_left hi] at hy
     have IH : y ∈ sg := List.mem_of_getElem? hy
     obtain ⟨g, hg, e⟩ := h.sh.file i y hy
     refine ⟨g, by rw [Cf (Ad y IH)]; exact hg, ?_⟩
     rw [e]; simp
   · have oZ : i = sg.length := by
       have := (List.getElem?_eq_some_iff.1 hy).1
       simp at this; omega
     subst oZ
     simp at hy
     subst hy
     exact ⟨_, Vu, by simp [AU]⟩
 · rcases Cl y hy with hy | rfl
   · exact h.sh.Lt y hy
   · intro r' I9; simp at I9; subst I9; exact ⟨hr, h8⟩
 · simp [h.AP]
 · rcases Cl y hy with hy | rfl
   · exact h.opn.2.2 y hy
   · exact Nat.le_refl _
 · rcases Cl y hy with hy | rfl
   · have := Ag y hy; simp only at dU; omega
   · have := h.I1 Be
     simp [this, AU]
 · rw [Cf BL] at hg; exact h.sync g h0 hg
 · rcases Cl y hy with hy | rfl
   · rw [Cf (Ad y hy)] at hg; exact h.Ot y hy VE g hg
   · simp only at VE; omega
 · rcases Cl y hy with hy | rfl
   · have := Ag y hy; simp only at dU; omega
   · refine ⟨0, _, by simp, Vu, by simp [AU], ?_⟩
     have := h.gH Be
     simp only [CD, Ey, List.length_append, List.length_cons, List.length_nil] at this ⊢; omega
theorem A5.synced {s0 : Sg} {x : Nat × Bz} {f : Fl} (h : A5 fs cnt W rc (s0 ++ [x]) safe) (hn : cnt < 99999998) (he : x.1 = W.opn) (hf : fs (AG W.dir ks W.opn) = some f) :
   A5 (BG fs (AG W.dir ks W.opn) (some ⟨f.data, f.data.length⟩)) cnt W rc (s0 ++ [x]) (rc ++ Ao (s0 ++ [x])).length := by
 have hx : x ∈ s0 ++ [x] := by simp
 have Ag : ∀ y ∈ s0, y.1 < W.opn := fun y hy => by
   have := h.sh.Jz
   rw [List.pairwise_append] at this
   have := this.2.2 y hy x (by simp); omega
 have hb : W.opn < 100000000 := by have := h.opn.2.1; omega
 have Ad : ∀ y ∈ s0, AG W.dir ks y.1 ≠ AG W.dir ks W.opn := fun y hy e => by
   have := Ag y hy
   have := Ex (by omega) hb e; omega
 obtain ⟨f2, pD, hd⟩ := h.sh.file s0.length x (by simp)
 rw [he, hf] at pD
 cases pD
 simp at hd
 have hold : ∀ s, (BG fs (AG W.dir ks W.opn) (some ⟨f.data, f.data.length⟩) s).isSome = true → (fs s).isSome = true := fun s hs => by
   by_cases JT : s = AG W.dir ks W.opn
   · subst JT; rw [hf]; rfl
   · rwa [Ax JT] at hs
 refine ⟨⟨fun h0 => ?_, h.sh.Xm, fun s hs => h.sh.Y7 s (hold s hs), h.sh.aL, h.sh.gt, h.sh.Jz, fun s hs => h.sh.dQ s (hold s hs), fun i y hy => ?_, h.sh.vD, EV, h.sh.Oq, h.sh.Lt, h.sh.vE⟩, h.AP, h.opn, h.size, h.I1, fun g h0 hg => ?_, fun y hy VE g hg => ?_, fun y hy dU => ?_, fun Be => absurd he (Be x hx)⟩
 · obtain ⟨g, hg, e⟩ := h.sh.PT h0
   exact ⟨g, by rw [Ax BL]; exact hg, e⟩
 · obtain ⟨g, hg, e⟩ := h.sh.file i y hy
   rcases List.mem_append.1 (List.mem_of_getElem? hy) with IH | IH
   · exact ⟨g, by rw [Ax (Ad y IH)]; exact hg, e⟩
   · simp at IH
     subst IH
     rw [he, hf] at hg
     cases hg
     exact ⟨⟨f.data, f.data.length⟩, by rw [he]; exact C6, e⟩
 · rw [Ax BL] at hg; exact h.sync g h0 hg
 · rcases List.mem_append.1 hy with IH | IH
   · rw [Ax (Ad y IH)] at hg; exact h.Ot y hy VE g hg
   · simp at IH; subst IH; omega
 · rcases List.mem_append.1 hy with IH | IH
   · have := Ag y IH; omega
   · simp at IH
     subst IH
     exact ⟨y.2.length, ⟨f.data, f.data.length⟩, Nat.le_refl _, by rw [he]; exact C6, by rw [List.take_length, ← hd]; exact Nat.le_refl _, Nat.le_refl _⟩
theorem A5.rotate {s0 : Sg} {x : Nat × Bz} (h : A5 fs cnt W rc (s0 ++ [x]) safe) (hn : cnt < 99999998) (he : x.1 = W.opn) (hs : ∀ f, fs (AG W.dir ks W.opn) = some f → f.GY = f.data.length) (dT : safe ≤ (rc ++ Ao (s0 ++ [x])).length) :
   A5 fs cnt { W with opn := W.opn + 1, size := 0 } rc (s0 ++ [x]) safe := by
 have hx : x ∈ s0 ++ [x] := by simp
 have hle := h.opn.2.2
 refine ⟨h.sh, h.AP, ⟨by have := h.opn.1; simp only; omega, by have := (h.sh.gt x hx).2; simp only; omega, fun y hy => by have := hle y hy; simp only; omega⟩, fun y hy dU => ?_, fun _ => rfl, h.sync, fun y hy VE f hf => ?_, fun y hy dU => ?_, fun _ => dT⟩
 · have := hle y hy; simp only at dU; omega
 · rcases Nat.lt_or_ge y.1 W.opn with h1 | h1
   · exact h.Ot y hy h1 f hf
   · have : y.1 = W.opn := by have := hle y hy; omega
     rw [this] at hf
     exact hs f hf
 · have := hle y hy; simp only at dU; omega
end
end TwW
end
section
namespace TwW
open Go Tw Go.RowKit Go.Proofs.Tryz
structure Out (dir : ByteArray) (fs gs : Fs) : Prop where
 out : ∀ s, BR s (dir ++ Cn) = false → gs s = fs s
 new : ∀ s, (gs s).isSome = true → (fs s).isSome = true ∨ 0 < numOf dir kc s ∨ 0 < numOf dir ks s ∨ s = BC dir
theorem Out.refl {dir : ByteArray} {fs : Fs} : Out dir fs fs := ⟨fun _ _ => rfl, fun _ h => .inl h⟩
theorem Out.trans {dir : ByteArray} {fs gs hs : Fs} (h : Out dir fs gs) (g : Out dir gs hs) : Out dir fs hs := ⟨fun s hb => (g.out s hb).trans (h.out s hb), fun s hb => (g.new s hb).elim (h.new s) .inr⟩
theorem Tl {s dir : ByteArray} {l : List UInt8} (h : s.data.toList = dir.data.toList ++ 47 :: l) : BR s (dir ++ Cn) = true := by
 unfold BR
 rw [decide_eq_true_iff, DA, h]
 exact ⟨l, by simp [Cn]⟩
theorem DB {dir kind : ByteArray} {n : Nat} : BR (AG dir kind n) (dir ++ Cn) = true := Tl (l := kind.data.toList ++ Jy n) (by rw [Cm, KW]; simp)
theorem MJ {dir : ByteArray} : BR (BC dir) (dir ++ Cn) = true := Tl (l := [110, 101, 119]) (by rw [BC, DA])
theorem Out.del {dir s : ByteArray} {fs : Fs} (h : BR s (dir ++ Cn) = true) : Out dir fs (TwW.BG fs s none) := ⟨fun t ht => Ax fun e => (by rw [e, h] at ht; cases ht), fun t ht => by
 by_cases e : t = s
 · subst e; rw [C6] at ht; cases ht
 · rw [Ax e] at ht; exact .inl ht⟩
theorem Out.put {dir kind : ByteArray} {n : Nat} {fs : Fs} {x : Option Fl} (hk : kind = kc ∨ kind = ks) (h0 : 0 < n) (h1 : n < 100000000) : Out dir fs (TwW.BG fs (AG dir kind n) x) := ⟨fun t ht => Ax fun e => (by rw [e, DB] at ht; cases ht), fun t ht => by
 by_cases e : t = AG dir kind n
 · subst e
   have := By (dir := dir) (kind := kind) h1
   rcases hk with rfl | rfl
   · exact .inr (.inl (by omega))
   · exact .inr (.inr (.inl (by omega)))
 · rw [Ax e] at ht; exact .inl ht⟩
theorem Out.app {dir kind : ByteArray} {n : Nat} {fs : Fs} {xs : List Int} (hk : kind = kc ∨ kind = ks) (h0 : 0 < n) (h1 : n < 100000000) : Out dir fs (TwW.Em fs (AG dir kind n) xs) := Out.put hk h0 h1
section
variable {σ σ' τ : Hp} {d b : Nat} {D : Dk} {W : Wl} {R : Rr}
structure lv (σ : Hp) (d : Nat) (D : Dk) (τ : Hp) (L : Hp → Dk → Prop) (fs Fg : Fs) (c : Nat) (R : Rr) : Prop where
 ok : ∀ σ', L σ' ⟨fs, true, D.armed, c⟩ → R (.returned (.int .i64 0)) σ'
 bad : D.armed = true → ∀ σ' gs, Gg Fg gs → Ai σ' d ⟨gs, false, false, c⟩ τ → R (.returned (.int .i64 60)) σ'
theorem lv.wr {fs Fg : Fs} {c : Nat} {Sd S : List Nat} {p : Option Addr} {cc : Nat} {T : TypeId} (h2 : Fh (σ.off Sd) b d W S p cc T) (h3 : Ext τ ((σ.off Sd).off S)) (h : lv σ d D τ (fun σ' D' => Aj σ' d b D' W τ) fs Fg c R) : Wr σ Sd d D fs Fg c R :=
 ⟨fun σ' S' hd hx => h.ok σ' (Aj.step h2 h3 hd hx), fun ha σ' S' gs hg hd hx => h.bad ha σ' gs hg (Aj.step h2 h3 hd hx).gE⟩
theorem lv.wrd {fs Fg : Fs} {c : Nat} {Sd : List Nat} (h3 : Ext τ (σ.off Sd)) (h : lv σ d D τ (fun σ' D' => Ai σ' d D' τ) fs Fg c R) : Wr σ Sd d D fs Fg c R :=
 ⟨fun σ' S' hd hx => h.ok σ' ⟨S', hd, h3.trans hx⟩, fun ha σ' S' gs hg hd hx => h.bad ha σ' gs hg ⟨S', hd, h3.trans hx⟩⟩
theorem r5 {s : ByteArray} {p : Option Addr} {n c : Nat} {xs : List Int} (h : Aj σ d b D W τ) (Ev : D.up = true) (hn : Ae s = true) (hc : Oh D) (hx : CA .u8 τ p n xs) (hlen : ((D.files s).getD ⟨[], 0⟩).data.length + n ≤ 4194304)
   (hw : lv σ d D τ (fun σ' D' => Aj σ' d b D' W τ) (Em D.files s xs) (Em D.files s xs) (D.cnt + 1) R) : Spec prog 135 #[.pointer (some ⟨d, 0, none⟩), .string s, .slice p n c] σ R := by
 obtain ⟨Sd, S, q, cc, T, h1, h2, h3⟩ := h
 exact Oi h1 Ev hn hc (hx.mono (h3.trans (Ext.CJ _ _))) hlen (hw.wr h2 h3)
theorem vH {s : ByteArray} {f : Fl} (h : Aj σ d b D W τ) (Ev : D.up = true) (hn : Ae s = true) (hf : D.files s = some f)
   (hw : lv σ d D τ (fun σ' D' => Aj σ' d b D' W τ) (BG D.files s (some ⟨f.data, f.data.length⟩)) D.files D.cnt R) : Spec prog 133 #[.pointer (some ⟨d, 0, none⟩), .string s] σ R := by
 obtain ⟨Sd, S, q, cc, T, h1, h2, h3⟩ := h
 exact Te h1 Ev hn hf (hw.wr h2 h3)
theorem Pw {s : ByteArray} {f : Fl} (h : Aj σ d b D W τ) (Ev : D.up = true) (hn : Ae s = true) (hf : D.files s = some f)
   (hw : lv σ d D τ (fun σ' D' => Aj σ' d b D' W τ) (BG D.files s none) D.files D.cnt R) : Spec prog 138 #[.pointer (some ⟨d, 0, none⟩), .string s] σ R := by
 obtain ⟨Sd, S, q, cc, T, h1, h2, h3⟩ := h
 exact Oj h1 Ev hn hf (hw.wr h2 h3)
theorem I2 {K : Hp → Prop} (h : K σ) : Spec prog 132 #[.int .i64 0] σ (AB R fun v σ1 => v = .tuple #[] ∧ K σ1) :=
 Ql.start ⟨fun hh => absurd rfl hh, fun _ => ⟨rfl, h⟩⟩
theorem MK {K : Hp → Prop} (h : R (.panicked (bX 60)) σ) : Spec prog 132 #[.int .i64 60] σ (AB R fun v σ1 => v = .tuple #[] ∧ K σ1) :=
 Ql.start ⟨fun _ => h, fun hh => absurd (by decide) hh⟩
def hasB (W : Wl) : Bool := decide (W.AP.getLast? = some W.opn)
theorem Q6 (h : Aj σ d b D W τ) (hR : R (.returned (.bool (hasB W))) σ) : Spec prog 131 #[.pointer (some ⟨b, 0, none⟩)] σ R := by
 have r := h.rd
 obtain ⟨p, c, hc, hl, HM⟩ := r.AP
 have Fy := HM.big
 refine OX.start ⟨b, 0, rfl, p, _, c, hl, fun Ju => ?_, fun hz => ?_⟩
 · have APg : 0 < W.AP.length := by omega
   have Jn : W.AP.getLast? = some (W.AP[W.AP.length - 1]) := by rw [List.getLast?_eq_getElem?, List.getElem?_eq_getElem (by omega)]
   have hg : (JI W.AP)[W.AP.length - 1]? = some ((W.AP[W.AP.length - 1] : Nat) : Int) := by
     rw [JI, List.getElem?_map, List.getElem?_eq_getElem (by omega)]; rfl
   obtain ⟨BA, cR, rfl, SX⟩ := HM.at hg
   have e : Int.toNat (((W.AP.length : Nat) : Int) - 1) = W.AP.length - 1 := by omega
   refine ⟨_, _, c, hl, _, _, c, hl, by unfold AO; omega, BA, cR, rfl, by omega, _, by rw [e]; exact SX, W.opn, r.opn, ?_⟩
   have : decide (((W.AP[W.AP.length - 1] : Nat) : Int) = (W.opn : Int)) = hasB W := by
     unfold hasB
     rw [Jn]
     apply decide_eq_decide.2
     simp only [Option.some.injEq]
     omega
   dsimp only; rw [this]; exact hR
 · have : hasB W = false := by
     have : W.AP = [] := List.eq_nil_of_length_eq_zero (by omega)
     simp [hasB, this]
   rw [this] at hR; exact hR
theorem EX {fs : Fs} {cnt : Nat} {rc : Bz} {sg : Sg} {safe : Nat} (h : A5 fs cnt W rc sg safe) : (hasB W = true → ∃ s0 x, sg = s0 ++ [x] ∧ x.1 = W.opn) ∧ (hasB W = false → ∀ x ∈ sg, x.1 ≠ W.opn) := by
 constructor
 · intro hh
   simp only [hasB, decide_eq_true_eq] at hh
   rcases List.eq_nil_or_concat sg with rfl | ⟨s0, x, rfl⟩
   · rw [h.AP] at hh; simp at hh
   · refine ⟨s0, x, by simp, ?_⟩
     rw [h.AP] at hh; simpa using hh
 · intro hh x hx he
   obtain ⟨s0, rfl, _⟩ := dR h.sh.Jz h.opn.2.2 hx he
   have : hasB W = true := by simp [hasB, h.AP, he]
   rw [this] at hh; cases hh
theorem Xo : ∀ (l : List Nat) (lo hi : Nat), l.Pairwise (· < ·) → (∀ x ∈ l, lo ≤ x ∧ x < hi) → l.length ≤ hi - lo
 | [], _, _, _, _ => Nat.zero_le _
 | a :: l, lo, hi, hp, hb => by
   rw [List.pairwise_cons] at hp
   have h1 := Xo l (a + 1) hi hp.2 fun x hx => ⟨hp.1 x hx, (hb x (by simp [hx])).2⟩
   have h2 := hb a (by simp)
   simp; omega
theorem A5.len {fs : Fs} {cnt : Nat} {rc : Bz} {sg : Sg} {safe : Nat} (h : A5 fs cnt W rc sg safe) : W.AP.length ≤ cnt + 1 := by
 have := Xo W.AP 0 (cnt + 1) (by rw [h.AP, List.pairwise_map]; exact h.sh.Jz) (fun x hx => by
   rw [h.AP] at hx
   obtain ⟨y, hy, rfl⟩ := List.mem_map.1 hx
   have := h.sh.gt y hy; omega)
 simpa using this
structure yx (d b : Nat) (D : Dk) (W : Wl) (τ : Hp) (rc : Bz) (sg : Sg) (safe : Nat) (xs : List Int) (rok : Hp → Prop) (lx : Hp → Prop) : Prop where
 ok : ∀ σ' D' W' KZ M5, Aj σ' d b D' W' τ → D'.up = true → D'.armed = D.armed → D'.cnt = D.cnt + 1 → W'.dir = W.dir → (W'.AP.length ≤ W.AP.length + 1 ∧ W'.size ≤ 4096 + (frame xs).length ∧ hasB W' = true ∧ W.AP <+: W'.AP ∧ ∀ s, (D'.files s).isSome = true → (D.files s).isSome = true ∨ s = AG W'.dir ks W'.opn) → A5 D'.files D'.cnt W' rc KZ M5 → safe ≤ M5 → Ao KZ = Ao sg ++ [xs] → Out W.dir D.files D'.files →
   D'.files (BC W.dir) = D.files (BC W.dir) → W'.check = W.check → (hasB W = false → W'.AP = W.AP ++ [W.opn] ∧ W'.opn = W.opn ∧ W'.size = W.size + (frame xs).length) → (hasB W = true → W.size < 4096 → W'.AP = W.AP ∧ W'.opn = W.opn ∧ W'.size = W.size + (frame xs).length) → (hasB W = false ∨ W.size < 4096 → D'.files = Em D.files (AG W.dir ks W.opn) (frame xs)) → rok σ'
 bad : D.armed = true → ∀ σ' D' told, Ai σ' d D' τ → D'.up = false → D'.armed = false → (D'.cnt ≤ D.cnt + 1 ∧ ∀ s, (D'.files s).isSome = true → (D.files s).isSome = true ∨ s = AG W.dir ks W.opn ∨ s = AG W.dir ks (W.opn + 1)) → HN D'.files W.dir D'.cnt told → told <+: rc ++ Ao sg ++ [xs] → safe ≤ told.length → lx σ'
theorem vI {b0 b1 : Nat} {pf : Option Addr} {cf : Nat} {fr : List Int} (h : Aj σ d b D W τ) (t0 : τ b0 = some (.cells #[.pointer (some ⟨b, 0, none⟩)] 158 (0, 0))) (t1 : τ b1 = some (.cells #[.slice pf fr.length cf] 84 (0, 0))) (Ee : W.size + fr.length ≤ 4194304)
   (hR : ∀ σ', Aj σ' d b D { W with size := W.size + fr.length } τ → R (.returned (.tuple #[])) σ') : BP.Gp R b0 b1 σ := by
 have r := h.rd
 have hx := h.ext
 refine BP.Gq ⟨_, AD (hx _ _ t0) rfl, b, 0, rfl, W.size, r.size, pf, _, cf, AD (hx _ _ t1) rfl, by unfold AO; omega, ?_⟩
 have e : ((W.size : Int) + (fr.length : Int)) = ((W.size + fr.length : Nat) : Int) := by omega
 rw [e]
 exact h.st (i := 0 + 5) (W' := { W with size := W.size + fr.length }) (by omega) rfl (fun p n c => rfl) hR
theorem vJ {b0 b1 : Nat} {pf : Option Addr} {cf : Nat} {xs : List Int} {rc : Bz} {sg : Sg} {safe vK : Nat} {D0 : Dk} {W0 : Wl} (h : Aj σ d b D W τ) (ht : Tb τ) (t0 : τ b0 = some (.cells #[.pointer (some ⟨b, 0, none⟩)] 158 (0, 0))) (t1 : τ b1 = some (.cells #[.slice pf (frame xs).length cf] 84 (0, 0)))
   (hx : CA .u8 τ pf (frame xs).length (frame xs)) (Vq : xs.length ≤ 65536) (h8 : E8 xs) (Ev : D.up = true) (GJ : D.cnt < 67108864) (hfew : Oh D) (hd : CL W.dir = true) (Au : A5 D.files D.cnt W rc sg safe) (Ee : W.size ≤ 4096) (hss : vK ≤ safe)
   (hD : D.armed = D0.armed ∧ D.cnt = D0.cnt ∧ Out W.dir D0.files D.files ∧ D.files (BC W.dir) = D0.files (BC W.dir) ∧ ∀ s, (D.files s).isSome = true → (D0.files s).isSome = true) (ho0 : W.opn = W0.opn ∨ W.opn = W0.opn + 1) (hW : W.dir = W0.dir ∧ W.AP = W0.AP ∧ W.check = W0.check ∧ (hasB W0 = false → W = W0) ∧ (hasB W0 = true → W0.size < 4096 → W = W0) ∧ (hasB W0 = false ∨ W0.size < 4096 → W = W0 ∧ D.files = D0.files))
   (hR : yx d b D0 W0 τ rc sg vK xs (fun σ' => R (.returned (.tuple #[])) σ') (fun σ' => R (.panicked (bX 60)) σ')) : BP.CF R b0 b1 σ := by
 have r := h.rd
 have R9 := h.ext
 have OJ : W.dir.size ≤ 32 := by simp [CL] at hd; exact hd.2
 have yy := Au.opn.2.1
 have Z9 := Om Vq
 have Jw : Ae (AG W.dir ks W.opn) = true := FM hd (.inr rfl) (by omega)
 refine BP.BX ⟨_, AD (R9 _ _ t0) rfl, b, 0, rfl, _, r.ptr, _, AD (R9 _ _ t0) rfl, _, AD (R9 _ _ t0) rfl, b, 0, rfl, W.opn, r.opn, pf, _, cf, AD (R9 _ _ t1) rfl, ?_⟩
 refine DI (kind := ks) r.dir OJ (.inr rfl) (by omega) (ht.mono R9) fun σ1 BH => ⟨_, rfl, Kp.CG BH, ?_⟩
 have h1 := h.mono BH
 have hlen : ((D.files (AG W.dir ks W.opn)).getD ⟨[], 0⟩).data.length ≤ 4096 := by
   cases hb : hasB W with
   | true =>
     obtain ⟨s0, x, rfl, he⟩ := (EX Au).1 hb
     obtain ⟨f, hf, e⟩ := Au.sh.file s0.length x (by simp)
     rw [he] at hf
     rw [hf]
     have := Au.size x (by simp) he
     simp at e
     simp [e]; omega
   | false =>
     rw [Au.free (by omega) ((EX Au).2 hb)]; simp
 have ly : ∀ KZ : Sg, Ao KZ = Ao sg ++ [xs] → rc ++ Ao KZ = rc ++ Ao sg ++ [xs] := fun KZ e => by rw [e, List.append_assoc]
 have AE4 : ∀ W' KZ, W'.dir = W.dir → A5 (Em D.files (AG W.dir ks W.opn) (frame xs)) (D.cnt + 1) W' rc KZ safe → Ao KZ = Ao sg ++ [xs] → D.armed = true → ∀ σ' gs, Gg (Em D.files (AG W.dir ks W.opn) (frame xs)) gs → Ai σ' d ⟨gs, false, false, D.cnt + 1⟩ τ → R (.panicked (bX 60)) σ' := by
   intro W' KZ Q7 hl he ha σ' gs hg M6
   obtain ⟨told, g1, g2, g3⟩ := hl.dS hg
   rw [ly KZ he] at g2
   rw [Q7] at g1
   refine hR.bad (hD.1 ▸ ha) σ' _ told M6 rfl rfl ⟨by simp only; omega, fun s hs => ?_⟩ (hW.1 ▸ g1) g2 (by omega)
   have aM := hg.VD hs
   by_cases JT : s = AG W.dir ks W.opn
   · rw [JT, hW.1]
     rcases ho0 with e | e <;> rw [e]
     · exact .inr (.inl rfl)
     · exact .inr (.inr rfl)
   · rw [Cf JT] at aM
     exact .inl (hD.2.2.2.2 s aM)
 have okR : ∀ W' KZ M5, W'.check = W.check → (hasB W = false → W'.AP = W.AP ++ [W.opn] ∧ W'.opn = W.opn ∧ W'.size = W.size + (frame xs).length) → (hasB W = true → W'.AP = W.AP ∧ W'.opn = W.opn ∧ W'.size = W.size + (frame xs).length) → W'.dir = W.dir → (W'.AP.length ≤ W.AP.length + 1 ∧ W'.size ≤ 4096 + (frame xs).length ∧ hasB W' = true ∧ W.AP <+: W'.AP ∧ W'.opn = W.opn) → A5 (Em D.files (AG W.dir ks W.opn) (frame xs)) (D.cnt + 1) W' rc KZ M5 → safe ≤ M5 → Ao KZ = Ao sg ++ [xs] → ∀ σ', Aj σ' d b ⟨Em D.files (AG W.dir ks W.opn) (frame xs), true, D.armed, D.cnt + 1⟩ W' τ → R (.returned (.tuple #[])) σ' := by
   intro W' KZ M5 q1 q2 q3 Q7 dV hl hle he σ' r6
   refine hR.ok σ' _ W' KZ M5 r6 rfl hD.1 (by simp only; omega) (Q7.trans hW.1) ⟨by rw [← hW.2.1]; exact dV.1, dV.2.1, dV.2.2.1, by rw [← hW.2.1]; exact dV.2.2.2.1, fun s hs => ?_⟩ hl (by omega) he ?_ ?_ (q1.trans hW.2.2.1) (fun hb => by rw [← hW.2.2.2.1 hb]; exact q2 (by rw [hW.2.2.2.1 hb]; exact hb)) (fun hb hz => by rw [← hW.2.2.2.2.1 hb hz]; exact q3 (by rw [hW.2.2.2.2.1 hb hz]; exact hb)) (fun hz => by obtain ⟨e1, e2⟩ := hW.2.2.2.2.2 hz; rw [← e1, ← e2])
   · by_cases JT : s = AG W.dir ks W.opn
     · exact .inr (by rw [JT, Q7, dV.2.2.2.2])
     · have aM : (Em D.files (AG W.dir ks W.opn) (frame xs) s).isSome = true := hs
       rw [Cf JT] at aM
       exact .inl (hD.2.2.2.2 s aM)
   · exact hW.1 ▸ hD.2.2.1.trans (Out.app (.inr rfl) (by have := Au.opn.1; omega) (by omega))
   · have := hD.2.2.2.1
     rw [← hW.1]
     show Em D.files (AG W.dir ks W.opn) (frame xs) (BC W.dir) = _
     rw [Cf (Bq (.inr rfl))]; exact this
 refine r5 h1 Ev Jw hfew hx (by omega) ⟨fun σ2 h2 => ⟨_, rfl, I2 ?_⟩, fun ha σ2 gs hg M6 => ⟨_, rfl, MK ?_⟩⟩
 · have An := h2.ext
   refine ⟨_, AD (An _ _ t0) rfl, Q6 h2 ⟨_, rfl, fun hb => ?_, fun hb => ?_⟩⟩
   · have Be := (EX Au).2 hb
     have hl := Au.vG (by omega) Be Vq h8
     obtain ⟨p53, c53, ASm, AE5, APi⟩ := h2.rd.AP
     refine ⟨_, AD (An _ _ t0) rfl, _, AD (An _ _ t0) rfl, b, 0, rfl, p53, _, c53, AE5, _, AD (An _ _ t0) rfl, b, 0, rfl, W.opn, h2.rd.opn, fun NS AE6 => ?_⟩
     have LO : W.AP.length ≤ 67108864 := Nat.le_trans (Au.len) (by omega)
     have hb0 : ∀ b, τ b ≠ none → b ≠ NS := fun b' h1 e => by
       cases h2 : τ b' with
       | none => exact h1 h2
       | some o => have := An _ _ h2; rw [e, AE6] at this; cases this
     refine (h2.app (Φ := fun _ AE7 => BP.Gp R b0 b1 AE7) AE5 LO AE6 (K := fun σa σb => Kp [b0] σa σb) (fun σ' Cc => fun k hk o ho => ?_) fun σ3 h3 => ?_).mono fun v σ3 ⟨p', n', c', e1, e2, e3⟩ => ⟨p', n', c', e1, e2, b, 0, rfl, e3⟩
     · simp only [List.mem_singleton] at hk
       subst hk
       rw [Hp.AF (hb0 k (by rw [t0]; simp)), An _ _ t0] at ho
       cases ho
       exact Cc _ _ t0
     · exact vI h3 t0 t1 (by simp only; omega) fun σ4 h4 => okR { W with AP := W.AP ++ [W.opn], size := W.size + (frame xs).length } _ _ rfl (fun _ => ⟨rfl, rfl, rfl⟩) (fun hh => by rw [hb] at hh; cases hh) rfl ⟨by simp, by simp only; omega, by simp [hasB], List.prefix_append _ _, rfl⟩ hl (Nat.le_refl _) (by simp [Ao]) σ4 h4
   · obtain ⟨s0, x, rfl, he⟩ := (EX Au).1 hb
     have hl := Au.vF (by omega) he Vq h8
     refine vI h2 t0 t1 (by omega) fun σ3 h3 => okR { W with size := W.size + (frame xs).length } _ _ rfl (fun hh => by rw [hb] at hh; cases hh) (fun _ => ⟨rfl, rfl, rfl⟩) rfl ⟨by simp, by simp only; omega, hb, List.prefix_refl _, rfl⟩ hl (Nat.le_refl _) ?_ σ3 h3
     simp [Ao]
 · cases hb : hasB W with
   | true =>
     obtain ⟨s0, x, rfl, he⟩ := (EX Au).1 hb
     exact AE4 { W with size := W.size + (frame xs).length } _ rfl (Au.vF (by omega) he Vq h8) (by simp [Ao]) ha σ2 gs hg M6
   | false => exact AE4 { W with AP := W.AP ++ [W.opn], size := W.size + (frame xs).length } _ rfl (Au.vG (by omega) ((EX Au).2 hb) Vq h8) (by simp [Ao]) ha σ2 gs hg M6
end
end TwW
end
section
namespace TwW
open Go Tw Go.RowKit Go.Proofs.Tryz
section
variable {σ σ' τ : Hp} {d b : Nat} {D : Dk} {W : Wl} {R : Rr}
theorem ALa : Enters prog 130 := fun args w => call130 args w
theorem A5.size_le {fs : Fs} {cnt : Nat} {rc : Bz} {safe : Nat} {s0 : Sg} {x : Nat × Bz} (h : A5 fs cnt W rc (s0 ++ [x]) safe) (he : x.1 = W.opn) : ∃ f, fs (AG W.dir ks W.opn) = some f ∧ f.data.length = W.size := by
 obtain ⟨f, hf, e⟩ := h.sh.file s0.length x (by simp)
 rw [he] at hf
 have := h.size x (by simp) he
 simp at e
 exact ⟨f, hf, by rw [e, this]⟩
theorem A5.r7 {fs : Fs} {cnt : Nat} {rc : Bz} {sg : Sg} {safe : Nat} (h : A5 fs cnt W rc sg safe) : safe ≤ (rc ++ Ao sg).length := by
 by_cases hl : ∃ x ∈ sg, x.1 = W.opn
 · obtain ⟨x, hx, he⟩ := hl
   obtain ⟨m, f, hm, _, _, hs⟩ := h.dur x hx he
   omega
 · exact h.gH fun x hx he => hl ⟨x, hx, he⟩
theorem gI {b0 b1 : Nat} {pf : Option Addr} {cf : Nat} {xs : List Int} {rc : Bz} {sg : Sg} {safe : Nat} (h : Aj σ d b D W τ) (ht : Tb τ) (t0 : τ b0 = some (.cells #[.pointer (some ⟨b, 0, none⟩)] 158 (0, 0))) (t1 : τ b1 = some (.cells #[.slice pf (frame xs).length cf] 84 (0, 0)))
   (hx : CA .u8 τ pf (frame xs).length (frame xs)) (Vq : xs.length ≤ 65536) (h8 : E8 xs) (Ev : D.up = true) (GJ : D.cnt < 67108864) (hfew : Oh D) (hd : CL W.dir = true) (Au : A5 D.files D.cnt W rc sg safe)
   (hR : yx d b D W τ rc sg safe xs (fun σ' => R (.returned (.tuple #[])) σ') (fun σ' => R (.panicked (bX 60)) σ')) : Spec prog 130 #[.pointer (some ⟨b0, 0, none⟩), .pointer (some ⟨b1, 0, none⟩)] σ R := by
 have r := h.rd
 have R9 := h.ext
 have OJ : W.dir.size ≤ 32 := by simp [CL] at hd; exact hd.2
 have yy := Au.opn.2.1
 have keep : W.size ≤ 4096 → BP.CF R b0 b1 σ := fun Ee => vJ h ht t0 t1 hx Vq h8 Ev GJ hfew hd Au Ee (Nat.le_refl _) ⟨rfl, rfl, Out.refl, rfl, fun _ hs => hs⟩ (.inl rfl) ⟨rfl, rfl, rfl, fun _ => rfl, fun _ _ => rfl, fun _ => ⟨rfl, rfl⟩⟩ hR
 refine BP.start ⟨_, AD (R9 _ _ t0) rfl, Q6 h ⟨_, rfl, fun hb => ?_, fun hb => ?_⟩⟩
 · obtain ⟨s0, x, rfl, he⟩ := (EX Au).1 hb
   refine ⟨_, AD (R9 _ _ t0) rfl, b, 0, rfl, W.size, r.size, fun Fy => ?_, fun MR => keep (by omega)⟩
   obtain ⟨f, hf, Z9⟩ := Au.size_le he
   have Jw : Ae (AG W.dir ks W.opn) = true := FM hd (.inr rfl) (by omega)
   refine ⟨_, AD (R9 _ _ t0) rfl, b, 0, rfl, _, r.ptr, _, AD (R9 _ _ t0) rfl, _, AD (R9 _ _ t0) rfl, b, 0, rfl, W.opn, r.opn, ?_⟩
   refine DI (kind := ks) r.dir OJ (.inr rfl) (by omega) (ht.mono R9) fun σ1 BH => ⟨_, rfl, Kp.CG BH, ?_⟩
   have h1 := h.mono BH
   have r8 := Au.synced (by omega) he hf
   refine vH h1 Ev Jw hf ⟨fun σ2 h2 => ⟨_, rfl, I2 ?_⟩, fun ha σ2 gs hg M6 => ⟨_, rfl, MK ?_⟩⟩
   · have An := h2.ext
     have MI : ∀ s, (TwW.BG D.files (AG W.dir ks W.opn) (some ⟨f.data, f.data.length⟩) s).isSome = true → (D.files s).isSome = true := fun s hs => by
       by_cases JT : s = AG W.dir ks W.opn
       · rw [JT, hf]; rfl
       · rwa [Ax JT] at hs
     have ALb := r8.rotate (by omega) he (fun g hg => by rw [C6] at hg; cases hg; rfl) (Nat.le_refl _)
     refine ⟨_, AD (An _ _ t0) rfl, b, 0, rfl, W.opn, h2.rd.opn, by unfold AO; omega, ?_⟩
     have e : ((W.opn : Int) + 1) = ((W.opn + 1 : Nat) : Int) := by omega
     rw [e]
     refine h2.st (i := 0 + 4) (W' := { W with opn := W.opn + 1 }) (by omega) rfl (fun p n c => rfl) fun σ3 h3 => ?_
     have DR := h3.ext
     refine ⟨_, AD (DR _ _ t0) rfl, b, 0, rfl, ?_⟩
     refine h3.st (i := 0 + 5) (x := 0) (W' := { W with opn := W.opn + 1, size := 0 }) (by omega) rfl (fun p n c => rfl) fun σ4 h4 => ?_
     exact vJ (D0 := D) (W0 := W) h4 ht t0 t1 hx Vq h8 rfl GJ (hfew.sub (Nat.le_refl _) MI) hd ALb (Nat.zero_le _) Au.r7 ⟨rfl, rfl, Out.put (.inr rfl) (by have := Au.opn.1; omega) (by omega), Ax (Bq (.inr rfl)), MI⟩ (.inr rfl) ⟨rfl, rfl, rfl, fun hh => (by rw [hb] at hh; cases hh), fun _ hz => (by omega), fun hz => (by rcases hz with hz | hz; rw [hb] at hz; cases hz; omega)⟩ hR
   · obtain ⟨told, g1, g2, g3⟩ := Au.dS hg
     exact hR.bad ha σ2 _ told M6 rfl rfl ⟨by simp only; omega, fun s hs => .inl (hg.VD hs)⟩ g1 (g2.trans (List.prefix_append _ _)) g3
 · have Be := (EX Au).2 hb
   exact keep (by rw [Au.I1 Be]; omega)
theorem VF {p : Option Addr} {n c : Nat} {xs : List Int} {rc : Bz} {sg : Sg} {safe : Nat} (h : Aj σ d b D W τ) (ht : Tb τ) (hx : CA .u8 τ p n xs) (h8 : E8 xs) (Ev : D.up = true) (GJ : D.cnt < 67108864) (hd : CL W.dir = true) (Au : A5 D.files D.cnt W rc sg safe)
   (lz : 65536 < n → ∀ σ', Aj σ' d b D W τ → R (.returned (.int .i64 70)) σ')
   (hR : n ≤ 65536 → yx d b D W τ rc sg safe xs (fun σ' => R (.returned (.int .i64 0)) σ') (fun σ' => R (.returned (.int .i64 60)) σ')) (hfew : Oh D := by refine .inl ?_; first | omega | (dsimp only [dk]; omega) | (dsimp only; omega)) : Spec prog 63 #[.pointer (some ⟨b, 0, none⟩), .slice p n c] σ R := by
 have hnx : xs.length = n := hx.1
 refine KI.start fun b2 HV => ?_
 obtain ⟨τ1, h1, x1, t0⟩ := h.box (o := .cells #[.pointer (some ⟨b, 0, none⟩)] 158 (0, 0)) HV
 refine Qz (hx.mono (x1.trans h1.ext)) (fun hl => ⟨_, _, _, _, rfl, fun b5 XT => ?_⟩) fun hle p' n' c' σ1 ho BH => ⟨_, _, _, _, rfl, fun b5 XT => ?_⟩
 · obtain ⟨τ2, h2, x2, t5⟩ := h1.box (o := .cells #[.slice none 0 0] 84 (0, 0)) XT
   refine AJ.store (v := .slice none 0 0) U1 (Hp.AA _ _ _) rfl (by simp) (by simp [Value.cells, Value.oneCell']) ?_
   rw [Hp.set_set]
   obtain ⟨τ3, h3, x3, t5⟩ := h1.box (o := .cells (DX #[.slice none 0 0] 0 (Value.slice none 0 0).cells.toList) 84 (0, 0)) XT
   exact ⟨fun _ => lz hl _ (h3.EW (x1.trans x3)), fun hh => absurd (by decide) hh⟩
 · obtain ⟨τ2, h2, x2, gJ⟩ := h1.grow BH
   have Z9 : (frame xs).length = n' := by have := ho.1; simpa using this
   subst Z9
   have Vx : CA .u8 τ2 p' (frame xs).length (frame xs) := (AS.rd ho).mono gJ
   refine AJ.store (v := .slice p' (frame xs).length c') U1 (Hp.AA _ _ _) rfl (by simp) (by simp [Value.cells, Value.oneCell']) ?_
   rw [Hp.set_set]
   obtain ⟨τ3, h3, x3, t5⟩ := h2.box (o := .cells (DX #[.slice none 0 0] 0 (Value.slice p' (frame xs).length c').cells.toList) 84 (0, 0)) XT
   have hτ : Ext τ τ3 := x1.trans (x2.trans x3)
   have hR' := hR hle
   refine ⟨fun hh => absurd rfl hh, fun _ => KY ALa ?_⟩
   refine gI h3 (ht.mono hτ) (x3 _ _ (x2 _ _ t0)) t5 (Vx.mono x3) (by omega) h8 Ev GJ hfew hd Au
     ⟨fun σ' D' W' KZ M5 a1 a2 a3 a4 a5 a6 a7 a8 a9 a10 a11 a12 a13 a14 a15 => .inl ⟨rfl, _, rfl, hR'.ok σ' D' W' KZ M5 (a1.EW hτ) a2 a3 a4 a5 a6 a7 a8 a9 a10 a11 a12 a13 a14 a15⟩, fun ha σ' D' told a1 a2 a3 a4 a5 a6 a7 => .inr ⟨60, rfl, _, rfl, hR'.bad ha σ' D' told (a1.EW hτ) a2 a3 a4 a5 a6 a7⟩⟩
theorem aN {rc : Bz} {sg : Sg} {safe : Nat} (h : Aj σ d b D W τ) (ht : Tb τ) (Ev : D.up = true) (GJ : D.cnt < 67108864) (hd : CL W.dir = true) (Au : A5 D.files D.cnt W rc sg safe)
   (hR : ∀ σ' D', Aj σ' d b D' W τ → D'.up = true → D'.armed = D.armed → D'.cnt = D.cnt → A5 D'.files D'.cnt W rc sg (rc ++ Ao sg).length → Out W.dir D.files D'.files → D'.files (BC W.dir) = D.files (BC W.dir) → ((hasB W = true → ∃ f, D.files (AG W.dir ks W.opn) = some f ∧ D'.files = BG D.files (AG W.dir ks W.opn) (some ⟨f.data, f.data.length⟩)) ∧ ∀ s, (D'.files s).isSome = true → (D.files s).isSome = true) → R (.returned (.int .i64 0)) σ')
   (KU : D.armed = true → ∀ σ' D' told, Ai σ' d D' τ → D'.up = false → D'.armed = false → (D'.cnt = D.cnt ∧ ∀ s, (D'.files s).isSome = true → (D.files s).isSome = true) → HN D'.files W.dir D'.cnt told → told <+: rc ++ Ao sg → safe ≤ told.length → R (.returned (.int .i64 60)) σ') : Spec prog 65 #[.pointer (some ⟨b, 0, none⟩)] σ R := by
 have r := h.rd
 have OJ : W.dir.size ≤ 32 := by simp [CL] at hd; exact hd.2
 have yy := Au.opn.2.1
 refine Mn.start (Q6 h ⟨_, rfl, fun hb => ?_, fun hb => ⟨b, 0, rfl, _, r.ptr, W.opn, r.opn, ?_⟩⟩)
 · have Be := (EX Au).2 hb
   exact hR σ D h Ev rfl rfl { Au with dur := fun x hx he => absurd he (Be x hx), gH := fun _ => Nat.le_refl _ } Out.refl rfl ⟨fun hh => (by rw [hb] at hh; cases hh), fun _ hs => hs⟩
 · obtain ⟨s0, x, rfl, he⟩ := (EX Au).1 hb
   obtain ⟨f, hf, Z9⟩ := Au.size_le he
   have Jw : Ae (AG W.dir ks W.opn) = true := FM hd (.inr rfl) (by omega)
   refine DI (kind := ks) r.dir OJ (.inr rfl) (by omega) (ht.mono h.ext) fun σ1 BH => ⟨_, rfl, Kp.CG BH, ?_⟩
   refine vH (h.mono BH) Ev Jw hf ⟨fun σ2 h2 => ⟨_, rfl, ?_⟩, fun ha σ2 gs hg M6 => ⟨_, rfl, ?_⟩⟩
   · exact hR σ2 _ h2 rfl rfl rfl (Au.synced (by omega) he hf) (Out.put (.inr rfl) (by have := Au.opn.1; omega) (by omega)) (Ax (Bq (.inr rfl))) ⟨fun _ => ⟨f, hf, rfl⟩, fun s hs => by
       by_cases JT : s = AG W.dir ks W.opn
       · rw [JT, hf]; rfl
       · have aM : (TwW.BG D.files (AG W.dir ks W.opn) (some ⟨f.data, f.data.length⟩) s).isSome = true := hs
         rwa [Ax JT] at aM⟩
   · obtain ⟨told, g1, g2, g3⟩ := Au.dS hg
     exact KU ha σ2 _ told M6 rfl rfl ⟨rfl, fun s hs => hg.VD hs⟩ g1 g2 g3
end
end TwW
end
section
namespace TwW
open Go Tw Go.RowKit Go.Proofs.Tryz
theorem Tm : ∀ (c l m : List UInt8), c ++ l ≤ c ++ m → l ≤ m
 | [], _, _, h => h
 | a :: c, l, m, h => by
   rcases List.cons_le_cons_iff.1 (show a :: (c ++ l) ≤ a :: (c ++ m) from h) with h1 | ⟨_, h2⟩
   · exact absurd h1 (by simp [UInt8.lt_irrefl])
   · exact Tm c l m h2
theorem Xp : ∀ {l m : List Nat}, l.Pairwise (· < ·) → m.Pairwise (· < ·) → (∀ x, x ∈ l ↔ x ∈ m) → l = m
 | [], [], _, _, _ => rfl
 | [], b :: m, _, _, h => by have := (h b).2 (by simp); cases this
 | a :: l, [], _, _, h => by have := (h a).1 (by simp); cases this
 | a :: l, b :: m, hl, hm, h => by
   rw [List.pairwise_cons] at hl hm
   have gK : a = b := by
     rcases List.mem_cons.1 ((h a).1 (by simp)) with e | e
     · exact e
     · rcases List.mem_cons.1 ((h b).2 (by simp)) with e2 | e2
       · exact e2.symm
       · have h1 := hm.1 a e; have h2 := hl.1 b e2; omega
   subst gK
   rw [Xp hl.2 hm.2 fun x => ⟨fun hx => ?_, fun hx => ?_⟩]
   · rcases List.mem_cons.1 ((h x).1 (by simp [hx])) with e | e
     · have := hl.1 x hx; omega
     · exact e
   · rcases List.mem_cons.1 ((h x).2 (by simp [hx])) with e | e
     · have := hm.1 x hx; omega
     · exact e
theorem l3 {dir s t : ByteArray} (hs : 0 < numOf dir ks s) (ht : 0 < numOf dir ks t) (h : s.data.toList ≤ t.data.toList) : numOf dir ks s ≤ numOf dir ks t := by
 obtain ⟨e1, l1⟩ := EE hs
 obtain ⟨e2, l2⟩ := EE ht
 rw [e1, e2, Cm, Cm] at h
 have h2 := vB _ _ (by rw [Iy l1, Iy l2]) (KV _) (KV _) (Tm _ _ _ h)
 rwa [M3, M3] at h2
def Ed (dir : ByteArray) (check : Nat) (L : List ByteArray) : List Nat := (L.map (numOf dir ks)).filter fun n => decide (check < n)
theorem M7 {fs : Fs} {dir pre : ByteArray} {check : Nat} : ∀ {L : List ByteArray}, L.Pairwise (fun a b => a.data.toList ≤ b.data.toList) → L.Nodup → (Ed dir check L).Pairwise (· < ·)
 | [], _, _ => by simp [Ed]
 | s :: L, hs, hn => by
   rw [List.pairwise_cons] at hs
   rw [List.nodup_cons] at hn
   have ih := M7 (fs := fs) (pre := pre) (dir := dir) (check := check) hs.2 hn.2
   unfold Ed at ih ⊢
   rw [List.map_cons, List.filter_cons]
   split
   · rename_i hc
     rw [List.pairwise_cons]
     refine ⟨fun n Jm => ?_, ih⟩
     obtain ⟨h1, h2⟩ := List.mem_filter.1 Jm
     obtain ⟨t, ht, rfl⟩ := List.mem_map.1 h1
     simp only [decide_eq_true_eq] at hc h2
     have hle := l3 (dir := dir) (s := s) (t := t) (by omega) (by omega) (hs.1 t ht)
     rcases Nat.lt_or_ge (numOf dir ks s) (numOf dir ks t) with h | h
     · exact h
     · exfalso
       have e : numOf dir ks s = numOf dir ks t := by omega
       have h3 := (EE (dir := dir) (kind := ks) (s := s) (by omega)).1
       have h4 := (EE (dir := dir) (kind := ks) (s := t) (by omega)).1
       rw [e, ← h4] at h3
       exact hn.1 (h3 ▸ ht)
   · exact ih
theorem Q8 {dir kind s : ByteArray} (h : 0 < numOf dir kind s) : BR s (dir ++ Cn) = true := by
 rw [(EE h).1]; exact DB
theorem aO {fs : Fs} {dir : ByteArray} {cnt check : Nat} {rc : Bz} {sg : Sg} {tail : List Int} {L : List ByteArray} (h : Shape fs dir cnt check rc sg tail) (hc : cnt < 99999999) (hL : Names fs (dir ++ Cn) L) : Ed dir check L = sg.map (·.1) := by
 refine Xp (M7 (fs := fs) (pre := dir) hL.sorted hL.nodup) (by rw [List.pairwise_map]; exact h.Jz) fun n => ⟨fun hn => ?_, fun hn => ?_⟩
 · obtain ⟨h1, h2⟩ := List.mem_filter.1 hn
   obtain ⟨s, hs, rfl⟩ := List.mem_map.1 h1
   obtain ⟨x, hx, e⟩ := h.dQ s ((hL.mem s).1 hs).1 (by simpa using h2)
   exact List.mem_map.2 ⟨x, hx, e⟩
 · obtain ⟨x, hx, rfl⟩ := List.mem_map.1 hn
   obtain ⟨k, hk⟩ := List.getElem?_of_mem hx
   have hg := h.gt x hx
   have hf := (h.file k x hk).VD
   have e : numOf dir ks (AG dir ks x.1) = x.1 := By (by omega)
   exact List.mem_filter.2 ⟨List.mem_map.2 ⟨_, (hL.mem _).2 ⟨hf, DB⟩, e⟩, by simpa using hg.1⟩
def LP (dir : ByteArray) (L : List ByteArray) : Nat := (L.map (numOf dir kc)).foldl max 0
theorem foldl_max : ∀ (l : List Nat) (a m : Nat), a ≤ m → (∀ x ∈ l, x ≤ m) → (a = m ∨ m ∈ l) → l.foldl max a = m
 | [], a, m, h, _, hm => by rcases hm with h | h; exact h; cases h
 | x :: l, a, m, h, hb, hm => by
   rw [List.foldl_cons]
   have hx := hb x (by simp)
   refine foldl_max l (max a x) m (by omega) (fun y hy => hb y (by simp [hy])) ?_
   rcases hm with h1 | h1
   · left; omega
   · rcases List.mem_cons.1 h1 with rfl | h1
     · left; omega
     · exact .inr h1
theorem dW {fs : Fs} {dir : ByteArray} {cnt check : Nat} {rc : Bz} {sg : Sg} {tail : List Int} {L : List ByteArray} (h : Shape fs dir cnt check rc sg tail) (hc : cnt < 99999999) (hL : Names fs (dir ++ Cn) L) : LP dir L = check := by
 refine foldl_max _ _ _ (Nat.zero_le _) (fun n hn => ?_) ?_
 · obtain ⟨s, hs, rfl⟩ := List.mem_map.1 hn
   exact h.Y7 s ((hL.mem s).1 hs).1
 · rcases Nat.eq_zero_or_pos check with h0 | h0
   · exact .inl h0.symm
   · have r9 := h.aL
     exact .inr (List.mem_map.2 ⟨AG dir kc check, (hL.mem _).2 ⟨(h.PT h0).VD, DB⟩, By (by omega)⟩)
theorem gL {dir s : ByteArray} {L : List ByteArray} : LP dir (L ++ [s]) = max (LP dir L) (numOf dir kc s) := by simp [LP, List.foldl_append]
def junk (dir : ByteArray) (check : Nat) (s : ByteArray) : Bool := (decide (0 < numOf dir kc s) && decide (numOf dir kc s < check)) || (decide (0 < numOf dir ks s) && decide (numOf dir ks s ≤ check))
open Classical in
noncomputable def DZ (fs : Fs) (p : ByteArray → Bool) (L : List ByteArray) : Fs := fun s => if s ∈ L ∧ p s = true then none else fs s
theorem Xq {fs : Fs} {p : ByteArray → Bool} : DZ fs p [] = fs := by funext s; simp [DZ]
theorem Q9 {fs : Fs} {p : ByteArray → Bool} {L : List ByteArray} {s t : ByteArray} (P2 : ¬ t = s) : DZ fs p (L ++ [s]) t = DZ fs p L t := by
 have e : (t ∈ L ++ [s] ∧ p t = true) ↔ (t ∈ L ∧ p t = true) := by simp [P2]
 unfold DZ
 by_cases hc : t ∈ L ∧ p t = true
 · rw [if_pos (e.2 hc), if_pos hc]
 · rw [if_neg fun h => hc (e.1 h), if_neg hc]
theorem I3 {fs : Fs} {p : ByteArray → Bool} {L : List ByteArray} {s : ByteArray} : DZ fs p (L ++ [s]) = if p s = true then BG (DZ fs p L) s none else DZ fs p L := by
 funext t
 by_cases hp : p s = true
 · rw [if_pos hp]
   by_cases P2 : t = s
   · subst P2
     unfold DZ
     rw [if_pos ⟨by simp, hp⟩, C6]
   · rw [Q9 P2, Ax P2]
 · rw [if_neg hp]
   by_cases P2 : t = s
   · subst P2
     unfold DZ
     rw [if_neg fun h => hp h.2, if_neg fun h => hp h.2]
   · exact Q9 P2
theorem dX {fs : Fs} {p : ByteArray → Bool} {L : List ByteArray} {s : ByteArray} (h : s ∉ L) : DZ fs p L s = fs s := by simp [DZ, h]
theorem Shape.del {fs : Fs} {dir : ByteArray} {cnt check : Nat} {rc : Bz} {sg : Sg} {tail : List Int} {p : ByteArray → Bool} {L : List ByteArray} (h : Shape fs dir cnt check rc sg tail) (hc : cnt < 99999999) (hp : ∀ s, p s = true → (numOf dir kc s = 0 ∨ numOf dir kc s < check) ∧ numOf dir ks s ≤ check) : Shape (DZ fs p L) dir cnt check rc sg tail := by
 have r9 := h.aL
 refine h.congr (Nat.le_refl _) (fun h0 => ?_) (fun x hx => ?_) fun s hs => ?_
 · unfold DZ
   rw [if_neg]
   rintro ⟨_, hps⟩
   have := (hp _ hps).1
   rw [By (by omega)] at this
   omega
 · have hg := h.gt x hx
   unfold DZ
   rw [if_neg]
   rintro ⟨_, hps⟩
   have := (hp _ hps).2
   rw [By (by omega)] at this
   omega
 · unfold DZ at hs
   split at hs
   · cases hs
   · exact .inl hs
theorem Out.DZ {fs : Fs} {dir : ByteArray} {p : ByteArray → Bool} {L : List ByteArray} (hp : ∀ s, p s = true → BR s (dir ++ Cn) = true) : Out dir fs (TwW.DZ fs p L) := by
 refine ⟨fun s hs => ?_, fun s hs => ?_⟩
 · unfold TwW.DZ
   rw [if_neg]
   rintro ⟨_, h⟩
   rw [hp s h] at hs; cases hs
 · unfold TwW.DZ at hs
   split at hs
   · cases hs
   · exact .inl hs
theorem VG {dir : ByteArray} {check : Nat} {s : ByteArray} (h : junk dir check s = true) : BR s (dir ++ Cn) = true ∧ (numOf dir kc s = 0 ∨ numOf dir kc s < check) ∧ numOf dir ks s ≤ check := by
 simp only [junk, Bool.or_eq_true, Bool.and_eq_true, decide_eq_true_eq] at h
 rcases h with ⟨h1, h2⟩ | ⟨h1, h2⟩
 · have := I0 h1
   exact ⟨Q8 h1, .inr h2, by omega⟩
 · refine ⟨Q8 h1, .inl ?_, h2⟩
   rcases Nat.eq_zero_or_pos (numOf dir kc s) with h0 | h0
   · exact h0
   · have := I0 h0; omega
abbrev oc (σ : Hp) (p : Option Addr) (n : Nat) (L : List ByteArray) : Prop := Gi 1 σ p n (L.map .string)
theorem oc.at {σ : Hp} {p : Option Addr} {n k : Nat} {L : List ByteArray} {s : ByteArray} (h : oc σ p n L) (hk : L[k]? = some s) : ∃ b o, p = some ⟨b, o, none⟩ ∧ σ.ld ⟨b, o + k * 1, none⟩ = some (.string s) := by
 obtain ⟨h1, _, h2⟩ := h
 have Ag := (List.getElem?_eq_some_iff.1 hk).1
 rcases h2 with h2 | ⟨b, o, hp, hl⟩
 · simp at h1; omega
 · refine ⟨b, o, hp, ?_⟩
   rw [Nat.mul_one]
   exact hl.get (by rw [List.getElem?_map, hk]; rfl)
theorem oc.len {σ : Hp} {p : Option Addr} {n : Nat} {L : List ByteArray} (h : oc σ p n L) : L.length = n := by have := h.1; simpa using this
theorem oc.mono {σ σ' : Hp} {p : Option Addr} {n : Nat} {L : List ByteArray} (h : oc σ p n L) (hx : Ext σ σ') : oc σ' p n L := Gi.mono hx h
section
variable {σ τ : Hp} {d b : Nat} {D : Dk} {W : Wl} {R : Rr} {p1 : Option Addr} {n1 c1 : Nat} {L : List ByteArray} {fs0 : Fs} {cnt : Nat}
abbrev dk (fs : Fs) (cnt : Nat) : Dk := ⟨fs, true, false, cnt⟩
theorem yz {check : Nat} (hL : Names fs0 (W.dir ++ Cn) L) {fs : Fs} (Jj : ∀ s ∈ L, junk W.dir check s = true → fs s = fs0 s) (Jm : ∀ s, (fs0 s).isSome = true → Ae s = true) (hd : W.dir.size ≤ 32) (ht : oc τ p1 n1 L) (PU : n1 ≤ 67108864)
   (hR : ∀ σ', Aj σ' d b (dk (DZ fs (junk W.dir check) L) cnt) { W with check := check, AP := Ed W.dir check L } τ → R (.returned (.tuple #[])) σ') :
   ∀ (m k : Nat) (σ : Hp), n1 - k = m → k ≤ n1 → Aj σ d b (dk (DZ fs (junk W.dir check) (L.take k)) cnt) { W with check := check, AP := Ed W.dir check (L.take k) } τ → Am.SP R (some ⟨b, 0, none⟩) p1 n1 c1 n1 k σ := by
 intro m
 have hlen := ht.len
 induction m with
 | zero =>
   intro k σ hm hk h
   rw [List.take_of_length_le (by omega)] at h
   exact Am.Ml ⟨fun hh => by omega, fun _ => hR σ h⟩
 | succ m ih =>
   intro k σ hm hk h
   have hr := h.rd
   obtain ⟨s, hs⟩ : ∃ s, L[k]? = some s := ⟨_, List.getElem?_eq_getElem (by omega)⟩
   obtain ⟨GQ, Pr, rfl, hl⟩ := (ht.mono h.ext).at hs
   have hsL : s ∈ L := List.mem_of_getElem? hs
   have lL := (hL.mem s).1 hsL
   have M8 := AR hs
   have MV : s ∉ L.take k := by
     have := hL.nodup.sublist (List.take_sublist (k + 1) L)
     rw [M8, List.nodup_append] at this
     exact fun hm => this.2.2 s hm s (by simp) rfl
   have LO : Ed W.dir check (L.take (k + 1)) = Ed W.dir check (L.take k) ++ (if check < numOf W.dir ks s then [numOf W.dir ks s] else []) := by
     rw [M8]; unfold Ed
     rw [List.map_append, List.filter_append]
     simp only [List.map_cons, List.map_nil, List.filter_cons, List.filter_nil]
     congr 1
     split <;> simp_all
   have next : ∀ σ', Aj σ' d b (dk (DZ fs (junk W.dir check) (L.take (k + 1))) cnt) { W with check := check, AP := Ed W.dir check (L.take (k + 1)) } τ → Am.G7 R (some ⟨b, 0, none⟩) (some ⟨GQ, Pr, none⟩) n1 c1 n1 k σ' := fun σ' h' =>
     Am.Pn ⟨by unfold AO; omega, ih (k + 1) σ' (by omega) (by omega) h'⟩
   have sA : (Ed W.dir check (L.take k)).length ≤ 67108864 := by
     refine Nat.le_trans (List.length_filter_le _ _) ?_
     rw [List.length_map, List.length_take]; omega
   have l6 : junk W.dir check s = true → ∃ ug : Option Addr, Hp.ld σ ⟨b, 0, none⟩ = some (.pointer ug) ∧ Spec prog 138 #[(.pointer ug), (.string s)] σ (AB R (fun v_3 BE => ∃ uh : Int, v_3 = (.int .i64 uh) ∧ Spec prog 132 #[(.int .i64 uh)] BE (AB R (fun v_4 OP => v_4 = (.tuple #[]) ∧ Am.G7 R (some ⟨b, 0, none⟩) (some ⟨GQ, Pr, none⟩) n1 c1 n1 k OP)))) := fun hj => by
     obtain ⟨f, hf⟩ := Option.isSome_iff_exists.1 lL.1
     have oA := VG hj
     refine ⟨_, hr.ptr, Pw h rfl (Jm s lL.1) (f := f) (by show DZ fs (junk W.dir check) (L.take k) s = some f; rw [dX MV, Jj s hsL hj, hf]) ⟨fun σ2 h2 => ⟨0, rfl, I2 (next σ2 ?_)⟩, fun ha => by cases ha⟩⟩
     rw [M8, I3, if_pos hj, ← M8, LO, if_neg (by omega), List.append_nil]
     exact h2
   have vL : junk W.dir check s = false → numOf W.dir ks s ≤ check → Am.G7 R (some ⟨b, 0, none⟩) (some ⟨GQ, Pr, none⟩) n1 c1 n1 k σ := fun hj hle => next σ (by
     rw [M8, I3, if_neg (by rw [hj]; simp), ← M8, LO, if_neg (by omega), List.append_nil]
     exact h)
   have ALe : numOf W.dir kc s = 0 ∨ ¬ numOf W.dir kc s < check → check < numOf W.dir ks s → ∃ ig : Option Addr, ∃ oU : Nat, ∃ ij : Nat, Hp.ld σ ⟨b, (0 + 3), none⟩ = some (.slice ig oU ij) ∧ ∀ Y2 : Nat, σ Y2 = none → AJ prog (Builtin.append_ #[26, 26] 26 #[(.slice ig oU ij), (.slice (some ⟨Y2, 0, none⟩) 1 1)]) (Hp.set σ Y2 (.cells #[(.int .i64 (numOf W.dir ks s))] 3 (0, 0))) (fun v_3 BE => ∃ oV : Option Addr, ∃ oW : Nat, ∃ c91 : Nat, v_3 = (.slice oV oW c91) ∧ AJ prog (Instr.storeAt 26 (.pointer (some ⟨b, (0 + 3), none⟩)) (.slice oV oW c91)) BE (fun _ OP => Am.G7 R (some ⟨b, 0, none⟩) (some ⟨GQ, Pr, none⟩) n1 c1 n1 k OP)) := fun hc hs => by
     obtain ⟨ig, ij, ASr, AFA, _⟩ := hr.AP
     refine ⟨ig, _, ij, AFA, fun Y2 ALf => ?_⟩
     refine (h.app (Φ := fun _ σ' => Am.G7 R (some ⟨b, 0, none⟩) (some ⟨GQ, Pr, none⟩) n1 c1 n1 k σ') AFA sA ALf (K := fun _ _ => True) (fun _ _ => trivial) fun σ3 h3 => next σ3 ?_).mono fun v σ3 ⟨p', n', c', e1, _, e3⟩ => ⟨p', n', c', e1, e3⟩
     have hj : ¬ junk W.dir check s = true := by
       simp only [junk, Bool.or_eq_true, Bool.and_eq_true, decide_eq_true_eq]; omega
     rw [M8, I3, if_neg hj, ← M8, LO, if_pos hs]
     exact h3
   refine Am.Ml ⟨fun _ => ⟨GQ, Pr, rfl, by omega, s, by simpa using hl, KX (dir := W.dir) (kind := kc) hr.dir hd (.inl rfl) ⟨_, rfl, KX (dir := W.dir) (kind := ks) hr.dir hd (.inr rfl) ⟨_, rfl, ?_⟩⟩⟩, fun hh => by omega⟩
   have ux : 0 < numOf W.dir kc s → numOf W.dir ks s = 0 := I0
   have AFB : σ.ld ⟨b, 0 + 2, none⟩ = some (.int .i64 (check : Nat)) := hr.check
   refine ⟨fun hc => ⟨b, 0, rfl, _, AFB, fun Ag => l6 (by simp only [junk, Bool.or_eq_true, Bool.and_eq_true, decide_eq_true_eq]; left; omega), fun F8 => ⟨fun hs => ?_, fun hs => ⟨fun aM => absurd aM hs, fun _ => vL ?_ ?_⟩⟩⟩, fun hc => ⟨fun hs => ⟨b, 0, rfl, _, AFB, fun hle => l6 (by simp only [junk, Bool.or_eq_true, Bool.and_eq_true, decide_eq_true_eq]; right; omega), fun hgt => ⟨fun _ => ALe (by omega) (by omega), fun hn => absurd hs hn⟩⟩, fun hs => ⟨fun aM => absurd aM hs, fun _ => vL ?_ ?_⟩⟩⟩
   · have := ux (by omega); omega
   · simp only [junk, Bool.or_eq_false_iff, Bool.and_eq_false_iff, decide_eq_false_iff_not]; omega
   · omega
   · simp only [junk, Bool.or_eq_false_iff, Bool.and_eq_false_iff, decide_eq_false_iff_not]; omega
   · omega
end
end TwW
end
section
namespace TwW
open Go Tw Go.RowKit Go.Proofs.Tryz
def Jo (dir s : ByteArray) : Bool := decide (s = BC dir)
section
variable {σ τ : Hp} {d b : Nat} {D : Dk} {W : Wl} {R : Rr} {p1 : Option Addr} {n1 c1 : Nat} {L : List ByteArray} {fs0 : Fs} {cnt : Nat}
theorem Xr {dir : ByteArray} {check : Nat} : junk dir check (BC dir) = false := by simp [junk, Ku (.inl rfl), Ku (.inr rfl)]
noncomputable def Ou (fs0 : Fs) (dir : ByteArray) (L : List ByteArray) : Fs := DZ (DZ fs0 (Jo dir) L) (junk dir (LP dir L)) L
theorem aP (h : Aj σ d b (dk fs0 cnt) W τ) (hW : W.check = 0 ∧ W.AP = []) (hL : Names fs0 (W.dir ++ Cn) L) (Jm : ∀ s, (fs0 s).isSome = true → Ae s = true) (hd : W.dir.size ≤ 32) (ht : oc τ p1 n1 L) (PU : n1 ≤ 67108864)
   (hR : ∀ σ', Aj σ' d b (dk (Ou fs0 W.dir L) cnt) { W with check := LP W.dir L, AP := Ed W.dir (LP W.dir L) L } τ → R (.returned (.tuple #[])) σ') :
   Spec prog 173 #[.pointer (some ⟨b, 0, none⟩), .slice p1 n1 c1] σ R := by
 refine Am.start ?_
 have hlen := ht.len
 suffices H : ∀ (m k : Nat) (σ : Hp), n1 - k = m → k ≤ n1 → Aj σ d b (dk (DZ fs0 (Jo W.dir) (L.take k)) cnt) { W with check := LP W.dir (L.take k), AP := [] } τ → Am.Zy R (some ⟨b, 0, none⟩) p1 n1 c1 p1 n1 c1 n1 k σ from
   H n1 0 σ rfl (Nat.zero_le _) (by
     rw [List.take_zero, Xq]
     have : ({ W with check := LP W.dir [], AP := [] } : Wl) = W := by
       cases W; simp only at hW; simp [LP, hW.1, hW.2]
     rw [this]; exact h)
 intro m
 induction m with
 | zero =>
   intro k σ hm hk h
   rw [List.take_of_length_le (by omega)] at h
   refine Am.MC ⟨fun hh => by omega, fun _ => ?_⟩
   refine yz (W := W) (fs := DZ fs0 (Jo W.dir) L) (fs0 := fs0) hL (fun s hs hj => ?_) Jm hd ht PU hR n1 0 σ rfl (Nat.zero_le _) ?_
   · unfold DZ
     rw [if_neg]
     rintro ⟨_, hn⟩
     simp only [Jo, decide_eq_true_eq] at hn
     rw [hn, Xr] at hj; cases hj
   · rw [List.take_zero, Xq]; exact h
 | succ m ih =>
   intro k σ hm hk h
   have hr := h.rd
   obtain ⟨s, hs⟩ : ∃ s, L[k]? = some s := ⟨_, List.getElem?_eq_getElem (by omega)⟩
   obtain ⟨GQ, Pr, hp1, hl⟩ := (ht.mono h.ext).at hs
   have hsL : s ∈ L := List.mem_of_getElem? hs
   have lL := (hL.mem s).1 hsL
   have M8 := AR hs
   have MV : s ∉ L.take k := by
     have := hL.nodup.sublist (List.take_sublist (k + 1) L)
     rw [M8, List.nodup_append] at this
     exact fun hm => this.2.2 s hm s (by simp) rfl
   have next : ∀ σ', Aj σ' d b (dk (DZ fs0 (Jo W.dir) (L.take (k + 1))) cnt) { W with check := LP W.dir (L.take k), AP := [] } τ → Am.Wd R (some ⟨b, 0, none⟩) p1 n1 c1 s p1 n1 c1 n1 k σ' := fun σ' h' => by
     have I9 := h'.rd
     refine Am.Uo ⟨b, 0, rfl, (LP W.dir (L.take k) : Nat), I9.check, KX (dir := W.dir) (kind := kc) I9.dir hd (.inl rfl) ⟨_, rfl, fun _ _ _ hb => hb, ?_⟩⟩
     have e : (if ((LP W.dir (L.take k) : Nat) : Int) < (numOf W.dir kc s : Int) then (numOf W.dir kc s : Int) else ((LP W.dir (L.take k) : Nat) : Int)) = ((LP W.dir (L.take (k + 1)) : Nat) : Int) := by
       rw [M8, gL]; split <;> omega
     rw [e]
     refine h'.st (i := 0 + 2) (W' := { W with check := LP W.dir (L.take (k + 1)), AP := [] }) (by omega) rfl (fun p n c => rfl) fun σ2 h2 => ⟨by unfold AO; omega, ih (k + 1) σ2 (by omega) (by omega) h2⟩
   refine Am.MC ⟨fun _ => ⟨GQ, Pr, hp1, by omega, s, by simpa using hl, Q4 (dir := W.dir) hr.dir hd ⟨_, rfl, fun he => ?_, fun Ad => ?_⟩⟩, fun hh => by omega⟩
   · rw [Qu, decide_eq_true_eq] at he
     have JT : s = BC W.dir := lj he
     obtain ⟨f, hf⟩ := Option.isSome_iff_exists.1 lL.1
     refine ⟨b, 0, rfl, _, hr.ptr, Pw h rfl (Jm s lL.1) (f := f) (by show DZ fs0 (Jo W.dir) (L.take k) s = some f; rw [dX MV, hf]) ⟨fun σ2 h2 => ⟨0, rfl, I2 ?_⟩, fun ha => by cases ha⟩⟩
     rw [Mc hp1]
     refine next σ2 ?_
     rw [M8, I3, if_pos (by simp [Jo, JT])]
     exact h2
   · rw [Qu, decide_eq_false_iff_not] at Ad
     have JT : ¬ s = BC W.dir := fun e => Ad (by rw [e])
     rw [Mc hp1]
     refine next σ ?_
     rw [M8, I3, if_neg (by simp [Jo, JT])]
     exact h
theorem Xs {fs : Fs} {dir : ByteArray} {check : Nat} {rc : Bz} {sg : Sg} {tail : List Int} (h : Shape fs dir cnt check rc sg tail) (hc : cnt < 99999999) (hL : Names fs (dir ++ Cn) L) :
   Shape (Ou fs dir L) dir cnt check rc sg tail ∧ Out dir fs (Ou fs dir L) ∧ Ou fs dir L (BC dir) = none ∧ ∀ s f, Ou fs dir L s = some f → fs s = some f := by
 have hm := dW h hc hL
 have hn : ∀ s, Jo dir s = true → BR s (dir ++ Cn) = true ∧ (numOf dir kc s = 0 ∨ numOf dir kc s < check) ∧ numOf dir ks s ≤ check := fun s hs => by
   simp only [Jo, decide_eq_true_eq] at hs
   subst hs
   exact ⟨MJ, .inl (Ku (.inl rfl)), by rw [Ku (.inr rfl)]; omega⟩
 unfold Ou
 rw [hm]
 refine ⟨(h.del hc fun s hs => (hn s hs).2).del hc fun s hs => (VG hs).2, (Out.DZ fun s hs => (hn s hs).1).trans (Out.DZ fun s hs => (VG hs).1), ?_, fun s f hs => ?_⟩
 · have e : DZ fs (Jo dir) L (BC dir) = none := by
     unfold DZ
     by_cases C9 : BC dir ∈ L
     · rw [if_pos ⟨C9, by simp [Jo]⟩]
     · rw [if_neg fun hh => C9 hh.1]
       cases hf : fs (BC dir) with
       | none => rfl
       | some f => exact absurd ((hL.mem _).2 ⟨by rw [hf]; rfl, MJ⟩) C9
   unfold DZ at e ⊢
   rw [if_neg (by rw [Xr]; simp), e]
 · unfold DZ at hs
   split at hs
   · cases hs
   · split at hs
     · cases hs
     · exact hs
end
end TwW
end
section
namespace TwW
open Go Tw Go.RowKit Go.Proofs.Tryz
section
variable {σ τ : Hp} {d b : Nat} {D : Dk} {W : Wl} {R : Rr} {dir : ByteArray}
def laid (fs : Fs) (dir name : ByteArray) (x : List Int) : Fs := fun s => if s = name then some ⟨x, x.length⟩ else if s = BC dir then none else fs s
structure aQ (τ : Hp) (d b : Nat) (dir : ByteArray) : Prop where
 ptr : τ.ld ⟨b, 0, none⟩ = some (.pointer (some ⟨d, 0, none⟩))
 dir : τ.ld ⟨b, 0 + 1, none⟩ = some (.string dir)
theorem aQ.mono {τ τ' : Hp} {d b : Nat} {dir : ByteArray} (h : aQ τ d b dir) (hx : Ext τ τ') : aQ τ' d b dir := ⟨hx.ld h.ptr, hx.ld h.dir⟩
theorem Fh.sB {b : Nat} {S : List Nat} {p : Option Addr} {c : Nat} {T : TypeId} (h : Fh τ b d W S p c T) : aQ τ d b W.dir := ⟨AD h.obj rfl, AD h.obj rfl⟩
theorem Aj.opened (h : Aj σ d b D W τ) : ∃ τ' S p c T, Ai σ d D τ' ∧ Fh τ' b d W S p c T ∧ Ext τ (τ'.off S) := by
 obtain ⟨Sd, S, p, c, T, h1, h2, h3⟩ := h
 exact ⟨σ.off Sd, S, p, c, T, ⟨Sd, h1, Ext.refl _⟩, h2, h3⟩
theorem Aj.close {τ' : Hp} {S : List Nat} {p : Option Addr} {c : Nat} {T : TypeId} (h : Ai σ d D τ') (hw : Fh τ' b d W S p c T) : Aj σ d b D W (τ'.off S) := by
 obtain ⟨Sd, h1, h2⟩ := h
 exact ⟨Sd, S, p, c, T, h1, hw.mono h2, h2.off S⟩
theorem sC {s : ByteArray} {p : Option Addr} {n c : Nat} {xs : List Int} (h : Ai σ d D τ) (Ev : D.up = true) (hn : Ae s = true) (hc : Oh D) (hx : CA .u8 τ p n xs) (hlen : ((D.files s).getD ⟨[], 0⟩).data.length + n ≤ 4194304)
   (hw : lv σ d D τ (fun σ' D' => Ai σ' d D' τ) (Em D.files s xs) (Em D.files s xs) (D.cnt + 1) R) : Spec prog 135 #[.pointer (some ⟨d, 0, none⟩), .string s, .slice p n c] σ R := by
 obtain ⟨Sd, h1, h3⟩ := h
 exact Oi h1 Ev hn hc (hx.mono h3) hlen (hw.wrd h3)
theorem AFC {s : ByteArray} {f : Fl} (h : Ai σ d D τ) (Ev : D.up = true) (hn : Ae s = true) (hf : D.files s = some f)
   (hw : lv σ d D τ (fun σ' D' => Ai σ' d D' τ) (BG D.files s (some ⟨f.data, f.data.length⟩)) D.files D.cnt R) : Spec prog 133 #[.pointer (some ⟨d, 0, none⟩), .string s] σ R := by
 obtain ⟨Sd, h1, h3⟩ := h
 exact Te h1 Ev hn hf (hw.wrd h3)
theorem sD {s t : ByteArray} {f : Fl} (h : Ai σ d D τ) (Ev : D.up = true) (hn : Ae s = true) (J1 : Ae t = true) (hf : D.files s = some f)
   (hw : lv σ d D τ (fun σ' D' => Ai σ' d D' τ) (BG (BG D.files s none) t (some f)) D.files D.cnt R) : Spec prog 231 #[.pointer (some ⟨d, 0, none⟩), .string s, .string t] σ R := by
 obtain ⟨Sd, h1, h3⟩ := h
 exact XU h1 Ev hn J1 hf (hw.wrd h3)
theorem sE {s : ByteArray} {f : Fl} (h : Ai σ d D τ) (Ev : D.up = true) (hn : Ae s = true) (hf : D.files s = some f)
   (hw : lv σ d D τ (fun σ' D' => Ai σ' d D' τ) (BG D.files s none) D.files D.cnt R) : Spec prog 138 #[.pointer (some ⟨d, 0, none⟩), .string s] σ R := by
 obtain ⟨Sd, h1, h3⟩ := h
 exact Oj h1 Ev hn hf (hw.wrd h3)
theorem Out.laid {fs : Fs} {kind : ByteArray} {k : Nat} {x : List Int} (hk : kind = kc ∨ kind = ks) (h0 : 0 < k) (h1 : k < 100000000) : Out dir fs (TwW.laid fs dir (AG dir kind k) x) := by
 refine ⟨fun s hs => ?_, fun s hs => ?_⟩
 · have e1 : ¬ s = AG dir kind k := fun e => by rw [e, DB] at hs; cases hs
   have e2 : ¬ s = BC dir := fun e => by rw [e, MJ] at hs; cases hs
   simp [TwW.laid, e1, e2]
 · by_cases e : s = AG dir kind k
   · subst e
     have := By (dir := dir) (kind := kind) h1
     rcases hk with rfl | rfl
     · exact .inr (.inl (by omega))
     · exact .inr (.inr (.inl (by omega)))
   · by_cases e2 : s = BC dir
     · exact .inr (.inr (.inr e2))
     · simp only [TwW.laid, e, e2, if_false] at hs; exact .inl hs
structure ALg (d : Nat) (D : Dk) (dir : ByteArray) (τ : Hp) (name : ByteArray) (x : List Int) (rok : Hp → Prop) (lx : Hp → Prop) : Prop where
 ok : ∀ σ', Ai σ' d ⟨laid D.files dir name x, true, D.armed, D.cnt + 1⟩ τ → rok σ'
 bad : D.armed = true → ∀ σ' gs' gs, (∀ s, s ≠ BC dir → gs' s = D.files s) → Gg gs' gs → Ai σ' d ⟨gs, false, false, D.cnt + 1⟩ τ → lx σ'
theorem M9 {name : ByteArray} {p : Option Addr} {n c : Nat} {Bp : Bz} (h : Ai σ d D τ) (hw : aQ τ d b dir) (Ev : D.up = true) (GJ : D.cnt < 67108864) (hfew : Oh D) (hd : CL dir = true) (FI : Ae name = true) (hx : Jx τ p n Bp) (hs : Good Bp) (hlen : (AU Bp).length ≤ 4194304) (C8 : D.files (BC dir) = none) (Ad : name ≠ BC dir)
   (hR : ALg d D dir τ name (AU Bp) (fun σ' => R (.returned (.tuple #[])) σ') (fun σ' => R (.panicked (bX 60)) σ')) : Spec prog 137 #[.pointer (some ⟨b, 0, none⟩), .string name, .slice p n c] σ R := by
 have OJ : dir.size ≤ 32 := by simp [CL] at hd; exact hd.2
 have Jw := rv hd
 have fr : ∀ {σ' : Hp} {K : Rr}, Ext τ σ' → K (.returned (.string (BC dir))) σ' → Spec prog 229 #[.pointer (some ⟨b, 0, none⟩)] σ' K := fun hl hk => Q4 (dir := dir) (hl.ld hw.dir) OJ hk
 refine Ji.start ⟨b, 0, rfl, _, h.ext.ld hw.ptr, fr h.ext ⟨_, rfl, fun _ _ _ hb => hb, gB (hx.mono h.ext) hs.short (by omega) fun p' n' c' σ1 ho BH => ⟨p', n', c', rfl, Kp.CG BH, ?_⟩⟩⟩
 obtain ⟨τ1, h1, x1, x1n⟩ := h.grow BH
 have Z9 : (AU Bp).length = n' := by have := ho.1; simpa using this
 subst Z9
 have Vx : CA .u8 τ1 p' (AU Bp).length (AU Bp) := (AS.rd ho).mono x1n
 have hf0 : (D.files (BC dir)).getD ⟨[], 0⟩ = ⟨[], 0⟩ := by rw [C8]; rfl
 refine sC h1 Ev Jw hfew Vx (by rw [hf0]; simpa using hlen) ⟨fun σ2 h2 => ⟨0, rfl, I2 ?_⟩, fun ha σ2 gs hg M6 => ⟨60, rfl, MK ?_⟩⟩
 · have e1 : Em D.files (BC dir) (AU Bp) (BC dir) = some ⟨AU Bp, 0⟩ := by simp [Em, BG, C8]
   refine ⟨_, (x1.trans h2.ext).ld hw.ptr, fr (x1.trans h2.ext) ⟨_, rfl, fun _ _ _ hb => hb, AFC h2 rfl Jw (f := ⟨AU Bp, 0⟩) e1 ⟨fun σ3 h3 => ⟨0, rfl, I2 ?_⟩, fun ha σ3 gs hg M6 => ⟨60, rfl, MK ?_⟩⟩⟩⟩
   · refine ⟨_, (x1.trans h3.ext).ld hw.ptr, fr (x1.trans h3.ext) ⟨_, rfl, fun _ _ _ hb => hb, sD h3 rfl Jw FI (f := ⟨AU Bp, (AU Bp).length⟩) C6 ⟨fun σ4 h4 => ⟨0, rfl, I2 ?_⟩, fun ha σ4 gs hg M6 => ⟨60, rfl, MK ?_⟩⟩⟩⟩
     · have e : BG (BG (BG (Em D.files (BC dir) (AU Bp)) (BC dir) (some ⟨AU Bp, (AU Bp).length⟩)) (BC dir) none) name (some ⟨AU Bp, (AU Bp).length⟩) = laid D.files dir name (AU Bp) := by
         funext s
         by_cases h1 : s = name
         · subst h1; simp [BG, laid]
         · by_cases h2 : s = BC dir
           · subst h2; simp [BG, laid, h1]
           · simp [BG, laid, h1, h2, Em]
       have := hR.ok σ4
       rw [← e] at this
       exact this (h4.EW x1)
     · exact hR.bad ha σ4 _ gs (fun s hs => (Ax hs).trans (Cf hs)) hg (M6.EW x1)
   · exact hR.bad ha σ3 _ gs (fun s hs => Cf hs) hg (M6.EW x1)
 · exact hR.bad ha σ2 _ gs (fun s hs => Cf hs) hg (M6.EW x1)
theorem l7 {s : ByteArray} {f : Fl} (h : Ai σ d D τ) (Ev : D.up = true) (hn : Ae s = true) (hf : D.files s = some f)
   (hR : ∀ p c σ' τ', Ai σ' d D τ' → Ext τ τ' → f.data.length ≤ c → f.data.length ≤ 4194304 → CA .u8 τ' p f.data.length f.data → R (.returned (.tuple #[.slice p f.data.length c, .int .i64 0])) σ') : Spec prog 176 #[.pointer (some ⟨d, 0, none⟩), .string s] σ R := by
 have h' := h
 obtain ⟨Sd, h1, h3⟩ := h'
 have MR : f.data.length ≤ 4194304 := by
   obtain ⟨m, cl, rows, T, a, b, e, hd⟩ := h1
   rw [hd.files, Row.look] at hf
   cases il : rows.find? (fun r => decide (r.name = s)) with
   | none => rw [il] at hf; cases hf
   | some r =>
     rw [il] at hf
     cases hf
     exact (hd.row r (List.mem_of_find?_eq_some il)).small
 refine fk h1 Ev hn hf fun p c σ' ho hx => ?_
 obtain ⟨τ', g1, g2, g3⟩ := h.grow hx
 exact hR p c σ' τ' g1 g2 (Own.cap ho) MR ((AS.rd ho).mono g3)
def iy (τ ν : Hp) : Prop := ∀ j o, ν j = some o → τ j = none
theorem iy.of {τ σ σ' : Hp} (h : Ext τ σ) : iy τ (σ.new σ') := fun j o hj => by
 cases ht : τ j with
 | none => rfl
 | some u => have h1 := (AQ.1 hj).1; rw [h _ _ ht] at h1; cases h1
theorem iy.del {τ ν τ' : Hp} (h : iy τ ν) (hx : Ext ν τ') {p : Option Addr} (hp : ∀ a, p = some a → τ a.block ≠ none) : Ext ν (τ'.del p) := fun j o hj => A6.2 ⟨fun a ha e => hp a ha (by rw [← e]; exact h j o hj), hx j o hj⟩
theorem iy.own {τ ν τ' : Hp} (h : iy τ ν) (hx : Ext τ τ') {p : Option Addr} (hp : ∀ a, p = some a → ν a.block ≠ none) : Ext τ (τ'.del p) := fun j o hj => by
 refine A6.2 ⟨fun a ha e => ?_, hx j o hj⟩
 cases hn : ν a.block with
 | none => exact hp a ha hn
 | some u => have := h _ _ hn; rw [← e, hj] at this; cases this
theorem RA {name : ByteArray} {p2 : Option Addr} {n2 c2 : Nat} {Bp : Bz} (h : Ai σ d D τ) (hw : aQ τ d b dir) (Ev : D.up = true) (FI : Ae name = true) (hf : Has D.files name (AU Bp)) (hg : Good Bp)
   (hR : ∀ σ' τ' ν p n c, Ai σ' d D τ' → Ext τ τ' → Ix ν p n c Bp → Ext ν τ' → iy τ ν → R (.returned (.tuple #[.slice p n c, .bool true])) σ') : Spec prog 258 #[.pointer (some ⟨b, 0, none⟩), .string name, .slice p2 n2 c2] σ R := by
 obtain ⟨f, hf, vM⟩ := hf
 refine EA.start ⟨b, 0, rfl, _, h.ext.ld hw.ptr, l7 h Ev FI hf fun p c σ1 τ1 h1 x1 hc MR HM => ⟨_, _, _, _, rfl, I2 ?_⟩⟩
 rw [vM] at HM hc MR
 rw [vM]
 refine On (t := []) (HM.mono h1.ext) (M4 hg) hc MR (by simp) hg.short EV fun p' n' c' σ2 ho An => ⟨_, _, _, _, rfl, fun _ => ?_, fun hh => by simp at hh⟩
 obtain ⟨τ2, h2, x2, gJ⟩ := h1.grow An
 exact hR σ2 τ2 _ p' n' c' h2 (x1.trans x2) ho gJ (iy.of (x1.trans h1.ext))
theorem gM {name : ByteArray} {p2 : Option Addr} {c2 : Nat} {Bp : Bz} {tail : List Int} (h : Ai σ d D τ) (hw : aQ τ d b dir) (Ev : D.up = true) (LR : D.armed = false) (GJ : D.cnt < 67108864) (hfew : Oh D) (hd : CL dir = true) (FI : Ae name = true) (hf : Has D.files name (AU Bp ++ tail)) (hg : Good Bp) (ht : gA tail) (h8 : E8 tail) (Ad : tail ≠ []) (C8 : D.files (BC dir) = none) (hnn : name ≠ BC dir)
   (hR : ∀ σ' τ' ν p n c fs c', Ai σ' d (dk fs c') τ' → Ext τ τ' → Ix ν p n c Bp → Ext ν τ' → iy τ ν → c' ≤ D.cnt + 1 → D.cnt ≤ c' → fs = (if Bp = [] then BG D.files name none else laid D.files dir name (AU Bp)) → R (.returned (.tuple #[.slice p n c, .bool false])) σ') : Spec prog 258 #[.pointer (some ⟨b, 0, none⟩), .string name, .slice p2 0 c2] σ R := by
 obtain ⟨f, hf, vM⟩ := hf
 refine EA.start ⟨b, 0, rfl, _, h.ext.ld hw.ptr, l7 h Ev FI hf fun p c σ1 τ1 h1 x1 hc MR HM => ⟨_, _, _, _, rfl, I2 ?_⟩⟩
 rw [vM] at HM hc MR
 rw [vM]
 refine On (t := tail) (HM.mono h1.ext) (BO (M4 hg) h8) hc MR rfl hg.short ht fun p' n' c' σ2 ho An => ⟨_, _, _, _, rfl, fun hh => by simp [Ad] at hh, fun _ => ⟨by unfold AO; omega, ?_⟩⟩
 obtain ⟨τ2, h2, x2, gJ⟩ := h1.grow An
 have dJ : Jx τ2 p' n' Bp := Jx.mono gJ (A9.rd R7.mono ho)
 have MP : Bp.length = n' := dJ.1
 have hjl : (AU Bp).length ≤ 4194304 := by
   rw [List.length_append] at MR; omega
 refine EA.Uq ⟨fun hh => by omega, fun _ => ⟨fun Ju => ?_, fun hz => ?_⟩⟩
 · have ALj : Bp ≠ [] := fun e => by subst e; simp at MP; omega
   refine M9 h2 (hw.mono (x1.trans x2)) Ev GJ hfew hd FI dJ hg hjl C8 hnn ⟨fun σ3 h3 => ⟨rfl, EA.Mf (hR σ3 τ2 _ p' n' c' _ _ (by rw [LR] at h3; exact h3) (x1.trans x2) ho gJ (iy.of (x1.trans h1.ext)) (Nat.le_refl _) (by omega) (by rw [if_neg ALj]))⟩, fun ha => by rw [LR] at ha; cases ha⟩
 · have Vh : Bp = [] := List.eq_nil_of_length_eq_zero (by omega)
   refine ⟨b, 0, rfl, _, (x1.trans (x2.trans h2.ext)).ld hw.ptr, sE h2 Ev FI hf ⟨fun σ3 h3 => ⟨0, rfl, I2 (EA.Mf (hR σ3 τ2 _ p' n' c' _ _ (by rw [LR] at h3; exact h3) (x1.trans x2) ho gJ (iy.of (x1.trans h1.ext)) (by omega) (Nat.le_refl _) (by rw [if_pos Vh])))⟩, fun ha => by rw [LR] at ha; cases ha⟩⟩
end
end TwW
end
section
namespace TwW
open Go Tw Go.RowKit Go.Proofs.Tryz
section
variable {fs : Fs} {dir : ByteArray} {cnt cnt' check : Nat} {rc : Bz} {s0 : Sg} {x : Nat × Bz} {tail : List Int}
theorem Px (h : (s0 ++ [x]).Pairwise fun y z => y.1 < z.1) : ∀ y ∈ s0, y.1 < x.1 := fun y hy => by
 rw [List.pairwise_append] at h
 exact h.2.2 y hy x (by simp)
theorem Shape.l8 (h : Shape fs dir cnt check rc (s0 ++ [x]) tail) (hc : cnt < 99999999) (hx : x.2 = []) (iz : cnt ≤ cnt') : Shape (BG fs (AG dir ks x.1) none) dir cnt' check rc s0 [] := by
 have Ag := Px h.Jz
 have hgx := h.gt x (by simp)
 have Ad : ∀ y ∈ s0, AG dir ks y.1 ≠ AG dir ks x.1 := fun y hy e => by
   have := Ag y hy
   have := h.gt y (by simp [hy])
   have := Ex (by omega) (by omega) e; omega
 have hold : ∀ s, (BG fs (AG dir ks x.1) none s).isSome = true → (fs s).isSome = true ∧ s ≠ AG dir ks x.1 := fun s hs => by
   by_cases JT : s = AG dir ks x.1
   · subst JT; rw [C6] at hs; cases hs
   · rw [Ax JT] at hs; exact ⟨hs, JT⟩
 refine ⟨fun h0 => ?_, h.Xm, fun s hs => h.Y7 s (hold s hs).1, Nat.le_trans h.aL iz, fun y hy => ⟨(h.gt y (by simp [hy])).1, Nat.le_trans (h.gt y (by simp [hy])).2 iz⟩, (List.pairwise_append.1 h.Jz).1, fun s hs Q3 => ?_, fun k y hy => ?_, fun _ => rfl, EV, h.Oq, fun y hy => h.Lt y (by simp [hy]), fun a ha => by cases ha⟩
 · obtain ⟨f, hf, e⟩ := h.PT h0
   exact ⟨f, by rw [Ax BL]; exact hf, e⟩
 · obtain ⟨y, hy, e⟩ := h.dQ s (hold s hs).1 Q3
   rcases List.mem_append.1 hy with hy | hy
   · exact ⟨y, hy, e⟩
   · simp at hy
     subst hy
     have := (EE (dir := dir) (kind := ks) (s := s) (by omega)).1
     rw [← e] at this
     exact absurd this (hold s hs).2
 · have hk := (List.getElem?_eq_some_iff.1 hy).1
   have IH := List.mem_of_getElem? hy
   obtain ⟨f, hf, e⟩ := h.file k y (by rw [List.getElem?_append_left hk]; exact hy)
   rw [if_neg (by simp; omega)] at e
   exact ⟨f, by rw [Ax (Ad y IH)]; exact hf, by rw [e]; simp⟩
theorem Shape.l9 (h : Shape fs dir cnt check rc (s0 ++ [x]) tail) (hc : cnt < 99999999) (iz : cnt ≤ cnt') : Shape (laid fs dir (AG dir ks x.1) (AU x.2)) dir cnt' check rc (s0 ++ [x]) [] := by
 have Ag := Px h.Jz
 have hgx := h.gt x (by simp)
 have Ad : ∀ y ∈ s0, AG dir ks y.1 ≠ AG dir ks x.1 := fun y hy e => by
   have := Ag y hy
   have := h.gt y (by simp [hy])
   have := Ex (by omega) (by omega) e; omega
 have hk : ∀ s, s ≠ AG dir ks x.1 → s ≠ BC dir → laid fs dir (AG dir ks x.1) (AU x.2) s = fs s := fun s h1 h2 => by simp [laid, h1, h2]
 have hl : laid fs dir (AG dir ks x.1) (AU x.2) (AG dir ks x.1) = some ⟨AU x.2, (AU x.2).length⟩ := by simp [laid]
 have hold : ∀ s, (laid fs dir (AG dir ks x.1) (AU x.2) s).isSome = true → (fs s).isSome = true := fun s hs => by
   by_cases h1 : s = AG dir ks x.1
   · subst h1
     exact (h.file s0.length x (by simp)).VD
   · by_cases h2 : s = BC dir
     · subst h2; simp [laid, h1] at hs
     · rw [hk s h1 h2] at hs; exact hs
 refine ⟨fun h0 => ?_, h.Xm, fun s hs => h.Y7 s (hold s hs), Nat.le_trans h.aL iz, fun y hy => ⟨(h.gt y hy).1, Nat.le_trans (h.gt y hy).2 iz⟩, h.Jz, fun s hs => h.dQ s (hold s hs), fun k y hy => ?_, fun e => by simp at e, EV, h.Oq, h.Lt, fun a ha => by cases ha⟩
 · obtain ⟨f, hf, e⟩ := h.PT h0
   exact ⟨f, by rw [hk _ BL (Bq (.inl rfl)).symm]; exact hf, e⟩
 · rcases Nat.lt_or_ge k s0.length with hi | hi
   · obtain ⟨f, hf, e⟩ := h.file k y hy
     rw [List.getElem?_append_left hi] at hy
     have IH := List.mem_of_getElem? hy
     rw [if_neg (by simp; omega)] at e
     exact ⟨f, by rw [hk _ (Ad y IH) (Bq (.inr rfl)).symm]; exact hf, by rw [e]; simp⟩
   · have dN : k = s0.length := by
       have := (List.getElem?_eq_some_iff.1 hy).1
       simp at this; omega
     subst dN
     simp at hy
     subst hy
     exact ⟨_, hl, by simp⟩
theorem Kept.l8 (h : Kept fs dir check (s0 ++ [x])) (Ad : ∀ y ∈ s0, AG dir ks y.1 ≠ AG dir ks x.1) : Kept (BG fs (AG dir ks x.1) none) dir check s0 :=
 ⟨fun f h0 hf => h.1 f h0 (by rw [Ax BL] at hf; exact hf), fun k y hy hk f hf => by
   have IH := List.mem_of_getElem? hy
   refine h.2 k y (by rw [List.getElem?_append_left (by omega)]; exact hy) (by simp; omega) f ?_
   rw [Ax (Ad y IH)] at hf; exact hf⟩
theorem Kept.l9 (h : Kept fs dir check (s0 ++ [x])) (Ad : ∀ y ∈ s0, AG dir ks y.1 ≠ AG dir ks x.1) : Kept (laid fs dir (AG dir ks x.1) (AU x.2)) dir check (s0 ++ [x]) :=
 ⟨fun f h0 hf => h.1 f h0 (by simpa [laid, BL, (Bq (dir := dir) (kind := kc) (a := check) (.inl rfl)).symm] using hf), fun k y hy hk f hf => by
   have dN : k < s0.length := by simp at hk; omega
   have IH : y ∈ s0 := by rw [List.getElem?_append_left dN] at hy; exact List.mem_of_getElem? hy
   refine h.2 k y hy hk f ?_
   simpa [laid, Ad y IH, (Bq (dir := dir) (kind := ks) (a := y.1) (.inr rfl)).symm] using hf⟩
end
section
variable {σ ρ τ : Hp} {d b : Nat} {D : Dk} {W : Wl} {R : Rr}
theorem Ai.sF {T E ty : TypeId} {s bs : Nat} [J2 prog T E s bs] {p q : Option Addr} {n c m d' : Nat} {cs ys : List Value} {Φ : Value → Hp → Prop} (h : Ai σ d D ρ) (ho : Own s ρ p n c cs) (hy : Gi s ρ q m ys) (h1 : CU ys) (hb : (n + m) * bs ≤ 140737488355328)
   (hΦ : ∀ p' c' σ' ρ', Ai σ' d D ρ' → Own s ρ' p' (n + m) c' (cs ++ ys) → Ext (ρ.del p) (ρ'.del p') → Φ (.slice p' (n + m) c') σ') : AJ prog (Builtin.append_ #[T, T] ty #[.slice p n c, .slice q m d']) σ Φ := by
 have hx := h.ext
 obtain ⟨Sd, g1, g3⟩ := h
 refine MW (ho.mono hx) (hy.mono hx) h1 hb fun p' c' σ' B1 An _ => ?_
 rw [Hp.Dc, Hp.Dc] at An
 have keep : ∀ j o, j ∉ DJ p → σ j = some o → σ' j = some o ∧ j ∉ DJ p' := fun j o h4 h5 => by
   have := Hp.AH.1 (An j o (Hp.AH.2 ⟨h4, h5⟩)); exact ⟨this.2, this.1⟩
 have hp : ∀ j ∈ DJ p, j ∉ Sd := fun j hj => by
   cases p with
   | none => cases hj
   | some a =>
     simp [DJ] at hj
     subst hj
     cases hr : ρ a.block with
     | none => exact absurd hr (ho.block a rfl)
     | some o => exact (Hp.AH.1 (g3 _ _ hr)).1
 have hSd : ∀ j ∈ Sd, σ' j = σ j ∧ j ∉ DJ p' := fun j hj => by
   cases hs : σ j with
   | none => exact absurd hs (g1.known j hj)
   | some o => exact keep j o (fun hb => hp j hb hj) hs
 refine hΦ p' c' σ' (σ'.off Sd) ⟨Sd, g1.loc fun j hj => (hSd j hj).1, Ext.refl _⟩ ?_ ?_
 · exact TwW.Own.loc B1 fun j hj => Hp.BN fun hs => (hSd j hs).2 hj
 · rw [Hp.Dc, Hp.Dc]
   intro j o hj
   have h4 := Hp.AH.1 hj
   have h6 := Hp.AH.1 (g3 _ _ h4.2)
   have h7 := keep j o h4.1 h6.2
   exact Hp.AH.2 ⟨h7.2, Hp.AH.2 ⟨h6.1, h7.1⟩⟩
theorem A9.apart {α : Type} {s : Nat} {E : Hp → List Value → α → Prop} {S : List Nat} {p : Option Addr} {n c : Nat} {xs : List α} (h : A9 s E (ρ.off S) p n c xs) : ∀ j ∈ S, j ∉ DJ p := fun j hj hb => by
 cases p with
 | none => cases hb
 | some a =>
   simp [DJ] at hb
   exact h.block a rfl (by rw [← hb]; exact Hp.Ef hj)
theorem Ai.AFD {ty : TypeId} {S : List Nat} {p q : Option Addr} {n c m d' : Nat} {xs ys : Bz} {Φ : Value → Hp → Prop} (h : Ai σ d D ρ) (hS : ∀ j ∈ S, ρ j ≠ none) (hx : Ext τ (ρ.del p)) (ho : Ix (ρ.off S) p n c xs) (hy : Jx ((ρ.off S).del p) q m ys) (hb : n + m ≤ 4194304)
   (hΦ : ∀ p' c' σ' ρ', Ai σ' d D ρ' → (∀ j ∈ S, ρ' j ≠ none) → Ix (ρ'.off S) p' (n + m) c' (xs ++ ys) → Ext τ (ρ'.del p') → Φ (.slice p' (n + m) c') σ') : AJ prog (Builtin.append_ #[165, 165] ty #[.slice p n c, .slice q m d']) σ Φ := by
 have hap := A9.apart ho
 obtain ⟨Vq, cs, Ff, fy⟩ := ho
 obtain ⟨VE, ds, hy1, UW⟩ := hy
 refine h.sF (T := 165) (Ff.mono (Ext.CJ _ _)) ((hy1.mono (Ext.GR _ _)).mono (Ext.CJ _ _)) ?_ (by omega) fun p' c' σ' ρ' h' EN Cc => ?_
 · exact Ch.pC (fun _ vs x ⟨p, n, c, e, _⟩ => by subst e; exact fun u hu => by simp at hu; subst hu; rfl) UW (by decide)
 · have hk : ∀ j ∈ S, ρ' j ≠ none ∧ j ∉ DJ p' := fun j hj => by
     cases hr : ρ j with
     | none => exact absurd hr (hS j hj)
     | some o =>
       rw [Hp.Dc, Hp.Dc] at Cc
       have := Hp.AH.1 (Cc j o (Hp.AH.2 ⟨hap j hj, hr⟩))
       exact ⟨by rw [this.2]; simp, this.1⟩
   have An : Ext ((ρ.off S).del p) ((ρ'.off S).del p') := by
     have := Cc.off S
     rw [Hp.Dc, Hp.Dc] at this ⊢
     rw [Hp.IT, Hp.IT (σ := ρ')]
     exact this
   exact hΦ p' c' σ' ρ' h' (fun j hj => (hk j hj).1) ⟨by rw [List.length_append]; omega, _, TwW.Own.loc EN fun j hj => Hp.BN fun hs => (hk j hs).2 hj, (fy.mono R7.mono An).append (UW.mono R7.mono An)⟩ (hx.trans Cc)
end
end TwW
end
section
namespace TwW
open Go Tw Go.RowKit Go.Proofs.Tryz
section
variable {σ ρ τ : Hp} {d b : Nat} {W : Wl} {R : Rr} {fs : Fs} {cnt : Nat} {rc : Bz} {sg : Sg} {tail : List Int}
def Sub (fs gs : Fs) : Prop := ∀ s, (gs s).isSome = true → (fs s).isSome = true
theorem Sub.trans {fs gs hs : Fs} (h : Sub fs gs) (g : Sub gs hs) : Sub fs hs := fun s hh => h s (g s hh)
def y0 (d b : Nat) (W : Wl) (τ : Hp) (fs : Fs) (cnt : Nat) (rc : Bz) (sg : Sg) (tail : List Int) (R : Rr) : Prop :=
 ∀ σ' ρ p n c Fg cnt' KZ, Aj σ' d b (dk Fg cnt') { W with AP := KZ.map (·.1) } ρ → Ext τ ρ → Jx ρ p n (rc ++ Ao KZ) → Ao KZ = Ao sg → Shape Fg W.dir cnt' W.check rc KZ [] → Kept Fg W.dir W.check KZ → Out W.dir fs Fg → Sub fs Fg → Fg (BC W.dir) = none →
   cnt ≤ cnt' → cnt' ≤ cnt + 1 → (tail = [] → cnt' = cnt ∧ Fg = fs) → R (.returned (.slice p n c)) σ'
theorem gN {sg : Sg} {k : Nat} {x : Nat × Bz} (hx : sg[k]? = some x) : Ao (sg.take (k + 1)) = Ao (sg.take k) ++ x.2 := by
 rw [AR hx, CD, Ey]
theorem gO {τw : Hp} {S : List Nat} {cW : Option Addr} {c46 : Nat} {T : TypeId} (hd : CL W.dir = true) (hc : cnt < 67108864) (hfew : Oh (dk fs cnt)) (ht : Tb τw) (Jp : Shape fs W.dir cnt W.check rc sg tail) (J3 : Kept fs W.dir W.check sg) (Ht : W.AP = sg.map (·.1)) (C8 : fs (BC W.dir) = none) (Fy : (rc ++ Ao sg).length ≤ 4194304)
   (N9 : Fh τw b d W S cW c46 T) (hR : y0 d b W (τw.off S) fs cnt rc sg tail R) :
   ∀ (m k : Nat) (σ ρ : Hp) (p3 : Option Addr) (n3 c3 : Nat), sg.length - k = m → k ≤ sg.length → Ai σ d (dk fs cnt) ρ → Ext τw (ρ.del p3) → Ix (ρ.off S) p3 n3 c3 (rc ++ Ao (sg.take k)) → (k < sg.length ∨ tail = []) →
     BM.QT R (some ⟨b, 0, none⟩) p3 n3 c3 cW W.AP.length c46 ((W.AP.length : Nat) : Int) k σ := by
 intro m
 have dV : W.AP.length = sg.length := by rw [Ht, List.length_map]
 have OJ : W.dir.size ≤ 32 := by simp [CL] at hd; exact hd.2
 have hwn := Own.cap N9.own
 have hsb := N9.own.2.1
 have cl : ∀ {σ ρ : Hp} {p3 : Option Addr} {fs : Fs} {cnt : Nat}, Ai σ d (dk fs cnt) ρ → Ext τw (ρ.del p3) → Aj σ d b (dk fs cnt) W (ρ.off S) ∧ Ext (τw.off S) (ρ.off S) := fun h hx => by
   have BH := hx.trans (Ext.GR _ _)
   exact ⟨Aj.close h (N9.mono BH), BH.off S⟩
 induction m with
 | zero =>
   intro k σ ρ p3 n3 c3 hm hk h hx ho SD
   refine BM.Pm ⟨fun hh => by omega, fun _ => BM.Up ?_⟩
   rw [List.take_of_length_le (by omega)] at ho
   have htn : tail = [] := SD.resolve_left (by omega)
   subst htn
   obtain ⟨r6, SY⟩ := cl h hx
   refine hR σ _ p3 n3 c3 fs cnt sg ?_ SY (A9.rd R7.mono ho) rfl Jp J3 Out.refl (fun s h => h) C8 (Nat.le_refl _) (by omega) (fun _ => ⟨rfl, rfl⟩)
   rw [← Ht]; exact r6
 | succ m ih =>
   intro k σ ρ p3 n3 c3 hm hk h hx ho SD
   obtain ⟨x, SS⟩ : ∃ x, sg[k]? = some x := ⟨_, List.getElem?_eq_getElem (by omega)⟩
   have vN := List.mem_of_getElem? SS
   have hgx := Jp.gt x vN
   have Tk := Jp.Lt x vN
   have Xt := Jp.file k x SS
   have Jw : Ae (AG W.dir ks x.1) = true := FM hd (.inr rfl) (by omega)
   have aR := hx.trans (Ext.GR _ _)
   have gP := N9.mono aR
   have Xu := gP.mono h.ext
   have F8 : (JI W.AP)[k]? = some ((x.1 : Nat) : Int) := by rw [JI, Ht, List.map_map, List.getElem?_map, SS]; rfl
   obtain ⟨Zv, Zw, AFE, ALk⟩ := (AS.rd Xu.own).at F8
   have e1 : Int.toNat ((k : Int) + 1) = k + 1 := by omega
   have NA := gN SS
   have AFF : (rc ++ Ao (sg.take k)).length = n3 := ho.1
   have ASt : n3 + x.2.length ≤ 4194304 := by
     have h1 : (rc ++ Ao (sg.take (k + 1))).length ≤ (rc ++ Ao sg).length := by
       have : Ao sg = Ao (sg.take (k + 1)) ++ Ao (sg.drop (k + 1)) := by rw [← CD, List.take_append_drop]
       rw [this]; simp
     rw [NA, ← List.append_assoc, List.length_append, AFF] at h1
     omega
   have ALl : ∀ j ∈ S, ρ j ≠ none := gP.known
   have od : ∀ a, p3 = some a → ρ a.block ≠ none := fun a ha hn => ho.block a ha (Hp.KB hn)
   have new : ∀ {ρ2 ν : Hp} {p : Option Addr} {n c : Nat} {xs : Bz}, Ext ρ ρ2 → Ix ν p n c xs → Ext ν ρ2 → iy ρ ν → Jx ((ρ2.off S).del p3) p n xs := fun x2 hν x3 hb => by
     refine Jx.mono ?_ (A9.rd R7.mono hν)
     exact hb.del (fun j o hj => Hp.AH.2 ⟨fun hs => ALl j hs (hb j o hj), x3 j o hj⟩) od
   refine BM.Pm ⟨fun _ => ⟨Zv, Zw, AFE, by omega, x.1, by simpa using ALk, b, 0, rfl, _, _, c46, AD Xu.obj rfl, by unfold AO; omega, by omega, ?_⟩, fun hh => by omega⟩
   rw [Mc AFE]
   refine DI (kind := ks) (dir := W.dir) (AD Xu.obj rfl) OJ (.inr rfl) (by omega) ((ht.mono aR).mono h.ext) fun σ1 BH => ⟨_, rfl, Kp.CG BH, ?_⟩
   have h1 := h.mono BH
   by_cases hw : (if k + 1 = sg.length then tail else []) = []
   · rw [hw, List.append_nil] at Xt
     refine RA h1 gP.sB rfl Jw Xt Tk fun σ2 ρ2 ν p n c h2 x2 hν x3 hb => ⟨_, _, _, _, rfl, ?_⟩
     have hn : x.2.length = n := hν.1
     refine h2.AFD (τ := τw) (S := S) (xs := rc ++ Ao (sg.take k)) (ys := x.2) (fun j hj => (gP.mono x2).known j hj) (hx.trans (x2.del p3)) (A9.mono R7.mono (x2.off S) ho) (new x2 hν x3 hb) (by omega) fun p' c' σ3 ρ3 h3 hS3 Dl DR => ⟨p', _, c', rfl, fun _ => ⟨by unfold AO; omega, ?_⟩, fun hh => (by cases hh)⟩
     rw [List.append_assoc, ← NA] at Dl
     refine ih (k + 1) σ3 ρ3 p' _ c' (by omega) (by omega) h3 DR Dl ?_
     by_cases hl : k + 1 = sg.length
     · rw [if_pos hl] at hw; exact .inr hw
     · exact .inl (by omega)
   · have Jn : k + 1 = sg.length := by
       by_cases hh : k + 1 = sg.length
       · exact hh
       · rw [if_neg hh] at hw; exact absurd rfl hw
     rw [if_pos Jn] at hw Xt
     obtain ⟨s0, x', Vr⟩ : ∃ s0 x', sg = s0 ++ [x'] := by
       rcases List.eq_nil_or_concat sg with e | ⟨s0, x', e⟩
       · rw [e] at Jn; simp at Jn
       · exact ⟨s0, x', by rw [e]; simp⟩
     have Xk : k = s0.length := by rw [Vr] at Jn; simp at Jn; exact Jn
     have N7 : x' = x := by rw [Vr, Xk] at SS; simpa using SS
     subst N7
     have e2 : W.AP.length - Int.toNat ((k : Int) + 1) = 0 := by omega
     rw [e2]
     have Ad : ∀ y ∈ s0, AG W.dir ks y.1 ≠ AG W.dir ks x'.1 := fun y hy e => by
       have Ag := Px (Vr ▸ Jp.Jz) y hy
       have := Jp.gt y (by rw [Vr]; simp [hy])
       have := Ex (by omega) (by omega) e; omega
     refine gM h1 gP.sB rfl rfl (by show cnt < _; omega) hfew hd Jw Xt Tk Jp.ALZ Jp.vE hw C8 (Bq (.inr rfl)).symm fun σ2 ρ2 ν p n c fs2 AFG h2 x2 hν x3 hb fy UW PW => ⟨_, _, _, _, rfl, ?_⟩
     have hn : x'.2.length = n := hν.1
     refine h2.AFD (τ := τw) (S := S) (xs := rc ++ Ao (sg.take k)) (ys := x'.2) (fun j hj => (gP.mono x2).known j hj) (hx.trans (x2.del p3)) (A9.mono R7.mono (x2.off S) ho) (new x2 hν x3 hb) (by omega) fun p' c' σ3 ρ3 h3 hS3 Dl DR => ⟨p', _, c', rfl, fun hh => (by cases hh), fun _ => ?_⟩
     rw [List.append_assoc, ← NA, List.take_of_length_le (by omega)] at Dl
     obtain ⟨r6, SY⟩ := cl h3 DR
     obtain ⟨pq, cq, hcq, hlq, hrq⟩ := r6.rd.AP
     refine ⟨pq, _, cq, hlq, by unfold AO; omega, by omega, ?_⟩
     have e3 : Int.toNat ((k : Int) + 1) = W.AP.length := by omega
     rw [e3]
     refine r6.cut (l := W.AP) rfl (fun p c vO => by rw [hlq] at vO; cases vO; exact ⟨rfl, fun ρ h => h⟩) fun σ4 h4 => ?_
     have AFI := Vr ▸ Jp
     have sG := Vr ▸ J3
     refine ⟨fun jA => ?_, fun jA => BM.Up ?_⟩
     · have aI : x'.2 = [] := List.eq_nil_of_length_eq_zero (by omega)
       obtain ⟨pr, cr, hcr, hlr, hrr⟩ := h4.rd.AP
       refine ⟨pr, _, cr, hlr, by simp only at hcr ⊢; omega, ?_⟩
       have e4 : Int.toNat (k : Int) = k := by omega
       rw [e4]
       refine h4.cut (l := W.AP.take k) (by rw [List.length_take]; omega) (fun p c vO => by rw [hlr] at vO; cases vO; exact ⟨rfl, fun ρ h => by have := Own.shrink (k := k) h (by simp only; omega); rw [JI, List.map_take]; exact this⟩) fun σ5 h5 => BM.Up ?_
       rw [if_pos aI] at PW
       have ht0 : Ao s0 = Ao sg := by rw [Vr, CD, Ey, aI, List.append_nil]
       refine hR σ5 _ p' _ c' fs2 AFG s0 ?_ SY (A9.rd R7.mono (by rw [ht0]; exact Dl)) ht0 (by rw [PW]; exact AFI.l8 (by omega) aI UW) (by rw [PW]; exact sG.l8 Ad) (by rw [PW]; exact Out.del DB) (by
         rw [PW]; intro s hs
         by_cases e : s = AG W.dir ks x'.1
         · subst e; rw [C6] at hs; cases hs
         · rw [Ax e] at hs; exact hs) (by rw [PW, Ax (Bq (.inr rfl))]; exact C8) UW fy (fun e => absurd e hw)
       have : W.AP.take k = s0.map (·.1) := by rw [Ht, Vr, List.map_append, Xk, List.take_left' (by simp)]
       rw [← this]; exact h5
     · have aI : x'.2 ≠ [] := fun e => jA (by rw [← hn, e]; rfl)
       rw [if_neg aI] at PW
       refine hR σ4 _ p' _ c' fs2 AFG sg ?_ SY (A9.rd R7.mono Dl) rfl (by rw [PW, Vr]; exact AFI.l9 (by omega) UW) (by rw [PW, Vr]; exact sG.l9 Ad) (by rw [PW]; exact Out.laid (.inr rfl) (by omega) (by omega)) (by
         rw [PW]; intro s hs
         by_cases e : s = AG W.dir ks x'.1
         · subst e; exact Xt.VD
         · by_cases e2 : s = BC W.dir
           · simp only [laid, e, if_false, e2, if_true] at hs
             rw [if_neg (Bq (.inr rfl))] at hs; cases hs
           · simp only [laid, e, e2, if_false] at hs; exact hs) (by rw [PW]; simp [laid, (Bq (dir := W.dir) (kind := ks) (a := x'.1) (.inr rfl))]) UW fy (fun e => absurd e hw)
       rw [← Ht]; exact h4
end
end TwW
end
section
namespace TwW
open Go Tw Go.RowKit Go.Proofs.Tryz
section
variable {σ ρ τ : Hp} {d b : Nat} {D : Dk} {W : Wl} {R : Rr} {fs : Fs} {cnt : Nat} {rc : Bz} {sg : Sg} {tail : List Int}
theorem Aj.names (h : Aj σ d b D W τ) : ∀ s, (D.files s).isSome = true → Ae s = true := h.gE.names
theorem Aj.make {b : Nat} (h : Ai σ d D τ) (hb : σ b = none) (hs : W.AP = []) : Aj (σ.set b (.cells (rz d W none 0 0) 225 (0, 0))) d b D W τ := by
 obtain ⟨Sd, h1, h2⟩ := h
 have oa : b ∉ Sd := fun hh => h1.known b hh hb
 refine ⟨Sd, [b], none, 0, 225, h1.mono (.set hb), ?_, ?_⟩
 · rw [Hp.FB oa]
   exact ⟨rfl, by simp [DJ], by rw [Hp.AA, hs]; rfl, by rw [hs]; exact Own.nil⟩
 · rw [Hp.FB oa, Hp.Gj (by simp)]
   exact h2.UY (by simpa using A4 h2 (Hp.KB hb))
theorem Aj.stB {k n : Nat} {E : TypeId} {c : Array Value} {t : TypeId} {v : Value} {Φ : Unit → Hp → Prop} (h : Aj σ d b D W τ) (hk : τ k = some (.cells c t (0, 0))) (hz : ∀ w, (Go.sizeOf E).run prog w = .ok n w) (hn : v.cells.size = n) (hl : 0 + n ≤ c.size) (h1 : ∀ u ∈ v.cells.toList, u.oneCell' = true)
   (hΦ : ∀ σ', Aj σ' d b D W (τ.set k (.cells (DX c 0 v.cells.toList) t (0, 0))) → Φ () σ') : AJ prog (Instr.storeAt E (.pointer (some ⟨k, 0, none⟩)) v) σ Φ := by
 obtain ⟨Sd, S, p, cc, T, g1, g2, g3⟩ := h
 have Xk := Hp.AH.1 (g3 _ _ hk)
 have gQ := Hp.AH.1 Xk.2
 refine AJ.store hz gQ.2 hn hl h1 (hΦ _ ⟨Sd, S, p, cc, T, g1.loc fun j hj => Hp.AF fun e => gQ.1 (e ▸ hj), ?_, ?_⟩)
 · rw [Hp.FB gQ.1]
   exact g2.loc fun j hj => Hp.AF fun e => Xk.1 (e ▸ hj)
 · rw [Hp.FB gQ.1, Hp.FB Xk.1]
   intro j o hj
   by_cases nz : j = k
   · subst nz; rw [Hp.AA] at hj ⊢; exact hj
   · rw [Hp.AF nz] at hj ⊢; exact g3 _ _ hj
theorem Hp.VH {k : Nat} {o : Obj} (h : σ k = some o) : (σ.off [k]).set k o = σ := by
 funext j
 by_cases hj : j = k
 · subst hj; rw [Hp.AA, h]
 · rw [Hp.AF hj, Hp.BN (by simpa using hj)]
theorem Spec.VH {P : Program} {f : FuncId} {args : Array Value} {k : Nat} {o : Obj} {R : Rr} (hk : σ k = some o) (h : Spec P f args (σ.off [k]) (fun e τ' => τ' k = none → R e (τ'.set k o))) : Spec P f args σ R := by
 have := Spec.BW (o := o) (Hp.Ef (by simp)) h
 rwa [Hp.VH hk] at this
theorem Aj.VH {k : Nat} {o : Obj} (h : Aj σ d b D W τ) (hk : τ k = some o) : Aj (σ.off [k]) d b D W (τ.off [k]) := by
 obtain ⟨Sd, S, p, cc, T, g1, g2, g3⟩ := h
 have Xk := Hp.AH.1 (g3 _ _ hk)
 have gQ := Hp.AH.1 Xk.2
 refine ⟨Sd, S, p, cc, T, g1.loc fun j hj => Hp.BN fun e => gQ.1 (List.mem_singleton.1 e ▸ hj), ?_, ?_⟩
 · rw [Hp.IT]
   exact g2.loc fun j hj => Hp.BN fun e => Xk.1 (List.mem_singleton.1 e ▸ hj)
 · rw [Hp.IT (σ := σ), Hp.IT (σ := σ.off Sd)]
   exact g3.off [k]
theorem Aj.mA {k : Nat} {o : Obj} (h : Aj σ d b D W τ) (hk : σ k = none) : Aj (σ.set k o) d b D W (τ.set k o) := by
 obtain ⟨τ', h1, h2, h3⟩ := h.box (o := o) hk
 refine h1.EW fun j u hj => ?_
 by_cases nz : j = k
 · subst nz; rw [Hp.AA] at hj; cases hj; exact h3
 · rw [Hp.AF nz] at hj; exact h2 _ _ hj
theorem Xv (h : Aj σ d b (dk fs cnt) W τ) (ht : Tb τ) (hd : CL W.dir = true) (hc : cnt < 67108864) (hfew : Oh (dk fs cnt)) (Jp : Shape fs W.dir cnt W.check rc sg tail) (J3 : Kept fs W.dir W.check sg) (Ht : W.AP = sg.map (·.1)) (C8 : fs (BC W.dir) = none) (Fy : (rc ++ Ao sg).length ≤ 4194304)
   (hR : y0 d b W τ fs cnt rc sg tail R) : Spec prog 175 #[.pointer (some ⟨b, 0, none⟩)] σ R := by
 obtain ⟨τw, S, p, c, T, M6, N9, SY⟩ := h.opened
 have mB : Tb τw := ht.mono (SY.trans (Ext.CJ _ _))
 have OJ : W.dir.size ≤ 32 := by simp [CL] at hd; exact hd.2
 have hR' : y0 d b W (τw.off S) fs cnt rc sg tail R := fun σ' ρ p n c Fg cnt' KZ a1 a2 a3 a4 a5 a6 a7 a8 a9 a10 a11 a12 => hR σ' ρ p n c Fg cnt' KZ a1 (SY.trans a2) a3 a4 a5 a6 a7 a8 a9 a10 a11 a12
 have LO : W.AP.length = sg.length := by rw [Ht, List.length_map]
 have loop : ∀ (σ ρ : Hp) (p3 : Option Addr) (n3 c3 : Nat), Ai σ d (dk fs cnt) ρ → Ext τw (ρ.del p3) → Ix (ρ.off S) p3 n3 c3 rc → BM.Me R (some ⟨b, 0, none⟩) p3 n3 c3 σ := fun σ ρ p3 n3 c3 h1 hx ho => by
   have aR := hx.trans (Ext.GR _ _)
   refine BM.JM ⟨b, 0, rfl, p, _, c, AD ((N9.mono aR).mono h1.ext).obj rfl, ?_⟩
   refine gO hd hc hfew mB Jp J3 Ht C8 Fy N9 hR' sg.length 0 σ ρ p3 n3 c3 rfl (Nat.zero_le _) h1 hx (by simpa [Ao] using ho) ?_
   rcases Nat.eq_zero_or_pos sg.length with h0 | h0
   · exact .inr (Jp.vD (List.eq_nil_of_length_eq_zero h0))
   · exact .inl h0
 have Xu := N9.mono M6.ext
 refine BM.start ⟨b, 0, rfl, W.check, AD Xu.obj rfl, fun Ju => ⟨W.check, AD Xu.obj rfl, p, _, c, AD Xu.obj rfl, ?_⟩, fun hz => ?_⟩
 · have r9 := Jp.aL
   refine DI (kind := kc) (dir := W.dir) (AD Xu.obj rfl) OJ (.inl rfl) (by omega) (mB.mono M6.ext) fun σ1 BH => ⟨_, rfl, Kp.CG BH, ?_⟩
   refine RA (M6.mono BH) N9.sB rfl (FM hd (.inl rfl) (by omega)) (Jp.PT (by omega)) Jp.Oq fun σ2 ρ2 ν p' n' c' h2 x2 hν x3 hb => ⟨_, _, _, _, rfl, fun hh => (by cases hh), fun _ => ?_⟩
   refine loop σ2 ρ2 p' n' c' h2 (hb.own x2 hν.block) (A9.mono R7.mono (fun j o hj => Hp.AH.2 ⟨fun hs => N9.known j hs (hb j o hj), x3 j o hj⟩) hν)
 · have h0 : W.check = 0 := by omega
   have hrc := Jp.Xm h0
   subst hrc
   exact loop σ τw none 0 0 M6 (Ext.refl _) A9.nil
def vP (d b : Nat) (dir : ByteArray) (D : Dk) (τ : Hp) (told : Bz) (w : Bool) (K : Hp → Hp → Option Addr → Nat → Nat → Prop) : Prop :=
 ∀ σ' W rc sg ρ p n c Fg cnt', Aj σ' d b (dk Fg cnt') W ρ → Ext τ ρ → Jx ρ p n told → W.dir = dir → A5 Fg cnt' W rc sg 0 → rc ++ Ao sg = told → Out dir D.files Fg → Sub D.files Fg → Fg (BC dir) = none → D.cnt ≤ cnt' → cnt' ≤ D.cnt + 1 → (w = true → cnt' = D.cnt ∧ ∃ L, Names D.files (dir ++ Cn) L ∧ Fg = Ou D.files dir L) → K σ' ρ p n c
theorem A5.made {opn size : Nat} (Jp : Shape fs W.dir cnt W.check rc sg []) (J3 : Kept fs W.dir W.check sg) (Ht : W.AP = sg.map (·.1)) (h0 : sg = [] → W.opn = W.check + 1 ∧ W.size = 0) (h1 : ∀ s0 x, sg = s0 ++ [x] → W.opn = x.1 ∧ W.size = (AU x.2).length) : A5 fs cnt W rc sg 0 := by
 rcases List.eq_nil_or_concat sg with e | ⟨s0, x, e⟩
 · subst e
   obtain ⟨e1, e2⟩ := h0 rfl
   exact ⟨Jp, Ht, ⟨by omega, by have := Jp.aL; omega, fun x hx => by cases hx⟩, fun x hx => (by cases hx), fun _ => e2, fun f h hf => J3.1 f h hf, fun x hx => (by cases hx), fun x hx => (by cases hx), fun _ => Nat.zero_le _⟩
 · have e' : sg = s0 ++ [x] := by rw [e]; simp
   subst e'
   obtain ⟨e1, e2⟩ := h1 s0 x rfl
   have hgx := Jp.gt x (by simp)
   have Ag := Px Jp.Jz
   refine ⟨Jp, Ht, ⟨by omega, by omega, fun y hy => ?_⟩, fun y hy dU => ?_, fun Be => absurd e1.symm (Be x (by simp)), fun f h hf => J3.1 f h hf, fun y hy VE f hf => ?_, fun y hy dU => ?_, fun _ => Nat.zero_le _⟩
   · rcases List.mem_append.1 hy with hy | hy
     · have := Ag y hy; omega
     · simp at hy; subst hy; omega
   · rcases List.mem_append.1 hy with hy | hy
     · have := Ag y hy; omega
     · simp at hy; subst hy; exact e2
   · rcases List.mem_append.1 hy with hy | hy
     · obtain ⟨k, hk⟩ := List.getElem?_of_mem hy
       have iQ := (List.getElem?_eq_some_iff.1 hk).1
       exact J3.2 k y (by rw [List.getElem?_append_left iQ]; exact hk) (by simp; omega) f hf
     · simp at hy; subst hy; omega
   · rcases List.mem_append.1 hy with hy | hy
     · have := Ag y hy; omega
     · simp at hy
       subst hy
       obtain ⟨f, hf, _⟩ := Jp.file s0.length y (by simp)
       exact ⟨0, f, Nat.zero_le _, hf, by simp [AU], by rw [CD, Ey, List.length_append, List.length_append]; omega⟩
theorem Tb.VI {k : Nat} (h : Tb τ) (hk : τ k = some (.cells #[.slice none 0 0] 165 (0, 0))) : Tb (τ.off [k]) := by
 obtain ⟨g, T, fr, h1, h2⟩ := h
 refine ⟨g, T, fr, h1, ?_⟩
 rw [Hp.BN]
 · exact h2
 · intro hg
   simp only [List.mem_singleton] at hg
   subst hg
   rw [hk] at h2
   simp only [Option.some.injEq, Obj.cells.injEq] at h2
   have := congrArg Array.size h2.1
   simp [Lib.pow10Tab] at this
theorem aS {dir : ByteArray} {told : Bz} {w : Bool} {b0 b1 b2 b3 : Nat} (h : Aj σ d b (dk fs cnt) ⟨dir, 0, [], 0, 0⟩ τ) (ht : Tb τ) (hd : CL dir = true) (hc : cnt < 67108864) (hfew : Oh (dk fs cnt)) (ho : Xn fs dir cnt told w) (Fy : told.length ≤ 4194304)
   (t0 : τ b0 = some (.cells #[.pointer (some ⟨b, 0, none⟩)] 158 (0, 0))) (t1 : τ b1 = some (.cells #[.pointer (some ⟨d, 0, none⟩)] 106 (0, 0))) (t2 : τ b2 = some (.cells #[.string dir] 9 (0, 0))) (t3 : τ b3 = some (.cells #[.slice none 0 0] 165 (0, 0)))
   (hR : vP d b dir (dk fs cnt) (τ.off [b3]) told w fun σ' ρ p n c => ρ b3 = some (.cells #[.slice p n c] 165 (0, 0)) → R (.returned (.tuple #[])) σ') :
   Spec prog 172 #[.pointer (some ⟨b0, 0, none⟩), .pointer (some ⟨b1, 0, none⟩), .pointer (some ⟨b2, 0, none⟩), .pointer (some ⟨b3, 0, none⟩)] σ R := by
 obtain ⟨check, rc, sg, tail, Jp, rfl, J3, hwt⟩ := ho
 have OJ : dir.size ≤ 32 := by simp [CL] at hd; exact hd.2
 have R9 := h.ext
 have Jm := h.names
 have gR : b0 ≠ b3 := fun e => by rw [e, t3] at t0; cases t0
 have ALn : b1 ≠ b3 := fun e => by rw [e, t3] at t1; cases t1
 refine Qg.start ⟨_, AD (R9 _ _ t0) rfl, _, AD (R9 _ _ t1) rfl, dir, AD (R9 _ _ t2) rfl, ?_, ?_⟩
 · show dir.size + Cn.size ≤ _
   have : Cn.size = 1 := rfl
   rw [this]; omega
 have h' := h
 obtain ⟨Sd, S, q, cc, T, g1, _, _⟩ := h'
 refine ft (pre := dir ++ Cn) g1 rfl (by show cnt ≤ _; omega) fun cQ n11 iT L σ1 hoL hL BH ALo => ⟨cQ, n11, iT, rfl, Kp.CG BH, ?_⟩
 obtain ⟨τ1, h1, x1, x1n⟩ := h.grow BH
 have hrT : oc τ1 cQ n11 L := (Own.rd hoL).mono x1n
 have AEb : n11 ≤ 67108864 := Nat.le_trans ALo (by show cnt ≤ _; omega)
 refine aP (W := ⟨dir, 0, [], 0, 0⟩) h1 ⟨rfl, rfl⟩ hL Jm OJ hrT AEb fun σ2 h2 => ⟨rfl, ?_⟩
 have hmc := dW Jp (by omega) hL
 have JT := aO Jp (by omega) hL
 obtain ⟨ALp, AFK, Xw, dY⟩ := Xs Jp (by omega) hL
 rw [hmc] at h2
 simp only at h2
 rw [JT] at h2
 have ALq : Kept (Ou fs dir L) dir check sg := ⟨fun f h0 hf => J3.1 f h0 (dY _ _ hf), fun k x hx hk f hf => J3.2 k x hx hk f (dY _ _ hf)⟩
 have An := h2.ext
 have r9 := Jp.aL
 refine ⟨_, AD (An _ _ (x1 _ _ t0)) rfl, _, AD (An _ _ (x1 _ _ t0)) rfl, b, 0, rfl, check, h2.rd.check, by unfold AO; omega, b, 0, rfl, ?_⟩
 have e1 : ((check : Int) + 1) = ((check + 1 : Nat) : Int) := by omega
 rw [e1]
 refine h2.st (i := 0 + 4) (W' := ⟨dir, check, sg.map (·.1), check + 1, 0⟩) (by omega) rfl (fun p n c => rfl) fun σ3 h3 => ?_
 have t31 := x1 _ _ t3
 refine ⟨_, AD (h3.ext _ _ (x1 _ _ t0)) rfl, Spec.VH (h3.ext _ _ t31) (Xv (W := ⟨dir, check, sg.map (·.1), check + 1, 0⟩) (h3.VH t31) ((ht.VI t3).mono (x1.off [b3])) hd (by omega) (hfew.sub (Nat.le_refl _) fun s hs => by obtain ⟨f, hf⟩ := Option.isSome_iff_exists.1 hs; exact Option.isSome_iff_exists.2 ⟨f, dY _ _ hf⟩) ALp ALq rfl Xw Fy fun σ4 ρ p n c Fg cnt' KZ h4 aR HM NA y1 ALr AFL AFM AFN fy UW hc3 Be => ⟨p, n, c, rfl, ?_⟩)⟩
 have ALs : ρ b3 = none := A4 h4.ext Be
 refine (h4.mA (o := .cells #[.slice none 0 0] 165 (0, 0)) Be).stB (v := .slice p n c) (Hp.AA _ _ _) (E := 165) (n := 1) ?_ rfl (by simp) (by simp [Value.cells, Value.oneCell']) fun σ5 h5 => ?_
 · intro w
   have hi : prog.info? 165 = some t165 := by kernel_rfl
   simp [Go.sizeOf, typeInfo, hi, show t165.size = 1 from rfl]
 rw [Hp.set_set] at h5
 have y2 : Ext ρ (ρ.set b3 (.cells (DX #[.slice none 0 0] 0 (Value.slice p n c).cells.toList) 165 (0, 0))) := .set ALs
 have Xx : ∀ j o, j ≠ b3 → τ j = some o → (ρ.set b3 (.cells (DX #[.slice none 0 0] 0 (Value.slice p n c).cells.toList) 165 (0, 0))) j = some o := fun j o hj hjo => y2 _ _ (aR _ _ (Hp.AH.2 ⟨by simpa using hj, x1 _ _ hjo⟩))
 have SU := h5.ext
 have hτ : Ext (τ.off [b3]) (ρ.set b3 (.cells (DX #[.slice none 0 0] 0 (Value.slice p n c).cells.toList) 165 (0, 0))) := fun j o hj => by
   have := Hp.AH.1 hj
   exact Xx j o (by simpa using this.1) this.2
 have ALt : Jx (ρ.set b3 (.cells (DX #[.slice none 0 0] 0 (Value.slice p n c).cells.toList) 165 (0, 0))) p n (rc ++ Ao sg) := by
   rw [← NA]; exact HM.mono y2
 have htb : Tb (ρ.set b3 (.cells (DX #[.slice none 0 0] 0 (Value.slice p n c).cells.toList) 165 (0, 0))) := (((ht.VI t3).mono (x1.off [b3])).mono aR).mono y2
 have fin : ∀ σ' W', Aj σ' d b (dk Fg cnt') W' (ρ.set b3 (.cells (DX #[.slice none 0 0] 0 (Value.slice p n c).cells.toList) 165 (0, 0))) → W'.dir = dir → W'.check = check → W'.AP = KZ.map (·.1) → (KZ = [] → W'.opn = W'.check + 1 ∧ W'.size = 0) → (∀ s0 x, KZ = s0 ++ [x] → W'.opn = x.1 ∧ W'.size = (AU x.2).length) → R (.returned (.tuple #[])) σ' := by
   intro σ' W' hl e1 e2 e3 e4 e5
   subst e1 e2
   refine hR σ' W' rc KZ _ p n c Fg cnt' hl hτ ALt rfl (A5.made (opn := 0) (size := 0) y1 ALr e3 e4 e5) (by rw [NA]) (AFK.trans AFL) (Sub.trans (fs := fs) (fun s hs => by obtain ⟨f, hf⟩ := Option.isSome_iff_exists.1 hs; rw [dY s f hf]; rfl) AFM) AFN fy UW (fun hw => ⟨(hc3 (hwt hw)).1, L, hL, (hc3 (hwt hw)).2⟩) ?_
   rw [Hp.AA]; rfl
 obtain ⟨pq, cq, hcq, hlq, hrq⟩ := h5.rd.AP
 refine ⟨_, AD (SU _ _ (Xx _ _ gR t0)) rfl, b, 0, rfl, pq, _, cq, hlq, fun Ju => ?_, fun hz => ?_⟩
 · rcases List.eq_nil_or_concat KZ with e | ⟨s0, x, e⟩
   · subst e; simp at Ju
   have e' : KZ = s0 ++ [x] := by rw [e]; simp
   subst e'
   have hgx := y1.gt x (by simp)
   have F8 : (JI ((s0 ++ [x]).map (·.1)))[s0.length]? = some ((x.1 : Nat) : Int) := by simp [JI]
   obtain ⟨Hn, fP, hpq, ALv⟩ := hrq.at F8
   have el : ((s0 ++ [x]).map (·.1)).length = s0.length + 1 := by simp
   have e3 : Int.toNat ((((s0 ++ [x]).map (·.1)).length : Int) - 1) = s0.length := by rw [el]; omega
   refine ⟨_, AD (SU _ _ (Xx _ _ gR t0)) rfl, _, AD (SU _ _ (Xx _ _ gR t0)) rfl, b, 0, rfl, pq, _, cq, hlq, ?_, Hn, fP, hpq, ?_, x.1, by rw [e3]; exact ALv, b, 0, rfl, ?_⟩
   · have := UW; have := h5.rd.AP; unfold AO; rw [el]; have := hrq.big; rw [el] at this; omega
   · rw [el]; omega
   refine h5.st (i := 0 + 4) (W' := ⟨dir, check, (s0 ++ [x]).map (·.1), x.1, 0⟩) (by omega) rfl (fun p n c => rfl) fun σ6 h6 => ?_
   have LU := h6.ext
   obtain ⟨f, hf, vM⟩ := y1.file s0.length x (by simp)
   simp at vM
   refine ⟨_, AD (LU _ _ (Xx _ _ ALn t1)) rfl, _, AD (LU _ _ (Xx _ _ gR t0)) rfl, _, AD (LU _ _ (Xx _ _ gR t0)) rfl, b, 0, rfl, x.1, h6.rd.opn, ?_⟩
   refine DI (kind := ks) (dir := dir) h6.rd.dir OJ (.inr rfl) (by omega) (htb.mono LU) fun σ7 Ov => ⟨_, rfl, Kp.CG Ov, ?_⟩
   obtain ⟨τ8, S8, p8, c8, T8, ALw, AFP, ALx⟩ := (h6.mono Ov).opened
   refine l7 ALw rfl (FM hd (.inr rfl) (by omega)) hf fun p9 c9 σ9 τ9 h9 x9 _ _ _ => ⟨_, _, _, _, rfl, I2 ?_⟩
   have mC : Aj σ9 d b (dk Fg cnt') ⟨dir, check, (s0 ++ [x]).map (·.1), x.1, 0⟩ (ρ.set b3 (.cells (DX #[.slice none 0 0] 0 (Value.slice p n c).cells.toList) 165 (0, 0))) := (Aj.close h9 (AFP.mono x9)).EW (ALx.trans (x9.off _))
   refine ⟨_, AD (mC.ext _ _ (Xx _ _ gR t0)) rfl, b, 0, rfl, ?_⟩
   refine mC.st (i := 0 + 5) (x := (f.data.length : Nat)) (W' := ⟨dir, check, (s0 ++ [x]).map (·.1), x.1, f.data.length⟩) (by omega) rfl (fun p n c => rfl) fun ALy oe => ?_
   refine fin ALy _ oe rfl rfl rfl (fun e => by simp at e) fun s1 y e => ?_
   have := List.append_inj' e rfl
   simp only [List.cons.injEq, and_true] at this
   rw [← this.2]
   exact ⟨rfl, congrArg List.length vM⟩
 · have e0 : KZ = [] := by
     cases KZ with
     | nil => rfl
     | cons y l => simp at hz
   exact fin σ5 _ h5 rfl rfl rfl (fun _ => ⟨rfl, rfl⟩) fun s0 x e => by rw [e0] at e; simp at e
theorem ALz : Enters prog 172 := fun args w => call172 args w
theorem gS {dir : ByteArray} {told : Bz} {w : Bool} (h : Ai σ d D τ) (ht : Tb τ) (Ev : D.up = true) (LR : D.armed = false) (hd : CL dir = true) (hc : D.cnt < 67108864) (ho : Xn D.files dir D.cnt told w) (Fy : told.length ≤ 4194304)
   (hR : ∀ b, vP d b dir D τ told w fun σ' ρ p n c => R (.returned (.tuple #[.pointer (some ⟨b, 0, none⟩), .slice p n c, .int .i64 0])) σ') (hfew : Oh D := by refine .inl ?_; first | omega | (dsimp only [dk]; omega) | (dsimp only; omega)) : Spec prog 95 #[.pointer (some ⟨d, 0, none⟩), .string dir] σ R := by
 obtain ⟨fs, up, armed, cnt⟩ := D
 simp only at Ev LR
 subst Ev LR
 have OJ : dir.size ≤ 32 := by simp [CL] at hd; exact hd.2
 have hdn : Ae dir = true := by simp only [CL, Bool.and_eq_true] at hd; exact hd.1
 refine We.start fun b2 HV b3 U4 => ?_
 obtain ⟨τ2, h2, x2, t2⟩ := h.box (o := .cells #[.pointer (some ⟨d, 0, none⟩)] 106 (0, 0)) HV
 obtain ⟨τ3, h3, x3, t3⟩ := h2.box (o := .cells #[.string dir] 9 (0, 0)) U4
 refine ⟨dir, AD (h3.ext _ _ t3) rfl, fun hh => by omega, fun _ => ⟨dir, AD (h3.ext _ _ t3) rfl, Kq ⟨_, rfl, fun hf => (by rw [hdn] at hf; cases hf), fun _ => ⟨_, AD (h3.ext _ _ (x3 _ _ t2)) rfl, ?_⟩⟩⟩⟩
 have h3' := h3
 obtain ⟨Sd, g1, _⟩ := h3'
 refine dH g1 ⟨_, rfl, fun hh => (by cases hh), fun _ => ⟨_, AD (h3.ext _ _ (x3 _ _ t2)) rfl, dir, AD (h3.ext _ _ t3) rfl, fun NN AL0 b7 hb7 => ?_⟩⟩
 have hl := Aj.make (W := ⟨dir, 0, [], 0, 0⟩) h3 AL0 rfl
 refine AJ.store (v := .pointer (some ⟨NN, 0, none⟩)) ?_ (Hp.AA _ _ _) (n := 1) rfl (by simp) (by simp [Value.cells, Value.oneCell']) ?_
 · intro w
   have hi : prog.info? 158 = some t158 := by kernel_rfl
   simp [Go.sizeOf, typeInfo, hi, show t158.size = 1 from rfl]
 rw [Hp.set_set]
 have hw : DX #[Value.pointer none] 0 (Value.pointer (some ⟨NN, 0, none⟩)).cells.toList = #[.pointer (some ⟨NN, 0, none⟩)] := rfl
 rw [hw]
 intro b8 hb8
 obtain ⟨τ7, h7, x7, t7⟩ := hl.box (o := .cells #[.pointer (some ⟨NN, 0, none⟩)] 158 (0, 0)) hb7
 obtain ⟨τ8, h8, x8, t8⟩ := h7.box (o := .cells #[.slice none 0 0] 165 (0, 0)) hb8
 have N7 : Ext τ τ8 := x2.trans (x3.trans (x7.trans x8))
 have sH : Ext τ (τ8.off [b8]) := fun j o hj => by
   refine Hp.AH.2 ⟨fun e => ?_, N7 _ _ hj⟩
   simp only [List.mem_singleton] at e
   subst e
   have h9 := h7.ext _ _ (x7 _ _ (x3 _ _ (x2 _ _ hj)))
   have mC := hb8.symm.trans h9
   cases mC
 have t78 : τ8 b7 = some (.cells #[.pointer (some ⟨NN, 0, none⟩)] 158 (0, 0)) := x8 _ _ t7
 have AL1 : b7 ≠ b8 := fun e => by rw [e, t8] at t78; cases t78
 refine KY ALz (aS h8 (ht.mono N7) hd hc hfew ho Fy t78 (x8 _ _ (x7 _ _ (x3 _ _ t2))) (x8 _ _ (x7 _ _ t3)) t8 fun σ' W rc sg ρ p n c Fg cnt' a1 a2 a3 a4 a5 a6 a7 a8 a9 a10 AL2 AFR a11 => .inl ⟨rfl, _, rfl, fun hh => absurd rfl hh, fun _ => ⟨_, AD (a1.ext _ _ (a2 _ _ (Hp.AH.2 ⟨by simpa using AL1, t78⟩))) rfl, p, n, c, AD (a1.ext _ _ a11) rfl, ?_⟩⟩)
 exact hR NN σ' W rc sg ρ p n c Fg cnt' a1 (sH.trans a2) a3 a4 a5 a6 a7 a8 a9 a10 AL2 AFR
end
end TwW
end
section
namespace TwW
open Go Tw Go.RowKit Go.Proofs.Tryz
section
variable {fs gs : Fs} {cnt safe : Nat} {W : Wl} {rc keep : Bz} {sg : Sg}
theorem A5.laid (h : A5 fs cnt W rc sg safe) (hc : cnt < 99999998) (hk : Good keep) : Shape (laid fs W.dir (AG W.dir kc W.opn) (AU keep)) W.dir (cnt + 1) W.opn keep [] [] := by
 have ho := h.opn
 have hb : W.opn < 100000000 := by omega
 have hn := By (dir := W.dir) (kind := kc) hb
 have hold : ∀ s, (TwW.laid fs W.dir (AG W.dir kc W.opn) (AU keep) s).isSome = true → s = AG W.dir kc W.opn ∨ (fs s).isSome = true := fun s hs => by
   by_cases h1 : s = AG W.dir kc W.opn
   · exact .inl h1
   · by_cases h2 : s = BC W.dir
     · simp [TwW.laid, h1, h2] at hs
       have := (Bq (dir := W.dir) (kind := kc) (a := W.opn) (.inl rfl))
       exact absurd hs this
     · simp only [TwW.laid, h1, h2, if_false] at hs; exact .inr hs
 refine ⟨fun _ => ⟨⟨AU keep, (AU keep).length⟩, by simp [TwW.laid], rfl⟩, fun e => by omega, fun s hs => ?_, ho.2.1, (fun x hx => by cases hx), List.Pairwise.nil, fun s hs Ag => ?_, (fun k x hx => by simp at hx), fun _ => rfl, EV, hk, (fun x hx => by cases hx), fun a ha => by cases ha⟩
 · rcases hold s hs with rfl | h1
   · omega
   · have := h.sh.Y7 s h1; omega
 · exfalso
   rcases hold s hs with rfl | h1
   · have := I0 (dir := W.dir) (s := AG W.dir kc W.opn) (by omega); omega
   · obtain ⟨x, hx, e⟩ := h.sh.dQ s h1 (by omega)
     have := ho.2.2 x hx; omega
theorem Shape.mD {dir s : ByteArray} {check : Nat} (h : Shape fs dir cnt check keep [] []) (hs : s ≠ AG dir kc check) : Shape (BG fs s none) dir cnt check keep [] [] :=
 h.congr (Nat.le_refl _) (fun _ => Ax hs.symm) (fun x hx => by cases hx) fun t ht => by
   by_cases P2 : t = s
   · subst P2; rw [C6] at ht; cases ht
   · rw [Ax P2] at ht; exact .inl ht
theorem Shape.mE {dir : ByteArray} {check : Nat} (h : Shape fs dir cnt check keep [] []) (hs : ∀ f, fs (AG dir kc check) = some f → f.GY = f.data.length) (hc : Gg fs gs) : HN gs dir cnt keep :=
 ⟨check, keep, [], [], { h with PT := fun h0 => hc.whole (h.PT h0) hs, Y7 := fun s hs => h.Y7 s (hc.VD hs), dQ := fun s hs => h.dQ s (hc.VD hs), file := fun k x hx => by simp at hx }, by simp [Ao], hc.kept, fun h => (by cases h)⟩
end
section
variable {σ ρ τ : Hp} {d b : Nat} {D : Dk} {W : Wl} {R : Rr} {fs : Fs} {cnt safe : Nat} {rc keep : Bz} {sg : Sg}
structure AFS (d b : Nat) (D : Dk) (W : Wl) (τ : Hp) (rc : Bz) (sg : Sg) (safe : Nat) (keep : Bz) (rok : Hp → Prop) (lx : Hp → Prop) : Prop where
 ok : ∀ σ' D' W', Aj σ' d b D' W' τ → D'.up = true → D'.armed = D.armed → D'.cnt = D.cnt + 1 → W'.dir = W.dir → (W'.AP = [] ∧ W'.check = W.opn ∧ ∀ s, (D'.files s).isSome = true → s = AG W.dir kc W.opn ∨ ((D.files s).isSome = true ∧ (0 < W.check → s ≠ AG W.dir kc W.check) ∧ ∀ n ∈ W.AP, s ≠ AG W.dir ks n)) → A5 D'.files D'.cnt W' keep [] keep.length → Out W.dir D.files D'.files → D'.files (BC W.dir) = none → rok σ'
 bad : D.armed = true → ∀ σ' D' told, Ai σ' d D' τ → D'.up = false → D'.armed = false → (D'.cnt = D.cnt + 1 ∧ ∀ s, (D'.files s).isSome = true → (D.files s).isSome = true ∨ s = AG W.dir kc W.opn ∨ s = BC W.dir) → HN D'.files W.dir D'.cnt told → (told = keep ∨ (told <+: rc ++ Ao sg ∧ safe ≤ told.length)) → lx σ'
theorem AL3 : Enters prog 136 := fun args w => call136 args w
theorem AFT {b0 ck : Nat} {armed : Bool} {C : Nat} {Q : List Nat → Fs → Prop} (hQ : ∀ n l fs, Q (n :: l) fs → Q l (BG fs (AG W.dir ks n) none)) (hd : CL W.dir = true) (hC : C ≤ 67108864) (ht : Tb τ) (t0 : τ b0 = some (.cells #[.pointer (some ⟨b, 0, none⟩)] 158 (0, 0))) (AS4 : Out W.dir D.files fs)
   (Au : ∀ σ' Fg W', Aj σ' d b ⟨Fg, true, armed, C⟩ W' τ → W'.dir = W.dir → (W'.AP = [] ∧ W'.check = ck ∧ Q [] Fg) → A5 Fg C W' keep [] keep.length → Out W.dir D.files Fg → Fg (BC W.dir) = none → R (.returned (.tuple #[])) σ')
   (KU : armed = true → ∀ σ' gs, HN gs W.dir C keep → Ai σ' d ⟨gs, false, false, C⟩ τ → (∃ l fs2, Q l fs2 ∧ ∀ s, (gs s).isSome = true → (fs2 s).isSome = true) → R (.panicked (bX 60)) σ') :
   ∀ (m : Nat) (σ : Hp) (fs : Fs) (V : Wl), V.AP.length = m → V.dir = W.dir → V.check = V.opn → Aj σ d b ⟨fs, true, armed, C⟩ V τ → Shape fs W.dir C V.opn keep [] [] → 0 < V.opn → (∀ f, fs (AG W.dir kc V.opn) = some f → f.GY = f.data.length) → (∀ n ∈ V.AP, (fs (AG W.dir ks n)).isSome = true ∧ n ≤ C) → V.AP.Nodup → Out W.dir D.files fs → fs (BC W.dir) = none → V.check = ck → Q V.AP fs →
     Ck.LJ R b0 σ := by
 intro m
 have OJ : W.dir.size ≤ 32 := by simp [CL] at hd; exact hd.2
 induction m with
 | zero =>
   intro σ fs V hm Q7 hco h Jp Ju r8 Vr u7 Fc C8 hck hq
   have hr := h.rd
   have hx := h.ext
   obtain ⟨p, c, hc, hl, HM⟩ := hr.AP
   have aH : V.AP = [] := List.eq_nil_of_length_eq_zero hm
   have r9 := Jp.aL
   refine Ck.Hk ⟨_, AD (hx _ _ t0) rfl, b, 0, rfl, p, _, c, hl, fun hh => by omega, fun _ => ⟨_, AD (hx _ _ t0) rfl, b, 0, rfl, V.opn, hr.opn, by unfold AO; omega, ?_⟩⟩
   have e : ((V.opn : Int) + 1) = ((V.opn + 1 : Nat) : Int) := by omega
   rw [e]
   refine h.st (i := 0 + 4) (W' := { V with opn := V.opn + 1 }) (by omega) rfl (fun p n c => rfl) fun σ1 h1 => ?_
   refine ⟨_, AD (h1.ext _ _ t0) rfl, b, 0, rfl, ?_⟩
   refine h1.st (i := 0 + 5) (x := 0) (W' := { V with opn := V.opn + 1, size := 0 }) (by omega) rfl (fun p n c => rfl) fun σ2 h2 => ?_
   refine Au σ2 fs _ h2 Q7 ⟨aH, hck, aH ▸ hq⟩ ⟨?_, by rw [aH]; rfl, ⟨by simp only; omega, by simp only; omega, fun x hx => by cases hx⟩, (fun x hx => by cases hx), fun _ => rfl, fun f h0 hf => ?_, (fun x hx => by cases hx), (fun x hx => by cases hx), fun _ => by simp [Ao]⟩ Fc C8
   · simp only [Q7, hco]; exact Jp
   · simp only [Q7, hco] at hf; exact r8 f hf
 | succ m ih =>
   intro σ fs V hm Q7 hco h Jp Ju r8 Vr u7 Fc C8 hck hq
   have hr := h.rd
   have hx := h.ext
   obtain ⟨p, c, hc, hl, HM⟩ := hr.AP
   obtain ⟨n0, l, LO⟩ : ∃ n0 l, V.AP = n0 :: l := by
     cases hs : V.AP with
     | nil => rw [hs] at hm; cases hm
     | cons a l => exact ⟨a, l, rfl⟩
   have F8 : (JI V.AP)[0]? = some ((n0 : Nat) : Int) := by rw [JI, LO]; rfl
   obtain ⟨b50, o50, hp, AL4⟩ := HM.at F8
   obtain ⟨hf0, jA⟩ := Vr n0 (by rw [LO]; simp)
   obtain ⟨f, hf⟩ := Option.isSome_iff_exists.1 hf0
   have AFV : σ.ld ⟨b, 0 + 1, none⟩ = some (.string W.dir) := by rw [← Q7]; exact hr.dir
   have Jw : Ae (AG W.dir ks n0) = true := FM hd (.inr rfl) (by omega)
   refine Ck.Hk ⟨_, AD (hx _ _ t0) rfl, b, 0, rfl, p, _, c, hl, fun _ => ⟨_, AD (hx _ _ t0) rfl, b, 0, rfl, _, hr.ptr, _, AD (hx _ _ t0) rfl, _, AD (hx _ _ t0) rfl, b, 0, rfl, p, _, c, hl, b50, o50, hp, by omega, n0, by simpa using AL4, ?_⟩, fun hh => by omega⟩
   refine DI (kind := ks) (dir := W.dir) AFV OJ (.inr rfl) (by omega) (ht.mono hx) fun σ1 BH => ⟨_, rfl, Kp.CG BH, ?_⟩
   refine Pw (h.mono BH) rfl Jw hf ⟨fun σ2 h2 => ⟨_, rfl, I2 ?_⟩, fun ha σ2 gs hg M6 => ⟨_, rfl, MK (KU ha σ2 gs (Jp.mE r8 hg) M6 ⟨V.AP, fs, hq, fun s hs => hg.VD hs⟩)⟩⟩
   obtain ⟨p2, c2, UW, SX, AFW⟩ := h2.rd.AP
   refine ⟨_, AD (h2.ext _ _ t0) rfl, _, AD (h2.ext _ _ t0) rfl, b, 0, rfl, p2, _, c2, SX, by omega, b, 0, rfl, ?_⟩
   refine h2.cut (l := l) (by rw [LO]; rfl) (fun p' c' vO => ?_) fun σ3 h3 => ?_
   · rw [SX] at vO
     cases vO
     refine ⟨?_, fun ρ ho => ?_⟩
     · unfold GP
       cases p2 with
       | none => split <;> rfl
       | some a =>
         split
         · rfl
         · simp [DJ, Addr.add]
     · have hlen : V.AP.length = l.length + 1 := by rw [LO]; rfl
       obtain ⟨h1, h0, h4⟩ := ho
       refine ⟨by simp [JI]; omega, by omega, ?_⟩
       rcases h4 with ⟨_, e, _⟩ | ⟨bb, oo, arr, T, rfl, hb, iR, Ee, IP⟩
       · omega
       · by_cases sI : c2 = 1
         · have NM : l = [] := List.eq_nil_of_length_eq_zero (by omega)
           subst NM sI
           exact .inr ⟨bb, oo, arr, T, by simp [GP], hb, by simp; omega, by omega, by simp [JI]; omega⟩
         · refine .inr ⟨bb, oo + 1, arr, T, by simp [GP, sI, DC], hb, by omega, by omega, ?_⟩
           have e : V.AP.length - 1 = l.length := by omega
           rw [LO] at IP
           have := congrArg (List.drop 1) IP
           rw [List.drop_take, List.drop_drop] at this
           simp only [JI, List.map_cons, List.drop_succ_cons, List.drop_zero, List.length_cons] at this
           rw [hlen]
           simp only [JI]
           rw [← this]
           congr 1
   · have Ad : ∀ k, AG W.dir ks n0 ≠ AG W.dir kc k := fun k e => BL e.symm
     have NT : n0 ∉ l ∧ l.Nodup := by rw [LO] at u7; exact List.nodup_cons.1 u7
     refine ih σ3 _ { V with AP := l } (by rw [LO] at hm; simpa using hm) Q7 hco h3 (Jp.mD (Ad _)) Ju (fun f hf => r8 f (by rwa [Ax (Ad _).symm] at hf)) (fun k hk => ?_) NT.2 (Fc.trans (Out.del DB)) ((Ax (Bq (.inr rfl))).trans C8) hck (hQ n0 l fs (LO ▸ hq))
     have dN := Vr k (by rw [LO]; simp [show k ∈ l from hk])
     refine ⟨?_, dN.2⟩
     rw [Ax]
     · exact dN.1
     · intro e
       have := Ex (by omega) (by omega) e
       exact NT.1 (this ▸ hk)
theorem gT {b0 b1 : Nat} {p : Option Addr} {n c : Nat} (h : Aj σ d b D W τ) (ht : Tb τ) (t0 : τ b0 = some (.cells #[.pointer (some ⟨b, 0, none⟩)] 158 (0, 0))) (t1 : τ b1 = some (.cells #[.slice p n c] 165 (0, 0)))
   (hx : Jx τ p n keep) (hk : Good keep) (hlen : (AU keep).length ≤ 4194304) (Ev : D.up = true) (GJ : D.cnt < 67108864) (hfew : Oh D) (hd : CL W.dir = true) (Au : A5 D.files D.cnt W rc sg safe) (C8 : D.files (BC W.dir) = none)
   (hR : AFS d b D W τ rc sg safe keep (fun σ' => R (.returned (.tuple #[])) σ') (fun σ' => R (.panicked (bX 60)) σ')) : Spec prog 136 #[.pointer (some ⟨b0, 0, none⟩), .pointer (some ⟨b1, 0, none⟩)] σ R := by
 have hr := h.rd
 have R9 := h.ext
 have OJ : W.dir.size ≤ 32 := by simp [CL] at hd; exact hd.2
 have yy := Au.opn
 have Jw : Ae (AG W.dir kc W.opn) = true := FM hd (.inl rfl) (by omega)
 refine Ck.start ⟨_, AD (R9 _ _ t0) rfl, _, AD (R9 _ _ t0) rfl, _, AD (R9 _ _ t0) rfl, b, 0, rfl, W.opn, hr.opn, p, n, c, AD (R9 _ _ t1) rfl, ?_⟩
 refine DI (kind := kc) hr.dir OJ (.inl rfl) (by omega) (ht.mono R9) fun σ1 BH => ⟨_, rfl, Kp.CG BH, ?_⟩
 obtain ⟨τw, S, q, cc, T, M6, N9, SY⟩ := (h.mono BH).opened
 have AL5 : Ext τ τw := SY.trans (Ext.CJ _ _)
 have Jp := Au.laid (keep := keep) (by omega) hk
 have cl : ∀ {σ' : Hp} {D' : Dk}, Ai σ' d D' τw → Aj σ' d b D' W τ := fun h' => (Aj.close h' N9).EW SY
 refine M9 M6 N9.sB Ev GJ hfew hd Jw (hx.mono AL5) hk hlen C8 (Bq (.inl rfl)).symm ⟨fun σ2 h2 => ?_, fun ha σ2 gs' gs hgs hg AL6 => ?_⟩
 · have h2 := cl h2
   have NM : laid D.files W.dir (AG W.dir kc W.opn) (AU keep) (AG W.dir kc W.opn) = some ⟨AU keep, (AU keep).length⟩ := by simp [laid]
   have y3 : ∀ f, laid D.files W.dir (AG W.dir kc W.opn) (AU keep) (AG W.dir kc W.opn) = some f → f.GY = f.data.length := fun f hf => by rw [NM] at hf; cases hf; rfl
   have R8 : ∀ s, s ≠ AG W.dir kc W.opn → s ≠ BC W.dir → laid D.files W.dir (AG W.dir kc W.opn) (AU keep) s = D.files s := fun s e1 e2 => by simp [laid, e1, e2]
   have Fc : Out W.dir D.files (laid D.files W.dir (AG W.dir kc W.opn) (AU keep)) := Out.laid (.inl rfl) (by omega) (by omega)
   have Xw : laid D.files W.dir (AG W.dir kc W.opn) (AU keep) (BC W.dir) = none := by simp [laid, Bq (dir := W.dir) (kind := kc) (a := W.opn) (.inl rfl)]
   have bad : D.armed = true → ∀ σ' gs, HN gs W.dir (D.cnt + 1) keep → Ai σ' d ⟨gs, false, false, D.cnt + 1⟩ τ → (∀ s, (gs s).isSome = true → (D.files s).isSome = true ∨ s = AG W.dir kc W.opn ∨ s = BC W.dir) → R (.panicked (bX 60)) σ' := fun ha σ' gs ho y6 hsu => hR.bad ha σ' _ keep y6 rfl rfl ⟨rfl, hsu⟩ ho (.inl rfl)
   let Q : List Nat → Fs → Prop := fun l fs => ∀ s, (fs s).isSome = true → s = AG W.dir kc W.opn ∨ ((D.files s).isSome = true ∧ (0 < W.check → s ≠ AG W.dir kc W.check) ∧ ∀ n ∈ W.AP, n ∈ l ∨ s ≠ AG W.dir ks n)
   have hQ : ∀ n l fs, Q (n :: l) fs → Q l (BG fs (AG W.dir ks n) none) := fun n l fs h s hs => by
     by_cases e : s = AG W.dir ks n
     · subst e; rw [C6] at hs; cases hs
     · rw [Ax e] at hs
       refine (h s hs).imp id fun ⟨g1, g2, g3⟩ => ⟨g1, g2, fun k hk => ?_⟩
       rcases g3 k hk with g | g
       · rcases List.mem_cons.1 g with rfl | g
         · exact .inr e
         · exact .inl g
       · exact .inr g
   have hQ0 : ∀ fs, (∀ s, (fs s).isSome = true → s = AG W.dir kc W.opn ∨ ((D.files s).isSome = true ∧ (0 < W.check → s ≠ AG W.dir kc W.check))) → Q W.AP fs := fun fs h s hs => (h s hs).imp id fun ⟨g1, g2⟩ => ⟨g1, g2, fun n hn => .inl hn⟩
   have mF : ∀ s, (laid D.files W.dir (AG W.dir kc W.opn) (AU keep) s).isSome = true → s = AG W.dir kc W.opn ∨ (D.files s).isSome = true := fun s hs => by
     by_cases e1 : s = AG W.dir kc W.opn
     · exact .inl e1
     · by_cases e2 : s = BC W.dir
       · subst e2; rw [Xw] at hs; cases hs
       · rw [R8 s e1 e2] at hs; exact .inr hs
   have fin : ∀ (σ' : Hp) (fs : Fs), Aj σ' d b ⟨fs, true, D.armed, D.cnt + 1⟩ W τ → Shape fs W.dir (D.cnt + 1) W.opn keep [] [] → (∀ f, fs (AG W.dir kc W.opn) = some f → f.GY = f.data.length) → (∀ k ∈ W.AP, (fs (AG W.dir ks k)).isSome = true ∧ k ≤ D.cnt + 1) → Out W.dir D.files fs → fs (BC W.dir) = none → Q W.AP fs → Ck.La R b0 σ' := by
     intro σ' fs hl R6 r8 Vr ho hn ow
     have I9 := hl.rd
     refine Ck.DF ⟨_, AD (hl.ext _ _ t0) rfl, _, AD (hl.ext _ _ t0) rfl, b, 0, rfl, W.opn, I9.opn, b, 0, rfl, ?_⟩
     refine hl.st (i := 0 + 2) (W' := { W with check := W.opn }) (by omega) rfl (fun p n c => rfl) fun σ5 h5 => ?_
     refine AFT (ck := W.opn) (Q := Q) hQ (D := D) (fs := fs) (W := W) (keep := keep) (armed := D.armed) hd (by omega) ht t0 ho (fun σ6 fs6 W6 a1 a2 a3 a4 a5 a6 => hR.ok σ6 _ W6 a1 rfl rfl rfl a2 ⟨a3.1, a3.2.1, fun s hs => (a3.2.2 s hs).imp id fun ⟨g1, g2, g3⟩ => ⟨g1, g2, fun n hn => (g3 n hn).elim (fun h => by cases h) id⟩⟩ a4 a5 a6) (fun ha σ' gs ho y6 ⟨l, fs2, hq2, aM⟩ => bad ha σ' gs ho y6 fun s hs => (hq2 s (aM s hs)).elim (fun e => .inr (.inl e)) fun g => .inl g.1) _ σ5 fs { W with check := W.opn } rfl rfl rfl h5 R6 (by simp only; omega) r8 Vr ?_ ho hn rfl ow
     have : W.AP.Pairwise (· < ·) := by rw [Au.AP, List.pairwise_map]; exact Au.sh.Jz
     exact this.imp fun h => Nat.ne_of_lt h
   have Ht : ∀ k ∈ W.AP, (laid D.files W.dir (AG W.dir kc W.opn) (AU keep) (AG W.dir ks k)).isSome = true ∧ k ≤ D.cnt + 1 := fun k Dh => by
     rw [Au.AP] at Dh
     obtain ⟨x, hx, rfl⟩ := List.mem_map.1 Dh
     obtain ⟨i, hi⟩ := List.getElem?_of_mem hx
     have := (Au.sh.gt x hx).2
     exact ⟨by rw [R8 _ BL.symm (Bq (.inr rfl)).symm]; exact (Au.sh.file i x hi).VD, by omega⟩
   refine ⟨rfl, _, AD (h2.ext _ _ t0) rfl, b, 0, rfl, W.check, h2.rd.check, fun Ju => ?_, fun hz => ?_⟩
   · have y7 : AG W.dir kc W.check ≠ AG W.dir kc W.opn := fun e => by
       have := Ex (by omega) (by omega) e; omega
     obtain ⟨f, hf⟩ := Option.isSome_iff_exists.1 (Au.sh.PT (by omega)).VD
     refine ⟨_, AD (h2.ext _ _ t0) rfl, b, 0, rfl, _, h2.rd.ptr, _, AD (h2.ext _ _ t0) rfl, _, AD (h2.ext _ _ t0) rfl, b, 0, rfl, W.check, h2.rd.check, ?_⟩
     refine DI (kind := kc) h2.rd.dir OJ (.inl rfl) (by omega) (ht.mono h2.ext) fun σ3 DR => ⟨_, rfl, Kp.CG DR, ?_⟩
     refine Pw (h2.mono DR) rfl (FM hd (.inl rfl) (by omega)) (f := f) (by show laid D.files W.dir _ _ _ = _; rw [R8 _ y7 (Bq (.inl rfl)).symm]; exact hf) ⟨fun σ4 h4 => ⟨_, rfl, I2 ?_⟩, fun ha σ4 gs hg AL7 => ⟨_, rfl, MK (bad ha σ4 gs (Jp.mE y3 hg) AL7 fun s hs => (mF s (hg.VD hs)).elim (fun e => .inr (.inl e)) .inl)⟩⟩
     refine fin σ4 _ h4 (Jp.mD y7) (fun f hf => y3 f ((Ax y7.symm).symm.trans hf)) (fun k Dh => ?_) (Fc.trans (Out.del DB)) ((Ax (Bq (.inl rfl))).trans Xw) (hQ0 _ fun s hs => ?_)
     · rw [Ax BL.symm]
       exact Ht k Dh
     · by_cases e : s = AG W.dir kc W.check
       · subst e; rw [C6] at hs; cases hs
       · rw [Ax e] at hs
         exact (mF s hs).imp id fun g => ⟨g, fun _ => e⟩
   · exact fin σ2 _ h2 Jp y3 Ht Fc Xw (hQ0 _ fun s hs => (mF s hs).imp id fun g => ⟨g, fun h0 => by omega⟩)
 · have Vx := Au.fresh (cnt' := D.cnt + 1) (by omega) hgs
   obtain ⟨told, g1, g2, g3⟩ := Vx.dS hg
   exact hR.bad ha σ2 _ told (cl AL6).gE rfl rfl ⟨rfl, fun s hs => by
     by_cases e : s = BC W.dir
     · exact .inr (.inr e)
     · have := hg.VD hs
       rw [hgs s e] at this
       exact .inl this⟩ g1 (.inr ⟨g2, g3⟩)
theorem gU {p : Option Addr} {n c : Nat} (h : Aj σ d b D W τ) (ht : Tb τ) (hx : Jx τ p n keep) (h8 : ∀ r ∈ keep, E8 r) (Ev : D.up = true) (GJ : D.cnt < 67108864) (hd : CL W.dir = true) (Au : A5 D.files D.cnt W rc sg safe) (C8 : D.files (BC W.dir) = none)
   (lz : ¬ M1 keep → ∀ σ', Aj σ' d b D W τ → R (.returned (.int .i64 70)) σ')
   (hR : M1 keep → (AU keep).length ≤ 4194304 ∧ AFS d b D W τ rc sg safe keep (fun σ' => R (.returned (.int .i64 0)) σ') (fun σ' => R (.returned (.int .i64 60)) σ')) (hfew : Oh D := by refine .inl ?_; first | omega | (dsimp only [dk]; omega) | (dsimp only; omega)) : Spec prog 67 #[.pointer (some ⟨b, 0, none⟩), .slice p n c] σ R := by
 have iQ : keep.length = n := hx.1
 refine GB.start fun b2 HV b3 U4 => ?_
 obtain ⟨τ2, h2, x2, t2⟩ := h.box (o := .cells #[.pointer (some ⟨b, 0, none⟩)] 158 (0, 0)) HV
 obtain ⟨τ3, h3, x3, t3⟩ := h2.box (o := .cells #[.slice p n c] 165 (0, 0)) U4
 have N7 := x2.trans x3
 refine ⟨p, n, c, AD (h3.ext _ _ t3) rfl, ?_⟩
 have DR := hx.mono N7
 suffices H : ∀ m k : Nat, n - k = m → k ≤ n → M1 (keep.take k) → GB.Ns R b2 b3 p n c n k _ from H n 0 rfl (Nat.zero_le _) (fun r hr => by simp at hr)
 intro m
 induction m with
 | zero =>
   intro k hm hk hs
   rw [List.take_of_length_le (by omega)] at hs
   refine GB.EJ ⟨fun hh => by omega, fun _ => KY AL3 ?_⟩
   obtain ⟨hl, hRc⟩ := hR hs
   exact gT h3 (ht.mono N7) (x3 _ _ t2) t3 DR (fun r hr => ⟨hs r hr, h8 r hr⟩) hl Ev GJ hfew hd Au C8 ⟨fun σ' D' W' a1 a2 a3 a4 a5 a6 a7 a8 a9 => .inl ⟨rfl, _, rfl, hRc.ok σ' D' W' (a1.EW N7) a2 a3 a4 a5 a6 a7 a8 a9⟩, fun ha σ' D' told a1 a2 a3 a4 a5 a6 => .inr ⟨60, rfl, _, rfl, hRc.bad ha σ' D' told (a1.EW N7) a2 a3 a4 a5 a6⟩⟩
 | succ m ih =>
   intro k hm hk hs
   obtain ⟨x, SS⟩ : ∃ x, keep[k]? = some x := ⟨_, List.getElem?_eq_getElem (by omega)⟩
   obtain ⟨EH, Gk, J6, n12, c12, rfl, hl, _, HM⟩ := (DR.mono h3.ext).at SS
   have AS7 : x.length = n12 := HM.1
   have aT := hx.big
   refine GB.EJ ⟨fun _ => ⟨EH, Gk, rfl, by omega, J6, n12, c12, by simpa using hl, fun hh => lz (fun II => ?_) _ (h3.EW N7), fun hh => ⟨by unfold AO; omega, ih (k + 1) (by omega) (by omega) ?_⟩⟩, fun hh => by omega⟩
   · have := II x (List.mem_of_getElem? SS); omega
   · rw [AR SS]
     intro r hr
     rcases List.mem_append.1 hr with hr | hr
     · exact hs r hr
     · simp at hr; subst hr; omega
theorem SZ (h : Aj σ d b D W τ) (hR : R (.returned (.int .i64 (W.AP.length : Nat))) σ) : Spec prog 66 #[.pointer (some ⟨b, 0, none⟩)] σ R := by
 obtain ⟨p, c, hc, hl, HM⟩ := h.rd.AP
 exact Ie.start ⟨b, 0, rfl, p, _, c, hl, hR⟩
end
end TwW
end
section
namespace TwW
open Go Tw Go.RowKit Go.Proofs.Tryz
theorem Gi.at1 {σ : Hp} {p : Option Addr} {n k : Nat} {L : List Value} {v : Value} (h : Gi 1 σ p n L) (hk : L[k]? = some v) : ∃ b o, p = some ⟨b, o, none⟩ ∧ σ.ld ⟨b, o + k * 1, none⟩ = some v := by
 obtain ⟨h1, _, h2⟩ := h
 have Ag := (List.getElem?_eq_some_iff.1 hk).1
 rcases h2 with h2 | ⟨b, o, hp, hl⟩
 · simp at h1; omega
 · refine ⟨b, o, hp, ?_⟩
   rw [Nat.mul_one]
   exact hl.get hk
abbrev VJ (σ : Hp) (p : Option Addr) (n : Nat) (bs : List Bool) : Prop := Gi 1 σ p n (bs.map .bool)
theorem VJ.at {σ : Hp} {p : Option Addr} {n k : Nat} {L : List Bool} {s : Bool} (h : VJ σ p n L) (hk : L[k]? = some s) : ∃ b o, p = some ⟨b, o, none⟩ ∧ σ.ld ⟨b, o + k * 1, none⟩ = some (.bool s) := by
 obtain ⟨h1, _, h2⟩ := h
 have Ag := (List.getElem?_eq_some_iff.1 hk).1
 rcases h2 with h2 | ⟨b, o, hp, hl⟩
 · simp at h1; omega
 · refine ⟨b, o, hp, ?_⟩
   rw [Nat.mul_one]
   exact hl.get (by rw [List.getElem?_map, hk]; rfl)
section
variable {σ τ : Hp} {d : Nat} {D : Dk} {R : Rr}
theorem Ai.upS (h : Ai σ d D τ) (hR : R (.returned (.bool D.up)) σ) : Spec prog 91 #[.pointer (some ⟨d, 0, none⟩)] σ R := let ⟨S, g, _⟩ := h; dH g hR
end
section
variable {fs : Fs} {dir : ByteArray} {cnt : Nat}
theorem HN.AFX (h : ∀ s, (fs s).isSome = true → numOf dir kc s = 0 ∧ numOf dir ks s = 0) : Xn fs dir cnt [] true :=
 ⟨0, [], [], [], ⟨fun h0 => absurd h0 (by omega), fun _ => rfl, fun s hs => by rw [(h s hs).1]; omega, Nat.zero_le _, fun x hx => (by cases hx), List.Pairwise.nil, fun s hs Ag => (by rw [(h s hs).2] at Ag; omega), fun k x hx => (by simp at hx), fun _ => rfl, EV, Good.nil, fun x hx => (by cases hx), fun a ha => (by cases ha)⟩, rfl, ⟨fun f h0 => absurd h0 (by omega), fun k x hx => (by simp at hx)⟩, fun _ => rfl⟩
end
end TwW
end
section
namespace Tw
open Go
variable [I7]
def RB (s : ByteArray) : List Value := s.data.toList.map fun b => .int .u8 b.toNat
theorem mG {s : ByteArray} : (RB s).length = s.size := by simp [RB]
theorem mH {s : ByteArray} : CU (RB s) := fun u hu => by obtain ⟨x, _, rfl⟩ := List.mem_map.1 hu; rfl
section append
variable {P : Program} {T E ty : TypeId} {bs : Nat} {σ : Hp} {p : Option Addr} {n c m : Nat} {cs ys : List Value} {Φ : Value → Hp → Prop}
theorem RC {str : ByteArray} (w : World) (size : Nat) : (Builtin.firstCells size str.size (.string str)).run P w = .ok (RB str).toArray w := by
 have hx : (Array.map (fun b : UInt8 => Value.int IntKind.u8 (b.toNat : Int)) str.data).extract 0 str.size = (RB str).toArray := by
   have hs : str.size = (Array.map (fun b : UInt8 => Value.int IntKind.u8 (b.toNat : Int)) str.data).size := by rw [Array.size_map]; rfl
   rw [hs, Array.extract_size]
   apply Array.ext'
   simp [RB]
 have An : Array.map (fun b : UInt8 => Value.int IntKind.u8 (b.toNat : Int)) str.data = (RB str).toArray := by apply Array.ext'; simp [RB]
 simp [Builtin.firstCells, An]
theorem dZ [h : J2 P T E 1 bs] {U : TypeId} {str : ByteArray} (hU : P.underlying U = some .string) (Aa : Own 1 σ p n c cs) (hm : str.size = m) (IH : RB str = ys) (hb : (n + m) * bs ≤ 140737488355328)
   (hΦ : ∀ p' c' σ', Own 1 σ' p' (n + m) c' (cs ++ ys) → Ext (σ.del p) (σ'.del p') → ((p' = p ∧ c' = c ∧ n + m ≤ c) ∨ (c < n + m ∧ Ext σ σ' ∧ ∀ a, p' = some a → σ a.block = none)) → Φ (.slice p' (n + m) c') σ') :
   AJ P (Builtin.append_ #[T, U] ty #[.slice p n c, .string str]) σ Φ := by
 obtain ⟨ht, ⟨i, z, hi, hz, R6, rfl, jS⟩, Ju, OH⟩ := h
 have h1 : CU ys := IH ▸ mH
 have VE : ys.length = m * 1 := by rw [← IH, ← hm, Nat.mul_one]; exact mG
 have h62 : n + m ≤ 140737488355328 := Nat.le_trans (Nat.le_mul_of_pos_right _ OH) hb
 intro w F hs hF
 have hf := RC (P := P) (str := str) w 1
 rw [IH, hm] at hf
 have Vu := fun w' : World => RC (P := P) (str := str) w' 1
 rw [IH, hm] at Vu
 have EN := fun w' (hw : Sat σ w') => IQ (P := P) (d := c) w' hw Aa.rd
 have hlen : (cs ++ ys).length = (n + m) * 1 := by rw [List.length_append, Aa.1, VE, Nat.add_mul]
 by_cases Db : n + m ≤ c
 · -- there is room
   rcases Aa.2.2 with ⟨hp, hn, hc⟩ | ⟨b, o, arr, T', rfl, hblk, iR, Ee, IP⟩
   · subst hp hn hc
     have hm : m = 0 := by omega
     subst hm
     have IH : ys = [] := List.eq_nil_of_length_eq_zero (by simpa using VE)
     have IP : cs = [] := List.eq_nil_of_length_eq_zero (by simpa using Aa.1)
     subst IH IP
     refine ⟨.slice none 0 0, w, σ, ?_, hΦ none 0 σ Own.nil (Ext.refl _) (.inl ⟨rfl, rfl, Db⟩), hs, fun b hb => ⟨(hF b hb).2, rfl⟩, .same rfl rfl rfl, rfl, Nat.le_refl _⟩
     simp [Builtin.append_, run_underlying ht, run_underlying hU, R6, hm, Go.sizeOf, typeInfo, hi, Builtin.lenOf, hf]
   · have hw := hs _ _ hblk
     have eF : o + n * 1 + 0 + ys.length ≤ arr.size := by
       rw [VE]
       have : (n + m) * 1 ≤ c * 1 := Nat.mul_le_mul_right _ Db
       rw [Nat.add_mul] at this
       omega
     have JC := Dn (P := P) b (o + n * 1) T' ys 0 arr w hw eF h1
     simp only [Nat.add_zero, Nat.mul_one] at JC
     refine ⟨.slice (some ⟨b, o, none⟩) (n + m) c, w.setRow b (DX arr (o + n) ys), σ.set b (.cells (DX arr (o + n) ys) T' (0, 0)), ?_, hΦ _ _ _ ⟨hlen, by omega, .inr ⟨b, o, _, T', rfl, Hp.AA _ _ _, Db, by rw [Dm]; exact Ee, ?_⟩⟩ (by rw [Hp.Bl]; exact Ext.refl _) (.inl ⟨rfl, rfl, Db⟩), ?_⟩
     · simp [Builtin.append_, run_underlying ht, run_underlying hU, R6, hm, Go.sizeOf, typeInfo, hi, Builtin.lenOf, Db, hf, DC, JC]
     · refine List.ext_getElem? fun j => ?_
       rw [List.getElem?_take]
       simp only [List.getElem?_drop, Array.getElem?_toList]
       rw [Pe _ _ _ _ (by omega), List.getElem?_append]
       have e1 : cs.length = n * 1 := Aa.1
       have e2 : ys.length = m * 1 := VE
       have e3 : (n + m) * 1 = n * 1 + m * 1 := Nat.add_mul ..
       by_cases UR : j < cs.length
       · rw [if_pos (by omega), if_neg (by omega), if_pos UR, ← IP, List.getElem?_take, if_pos (by omega)]
         simp
       · rw [if_neg UR]
         by_cases oA : j < (n + m) * 1
         · rw [if_pos oA, if_pos (by omega), show o + j - (o + n) = j - cs.length by omega]
         · rw [if_neg oA, List.getElem?_eq_none (by omega)]
     · refine ⟨fun k u hk => ?_, fun k hk => ?_, .same rfl rfl rfl, rfl, by simp⟩
       · by_cases DD : k = b
         · subst DD; rw [Hp.AA] at hk; cases hk; exact setRow_heap w k arr _ T' (0, 0) hw
         · rw [Hp.AF DD] at hk; rw [setRow_other _ _ _ _ DD]; exact hs k u hk
       · have DD : k ≠ b := fun h => by have := (hF k hk).2; rw [h, hblk] at this; cases this
         exact ⟨by rw [Hp.AF DD]; exact (hF k hk).2, setRow_other _ _ _ _ DD⟩
 · -- it AA9
   have tI : Builtin.nextslicecap (n + m) c * i.bytes ≤ 281474976710656 := growslice_fits (by omega) hb
   have hgc := grownCap_ge w (n + m) c E
   have II : Sat σ w.drew := hs
   have Cu : (Builtin.append_ #[T, U] ty #[.slice p n c, .string str]).run P w =
       .ok (.slice (some ⟨w.heap.size, 0, none⟩) (n + m) (grownCap w (n + m) c E))
         (w.drew.alloc (.cells (cs.toArray ++ ys.toArray ++ Builtin.zeroCells z.cells (grownCap w (n + m) c E - (n + m))) E)) := by
     have eG : ¬ (9223372036854775807 < ((n : Int) + (m : Int))) := by omega
     have eH : ¬ (281474976710656 < Builtin.nextslicecap (n + m) c * i.bytes) := by omega
     simp [Builtin.append_, run_underlying ht, run_underlying hU, R6, hm, Go.sizeOf, typeInfo, zeroValue, hi, hz, Builtin.lenOf, Db, eG, eH, Question.forced, Vu, EN _ II, newRow, grownCap]
     congr 2
     apply Array.ext'
     simp [List.append_assoc]
   refine ⟨_, _, σ.set w.heap.size _, Cu, hΦ _ _ _ ⟨hlen, by omega, .inr ⟨w.heap.size, 0, _, E, rfl, Hp.AA _ _ _, hgc, ?_, ?_⟩⟩ ?_ (.inr ⟨by omega, Ext.set (DM hs), fun a ha => by cases ha; exact DM hs⟩), Fin.alloc hs hF _ rfl ⟨rfl, rfl, fun _ => ⟨1, rfl⟩⟩ rfl⟩
   · simp only [Array.size_append, List.size_toArray, size_zeroCells, jS, Aa.1, VE, ← Nat.add_mul]
     have : n + m + (grownCap w (n + m) c E - (n + m)) = grownCap w (n + m) c E := by omega
     rw [this]; omega
   · simp only [Array.toList_append, List.drop_zero]
     rw [← hlen]
     exact List.take_left
   · rw [Hp.JD (DM hs)]
     exact Ext.GR σ p
end append
end Tw
end
section
namespace TwW
open Go Tw Go.RowKit Go.Proofs.Tryz
def NU (s : ByteArray) : List Int := s.data.toList.map fun b => (b.toNat : Int)
theorem Cg {s : ByteArray} : (NU s).length = s.size := by simp [NU]
theorem da {s : ByteArray} : E8 (NU s) := fun a ha => by
 obtain ⟨x, _, rfl⟩ := List.mem_map.1 ha
 have := x.toNat_lt; omega
theorem Xy {s : ByteArray} : RB s = (NU s).map (.int .u8) := by simp [RB, NU]
theorem gV {s : ByteArray} : strOfNums (NU s) = s := by
 rw [NU, Xi]
theorem Kv {xs : List Int} (h : E8 xs) : NU (strOfNums xs) = xs := by
 rw [NU, strOfNums_data, List.map_map]
 conv => rhs; rw [← List.map_id xs]
 refine List.map_congr_left fun a ha => ?_
 have := h a ha
 simp only [Function.comp, id]
 rw [UInt8.toNat_ofNat']
 omega
theorem CM {xs : List Int} : (strOfNums xs).size = xs.length := by
 have := congrArg List.length (strOfNums_data xs)
 simpa using this
def Co (k : ByteArray) (d : List Int) (v : Nat) : List Int := (uv k.size ++ NU k) ++ uv v ++ uv d.length ++ d
section
variable {σ : Hp} {R : Rr}
theorem sJ {p : Option Addr} {n c : Nat} {xs : List Int} (hr : CA .u8 σ p n xs) : YF prog (convert 84 9 (.slice p n c)) σ (.string (strOfNums xs)) := fun w hs => by
 have h1 := underlying84
 have h2 := underlying9
 by_cases hn : n = 0
 · subst hn
   have hx : xs = [] := List.eq_nil_of_length_eq_zero hr.1
   subst hx
   rw [run_convert_bytes_string w 84 9 _ p 0 c h1 underlying5 h2]
   cases p <;> simp [Conv.bytesToString, loadCells] <;> rfl
 · obtain ⟨x0, aI⟩ := hr.ex (k := 0) (by omega)
   obtain ⟨b, o, rfl, _⟩ := hr.at aI
   refine run_convert_bytes_arg w 84 _ h1 underlying5 b o n c xs hr.1 (fun i hi => ?_) 9 h2
   obtain ⟨x, hx⟩ := hr.ex hi
   obtain ⟨b', o', he, hl⟩ := hr.at hx
   cases he
   rw [List.getD_eq_getElem?_getD, hx]
   simpa using hs.ld hl
theorem gW {s : ByteArray} {Φ : Value → Hp → Prop} (h : ∀ b o c, σ b = none → (∀ ρ : Hp, ρ b = some o → CA .u8 ρ (some ⟨b, 0, none⟩) s.size (NU s)) → s.size ≤ c → Φ (.slice (some ⟨b, 0, none⟩) s.size c) (σ.set b o)) (hs : s.size ≤ 4611686018427387904) :
   AJ prog (convert 9 84 (.string s)) σ Φ := fun w F Vw hF => by
 have hb := DM Vw
 refine ⟨_, _, σ.set w.heap.size _, run_bytes_of_string w 9 84 5 s underlying9 underlying84 underlying5, h _ _ _ hb (fun ρ hρ => CA.Lz ⟨by simp [Cg], by omega, .inr ⟨_, 0, rfl, EF.of fun j v hj => ?_⟩⟩) ?_, Fin.alloc Vw hF _ rfl ⟨rfl, rfl, fun _ => ⟨1, rfl⟩⟩ rfl⟩
 · refine AD hρ ?_
   have Ag : j < s.data.size := by
     have := (List.getElem?_eq_some_iff.1 hj).1
     simpa [NU] using this
   rw [Nat.zero_add, bytesRow_at s _ j Ag, ← hj]
   simp [NU, Array.getElem?_eq_getElem Ag]
 · exact grownCap_ge w s.size 0 5
theorem FN {p : Option Addr} {n c : Nat} {xs : List Int} {s : ByteArray} (hr : CA .u8 σ p n xs) (hn : n ≤ 1048576) (hs : s.size ≤ 1048576)
   (h : ∀ p' n' c' σ', AS .u8 (σ.new σ') p' n' c' (xs ++ uv s.size ++ NU s) → Ext σ σ' → R (.returned (.slice p' n' c')) σ') : Spec prog 60 #[.slice p n c, .string s] σ R := by
 refine Lp.start fun x8 h8 => ?_
 have e8 : x8 = (s.size : Int) := by rw [h8]; simp [IntKind.wrap, IntKind.bits, IntKind.signed]; omega
 subst e8
 refine Ce hr (by omega) (by omega) fun p' n' c' σ1 ho BH => ⟨p', n', c', rfl, ?_⟩
 have hq : ∀ a, p' = some a → σ a.block = none := fun a ha => by
   have h2 := Own.block ho a ha
   cases hh : (σ.new σ1) a.block with
   | none => exact absurd hh h2
   | some o => exact (AQ.1 hh).1
 have hl : (xs ++ uv s.size).length = n' := by have := ho.1; simpa using this
 have mC := BF (x := s.size) (by omega)
 have Vq : xs.length = n := hr.1
 rw [List.length_append] at hl
 refine dZ underlying9 (Own.mono (Ext.Af _ _) ho) rfl Xy (by omega) fun p2 c2 σ2 B1 An _ => ⟨p2, _, c2, rfl, ?_⟩
 have HV := B2 hq An BH
 refine h p2 _ c2 σ2 ?_ (CX hq An BH)
 have := Own.CV B1 HV
 simpa [AS] using this
theorem Ci {p : Option Addr} {n c : Nat} {xs : List Int} (h : AS .u8 σ p n c xs) : xs.length = n := by have := h.1; simpa using this
theorem Lu {k : ByteArray} {p : Option Addr} {n c v : Nat} {d : List Int} (hr : CA .u8 σ p n d) (h8 : E8 d) (hk : k.size ≤ 262144) (hd : n ≤ 262144) (hv : v < 18446744073709551616)
   (h : ∀ p' n' c' σ', AS .u8 (σ.new σ') p' n' c' (Co k d v) → Ext σ σ' → R (.returned (.slice p' n' c')) σ') : Spec prog 64 #[.string k, .agg #[.slice p n c, .int .u64 v]] σ R := by
 have hdl : d.length = n := hr.1
 have AL8 := BF (x := k.size) (by omega)
 have rq := BF (x := v) hv
 refine Ta.start ⟨_, sJ hr, FN (xs := []) GS.nil (by omega) (by omega) fun p6 n6 c6 σ1 Ff BH => ⟨p6, n6, c6, rfl, BH, ?_⟩⟩
 have NM := Ci Ff
 rw [List.nil_append] at Ff NM
 simp only [List.length_append, Cg] at NM
 refine Ce (AS.rd (Own.mono (Ext.Af _ _) Ff)) (by omega) hv fun p9 n9 c9 σ2 B1 An => ⟨p9, n9, c9, rfl, An, ?_⟩
 have SX := Ci B1
 simp only [List.length_append, Cg] at SX
 refine FN (AS.rd (Own.mono (Ext.Af _ _) B1)) (by omega) (by rw [CM]; omega) fun p3 n3 c3 σ3 Dl DR => ⟨p3, n3, c3, rfl, DR, ?_⟩
 rw [CM, Kv h8] at Dl
 exact h p3 n3 c3 σ3 (Own.mono (Ext.CW (BH.trans An)) Dl) (BH.trans (An.trans DR))
theorem VK {p : Option Addr} {n c i : Nat} {bs rest : List Int} {s : ByteArray} (hr : CA .u8 σ p n bs) (h8 : E8 bs) (hc : n ≤ c) (hs : s.size ≤ 1048576) (hi : i ≤ n) (hd : bs.drop i = uv s.size ++ (NU s ++ rest))
   (h : R (.returned (.tuple #[.string s, .int .i64 ((i + (uv s.size).length + s.size : Nat) : Int), .int .i64 0])) σ) : Spec prog 115 #[.slice p n c, .int .i64 i] σ R := by
 have fY : bs.length = n := hr.1
 have Fy := hr.big
 have eK : Iu bs i s.size := ⟨by omega, _, hd⟩
 refine ME.start (Gy hr h8 hi ⟨fun Be => (Be s.size eK).elim, fun v hv => ?_⟩)
 obtain rfl := hv.uniq eK
 have hlen : i + (uv s.size).length + s.size ≤ n := by
   have := congrArg List.length hd
   simp only [List.length_drop, List.length_append, Cg] at this
   have := N8 s.size
   omega
 refine ⟨_, _, _, rfl, fun hh => absurd rfl hh, fun _ => ⟨by unfold AO; omega, fun NQ h25 => ?_⟩⟩
 have e25 : NQ = ((n - (i + (uv s.size).length) : Nat) : Int) := by rw [h25]; simp [IntKind.wrap, IntKind.bits, IntKind.signed]; omega
 refine ⟨fun hh => by omega, fun _ Hm h31 => ?_⟩
 have e31 : Hm = (s.size : Int) := by rw [h31]; simp [IntKind.wrap, IntKind.bits, IntKind.signed]; omega
 subst e31
 have e1 : Int.toNat (((i + (uv s.size).length : Nat) : Int) + (s.size : Int)) - Int.toNat ((i + (uv s.size).length : Nat) : Int) = s.size := by omega
 dsimp only
 rw [e1, Int.toNat_natCast]
 refine ⟨by unfold AO; omega, by omega, GK (CA.sub hr (by omega) hc) ⟨_, rfl, fun KJ h37 => ?_⟩⟩
 have e37 : KJ = (s.size : Int) := by rw [h37]; simp [IntKind.wrap, IntKind.bits, IntKind.signed]; omega
 subst e37
 have e2 : (bs.drop (i + (uv s.size).length)).take s.size = NU s := by
   rw [← List.drop_drop, hd, List.drop_left, List.take_append_of_le_length (by rw [Cg]; omega), List.take_of_length_le (by rw [Cg]; omega)]
 rw [e2, gV]
 refine ⟨by unfold AO; omega, ?_⟩
 have e3 : ((i + (uv s.size).length : Nat) : Int) + (s.size : Int) = ((i + (uv s.size).length + s.size : Nat) : Int) := by omega
 rw [e3]; exact h
def Dg (s : ByteArray) : Bool := decide (0 < s.size) && decide (s.size ≤ 64)
theorem I1 {s : ByteArray} : (ByteArray.toList s == ByteArray.toList (ByteArray.mk #[])) = decide (s.size = 0) := by
 rw [ByteArray.toList_eq, ByteArray.toList_eq]
 by_cases h : s.size = 0
 · have : s = ⟨#[]⟩ := ByteArray.ext (Array.eq_empty_of_size_eq_zero h)
   subst this; rfl
 · rw [decide_eq_false h]
   simp only [beq_eq_false_iff_ne]
   intro e
   apply h
   have := congrArg List.length e
   simpa using this
theorem RD {s : ByteArray} (h : R (.returned (.bool (Dg s))) σ) : Spec prog 94 #[.string s] σ R := by
 refine XC.start ⟨fun h0 => ?_, fun h0 => ?_⟩
 · rw [I1, decide_eq_false_iff_not] at h0
   have e : Dg s = decide (((s.size : Nat) : Int) ≤ 64) := by
     simp only [Dg, decide_eq_true (show 0 < s.size by omega), Bool.true_and]
     exact decide_eq_decide.2 (by omega)
   rwa [e] at h
 · rw [I1, decide_eq_true_eq] at h0
   have e : Dg s = false := by simp [Dg, h0]
   rwa [e] at h
end
end TwW
end
section
theorem Tw.Hp.AL {σ : Tw.Hp} {b k : Nat} {o : Go.Obj} (h : (σ.set b o) k = none) : k ≠ b ∧ σ k = none := by
 have Ad : k ≠ b := fun e => by rw [e, Tw.Hp.AA] at h; cases h
 exact ⟨Ad, by rw [Tw.Hp.AF Ad] at h; exact h⟩
namespace y8
open Go Go.MapKept Tw
variable [I7]
section
variable {P : Program} {σ : Hp}
class y9 (P : Program) (T : TypeId) (K V : outParam TypeId) : Prop where
 Vg : P.underlying T = some (.map K V)
 key : P.underlying K = some (.int .i64)
def Av (σ : Hp) (b : Nat) (l : List MapEntry) (clock : Nat) : Prop := σ b = some (.map l.toArray clock) ∧ Stamped l.toArray clock ∧ ∀ x ∈ l, IsKey (.int .i64) x.key
theorem Av.mono {σ σ' : Hp} {b : Nat} {l : List MapEntry} {clock : Nat} (h : Av σ b l clock) (hx : Ext σ σ') : Av σ' b l clock := ⟨hx _ _ h.1, h.2⟩
theorem Av.loc {σ σ' : Hp} {b : Nat} {l : List MapEntry} {clock : Nat} (h : Av σ b l clock) (hx : σ' b = σ b) : Av σ' b l clock := ⟨hx.trans h.1, h.2⟩
theorem Av.nodup {σ : Hp} {b : Nat} {l : List MapEntry} {clock : Nat} (h : Av σ b l clock) : (l.map (·.key)).Nodup := h.2.1.2.2
theorem Av.V5 {σ : Hp} {b : Nat} {l : List MapEntry} {clock : Nat} (h : Av σ b l clock) : (l.map (·.born)).Nodup := h.2.1.2.1
theorem Dq {s : Int} {l : List MapEntry} (hk : ∀ x ∈ l, IsKey (.int .i64) x.key) :
   (Instr.findNow (.int .i64) (.int .i64 s) l 0 = some none ∧ ∀ x ∈ l, x.key ≠ .int .i64 s) ∨ ∃ l1 e l2, l = l1 ++ e :: l2 ∧ e.key = .int .i64 s ∧ Instr.findNow (.int .i64) (.int .i64 s) l 0 = some (some (l1.length, e.val)) := by
 rcases findNow_spec (d := .int .i64) (k := .int .i64 s) rfl l 0 hk with h | ⟨j, e, h1, h2, h3⟩
 · exact .inl h
 · obtain ⟨hj, rfl⟩ := List.getElem?_eq_some_iff.1 h2
   refine .inr ⟨l.take j, l[j], l.drop (j + 1), ?_, h3, ?_⟩
   · rw [List.getElem_cons_drop, List.take_append_drop]
   · rw [h1]; simp [Nat.min_eq_left (Nat.le_of_lt hj)]
section
variable {T K V ty : TypeId} {b clock : Nat} {l : List MapEntry} {s : Int}
theorem Av.fresh {b : Nat} {σ : Hp} : Av (σ.set b (.map #[] 0)) b [] 0 := ⟨Hp.AA _ _ _, stamped_empty 0, by simp⟩
theorem Nb [t : y9 P T K V] (hm : Av σ b l clock) {z : Value} (hz : ∀ w, (zeroValue V).run P w = .ok z w) {Q : Value → Prop}
   (h0 : (∀ x ∈ l, x.key ≠ .int .i64 s) → Q z) (h1 : ∀ l1 e l2, l = l1 ++ e :: l2 → e.key = .int .i64 s → Q e.val) : ∃ v, Q v ∧ YF P (Instr.lookup T (.map (some b)) (.int .i64 s) false) σ v := by
 rcases Dq (s := s) hm.2.2 with ⟨hf, hn⟩ | ⟨l1, e, l2, hl, he, hf⟩
 · refine ⟨z, h0 hn, fun w hs => ?_⟩
   have := hs _ _ hm.1
   simp [Instr.lookup, run_underlying t.Vg, run_getObj_map this, run_checkKey t.key (k := .int .i64 s) rfl, run_findKey t.key hf, hz, Result.andThen]
 · refine ⟨e.val, h1 l1 e l2 hl he, fun w hs => ?_⟩
   have := hs _ _ hm.1
   simp [Instr.lookup, run_underlying t.Vg, run_getObj_map this, run_checkKey t.key (k := .int .i64 s) rfl, run_findKey t.key hf, Result.andThen]
theorem JG [t : y9 P T K V] (hm : Av σ b l clock) {z : Value} (hz : ∀ w, (zeroValue V).run P w = .ok z w) {Φ : Value → Hp → Prop}
   (h0 : (∀ x ∈ l, x.key ≠ .int .i64 s) → Φ z σ) (h1 : ∀ l1 e l2, l = l1 ++ e :: l2 → e.key = .int .i64 s → Φ e.val σ) : AJ P (Instr.lookup T (.map (some b)) (.int .i64 s) false) σ Φ := by
 obtain ⟨v, hq, hy⟩ := Nb (T := T) (K := K) (s := s) (Q := fun v => Φ v σ) hm hz h0 h1
 exact AJ.pu hy hq
theorem jU [t : y9 P T K V] (hm : Av σ b l clock) : YF P (Builtin.len_ #[T] ty #[.map (some b)]) σ (.int .i64 l.length) := fun w hs => by
 have := hs _ _ hm.1
 simp [Builtin.len_, run_underlying t.Vg, run_getObj_map this, goInt, Result.andThen]
abbrev CY (s : Int) (v : Value) (n : Nat) : MapEntry := { key := .int .i64 s, val := v, born := n }
theorem DT [t : y9 P T K V] (hm : Av σ b l clock) {v : Value} {Φ : Unit → Hp → Prop}
   (h0 : (∀ x ∈ l, x.key ≠ .int .i64 s) → ∀ σ', σ' = σ.set b (.map (l ++ [CY s v clock]).toArray (clock + 1)) → Av σ' b (l ++ [CY s v clock]) (clock + 1) → Φ () σ')
   (h1 : ∀ l1 e l2, l = l1 ++ e :: l2 → e.key = .int .i64 s → ∀ σ', σ' = σ.set b (.map (l1 ++ CY s v e.born :: l2).toArray clock) → Av σ' b (l1 ++ CY s v e.born :: l2) clock → Φ () σ') :
   AJ P (Instr.mapUpdate T (.map (some b)) (.int .i64 s) v) σ Φ := by
 obtain ⟨hb, JC, hk⟩ := hm
 rcases Dq (s := s) hk with ⟨hf, hn⟩ | ⟨l1, e, l2, hl, he, hf⟩
 · have V6 : (l ++ [CY s v clock]).toArray = l.toArray.push (CY s v clock) := by simp
   refine AJ.obj (v := ()) (o' := .map (l ++ [CY s v clock]).toArray (clock + 1)) hb (fun w hs => ⟨w, .inl rfl, ?_⟩) (h0 hn _ rfl ⟨Hp.AA _ _ _, ?_, ?_⟩)
   · have := hs _ _ hb
     rw [V6]
     simp only [Instr.mapUpdate, Sem.run_bind, run_underlying t.Vg, run_getObj_map this, run_checkKey t.key (k := .int .i64 s) rfl, run_findKey t.key hf, Result.andThen_ok]
     simp [setObj, Sem.run, this, ChangeMaps.setBlock]
   · rw [V6]; exact stamped_push JC (by simpa using hn)
   · intro x hx
     rcases List.mem_append.1 hx with hx | hx
     · exact hk x hx
     · rw [List.mem_singleton] at hx; subst hx; rfl
 · subst hl
   have Nc : (l1 ++ CY s v e.born :: l2).toArray = (l1 ++ e :: l2).toArray.modify l1.length (fun e => { e with key := .int .i64 s, val := v }) := by
     rw [← Array.toList_inj]
     apply List.ext_getElem?
     intro j
     simp only [Array.getElem?_toList, Array.getElem?_modify, List.getElem?_toArray]
     by_cases hj : l1.length = j
     · subst hj; simp
     · rw [if_neg hj]
       rcases Nat.lt_or_ge j l1.length with h | h
       · rw [List.getElem?_append_left h, List.getElem?_append_left h]
       · have : ∃ k, j = l1.length + (k + 1) := ⟨j - l1.length - 1, by omega⟩
         obtain ⟨k, rfl⟩ := this
         simp [List.getElem?_append_right]
   have F8 : (l1 ++ e :: l2).toArray[l1.length]? = some e := by simp
   refine AJ.obj (v := ()) (o' := .map (l1 ++ CY s v e.born :: l2).toArray clock) hb (fun w hs => ⟨w, .inl rfl, ?_⟩) (h1 l1 e l2 rfl he _ rfl ⟨Hp.AA _ _ _, ?_, ?_⟩)
   · have := hs _ _ hb
     rw [Nc]
     simp only [Instr.mapUpdate, Sem.run_bind, run_underlying t.Vg, run_getObj_map this, run_checkKey t.key (k := .int .i64 s) rfl, run_findKey t.key hf, Result.andThen_ok, F8, Option.map_some, Option.getD_some, he,
       run_keyThatStays (d := .int .i64) (k := .int .i64 s) rfl]
     simp [setObj, Sem.run, this, ChangeMaps.setBlock]
   · rw [Nc]; exact stamped_modify JC _ _ (fun _ _ => rfl) (fun e' _ pG => by rw [F8] at pG; cases pG; exact he.symm)
   · intro x hx
     rcases List.mem_append.1 hx with hx | hx
     · exact hk x (List.mem_append_left _ hx)
     · rcases List.mem_cons.1 hx with rfl | hx
       · rfl
       · exact hk x (List.mem_append_right _ (List.mem_cons_of_mem _ hx))
theorem L0 [t : y9 P T K V] (hm : Av σ b l clock) {Φ : Value → Hp → Prop}
   (h0 : (∀ x ∈ l, x.key ≠ .int .i64 s) → ∀ σ', σ' = σ.set b (.map l.toArray clock) → Av σ' b l clock → Φ (.tuple #[]) σ')
   (h1 : ∀ l1 e l2, l = l1 ++ e :: l2 → e.key = .int .i64 s → ∀ σ', σ' = σ.set b (.map (l1 ++ l2).toArray clock) → Av σ' b (l1 ++ l2) clock → Φ (.tuple #[]) σ') {A : Array TypeId} (hA : A[0]? = some T) :
   AJ P (Builtin.delete_ A ty #[.map (some b), .int .i64 s]) σ Φ := by
 obtain ⟨hb, JC, hk⟩ := hm
 rcases Dq (s := s) hk with ⟨hf, hn⟩ | ⟨l1, e, l2, hl, he, hf⟩
 · refine AJ.obj (v := .tuple #[]) (o' := .map l.toArray clock) hb (fun w hs => ⟨w, .inl rfl, ?_⟩) (h0 hn _ rfl ⟨Hp.AA _ _ _, JC, hk⟩)
   have := hs _ _ hb
   simp [Builtin.delete_, hA, run_underlying t.Vg, run_getObj_map this, run_checkKey t.key (k := .int .i64 s) rfl, run_findKey t.key hf, Result.andThen, setObj, Sem.run, this, ChangeMaps.setBlock]
 · subst hl
   have Nc : (l1 ++ l2).toArray = (l1 ++ e :: l2).toArray.eraseIdxIfInBounds l1.length := by
     rw [← Array.toList_inj]
     simp [Array.eraseIdxIfInBounds, List.eraseIdx_append_of_length_le]
   refine AJ.obj (v := .tuple #[]) (o' := .map (l1 ++ l2).toArray clock) hb (fun w hs => ⟨w, .inl rfl, ?_⟩) (h1 l1 e l2 rfl he _ rfl ⟨Hp.AA _ _ _, ?_, ?_⟩)
   · have := hs _ _ hb
     rw [Nc]
     simp only [Builtin.delete_, hA, List.getElem?_toArray, List.getElem?_cons_zero, List.getElem?_cons_succ, Sem.run_bind, run_underlying t.Vg, run_getObj_map this, run_checkKey t.key (k := .int .i64 s) rfl, run_findKey t.key hf, Result.andThen_ok]
     simp [setObj, Sem.run, this, ChangeMaps.setBlock, Result.andThen]
   · rw [Nc]; exact stamped_erase JC _
   · intro x hx
     rcases List.mem_append.1 hx with hx | hx
     · exact hk x (List.mem_append_left _ hx)
     · exact hk x (List.mem_append_right _ (List.mem_cons_of_mem _ hx))
theorem IU [t : y9 P T K V] (hm : Av σ b l clock) {Φ : Value → Hp → Prop} (h : ∀ i o, σ i = none → Cv (σ.set i o) i b l l clock → Φ (.pointer (some ⟨i, 0, none⟩)) (σ.set i o)) : AJ P (Instr.range T (.map (some b))) σ Φ :=
 AJ.new (v := fun i => .pointer (some ⟨i, 0, none⟩)) (o := .mapIter (some b) clock #[] clock) (fun w hs => by
   have := hs _ _ hm.1
   simp [Instr.range, run_underlying t.Vg, run_getObj_map this, Result.andThen]) fun i hi => h i _ hi ⟨#[], clock, Hp.AA _ _ _, Nat.le_refl _, by simp [leftOf, List.filter_eq_self.2]⟩
theorem KC (hm : Av σ b l clock) {i : Nat} {L : List MapEntry} (hi : Cv σ i b l L clock) {Φ : Value → Hp → Prop}
   (h0 : L = [] → Φ (.tuple #[.bool false]) σ)
   (h1 : ∀ e ∈ L, e ∈ l → ∀ o, (∀ τ, τ i = some o → Cv τ i b l (L.filter fun x => x.born != e.born) clock) →
     (∀ τ, τ i = some o → τ b = σ b → ∀ {Ψ : Value → Hp → Prop}, Ψ (.tuple #[e.key, e.val]) τ → AJ P (Instr.entry (.pointer (some ⟨i, 0, none⟩))) τ Ψ) → Φ (.tuple #[.bool true, e.key, e.val]) (σ.set i o)) :
   AJ P (Instr.next (.pointer (some ⟨i, 0, none⟩)) false ty) σ Φ := by
 obtain ⟨seen, c0, hi, hc, rfl⟩ := hi
 obtain ⟨hb, JC, hk⟩ := hm
 have hold : ∀ x ∈ l.toArray.toList, x.born < clock := JC.1
 intro w F hs hF
 rcases run_next_at (P := P) w ty i b clock c0 seen l.toArray clock (hs _ _ hi) (hs _ _ hb) hold hc with ⟨h, Cu⟩ | ⟨e, he, w1, ZL, Cu⟩
 · exact ⟨_, w, σ, Cu, h0 (List.eq_nil_of_length_eq_zero (by simpa using h)), hs, fun k hk => ⟨(hF k hk).2, rfl⟩, .same rfl rfl rfl, rfl, Nat.le_refl _⟩
 · have hel := (mem_left he).1
   have h2 := h1 e he (by simpa using hel) (.mapIter (some b) clock (seen.push e.born) clock) (fun τ hτ => ⟨_, _, hτ, Nat.le_refl _, Sz.symm⟩) (fun τ hτ wP Ψ hΨ => AJ.pu (fun w' II => run_entry_at w' i b clock seen l.toArray clock e (II _ _ hτ) (II _ _ (wP.trans hb)) hel JC.2.1) hΨ)
   have Ag : i < w.heap.size := (Array.getElem?_eq_some_iff.1 (hs _ _ hi)).1
   have DL : w1.heap = w.heap := by rcases ZL with rfl | rfl <;> rfl
   refine ⟨_, _, _, Cu, h2, fun k u hk => ?_, fun k hk => ?_, ?_, ?_, ?_⟩
   · simp only [ChangeMaps.setBlock, DL]
     by_cases DD : k = i
     · subst DD; rw [Hp.AA] at hk; cases hk; simp [Ag]
     · rw [Hp.AF DD] at hk; simp [Ne.symm DD, hs k u hk]
   · have DD : k ≠ i := fun e => by have := (hF k hk).2; rw [e, hi] at this; cases this
     refine ⟨by rw [Hp.AF DD]; exact (hF k hk).2, ?_⟩
     simp [ChangeMaps.setBlock, DL, Ne.symm DD]
   · rcases ZL with rfl | rfl
     · exact .same rfl rfl rfl
     · exact ⟨rfl, rfl, fun _ => ⟨1, rfl⟩⟩
   · rcases ZL with rfl | rfl <;> rfl
   · simp [ChangeMaps.setBlock, DL]
end
end
end y8
end
section
namespace TwW
open Go Tw Go.RowKit Go.Proofs.Tryz
abbrev Lb := ByteArray × ByteArray
def Ka (_ : Hp) (vs : List Value) (x : Lb) : Prop := vs = [.string x.1, .string x.2]
theorem Ka.mono : PD Ka := fun _ _ _ _ _ h => h
abbrev SA := GS 2 Ka
structure Sm where
 ls : List Lb
 t : Int
 v : Int
def ML (σ : Hp) (vs : List Value) (s : Sm) : Prop := ∃ p n c, vs = [.slice p n c, .int .i64 s.t, .int .u64 s.v] ∧ SA σ p n s.ls
theorem ML.mono : PD ML := fun _ _ _ _ hx ⟨p, n, c, hv, hr⟩ => ⟨p, n, c, hv, hr.mono Ka.mono hx⟩
abbrev IC := GS 3 ML
section
variable {σ : Hp} {R : Rr}
theorem SA.at {p : Option Addr} {n i : Nat} {ls : List Lb} {x : Lb} (hr : SA σ p n ls) (hx : ls[i]? = some x) : ∃ b o, p = some ⟨b, o, none⟩ ∧ EF σ b (o + i * 2) [.string x.1, .string x.2] := by
 obtain ⟨b, o, vs, hp, rfl, hl⟩ := GS.idx hr hx
 exact ⟨b, o, hp, hl⟩
theorem IC.at {p : Option Addr} {n i : Nat} {ss : List Sm} {s : Sm} (hr : IC σ p n ss) (hx : ss[i]? = some s) : ∃ b o q k c, p = some ⟨b, o, none⟩ ∧ EF σ b (o + i * 3) [.slice q k c, .int .i64 s.t, .int .u64 s.v] ∧ SA σ q k s.ls := by
 obtain ⟨b, o, vs, hp, ⟨q, k, c, rfl, hq⟩, hl⟩ := GS.idx hr hx
 exact ⟨b, o, q, k, c, hp, hl, hq⟩
theorem Xz {s t : ByteArray} : (s.toList == t.toList) = decide (s = t) := by
 rw [ByteArray.toList_eq, ByteArray.toList_eq]
 by_cases h : s = t
 · subst h; simp
 · rw [decide_eq_false h, beq_eq_false_iff_ne]
   exact fun e => h (ByteArray.ext (Array.toList_inj.1 e))
theorem Hu {α : Type} {xs : List α} {k : Nat} {y : α} (hy : xs[k]? = some y) : xs.drop k = y :: xs.drop (k + 1) := by
 obtain ⟨h, rfl⟩ := List.getElem?_eq_some_iff.1 hy
 exact List.drop_eq_getElem_cons h
def A0 : List Lb → ByteArray → ByteArray
 | [], _ => ⟨#[]⟩
 | x :: l, k => if x.1 = k then x.2 else A0 l k
theorem DW {p : Option Addr} {n c : Nat} {ls : List Lb} {k : ByteArray} (hr : SA σ p n ls) (h : R (.returned (.string (A0 ls k))) σ) : Spec prog 21 #[.slice p n c, .string k] σ R := by
 refine Ic.start ?_
 suffices H : ∀ d i : Nat, n - i = d → i ≤ n → A0 ls k = A0 (ls.drop i) k → Ic.Ns R k p n c n i σ from H n 0 rfl (Nat.zero_le _) rfl
 intro d
 induction d with
 | zero =>
   intro i hd hi he
   refine Ic.EJ ⟨fun Ag => by omega, fun _ => ?_⟩
   rw [List.drop_of_length_le (by rw [hr.1]; omega)] at he
   rw [he] at h; exact h
 | succ d ih =>
   intro i hd hi he
   refine Ic.EJ ⟨fun _ => ?_, fun hh => by omega⟩
   have Jl : i < n := by omega
   obtain ⟨x, hx⟩ := hr.ex Jl
   obtain ⟨b, o, rfl, hl⟩ := SA.at hr hx
   rw [Hu hx, A0] at he
   refine ⟨b, o, rfl, by omega, x.1, x.2, by simpa using hl, fun _ => ⟨fun hk => ?_, fun hk => ⟨Ah Jl hr.big, ih (i + 1) (by omega) (by omega) ?_⟩⟩⟩
   · rw [Xz, decide_eq_true_eq] at hk
     rw [if_pos hk] at he
     rw [he] at h; exact h
   · rw [Xz, decide_eq_false_iff_not] at hk
     rwa [if_neg hk] at he
theorem VL {s : ByteArray} {ok : UInt8 → Bool} {pt : Int → Prop} {G : Bool → Prop}
   (eL : G true → pt s.size) (OK : ∀ (k : Nat) (u : UInt8), k < s.size → s.data[Int.toNat (k : Int)]? = some u → AO ((k : Int) + 1) → (ok u = true → pt ((k : Int) + 1)) → (ok u = false → G false) → pt k)
   (h : G (s.data.toList.all ok)) (hb : s.size ≤ 4611686018427387904) : pt 0 := by
 have Ee : s.data.toList.length = s.size := rfl
 suffices H : ∀ d k : Nat, s.size - k = d → k ≤ s.size → (s.data.toList.take k).all ok = true → pt k from H s.size 0 rfl (Nat.zero_le _) rfl
 intro d
 induction d with
 | zero =>
   intro k hd hk E5
   rw [List.take_of_length_le (by omega)] at E5
   rw [E5] at h
   have : k = s.size := by omega
   rw [this]; exact eL h
 | succ d ih =>
   intro k hd hk E5
   have Dh : k < s.size := by omega
   obtain ⟨u, hu⟩ : ∃ u, s.data.toList[k]? = some u := ⟨_, List.getElem?_eq_getElem (by omega)⟩
   refine OK k u Dh (by simpa using hu) (by unfold AO; omega) (fun hc => ih (k + 1) (by omega) (by omega) (by rw [AR hu, List.all_append, E5]; simpa using hc)) fun hc => ?_
   have : s.data.toList.all ok = false := by
     rw [List.all_eq_false]
     exact ⟨u, List.mem_of_getElem? hu, by simp [hc]⟩
   rwa [this] at h
def tch (u : UInt8) : Bool := decide ((97 ≤ u.toNat ∧ u.toNat ≤ 122) ∨ (48 ≤ u.toNat ∧ u.toNat ≤ 57) ∨ u.toNat = 45)
def Tn (s : ByteArray) : Bool := decide (0 < s.size) && decide (s.size ≤ 32) && s.data.toList.all tch
theorem X0 {s : ByteArray} (h : R (.returned (.bool (Tn s))) σ) : Spec prog 191 #[.string s] σ R := by
 refine ER.start ⟨fun h0 => ?_, fun h0 => ⟨fun h1 => ?_, fun h1 => ?_⟩⟩
 · rw [I1, decide_eq_true_eq] at h0
   simpa [Tn, h0] using h
 · have : ¬ s.size ≤ 32 := by omega
   simpa [Tn, this] using h
 · rw [I1, decide_eq_false_iff_not] at h0
   refine VL (s := s) (pt := fun k => ER.Ap R s k σ) (ok := tch) (G := fun t => R (.returned (.bool t)) σ) (fun g => ER.BI ⟨fun Ag => by omega, fun _ => g⟩) (fun k u hk hu hi good bad => ?_) ?_ (by omega)
   · simp only [tch, decide_eq_true_eq, decide_eq_false_iff_not] at good bad
     refine ER.BI ⟨fun Ag => ⟨u, by omega, hu, ?_⟩, fun F8 => by omega⟩
     clear h
     generalize u.toNat = n at good bad
     repeat' (first | refine ⟨fun _ => ?_, fun _ => ?_⟩ | exact ⟨hi, good (by omega)⟩ | exact bad (by omega))
   · have e : Tn s = s.data.toList.all tch := by simp [Tn, show 0 < s.size by omega, show s.size ≤ 32 by omega]
     rwa [e] at h
def dgt (u : UInt8) : Bool := decide (48 ≤ u.toNat ∧ u.toNat ≤ 57)
def nch (u : UInt8) : Bool := decide (u.toNat = 95 ∨ (48 ≤ u.toNat ∧ u.toNat ≤ 57) ∨ (65 ≤ u.toNat ∧ u.toNat ≤ 90) ∨ (97 ≤ u.toNat ∧ u.toNat ≤ 122))
def VM (s : ByteArray) : Bool := decide (0 < s.size) && decide (s.size ≤ 64) && !(s.data.toList.head?.any dgt) && s.data.toList.all nch
theorem RE {s : ByteArray} (h : R (.returned (.bool (VM s))) σ) : Spec prog 306 #[.string s] σ R := by
 have Ee : s.data.toList.length = s.size := rfl
 refine Ft.start ⟨fun h0 => ?_, fun h0 => ⟨fun h1 => ?_, fun h1 => ?_⟩⟩
 · rw [I1, decide_eq_true_eq] at h0
   simpa [VM, h0] using h
 · have : ¬ s.size ≤ 64 := by omega
   simpa [VM, this] using h
 · rw [I1, decide_eq_false_iff_not] at h0
   obtain ⟨u, hu⟩ : ∃ u, s.data.toList[0]? = some u := ⟨_, List.getElem?_eq_getElem (by omega)⟩
   have Y3 : s.data[Int.toNat (0 : Int)]? = some u := by simpa using hu
   have hh : s.data.toList.head? = some u := by rw [← hu]; cases s.data.toList <;> rfl
   have rest : dgt u = false → Ft.Ap R s 0 σ := fun hd => by
     have e : VM s = s.data.toList.all nch := by simp [VM, show 0 < s.size by omega, show s.size ≤ 64 by omega, hh, hd]
     rw [e] at h
     refine VL (s := s) (pt := fun k => Ft.Ap R s k σ) (ok := nch) (G := fun t => R (.returned (.bool t)) σ) (fun g => Ft.BI ⟨fun Ag => by omega, fun _ => g⟩) (fun k u hk hu hi good bad => ?_) h (by omega)
     simp only [nch, decide_eq_true_eq, decide_eq_false_iff_not] at good bad
     refine Ft.BI ⟨fun Ag => ⟨u, by omega, hu, ?_⟩, fun F8 => by omega⟩
     clear h
     generalize u.toNat = n at good bad
     repeat' (first | refine ⟨fun _ => ?_, fun _ => ?_⟩ | exact ⟨hi, good (by omega)⟩ | exact bad (by omega))
   simp only [dgt, decide_eq_false_iff_not] at rest
   refine ⟨u, by omega, Y3, fun h2 => ⟨u, by omega, Y3, fun h3 => ?_, fun h3 => rest (by omega)⟩, fun h2 => rest (by omega)⟩
   have : dgt u = true := by simp [dgt]; omega
   simpa [VM, hh, this] using h
def vl : Nat → Nat → Nat → List UInt8 → Bool
 | 0, _, _, [] => true
 | _ + 1, _, _, [] => false
 | 0, _, _, c :: r =>
   if c.toNat < 128 then vl 0 128 191 r
   else if 194 ≤ c.toNat ∧ c.toNat ≤ 223 then vl 1 128 191 r
   else if 224 ≤ c.toNat ∧ c.toNat ≤ 239 then (if c.toNat = 224 then vl 2 160 191 r else if c.toNat = 237 then vl 2 128 159 r else vl 2 128 191 r)
   else if 240 ≤ c.toNat ∧ c.toNat ≤ 244 then (if c.toNat = 240 then vl 3 144 191 r else if c.toNat = 244 then vl 3 128 143 r else vl 3 128 191 r)
   else false
 | m + 1, lo, hi, c :: r => if c.toNat < lo ∨ hi < c.toNat then false else vl m 128 191 r
def Sa (s : ByteArray) : Bool := vl 0 128 191 s.data.toList
theorem vl0 (l : List UInt8) (a b c d : Nat) : vl 0 a b l = vl 0 c d l := by cases l <;> rfl
attribute [local irreducible] A2.CF A2.DY A2.kN in
theorem PY {s : ByteArray} (hb : s.size ≤ 4611686018427387904) (h : R (.returned (.bool (Sa s))) σ) : Spec prog 307 #[.string s] σ R := by
 have Ee : s.data.toList.length = s.size := rfl
 refine A2.start ?_
 suffices H : ∀ d : Nat, (∀ k : Nat, s.size - k = d → k ≤ s.size → Sa s = vl 0 128 191 (s.data.toList.drop k) → A2.CF R s k σ) ∧
     (∀ (k m lo hi : Nat), s.size - k = d → k ≤ s.size → Sa s = vl m lo hi (s.data.toList.drop k) → m ≤ 3 → A2.kN R s k m lo hi σ) from (H s.size).1 0 (by omega) (by omega) rfl
 intro d
 induction d with
 | zero =>
   have A : ∀ k : Nat, s.size - k = 0 → k ≤ s.size → Sa s = vl 0 128 191 (s.data.toList.drop k) → A2.CF R s k σ := fun k hd hk he => by
     refine A2.BX ⟨fun _ => ?_, fun Ad => by omega⟩
     rw [List.drop_of_length_le (by omega)] at he
     rw [he] at h; exact h
   refine ⟨A, fun k m lo hi hd hk he hm => A2.cb ⟨fun h0 => A k hd hk ?_, fun h0 => ⟨fun _ => ?_, fun Ad => by omega⟩⟩⟩
   · have : m = 0 := by omega
     subst this; rw [he]; exact vl0 _ _ _ _ _
   · obtain ⟨m', rfl⟩ : ∃ m', m = m' + 1 := ⟨m - 1, by omega⟩
     rw [List.drop_of_length_le (by omega)] at he
     rw [he] at h; exact h
 | succ d ih =>
   have A : ∀ k : Nat, s.size - k = d + 1 → k ≤ s.size → Sa s = vl 0 128 191 (s.data.toList.drop k) → A2.CF R s k σ := fun k hd hk he => by
     have Dh : k < s.size := by omega
     obtain ⟨u, hu⟩ : ∃ u, s.data.toList[k]? = some u := ⟨_, List.getElem?_eq_getElem (by omega)⟩
     have Y3 : s.data[Int.toNat (k : Int)]? = some u := by simpa using hu
     have hi : AO ((k : Int) + 1) := by unfold AO; omega
     rw [Hu hu, vl] at he
     have st : ∀ (m lo hi : Nat), m ≤ 3 → Sa s = vl m lo hi (s.data.toList.drop (k + 1)) → A2.DY R s k m lo hi σ := fun m lo hh hm he => A2.Uv ⟨hi, ih.2 (k + 1) m lo hh (by omega) (by omega) he hm⟩
     have nx : Sa s = vl 0 128 191 (s.data.toList.drop (k + 1)) → A2.CF R s ((k : Int) + 1) σ := fun he => ih.1 (k + 1) (by omega) (by omega) he
     have no : Sa s = false → R (.returned (.bool false)) σ := fun e => by rw [e] at h; exact h
     refine A2.BX ⟨fun Ad => by omega, fun _ => ⟨u, by omega, Y3, ?_⟩⟩
     generalize s.data.toList.drop (k + 1) = r at he st nx
     clear ih h hu Y3
     generalize u.toNat = n at he
     have st1 := st 1 128 191 (by omega)
     have st2 := st 2 160 191 (by omega)
     have tJ := st 2 128 159 (by omega)
     have st4 := st 2 128 191 (by omega)
     have st5 := st 3 144 191 (by omega)
     have st6 := st 3 128 143 (by omega)
     have st7 := st 3 128 191 (by omega)
     repeat' (first | refine ⟨fun _ => ?_, fun _ => ?_⟩ | refine ⟨hi, nx ?_⟩ | refine st1 ?_ | refine st2 ?_ | refine tJ ?_ | refine st4 ?_ | refine st5 ?_ | refine st6 ?_ | refine st7 ?_ | refine no ?_)
     all_goals first | (exfalso; clear he; omega) | (rw [he]; repeat' (first | rfl | rw [if_pos (by omega)] | rw [if_neg (by omega)]))
   refine ⟨A, fun k m lo hi hd hk he hm => A2.cb ⟨fun h0 => A k hd hk ?_, fun h0 => ⟨fun Ad => by omega, fun _ => ?_⟩⟩⟩
   · have : m = 0 := by omega
     subst this; rw [he]; exact vl0 _ _ _ _ _
   · obtain ⟨m', rfl⟩ : ∃ m', m = m' + 1 := ⟨m - 1, by omega⟩
     have Dh : k < s.size := by omega
     obtain ⟨u, hu⟩ : ∃ u, s.data.toList[k]? = some u := ⟨_, List.getElem?_eq_getElem (by omega)⟩
     have Y3 : s.data[Int.toNat (k : Int)]? = some u := by simpa using hu
     rw [Hu hu, vl] at he
     refine ⟨u, by omega, Y3, fun h1 => ?_, fun h1 => ⟨u, by omega, Y3, fun h2 => ?_, fun h2 => ⟨by unfold AO; omega, by unfold AO; omega, ?_⟩⟩⟩
     · rw [if_pos (by omega)] at he
       rw [he] at h; exact h
     · rw [if_pos (by omega)] at he
       rw [he] at h; exact h
     · rw [if_neg (by omega)] at he
       have := ih.2 (k + 1) m' 128 191 (by omega) (by omega) he (by omega)
       have e1 : ((m' + 1 : Nat) : Int) - 1 = (m' : Nat) := by omega
       rw [e1]; exact this
end
end TwW
end
section
namespace TwW
open Go Tw Go.RowKit Go.Proofs.Tryz
section
variable {σ : Hp} {R : Rr}
def sle (a b : ByteArray) : Bool := Op.bytesLess a.toList b.toList || a.toList == b.toList
theorem zA {x y : Operand} {a b : ByteArray} {T : TypeId} : YF prog (do eqGuard .leq T x y (.string a) (.string b); binOp .leq T (.string a) (.string b)) σ (.bool (sle a b)) := fun w _ => by
 simp [eqGuard, binOp, Op.stringOp, sle]
def Ow : Option ByteArray → List Lb → Int
 | _, [] => 0
 | pv, x :: l => if VM x.1 = false then 31 else if x.2.size = 0 ∨ 256 < x.2.size ∨ Sa x.2 = false then 32 else if pv.any (sle x.1 ·) = true then 33 else Ow (some x.1) l
def X1 (ls : List Lb) : Int := if 16 < ls.length then 30 else Ow none ls
theorem PZ {p : Option Addr} {n c : Nat} {ls : List Lb} (hr : SA σ p n ls) (h : R (.returned (.int .i64 (X1 ls))) σ) : Spec prog 267 #[.slice p n c] σ R := by
 have hn : ls.length = n := hr.1
 refine Eu.start ⟨fun h1 => ?_, fun h1 => ?_⟩
 · rw [X1, if_pos (by omega)] at h; exact h
 rw [X1, if_neg (by omega)] at h
 let pv : Nat → Option ByteArray := fun i => if i = 0 then none else (ls[i - 1]?).map (·.1)
 suffices H : ∀ d i : Nat, n - i = d → i ≤ n → Ow none ls = Ow (pv i) (ls.drop i) → Eu.fV R p n c p n c n i σ from H n 0 rfl (Nat.zero_le _) rfl
 intro d
 induction d with
 | zero =>
   intro i hd hi he
   refine Eu.dE ⟨fun Ag => by omega, fun _ => ?_⟩
   rw [List.drop_of_length_le (by omega)] at he
   rw [he] at h; exact h
 | succ d ih =>
   intro i hd hi he
   have Jl : i < n := by omega
   obtain ⟨x, hx⟩ := hr.ex Jl
   obtain ⟨b, o, rfl, hl⟩ := SA.at hr hx
   rw [Hu hx, Ow] at he
   have out : ∀ e : Int, Ow none ls = e → R (.returned (.int .i64 e)) σ := fun e h1 => h1 ▸ h
   refine Eu.dE ⟨fun _ => ?_, fun hh => by omega⟩
   refine ⟨b, o, rfl, by omega, x.1, x.2, by simpa using hl, fun _ => RE ⟨_, rfl, fun h1 => out _ ?_, fun h1 => ?_⟩⟩
   · rw [he, if_pos h1]
   rw [if_neg (by simp [h1])] at he
   rw [I1]
   refine ⟨fun h2 => out _ ?_, fun h2 => ⟨fun h3 => out _ ?_, fun h3 => PY (by omega) ⟨_, rfl, fun h4 => out _ ?_, fun h4 => ?_⟩⟩⟩
   · rw [he, if_pos (.inl (by simpa using h2))]
   · rw [he, if_pos (.inr (.inl (by omega)))]
   · rw [he, if_pos (.inr (.inr h4))]
   rw [if_neg (by rw [decide_eq_false_iff_not] at h2; simp [h2, h4]; omega)] at he
   have nx : pv (i + 1) = some x.1 := by simp [pv, hx]
   have go : (pv i).any (sle x.1 ·) = false → Eu.fV R (aD b o) n c (aD b o) n c n ((i : Int) + 1) σ := fun h5 => by
     rw [if_neg (by simp [h5]), ← nx] at he
     exact ih (i + 1) (by omega) (by omega) he
   refine ⟨fun h5 => ?_, fun h5 => ⟨Ah Jl hr.big, go ?_⟩⟩
   · obtain ⟨y, hy⟩ := hr.ex (k := i - 1) (by omega)
     obtain ⟨b', o', hp, TK⟩ := SA.at hr hy
     cases hp
     have e1 : ((i : Int) - 1).toNat = i - 1 := by omega
     have hpv : pv i = some y.1 := by simp [pv, hy, show i ≠ 0 by omega]
     refine ⟨by have := hr.big; unfold AO; omega, b, o, rfl, by omega, y.1, by rw [e1]; exact TK.1, _, zA, fun h6 => out _ ?_, fun h6 => ⟨Ah Jl hr.big, go ?_⟩⟩
     · rw [he, if_pos (by rw [hpv]; exact h6)]
     · rw [hpv]; exact h6
   · have : i = 0 := by omega
     simp [pv, this]
theorem To : ∀ {ls : List Lb} {pv : Option ByteArray}, Ow pv ls = 0 → ∀ x ∈ ls, VM x.1 = true ∧ 0 < x.2.size ∧ x.2.size ≤ 256 ∧ Sa x.2 = true
 | [], _, _, _, hx => by cases hx
 | y :: l, pv, h, x, hx => by
   rw [Ow] at h
   split at h
   · cases h
   split at h
   · cases h
   split at h
   · cases h
   rename_i h1 h2 h3
   rcases List.mem_cons.1 hx with rfl | hx
   · simp only [not_or, Bool.not_eq_false] at h1 h2
     exact ⟨h1, by omega, by omega, h2.2.2⟩
   · exact To h x hx
def HO (ls : List Lb) : Prop := ls.length ≤ 16 ∧ ∀ x ∈ ls, x.1.size ≤ 256 ∧ x.2.size ≤ 256
theorem HO.of {ls : List Lb} (h : X1 ls = 0) : HO ls := by
 unfold X1 at h
 split at h
 · cases h
 · refine ⟨by omega, fun x hx => ?_⟩
   obtain ⟨h1, _, h2, _⟩ := To h x hx
   simp [VM] at h1
   exact ⟨by omega, h2⟩
def RF (b : Int) (s : Sm) : Int := if X1 s.ls ≠ 0 ∨ s.ls.length = 0 ∨ b < s.ls.length then 152 else if s.t < -1099511627776 ∨ 1099511627776 < s.t then 153 else 0
def NB (b : Int) : List Sm → Int
 | [] => 0
 | s :: l => if RF b s ≠ 0 then RF b s else NB b l
def I4 (ten : ByteArray) (b c : Int) (ss : List Sm) : Int := if Tn ten = false then 150 else if ss.length = 0 ∨ c < ss.length ∨ 256 < ss.length then 151 else NB b ss
theorem Tp {b : Int} : ∀ {ss : List Sm}, NB b ss = 0 → ∀ s ∈ ss, RF b s = 0
 | [], _, _, hs => by cases hs
 | y :: l, h, s, hs => by
   rw [NB] at h
   split at h
   · rename_i h1; exact absurd h h1
   · rename_i h1
     rcases List.mem_cons.1 hs with rfl | hs
     · exact Decidable.byContradiction h1
     · exact Tp h s hs
theorem aU {b : Int} {s : Sm} (h : RF b s = 0) : HO s.ls := by
 unfold RF at h
 split at h
 · cases h
 · rename_i h1
   exact .of (Decidable.byContradiction fun h2 => h1 (.inl h2))
theorem AFa : Enters prog 266 := fun args w => call266 args w
theorem AFb : Enters prog 268 := fun args w => call268 args w
theorem OA {ten : ByteArray} {p : Option Addr} {n cc : Nat} {ss : List Sm} {a b c : Int} {d : Bool} (hr : IC σ p n ss) (h : ∀ i : Int, R (.returned (.tuple #[.int .i64 i, .int .i64 (I4 ten b c ss)])) σ) :
   Spec prog 104 #[.string ten, .slice p n cc, .agg #[.int .i64 a, .int .i64 b, .int .i64 c, .bool d]] σ R := by
 have hn : ss.length = n := hr.1
 have out : ∀ (i e : Int), I4 ten b c ss = e → R (.returned (.tuple #[.int .i64 i, .int .i64 e])) σ := fun i e h1 => h1 ▸ h i
 refine Spec.drop (CC.start fun _ => X0 ⟨_, rfl, fun h1 => .mk (.refl _) (out _ _ ?_), fun h1 => ?_⟩)
 · rw [I4, if_pos h1]
 have e0 : I4 ten b c ss = if ss.length = 0 ∨ c < ss.length ∨ 256 < ss.length then 151 else NB b ss := by rw [I4, if_neg (by simp [h1])]
 refine ⟨fun h2 => .mk (.refl _) (out _ _ ?_), fun h2 => ⟨fun h3 => .mk (.refl _) (out _ _ ?_), fun h3 => ⟨fun h4 => .mk (.refl _) (out _ _ ?_), fun h4 => ?_⟩⟩⟩
 · rw [e0, if_pos (.inl (by omega))]
 · rw [e0, if_pos (.inr (.inl (by omega)))]
 · rw [e0, if_pos (.inr (.inr (by omega)))]
 rw [if_neg (by omega)] at e0
 refine OT.start fun b1 PR b4 fh => ⟨_, _, _, rfl, ?_⟩
 obtain ⟨n41, zB⟩ := Hp.AL fh
 generalize RG : Hp.set (Hp.set σ b1 _) b4 _ = σ1
 have hx : Ext σ σ1 := by rw [← RG]; exact (Ext.set PR).trans (.set fh)
 have l1 : σ1 b1 = some (.cells #[.int .i64 a, .int .i64 b, .int .i64 c, .bool d] 28 (0, 0)) := by rw [← RG, Hp.AF (Ne.symm n41), Hp.AA]
 have l4 : σ1 b4 = some (.cells #[(.func (.func 266) #[] #[(.pointer (aD b1 0))]), (.func (.func 268) #[] #[])] 268 (0, 0)) := by rw [← RG, Hp.AA]
 have aV : IC σ1 p n ss := hr.mono ML.mono hx
 clear RG fh zB hr
 suffices H : ∀ d i : Nat, n - i = d → i ≤ n → NB b ss = NB b (ss.drop i) → CC.MD (Drop R) (aD b4 0) 2 2 p n cc n i σ1 from H n 0 rfl (Nat.zero_le _) rfl
 intro d
 induction d with
 | zero =>
   intro i hd hi he
   refine CC.Hl ⟨fun Ag => by omega, fun _ => .mk hx (out _ _ ?_)⟩
   rw [e0, he, List.drop_of_length_le (by omega)]; rfl
 | succ d ih =>
   intro i hd hi he
   have Jl : i < n := by omega
   have Pu : n - (i + 1) = d := by omega
   obtain ⟨s, hs⟩ := aV.ex Jl
   obtain ⟨b0, o, q, k, cq, rfl, hl, hq⟩ := IC.at aV hs
   have hk : s.ls.length = k := hq.1
   rw [Hu hs, NB] at he
   refine CC.Hl ⟨fun _ => ⟨b0, o, rfl, by omega, q, k, cq, s.t, s.v, by simpa using hl, fun _ => ?_⟩, fun hh => by omega⟩
   have bad : ∀ x : Int, RF b s = x → x ≠ 0 → Drop R (.returned (.tuple #[.int .i64 i, .int .i64 x])) σ1 := fun x aI Ad => .mk hx (out _ _ (by rw [e0, he, aI, if_pos Ad]))
   refine CC.JN ⟨fun _ => ⟨b4, 0, rfl, by omega, _, AD (o := 0) l4 rfl, 266, #[], _, rfl, AFa, ?_⟩, fun hh => by omega⟩
   refine Lo.start fun _ => PZ hq ⟨_, rfl, ?_⟩
   have zC : X1 s.ls ≠ 0 ∨ s.ls.length = 0 ∨ b < s.ls.length → ∃ x : Int, Value.int .i64 152 = .int .i64 x ∧ Br (x ≠ 0) (Drop R (.returned (.tuple #[.int .i64 i, .int .i64 x])) σ1) (AO ((0 : Int) + 1) ∧ CC.Nw (Drop R) (aD b4 0) 2 2 i q k cq s.t s.v (aD b0 o) n cc n i (aD b4 0) 2 2 (2 : Nat) ((0 : Int) + 1) σ1) := fun hc =>
     ⟨152, rfl, fun _ => bad _ (by rw [RF, if_pos hc]) (by decide), fun hh => absurd (by decide) hh⟩
   refine ⟨fun h5 => zC (.inl h5), fun h5 => ⟨fun h6 => zC (.inr (.inl (by omega))), fun h6 => ⟨b, AD (o := 1) l1 rfl, fun h7 => zC (.inr (.inr (by omega))), fun h7 => ⟨0, rfl, fun hh => absurd rfl hh, fun _ => ⟨by unfold AO; omega, ?_⟩⟩⟩⟩⟩
   refine CC.JN ⟨fun _ => ⟨b4, 0, rfl, by omega, _, AD (o := 1) l4 rfl, 268, #[], _, rfl, AFb, ?_⟩, fun hh => by omega⟩
   have e1 : RF b s = if s.t < -1099511627776 ∨ 1099511627776 < s.t then 153 else 0 := by rw [RF, if_neg (by simp only [not_or]; exact ⟨h5, by omega, by omega⟩)]
   refine Lf.start fun _ => ⟨fun h8 => ⟨153, rfl, fun _ => bad _ ?_ (by decide), fun hh => absurd (by decide) hh⟩, fun h8 => ⟨fun h9 => ⟨153, rfl, fun _ => bad _ ?_ (by decide), fun hh => absurd (by decide) hh⟩, fun h9 => ⟨0, rfl, fun hh => absurd rfl hh, fun _ => ⟨by unfold AO; omega, ?_⟩⟩⟩⟩
   · rw [e1, if_pos (.inl (by omega))]
   · rw [e1, if_pos (.inr (by omega))]
   refine CC.JN ⟨fun hh => absurd hh (by decide), fun _ => ⟨Ah Jl aV.big, ih (i + 1) Pu Jl ?_⟩⟩
   rw [if_neg (by rw [e1, if_neg (by omega)]; simp)] at he
   exact he
theorem Ka.one (σ : Hp) (vs : List Value) (x : Lb) (h : Ka σ vs x) : CU vs := by
 rw [h]
 intro u hu
 simp only [List.mem_cons, List.not_mem_nil, or_false] at hu
 rcases hu with rfl | rfl <;> rfl
theorem Tq {σ1 : Hp} {q : Option Addr} {j c b : Nat} {ls : List Lb} {ty : TypeId} {Φ : Value → Hp → Prop} (ht : SA σ1 q j ls) (hb : j ≤ 1000000000)
   (hΦ : ∀ p' c' σ', A9 2 Ka (σ1.new σ') p' j c' ls → Ext σ1 σ' → Φ (.slice p' j c') σ') (hn : σ1 b = none) :
   AJ prog (Builtin.append_ #[22, 22] ty #[.slice (some ⟨b, 0, none⟩) 0 0, .slice q j c]) (σ1.set b (.cells #[] 61 (0, 0))) Φ := by
 obtain ⟨h1, cs, h2, h3⟩ := ht
 refine Ec Own.empty (h2.mono (.set hn)) (Ch.pC Ka.one h3 (by decide)) (by omega) fun p' c' σ' Aa EU => ?_
 have hq : ∀ a : Addr, (some (⟨b, 0, none⟩ : Addr)) = some a → σ1 a.block = none := fun a ha => by cases ha; exact hn
 rw [Nat.zero_add] at Aa ⊢
 rw [List.nil_append] at Aa
 exact hΦ p' c' σ' ⟨h1, cs, Own.CV Aa (B2 hq EU (.set hn)), h3⟩ (CX hq EU (.set hn))
theorem X2 {q : Option Addr} {j c : Nat} {ls : List Lb} {t v : Int} (ht : SA σ q j ls) (hb : j ≤ 1000000000)
   (h : ∀ p' c' σ', A9 2 Ka (σ.new σ') p' j c' ls → Ext σ σ' → R (.returned (.agg #[.slice p' j c', .int .i64 t, .int .u64 v])) σ') : Spec prog 53 #[.agg #[.slice q j c, .int .i64 t, .int .u64 v]] σ R :=
 Jf.start fun _ _ b3 U4 => Tq ht hb (fun p' c' σ' ho hx => ⟨_, _, _, rfl, h p' c' σ' ho hx⟩) U4
def Ts (x : Lb) : List Int := uv x.1.size ++ NU x.1 ++ (uv x.2.size ++ NU x.2)
def zD (ls : List Lb) : List Int := uv ls.length ++ ls.flatMap Ts
def mI (h c : Int) : Int := IntKind.u32.wrap (Go.bits .xor .u32 h (IntKind.u32.wrap c) * 16777619)
def AFc (bs : List Int) : Int := bs.foldl mI 2166136261
def FO (ls : List Lb) : Int := AFc (zD ls)
theorem gX {p : Option Addr} {n c : Nat} {xs : List Int} (hr : CA .u8 σ p n xs) (h : R (.returned (.int .u32 (AFc xs))) σ) : Spec prog 56 #[.slice p n c] σ R := by
 refine EC.start ?_
 suffices H : ∀ d k : Nat, n - k = d → k ≤ n → EC.A1 R ((xs.take k).foldl mI 2166136261) p n c n k σ from H n 0 rfl (Nat.zero_le _)
 intro d
 induction d with
 | zero =>
   intro k hd hk
   refine EC.AW ⟨fun Ag => by omega, fun _ => ?_⟩
   rw [List.take_of_length_le (by rw [hr.1]; omega)]; exact h
 | succ d ih =>
   intro k hd hk
   have Dh : k < n := by omega
   obtain ⟨y, hy⟩ := hr.ex Dh
   obtain ⟨b, o, rfl, hl⟩ := hr.at hy
   refine EC.AW ⟨fun _ => ⟨b, o, rfl, by omega, y, by simpa using hl, fun E7 h14 Nv h15 FF fv => ⟨Ah Dh hr.big, ?_⟩⟩, fun hh => by omega⟩
   have := ih (k + 1) (by omega) (by omega)
   rw [AR hy, List.foldl_append, List.foldl_cons, List.foldl_nil] at this
   subst h14 h15 fv
   exact this
theorem gY {x : Lb} (h : x.1.size ≤ 256 ∧ x.2.size ≤ 256) : (Ts x).length ≤ 532 := by
 have h1 := BF (x := x.1.size) (by omega)
 have h2 := BF (x := x.2.size) (by omega)
 simp only [Ts, List.length_append, Cg]
 omega
theorem mJ {ls : List Lb} (h : ∀ x ∈ ls, x.1.size ≤ 256 ∧ x.2.size ≤ 256) : (ls.flatMap Ts).length ≤ ls.length * 532 := by
 induction ls with
 | nil => simp
 | cons x l ih =>
   have := ih fun y hy => h y (List.mem_cons_of_mem _ hy)
   have := gY (h x (by simp))
   rw [List.flatMap_cons, List.length_append, List.length_cons]
   omega
theorem VN {p : Option Addr} {n c : Nat} {ls : List Lb} (hr : SA σ p n ls) (hs : HO ls) (h : ∀ p' n' c' σ', AS .u8 (σ.new σ') p' n' c' (zD ls) → Ext σ σ' → R (.returned (.slice p' n' c')) σ') : Spec prog 57 #[.slice p n c] σ R := by
 have hn : ls.length = n := hr.1
 have fv := hs.1
 refine FE.start fun x8 h8 => ?_
 have e8 : x8 = (n : Int) := by rw [h8]; simp [IntKind.wrap, IntKind.bits, IntKind.signed]; omega
 subst e8
 refine Ce GS.nil (by omega) (by omega) fun p1 n1 c1 σ1 Ff BH => ⟨p1, n1, c1, rfl, ?_⟩
 rw [List.nil_append] at Ff
 suffices H : ∀ d k : Nat, ∀ p3 n3 c3 σ3, n - k = d → k ≤ n → AS .u8 (σ.new σ3) p3 n3 c3 (uv n ++ (ls.take k).flatMap Ts) → Ext σ σ3 → FE.A1 R p3 n3 c3 p n c n k σ3 from H n 0 p1 n1 c1 σ1 rfl (Nat.zero_le _) (by simpa using Ff) BH
 intro d
 induction d with
 | zero =>
   intro k p3 n3 c3 σ3 hd hk ho hx
   refine FE.AW ⟨fun Ag => by omega, fun _ => h p3 n3 c3 σ3 ?_ hx⟩
   rw [List.take_of_length_le (by omega)] at ho
   rw [zD, hn]; exact ho
 | succ d ih =>
   intro k p3 n3 c3 σ3 hd hk ho hx
   have Dh : k < n := by omega
   obtain ⟨y, hy⟩ := hr.ex Dh
   obtain ⟨b, o, rfl, hl⟩ := SA.at hr hy
   have r8 := hs.2 y (List.mem_of_getElem? hy)
   have hl3 := Ci ho
   have mC := BF (x := n) (by omega)
   have Z9 := mJ (ls := ls.take k) fun x hx => hs.2 x (List.mem_of_mem_take hx)
   rw [List.length_append] at hl3
   rw [List.length_take] at Z9
   have h3b : n3 ≤ 9000 := by omega
   refine FE.AW ⟨fun _ => ⟨b, o, rfl, by omega, y.1, y.2, by simpa using hl.mono hx, fun _ => ?_⟩, fun hh => by omega⟩
   refine FN (AS.rd (Own.mono (Ext.Af _ _) ho)) (by omega) (by omega) fun p4 n4 c4 σ4 Pv Kt => ⟨p4, n4, c4, rfl, ?_⟩
   have hl4 := Ci Pv
   have hu1 := BF (x := y.1.size) (by omega)
   simp only [List.length_append, Cg] at hl4
   refine FN (AS.rd (Own.mono (Ext.Af _ _) Pv)) (by omega) (by omega) fun p5 n5 c5 σ5 ix SU => ⟨p5, n5, c5, rfl, Ah Dh hr.big, ?_⟩
   refine ih (k + 1) p5 n5 c5 σ5 (by omega) (by omega) ?_ (hx.trans (Kt.trans SU))
   have := Own.mono (Ext.CW (hx.trans Kt)) ix
   rw [AR hy, List.flatMap_append]
   simpa [Ts, AS] using this
theorem Tt {p : Option Addr} {n c : Nat} {ls : List Lb} (hr : SA σ p n ls) (hs : HO ls) (h : R (.returned (.int .u32 (FO ls))) σ) : Spec prog 24 #[.slice p n c] σ R :=
 Spec.drop (Qo.start (VN hr hs fun p' n' c' σ' ho hx => ⟨_, _, _, rfl, gX (AS.rd (Own.mono (Ext.Af _ _) ho)) ⟨_, rfl, .mk hx h⟩⟩))
end
end TwW
end
section
namespace TwW
open Go Tw Go.Proofs.Tryz
structure Mem where
 id : Int
 state : Int
 B8 : List Int
def FP (σ : Hp) (vs : List Value) (m : Mem) : Prop := ∃ p n c, vs = [.int .i64 m.id, .int .i64 m.state, .slice p n c] ∧ CA .u32 σ p n m.B8
theorem FP.mono : PD FP := fun _ _ _ _ h ⟨p, n, c, hv, hr⟩ => ⟨p, n, c, hv, hr.mono h⟩
abbrev Pa := GS 3 FP
abbrev J0 := A9 3 FP
theorem Pa.RH {σ σ' : Hp} (h : Ext σ σ') {p : Option Addr} {n : Nat} {ms : List Mem} (hr : Pa σ p n ms) : Pa σ' p n ms := GS.mono FP.mono h hr
theorem Pa.at' {σ : Hp} {p : Option Addr} {n i : Nat} {ms : List Mem} {m : Mem} (hr : Pa σ p n ms) (hx : ms[i]? = some m) :
   ∃ b o q k c, p = some ⟨b, o, none⟩ ∧ EF σ b (o + i * 3) [.int .i64 m.id, .int .i64 m.state, .slice q k c] ∧ CA .u32 σ q k m.B8 := by
 obtain ⟨b, o, vs, hp, ⟨q, k, c, rfl, hq⟩, hl⟩ := GS.idx hr hx
 exact ⟨b, o, q, k, c, hp, hl, hq⟩
theorem RI {a b : Int} {p : Option Addr} {n c : Nat} : CU [.int .i64 a, .int .i64 b, .slice p n c] := by
 intro u hu
 simp only [List.mem_cons, List.not_mem_nil, or_false] at hu
 rcases hu with rfl | rfl | rfl <;> rfl
end TwW
end
section
namespace TwW
open Go Tw Go.Proofs.Tryz
def EY (xs : List Int) : Prop := xs.Pairwise (· < ·)
instance (xs : List Int) : Decidable (EY xs) := inferInstanceAs (Decidable (xs.Pairwise (· < ·)))
theorem gZ {xs : List Int} {k : Nat} {y : Int} (hk : 0 < k) (hy : xs[k - 1]? = some y) : xs.take k = xs.take (k - 1) ++ [y] := by
 have := AR hy
 rwa [Nat.sub_add_cancel hk] at this
theorem Kw {xs : List Int} {k : Nat} {x y : Int} (hk : 0 < k) (hy : xs[k - 1]? = some y) (hx : xs[k]? = some x) (h : EY (xs.take k)) (hl : y < x) : EY (xs.take (k + 1)) := by
 unfold EY at *
 rw [AR hx, List.pairwise_append]
 refine ⟨h, by simp, fun a ha b hb => ?_⟩
 simp only [List.mem_singleton] at hb
 subst hb
 rw [gZ hk hy] at ha h
 rw [List.pairwise_append] at h
 simp only [List.mem_append, List.mem_singleton] at ha
 rcases ha with ha | rfl
 · have := h.2.2 a ha y (by simp); omega
 · exact hl
theorem X3 {xs : List Int} {k : Nat} {x y : Int} (hk : 0 < k) (hy : xs[k - 1]? = some y) (hx : xs[k]? = some x) (hl : x ≤ y) : ¬ EY xs := fun h => by
 have h1 := (List.pairwise_iff_getElem.1 h) (k - 1) k (List.getElem?_eq_some_iff.1 hy).1 (List.getElem?_eq_some_iff.1 hx).1 (by omega)
 rw [(List.getElem?_eq_some_iff.1 hy).2, (List.getElem?_eq_some_iff.1 hx).2] at h1
 omega
theorem JU {xs : List Int} (h : xs.length ≤ 1) : EY xs := by
 match xs, h with
 | [], _ => simp [EY]
 | [x], _ => simp [EY]
theorem VO {R : Rr} {σ : Hp} {p : Option Addr} {n c : Nat} {xs : List Int} (hr : CA .u32 σ p n xs) (h : R (.returned (.bool (decide (EY xs)))) σ) :
   Spec prog 118 #[.slice p n c] σ R := by
 refine CK.start ?_
 suffices H : ∀ d k : Nat, n - k = d → 0 < k → EY (xs.take k) → CK.La R p n c k σ from H (n - 1) 1 rfl (by omega) (JU (by simp; omega))
 intro d
 induction d with
 | zero =>
   intro k hd hk Be
   refine CK.DF ⟨fun Ag => by omega, fun _ => ?_⟩
   rw [List.take_of_length_le (by rw [hr.1]; omega)] at Be
   simpa [Be] using h
 | succ d ih =>
   intro k hd hk Be
   refine CK.DF ⟨fun Ag => ?_, fun F8 => by omega⟩
   have Dh : k < n := by omega
   obtain ⟨x, hx⟩ := hr.ex Dh
   obtain ⟨y, hy⟩ := hr.ex (k := k - 1) (by omega)
   obtain ⟨b, o, rfl, hl⟩ := hr.at hx
   obtain ⟨b', o', he, TK⟩ := hr.at hy
   cases he
   have e : ((k : Int) - 1) = ((k - 1 : Nat) : Int) := by omega
   have hb := hr.big
   refine ⟨b, o, rfl, by omega, x, by simpa using hl, by unfold AO; omega, by omega, y, by rw [e]; simpa using TK, fun hle => ?_, fun hgt => ⟨Ah Dh hr.big, ih (k + 1) (by omega) (by omega) (Kw hk hy hx Be (by omega))⟩⟩
   simpa [X3 hk hy hx hle] using h
theorem VP {R : Rr} {σ : Hp} {p : Option Addr} {n c : Nat} {xs : List Int} (hr : CA .i64 σ p n xs) (h : R (.returned (.bool (decide (EY xs)))) σ) :
   Spec prog 119 #[.slice p n c] σ R := by
 refine DN.start ?_
 suffices H : ∀ d k : Nat, n - k = d → 0 < k → EY (xs.take k) → DN.La R p n c k σ from H (n - 1) 1 rfl (by omega) (JU (by simp; omega))
 intro d
 induction d with
 | zero =>
   intro k hd hk Be
   refine DN.DF ⟨fun Ag => by omega, fun _ => ?_⟩
   rw [List.take_of_length_le (by rw [hr.1]; omega)] at Be
   simpa [Be] using h
 | succ d ih =>
   intro k hd hk Be
   refine DN.DF ⟨fun Ag => ?_, fun F8 => by omega⟩
   have Dh : k < n := by omega
   obtain ⟨x, hx⟩ := hr.ex Dh
   obtain ⟨y, hy⟩ := hr.ex (k := k - 1) (by omega)
   obtain ⟨b, o, rfl, hl⟩ := hr.at hx
   obtain ⟨b', o', he, TK⟩ := hr.at hy
   cases he
   have e : ((k : Int) - 1) = ((k - 1 : Nat) : Int) := by omega
   have hb := hr.big
   refine ⟨b, o, rfl, by omega, x, by simpa using hl, by unfold AO; omega, by omega, y, by rw [e]; simpa using TK, fun hle => ?_, fun hgt => ⟨Ah Dh hr.big, ih (k + 1) (by omega) (by omega) (Kw hk hy hx Be (by omega))⟩⟩
   simpa [X3 hk hy hx hle] using h
def og (m : Mem) : Prop := 0 ≤ m.id ∧ m.id < 16 ∧ 1 ≤ m.state ∧ m.state ≤ 3 ∧ 1 ≤ m.B8.length ∧ m.B8.length ≤ 64 ∧ EY m.B8
instance (m : Mem) : Decidable (og m) := by unfold og; infer_instance
def ids (ms : List Mem) : List Int := ms.map Mem.id
def LV (ms : List Mem) : Prop := (∀ m ∈ ms, og m) ∧ EY (ids ms)
instance (ms : List Mem) : Decidable (LV ms) := by unfold LV; infer_instance
def PT (ms : List Mem) : Int := if LV ms then 0 else 130
theorem dc {R : Rr} {σ : Hp} {x : Int} (h : R (.returned (.bool (decide (0 ≤ x ∧ x < 16)))) σ) : Spec prog 117 #[.int .i64 x] σ R := by
 refine dB.start ⟨fun h0 => by simpa [h0] using h, fun h0 => by simpa [h0] using h⟩
end TwW
end
section
namespace TwW
open Go Tw Go.Proofs.Tryz
def Small (ms : List Mem) : Prop := ms.length ≤ 3518437208883 ∧ ∀ m ∈ ms, m.B8.length ≤ 35184372088832
theorem MM {R : Rr} {σ : Hp} {e : Int} {p : Option Addr} {n c : Nat} {ms : List Mem} (hr : Pa σ p n ms) (hs : Small ms) (h : R (.returned (.int .i64 (PT ms))) σ) :
   Spec prog 54 #[.agg #[.int .u64 e, .slice p n c]] σ R := by
 refine Spec.drop (HA.start ?_)
 have hlen : n ≤ 3518437208883 := by have := hs.1; have := hr.1; omega
 have bad : ¬ LV ms → ∀ σ', Ext σ σ' → Drop R (.returned (.int .i64 130)) σ' := fun hn σ' hx => .mk hx (by simpa [PT, hn] using h)
 suffices H : ∀ d k : Nat, ∀ p3 c3 σ', n - k = d → k ≤ n → (∀ m ∈ ms.take k, og m) → Ext σ σ' → AS .i64 (σ.new σ') p3 k c3 (ids (ms.take k)) → HA.A1 (Drop R) p3 k c3 p n c n k σ' from fun _ => H n 0 _ _ _ rfl (by omega) (by simp) (.refl σ) AS.nil
 intro d
 induction d with
 | zero =>
   intro k p3 c3 σ' hd hk ho hx Aa
   refine HA.AW ⟨fun Ag => by omega, fun _ => VP (Aa.rd.mono (Ext.Af σ σ')) ⟨_, rfl, ?_, ?_⟩⟩
   all_goals rw [List.take_of_length_le (by rw [hr.1]; omega)] at ho ⊢
   · intro hf
     exact bad (fun Au => by simp [Au.2] at hf) _ hx
   · intro ht
     have : LV ms := ⟨ho, by simpa using ht⟩
     exact .mk hx (by simpa [PT, this] using h)
 | succ d ih =>
   intro k p3 c3 σ' hd hk ho hx Aa
   refine HA.AW ⟨fun Ag => ?_, fun F8 => by omega⟩
   have Dh : k < n := by omega
   obtain ⟨m, hm⟩ := hr.ex Dh
   obtain ⟨b, o, q, j, c', rfl, hl, ht⟩ := hr.at' hm
   have Cl : m ∈ ms := List.mem_of_getElem? hm
   have hlj := ht.1
   refine ⟨b, o, rfl, by omega, m.id, m.state, q, j, c', by simpa using hl.mono hx, fun _ Ko mK => ?_⟩
   refine AS.JF hx Aa (by omega) (fun p' c2 σ2 B1 An _ => ⟨p', k + 1, c2, rfl, dc ⟨_, rfl, ?_, ?_⟩⟩) mK
   · intro hf
     exact bad (fun Au => by have := Au.1 m Cl; simp [og] at this hf; omega) _ An
   intro zE
   refine ⟨fun h1 => bad (fun Au => by have := Au.1 m Cl; simp [og] at this; omega) _ An, fun h1 => ⟨fun h2 => bad (fun Au => by have := Au.1 m Cl; simp [og] at this; omega) _ An, fun h2 => ⟨fun h3 => bad (fun Au => by have := Au.1 m Cl; simp [og] at this; omega) _ An, fun h3 => ⟨fun h4 => bad (fun Au => by have := Au.1 m Cl; simp [og] at this; omega) _ An, fun h4 => ?_⟩⟩⟩⟩
   refine VO (ht.mono An) ⟨_, rfl, fun hf => bad (fun Au => by have := Au.1 m Cl; simp [og] at this hf; exact hf this.2.2.2.2.2.2) _ An, fun XQ => ⟨Ah Dh hr.big, ih (k + 1) _ _ _ (by omega) (by omega) ?_ An ?_⟩⟩
   · intro m' Kr
     rw [List.take_add_one, hm] at Kr
     simp only [Option.toList, List.mem_append, List.mem_singleton] at Kr
     rcases Kr with Kr | rfl
     · exact ho m' Kr
     · simp at zE XQ
       exact ⟨by omega, by omega, by omega, by omega, by omega, by omega, XQ⟩
   · have : ids (ms.take (k + 1)) = ids (ms.take k) ++ [m.id] := by simp [ids, List.take_add_one, hm]
     rw [this]; exact B1
end TwW
end
section
namespace TwW
open Go Tw Go.Proofs.Tryz
theorem aW {σ σ1 : Hp} {q : Option Addr} {j c : Nat} {xs : List Int} {T Et ty : TypeId} {bs : Nat} [J2 prog T Et 1 bs] {Φ : Value → Hp → Prop} (hx : Ext σ σ1) (ht : CA .u32 σ1 q j xs) (hb : j * bs ≤ 140737488355328)
   (hΦ : ∀ p' c' σ', AS .u32 (σ1.new σ') p' j c' xs → Ext σ1 σ' → Φ (.slice p' j c') σ') {b : Nat} (hn : σ1 b = none) :
   AJ prog (Builtin.append_ #[T, T] ty #[.slice (some ⟨b, 0, none⟩) 0 0, .slice q j c]) (σ1.set b (.cells #[] Et (0, 0))) Φ := by
 refine Ec Own.empty ((Gi.of_map ht).mono (.set hn)) CU.Cs (by rw [Nat.zero_add]; exact hb) fun p' c' σ' Aa EU => ?_
 have hq : ∀ a : Addr, (some (⟨b, 0, none⟩ : Addr)) = some a → σ1 a.block = none := fun a ha => by cases ha; exact hn
 rw [Nat.zero_add] at Aa ⊢
 exact hΦ p' c' σ' (Own.CV Aa (B2 hq EU (.set hn))) (CX hq EU (.set hn))
theorem RJ {R : Rr} {σ : Hp} {e : Int} {p : Option Addr} {n c : Nat} {ms : List Mem} (hr : Pa σ p n ms) (hs : Small ms)
   (h : ∀ p' c' σ', J0 (σ.new σ') p' n c' ms → Ext σ σ' → R (.returned (.agg #[.int .u64 e, .slice p' n c'])) σ') : Spec prog 186 #[.agg #[.int .u64 e, .slice p n c]] σ R := by
 refine Il.start ?_
 have hlen : n ≤ 3518437208883 := by have := hs.1; have := hr.1; omega
 suffices H : ∀ d k : Nat, ∀ p3 c3 σ', n - k = d → k ≤ n → Ext σ σ' → J0 (σ.new σ') p3 k c3 (ms.take k) → Il.A1 R 0 none 0 0 e p3 k c3 p n c n k σ' from fun _ _ _ => H n 0 _ _ _ rfl (by omega) (.refl σ) A9.nil
 intro d
 induction d with
 | zero =>
   intro k p3 c3 σ' hd hk hx Aa
   refine Il.AW ⟨fun Ag => by omega, fun _ => ?_⟩
   rw [List.take_of_length_le (by rw [hr.1]; omega)] at Aa
   have : k = n := by omega
   subst this
   exact h _ _ _ Aa hx
 | succ d ih =>
   intro k p3 c3 σ' hd hk hx Aa
   refine Il.AW ⟨fun Ag => ?_, fun F8 => by omega⟩
   have Dh : k < n := by omega
   obtain ⟨m, hm⟩ := hr.ex Dh
   obtain ⟨b, o, q, j, c', rfl, hl, ht⟩ := hr.at' hm
   have Cl : m ∈ ms := List.mem_of_getElem? hm
   have hlj := ht.1
   have hsj := hs.2 m Cl
   refine ⟨b, o, rfl, by omega, m.id, m.state, q, j, c', by simpa using hl.mono hx, fun _ Ko mK => ?_⟩
   refine aW hx (ht.mono hx) (by omega) (fun q' j' σ1 hq BH => ⟨q', j, j', rfl, fun Qh mL => ?_⟩) mK
   have mM : J0 (σ.new σ1) p3 k c3 (ms.take k) := Aa.mono FP.mono (Ext.BV BH)
   have de : ∀ a, p3 = some a → σ' a.block ≠ none := fun a ha => by
     have := Aa.block a ha
     cases hh : (σ.new σ') a.block with
     | none => exact absurd hh this
     | some oo => rw [(AQ.1 hh).2]; simp
   have C9 : Ext (σ'.new σ1) ((σ.new σ1).del p3) := Ext.IS hx de
   have he : FP ((σ.new σ1).del p3) [.int .i64 m.id, .int .i64 m.state, .slice q' j j'] m := ⟨q', j, j', rfl, hq.rd.mono C9⟩
   refine A9.JF FP.mono (hx.trans BH) mM rfl RI he (by omega) (fun p' c2 σ2 B1 An => ⟨p', k + 1, c2, rfl, Ah Dh hr.big, ih (k + 1) _ _ _ (by omega) (by omega) An ?_⟩) mL
   rw [List.take_add_one, hm]; exact B1
def place (ms : List Mem) (x : Int) : Int := match ms.findIdx? (fun m => decide (m.id = x)) with | some k => k | none => -1
theorem RL {ms : List Mem} {x : Int} (h : ∀ m ∈ ms, m.id ≠ x) : place ms x = -1 := by
 unfold place
 rw [List.findIdx?_eq_none_iff.2 (by simpa using h)]
theorem RM {ms : List Mem} {x : Int} {k : Nat} {m : Mem} (hm : ms[k]? = some m) (he : m.id = x) (h : ∀ m ∈ ms.take k, m.id ≠ x) : place ms x = k := by
 unfold place
 have Ag := (List.getElem?_eq_some_iff.1 hm).1
 have heq := (List.getElem?_eq_some_iff.1 hm).2
 rw [(List.findIdx?_eq_some_iff_getElem (i := k)).2 ⟨Ag, by rw [heq]; simpa using he, fun j hj => ?_⟩]
 have := h ms[j] (List.mem_iff_getElem.2 ⟨j, by simp; omega, by simp⟩)
 simpa using this
theorem RN : Enters prog 261 := fun args w => Go.Proofs.Tryz.call261 args w
theorem X4 {R : Rr} {σ : Hp} {e x : Int} {p : Option Addr} {n c : Nat} {ms : List Mem} (hr : Pa σ p n ms) (h : R (.returned (.int .i64 (place ms x))) σ) :
   Spec prog 187 #[.agg #[.int .u64 e, .slice p n c], .int .i64 x] σ R := by
 refine Spec.drop (Od.start fun _ b3 U4 => ?_)
 have hx : Ext σ (σ.set b3 (.cells #[.int .i64 x] 3 (0, 0))) := .set U4
 have I9 := hr.RH hx
 have pA : Hp.ld (σ.set b3 (.cells #[.int .i64 x] 3 (0, 0))) ⟨b3, 0, none⟩ = some (.int .i64 x) := by simp [Hp.ld, Hp.AA]
 dsimp only
 generalize hσ : (σ.set b3 (.cells #[.int .i64 x] 3 (0, 0))) = σ1 at *
 refine BQ.start ?_
 suffices H : ∀ d k : Nat, n - k = d → k ≤ n → (∀ m ∈ ms.take k, m.id ≠ x) → BQ.Ns (AB (Drop R) fun v σ1 => ∃ x8 : Int, v = .int .i64 x8 ∧ Drop R (.returned (.int .i64 x8)) σ1) p n c (.func (.func 261) #[] #[.pointer (some ⟨b3, 0, none⟩)]) n k σ1 from H n 0 rfl (by omega) (by simp)
 intro d
 induction d with
 | zero =>
   intro k hd hk Be
   refine BQ.EJ ⟨fun Ag => by omega, fun _ => ⟨_, rfl, .mk hx ?_⟩⟩
   rw [List.take_of_length_le (by rw [hr.1]; omega)] at Be
   rw [← RL Be]; exact h
 | succ d ih =>
   intro k hd hk Be
   refine BQ.EJ ⟨fun Ag => ?_, fun F8 => by omega⟩
   have Dh : k < n := by omega
   obtain ⟨m, hm⟩ := I9.ex Dh
   obtain ⟨b, o, q, j, c', rfl, hl, ht⟩ := I9.at' hm
   refine ⟨b, o, rfl, by omega, m.id, m.state, q, j, c', by simpa using hl, _, _, _, rfl, RN, ?_⟩
   refine Lq.start fun _ => ⟨x, pA, _, rfl, fun zE => ⟨_, rfl, .mk hx ?_⟩, fun hf => ⟨Ah Dh hr.big, ih (k + 1) (by omega) (by omega) ?_⟩⟩
   · have he : m.id = x := by simpa using zE
     rw [← RM hm he Be]; exact h
   · have Ad : m.id ≠ x := by simpa using hf
     intro m' Kr
     rw [List.take_add_one, hm] at Kr
     simp only [Option.toList, List.mem_append, List.mem_singleton] at Kr
     rcases Kr with Kr | rfl
     · exact Be m' Kr
     · exact Ad
theorem Kb (ms : List Mem) (x : Int) : (place ms x = -1 ∧ ∀ m ∈ ms, m.id ≠ x) ∨ ∃ k m, place ms x = (k : Nat) ∧ ms[k]? = some m ∧ m.id = x ∧ ∀ m ∈ ms.take k, m.id ≠ x := by
 unfold place
 cases hf : ms.findIdx? (fun m => decide (m.id = x)) with
 | none => exact .inl ⟨rfl, by simpa using hf⟩
 | some k =>
   obtain ⟨hk, he, Be⟩ := List.findIdx?_eq_some_iff_getElem.1 hf
   refine .inr ⟨k, ms[k], rfl, List.getElem?_eq_getElem hk, by simpa using he, fun m hm => ?_⟩
   obtain ⟨j, hj, rfl⟩ := List.mem_iff_getElem.1 hm
   have UQ : j < k := by simp at hj; omega
   have := Be j UQ
   simpa using this
end TwW
end
section
namespace TwW
open Go Tw Go.Proofs.Tryz
theorem mN (w : World) : (Go.sizeOf 70).run prog w = .ok 1 w := Go.Proofs.Tryz.sizeOf70 w
theorem ga {R : Rr} {σ : Hp} {x y : Int} (h : R (.returned (.bool (decide (x < y)))) σ) : Spec prog 328 #[.int .u32 x, .int .u32 y] σ R := by
 refine Jb.start (ED.start ⟨_, rfl, fun ht => ?_, fun _ => h⟩)
 simp at ht
def Asc (ys : List Int) (i : Nat) (p : Nat → Prop) : Prop := ∀ a b x y, a < b → b < i → p b → ys[a]? = some x → ys[b]? = some y → x ≤ y
theorem RO {R : Rr} {σ : Hp} {p : Option Addr} {n c : Nat} {xs : List Int} {Q : Int → Prop} (hQ : ∀ x ∈ xs, Q x) (ho : AS .u32 σ p n c xs)
   (h : ∀ σ' ys, (∀ y ∈ ys, Q y) → AS .u32 σ' p n c ys → Ext (σ.del p) (σ'.del p) → Asc ys n (fun _ => True) → R (.returned (.tuple #[])) σ') : Spec prog 322 #[.slice p n c, .int .i64 0, .int .i64 n] σ R := by
 have hb := ho.rd.big
 refine AN.start ⟨by unfold AO; omega, ?_⟩
 suffices H : ∀ d i : Nat, ∀ σ' ys, (∀ y ∈ ys, Q y) → n - i = d → 0 < i → AS .u32 σ' p n c ys → Ext (σ.del p) (σ'.del p) → Asc ys (min i n) (fun _ => True) → AN.Zy R p n c 0 n i σ' from
   H (n - 1) 1 σ xs hQ rfl (by omega) ho (Ext.refl _) (fun a b x y gK Js _ _ _ => by omega)
 intro d
 induction d with
 | zero =>
   intro i σ' ys hq hd hi Aa hx hs
   refine AN.MC ⟨fun Ag => by omega, fun _ => h σ' ys hq Aa hx ?_⟩
   rwa [Nat.min_eq_right (by omega)] at hs
 | succ d ih =>
   intro i σ' ys hq hd hi Aa hx hs
   have C9 : i < n := by omega
   rw [Nat.min_eq_left (by omega)] at hs
   refine AN.MC ⟨fun _ => ?_, fun F8 => by omega⟩
   suffices H2 : ∀ j : Nat, ∀ σ' ys, (∀ y ∈ ys, Q y) → j ≤ i → AS .u32 σ' p n c ys → Ext (σ.del p) (σ'.del p) → Asc ys (i + 1) (fun b => b ≠ j) → AN.Gp R p n c 0 n i j σ' from
     H2 i σ' ys hq (Nat.le_refl _) Aa hx (fun a b x y gK Js Ad => hs a b x y gK (by omega) trivial)
   intro j
   induction j with
   | zero =>
     intro σ' ys hq _ Aa hx hs
     refine AN.Gq ⟨fun Ag => by omega, fun _ => ⟨Ah C9 hb, ih (i + 1) σ' ys hq (by omega) (by omega) Aa hx ?_⟩⟩
     rw [Nat.min_eq_left (by omega)]
     exact fun a b x y gK Js _ => hs a b x y gK Js (by omega)
   | succ j ihj =>
     intro σ' ys hq Yo Aa hx hs
     refine AN.Gq ⟨fun _ => ?_, fun F8 => by omega⟩
     obtain ⟨x, hxv⟩ := Aa.rd.ex (k := j + 1) (by omega)
     obtain ⟨y, hyv⟩ := Aa.rd.ex (k := j) (by omega)
     have APr := Aa.rd.1
     obtain ⟨b, o, hp, hl⟩ := Aa.rd.at hxv
     obtain ⟨b', o', hp', TK⟩ := Aa.rd.at hyv
     rw [hp] at hp'; cases hp'
     have e : ((j + 1 : Nat) : Int) - 1 = (j : Nat) := by omega
     have Sr : ¬ x < y → Asc ys (min (i + 1) n) (fun _ => True) := by
       intro hf
       have F8 : y ≤ x := by omega
       rw [Nat.min_eq_left (by omega)]
       intro a b' u v gK hbi _ hu hv
       by_cases PR : b' = j + 1
       · subst PR
         rw [hxv] at hv; cases hv
         by_cases ha : a = j
         · subst ha; rw [hyv] at hu; cases hu; exact F8
         · have := hs a j u y (by omega) (by omega) (by omega) hu hyv
           omega
       · exact hs a b' u v gK (by omega) PR hu hv
     refine ⟨b, o, hp, by omega, x, by simpa using hl, by unfold AO; omega, by omega, y, by rw [e]; simpa using TK, ga ⟨_, rfl, fun ht => ?swap, fun hf => ⟨Ah C9 hb, by rw [Mc hp]; exact ih (i + 1) σ' ys hq (by omega) (by omega) Aa hx (Sr (by simpa using hf))⟩⟩⟩
     case swap =>
       have Ag : x < y := by simpa using ht
       refine ⟨by unfold AO; omega, by unfold AO; omega, by omega, y, by rw [e]; simpa using TK, by omega, x, by simpa using hl, by omega, ?_⟩
       suffices H3 : ∀ σ2, AS .u32 σ2 p n c (ys.set (j + 1) y) → Ext (σ'.del p) (σ2.del p) → ((0 : Int) ≤ ((j + 1 : Nat) : Int) - 1 ∧ ((j + 1 : Nat) : Int) - 1 < ((n : Nat) : Int)) ∧ AJ prog (Instr.storeAt 70 (.pointer (some ⟨b, (o + Int.toNat (((j + 1 : Nat) : Int) - 1) * 1), none⟩)) (.int .u32 x)) σ2 (fun _ BE => AO (((j + 1 : Nat) : Int) - 1) ∧ AN.Gp R (some ⟨b, o, none⟩) n c 0 n i (((j + 1 : Nat) : Int) - 1) BE) by
         obtain ⟨b1, o1, hp1, mO⟩ := AS.ZJ Aa (P := prog) (T := 70) (i := j + 1) (v := y) (by omega) mN H3
         rw [hp] at hp1; cases hp1
         simpa [In] using mO
       intro σ2 Ox An
       refine ⟨by omega, ?_⟩
       suffices H4 : ∀ σ3, AS .u32 σ3 p n c ((ys.set (j + 1) y).set j x) → Ext (σ2.del p) (σ3.del p) → AO (((j + 1 : Nat) : Int) - 1) ∧ AN.Gp R (some ⟨b, o, none⟩) n c 0 n i (((j + 1 : Nat) : Int) - 1) σ3 by
         obtain ⟨b3, o3, od, AFd⟩ := AS.ZJ Ox (P := prog) (T := 70) (i := j) (v := x) (by omega) mN H4
         rw [hp] at od; cases od
         rw [e]; simpa [e] using AFd
       intro σ3 Tu DR
       have dummy : True := trivial
       · · refine ⟨by unfold AO; omega, ?_⟩
           rw [e, show (some (⟨b, o, none⟩ : Addr)) = p from hp.symm]
           have hq3 : ∀ z ∈ (ys.set (j + 1) y).set j x, Q z := fun z hz => by
             rcases List.mem_or_eq_of_mem_set hz with hz | rfl
             · rcases List.mem_or_eq_of_mem_set hz with hz | rfl
               · exact hq z hz
               · exact hq z (List.mem_of_getElem? hyv)
             · exact hq z (List.mem_of_getElem? hxv)
           refine ihj σ3 _ hq3 (by omega) Tu ((hx.trans An).trans DR) ?_
           intro a b' u v gK hbi Ad hu hv
           rw [List.getElem?_set, List.getElem?_set] at hu hv
           simp only [List.length_set] at hu hv
           have fact := fun a b u v h1 h2 h3 h4 h5 => hs a b u v h1 h2 h3 h4 h5
           by_cases PR : b' = j + 1
           · subst PR
             rw [if_neg (by omega), if_pos rfl, if_pos (by omega)] at hv
             cases hv
             by_cases ha : a = j
             · subst ha
               rw [if_pos rfl, if_pos (by omega)] at hu
               cases hu; omega
             · rw [if_neg (by omega), if_neg (by omega)] at hu
               exact fact a j u y (by omega) (by omega) (by omega) hu hyv
           · rw [if_neg (by omega), if_neg (by omega)] at hv
             by_cases ha : a = j
             · subst ha
               rw [if_pos rfl, if_pos (by omega)] at hu
               cases hu
               exact fact (a + 1) b' x v (by omega) (by omega) (by omega) hxv hv
             · rw [if_neg (by omega)] at hu
               by_cases ha1 : a = j + 1
               · subst ha1
                 rw [if_pos rfl, if_pos (by omega)] at hu
                 cases hu
                 exact fact j b' y v (by omega) (by omega) (by omega) hyv hv
               · rw [if_neg (by omega)] at hu
                 exact fact a b' u v gK (by omega) (by omega) hu hv
end TwW
end
section
namespace TwW
open Go Tw Go.Proofs.Tryz
theorem mP {R : Rr} {σ : Hp} {p : Option Addr} {n c : Nat} {xs : List Int} (hr : CA .u8 σ p n xs) (h : ∀ x, 0 ≤ x ∧ x < 4294967296 → R (.returned (.int .u32 x)) σ) : Spec prog 56 #[.slice p n c] σ R := by
 refine EC.start ?_
 suffices H : ∀ d k : Nat, ∀ x : Int, 0 ≤ x ∧ x < 4294967296 → n - k = d → k ≤ n → EC.A1 R x p n c n k σ from H n 0 _ (by decide) rfl (by omega)
 intro d
 induction d with
 | zero =>
   intro k x hx hd hk
   exact EC.AW ⟨fun Ag => by omega, fun _ => h x hx⟩
 | succ d ih =>
   intro k x hx hd hk
   refine EC.AW ⟨fun Ag => ?_, fun F8 => by omega⟩
   obtain ⟨y, hy⟩ := hr.ex (k := k) (by omega)
   obtain ⟨b, o, rfl, hl⟩ := hr.at hy
   exact ⟨b, o, rfl, by omega, y, by simpa using hl, fun _ _ _ _ FF rh => ⟨Ah (by omega) hr.big, ih (k + 1) FF (by rw [rh]; simp [IntKind.wrap, IntKind.bits, IntKind.signed]; omega) (by omega) (by omega)⟩⟩
end TwW
end
