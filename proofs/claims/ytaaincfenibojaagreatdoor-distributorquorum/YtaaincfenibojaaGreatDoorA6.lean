/-
  Part 6 of the proof that the law DistributorQuorumCardSaid of the given program answers true for every input of the given statement; the input reads behind the call as it did. (The texts: packed from 18 texts. Names are shortened by the packing program, for the bound on size.)
-/
import Derived.Test.YtaaincfenibojaaGreatDoorA5
import Derived.Laws.BytesArg
import Derived.ProofKit
import Derived.SizedLaws
import Derived.Deep.Slices
import Derived.Test.YtaaincfenibojaaGreatDoorCards
import Derived.Test.YtaaincfenibojaaGreatDoorTie
import Derived.WalkKit
import Derived.OpenShut
import Derived.Deep.DeepHandedRow
import Derived.Deep.DeepWitnessRowRef
import Derived.Lib.LaidTab
import Derived.Stop.LaidErr
set_option linter.all false
section
namespace TwW
open Go Tw Go.RowKit Go.Proofs.Tryz
section
variable {σ σ' τ : Hp} {R : Rr}
theorem RL {α : Type} [Inhabited α] {enc : α → Value} {F2 : Array α} {F : Nat → Prop} {w : World} {b o n : Nat} {arr : Array Value} {T : TypeId} {os : Array Obj} (hs : Sat σ w) (hF : ∀ b, F b → b < w.heap.size ∧ σ b = none) (hb : σ b = some (.cells arr T (0, 0))) :
   Fin (σ.set b (.cells (Sort.putCells enc o F2 arr) T (0, 0))) F w (Sort.grow (Sort.putRow enc (Sort.ahead w n) b o F2) os) := by
 have hw := hs _ _ hb
 have hblk : b < w.heap.size := (Array.getElem?_eq_some_iff.1 hw).1
 have DL : ∀ k, (Sort.grow (Sort.putRow enc (Sort.ahead w n) b o F2) os).heap[k]? = if k < w.heap.size then (if b = k then (w.heap[k]?).map (Sort.onCells (Sort.putCells enc o F2)) else w.heap[k]?) else os[k - w.heap.size]? := fun k => by
   simp only [Sort.grow, Sort.putRow, Sort.mapBlock, Sort.ahead, Array.getElem?_append, Array.size_modify, Array.getElem?_modify]
 refine ⟨fun k u hk => ?_, fun k hk => ?_, ⟨rfl, rfl, fun _ => ⟨n, rfl⟩⟩, rfl, by simp [Sort.grow, Sort.putRow, Sort.mapBlock, Sort.ahead]⟩
 · rw [DL k]
   by_cases C3 : k = b
   · subst C3
     rw [Hp.AA] at hk; cases hk
     rw [if_pos hblk, if_pos rfl, hw]; rfl
   · rw [Hp.AH C3] at hk
     have := hs k u hk
     rw [if_pos (Array.getElem?_eq_some_iff.1 this).1, if_neg (Ne.symm C3)]; exact this
 · have C3 : k ≠ b := fun e => by have := (hF k hk).2; rw [e, hb] at this; cases this
   refine ⟨by rw [Hp.AH C3]; exact (hF k hk).2, ?_⟩
   rw [DL k, if_pos (hF k hk).1, if_neg (Ne.symm C3)]
theorem AS.row {q : Option Addr} {m d : Nat} {xs : List Int} (ho : AS .i64 σ q m d xs) (Ml : m ≠ 0) {w : World} (hs : Sat σ w) :
   ∃ b o arr T, q = some ⟨b, o, none⟩ ∧ σ b = some (.cells arr T (0, 0)) ∧ m ≤ d ∧ o + d * 1 ≤ arr.size ∧ (∀ (j : Nat) (hj : j < xs.length), arr[o + j]? = some (.int .i64 xs[j])) ∧ Sort.Holds (Value.int .i64) w b o xs.toArray ∧ b < w.heap.size := by
 have hm : xs.length = m := ho.rd.1
 obtain ⟨b, o, arr, T, rfl, hb, cu, Oy, Hv⟩ : ∃ b o arr T, q = some ⟨b, o, none⟩ ∧ σ b = some (.cells arr T (0, 0)) ∧ m ≤ d ∧ o + d * 1 ≤ arr.size ∧ (arr.toList.drop o).take (m * 1) = xs.map (.int .i64) := by
   rcases ho.2.2 with ⟨_, h2, _⟩ | h
   · exact absurd h2 Ml
   · exact h
 have hw := hs _ _ hb
 have O8 : ∀ (j : Nat) (hj : j < xs.length), arr[o + j]? = some (.int .i64 xs[j]) := fun j hj => by
   have h1 : (xs.map (Value.int .i64))[j]? = some (.int .i64 xs[j]) := by simp [hj]
   rw [← Hv, List.getElem?_take, if_pos (by omega), List.getElem?_drop, Array.getElem?_toList] at h1
   exact h1
 refine ⟨b, o, arr, T, rfl, hb, cu, Oy, O8, fun j hj => ?_, (Array.getElem?_eq_some_iff.1 hw).1⟩
 have T7 : j < xs.length := by simpa using hj
 refine ⟨?_, by simp [World.frozen?, hw]⟩
 have e1 : xs.toArray[j]! = xs[j] := by simp [T7]
 simp only [World.cell?, hw, e1]
 simpa using O8 j T7
def GZ (xs : List Int) : List Int := xs.mergeSort fun x y => decide (x ≤ y)
theorem HX (xs : List Int) : (GZ xs).length = xs.length := by simp [GZ]
theorem YD (xs : List Int) : (GZ xs).Pairwise (· ≤ ·) := by
 have := List.pairwise_mergeSort (le := fun x y : Int => decide (x ≤ y)) (fun a b c h1 h2 => by simp at *; omega) (fun a b => by simp; omega) xs
 exact this.imp fun h => by simpa using h
theorem av {q : Option Addr} {m d : Nat} {xs : List Int} (ho : AS .i64 σ q m d xs) (EU : m < 4611686018427387904)
   (h : ∀ σ', AS .i64 σ' q m d (GZ xs) → Ext (σ.del q) (σ'.del q) → R (.returned (.tuple #[])) σ') : Spec prog 48 #[.slice q m d] σ R := by
 intro w F hs hF
 have hm : xs.length = m := ho.rd.1
 by_cases Ml : m = 0
 · subst Ml
   have hx : xs = [] := List.eq_nil_of_length_eq_zero hm
   subst hx
   refine (Go.Proofs.Tryz.slices_Sort_int_none q d w).mono ?_
   rintro e w' ⟨rfl, rfl⟩
   exact ⟨σ, h σ (by simpa [GZ] using ho) (Ext.refl _), hs, fun b hb => ⟨(hF b hb).2, rfl⟩, .same rfl rfl rfl, rfl, Nat.le_refl _⟩
 · obtain ⟨b, o, arr, T, rfl, hb, cu, Oy, O8, hH, hblk⟩ := AS.row ho Ml hs
   have Hj := Go.Proofs.Tryz.slices_Sort_int b o d xs w hH hblk (by omega)
   rw [hm] at Hj
   refine Hj.mono ?_
   rintro e w' ⟨rfl, n, os, rfl⟩
   refine ⟨_, h _ ⟨by simp [HX, hm], by omega, .inr ⟨b, o, _, T, rfl, Hp.AA _ _ _, cu, by simpa [Sort.putCells] using Oy, ?_⟩⟩ (by rw [Hp.Bg]; exact Ext.refl _), RL (F2 := (GZ xs).toArray) hs hF hb⟩
   have hF2 : (GZ xs).toArray.size = m := by simp [HX, hm]
   refine List.ext_getElem? fun j => ?_
   rw [List.getElem?_take]
   by_cases hj : j < m * 1
   · have UA : j < (GZ xs).length := by rw [HX]; omega
     rw [if_pos hj, List.getElem?_drop, Array.getElem?_toList, E0, if_pos (by omega), O8 j (by omega)]
     simp [UA]
   · rw [if_neg hj, List.getElem?_eq_none (by simp [HX]; omega)]
theorem RM {zs : List Int} (hz : zs.Pairwise (· ≤ ·)) : ∀ m, m ≤ zs.length → (Lib.compactUpTo zs.toArray m).Pairwise (· < ·) ∧ ∀ x, x ∈ Lib.compactUpTo zs.toArray m ↔ x ∈ zs.take m
 | 0, _ => by simp [Lib.compactUpTo]
 | m + 1, hm => by
   obtain ⟨h1, h2⟩ := RM hz m (by omega)
   have Ag : m < zs.length := by omega
   have em : zs.toArray[m]! = zs[m] := by simp [Ag]
   have Cf : ∀ x, x ∈ zs.take (m + 1) ↔ x ∈ zs.take m ∨ x = zs[m] := fun x => Fa (List.getElem?_eq_getElem Ag)
   rw [Lib.compactUpTo_succ]
   by_cases hk : Lib.keeps zs.toArray m = true
   · rw [if_pos hk, em]
     refine ⟨List.pairwise_append.2 ⟨h1, by simp, fun a ha b hb => ?_⟩, fun x => by rw [Cf, List.mem_append, h2]; simp⟩
     simp only [List.mem_singleton] at hb
     subst hb
     obtain ⟨i, hi, rfl⟩ := List.mem_iff_getElem.1 ((h2 a).1 ha)
     rw [List.length_take] at hi
     rw [List.getElem_take]
     have JQ : i < m := by omega
     have hle : zs[m - 1]'(by omega) ≤ zs[m] := List.pairwise_iff_getElem.1 hz (m - 1) m (by omega) Ag (by omega)
     have Ad : zs[m] ≠ zs[m - 1]'(by omega) := by
       have e1 : zs.toArray[m - 1]! = zs[m - 1]'(by omega) := by simp [show m - 1 < zs.length by omega]
       unfold Lib.keeps at hk
       rw [em, e1] at hk
       simp only [decide_eq_true_eq] at hk
       rcases hk with hk | hk
       · omega
       · exact hk
     have AFS : zs[i]'(by omega) ≤ zs[m - 1]'(by omega) := by
       by_cases hh : i = m - 1
       · subst hh; exact Int.le_refl _
       · exact List.pairwise_iff_getElem.1 hz i (m - 1) (by omega) (by omega) (by omega)
     omega
   · rw [if_neg hk, List.append_nil]
     refine ⟨h1, fun x => ?_⟩
     rw [Cf, h2]
     refine ⟨.inl, fun h => h.elim id fun he => ?_⟩
     unfold Lib.keeps at hk
     rw [em] at hk
     simp only [decide_eq_true_eq, not_or, Decidable.not_not] at hk
     have e1 : zs.toArray[m - 1]! = zs[m - 1]'(by omega) := by simp [show m - 1 < zs.length by omega]
     rw [e1] at hk
     rw [he, hk.2]
     exact List.mem_iff_getElem.2 ⟨m - 1, by rw [List.length_take]; omega, by rw [List.getElem_take]⟩
theorem SM {q : Option Addr} {m d : Nat} {xs : List Int} (ho : AS .i64 σ q m d xs) (hz : xs.Pairwise (· ≤ ·)) (EU : m < 4611686018427387904)
   (h : ∀ σ' k ys, AS .i64 σ' q k d ys → Ext (σ.del q) (σ'.del q) → EN ys → (∀ x, x ∈ ys ↔ x ∈ xs) → R (.returned (.slice q k d)) σ') : Spec prog 49 #[.slice q m d] σ R := by
 intro w F hs hF
 have hm : xs.length = m := ho.rd.1
 by_cases Ml : m = 0
 · subst Ml
   have hx : xs = [] := List.eq_nil_of_length_eq_zero hm
   subst hx
   refine (Go.Proofs.Tryz.slices_Compact_int_empty q d w).mono ?_
   rintro e w' ⟨rfl, rfl⟩
   exact ⟨σ, h σ 0 [] ho (Ext.refl _) List.Pairwise.nil (fun _ => Iff.rfl), hs, fun b hb => ⟨(hF b hb).2, rfl⟩, .same rfl rfl rfl, rfl, Nat.le_refl _⟩
 · obtain ⟨b, o, arr, T, rfl, hb, cu, Oy, O8, hH, hblk⟩ := AS.row ho Ml hs
   obtain ⟨h1, h2⟩ := RM hz xs.length (Nat.le_refl _)
   have Hj := Go.Proofs.Tryz.slices_Compact_int b o d xs w hH (by omega) (by omega)
   rw [hm] at Hj
   refine Hj.mono ?_
   rintro e w' ⟨rfl, n, rfl⟩
   have hle : (Lib.compact xs).length ≤ m := by
     rw [← hm]
     unfold Lib.compact Lib.compactUpTo
     rw [List.length_map]
     have := List.length_filter_le (Lib.keeps xs.toArray) (List.range xs.length)
     simpa using this
   have hF2 : (Lib.compact xs ++ List.replicate (m - (Lib.compact xs).length) 0).toArray.size = m := by simp; omega
   have JX := RL (enc := Value.int .i64) (F2 := (Lib.compact xs ++ List.replicate (m - (Lib.compact xs).length) 0).toArray) (o := o) (n := n) (os := #[]) hs hF hb
   rw [Sort.grow_empty] at JX
   refine ⟨_, h _ _ (Lib.compact xs) ⟨by simp, by omega, .inr ⟨b, o, _, T, rfl, Hp.AA _ _ _, by omega, by simpa [Sort.putCells] using Oy, ?_⟩⟩ (by rw [Hp.Bg]; exact Ext.refl _) h1 (fun x => by have := h2 x; rw [List.take_length] at this; exact this), JX⟩
   refine List.ext_getElem? fun j => ?_
   rw [List.getElem?_take]
   by_cases hj : j < (Lib.compact xs).length * 1
   · have UA : j < (Lib.compact xs).length := by omega
     rw [if_pos hj, List.getElem?_drop, Array.getElem?_toList, E0, if_pos (by omega), O8 j (by omega)]
     have e1 : o + j - o = j := by omega
     rw [e1, getElem!_pos _ j (by omega)]
     simp [UA]
   · rw [if_neg hj, List.getElem?_eq_none (by simp; omega)]
variable {pb : Nat} {E Q : Int} {ps : List Part} {ms : List Nat} {fs : List Ci}
theorem Ot (h : ∀ x ∈ ps, x.rs.length ≤ 5) : (ps.flatMap (·.rs)).length ≤ ps.length * 5 := by
 induction ps with
 | nil => simp
 | cons x l ih =>
   have := ih fun y hy => h y (List.mem_cons_of_mem _ hy)
   have := h x (by simp)
   rw [List.flatMap_cons, List.length_append, List.length_cons]
   omega
theorem L5 (h : L1 σ pb E Q ps ms) (hR : ∀ p n c σ' L, AS .i64 (σ.new σ') p n c L → Ext σ σ' → EN L → (∀ x, x ∈ L ↔ ∃ y ∈ ps, x ∈ y.rs) → R (.returned (.slice p n c)) σ') :
   Spec prog 14 #[.pointer (some ⟨pb, 0, none⟩)] σ R := by
 obtain ⟨p, n, c, hc, hr⟩ := h.cell
 have hn : ps.length = n := by have := hr.1; rw [List.length_zip, ← h.len, Nat.min_self] at this; exact this
 have hfew := h.uc
 refine BU.start ⟨pb, 0, rfl, p, n, c, AD hc rfl, ?_⟩
 suffices H : ∀ d i : Nat, ∀ p6 n6 c6 σ6, n - i = d → i ≤ n → AS .i64 (σ.new σ6) p6 n6 c6 ((ps.take i).flatMap (·.rs)) → Ext σ σ6 → BU.A5 R p6 n6 c6 p n c n i σ6 from H n 0 none 0 0 σ rfl (Nat.zero_le _) Own.nil (.refl σ)
 intro d
 induction d with
 | zero =>
   intro i p6 n6 c6 σ6 hd hi ho hx
   rw [List.take_of_length_le (by omega)] at ho
   have hq := ho.Dh
   have uf : (ps.flatMap (·.rs)).length = n6 := ho.rd.1
   have := Ot h.rep
   refine BU.AW ⟨fun Ag => by omega, fun _ => av (Own.mono (Ext.Ah _ _) ho) (by omega) fun σ7 ho7 Jg => ⟨rfl, ?_⟩⟩
   refine SM ho7 (YD _) (by omega) fun σ8 k ys au Rp XF Cf => ⟨_, _, _, rfl, hR _ _ _ σ8 ys (Own.CO au hq) (Ext.lg hx hq (Jg.trans Rp)) XF fun x => ?_⟩
   rw [Cf, GZ, List.mem_mergeSort, List.mem_flatMap]
 | succ d ih =>
   intro i p6 n6 c6 σ6 hd hi ho hx
   have JQ : i < n := by omega
   obtain ⟨x, lx⟩ := hr.ex JQ
   obtain ⟨ly, Qd⟩ := List.getElem?_zip_eq_some.1 lx
   obtain ⟨b, o, p1, n1, c1, q, m, d1, rfl, hl, h1, h2⟩ := Dn.at hr lx
   have SF : x.1.rs.length = m := h2.1
   have uf : ((ps.take i).flatMap (·.rs)).length = n6 := ho.rd.1
   have hb6 := Ot (ps := ps.take i) fun y hy => h.rep y (List.mem_of_mem_take hy)
   have PA := h.rep x.1 (List.mem_of_getElem? ly)
   rw [List.length_take] at hb6
   refine BU.AW ⟨fun _ => ⟨b, o, rfl, by omega, p1, n1, c1, x.1.s.t, x.1.s.v, q, m, d1, x.2, by simpa using hl.mono hx, fun _ => ?_⟩, fun hh => by omega⟩
   refine Dq hx ho ((GM.of_map h2).mono hx) CN.Cn (by omega) fun p' c' σ' Em Cm hdl => ⟨_, _, _, rfl, Af JQ hr.big, ih (i + 1) _ _ _ _ (by omega) (by omega) ?_ Cm⟩
   rw [AQ ly, List.flatMap_append]
   simpa [AS] using Em
abbrev rV (σ : Hp) (p : Option Addr) (n c : Nat) (bs : List Bool) : Prop := Own 1 σ p n c (bs.map .bool)
def D1 (Q : Int) (f : Ci) : Bool := decide (Q ≤ (VF f : Int))
def M3 (bs : List Bool) : Int := if bs.all id then 1 else if bs.any id then 6 else 5
theorem dV : ∀ {f : Ci} {bs : List Nat}, bs.length = f.length → ((List.zipWith I9 f bs).filter fun e => match e.val with | .int _ y => C2 y | _ => false).length = VF f
 | [], _, _ => by simp [VF]
 | a :: f, [], h => by simp at h
 | a :: f, b :: bs, h => by
   have ih := dV (f := f) (bs := bs) (by simpa using h)
   simp only [VF, List.zipWith_cons_cons, List.filter_cons] at ih ⊢
   have : (match (I9 a b).val with | .int _ y => C2 y | _ => false) = C2 a.2 := rfl
   rw [this]
   by_cases hk : C2 a.2 = true
   · rw [if_pos hk, if_pos hk, List.length_cons, List.length_cons, ih]
   · rw [if_neg hk, if_neg hk, ih]
def dW (e : MapEntry) : Bool := match e.val with | .int _ y => C2 y | _ => false
theorem RN (h : Be σ pb E Q ps ms fs τ) (hf : ∀ f ∈ fs, f.length ≤ 1000000) (hR : ∀ p n c σ', rV (σ.new σ') p n c (fs.map (D1 Q)) → Ext σ σ' → R (.returned (.tuple #[.int .i64 (M3 (fs.map (D1 Q))), .slice p n c])) σ') :
   Spec prog 17 #[.pointer (some ⟨pb, 0, none⟩)] σ R := by
 obtain ⟨p, n, c, hc, hr⟩ := h.at.cell
 have hn : ps.length = n := by have := hr.1; rw [List.length_zip, ← h.at.len, Nat.min_self] at this; exact this
 have ui : ms.length = fs.length := h.len
 have hpm := h.at.len
 have hfew := h.at.uc
 refine Aq.start ⟨pb, 0, rfl, p, n, c, AD hc rfl, ?_⟩
 suffices H : ∀ d i : Nat, ∀ p6 n6 c6 σ6, n - i = d → i ≤ n → rV (σ.new σ6) p6 n6 c6 ((fs.take i).map (D1 Q)) → Ext σ σ6 → Aq.Gk R (aD pb 0) p6 n6 c6 (((fs.take i).map (D1 Q)).all id) (((fs.take i).map (D1 Q)).any id) p n c n i σ6 from H n 0 none 0 0 σ rfl (Nat.zero_le _) Own.nil (.refl σ)
 intro d
 induction d with
 | zero =>
   intro i p6 n6 c6 σ6 hd hi ho hx
   rw [List.take_of_length_le (by omega)] at ho ⊢
   have := hR p6 n6 c6 σ6 ho hx
   unfold M3 at this
   refine Aq.Fc ⟨fun Ag => by omega, fun _ => ⟨fun h1 => ?_, fun h1 => ⟨fun h2 => ?_, fun h2 => ?_⟩⟩⟩
   · rw [if_pos h1] at this; exact this
   · rw [if_neg (by simp [h1]), if_pos h2] at this; exact this
   · rw [if_neg (by simp [h1]), if_neg (by simp [h2])] at this; exact this
 | succ d ih =>
   intro i p6 n6 c6 σ6 hd hi ho hx
   have JQ : i < n := by omega
   obtain ⟨x, lx⟩ := hr.ex JQ
   obtain ⟨ly, Qd⟩ := List.getElem?_zip_eq_some.1 lx
   obtain ⟨b, o, p1, n1, c1, q, m, d1, rfl, hl, h1, h2⟩ := Dn.at hr lx
   obtain ⟨f, iK⟩ : ∃ f, fs[i]? = some f := ⟨_, List.getElem?_eq_getElem (by omega)⟩
   have XG := hf f (List.mem_of_getElem? iK)
   obtain ⟨bs, clock, e7, Ml⟩ := h.X6 i x.2 f Qd iK
   have nr := Ml.mono hx
   refine Aq.Fc ⟨fun _ => ⟨b, o, rfl, by omega, p1, n1, c1, x.1.s.t, x.1.s.v, q, m, d1, x.2, by simpa using hl.mono hx, fun _ => ?_⟩, fun hh => by omega⟩
   refine ye.H0 nr fun ib io hib O7 => ⟨_, rfl, ?_⟩
   have leaf : ∀ (σ7 : Hp) (J6 x9 : Int) (t5 t6 : Bool), decide (J6 ≤ x9) = D1 Q f → t5 = ((fs.take (i + 1)).map (D1 Q)).all id → t6 = ((fs.take (i + 1)).map (D1 Q)).any id → Ext σ6 σ7 → Al σ7 fun NC => AJ prog (Builtin.append_ #[51, 51] 51 #[.slice p6 n6 c6, (.slice (aD NC 0) 1 1)]) (Hp.set σ7 NC (.cells #[(.bool (decide (J6 ≤ x9)))] 4 (0, 0))) (CS fun eY n50 eZ AI => AN ((i : Int) + 1) ∧ Aq.Gk R (aD pb 0) eY n50 eZ t5 t6 (aD b o) n c n ((i : Int) + 1) AI) := by
     intro σ7 J6 x9 t5 t6 hk h5 h6 Jg NC y6
     rw [hk]
     have uf : n6 = i := by have := Own.rd ho |>.1; simp at this; omega
     refine Im (ys := [.bool (D1 Q f)]) (hx.trans Jg) (Own.mono (Ext.BH Jg) ho) rfl (fun u hu => by simp at hu; subst hu; rfl) (by omega) (fun p' c' σ' Dd DJ uC => ⟨p', _, c', rfl, Af JQ hr.big, ?_⟩) y6
     rw [h5, h6]
     refine ih (i + 1) _ _ _ _ (by omega) (by omega) ?_ DJ
     rw [AQ iK, List.map_append, rV, List.map_append]
     exact Dd
   have Y6 : ∀ (σ7 : Hp) (ob : Obj), Ext σ6 σ7 → Ext σ6 (σ7.set ib ob) := fun σ7 ob h7 k u hk => by rw [Hp.AH fun e => by rw [e, hib] at hk; cases hk]; exact h7 k u hk
   have AFU : ∀ g : Bool, (((fs.take (i + 1)).map (D1 Q)).all id = ((((fs.take i).map (D1 Q)).all id) && D1 Q f)) ∧ (((fs.take (i + 1)).map (D1 Q)).any id = ((((fs.take i).map (D1 Q)).any id) || D1 Q f)) := fun _ => by
     rw [AQ iK]; simp
   suffices H2 : ∀ N : Nat, ∀ (L : List MapEntry) (σ7 : Hp) (k : Nat), L.length = N → Cq σ7 ib x.2 (List.zipWith I9 f bs) L clock → Ext σ6 σ7 → L.Sublist (List.zipWith I9 f bs) → k + (L.filter dW).length = VF f →
       Aq.QV R (aD pb 0) p6 n6 c6 (((fs.take i).map (D1 Q)).all id) (((fs.take i).map (D1 Q)).any id) k (aD b o) n c n i (.pointer (some ⟨ib, 0, none⟩)) σ7 from
     H2 _ _ _ 0 rfl O7 (.set hib) (List.Sublist.refl _) (by rw [Nat.zero_add]; exact dV e7)
   intro N
   induction N using Nat.strongRecOn with
   | ind N ihN =>
   intro L σ7 k hL O7 Jg Jc hk
   have hm7 := nr.mono Jg
   refine Aq.Pb (ye.Jw hm7 O7 (fun h0 => .inl ⟨rfl, ?_⟩) fun e Jr Uo ob Z8 Z6 => .inr ?_)
   · subst h0
     have hck : k = VF f := by simpa using hk
     refine ⟨pb, 0, rfl, Q, AD (o := 1) (Jg _ _ (hx _ _ hc)) rfl, ?_⟩
     have hd : decide (Q ≤ (k : Int)) = D1 Q f := by rw [hck]; rfl
     obtain ⟨e1, e2⟩ := AFU true
     refine ⟨fun h5 => ⟨fun h6 => leaf σ7 _ _ _ _ hd ?_ ?_ Jg, fun h6 => leaf σ7 _ _ _ _ hd ?_ ?_ Jg⟩, fun h5 => ⟨fun h6 => leaf σ7 _ _ _ _ hd ?_ ?_ Jg, fun h6 => leaf σ7 _ _ _ _ hd ?_ ?_ Jg⟩⟩
     all_goals first | rw [e1, h5, ← hd] | rw [e2, h6, ← hd]
     all_goals simp
   · obtain ⟨l1, l2, ASt⟩ := List.append_of_mem Uo
     obtain ⟨fa, gR, y, hfy⟩ : ∃ (j : Nat) (a : Int × Int) (bn : Nat), e = I9 a bn := by
       obtain ⟨j, hj⟩ := List.mem_iff_getElem?.1 Uo
       rw [List.getElem?_zipWith] at hj
       split at hj
       · cases hj; exact ⟨j, _, _, rfl⟩
       · cases hj
     subst hfy
     have Ad : x.2 ≠ ib := fun e => by rw [← e, nr.1] at hib; cases hib
     have XR : (L.map (·.born)).Nodup := Ml.Vm.sublist (Jc.map _)
     have qW := (Kg XR Jr).filter dW
     have uZ := qW.length_eq
     refine ⟨gR.1, gR.2, rfl, Z6 _ (Hp.AA _ _ _) (Hp.AH Ad) ⟨gR.1, gR.2, rfl, RI ⟨_, rfl, fun ht => ?_, fun ht => ?_⟩⟩⟩
     · have Ag := KW Jr
       have hke : dW (I9 gR y) = true := ht
       rw [List.filter_cons, if_pos hke, List.length_cons] at uZ
       have jL : VF f ≤ f.length := List.length_filter_le _ _
       have := ihN _ (by omega) (L.filter fun z => z.born != (I9 gR y).born) (σ7.set ib ob) (k + 1) rfl (Z8 _ (Hp.AA _ _ _)) (Y6 _ _ Jg) (List.filter_sublist.trans Jc) (by omega)
       exact ⟨by unfold AN; omega, this⟩
     · have Ag := KW Jr
       have hke : dW (I9 gR y) = false := ht
       rw [List.filter_cons, if_neg (by simp [hke])] at uZ
       exact ihN _ (by omega) (L.filter fun z => z.born != (I9 gR y).born) (σ7.set ib ob) k rfl (Z8 _ (Hp.AA _ _ _)) (Y6 _ _ Jg) (List.filter_sublist.trans Jc) (by omega)
end
end TwW
end
section
namespace TwW
open Go Tw Go.Proofs.Tryz
theorem ALr : Enters prog 125 := fun args w => Go.Proofs.Tryz.call125 args w
def mE (c5 Hf k m d : Nat) (q : Option Addr) (ms : List Mem) (X : Hp) : Prop :=
 X c5 = some (.cells #[.slice q m d] 213 (0, 0)) ∧ X Hf = some (.cells #[.int .i64 k] 3 (0, 0)) ∧ Fj 2 KO X q m (sorted (Bd ms))
theorem mE.mono {c5 Hf k m d : Nat} {q : Option Addr} {ms : List Mem} {X Y : Hp} (h : Ext X Y) (g : mE c5 Hf k m d q ms X) : mE c5 Hf k m d q ms Y :=
 ⟨h _ _ g.1, h _ _ g.2.1, g.2.2.mono KO.mono h⟩
theorem dX {B : Hp} {b5 b6 b7 b8 D l : Nat} {rf o7 : Int} {o6 : Value} {q : Option Addr} {n d : Nat} {lo : Loop} (hn : Nd b5 b6 b7 b8 D l) (Ep : X4 b5 b6 b7 b8 D l B) :
   Hp.ld ((AX B (NH b5 b6 b7 b8 D l rf o6 o7 q n d lo)).set D (.deferred none)) ⟨b6, 0, none⟩ = some o6 ∧ Hp.ld ((AX B (NH b5 b6 b7 b8 D l rf o6 o7 q n d lo)).set D (.deferred none)) ⟨b7, 0, none⟩ = some (.int .i64 o7) ∧
     Ext B ((AX B (NH b5 b6 b7 b8 D l rf o6 o7 q n d lo)).set D (.deferred none)) := by
 have key : (AX B (NH b5 b6 b7 b8 D l rf o6 o7 q n d lo)).set D (.deferred none) = AX B ((NH b5 b6 b7 b8 D l rf o6 o7 q n d lo).set 1 (D, .deferred none)) := Pv (L := NH b5 b6 b7 b8 D l rf o6 o7 q n d lo) (i := 1) hn rfl
 rw [key]
 exact ⟨Hq (i := 4) hn rfl rfl, Hq (i := 3) hn rfl rfl, HL.ext (L := (NH b5 b6 b7 b8 D l rf o6 o7 q n d lo).set 1 (D, .deferred none)) hn Ep⟩
theorem rW {ids : List Int} {j : Nat} {x : Int} (hx : ids[j]? = some x) : dd [] (ids.take (j + 1)) = if x ∈ dd [] (ids.take j) then dd [] (ids.take j) else dd [] (ids.take j) ++ [x] := by
 rw [AQ hx, aY]; rfl
structure ALs (ms : List Mem) (hash rf : Int) (σ : Hp) (Φ : Option Addr → Nat → Nat → Int → Hp → Prop) : Prop where
 bad : ¬ (LA ms ∧ 1 ≤ rf ∧ rf ≤ 5) → Φ none 0 0 130 σ
 uc : LA ms → 1 ≤ rf → rf ≤ 5 → ((B8 ms).length : Int) < rf → Φ none 0 0 133 σ
 ok : LA ms → 1 ≤ rf → rf ≤ 5 → ∀ k : Nat, rf = k → k ≤ (B8 ms).length → ∀ q d σ', AS .i64 (σ.new σ') q k d ((round ms hash).take k) → Ext σ σ' → Φ q k d 0 σ'
theorem SN {R : Rr} {σ : Hp} {e hash rf : Int} {p : Option Addr} {n c : Nat} {ms : List Mem} (hr : PI σ p n ms) (hs : Small ms)
   (h : ALs ms hash rf σ fun q k d code σ' => R (.returned (.tuple #[.slice q k d, .int .i64 code])) σ') : Spec prog 23 #[F3 e p n c, .int .u32 hash, .int .i64 rf] σ R := by
 refine Spec.drop (DS.start fun b5 XJ b6 hb6 b7 hb7 => ?_)
 obtain ⟨n65, ALt⟩ := Hp.AM hb6
 obtain ⟨n76, ALu⟩ := Hp.AM hb7
 obtain ⟨n75, AFV⟩ := Hp.AM ALu
 let L3 : Int → List (Nat × Obj) := fun o7 => [(b7, .cells #[.int .i64 o7] 67 (0, 0)), (b6, .cells #[.slice none 0 0] 26 (0, 0)), (b5, .cells #[.int .i64 rf] 3 (0, 0))]
 have uj : ∀ o7, (names (L3 o7)).Nodup := fun o7 => by simp [L3, names]; omega
 have Dd : ∀ o7, HL (L3 o7) σ := fun o7 b hb => by
   simp [L3, names] at hb
   rcases hb with rfl | rfl | rfl
   · exact AFV
   · exact ALt
   · exact XJ
 have DJ : ∀ o7, Ext σ (AX σ (L3 o7)) := fun o7 => HL.ext (uj o7) (Dd o7)
 have KH : ¬ (LA ms ∧ 1 ≤ rf ∧ rf ≤ 5) → AJ prog (Instr.storeAt 26 (.pointer (some ⟨b6, 0, none⟩)) (.slice none 0 0)) (AX σ (L3 0)) (fun _ Az => AJ prog (Instr.storeAt 67 (.pointer (some ⟨b7, 0, none⟩)) (.int .i64 130)) Az (fun _ A0 => ∃ Rf : Option Addr, ∃ Rg : Nat, ∃ Rh : Nat, ∃ Ri : Int, Hp.ld A0 ⟨b6, 0, none⟩ = some (.slice Rf Rg Rh) ∧ Hp.ld A0 ⟨b7, 0, none⟩ = some (.int .i64 Ri) ∧ Drop R (.returned (.tuple #[(.slice Rf Rg Rh), (.int .i64 Ri)])) A0)) := fun hb => by
   refine AJ.Bz (i := 1) (c := #[.slice none 0 0]) Pg (uj 0) rfl rfl rfl rfl rfl ?_
   refine AJ.Bz (i := 0) (c := #[.int .i64 0]) af (uj 0) rfl rfl rfl rfl rfl ?_
   exact ⟨none, 0, 0, 130, Hq (L := L3 130) (i := 1) (uj 130) rfl rfl, Hq (L := L3 130) (i := 0) (uj 130) rfl rfl, .mk (DJ 130) (h.bad hb)⟩
 show Spec prog 54 #[F3 e p n c] (AX σ (L3 0)) _
 refine Lz (hr.Q4 (DJ 0)) hs ⟨_, rfl, fun Ad => KH fun hb => Ad (by simp [PE, hb.1]), fun heq => ⟨rf, Hq (i := 2) (uj 0) rfl rfl, fun h1 => KH fun hb => by omega, fun h1 => ⟨rf, Hq (i := 2) (uj 0) rfl rfl, fun h2 => KH fun hb => by omega, fun h2 b8 hb8 => ?_⟩⟩⟩
 have Ap : LA ms := Decidable.byContradiction fun hn => heq (by simp [PE, hn])
 have hlen := Ap.len
 obtain ⟨k0, rfl⟩ : ∃ k : Nat, rf = k := ⟨rf.toNat, by omega⟩
 obtain ⟨n8, ALv⟩ := Bu hb8
 let L4 : List (Nat × Obj) := (b8, .cells #[.slice none 0 0] 26 (0, 0)) :: L3 0
 have Yx : (names L4).Nodup := List.nodup_cons.2 ⟨n8, uj 0⟩
 have Pc : HL L4 σ := fun b hb => by
   rcases List.mem_cons.1 hb with rfl | hb
   · exact ALv
   · exact Dd 0 b hb
 show Spec prog 55 #[F3 e p n c, .int .u32 hash] (AX σ L4) _
 refine Spec.B9 Yx Pc (X2 hr Ap fun c5v Hf cq m cd τ k hc5 y7 iP fG HF hk Rt hhi Ep => ⟨_, rfl, 125, _, rfl, ALr, fun D l r0 hDl hD hl hy => ?_⟩)
 generalize hB0 : (c5 τ c5v cq m cd).set Hf (.cells #[.int .i64 k] 3 (0, 0)) = B0 at *
 obtain ⟨nD, hDB⟩ := Bu hD
 obtain ⟨nl, hlB⟩ := Bu hl
 have mF : Nd b5 b6 b7 b8 D l := by
   simp only [L4, L3, names, List.map_cons, List.map_nil, List.mem_cons, List.not_mem_nil, or_false, not_or] at nD nl n8
   unfold Nd
   simp only [List.nodup_cons, List.mem_cons, List.not_mem_nil, or_false, not_or, List.nodup_nil, not_false_eq_true, and_true]
   omega
 have AFW : X4 b5 b6 b7 b8 D l B0 := fun b hb => by
   simp only [List.mem_cons, List.not_mem_nil, or_false] at hb
   rcases hb with rfl | rfl | rfl | rfl | rfl | rfl
   · exact hlB
   · exact hDB
   · exact Ep b (by simp [L4, L3, names])
   · exact Ep b (by simp [L4, L3, names])
   · exact Ep b (by simp [L4, L3, names])
   · exact Ep b (by simp [L4, L3, names])
 have ALw : Ext σ B0 := by
   rw [← hB0]
   exact fG.trans ((Ext.set hc5).trans (.set (Hp.BC iP.symm y7)))
 have y8 : mE c5v Hf k m cd cq ms (σ.new B0) := by
   have hs5 : σ c5v = none := Aw fG hc5
   have ALx : σ Hf = none := Aw fG y7
   refine ⟨AO.2 ⟨hs5, ?_⟩, AO.2 ⟨ALx, ?_⟩, HF.mono KO.mono (Ext.BH ?_)⟩
   · rw [← hB0, Hp.AH iP]; exact Hp.AA _ _ _
   · rw [← hB0]; exact Hp.AA _ _ _
   · rw [← hB0]; exact (Ext.set hc5).trans (.set (Hp.BC iP.symm y7))
 have hm : (sorted (Bd ms)).length = m := HF.1
 have y9 : m ≤ 1024 := by
   have h1 := Kn ms 64 (fun x hx => (Ap.1 x hx).2.2.2.2.2.1)
   rw [Dm] at hm; omega
 have cw := Th (hash := hash) Ap
 let YE := (SL ms hash).map Prod.snd
 have ASx : YE.length = m := by simp [YE, lu, ← hm, Dm]
 have VJ : ∀ {B : Hp} (o6 : Value) (o7 : Int) (q : Option Addr) (n d : Nat) (lo : Loop), X4 b5 b6 b7 b8 D l B → Ext B (AX B (NH b5 b6 b7 b8 D l k0 o6 o7 q n d lo)) := fun o6 o7 q n d lo ho => HL.ext (L := NH b5 b6 b7 b8 D l k0 o6 o7 q n d lo) mF ho
 rw [show (#[.func (.yield l) #[] #[]] ++ #[.pointer (some ⟨c5v, 0, none⟩), .pointer (some ⟨Hf, 0, none⟩)] : Array Value) = #[.func (.yield l) #[] #[], .pointer (some ⟨c5v, 0, none⟩), .pointer (some ⟨Hf, 0, none⟩)] from rfl]
 show Spec prog 125 _ (AX B0 (NH b5 b6 b7 b8 D l k0 (.slice none 0 0) 0 none 0 0 (lp r0 .ready none))) _
 refine VE (hash := hash) (q := cq) (d := cd) (ms := ms) (I := fun j σ' => ∃ B qo no d out, σ' = AX B (NH b5 b6 b7 b8 D l k0 (.slice none 0 0) 0 qo no d (lp r0 .ready none)) ∧ X4 b5 b6 b7 b8 D l B ∧ Ext σ B ∧ AS .i64 (σ.new B) qo no d out ∧ out = dd [] (YE.take j) ∧ no < k0 ∧ mE c5v Hf k m cd cq ms ((σ.new B).del qo))
   (S := fun σ' => ∃ B qo d, σ' = AX B (NH b5 b6 b7 b8 D l k0 (.slice qo k0 d) 0 qo k0 d (lp r0 .done (some .ret))) ∧ X4 b5 b6 b7 b8 D l B ∧ Ext σ B ∧ AS .i64 (σ.new B) qo k0 d ((round ms hash).take k0) ∧ k0 ≤ (round ms hash).length) hm y9 hk Rt hhi ?_ ?_ ?_ ?_ ?_
 · rintro j _ ⟨B, qo, no, d, out, rfl, zA, hxB, ho, FB, BQ, hC⟩
   have hC := hC.mono (((Ext.F9 (σ.new B) qo).trans (Ext.Ah σ B)).trans (VJ (.slice none 0 0) 0 qo no d (lp r0 .ready none) zA))
   exact ⟨by simp [Hp.ld, hC.1], by simp [Hp.ld, hC.2.1], hC.2.2⟩
 · rintro j _ s ⟨B, qo, no, d, out, rfl, zA, hxB, ho, FB, BQ, hC⟩ hs
   have ALy : YE[j]? = some s.2 := by simp [YE, hs]
   have OA := rW ALy
   have hol : out.length = no := ho.rd.1
   refine hy _ _ s.2 (B3 (i := 0) mF rfl) (ag mF zA hxB ho BQ (by omega) (fun q' n' d' B' KR Fo Qy Ag Tj Cm Em iU => .inl ⟨rfl, B', q', n', d', KR, rfl, Tj, Cm, Em, ?_, Ag, hC.mono iU⟩) fun q' d' B' KR Fo Qy Tj Cm Em => .inr ⟨rfl, B', q', d', rfl, Tj, Cm, ?_, ?_⟩)
   · rw [Fo, OA, FB]
   all_goals
     have AFX : KR = dd [] (YE.take (j + 1)) := by rw [Fo, OA, FB]
     obtain ⟨E, hE⟩ := aX (YE.drop (j + 1)) KR
     have UD : round ms hash = KR ++ E := by
       rw [← hE, AFX, ← aY, List.take_append_drop]; rfl
   · have ht : (round ms hash).take k0 = KR := by rw [UD, Qy, List.take_left]
     rw [ht]; exact Em
   · rw [UD, Qy]; simp
 · rintro _ ⟨B, qo, no, d, out, rfl, zA, hxB, ho, FB, BQ, hC⟩
   rw [List.take_of_length_le (by omega)] at FB
   have hol : out.length = no := ho.rd.1
   have hfew : (B8 ms).length < k0 := by rw [← cw]; show (dd [] YE).length < k0; rw [← FB]; omega
   refine ⟨_, .ready, none, rfl, B3 (i := 0) mF rfl, by decide, .inl ⟨rfl, ?_⟩⟩
   rw [KQ]
   refine AJ.Bz (i := 4) (c := #[.slice none 0 0]) Pg mF rfl rfl rfl rfl rfl ?_
   refine AJ.Bz (i := 3) (c := #[.int .i64 0]) af mF rfl rfl rfl rfl rfl ?_
   obtain ⟨e1, e2, e3⟩ := dX (B := B) (rf := k0) (o7 := 133) (o6 := .slice none 0 0) (q := qo) (n := no) (d := d) (lo := lp r0 .exhausted none) mF zA
   exact ⟨none, 0, 0, 133, B3 (i := 1) mF rfl, e1, e2, .mk (hxB.trans e3) (h.uc Ap (by omega) (by omega) (by omega))⟩
 · rintro _ ⟨B, qo, d, rfl, zA, hxB, ho, hle⟩
   refine ⟨_, .done, some .ret, rfl, B3 (i := 0) mF rfl, by decide, .inr ⟨rfl, ?_⟩⟩
   rw [KQ]
   obtain ⟨e1, e2, e3⟩ := dX (B := B) (rf := k0) (o7 := 0) (o6 := .slice qo k0 d) (q := qo) (n := k0) (d := d) (lo := lp r0 .exhausted (some .ret)) mF zA
   exact ⟨qo, k0, d, 0, B3 (i := 1) mF rfl, e1, e2, .mk e3 (h.ok Ap (by omega) (by omega) k0 rfl (by omega) qo d B ho hxB)⟩
 · exact ⟨B0, none, 0, 0, [], rfl, AFW, ALw, AS.nil, by simp [dd], by omega, y8⟩
end TwW
end
section
namespace TwW
open Go Tw Go.Proofs.Tryz
def un (x : Int) : Nat := (IntKind.u64.wrap x).toNat
theorem Bj (x : Int) : IntKind.u64.wrap x = ((un x : Nat) : Int) ∧ un x < 18446744073709551616 := by
 unfold un
 simp [IntKind.wrap, IntKind.bits, IntKind.signed]; omega
theorem M4 {x : Int} (h0 : 0 ≤ x) (h1 : x < 18446744073709551616) : un x = x.toNat := by
 unfold un
 simp [IntKind.wrap, IntKind.bits, IntKind.signed]; omega
def LC (ts : List Int) : List Int := ts.flatMap fun t => uv (un t)
def Ig (m : Mem) : List Int := uv (un m.id) ++ uv (un m.state) ++ uv (un m.B4.length) ++ LC m.B4
def enc (e : Nat) (ms : List Mem) : List Int := uv e ++ uv (un ms.length) ++ ms.flatMap Ig
theorem M5 (x : Int) : (uv (un x)).length ≤ 10 := BV (Bj x).2
theorem YG : ∀ ts : List Int, (LC ts).length ≤ 10 * ts.length
 | [] => by simp [LC]
 | t :: ts => by
   have := YG ts
   have h2 := M5 t
   simp only [LC, List.flatMap_cons, List.length_append, List.length_cons] at *
   omega
theorem mG {m : Mem} (h : m.B4.length ≤ 64) : (Ig m).length ≤ 670 := by
 have h1 := YG m.B4
 have h2 := M5 m.id
 have h3 := M5 m.state
 have h4 := M5 m.B4.length
 simp only [Ig, List.length_append]; omega
theorem Tn : ∀ ms : List Mem, (∀ m ∈ ms, m.B4.length ≤ 64) → (ms.flatMap Ig).length ≤ 670 * ms.length
 | [], _ => by simp
 | m :: ms, h => by
   have h1 := Tn ms (fun x hx => h x (List.mem_cons_of_mem _ hx))
   have h2 := mG (h m (List.mem_cons_self ..))
   simp only [List.flatMap_cons, List.length_append, List.length_cons]; omega
theorem gV {ts : List Int} {k : Nat} {t : Int} (h : ts[k]? = some t) : LC (ts.take (k + 1)) = LC (ts.take k) ++ uv (un t) := by
 simp [LC, AQ h]
theorem ax {ms : List Mem} {i : Nat} {m : Mem} (h : ms[i]? = some m) : (ms.take (i + 1)).flatMap Ig = (ms.take i).flatMap Ig ++ Ig m := by
 rw [show ms.take (i + 1) = ms.take i ++ [m] by simp [List.take_add_one, h]]; simp
section
variable {R : Rr} {σ0 σ : Hp} {p : Option Addr} {n c : Nat} {xs : List Int}
theorem gW (h0 : Ext σ0 σ) (ho : AS .u8 (σ0.new σ) p n c xs) (hn : n ≤ 1000000) {y : Int} {x : Nat} (hy : y = (x : Nat)) (hx : x < 18446744073709551616)
   (h : ∀ p' n' c' σ', AS .u8 (σ0.new σ') p' n' c' (xs ++ uv x) → n' ≤ n + 10 → Ext σ0 σ' → Ext σ σ' → R (.returned (.slice p' n' c')) σ') : Spec prog 99 #[.slice p n c, .int .u64 y] σ R := by
 subst hy
 refine DG (ho.rd.mono (Ext.Ah _ _)) (by omega) hx fun p' n' c' σ' Em Cm => h p' n' c' σ' (Own.mono (Ext.CR h0) Em) ?_ (h0.trans Cm) Cm
 have h1 := Em.rd.1
 have h2 := ho.rd.1
 have := BV hx
 rw [List.length_append] at h1; omega
end
structure ALz (e : Nat) (ms : List Mem) (σ : Hp) (Φ : Option Addr → Nat → Nat → Int → Hp → Prop) : Prop where
 bad : ¬ LA ms → Φ none 0 0 130 σ
 ok : LA ms → ∀ p n c σ', AS .u8 (σ.new σ') p n c (enc e ms) → Ext σ σ' → Φ p n c 0 σ'
theorem Ou {R : Rr} {σ : Hp} {e : Nat} {p : Option Addr} {n c : Nat} {ms : List Mem} (hr : PI σ p n ms) (hs : Small ms) (he : e < 18446744073709551616)
   (h : ALz e ms σ fun p' n' c' code σ' => R (.returned (.tuple #[.slice p' n' c', .int .i64 code])) σ') : Spec prog 44 #[F3 e p n c] σ R := by
 have hn : ms.length = n := hr.1
 refine BY.start fun _ => Lz hr hs ⟨_, rfl, fun Ad => ?_, fun heq QL rI => ?_⟩
 · have : ¬ LA ms := fun Ap => Ad (by simp [PE, Ap])
   have hb := h.bad this
   simpa [PE, this] using hb
 have Ap : LA ms := Decidable.byContradiction fun hn => heq (by simp [PE, hn])
 have hlen := Ap.len
 have h64 : ∀ m ∈ ms, m.B4.length ≤ 64 := fun m hm => (Ap.1 m hm).2.2.2.2.2.1
 have AL0 : QL = ((un ms.length : Nat) : Int) := by rw [rI, ← hn]; exact (Bj _).1
 refine gW (.refl σ) (AS.nil (k := .u8)) (by omega) rfl he fun p1 n1 c1 σ1 Fo Qy BJ _ => ⟨_, _, _, rfl, ?_⟩
 refine gW BJ Fo (by omega) AL0 (Bj _).2 fun p2 n2 c2 σ2 Bs PD Ay _ => ⟨_, _, _, rfl, ?_⟩
 suffices H : ∀ g i : Nat, ∀ q j d τ, n - i = g → i ≤ n → Ext σ τ → j ≤ 20 + 670 * i → AS .u8 (σ.new τ) q j d (uv e ++ uv (un ms.length) ++ (ms.take i).flatMap Ig) → BY.Nb R q j d p n c n i τ from
   H n 0 p2 n2 c2 σ2 rfl (by omega) Ay (by omega) (by simpa using Bs)
 intro g
 induction g with
 | zero =>
   intro i q j d τ hg hi hx hj ho
   refine BY.Iv ⟨fun Ag => by omega, fun _ => ?_⟩
   rw [List.take_of_length_le (by omega)] at ho
   exact h.ok Ap q j d τ ho hx
 | succ g ih =>
   intro i q j d τ hg hi hx hj ho
   obtain ⟨m, hm⟩ := hr.ex (k := i) (by omega)
   obtain ⟨b, o, q1, j1, d1, rfl, hl, ht⟩ := hr.at' hm
   have gN := Ap.1 m (List.mem_of_getElem? hm)
   have ASz := h64 m (List.mem_of_getElem? hm)
   have UA : m.B4.length = j1 := ht.1
   refine BY.Iv ⟨fun _ => ⟨b, o, rfl, by omega, m.id, m.state, q1, j1, d1, by simpa using hl.mono hx, fun _ Nn AL1 => ?_⟩, fun Fb => by omega⟩
   have AFY : Ext τ (τ.set Nn (.cells #[.int .i64 m.id, .int .i64 m.state, .int .i64 (j1 : Nat)] 3 (0, 0))) := .set AL1
   dsimp only
   generalize zB : τ.set Nn (.cells #[.int .i64 m.id, .int .i64 m.state, .int .i64 (j1 : Nat)] 3 (0, 0)) = τ3 at *
   have g0 : Hp.ld τ3 ⟨Nn, 0 + Int.toNat 0 * 1, none⟩ = some (.int .i64 m.id) := by rw [← zB]; exact Ac rfl
   have g1 : Hp.ld τ3 ⟨Nn, 0 + Int.toNat (0 + 1) * 1, none⟩ = some (.int .i64 m.state) := by rw [← zB]; exact Ac rfl
   have g2 : Hp.ld τ3 ⟨Nn, 0 + Int.toNat (0 + 1 + 1) * 1, none⟩ = some (.int .i64 (j1 : Nat)) := by rw [← zB]; exact Ac rfl
   have Dd : AS .u8 (σ.new τ3) q j d _ := Own.mono (Ext.BH AFY) ho
   refine BY.I0 ⟨fun _ => ⟨Nn, 0, rfl, by omega, _, g0, fun R4 gX => ?_⟩, fun Fb => by omega⟩
   refine gW (hx.trans AFY) Dd (by omega) (gX.trans (Bj _).1) (Bj _).2 fun q2 j2 d2 τ4 Pc my Lc AFZ => ⟨_, _, _, rfl, by unfold AN; omega, ?_⟩
   refine BY.I0 ⟨fun _ => ⟨Nn, 0, rfl, by omega, _, AFZ.ld g1, fun R4 gX => ?_⟩, fun Fb => by omega⟩
   refine gW Lc Pc (by omega) (gX.trans (Bj _).1) (Bj _).2 fun q3 j3 d3 τ5 iN hj3 Oc AL2 => ⟨_, _, _, rfl, by unfold AN; omega, ?_⟩
   refine BY.I0 ⟨fun _ => ⟨Nn, 0, rfl, by omega, _, (AFZ.trans AL2).ld g2, fun R4 gX => ?_⟩, fun Fb => by omega⟩
   refine gW Oc iN (by omega) (gX.trans (Bj _).1) (Bj _).2 fun q4 j4 d4 τ6 nq hj4 Nv AS0 => ⟨_, _, _, rfl, by unfold AN; omega, ?_⟩
   refine BY.I0 ⟨fun Ag => by omega, fun _ => ?_⟩
   suffices H2 : ∀ g2 k : Nat, ∀ q j d τ, j1 - k = g2 → k ≤ j1 → Ext σ τ → j ≤ 20 + 670 * i + 30 + 10 * k → AS .u8 (σ.new τ) q j d (uv e ++ uv (un ms.length) ++ (ms.take i).flatMap Ig ++ uv (un m.id) ++ uv (un m.state) ++ uv (un (j1 : Nat)) ++ LC (m.B4.take k)) →
       BY.pW R q j d (some ⟨b, o, none⟩) n c n i q1 j1 d1 j1 k τ from H2 j1 0 q4 j4 d4 τ6 rfl (by omega) Nv (by omega) (by simpa [LC] using nq)
   intro g2
   induction g2 with
   | zero =>
     intro k q j d τ hg2 hk hx hj ho
     refine BY.cW ⟨fun Ag => by omega, fun _ => ⟨by unfold AN; omega, ih (i + 1) q j d τ (by omega) (by omega) hx (by omega) ?_⟩⟩
     rw [List.take_of_length_le (show m.B4.length ≤ k by omega)] at ho
     rw [ax hm, Ig, UA]
     simpa using ho
   | succ g2 rJ =>
     intro k q j d τ hg2 hk hx hj ho
     obtain ⟨t, Ly⟩ := ht.ex (k := k) (by omega)
     obtain ⟨b2, o2, rfl, SF⟩ := ht.at Ly
     refine BY.cW ⟨fun _ => ⟨b2, o2, rfl, by omega, t, by simpa using hx.ld SF, fun wi AL3 => ?_⟩, fun Fb => by omega⟩
     refine gW hx ho (by omega) (AL3.trans (Bj _).1) (Bj _).2 fun q' j' d' τ' Em T7 Cm _ => ⟨_, _, _, rfl, Af (by omega) ht.big, rJ (k + 1) q' j' d' τ' (by omega) (by omega) Cm (by omega) ?_⟩
     rw [gV Ly]
     simpa using Em
end TwW
end
section
namespace TwW
open Go Tw Go.Proofs.Tryz
theorem AL4 {x y : Int} (hx : 0 ≤ x ∧ x < 256) (hy : 0 ≤ y ∧ y < 256) (h : UInt8.ofNat x.toNat = UInt8.ofNat y.toNat) : x = y := by
 have := congrArg UInt8.toNat h
 simp at this
 omega
theorem AFa : ∀ (xs ys : List Int), E7 xs → E7 ys → xs.map (fun n => UInt8.ofNat n.toNat) = ys.map (fun n => UInt8.ofNat n.toNat) → xs = ys
 | [], [], _, _, _ => rfl
 | [], y :: ys, _, _, h => by simp at h
 | x :: xs, [], _, _, h => by simp at h
 | x :: xs, y :: ys, hx, hy, h => by
   simp only [List.map_cons, List.cons.injEq] at h
   rw [AL4 (hx x (List.mem_cons_self ..)) (hy y (List.mem_cons_self ..)) h.1, AFa xs ys (fun a ha => hx a (List.mem_cons_of_mem _ ha)) (fun a ha => hy a (List.mem_cons_of_mem _ ha)) h.2]
theorem zC {xs ys : List Int} (hx : E7 xs) (hy : E7 ys) : ((strOfNums xs).toList == (strOfNums ys).toList) = decide (xs = ys) := by
 rw [ByteArray.toList_eq, ByteArray.toList_eq, strOfNums_data, strOfNums_data]
 by_cases h : xs = ys
 · subst h; simp
 · rw [decide_eq_false h]
   have : xs.map (fun n => UInt8.ofNat n.toNat) ≠ ys.map (fun n => UInt8.ofNat n.toNat) := fun e => h (AFa xs ys hx hy e)
   simpa using this
theorem PJ {R : Rr} {σ : Hp} {p q : Option Addr} {n c m d : Nat} {xs ys : List Int} (hr : By .u8 σ p n xs) (hs : By .u8 σ q m ys) (hx : E7 xs) (hy : E7 ys) (h : R (.returned (.bool (decide (xs = ys)))) σ) :
   Spec prog 196 #[.slice p n c, .slice q m d] σ R :=
 bytes_Equal.start (F1 hr ⟨_, rfl, F1 hs ⟨_, rfl, by dsimp only; rw [zC hx hy]; exact h⟩⟩)
theorem To {x : Nat} (h : x < 18446744073709551616) : E7 (uv x) := Nt 9 x (by omega)
theorem YH {α : Type} {f : α → List Int} : ∀ (l : List α), (∀ x ∈ l, E7 (f x)) → E7 (l.flatMap f) := fun l h a ha => by
 obtain ⟨x, hx, yu⟩ := List.mem_flatMap.1 ha
 exact h x hx a yu
theorem Pj {e : Nat} {ms : List Mem} (he : e < 18446744073709551616) : E7 (enc e ms) :=
 Bc (Bc (To he) (To (Bj _).2)) (YH ms fun m _ => Bc (Bc (Bc (To (Bj _).2) (To (Bj _).2)) (To (Bj _).2)) (YH m.B4 fun t _ => To (Bj _).2))
def Tr (bs : List Int) (e : Nat) (ms : List Mem) : Prop := bs = enc e ms ∧ LA ms ∧ (∀ m ∈ ms, ∀ t ∈ m.B4, nn t) ∧ e < 18446744073709551616
structure AL5 (bs : List Int) (σ : Hp) (Φ : Int → Option Addr → Nat → Nat → Int → Hp → Prop) : Prop where
 bad : (∀ e ms, ¬ Tr bs e ms) → Φ 0 none 0 0 130 σ
 ok : ∀ (e : Nat) ms p n c σ', Tr bs e ms → (∀ e0 Ei, Tr bs e0 Ei → e = e0 ∧ ms = Ei) → PI (σ.new σ') p n ms → Ext σ σ' → Φ e p n c 0 σ'
abbrev PK (b1 b4 b5 : Nat) (p : Option Addr) (n c : Nat) (i : Nat) (bad : Bool) : List (Nat × Obj) :=
 [(b5, .cells #[.bool bad] 4 (0, 0)), (b4, .cells #[.int .i64 i] 3 (0, 0)), (b1, .cells #[.slice p n c] 84 (0, 0))]
def N3 (b1 b4 b5 : Nat) : Prop := [b5, b4, b1].Nodup
def O3 (b1 b4 b5 : Nat) (τ : Hp) : Prop := ∀ b ∈ [b5, b4, b1], τ b = none
theorem La.Yw {bs : List Int} {n i : Nat} {Φ : Int → Int → Int → Prop} (e7 : bs.length = n) (h1 : (∀ w, ¬ I6 bs i w) → ∀ code : Int, code ≠ 0 → Φ 0 0 code)
   (h2 : ∀ v t : Nat, i < t → t ≤ n → v < 18446744073709551616 → (∀ w, I6 bs i w → v = w ∧ t = i + (uv w).length) → Φ v t 0) : La bs i Φ := ⟨h1, fun v hv => by
 refine h2 v (i + (uv v).length) (by have := Qj v; omega) ?_ hv.1 fun w hw => ?_
 · obtain ⟨_, rest, hd⟩ := hv
   have := Qj v
   have h3 := congrArg List.length hd
   simp only [List.length_drop, List.length_append] at h3
   omega
 · obtain rfl := hv.uniq hw
   exact ⟨rfl, rfl⟩⟩
theorem VK {R : Rr} {τ : Hp} {b1 b4 b5 n c i : Nat} {p : Option Addr} {bad : Bool} {bs : List Int} {PL : Nat} (hn : N3 b1 b4 b5) (ho : O3 b1 b4 b5 τ) (hr : By .u8 τ p n bs) (h8 : E7 bs) (hi : i ≤ n)
   (h : ∀ (x j : Nat) (SA : Bool), j ≤ n → x ≤ PL → x < 18446744073709551616 → (∀ w, I6 bs i w → bad = false → w ≤ PL → x = w ∧ j = i + (uv w).length ∧ SA = false) → R (.returned (.int .u64 x)) (AX τ (PK b1 b4 b5 p n c j SA))) :
   Spec prog 195 #[.int .u64 PL, .pointer (some ⟨b1, 0, none⟩), .pointer (some ⟨b4, 0, none⟩), .pointer (some ⟨b5, 0, none⟩)] (AX τ (PK b1 b4 b5 p n c i bad)) R := by
 have hx : Ext τ (AX τ (PK b1 b4 b5 p n c i bad)) := HL.ext (L := PK b1 b4 b5 p n c i bad) hn ho
 have KH : ∀ j : Int, ((∀ w, I6 bs i w → bad = false → w ≤ PL → False)) → AJ prog (Instr.storeAt 4 (.pointer (some ⟨b5, 0, none⟩)) (.bool true)) (AX τ (PK b1 b4 b5 p n c i bad)) (fun _ Az => ∃ t26 : Bool, Hp.ld Az ⟨b5, 0, none⟩ = some (.bool t26) ∧ (t26 = true → R (.returned (.int .u64 0)) Az) ∧ (t26 = false → AJ prog (Instr.storeAt 3 (.pointer (some ⟨b4, 0, none⟩)) (.int .i64 j)) Az (fun _ A0 => R (.returned (.int .u64 0)) A0))) := fun j BQ => by
   refine AJ.Bz (i := 0) (c := #[.bool bad]) JP hn rfl rfl rfl rfl rfl ?_
   exact ⟨true, Hq (L := PK b1 b4 b5 p n c i true) (i := 0) hn rfl rfl, fun _ => h 0 i true hi (by omega) (by omega) (fun w h1 h2 h3 => (BQ w h1 h2 h3).elim), fun hf => by cases hf⟩
 refine LH.start ⟨p, n, c, Hq (i := 2) hn rfl rfl, i, Hq (i := 1) hn rfl rfl, Kh (hr.mono hx) h8 hi (La.Yw hr.1 (fun BQ code hc => ⟨0, 0, code, rfl, bad, Hq (i := 0) hn rfl rfl, fun _ => KH 0 (fun w h1 _ _ => BQ w h1), fun _ => ⟨fun _ => KH 0 (fun w h1 _ _ => BQ w h1), fun h0 => absurd hc h0⟩⟩) fun v tt Ag hle hv hu => ⟨v, tt, 0, rfl, bad, Hq (i := 0) hn rfl rfl, fun hb => ?_, fun hb => ⟨fun h0 => absurd rfl h0, fun _ => ?_⟩⟩)⟩
 · refine AJ.Bz (i := 0) (c := #[.bool bad]) JP hn rfl rfl rfl rfl rfl ?_
   exact ⟨true, Hq (L := PK b1 b4 b5 p n c i true) (i := 0) hn rfl rfl, fun _ => h 0 i true hi (by omega) (by omega) (fun w h1 h2 h3 => by rw [hb] at h2; cases h2), fun hf => by cases hf⟩
 · refine AJ.Bz (i := 0) (c := #[.bool bad]) (c' := #[.bool (decide (((PL : Nat) : Int) < ((v : Nat) : Int)))]) JP hn rfl rfl rfl rfl rfl ?_
   refine ⟨decide (((PL : Nat) : Int) < ((v : Nat) : Int)), Hq (L := PK b1 b4 b5 p n c i _) (i := 0) hn rfl rfl, fun ht => ?_, fun hf => ?_⟩
   · exact h 0 i _ hi (by omega) (by omega) (fun w h1 h2 h3 => by
       have := (hu w h1).1
       simp at ht; omega)
   · refine AJ.Bz (L := PK b1 b4 b5 p n c i (decide (((PL : Nat) : Int) < ((v : Nat) : Int)))) (i := 1) (c := #[.int .i64 i]) (c' := #[.int .i64 tt]) Xx hn rfl rfl rfl rfl rfl ?_
     have hvm : v ≤ PL := by simp at hf; omega
     exact h v tt _ hle hvm hv (fun w h1 h2 h3 => ⟨(hu w h1).1, (hu w h1).2, hf⟩)
end TwW
end
section
namespace TwW
open Go Tw Go.Proofs.Tryz
theorem VL : Enters prog 195 := fun args w => Go.Proofs.Tryz.call195 args w
theorem w64 {x : Nat} (h : x < 9223372036854775808) {y : Int} (hy : y = IntKind.i64.wrap (x : Int)) : y = (x : Int) := by
 rw [hy]; simp [IntKind.wrap, IntKind.bits, IntKind.signed]; omega
theorem br (x : Nat) {y : Int} (hy : y = IntKind.u32.wrap (x : Int)) : nn y ∧ (x < 4294967296 → y = (x : Int)) := by
 rw [hy]; unfold nn; simp [IntKind.wrap, IntKind.bits, IntKind.signed]; omega
theorem uo {x : Nat} (h : 0 < x) (h2 : x < 18446744073709551616) {y : Int} (hy : y = IntKind.u64.wrap ((x : Int) - 1)) : y = ((x - 1 : Nat) : Int) := by
 rw [hy]; simp [IntKind.wrap, IntKind.bits, IntKind.signed]; omega
theorem mH {x : Nat} (h : x < 18446744073709551616) : un (x : Int) = x := by rw [M4 (by omega) (by omega)]; rfl
theorem gY {ms : List Mem} {i : Nat} {m : Mem} (h : ms[i]? = some m) : (ms.drop i).flatMap Ig = Ig m ++ (ms.drop (i + 1)).flatMap Ig := by
 obtain ⟨Ag, heq⟩ := List.getElem?_eq_some_iff.1 h
 rw [List.drop_eq_getElem_cons Ag, heq]; simp
theorem gZ {ts : List Int} {k : Nat} {t : Int} (h : ts[k]? = some t) : LC (ts.drop k) = uv (un t) ++ LC (ts.drop (k + 1)) := by
 obtain ⟨Ag, heq⟩ := List.getElem?_eq_some_iff.1 h
 rw [List.drop_eq_getElem_cons Ag, heq]; simp [LC]
theorem AL6 {bs rest : List Int} {j w : Nat} (hw : w < 18446744073709551616) (h : bs.drop j = uv w ++ rest) : I6 bs j w ∧ bs.drop (j + (uv w).length) = rest :=
 ⟨⟨hw, rest, h⟩, by rw [← List.drop_drop, h, List.drop_left]⟩
theorem mI {a b : Mem} (h1 : a.id = b.id) (h2 : a.state = b.state) (h3 : a.B4 = b.B4) : a = b := by cases a; cases b; simp_all
instance : DecidableEq Mem := fun a b => if h : a.id = b.id ∧ a.state = b.state ∧ a.B4 = b.B4 then .isTrue (mI h.1 h.2.1 h.2.2) else .isFalse fun e => h (by subst e; exact ⟨rfl, rfl, rfl⟩)
theorem ga {R : Rr} {τ : Hp} {b1 b4 b5 n c i : Nat} {p : Option Addr} {bad : Bool} {bs : List Int} (PL : Nat) {mi : Int} (tz : mi = (PL : Nat)) (hn : N3 b1 b4 b5) (ho : O3 b1 b4 b5 τ) (hr : By .u8 τ p n bs) (h8 : E7 bs) (hi : i ≤ n)
   (h : ∀ (x j : Nat) (SA : Bool), j ≤ n → x ≤ PL → x < 18446744073709551616 → (∀ w rest, bs.drop i = uv w ++ rest → w < 18446744073709551616 → bad = false → w ≤ PL → x = w ∧ SA = false ∧ bs.drop j = rest) → R (.returned (.int .u64 x)) (AX τ (PK b1 b4 b5 p n c j SA))) :
   Spec prog 195 #[.int .u64 mi, .pointer (some ⟨b1, 0, none⟩), .pointer (some ⟨b4, 0, none⟩), .pointer (some ⟨b5, 0, none⟩)] (AX τ (PK b1 b4 b5 p n c i bad)) R := by
 subst tz
 exact VK hn ho hr h8 hi fun x j SA h1 h2 h3 h4 => h x j SA h1 h2 h3 fun w rest h5 h6 h7 h8 => by
   obtain ⟨g1, g2⟩ := AL6 h6 h5
   obtain ⟨rfl, rfl, rfl⟩ := h4 w g1 h7 h8
   exact ⟨rfl, rfl, g2⟩
theorem YI {R : Rr} {σ : Hp} {p : Option Addr} {n c : Nat} {bs : List Int} (hr : By .u8 σ p n bs) (h8 : E7 bs)
   (h : AL5 bs σ fun e p' n' c' code σ' => R (.returned (.tuple #[F3 e p' n' c', .int .i64 code])) σ') : Spec prog 108 #[.slice p n c] σ R := by
 refine Spec.drop (Ca.start fun b1 PA _ b4 fE b5 XJ => ?_)
 obtain ⟨n41, yh⟩ := Hp.AM fE
 obtain ⟨n54, AL7⟩ := Hp.AM XJ
 obtain ⟨n51, AFb⟩ := Hp.AM AL7
 have hN : N3 b1 b4 b5 := by unfold N3; simp; omega
 have hO : O3 b1 b4 b5 σ := fun b hb => by
   simp at hb
   rcases hb with rfl | rfl | rfl
   · exact AFb
   · exact yh
   · exact PA
 have VJ : ∀ {τ : Hp} (j : Nat) (bad : Bool), O3 b1 b4 b5 τ → Ext τ (AX τ (PK b1 b4 b5 p n c j bad)) := fun j bad ho => HL.ext (L := PK b1 b4 b5 p n c j bad) hN ho
 have e7 : bs.length = n := hr.1
 show AJ prog (Instr.storeAt 3 (.pointer (some ⟨b4, 0, none⟩)) (.int .i64 0)) (AX σ (PK b1 b4 b5 p n c 0 false)) _
 refine AJ.Bz (i := 1) (c := #[.int .i64 (0 : Nat)]) Xx hN rfl rfl rfl rfl rfl ?_
 refine AJ.Bz (i := 0) (c := #[.bool false]) JP hN rfl rfl rfl rfl rfl ?_
 show Spec prog 195 _ (AX σ (PK b1 b4 b5 p n c 0 false)) _
 refine ga 18446744073709551615 rfl hN hO hr h8 (Nat.zero_le n) fun e1 j1 AS2 UA _ rK yj => ⟨_, rfl, fun _ => ?_⟩
 refine ga 16 rfl hN hO hr h8 UA fun cnt j2 AL8 my Hi _ ht2 => ⟨_, rfl, ?_⟩
 have fin : ∀ (τ : Hp) (pm : Option Addr) (nm cm j : Nat) (bad : Bool) (ms : List Mem), O3 b1 b4 b5 τ → Ext σ τ → Ji (σ.new τ) pm nm cm ms → nm ≤ 16 → (∀ m ∈ ms, m.B4.length ≤ 64 ∧ ∀ t ∈ m.B4, nn t) →
     (∀ e0 Ei, Tr bs e0 Ei → bad = false ∧ e1 = e0 ∧ ms = Ei) →
     Spec prog 44 #[F3 e1 pm nm cm] (AX τ (PK b1 b4 b5 p n c j bad)) (AB (Drop R) (fun v σ1 => ∃ W5 : Option Addr, ∃ W7 : Nat, ∃ W8 : Nat, ∃ Um : Int, v = (.tuple #[(.slice W5 W7 W8), (.int .i64 Um)]) ∧ ∃ t63 : Bool, Hp.ld σ1 ⟨b5, 0, none⟩ = some (.bool t63) ∧ (t63 = true → Drop R (.returned (.tuple #[(.agg #[(.int .u64 0), (.slice none 0 0)]), (.int .i64 130)])) σ1) ∧ (t63 = false → ((Um : Int) ≠ 0 → Drop R (.returned (.tuple #[(.agg #[(.int .u64 0), (.slice none 0 0)]), (.int .i64 130)])) σ1) ∧ (¬ ((Um : Int) ≠ 0) → ∃ nS : Option Addr, ∃ nT : Nat, ∃ c70 : Nat, Hp.ld σ1 ⟨b1, 0, none⟩ = some (.slice nS nT c70) ∧ Spec prog 196 #[(.slice W5 W7 W8), (.slice nS nT c70)] σ1 (AB (Drop R) (fun MU Az => ∃ t71 : Bool, MU = (.bool t71) ∧ (t71 = false → Drop R (.returned (.tuple #[(.agg #[(.int .u64 0), (.slice none 0 0)]), (.int .i64 130)])) Az) ∧ (t71 = true → Drop R (.returned (.tuple #[(.agg #[(.int .u64 e1), (.slice pm nm cm)]), (.int .i64 0)])) Az))))))) := by
   intro τ pm nm cm j bad ms ho hx AZ SB ay hT
   have MA : PI (σ.new τ) pm nm ms := BA.rd E4.mono AZ
   have hrm : PI τ pm nm ms := MA.Q4 (Ext.Ah σ τ)
   have MC : Small ms := ⟨by rw [hrm.1]; omega, fun m hm => by have := (ay m hm).1; omega⟩
   have no : ¬ LA ms → ∀ e0 Ei, ¬ Tr bs e0 Ei := fun BQ e0 Ei ht => BQ ((hT e0 Ei ht).2.2 ▸ ht.2.1)
   refine Spec.B9 (L := PK b1 b4 b5 p n c j bad) hN ho (Ou hrm MC rK ⟨fun BQ Ep => ⟨_, _, _, _, rfl, bad, Hq (i := 0) hN rfl rfl, fun hb => ?_, fun hb => ⟨fun _ => ?_, fun h0 => absurd (by decide) h0⟩⟩, fun Ap p3 n3 c3 τ' Dd DJ Ep => ⟨_, _, _, _, rfl, bad, Hq (i := 0) hN rfl rfl, fun hb => ?_, fun hb => ⟨fun h0 => absurd rfl h0, fun _ => ⟨p, n, c, Hq (i := 2) hN rfl rfl, ?_⟩⟩⟩⟩)
   · exact .mk (hx.trans (VJ j bad ho)) (h.bad (no BQ))
   · exact .mk (hx.trans (VJ j bad ho)) (h.bad (no BQ))
   · exact .mk ((hx.trans DJ).trans (VJ j bad Ep)) (h.bad fun e0 Ei ht => by have := (hT e0 Ei ht).1; rw [hb] at this; cases this)
   · refine PJ (Dd.rd.mono ((Ext.Ah _ _).trans (VJ j bad Ep))) (hr.mono ((hx.trans DJ).trans (VJ j bad Ep))) (Pj rK) h8 ⟨_, rfl, fun hf => ?_, fun ht => ?_⟩
     · refine .mk ((hx.trans DJ).trans (VJ j bad Ep)) (h.bad fun e0 Ei ht => ?_)
       obtain ⟨_, rfl, rfl⟩ := hT e0 Ei ht
       simp [← ht.1] at hf
     · have iM : enc e1 ms = bs := by simpa using ht
       refine .mk (VJ j bad Ep) (h.ok e1 ms pm nm cm τ' ⟨iM.symm, Ap, fun m hm => (ay m hm).2, rK⟩ (fun e0 Ei ht => (hT e0 Ei ht).2) (MA.Q4 (Ext.BH DJ)) (hx.trans DJ))
 have hv6 : ∀ x : Value, (#[] ++ #[x] ++ #[.pointer (some ⟨b1, 0, none⟩), .pointer (some ⟨b4, 0, none⟩), .pointer (some ⟨b5, 0, none⟩)] : Array Value) = #[x, .pointer (some ⟨b1, 0, none⟩), .pointer (some ⟨b4, 0, none⟩), .pointer (some ⟨b5, 0, none⟩)] := fun x => rfl
 suffices H : ∀ g : Nat, ∀ (τ : Hp) (pm : Option Addr) (nm cm cnt j : Nat) (bad : Bool) (ms : List Mem), cnt = g → nm + cnt ≤ 16 → O3 b1 b4 b5 τ → Ext σ τ → Ji (σ.new τ) pm nm cm ms → (∀ m ∈ ms, m.B4.length ≤ 64 ∧ ∀ t ∈ m.B4, nn t) → j ≤ n →
     (∀ e0 Ei, Tr bs e0 Ei → bad = false ∧ e1 = e0 ∧ ms = Ei.take nm ∧ nm + cnt = Ei.length ∧ bs.drop j = (Ei.drop nm).flatMap Ig) →
     Ca.Kt (Drop R) b1 0 none 0 0 b5 (.func (.func 195) #[] #[.pointer (some ⟨b1, 0, none⟩), .pointer (some ⟨b4, 0, none⟩), .pointer (some ⟨b5, 0, none⟩)]) e1 pm nm cm cnt (AX τ (PK b1 b4 b5 p n c j bad)) from by
   refine H cnt σ none 0 0 cnt j2 AL8 [] rfl (by omega) hO (.refl σ) BA.nil (by simp) my fun e0 Ei ht => ?_
   have hd : bs.drop 0 = uv e0 ++ (uv (un Ei.length) ++ Ei.flatMap Ig) := by rw [ht.1]; simp [enc]
   obtain ⟨rfl, PA, Ro⟩ := yj e0 _ hd ht.2.2.2 rfl (by have := ht.2.2.2; omega)
   have hlen := ht.2.1.len
   have SS : un (Ei.length : Nat) = Ei.length := mH (by omega)
   obtain ⟨UE, G8, SD⟩ := ht2 (un Ei.length) _ Ro (Bj _).2 PA (by omega)
   exact ⟨G8, rfl, by simp, by omega, by simpa using SD⟩
 intro g
 induction g with
 | zero =>
   intro τ pm nm cm cnt j bad ms hg hle ho hx AZ ay hj hT
   subst hg
   refine Ca.HQ ⟨fun Ag => by omega, fun _ => fin τ pm nm cm j bad ms ho hx AZ (by omega) ay fun e0 Ei ht => ?_⟩
   obtain ⟨f1, f2, f3, f4, _⟩ := hT e0 Ei ht
   exact ⟨f1, f2, by rw [f3, List.take_of_length_le (by omega)]⟩
 | succ g ih =>
   intro τ pm nm cm cnt j bad ms hg hle ho hx AZ ay hj hT
   refine Ca.HQ ⟨fun Ag => ⟨bad, Hq (i := 0) hN rfl rfl, fun hb => ?_, fun hb => fin τ pm nm cm j bad ms ho hx AZ (by omega) ay fun e0 Ei ht => by have := (hT e0 Ei ht).1; rw [hb] at this; cases this⟩, fun Fb => by omega⟩
   have hrx := hr.mono hx
   have dw : ∀ e0 Ei, Tr bs e0 Ei → ∃ m, Ei[nm]? = some m := fun e0 Ei ht => ⟨_, List.getElem?_eq_getElem (by have := (hT e0 Ei ht).2.2.2.1; omega)⟩
   refine ⟨195, #[], _, rfl, VL, ?_⟩
   rw [hv6]
   refine ga 16 rfl hN ho hrx h8 hj fun Gm j3 AS4 hj3 RB _ ht3 => ⟨_, rfl, fun UY AL9 => ⟨195, #[], _, rfl, VL, ?_⟩⟩
   rw [hv6]
   refine ga 3 rfl hN ho hrx h8 hj3 fun HP j4 AS5 hj4 AS6 _ ht4 => ⟨_, rfl, fun se AMA _ => ⟨195, #[], _, rfl, VL, ?_⟩⟩
   rw [hv6]
   refine ga 64 rfl hN ho hrx h8 hj4 fun Rj j5 AFc hj5 AS8 _ ht5 => ⟨_, rfl, ?_⟩
   have e29 := w64 (by omega) AL9
   have e32 := w64 (by omega) AMA
   subst e29 e32
   have hT5 : ∀ e0 Ei, Tr bs e0 Ei → ∃ m, Ei[nm]? = some m ∧ m.id = (Gm : Int) ∧ m.state = (HP : Int) ∧ Rj = m.B4.length ∧ AFc = false ∧ bs.drop j5 = LC m.B4 ++ (Ei.drop (nm + 1)).flatMap Ig := fun e0 Ei ht => by
     obtain ⟨m, hm⟩ := dw e0 Ei ht
     obtain ⟨f1, f2, f3, f4, f5⟩ := hT e0 Ei ht
     have Ap := ht.2.1.1 m (List.mem_of_getElem? hm)
     obtain ⟨k1, k2, k3, k4, k5, k6, _⟩ := Ap
     rw [gY hm] at f5
     have u1 : un m.id = m.id.toNat := M4 k1 (by omega)
     have u2 : un m.state = m.state.toNat := M4 (by omega) (by omega)
     have u3 : un (m.B4.length : Nat) = m.B4.length := mH (by omega)
     obtain ⟨g1, g2, g3⟩ := ht3 (un m.id) (uv (un m.state) ++ (uv (un m.B4.length) ++ (LC m.B4 ++ (Ei.drop (nm + 1)).flatMap Ig))) (by rw [f5]; simp [Ig]) (Bj _).2 f1 (by omega)
     obtain ⟨g4, g5, g6⟩ := ht4 (un m.state) _ g3 (Bj _).2 g2 (by omega)
     obtain ⟨g7, g8, g9⟩ := ht5 (un m.B4.length) _ g6 (Bj _).2 g5 (by omega)
     exact ⟨m, hm, by omega, by omega, by omega, g8, g9⟩
   suffices H2 : ∀ g2 : Nat, ∀ (τ' : Hp) (pt : Option Addr) (k ct left j : Nat) (bad : Bool) (ts : List Int), left = g2 → k + left ≤ 64 → O3 b1 b4 b5 τ' → Ext τ τ' → AS .u32 (τ.new τ') pt k ct ts → (∀ t ∈ ts, nn t) → j ≤ n →
       (∀ e0 Ei, Tr bs e0 Ei → ∃ m, Ei[nm]? = some m ∧ m.id = (Gm : Int) ∧ m.state = (HP : Int) ∧ bad = false ∧ ts = m.B4.take k ∧ k + left = m.B4.length ∧ bs.drop j = LC (m.B4.drop k) ++ (Ei.drop (nm + 1)).flatMap Ig) →
       Ca.MW (Drop R) b1 0 none 0 0 b5 (.func (.func 195) #[] #[.pointer (some ⟨b1, 0, none⟩), .pointer (some ⟨b4, 0, none⟩), .pointer (some ⟨b5, 0, none⟩)]) e1 pm nm cm cnt Gm HP pt k ct left (AX τ' (PK b1 b4 b5 p n c j bad)) from by
     refine H2 Rj τ none 0 0 Rj j5 AFc [] rfl (by omega) ho (.refl τ) AS.nil (by simp) hj5 fun e0 Ei ht => ?_
     obtain ⟨m, q1, q2, q3, q4, q5, q6⟩ := hT5 e0 Ei ht
     exact ⟨m, q1, q2, q3, q5, by simp, by omega, by simpa using q6⟩
   have done : ∀ (τ' : Hp) (pt : Option Addr) (k ct j : Nat) (bad : Bool) (ts : List Int), k ≤ 64 → O3 b1 b4 b5 τ' → Ext τ τ' → AS .u32 (τ.new τ') pt k ct ts → (∀ t ∈ ts, nn t) → j ≤ n →
       (∀ e0 Ei, Tr bs e0 Ei → ∃ m, Ei[nm]? = some m ∧ m.id = (Gm : Int) ∧ m.state = (HP : Int) ∧ bad = false ∧ ts = m.B4 ∧ bs.drop j = (Ei.drop (nm + 1)).flatMap Ig) →
       ∀ VW : Nat, (AX τ' (PK b1 b4 b5 p n c j bad)) VW = none → AJ prog (Builtin.append_ #[39, 39] 39 #[(.slice pm nm cm), (.slice (some ⟨VW, 0, none⟩) 1 1)]) (Hp.set (AX τ' (PK b1 b4 b5 p n c j bad)) VW (.cells #[(.int .i64 Gm), (.int .i64 HP), (.slice pt k ct)] 196 (0, 0))) (fun v σ1 => ∃ p56 : Option Addr, ∃ n56 : Nat, ∃ c56 : Nat, v = (.slice p56 n56 c56) ∧ ∀ HA : Int, HA = IntKind.u64.wrap ((cnt : Int) - 1) → Ca.Kt (Drop R) b1 0 none 0 0 b5 (.func (.func 195) #[] #[.pointer (some ⟨b1, 0, none⟩), .pointer (some ⟨b4, 0, none⟩), .pointer (some ⟨b5, 0, none⟩)]) e1 p56 n56 c56 HA σ1) := by
     intro τ' pt k ct j bad ts hk Em Cm rX lL hj M9 VW AMB
     obtain ⟨MF, hB⟩ := Bu AMB
     rw [DC MF]
     have lj : Ji (σ.new τ') pm nm cm ms := AZ.mono E4.mono (Ext.BH Cm)
     have dP : ∀ a, pm = some a → τ a.block ≠ none := fun a ha => by
       have := AZ.block a ha
       cases hh : (σ.new τ) a.block with
       | none => exact absurd hh this
       | some oo => rw [(AO.1 hh).2]; simp
     have CV : Ext (τ.new τ') ((σ.new τ').del pm) := Ext.Hx hx dP
     have AFd : By .u32 (τ.new τ') pt k ts := AS.rd rX
     have Rx : ts.length = k := AFd.1
     refine AJ.B9 (L := PK b1 b4 b5 p n c j bad) hN (HL.set (L := PK b1 b4 b5 p n c j bad) Em MF) (BA.Hy E4.mono (vs := [.int .i64 Gm, .int .i64 HP, .slice pt k ct]) (x := ⟨Gm, HP, ts⟩) (hx.trans Cm) lj rfl Q5 (E4.mk (AFd.mono CV)) (by omega) (fun p' c2 τ2 Bs Ay mJ => ⟨p', nm + 1, c2, rfl, fun HA rY => ?_⟩) hB)
     have e26 := uo (by omega) (by omega) rY
     subst e26
     refine ih τ2 p' (nm + 1) c2 (cnt - 1) j bad _ (by omega) (by omega) mJ Ay Bs (fun m hm => ?_) hj fun e0 Ei ht => ?_
     · rcases List.mem_append.1 hm with hm | hm
       · exact ay m hm
       · simp at hm; subst hm
         exact ⟨by show ts.length ≤ 64; omega, lL⟩
     · obtain ⟨m, q1, q2, q3, q4, q5, q6⟩ := M9 e0 Ei ht
       obtain ⟨f1, f2, f3, f4, f5⟩ := hT e0 Ei ht
       refine ⟨q4, f2, ?_, by omega, q6⟩
       rw [List.take_add_one, q1, f3]
       simp [mI (a := ⟨Gm, HP, ts⟩) (b := m) q2.symm q3.symm q5]
   intro g2
   induction g2 with
   | zero =>
     intro τ' pt k ct left j bad ts hg2 AFS Em Cm rX lL hj M9
     subst hg2
     refine Ca.Iy ⟨fun Ag => by omega, fun _ => done τ' pt k ct j bad ts (by omega) Em Cm rX lL hj fun e0 Ei ht => ?_⟩
     obtain ⟨m, q1, q2, q3, q4, q5, q6, q7⟩ := M9 e0 Ei ht
     refine ⟨m, q1, q2, q3, q4, by rw [q5, List.take_of_length_le (by omega)], ?_⟩
     rw [q7, List.drop_eq_nil_of_le (by omega)]; simp [LC]
   | succ g2 rJ =>
     intro τ' pt k ct left j bad ts hg2 AFS Em Cm rX lL hj M9
     refine Ca.Iy ⟨fun Ag => ⟨bad, Hq (i := 0) hN rfl rfl, fun hb => ?_, fun hb => done τ' pt k ct j bad ts (by omega) Em Cm rX lL hj fun e0 Ei ht => by obtain ⟨m, _, _, _, q4, _⟩ := M9 e0 Ei ht; rw [hb] at q4; cases q4⟩, fun Fb => by omega⟩
     refine ⟨195, #[], _, rfl, VL, ?_⟩
     rw [hv6]
     refine ga 4294967295 rfl hN Em (hrx.mono Cm) h8 hj fun R4 j6 zD hj6 gX _ ht6 => ⟨_, rfl, fun JF yK NC y6 => ?_⟩
     obtain ⟨AMC, AMD⟩ := br R4 yK
     obtain ⟨MF, hB⟩ := Bu y6
     rw [DC MF]
     refine AJ.B9 (L := PK b1 b4 b5 p n c j6 zD) hN (HL.set (L := PK b1 b4 b5 p n c j6 zD) Em MF) (AS.Hy Cm rX (by omega) (fun p' c' τ2 Bs Ay _ mJ => ⟨p', k + 1, c', rfl, fun wy AME => ?_⟩) hB)
     have e43 := uo (by omega) (by omega) AME
     subst e43
     refine rJ τ2 p' (k + 1) c' (left - 1) j6 zD _ (by omega) (by omega) mJ Ay Bs (fun t ht => ?_) hj6 fun e0 Ei ht => ?_
     · rcases List.mem_append.1 ht with ht | ht
       · exact lL t ht
       · simp at ht; subst ht; exact AMC
     · obtain ⟨m, q1, q2, q3, q4, q5, q6, q7⟩ := M9 e0 Ei ht
       obtain ⟨t, Ly⟩ : ∃ t, m.B4[k]? = some t := ⟨_, List.getElem?_eq_getElem (by omega)⟩
       have yY := ht.2.2.1 m (List.mem_of_getElem? q1) t (List.mem_of_getElem? Ly)
       unfold nn at yY
       have ut : un t = t.toNat := M4 yY.1 (by omega)
       rw [gZ Ly, List.append_assoc] at q7
       obtain ⟨r1, r2, r3⟩ := ht6 (un t) _ q7 (Bj _).2 q4 (by omega)
       refine ⟨m, q1, q2, q3, r2, ?_, by omega, r3⟩
       rw [AQ Ly, q5, AMD (by omega)]
       congr 2; omega
end TwW
end
section
namespace TwW
open Go Tw Go.RowKit Go.Proofs.Tryz
section
variable {σ σ' τ : Hp} {R : Rr}
theorem Ej {τ τ' : Hp} (h : Ext τ τ') : ∀ L : List (Nat × Obj), Ext (AX τ L) (AX τ' L)
 | [] => h
 | (b, o) :: L => fun k u hk => by
   simp only [AX] at hk ⊢
   by_cases e : k = b
   · subst e; rw [Hp.AA] at hk ⊢; exact hk
   · rw [Hp.AH e] at hk ⊢; exact Ej h L k u hk
def mK (v : Int) : Bool := FloatKind.f64.format.order v.toNat v.toNat != some .eq
def YJ (v : Int) : Int := if v ≠ 9218868437227405314 ∧ mK v = true then 9221120237041090560 else v
theorem AFe {x : Int} : YN prog 198 #[.int .u64 x] σ (.float .f64 x.toNat) := fun w _ => by
 rw [run_callFunc_extern Go.Proofs.Tryz.func198 (by kernel_rfl) (by kernel_rfl) (by kernel_rfl) (e := Extern.MathFloatBits.float64frombits) (by kernel_rfl)]
 rfl
theorem az {x : Int} (h : R (.returned (.bool (mK x))) σ) : Spec prog 197 #[.float .f64 x.toNat] σ R :=
 QW.start ⟨_, fun w _ => by simp [eqGuard, binOp, Op.floatCmp, mK], h⟩
theorem YK {x : Int} (h : R (.returned (.int .u64 (YJ x))) σ) : Spec prog 109 #[.int .u64 x] σ R := by
 unfold YJ at h
 refine LO.start ⟨fun h1 => ⟨_, AFe, az ⟨_, rfl, fun h2 => ?_, fun h2 => ?_⟩⟩, fun h1 => ?_⟩
 · rw [if_pos ⟨h1, h2⟩] at h; exact h
 · rw [if_neg (by simp [h2])] at h; exact h
 · rw [if_neg (by simp [Decidable.not_not.1 h1])] at h; exact h
def HY (rf fo re : Int) (ha : Bool) (md : Nat) : Obj := .cells #[.int .i64 0, .int .i64 rf, .int .i64 0, .int .i64 0, .int .i64 fo, .int .i64 re, .int .i64 0, .int .i64 100, .int .i64 16, .int .i64 100, .bool ha, .map (some md)] 103 (0, 0)
def Bf (ten cl rep : ByteArray) (p : Option Addr) (n c : Nat) (now : Int) (q : Option Addr) : Obj := .cells #[.string ten, .string cl, .string rep, .slice p n c, .int .i64 now, .pointer q] 120 (0, 0)
def M6 (e : Nat) (Q : Int) (p : Option Addr) (n c : Nat) : Obj := .cells #[.int .u64 e, .int .i64 Q, .slice p n c] 126 (0, 0)
def F5 : ByteArray := ⟨#[114, 105, 110, 103]⟩
theorem YL : FI F5 = true := by decide
structure M7 (τ : Hp) (b3 b4 b5 BG bd : Nat) (qk : Option Addr) : Prop where
 e3 : τ b3 = some (.cells #[.pointer (some ⟨bd, 0, none⟩)] 33 (0, 0))
 e4 : τ b4 = some (.cells #[.pointer (some ⟨BG, 0, none⟩)] 118 (0, 0))
 e5 : τ b5 = some (.cells #[.pointer qk] 35 (0, 0))
theorem M7.mono {b3 b4 b5 BG bd : Nat} {qk : Option Addr} (h : M7 τ b3 b4 b5 BG bd qk) (hx : Ext τ σ) : M7 σ b3 b4 b5 BG bd qk := ⟨hx _ _ h.e3, hx _ _ h.e4, hx _ _ h.e5⟩
variable {b3 b4 b5 BG bd md : Nat} {qk : Option Addr} {rf fo re now : Int} {ha : Bool} {ten cl rep : ByteArray} {p : Option Addr} {n c : Nat} {ss : List Sm}
def SO (e : Int) : Int := if e = 0 then 0 else if e = 151 then 4 else 3
theorem gb (h5 : M7 τ b3 b4 b5 BG bd qk) (hd : τ bd = some (HY rf fo re ha md)) (hb : τ BG = none) (hs : Jh τ p n ss) (hR : R (.returned (.int .i64 (SO (GX ten 16 100 ss)))) (τ.set BG (Bf ten cl rep p n c now none))) :
   Spec prog 103 #[.pointer (some ⟨b4, 0, none⟩), .pointer (some ⟨b3, 0, none⟩)] (τ.set BG (Bf ten cl rep p n c now none)) R := by
 have hx : Ext τ (τ.set BG (Bf ten cl rep p n c now none)) := .set hb
 have h5' := h5.mono hx
 refine Cv.start ⟨_, AD h5'.e4 rfl, BG, 0, rfl, ten, Ac rfl, _, AD h5'.e4 rfl, BG, 0, rfl, p, n, c, Ac rfl, _, AD h5'.e3 rfl, bd, 0, rfl, 100, 16, 100, ha, ⟨AD (hx _ _ hd) rfl, AD (hx _ _ hd) rfl, AD (hx _ _ hd) rfl, AD (hx _ _ hd) rfl, trivial⟩, ?_⟩
 refine Nx (hs.mono Mw.mono hx) fun i => ⟨_, _, rfl, fun h0 => ?_, fun h0 => ⟨fun h1 => ?_, fun h1 => ?_⟩⟩
 · rw [SO, if_pos h0] at hR; exact hR
 · rw [SO, if_neg h0, if_pos h1] at hR; exact hR
 · rw [SO, if_neg h0, if_neg h1] at hR; exact hR
theorem bA (h5 : M7 τ b3 b4 b5 BG bd qk) (hd : τ bd = some (HY rf fo re false md)) (hb : τ BG = none) {o : Obj} (hR : R (.returned (.int .i64 0)) (τ.set BG o)) :
   Spec prog 105 #[.pointer (some ⟨b3, 0, none⟩), .pointer (some ⟨b4, 0, none⟩)] (τ.set BG o) R := by
 have hx : Ext τ (τ.set BG o) := .set hb
 exact Ba.start ⟨_, AD (hx _ _ h5.e3) rfl, bd, 0, rfl, false, AD (hx _ _ hd) rfl, fun _ => hR, fun h => by cases h⟩
def partOf (ms : List Mem) (k : Nat) (s : Sm) : Part := ⟨⟨s.ls, s.t, YJ s.v⟩, (round ms (Xr s.ls)).take k⟩
theorem Dn.one (σ : Hp) (vs : List Value) (x : Part × Nat) (h : Dn σ vs x) : CN vs := by
 obtain ⟨p, n, c, q, m, d, rfl, _⟩ := h
 intro u hu
 simp only [List.mem_cons, List.not_mem_nil, or_false] at hu
 rcases hu with rfl | rfl | rfl | rfl | rfl <;> rfl
theorem mL : ∀ w, (Go.sizeOf 43).run prog w = .ok 1 w := fun w => sizeOf43 w
theorem mM : ∀ w, (Go.sizeOf 124).run prog w = .ok 1 w := fun w => sizeOf124 w
theorem gg {dk bb bk : Nat} {D : Dk} {W : Wl} {rows : List CJ} {κ : Hp} {e : Nat} {ms : List Mem} {rk : Nat} (h5 : M7 τ b3 b4 b5 BG bd (some ⟨bk, 0, none⟩)) (hd : τ bd = some (HY rf fo re ha md)) (hb : τ BG = none) (hk : Hm τ dk bb bk D W rows κ) (hu : D.up = true)
   (ht : Tr (DW rows F5).1 e ms) (fz : 1 ≤ rf) (zE : rf ≤ 5) (mN : rf = rk) (RO : rk ≤ (B8 ms).length) (hs : Jh τ p n ss) (MC : ∀ s ∈ ss, G3 s.ls) (hn : ss.length ≤ 256)
   (hR : ∀ (pb : Nat) (τ' : Hp) (mv : List Nat) q m d, Ext τ τ' → τ' BG = none → τ' pb = none → pb ≠ BG → Be (τ.new (AX τ' [(pb, M6 e (rf / 2 + 1) q m d), (BG, Bf ten cl rep p n c now (some ⟨pb, 0, none⟩))])) pb e (rf / 2 + 1) (ss.map (partOf ms rk)) mv (ss.map fun _ => []) (fun _ => none) →
     R (.returned (.int .i64 0)) (AX τ' [(pb, M6 e (rf / 2 + 1) q m d), (BG, Bf ten cl rep p n c now (some ⟨pb, 0, none⟩))])) :
   Spec prog 107 #[.pointer (some ⟨b5, 0, none⟩), .pointer (some ⟨b3, 0, none⟩), .pointer (some ⟨b4, 0, none⟩)] (τ.set BG (Bf ten cl rep p n c now none)) R := by
 have dI : ss.length = n := hs.1
 have aF : Ext τ (τ.set BG (Bf ten cl rep p n c now none)) := .set hb
 refine Ax.start ⟨_, AD (aF _ _ h5.e5) rfl, fun h => by simp at h, fun _ => ⟨_, AD (aF _ _ h5.e5) rfl, ?_⟩⟩
 show Spec prog 39 #[_, .string F5] (AX τ [(BG, Bf ten cl rep p n c now none)]) _
 have hN1 : (names [(BG, Bf ten cl rep p n c now none)]).Nodup := by simp [names]
 have hO1 : ∀ {ρ : Hp}, ρ BG = none → HL [(BG, Bf ten cl rep p n c now none)] ρ := fun h k hk => by simp [names] at hk; rw [hk]; exact h
 refine Spec.B9 hN1 (hO1 hb) (X9 hk hu (fun h => by rw [YL] at h; cases h) fun _ p1 n1 c1 τ1 Fo BJ gh => ⟨_, _, _, _, _, rfl, ?_⟩)
 have zF : By .u8 τ1 p1 n1 (DW rows F5).1 := AS.rd (Own.mono (Ext.Ah _ _) Fo)
 refine Spec.B9 hN1 gh (YI zF (by rw [ht.1]; exact Pj ht.2.2.2) ⟨fun BQ _ => (BQ e ms ht).elim, fun e' EO p2 n2 c2 τ2 htr dA HF Ay SP => ?_⟩)
 obtain ⟨rfl, rfl⟩ := dA e ms ht
 have Ap : LA EO := ht.2.1
 have AEt : PI τ2 p2 n2 EO := HF.mono E4.mono (Ext.Ah _ _)
 have bB : Ext τ τ2 := BJ.trans Ay
 have mO := h5.mono bB
 have SD := bB _ _ hd
 have uU : Ext τ2 (AX τ2 [(BG, Bf ten cl rep p n c now none)]) := HL.ext hN1 SP
 have G8 : τ2 BG = none := SP BG (by simp [names])
 refine ⟨e', p2, n2, c2, 0, rfl, fun _ => ⟨fun h => absurd rfl h, fun _ => ⟨fun h => absurd rfl h, fun _ => ⟨_, AD (uU _ _ mO.e4) rfl, _, AD (uU _ _ mO.e3) rfl, bd, 0, rfl, rf, AD (uU _ _ SD) rfl, by decide, fun PW h40 => ?_⟩⟩⟩⟩
 have e40 : PW = rf / 2 := by
   rw [h40, Int.tdiv_eq_ediv_of_nonneg (by omega)]
   simp [IntKind.wrap, IntKind.bits, IntKind.signed]; omega
 subst e40
 refine ⟨by unfold AN; omega, fun F8 AMH => ⟨BG, 0, rfl, ?_⟩⟩
 obtain ⟨AMI, uq⟩ := Bu AMH
 have Ad : F8 ≠ BG := by simpa [names] using AMI
 show AJ prog (Instr.storeAt 43 (.pointer (some ⟨BG, 5, none⟩)) (.pointer (some ⟨F8, 0, none⟩))) (AX τ2 [(F8, M6 e' (rf / 2 + 1) none 0 0), (BG, Bf ten cl rep p n c now none)]) _
 let L2 : Option Addr → Nat → Nat → List (Nat × Obj) := fun q m d => [(F8, M6 e' (rf / 2 + 1) q m d), (BG, Bf ten cl rep p n c now (some ⟨F8, 0, none⟩))]
 have nw : ∀ {q m d}, (names (L2 q m d)).Nodup := by simp [L2, names, Ad]
 have hO2 : ∀ {q m d} {ρ : Hp}, ρ F8 = none → ρ BG = none → HL (L2 q m d) ρ := fun h1 h2 k hk => by
   simp [L2, names] at hk
   rcases hk with rfl | rfl
   · exact h1
   · exact h2
 have G6 : ∀ {q m d}, names (L2 q m d) = [F8, BG] := by simp [L2, names]
 refine AJ.Bz (i := 1) (c := #[.string ten, .string cl, .string rep, .slice p n c, .int .i64 now, .pointer none]) (c' := #[.string ten, .string cl, .string rep, .slice p n c, .int .i64 now, .pointer (some ⟨F8, 0, none⟩)]) mL (by simp [names, Ad]) rfl rfl rfl rfl rfl ?_
 show LQ (AX τ2 (L2 none 0 0)) b4 0 _
 have Vc : ∀ {q m d} {ρ : Hp}, ρ F8 = none → ρ BG = none → Ext ρ (AX ρ (L2 q m d)) := fun h1 h2 => HL.ext nw (hO2 h1 h2)
 have ldo : ∀ {q m d} {ρ : Hp} {o : Nat} {v : Value}, (#[.string ten, .string cl, .string rep, .slice p n c, .int .i64 now, .pointer (some ⟨F8, 0, none⟩)] : Array Value)[o]? = some v → Hp.ld (AX ρ (L2 q m d)) ⟨BG, o, none⟩ = some v := fun h => Hq (i := 1) nw rfl h
 refine ⟨_, AD (Vc uq G8 _ _ mO.e4) rfl, BG, 0, rfl, p, n, c, ldo rfl, ?_⟩
 have JX : ∀ (σ0 τ6 : Hp) (mv : List Nat) q m d, m = n → BA 5 Dn (σ0.new τ6) q m d ((ss.map (partOf EO rk)).zip mv) → Ext τ2 σ0 → Ext σ0 τ6 → mv.length = n → mv.Nodup → (∀ v ∈ mv, σ0 v = some (.map #[] 0) ∧ τ2 v = none) → τ6 F8 = none → τ6 BG = none → R (.returned (.int .i64 0)) (AX τ6 (L2 q m d)) := by
   intro σ0 τ6 mv q m d hm ho Ux Nv ui Z5 mP kr iL
   have Ns := Vc (q := q) (m := m) (d := d) kr iL
   have AML : ∀ v ∈ mv, v ≠ F8 ∧ v ≠ BG := fun v hv => ⟨fun e => (by have := Nv _ _ (mP v hv).1; rw [e, kr] at this; cases this), fun e => (by have := Nv _ _ (mP v hv).1; rw [e, iL] at this; cases this)⟩
   have Up : Ext τ σ0 := bB.trans Ux
   have Ep : Ext (σ0.new τ6) ((τ.new (AX τ6 (L2 q m d))).off mv) := fun k o hk => Hp.AG.2 ⟨fun DR => (by
     have h1 := (AO.1 hk).1
     rw [(mP k DR).1] at h1; cases h1), AO.2 ⟨Aw Up (AO.1 hk).1, Ns _ _ (AO.1 hk).2⟩⟩
   refine hR F8 τ6 mv q m d (Up.trans Nv) iL kr Ad ⟨⟨⟨q, m, d, Hp.AG.2 ⟨fun h => (AML _ h).1 rfl, AO.2 ⟨Aw (Up.trans Nv) kr, B3 (i := 0) nw rfl⟩⟩, (ho.rd Dn.mono).mono Dn.mono Ep⟩, by simp [ui, dI], by simpa using hn, fun x hx => ?_, fun x hx => ?_⟩, Z5, by simp [ui, dI], fun i v f hv hf => ?_, fun k o hk => by cases hk⟩
   · obtain ⟨s, Ho, rfl⟩ := List.mem_map.1 hx
     exact MC s Ho
   · obtain ⟨s, Ho, rfl⟩ := List.mem_map.1 hx
     show ((round EO (Xr s.ls)).take rk).length ≤ 5
     rw [List.length_take]; omega
   · obtain ⟨s, Ho, rfl⟩ := List.mem_map.1 (List.mem_of_getElem? hf)
     have oD := (mP v (List.mem_of_getElem? hv)).1
     exact ⟨[], 0, rfl, AO.2 ⟨Aw bB (mP v (List.mem_of_getElem? hv)).2, Ns _ _ (Nv _ _ oD)⟩, MapKept.stamped_empty 0, by simp⟩
 suffices H : ∀ g i : Nat, ∀ (σ0 τ6 : Hp) (mv : List Nat) q m d, n - i = g → i ≤ n → m = i → BA 5 Dn (σ0.new τ6) q m d (((ss.take i).map (partOf EO rk)).zip mv) → Ext τ2 σ0 → Ext σ0 τ6 → mv.length = i → mv.Nodup → (∀ v ∈ mv, σ0 v = some (.map #[] 0) ∧ τ2 v = none) → τ6 F8 = none → τ6 BG = none →
     Ax.MW R b3 b4 e' p2 n2 c2 p n c n i (AX τ6 (L2 q m d)) from H n 0 τ2 τ2 [] none 0 0 rfl (Nat.zero_le _) rfl BA.nil (.refl _) (.refl _) rfl List.nodup_nil (by simp) uq G8
 intro g
 induction g with
 | zero =>
   intro i σ0 τ6 mv q m d hg hi hm ho Ux Nv ui Z5 mP kr iL
   have CV : i = n := by omega
   subst CV
   rw [List.take_of_length_le (by omega)] at ho
   exact Ax.Iy ⟨fun Ag => by omega, fun _ => JX σ0 τ6 mv q m d hm ho Ux Nv ui Z5 mP kr iL⟩
 | succ g ih =>
   intro i σ0 τ6 mv q m d hg hi hm ho Ux Nv ui Z5 mP kr iL
   have JQ : i < n := by omega
   subst hm
   obtain ⟨s, hsi⟩ := hs.ex JQ
   obtain ⟨b, o, qs, ks, cs, rfl, hl, hls⟩ := Jh.at hs hsi
   have rZ := MC s (List.mem_of_getElem? hsi)
   have fN := rZ.1
   have ATI : s.ls.length = ks := hls.1
   have rY : Ext τ2 τ6 := Ux.trans Nv
   have mQ : Ext τ τ6 := bB.trans rY
   have Ns := Vc (q := q) (m := m) (d := d) kr iL
   refine Ax.Iy ⟨fun _ => ⟨b, o, rfl, by omega, qs, ks, cs, s.t, s.v, by simpa using hl.mono (mQ.trans Ns), fun _ => ?_⟩, fun hh => by omega⟩
   refine Spec.B9 nw (hO2 kr iL) (Xq (hls.mono JU.mono mQ) (by omega) fun q7 c7 τ7 ho7 Jg zG => ⟨q7, ks, c7, s.t, s.v, rfl, ?_⟩)
   refine YK ⟨_, rfl, ?_⟩
   have g43 : τ7 F8 = none := zG F8 (by rw [G6]; simp)
   have g20 : τ7 BG = none := zG BG (by rw [G6]; simp)
   have ra : Ext τ2 τ7 := rY.trans Jg
   have zH := Vc (q := q) (m := m) (d := d) g43 g20
   refine ⟨_, AD (zH _ _ (ra _ _ mO.e3)) rfl, bd, 0, rfl, rf, AD (zH _ _ (ra _ _ SD)) rfl, ?_⟩
   have Yp : Pf (τ6.new τ7) q7 ks s.ls := ho7.rd JU.mono
   refine gC (Yp.mono JU.mono ((Ext.Ah _ _).trans zH)) rZ ⟨_, rfl, Kp.CM (.refl _), ?_⟩
   refine Spec.B9 nw zG (SN (AEt.Q4 ra) Ap.small ⟨fun hb => (hb ⟨Ap, fz, zE⟩).elim, fun _ _ _ hb => by omega, fun _ _ _ k hk hka q8 d8 τ8 au Rp zI => ?_⟩)
   have dS : k = rk := by omega
   subst dS
   have k43 : τ8 F8 = none := zI F8 (by rw [G6]; simp)
   have k20 : τ8 BG = none := zI BG (by rw [G6]; simp)
   have RB : Ext τ2 τ8 := ra.trans Rp
   have AFg := Vc (q := q) (m := m) (d := d) k43 k20
   refine ⟨q8, k, d8, 0, rfl, fun h => absurd rfl h, fun _ => ⟨_, AD (AFg _ _ (RB _ _ mO.e4)) rfl, BG, 0, rfl, _, ldo rfl, _, AD (AFg _ _ (RB _ _ mO.e4)) rfl, BG, 0, rfl, _, ldo rfl, F8, 0, rfl, q, m, d, Hq (i := 0) nw rfl rfl, ?_⟩⟩
   refine AJ.B9 nw zI (HM fun mm gM AFh => ⟨mm, rfl, Kp.CM (Ej (.set gM) _), fun b91 AMM => ?_⟩)
   have AMN : Ext σ0 (τ8.set mm (.map #[] 0)) := (Nv.trans (Jg.trans Rp)).trans (.set gM)
   generalize AFi : τ8.set mm (.map #[] 0) = τ9 at *
   have hm9 : τ9 mm = some (.map #[] 0) := by rw [← AFi, Hp.AA]
   have AFj : Ext τ8 τ9 := by rw [← AFi]; exact .set gM
   have AFk : σ0 mm = none := Aw (Nv.trans (Jg.trans Rp)) gM
   have l43 : τ9 F8 = none := AFh F8 (by rw [G6]; simp)
   have l20 : τ9 BG = none := AFh BG (by rw [G6]; simp)
   obtain ⟨aQ, ur⟩ := Bu AMM
   dsimp only
   rw [DC aQ]
   have Mx : Ext σ0 (σ0.set mm (.map #[] 0)) := .set AFk
   have AMO : Ext (σ0.set mm (.map #[] 0)) τ9 := fun k o hk => by
     by_cases e : k = mm
     · subst e; rw [Hp.AA] at hk; rw [hm9]; exact hk
     · rw [Hp.AH e] at hk; exact AMN k o hk
   have C4 : ∀ {ρ : Hp}, Ext ρ τ8 → Ext (σ0.new ρ) ((σ0.set mm (.map #[] 0)).new τ9) := fun hρ k o hk => by
     obtain ⟨h1, h2⟩ := AO.1 hk
     have h3 := hρ _ _ h2
     have yQ : k ≠ mm := fun e => by rw [e, gM] at h3; cases h3
     exact AO.2 ⟨by rw [Hp.AH yQ]; exact h1, AFj _ _ h3⟩
   have AFl : BA 5 Dn ((σ0.set mm (.map #[] 0)).new τ9) q m d (((ss.take m).map (partOf EO k)).zip mv) := ho.mono Dn.mono (C4 (Jg.trans Rp))
   have dP : ∀ a, q = some a → τ6 a.block ≠ none := fun a hqa => by
     have := ho.block a hqa
     cases hh : (σ0.new τ6) a.block with
     | none => exact absurd hh this
     | some oo => rw [(AO.1 hh).2]; simp
   have lG : ∀ {ρ : Hp}, Ext τ6 ρ → Ext ρ τ8 → Ext (τ6.new ρ) (((σ0.set mm (.map #[] 0)).new τ9).del q) := fun ATM hρ k o hk => by
     obtain ⟨h1, h2⟩ := AO.1 hk
     refine A3.2 ⟨fun a hqa e => dP a hqa (by rw [← e]; exact h1), C4 hρ k o (AO.2 ⟨Aw Nv h1, h2⟩)⟩
   have hE : Dn (((σ0.set mm (.map #[] 0)).new τ9).del q) [.slice q7 ks c7, .int .i64 s.t, .int .u64 (YJ s.v), .slice q8 k d8, .map (some mm)] (partOf EO k s, mm) := ⟨q7, ks, c7, q8, k, d8, rfl, Yp.mono JU.mono (lG Jg Rp), (AS.rd au).mono (fun k' o' DR => by
     obtain ⟨h1, h2⟩ := AO.1 DR
     exact lG (Jg.trans Rp) (.refl _) k' o' (AO.2 ⟨Aw Jg h1, h2⟩))⟩
   refine AJ.B9 nw (HL.set (hO2 l43 l20) (by rw [G6] at aQ ⊢; exact aQ)) (BA.Hy Dn.mono AMO AFl rfl (Dn.one _ _ _ hE) hE (by omega) (fun p' c' rb zJ rh uu => ⟨p', m + 1, c', rfl, ?_⟩) ur)
   have m43 : rb F8 = none := uu F8 (by rw [G6]; simp)
   have m20 : rb BG = none := uu BG (by rw [G6]; simp)
   have AMQ := Vc (q := q) (m := m) (d := d) m43 m20
   have AFm : Ext τ2 rb := (Ux.trans Mx).trans rh
   refine ⟨fun k' DR o' Em => ?_, F8, 0, rfl, ?_⟩
   · simp only [List.mem_cons, List.not_mem_nil, or_false] at DR
     rcases DR with rfl | rfl
     · rw [B3 (i := 1) nw rfl] at Em ⊢; exact Em
     · have e1 : (AX (τ9.set b91 (.cells [.slice q7 ks c7, .int .i64 s.t, .int .u64 (YJ s.v), .slice q8 k d8, .map (some mm)].toArray 129 (0, 0))) (L2 q m d)) k' = some (.cells #[.pointer (some ⟨BG, 0, none⟩)] 118 (0, 0)) := Vc (by rw [Hp.AH (fun e => aQ (by rw [G6, ← e]; simp))]; exact l43) (by rw [Hp.AH (fun e => aQ (by rw [G6, ← e]; simp))]; exact l20) _ _ ((Ext.set ur) _ _ (AFj _ _ (RB _ _ mO.e4)))
       have e2 : some o' = some (Obj.cells #[.pointer (some ⟨BG, 0, none⟩)] 118 (0, 0)) := Em.symm.trans e1
       rw [e2]
       exact AMQ _ _ (AFm _ _ mO.e4)
   · refine AJ.Bz (i := 0) (c := #[.int .u64 e', .int .i64 (rf / 2 + 1), .slice q m d]) (c' := #[.int .u64 e', .int .i64 (rf / 2 + 1), .slice p' (m + 1) c']) mM nw rfl rfl rfl rfl rfl ?_
     refine ⟨Af JQ hs.big, ?_⟩
     have AMR : ((ss.take (m + 1)).map (partOf EO k)).zip (mv ++ [mm]) = ((ss.take m).map (partOf EO k)).zip mv ++ [(partOf EO k s, mm)] := by
       rw [AQ hsi, List.map_append, List.zip_append (by simp [ui]; omega)]; rfl
     refine ih (m + 1) (σ0.set mm (.map #[] 0)) rb (mv ++ [mm]) p' (m + 1) c' (by omega) (by omega) rfl (by rw [AMR]; exact zJ) (Ux.trans Mx) rh (by simp [ui]) ?_ (fun v hv => ?_) m43 m20
     · rw [List.nodup_append]
       refine ⟨Z5, by simp, fun a hav b' JW => ?_⟩
       simp only [List.mem_singleton] at JW
       subst JW
       exact fun e => by have := (mP a hav).1; rw [e, AFk] at this; cases this
     · rcases List.mem_append.1 hv with hv | hv
       · exact ⟨Mx _ _ (mP v hv).1, (mP v hv).2⟩
       · simp only [List.mem_singleton] at hv
         subst hv
         exact ⟨Hp.AA _ _ _, Aw RB gM⟩
end
end TwW
end
section
namespace TwW
open Go Tw Go.RowKit Go.Proofs.Tryz
theorem ri {x : Nat} (hx : x < 18446744073709551616) : Go.bits .and .u64 (x : Int) 127 = ((x % 128 : Nat) : Int) := by
 have := bits_and_u64_nat x 127 hx (by decide)
 rw [show ((127 : Nat) : Int) = 127 from rfl] at this
 rw [this, Nat.and_two_pow_sub_one_eq_mod x 7]
theorem rj {x : Nat} : Go.bits .or .u64 ((x % 128 : Nat) : Int) 128 = ((x % 128 + 128 : Nat) : Int) := by
 have hm := Nat.mod_lt x (show 128 > 0 by decide)
 have := bits_or_u64_nat (x % 128) 128 (by omega) (by decide)
 rw [show ((128 : Nat) : Int) = 128 from rfl] at this
 rw [this, yH ⟨x % 128, hm⟩]
theorem GG {R : Rr} {σ : Hp} {p : Option Addr} {n c x : Nat} {xs : List Int} (hr : By .u8 σ p n xs) (hn : n ≤ 70368744177664) (hx : x < 18446744073709551616)
   (h : ∀ p' n' c' σ', AS .u8 (σ.new σ') p' n' c' (xs ++ uv x) → Ext σ σ' → R (.returned (.slice p' n' c')) σ') : Spec prog 143 #[.slice p n c, .int .u64 x] σ R := by
 refine Ex.start fun b hb => ?_
 refine ER Own.empty ((GM.of_map hr).mono (.set hb)) CN.Cn (by omega) fun p' c' σ' AZ EK => ?_
 have hq : ∀ a : Addr, (some (⟨b, 0, none⟩ : Addr)) = some a → σ a.block = none := fun a ha => by cases ha; exact hb
 have ho := Own.CO AZ (Bt hq EK (.set hb))
 have he := CX hq EK (.set hb)
 refine ⟨p', 0 + n, c', rfl, ?_⟩
 rw [Nat.zero_add] at ho ⊢
 have hlen := hr.1
 suffices H : ∀ (k x n' : Nat) p' c' σ' ys, x < 128 ^ (k + 1) → x < 18446744073709551616 → n' + k ≤ n + 9 → AS .u8 (σ.new σ') p' n' c' ys → Ext σ σ' → (∀ p' n' c' σ', AS .u8 (σ.new σ') p' n' c' (ys ++ uv x) → Ext σ σ' → R (.returned (.slice p' n' c')) σ') → Ex.JZ R x p' n' c' σ' from
   H 9 x n p' c' σ' xs (by omega) hx (by omega) ho he h
 intro k
 induction k with
 | zero =>
   intro x n' p' c' σ' ys hx _ Jj ho he h
   refine Ex.CP ⟨fun Ag => by omega, fun _ H9 Uw b2 G8 => ?_⟩
   have Ns : H9 = (x : Int) := by rw [Uw]; simp [IntKind.wrap, IntKind.bits, IntKind.signed]; omega
   subst Ns
   refine AS.Hy he ho (by omega) (fun p2 c2 σ2 Bs XS _ => ⟨p2, n' + 1, c2, rfl, h _ _ _ _ ?_ XS⟩) G8
   rw [Cb (by omega)]; exact Bs
 | succ k ih =>
   intro x n' p' c' σ' ys hx AMS Jj ho he h
   refine Ex.CP ⟨fun Ag E8 rl FF mR MQ fM b2 G8 => ?_, fun Fb H9 Uw b2 G8 => ?_⟩
   · rw [ri AMS] at rl
     subst rl
     rw [rj] at mR
     subst mR
     have fN : MQ = ((x % 128 + 128 : Nat) : Int) := by
       rw [fM]; simp [IntKind.wrap, IntKind.bits, IntKind.signed]; omega
     subst fN
     refine AS.Hy he ho (by omega) (fun p2 c2 σ2 Bs XS _ => ⟨p2, n' + 1, c2, rfl, by simp [IntKind.bits], fun Cd aA => ?_⟩) G8
     have h12 : Cd = ((x / 128 : Nat) : Int) := by rw [aA]; simp
     subst h12
     refine ih (x / 128) (n' + 1) p2 c2 σ2 _ (by rw [Nat.div_lt_iff_lt_mul (by decide)]; rw [Nat.pow_succ] at hx; exact hx) (by omega) (by omega) Bs XS fun p3 n3 c3 σ3 Dd he3 => h p3 n3 c3 σ3 ?_ he3
     rw [G1 (by omega)]
     simpa using Dd
   · have Ns : H9 = (x : Int) := by rw [Uw]; simp [IntKind.wrap, IntKind.bits, IntKind.signed]; omega
     subst Ns
     refine AS.Hy he ho (by omega) (fun p2 c2 σ2 Bs XS _ => ⟨p2, n' + 1, c2, rfl, h _ _ _ _ ?_ XS⟩) G8
     rw [Cb (by omega)]; exact Bs
section
variable {σ σ' τ : Hp} {R : Rr}
theorem JV {p : Option Addr} {n c : Nat} {xs : List Int} {s : ByteArray} (hr : By .u8 σ p n xs) (hn : n ≤ 1048576) (hs : s.size ≤ 1048576)
   (h : ∀ p' n' c' σ', AS .u8 (σ.new σ') p' n' c' (xs ++ uv s.size ++ Nw s) → Ext σ σ' → R (.returned (.slice p' n' c')) σ') : Spec prog 142 #[.slice p n c, .string s] σ R := by
 refine MR.start fun x8 h8 => ?_
 have e8 : x8 = (s.size : Int) := by rw [h8]; simp [IntKind.wrap, IntKind.bits, IntKind.signed]; omega
 subst e8
 refine GG hr (by omega) (by omega) fun p' n' c' σ1 ho BJ => ⟨p', n', c', rfl, ?_⟩
 have hq := ho.Dh
 have hl : (xs ++ uv s.size).length = n' := by have := ho.1; simpa using this
 have lM := BV (x := s.size) (by omega)
 have Rs : xs.length = n := hr.1
 rw [List.length_append] at hl
 refine dM underlying9 (Own.mono (Ext.Ah _ _) ho) rfl Xo (by omega) fun p2 c2 σ2 Bs Ay _ => ⟨p2, _, c2, rfl, ?_⟩
 have G8 := Bt hq Ay BJ
 refine h p2 _ c2 σ2 ?_ (CX hq Ay BJ)
 have := Own.CO Bs G8
 simpa [AS] using this
theorem RP {k : ByteArray} {p : Option Addr} {n c v : Nat} {d : List Int} (hr : By .u8 σ p n d) (h8 : E7 d) (hk : k.size ≤ 262144) (hd : n ≤ 262144) (hv : v < 18446744073709551616)
   (h : ∀ p' n' c' σ', AS .u8 (σ.new σ') p' n' c' (Cl k d v) → Ext σ σ' → R (.returned (.slice p' n' c')) σ') : Spec prog 70 #[.agg #[.string k, .slice p n c, .int .u64 v]] σ R := by
 have hdl : d.length = n := hr.1
 have AK9 := BV (x := k.size) (by omega)
 have qf := BV (x := v) hv
 have fst : ∀ {R2 : Rr} {τ : Hp}, (∀ p' n' c' σ', AS .u8 (τ.new σ') p' n' c' (uv k.size ++ Nw k) → n' ≤ 262154 → Ext τ σ' → R2 (.returned (.slice p' n' c')) σ') → Spec prog 142 #[.slice none 0 0, .string k] τ R2 := fun hh =>
   JV (xs := []) Fj.nil (by omega) (by omega) fun p6 n6 c6 σ1 Fo BJ => hh p6 n6 c6 σ1 (by simpa using Fo) (by have := C8 Fo; simp [Dy] at this; omega) BJ
 have snd : ∀ {R2 : Rr} {τ τ1 : Hp} {p6 : Option Addr} {n6 c6 : Nat}, Ext τ τ1 → AS .u8 (τ.new τ1) p6 n6 c6 (uv k.size ++ Nw k) → n6 ≤ 262154 → (∀ p' n' c' σ', AS .u8 (τ.new σ') p' n' c' (uv k.size ++ Nw k ++ uv v) → n' ≤ 262164 → Ext τ σ' → R2 (.returned (.slice p' n' c')) σ') → Spec prog 143 #[.slice p6 n6 c6, .int .u64 v] τ1 R2 := fun BJ Fo uw hh =>
   GG (AS.rd (Own.mono (Ext.Ah _ _) Fo)) (by omega) hv fun p9 n9 c9 σ2 Bs Ay => hh p9 n9 c9 σ2 (Own.mono (Ext.CR BJ) Bs) (by have := C8 Bs; have h2 := C8 Fo; rw [List.length_append] at this; omega) (BJ.trans Ay)
 have thd : ∀ {τ1 : Hp} {p9 : Option Addr} {n9 c9 : Nat}, Ext σ τ1 → AS .u8 (σ.new τ1) p9 n9 c9 (uv k.size ++ Nw k ++ uv v) → n9 ≤ 262164 → Spec prog 142 #[.slice p9 n9 c9, .string (strOfNums d)] τ1 (AB R (CS fun Jn n12 c12 A1 => R (.returned (.slice Jn n12 c12)) A1)) := fun Ay Bs hn9 =>
   JV (AS.rd (Own.mono (Ext.Ah _ _) Bs)) (by omega) (by rw [CF]; omega) fun p3 n3 c3 σ3 Dd DJ => ⟨_, _, _, rfl, by
     rw [CF, Kj h8] at Dd
     exact h p3 n3 c3 σ3 (Own.mono (Ext.CR Ay) Dd) (Ay.trans DJ)⟩
 refine Mc.start fun _ => ⟨fst fun p6 n6 c6 σ1 Fo uw BJ => ⟨_, _, _, rfl, ?_, ?_⟩, ?_⟩
 · exact snd BJ Fo uw fun p9 n9 c9 σ2 Bs hn9 Ay => ⟨_, _, _, rfl, F1 (hr.mono Ay) ⟨_, rfl, thd Ay Bs hn9⟩⟩
 · exact F1 (hr.mono BJ) ⟨_, rfl, snd BJ Fo uw fun p9 n9 c9 σ2 Bs hn9 Ay => ⟨_, _, _, rfl, thd Ay Bs hn9⟩⟩
 · exact F1 hr ⟨_, rfl, fst fun p6 n6 c6 σ1 Fo uw BJ => ⟨_, _, _, rfl, snd BJ Fo uw fun p9 n9 c9 σ2 Bs hn9 Ay => ⟨_, _, _, rfl, thd Ay Bs hn9⟩⟩⟩
theorem bC {p : Option Addr} {n c : Nat} {xs : List Int} (hr : By .u8 σ p n xs) (h : ∀ x, R (.returned (.int .u32 x)) σ) : Spec prog 235 #[.slice p n c] σ R := by
 refine EI.start ?_
 suffices H : ∀ d k : Nat, ∀ x : Int, n - k = d → k ≤ n → EI.CC R p n c x k σ from H n 0 _ rfl (Nat.zero_le _)
 intro d
 induction d with
 | zero => intro k x hd hk; exact EI.BS ⟨fun Ag => by omega, fun _ su _ => h su⟩
 | succ d ih =>
   intro k x hd hk
   have DR : k < n := by omega
   obtain ⟨y, hy⟩ := hr.ex DR
   obtain ⟨b, o, rfl, hl⟩ := hr.at hy
   refine EI.BS ⟨fun _ => ⟨b, o, rfl, by omega, y, by simpa using hl, fun _ _ OD _ => ?_⟩, fun hh => by omega⟩
   suffices H2 : ∀ g j : Nat, ∀ z : Int, 8 - j = g → j ≤ 8 → EI.Ui R (aD b o) n c z k j σ from H2 8 0 OD rfl (by omega)
   intro g
   induction g with
   | zero => intro j z hg hj; exact EI.MY ⟨fun Ag => by omega, fun _ => ⟨Af DR hr.big, ih (k + 1) z (by omega) (by omega)⟩⟩
   | succ g ihg =>
     intro j z hg hj
     have nx : ∀ w : Int, EI.pO R (aD b o) n c w k j σ := fun w => EI.pP ⟨by unfold AN; omega, ihg (j + 1) w (by omega) (by omega)⟩
     exact EI.MY ⟨fun _ _ _ => ⟨by simp [IntKind.bits], fun _ _ => ⟨fun _ HP _ => nx HP, fun _ => nx _⟩⟩, fun hh => by omega⟩
theorem VM {p : Option Addr} {n c : Nat} {xs : List Int} (hr : By .u8 σ p n xs) (h0 : R (.returned (.tuple #[.slice none 0 0, .int .i64 23])) σ) (h : ∀ p' n' c' σ' ys, AS .u8 (σ.new σ') p' n' c' ys → n' ≤ 65560 → Ext σ σ' → R (.returned (.tuple #[.slice p' n' c', .int .i64 0])) σ') :
   Spec prog 139 #[.slice p n c] σ R := by
 have Rs : xs.length = n := hr.1
 refine Qb.start ⟨fun _ => h0, fun hn x9 h9 => ?_⟩
 have e9 : x9 = (n : Int) := by rw [h9]; simp [IntKind.wrap, IntKind.bits, IntKind.signed]; omega
 subst e9
 have lM := BV (x := n) (by omega)
 refine GG Fj.nil (by omega) (by omega) fun p1 n1 c1 σ1 Fo BJ => ⟨_, _, _, rfl, ?_⟩
 have SY := C8 Fo
 rw [List.nil_append] at SY
 refine bC (hr.mono BJ) fun Cd => ⟨_, rfl, ?_⟩
 refine TC.start ⟨by simp [IntKind.bits], fun x4 _ x5 _ => ⟨by simp [IntKind.bits], fun x7 _ x8 _ => ⟨by simp [IntKind.bits], fun Dc _ Ed _ E8 _ Jl AMU => ⟨_, _, _, rfl, ?_⟩⟩⟩⟩
 have Ay : Ext σ1 (σ1.set Jl (.cells #[.int .u8 x5, .int .u8 x8, .int .u8 Ed, .int .u8 E8] 5 (0, 0))) := .set AMU
 refine Dq (σ0 := σ) (ys := [x5, x8, Ed, E8].map (Value.int .u8)) (BJ.trans Ay) (Own.mono (Ext.BH Ay) Fo) ⟨rfl, by omega, .inr ⟨Jl, 0, rfl, Dz.of fun j v hj => ?_⟩⟩ CN.Cn (by omega) fun p3 c3 σ3 Dd DJ _ => ⟨_, _, _, rfl, ?_⟩
 · refine AD (Hp.AA _ _ _) ?_
   rw [Nat.zero_add, ← Array.getElem?_toList]
   exact hj
 refine Dq DJ Dd ((GM.of_map hr).mono DJ) CN.Cn (by omega) fun p4 c4 σ4 Pc Lc _ => ⟨_, _, _, rfl, h p4 _ c4 σ4 ([] ++ uv n ++ [x5, x8, Ed, E8] ++ xs) ?_ (by omega) Lc⟩
 simpa [AS] using Pc
theorem bD {x : Int} (h : ∀ s σ', s.size = 8 → Ext σ σ' → R (.returned (.string s)) σ') : Spec prog 147 #[.int .i64 x] σ R := by
 refine Fz.start ?_
 suffices H : ∀ d k : Nat, ∀ (x : Int) (s : ByteArray) (σ' : Hp), 8 - k = d → k ≤ 8 → s.size = k → Ext σ σ' → Fz.CC R x s k σ' from H 8 0 x _ σ rfl (by omega) rfl (.refl _)
 intro d
 induction d with
 | zero => intro k x s σ' hd hk hs hx; exact Fz.BS ⟨fun Ag => by omega, fun _ => h s σ' (by omega) hx⟩
 | succ d ih =>
   intro k x s σ' hd hk hs hx
   refine Fz.BS ⟨fun _ => ⟨by decide, fun Dc lM => ⟨?_, fun Cd _ IE fA => ?_⟩⟩, fun hh => by omega⟩
   · have h1 := Int.tmod_lt_of_pos x (b := 10) (by decide)
     have h2 : -10 < Int.tmod x 10 := by
       have := Int.tmod_lt_of_pos (-x) (b := 10) (by decide)
       rw [Int.neg_tmod] at this
       omega
     unfold AN; omega
   have hr : By .u8 (σ'.set IE (.cells #[.int .u8 Cd] 5 (0, 0))) (some ⟨IE, 0, none⟩) 1 [Cd] := By.Jt ⟨rfl, by omega, .inr ⟨IE, 0, rfl, ⟨AD (Hp.AA _ _ _) rfl, trivial⟩⟩⟩
   have EU : (strOfNums [Cd]).size = 1 := CF
   refine F1 hr ⟨_, rfl, by rw [EU, hs]; omega, by decide, fun Fe _ => ⟨by unfold AN; omega, ?_⟩⟩
   exact ih (k + 1) Fe _ _ (by omega) (by omega) (by rw [ByteArray.size_append, EU, hs]; omega) (hx.trans (.set fA))
def rch (u : UInt8) : Bool := decide ((97 ≤ u.toNat ∧ u.toNat ≤ 122) ∨ (48 ≤ u.toNat ∧ u.toNat ≤ 57) ∨ u.toNat = 47 ∨ u.toNat = 46 ∨ u.toNat = 45)
def bE (s : ByteArray) : Bool := decide (0 < s.size) && decide (s.size ≤ 64) && s.data.toList.all rch
theorem L8 {s : ByteArray} (h : R (.returned (.bool (bE s))) σ) : Spec prog 178 #[.string s] σ R := by
 refine IK.start ⟨fun h0 => ?_, fun h0 => ⟨fun h1 => ?_, fun h1 => ?_⟩⟩
 · have : ¬ 0 < s.size := by omega
   simpa [bE, this] using h
 · have : ¬ s.size ≤ 64 := by omega
   simpa [bE, this] using h
 · refine U6 (s := s) (pt := fun k => IK.As R s k σ) (ok := rch) (G := fun t => R (.returned (.bool t)) σ) (fun g => IK.BO ⟨fun Ag => by omega, fun _ => g⟩) (fun k u hk hu hi good bad => ?_) ?_ (by omega)
   · simp only [rch, decide_eq_true_eq, decide_eq_false_iff_not] at good bad
     refine IK.BO ⟨fun Ag => ⟨u, by omega, hu, ?_⟩, fun Fb => by omega⟩
     clear h
     generalize u.toNat = n at good bad
     repeat' (first | refine ⟨fun _ => ?_, fun _ => ?_⟩ | exact ⟨hi, good (by omega)⟩ | exact bad (by omega))
   · have e : bE s = s.data.toList.all rch := by simp [bE, show 0 < s.size by omega, show s.size ≤ 64 by omega]
     rwa [e] at h
def BZ (q : Option Addr) (n c : Nat) (num : Int) : Obj := .cells #[.slice q n c, .bool false, .bool false, .int .i64 0, .int .i64 0, .int .u64 num] 113 (0, 0)
def slt (a b : ByteArray) : Bool := Op.bytesLess a.toList b.toList
theorem zK {x y : Operand} {a b : ByteArray} {T : TypeId} : YF prog (do eqGuard .lss T x y (.string a) (.string b); binOp .lss T (.string a) (.string b)) σ (.bool (slt a b)) := fun w _ => by
 simp [eqGuard, binOp, Op.stringOp, slt]
variable {q : Option Addr} {c db : Nat} {num : Int} {s f : ByteArray}
theorem RQ (h : σ db = some (BZ q 0 c num)) (hR : R (.returned (.tuple #[.int .i64 0, .bool false])) σ) : Spec prog 237 #[.pointer (some ⟨db, 0, none⟩), .string s] σ R :=
 Cu.start (Cu.CP ⟨db, 0, rfl, q, 0, c, AD h rfl, fun Ag => absurd Ag (by decide), fun _ => ⟨q, 0, c, AD h rfl, fun Ag => absurd Ag (by decide), fun _ => hR⟩⟩)
theorem mS {b o : Nat} (h : σ db = some (BZ (some ⟨b, o, none⟩) 1 c num)) (hl : Hp.ld σ ⟨b, o, none⟩ = some (.string f)) (h1 : slt f s = true → R (.returned (.tuple #[.int .i64 1, .bool false])) σ) (h0 : slt f s = false → R (.returned (.tuple #[.int .i64 0, .bool (decide (f = s))])) σ) :
   Spec prog 237 #[.pointer (some ⟨db, 0, none⟩), .string s] σ R := by
 refine Cu.start (Cu.CP ⟨db, 0, rfl, _, 1, c, AD h rfl, fun _ => ⟨_, 1, c, AD h rfl, b, o, rfl, by omega, f, by simpa using hl, _, zK, fun ht => ⟨by unfold AN; omega, ?_⟩, fun hf => ⟨_, 1, c, AD h rfl, fun _ => ⟨_, 1, c, AD h rfl, b, o, rfl, by omega, f, by simpa using hl, by dsimp only; rw [rH]; exact h0 hf⟩, fun hh => absurd (by decide) hh⟩⟩, fun hh => absurd (by decide) hh⟩)
 exact Cu.CP ⟨db, 0, rfl, _, 1, c, AD h rfl, fun hh => absurd hh (by decide), fun _ => ⟨_, 1, c, AD h rfl, fun hh => absurd hh (by decide), fun _ => h1 ht⟩⟩
theorem bF (h : σ db = some (BZ q 0 c num)) (hR : R (.returned (.slice none 0 0)) σ) : Spec prog 149 #[.pointer (some ⟨db, 0, none⟩), .string s] σ R :=
 Gr.start (Gr.BS ⟨db, 0, rfl, q, 0, c, AD h rfl, fun Ag => absurd Ag (by decide), fun _ => hR⟩)
theorem rm (h : σ db = some (BZ q 0 c num)) (h0 : bE s = true → R (.returned (.int .i64 0)) σ) (h1 : ∀ e : Int, e ≠ 0 → R (.returned (.int .i64 e)) σ) : Spec prog 236 #[.pointer (some ⟨db, 0, none⟩), .string s, .bool false] σ R :=
 GB.start ⟨db, 0, rfl, false, AD h rfl, fun hh => (by cases hh), fun _ => L8 ⟨_, rfl, fun _ => h1 61 (by decide), fun hn => RQ h ⟨_, _, rfl, fun hh => (by cases hh), fun _ => h0 hn⟩⟩⟩
theorem rn {b o : Nat} (h : σ db = some (BZ (some ⟨b, o, none⟩) 1 c num)) (hl : Hp.ld σ ⟨b, o, none⟩ = some (.string f)) (h0 : slt f s = false → R (.returned (.int .i64 0)) σ) (h1 : ∀ e : Int, e ≠ 0 → R (.returned (.int .i64 e)) σ) : Spec prog 236 #[.pointer (some ⟨db, 0, none⟩), .string s, .bool true] σ R :=
 GB.start ⟨db, 0, rfl, false, AD h rfl, fun hh => (by cases hh), fun _ => L8 ⟨_, rfl, fun _ => h1 61 (by decide), fun hn => mS h hl (fun _ => ⟨_, _, rfl, fun _ => ⟨fun _ => h1 62 (by decide), fun hh => (by cases hh)⟩, fun hh => (by cases hh)⟩) fun Ag => ⟨_, _, rfl, fun _ => ⟨fun _ => h1 62 (by decide), fun _ => h0 Ag⟩, fun hh => (by cases hh)⟩⟩⟩
theorem ux {n : Nat} (hR : ∀ SQ, R (.returned (.bool false)) (τ.set db (BZ q n c SQ))) : Spec prog 238 #[.pointer (some ⟨db, 0, none⟩)] (τ.set db (BZ q n c num)) R := by
 refine J3.start ⟨db, 0, rfl, num, Ac rfl, fun x7 _ => ?_⟩
 refine AJ.store Z4 (Hp.AA _ _ _) rfl (by simp) (by simp [Value.cells, Value.oneCell']) ?_
 rw [Hp.set_set]
 have e : (Obj.cells (DU #[.slice q n c, .bool false, .bool false, .int .i64 0, .int .i64 0, .int .u64 num] (0 + 5) (Value.int .u64 x7).cells.toList) 113 (0, 0)) = BZ q n c x7 := by simp [DU, Value.cells, BZ]
 rw [e]
 exact ⟨false, Ac rfl, fun _ => hR x7, fun hh => by cases hh⟩
end
end TwW
end
section
namespace TwW
open Go Tw Go.RowKit Go.Proofs.Tryz
section
variable {τ0 τ : Hp} {R : Rr} {db : Nat} {q p : Option Addr} {n c cc : Nat} {num : Int} {s f : ByteArray}
theorem GM.zero {k : Nat} {σ : Hp} {p : Option Addr} : GM k σ p 0 [] := ⟨by simp, by omega, .inl rfl⟩
theorem rp : ∀ w, (Go.sizeOf 111).run prog w = .ok 1 w := sizeOf111
theorem rq : ∀ w, (Go.sizeOf 148).run prog w = .ok 1 w := sizeOf148
abbrev Ih (f : ByteArray) (qd : Option Addr) (m d : Nat) (y : Int) : List Value := [.string f, .slice qd m d, .int .i64 y]
theorem gi {f : ByteArray} {qd : Option Addr} {m d : Nat} {y : Int} : CN (Ih f qd m d y) := fun u hu => by
 simp only [Ih, List.mem_cons, List.not_mem_nil, or_false] at hu
 rcases hu with rfl | rfl | rfl <;> rfl
theorem dY {T Et : TypeId} [Jk prog T Et 3 48] {vs : List Value} (h3 : vs.length = 3) (h1 : CN vs) {Ik : Nat} {o : Obj} {VY p35 : Option Addr} {Wm c35 : Nat} {Φ : Option Addr → Nat → Nat → Hp → Prop} (hx : Ext τ0 τ) (Tp : τ db = none) (ho : Own 3 (τ0.new τ) VY 0 Wm []) (hl : τ Ik = some (.cells vs.toArray Et (0, 0)))
   (hΦ : ∀ q' c' τ', Ext τ0 τ' → τ' db = none → Own 3 (τ0.new τ') q' 1 c' vs → Φ q' 1 c' (τ'.set db o)) :
   AJ prog (Builtin.append_ #[T, T] T #[.slice VY 0 Wm, .slice (some ⟨Ik, 0, none⟩) 1 1]) (τ.set db o) (CS fun xN n47 xO y4 => AJ prog (Builtin.append_ #[T, T] T #[.slice xN n47 xO, .slice p35 0 c35]) y4 (CS Φ)) := by
 refine AJ.B5 Tp (Dq (ys := vs) hx ho ⟨by omega, by omega, .inr ⟨Ik, 0, rfl, Dz.of fun j v hj => AD hl (by rw [Nat.zero_add, ← Array.getElem?_toList]; exact hj)⟩⟩ h1 (by omega) fun p4 c4 τ4 Pc Lc _ Yx => ⟨_, _, _, rfl, ?_⟩)
 refine AJ.B5 Yx (Dq (ys := []) Lc Pc GM.zero (fun u hu => by cases hu) (by omega) fun p5 c5 τ5 iN Oc _ hn5 => ⟨_, _, _, rfl, ?_⟩)
 exact hΦ p5 c5 τ5 Oc hn5 (by simpa using iN)
theorem AFn {qd : Option Addr} {m d : Nat} {y : Int} (hx : Ext τ0 τ) (Tp : τ db = none) (hR : ∀ q' c' τ', Ext τ0 τ' → τ' db = none → Own 3 (τ0.new τ') q' 1 c' (Ih f qd m d y) → R (.returned (.tuple #[])) (τ'.set db (BZ q' 1 c' num))) :
   Spec prog 239 #[.pointer (some ⟨db, 0, none⟩), .agg #[.string f, .slice qd m d, .int .i64 y]] (τ.set db (BZ q 0 c num)) R := by
 refine Hh.start fun _ => RQ (Hp.AA _ _ _) ⟨_, _, rfl, fun hh => (by cases hh), fun _ => Hh.BS (RQ (Hp.AA _ _ _) ⟨_, _, rfl, fun QI lU => ?_⟩)⟩
 obtain ⟨n28, YM⟩ := Hp.AM lU
 have cm : ∀ {ρ : Hp} {b : Nat} {o u : Obj}, b ≠ db → (ρ.set db u).set b o = (ρ.set b o).set db u := fun h => Hp.Ju (Ne.symm h)
 refine ⟨db, 0, rfl, q, 0, c, by rw [cm n28]; exact Ac rfl, ⟨by omega, by omega⟩, ?_⟩
 rw [cm n28]
 have RB : Ext τ (τ.set QI (.cells #[] 305 (0, 0))) := .set YM
 refine AJ.B5 (Hp.BC (Ne.symm n28) Tp) (Dq (σ0 := τ0) (cs := []) (ys := []) (hx.trans RB) ?_ GM.zero (fun u hu => by cases hu) (by omega) fun p35 c35 τ1 Fo BJ _ Qy => ⟨_, _, _, rfl, ?_⟩)
 · exact Own.CO Own.empty fun a ha => by cases ha; exact Aw hx YM
 refine ⟨q, 0, c, Ac rfl, ⟨by omega, by omega⟩, ?_⟩
 have fin : ∀ (τ2 : Hp) q' c', Ext τ0 τ2 → τ2 db = none → Own 3 (τ0.new τ2) q' 1 c' (Ih f qd m d y) → AJ prog (Instr.storeAt 111 (.pointer (aD db 0)) (.slice q' 1 c')) (τ2.set db (BZ q 0 c num)) (fun _ EA => R (.returned (.tuple #[])) EA) := fun τ2 q' c' Ay PD Bs => by
   refine AJ.store rp (Hp.AA _ _ _) rfl (by simp) (by simp [Value.cells, Value.oneCell']) ?_
   rw [Hp.set_set]
   have e : (Obj.cells (DU #[.slice q 0 c, .bool false, .bool false, .int .i64 0, .int .i64 0, .int .u64 num] 0 (Value.slice q' 1 c').cells.toList) 113 (0, 0)) = BZ q' 1 c' num := by simp [DU, Value.cells, BZ]
   rw [e]
   exact hR q' c' τ2 Ay PD Bs
 have tl : ∀ (τ2 : Hp) (VY : Option Addr) (Wm Ik : Nat), Ext τ0 τ2 → τ2 db = none → Own 3 (τ0.new τ2) VY 0 Wm [] → τ2 Ik = some (.cells (Ih f qd m d y).toArray 305 (0, 0)) → _ := fun τ2 VY Wm Ik Ay PD Bs SF =>
   dY (T := 111) (Et := 305) (db := db) (o := BZ q 0 c num) (p35 := p35) (c35 := c35) (Φ := fun q' n' c' y5 => AJ prog (Instr.storeAt 111 (.pointer (aD db 0)) (.slice q' n' c')) y5 (fun _ EA => R (.returned (.tuple #[])) EA)) rfl gi Ay PD Bs SF fun q' c' τ' h1 h2 h3 => fin τ' q' c' h1 h2 h3
 have C4 : ∀ {ρ : Hp} {b : Nat} {o : Obj}, Ext τ0 ρ → ρ b = none → Ext τ0 (ρ.set b o) := fun h hb => h.trans (.set hb)
 have em : ∀ (τ2 : Hp) (Hr : Nat), Ext τ0 τ2 → τ2 db = none → τ0 Hr = none → Own 3 τ2 (some ⟨Hr, 0, none⟩) 0 0 [] → ∀ {Φ : Value → Hp → Prop}, (∀ p' c' τ', Ext τ0 τ' → Ext (τ2.del (some ⟨Hr, 0, none⟩)) (τ'.del p') → Own 3 (τ0.new τ') p' 0 c' [] → τ' db = none → Φ (.slice p' 0 c') (τ'.set db (BZ q 0 c num))) →
     AJ prog (Builtin.append_ #[111, 111] 111 #[.slice (some ⟨Hr, 0, none⟩) 0 0, .slice q 0 c]) (τ2.set db (BZ q 0 c num)) Φ := fun τ2 Hr Ay PD hb Bs Φ hΦ => by
   refine AJ.B5 PD (ER (ys := []) Bs GM.zero (fun u hu => by cases hu) (by omega) fun p' c' τ' Em Cm Jj => hΦ p' c' τ' ?_ Cm ?_ Jj)
   · exact CX (fun a ha => by cases ha; exact hb) Cm Ay
   · exact Own.CO (by simpa using Em) (Bt (fun a ha => by cases ha; exact hb) Cm Ay)
 refine ⟨fun Hr RR => ⟨?_, fun Ik Nz => ?_⟩, fun Ik Nz Hr RR => ?_⟩
 · obtain ⟨n37, F6⟩ := Hp.AM RR
   rw [cm n37]
   refine em _ Hr (C4 BJ F6) (Hp.BC (Ne.symm n37) Qy) (Aw BJ F6) Own.empty fun p' c' τ' h1 _ h3 h4 => ⟨_, _, _, rfl, fun Ik Nz => ?_⟩
   obtain ⟨n46, F7⟩ := Hp.AM Nz
   rw [cm n46]
   exact tl _ _ _ Ik (C4 h1 F7) (Hp.BC (Ne.symm n46) h4) (Own.mono (Ext.BH (.set F7)) h3) (Hp.AA _ _ _)
 · obtain ⟨n37, F6⟩ := Hp.AM RR
   rw [cm n37] at Nz ⊢
   obtain ⟨n46, F7⟩ := Hp.AM Nz
   rw [cm n46]
   obtain ⟨mT, zL⟩ := Hp.AM F7
   refine em _ Hr (C4 (C4 BJ F6) F7) (Hp.BC (Ne.symm n46) (Hp.BC (Ne.symm n37) Qy)) (Aw BJ F6) (Own.mono (.set F7) Own.empty) fun p' c' τ' h1 h2 h3 h4 => ⟨_, _, _, rfl, ?_⟩
   refine tl _ _ _ Ik h1 h4 h3 ?_
   exact (A3.1 (h2 Ik _ (A3.2 ⟨fun a ha => (by cases ha; exact mT), Hp.AA _ _ _⟩))).2
 · obtain ⟨n46, F7⟩ := Hp.AM Nz
   rw [cm n46] at RR ⊢
   obtain ⟨n37, F6⟩ := Hp.AM RR
   rw [cm n37]
   obtain ⟨YO, bG⟩ := Hp.AM F6
   refine em _ Hr (C4 (C4 BJ F7) F6) (Hp.BC (Ne.symm n37) (Hp.BC (Ne.symm n46) Qy)) (Aw BJ bG) Own.empty fun p' c' τ' h1 h2 h3 h4 => ⟨_, _, _, rfl, ?_⟩
   refine tl _ _ _ Ik h1 h4 h3 ?_
   exact (A3.1 (h2 Ik _ (A3.2 ⟨fun a ha => (by cases ha; exact Ne.symm YO), by rw [Hp.AH (Ne.symm YO), Hp.AA]⟩))).2
theorem mU {xs : List Int} (hx : Ext τ0 τ) (Tp : τ db = none) (hr : By .u8 τ p n xs) (hn : n ≤ 65560) (h1 : ∀ e : Int, e ≠ 0 → R (.returned (.int .i64 e)) (τ.set db (BZ q 0 c num)))
   (hR : ∀ q' c' τ' SQ qd m d y, Ext τ0 τ' → τ' db = none → Own 3 (τ0.new τ') q' 1 c' (Ih s qd m d y) → R (.returned (.int .i64 0)) (τ'.set db (BZ q' 1 c' SQ))) :
   Spec prog 140 #[.pointer (some ⟨db, 0, none⟩), .string s, .slice p n cc] (τ.set db (BZ q 0 c num)) R := by
 have Rs : xs.length = n := hr.1
 refine FU.start (rm (Hp.AA _ _ _) (fun _ => ⟨_, rfl, fun hh => absurd rfl hh, fun _ => ?_⟩) fun e he => ⟨_, rfl, fun _ => h1 e he, fun hh => absurd he hh⟩)
 refine RQ (Hp.AA _ _ _) ⟨_, _, rfl, fun _ => ⟨fun hh => (by cases hh), fun _ => ?_⟩⟩
 refine FU.Ff ⟨fun hh => by omega, fun _ => ⟨by unfold AN; omega, fun hh => by omega, fun _ => ⟨fun _ => ⟨db, 0, rfl, q, 0, c, Ac rfl, fun hh => absurd hh (by decide), fun _ => ?_⟩, fun hh => (by cases hh)⟩⟩⟩
 refine ux fun SQ => ⟨_, rfl, fun Rm zM => ?_⟩
 obtain ⟨n60, dZ⟩ := Hp.AM zM
 rw [Hp.Ju (Ne.symm n60)]
 have AMV : Ext τ (τ.set Rm (.cells #[] 5 (0, 0))) := .set dZ
 refine AJ.B5 (Hp.BC (Ne.symm n60) Tp) (Dq (σ0 := τ) (cs := []) (ys := []) AMV (Own.CO Own.empty fun a ha => by cases ha; exact dZ) GM.zero (fun u hu => by cases hu) (by omega) fun p63 c63 τ1 Fo BJ _ Qy => ⟨_, _, _, rfl, ?_⟩)
 refine AJ.B5 Qy (Dq BJ Fo ((GM.of_map hr).mono BJ) CN.Cn (by omega) fun p65 c65 τ2 Bs Ay _ PD => ⟨_, _, _, rfl, ?_⟩)
 exact AFn (hx.trans Ay) PD fun q' c' τ' h1 h2 h3 => ⟨rfl, fun hh => (by cases hh), fun _ => hR q' c' τ' _ _ _ _ _ h1 h2 h3⟩
theorem zN {qd : Option Addr} {m d : Nat} {y : Int} (hx : Ext τ0 τ) (Tp : τ db = none) (ho : Own 3 (τ0.new τ) q 1 c (Ih f qd m d y)) (hR : ∀ (e : Int) τ' o, Ext τ0 τ' → τ' db = none → R (.returned (.int .i64 e)) (τ'.set db o)) :
   Spec prog 144 #[.pointer (some ⟨db, 0, none⟩), .string s] (τ.set db (BZ q 1 c num)) R := by
 obtain ⟨b, o, arr, T, rfl, hb, fQ, EU, Hv⟩ : ∃ b o arr T, q = some ⟨b, o, none⟩ ∧ (τ0.new τ) b = some (.cells arr T (0, 0)) ∧ 1 ≤ c ∧ o + c * 3 ≤ arr.size ∧ (arr.toList.drop o).take (1 * 3) = Ih f qd m d y := by
   rcases ho.2.2 with ⟨_, h2, _⟩ | h
   · exact absurd h2 (by decide)
   · exact h
 obtain ⟨vO, zO⟩ := AO.1 hb
 have Ad : b ≠ db := fun e => by rw [e, Tp] at zO; cases zO
 have iU : ∀ {u : Obj}, Ext τ (τ.set db u) := .set Tp
 have HF := (Own.rd ho)
 obtain ⟨b', o', hp, hl⟩ : ∃ b' o', (some (⟨b, o, none⟩ : Addr)) = some ⟨b', o', none⟩ ∧ Dz (τ0.new τ) b' o' (Ih f qd m d y) := by
   rcases HF.2.2 with h | ⟨b', o', hp, hl⟩
   · simp [Ih] at h
   · exact ⟨b', o', hp, hl⟩
 cases hp
 have AFo : Dz τ b o (Ih f qd m d y) := hl.mono (Ext.Ah _ _)
 have lf : ∀ {u : Obj}, Hp.ld (τ.set db u) ⟨b, o, none⟩ = some (.string f) := fun {u} => iU.ld AFo.1
 have ls : ∀ {u : Obj}, Hp.ld (τ.set db u) ⟨b, o + 1, none⟩ = some (.slice qd m d) := fun {u} => iU.ld AFo.2.1
 refine J2.start (rn (Hp.AA _ _ _) lf (fun Ag => ⟨_, rfl, fun hh => absurd rfl hh, fun _ => ?_⟩) fun e he => ⟨_, rfl, fun _ => hR e τ _ hx Tp, fun hh => absurd he hh⟩)
 refine ux fun SQ => ⟨_, rfl, fun hh => (by cases hh), fun _ => mS (Hp.AA _ _ _) lf (fun hh => (by rw [Ag] at hh; cases hh)) fun _ => ⟨_, _, rfl, db, 0, rfl, _, 1, c, Ac rfl, _, 1, c, Ac rfl, b, o, rfl, by omega, qd, m, d, by simpa using ls, b, o, rfl, by omega, ?_⟩⟩
 refine AJ.B5 Tp (AJ.store HT zO rfl (by simp [Value.cells]; omega) (by simp [Value.cells, Value.oneCell']) fun hn => hR 0 _ _ (fun k u hk => ?_) hn)
 have C3 : k ≠ b := fun e => by rw [e, vO] at hk; cases hk
 rw [Hp.AH C3]; exact hx k u hk
def uy : ByteArray := ⟨#[107, 118]⟩
def HG (db : Nat) (op sz : Int) : Obj := .cells #[.pointer (some ⟨db, 0, none⟩), .string uy, .int .i64 op, .int .i64 sz, .int .i64 0, .int .i64 0] 146 (0, 0)
variable {wb sb : Nat} {op sz : Int}
theorem YQ {L : List (Nat × Obj)} {i : Nat} {x : Int} (hN : (names L).Nodup) (hO : HL L τ) (hi : L[i]? = some (wb, HG db op sz)) (hR : ∀ s τ', Ext τ τ' → HL L τ' → R (.returned (.string s)) (AX τ' L)) : Spec prog 141 #[.pointer (some ⟨wb, 0, none⟩), .int .i64 x] (AX τ L) R :=
 IA.start ⟨wb, 0, rfl, uy, Hq hN hi rfl, by decide, Spec.B9 hN hO (bD fun s σ' hs hx xy => ⟨_, rfl, Kp.CM (Ej hx L), by rw [hs]; decide, hR _ σ' hx xy⟩)⟩
theorem mV {wb db : Nat} {W D : Obj} : HL [(wb, W), (db, D)] τ ↔ τ wb = none ∧ τ db = none := by simp [HL, names]
theorem mW {wb db : Nat} {W D : Obj} (h : wb ≠ db) : (names [(wb, W), (db, D)]).Nodup := by simp [names, h]
theorem AFp {xs : List Int} (hx : Ext τ0 τ) (Tp : τ db = none) (hwb : τ wb = none) (Ad : wb ≠ db) (hr : By .u8 τ p n xs) (h1 : ∀ (e : Int) τ', e ≠ 0 → Ext τ0 τ' → R (.returned (.int .i64 e)) (AX τ' [(wb, HG db op (-1)), (db, BZ q 0 c num)]))
   (hR : ∀ q' c' τ' SQ s qd m d y zP, 0 ≤ zP → Ext τ0 τ' → τ' db = none → τ' wb = none → Own 3 (τ0.new τ') q' 1 c' (Ih s qd m d y) → R (.returned (.int .i64 0)) (AX τ' [(wb, HG db op zP), (db, BZ q' 1 c' SQ)])) :
   Spec prog 69 #[.pointer (some ⟨wb, 0, none⟩), .slice p n cc] (AX τ [(wb, HG db op (-1)), (db, BZ q 0 c num)]) R := by
 refine GA.start (Spec.B9 (mW Ad) (mV.2 ⟨hwb, Tp⟩) (VM hr (fun _ => ⟨_, _, _, _, rfl, fun _ => h1 70 τ (by decide) hx, fun hh => absurd (by decide) hh⟩) fun p1 n1 c1 τ1 ys Fo Qy BJ xy => ?_))
 refine ⟨_, _, _, _, rfl, fun hh => absurd rfl hh, fun _ => ⟨wb, 0, rfl, -1, Hq (i := 0) (mW Ad) rfl rfl, fun hh => absurd hh (by decide), fun _ => GA.PT ⟨wb, 0, rfl, _, Hq (i := 0) (mW Ad) rfl rfl, op, Hq (i := 0) (mW Ad) rfl rfl, ?_⟩⟩⟩
 refine YQ (i := 0) (mW Ad) xy rfl fun s τ2 Ay SP => ⟨_, rfl, Kp.CM (Ej Ay _), ?_⟩
 obtain ⟨hw2, SD⟩ := mV.1 SP
 show Spec prog 140 _ ((τ2.set db (BZ q 0 c num)).set wb (HG db op (-1))) _
 refine Spec.B5 (Hp.BC Ad hw2) (mU ((hx.trans BJ).trans Ay) SD ((AS.rd (Own.mono (Ext.Ah _ _) Fo)).mono Ay) Qy (fun e he _ => ⟨_, rfl, fun _ => h1 e τ2 he ((hx.trans BJ).trans Ay), fun hh => absurd he hh⟩) fun q' c' τ' SQ qd m d y DJ uC Dd hw3 => ⟨_, rfl, fun hh => absurd rfl hh, fun _ => ⟨-1, Ac rfl, by unfold AN; simp; omega, ?_⟩⟩)
 obtain ⟨_, zQ⟩ := Hp.AM hw3
 refine AJ.store HT (Hp.AA _ _ _) rfl (by simp) (by simp [Value.cells, Value.oneCell']) ?_
 rw [Hp.set_set]
 have e : (Obj.cells (DU #[.pointer (some ⟨db, 0, none⟩), .string uy, .int .i64 op, .int .i64 (-1), .int .i64 0, .int .i64 0] (0 + 3) (Value.int .i64 ((if (-1 : Int) < 0 then 0 else (-1)) + (n1 : Int))).cells.toList) 146 (0, 0)) = HG db op n1 := by simp [DU, Value.cells, HG]
 rw [e]
 exact hR q' c' τ' SQ s qd m d y n1 (by omega) DJ uC zQ Dd
theorem zR {qd : Option Addr} {m d : Nat} {y : Int} (EU : 0 ≤ sz) (hx : Ext τ0 τ) (Tp : τ db = none) (hwb : τ wb = none) (Ad : wb ≠ db) (ho : Own 3 (τ0.new τ) q 1 c (Ih f qd m d y)) (hR : ∀ (e : Int) τ' o, Ext τ0 τ' → τ' db = none → τ' wb = none → R (.returned (.int .i64 e)) (AX τ' [(wb, HG db op sz), (db, o)])) :
   Spec prog 71 #[.pointer (some ⟨wb, 0, none⟩)] (AX τ [(wb, HG db op sz), (db, BZ q 1 c num)]) R := by
 refine LX.start ⟨wb, 0, rfl, sz, Hq (i := 0) (mW Ad) rfl rfl, fun hh => by omega, fun _ => ⟨_, Hq (i := 0) (mW Ad) rfl rfl, op, Hq (i := 0) (mW Ad) rfl rfl, ?_⟩⟩
 refine YQ (i := 0) (mW Ad) (mV.2 ⟨hwb, Tp⟩) rfl fun s τ2 Ay SP => ⟨_, rfl, Kp.CM (Ej Ay _), ?_⟩
 obtain ⟨hw2, SD⟩ := mV.1 SP
 show Spec prog 144 _ ((τ2.set db (BZ q 1 c num)).set wb (HG db op sz)) _
 refine Spec.B5 (Hp.BC Ad hw2) (zN (hx.trans Ay) SD (Own.mono (Ext.BH Ay) ho) fun e τ' o h1 h2 hw3 => ⟨_, rfl, ?_⟩)
 obtain ⟨_, zQ⟩ := Hp.AM hw3
 exact hR e τ' o h1 h2 zQ
def E6 (wb : Nat) (q : Option Addr) (n c : Nat) : Obj := .cells #[.pointer (some ⟨wb, 0, none⟩), .slice q n c] 150 (0, 0)
theorem zS : bE uy = true := by decide
theorem AFt (Tp : τ db = none) (hR : ∀ wb τ', Ext τ τ' → τ' db = none → τ' wb = none → wb ≠ db → R (.returned (.tuple #[.pointer (some ⟨wb, 0, none⟩), .slice none 0 0, .int .i64 0])) (AX τ' [(wb, HG db 1 (-1)), (db, BZ q 0 c num)])) :
   Spec prog 97 #[.pointer (some ⟨db, 0, none⟩), .string uy] (τ.set db (BZ q 0 c num)) R := by
 have h0 : (τ.set db (BZ q 0 c num)) db = some (BZ q 0 c num) := Hp.AA _ _ _
 refine Gc.start ⟨fun hh => absurd hh (by decide), fun _ => L8 ⟨_, rfl, fun hh => (by rw [zS] at hh; cases hh), fun _ => ⟨db, 0, rfl, false, Ac rfl, fun hh => (by cases hh), fun _ => ?_⟩⟩⟩
 refine IM.start ⟨by decide, bF h0 ⟨_, _, _, rfl, IM.qL ⟨fun hh => absurd hh (by decide), fun _ => ⟨by decide, RQ h0 ⟨_, _, rfl, fun hh => (by cases hh), fun _ => IM.I1 (IM.qM ⟨fun hh => absurd hh (by decide), fun _ => ?_⟩)⟩⟩⟩⟩⟩
 refine ⟨_, _, rfl, fun hh => absurd rfl hh, fun _ => ⟨fun hh => absurd hh (by decide), fun _ => Gc.Ub ⟨by decide, bF h0 ⟨_, _, _, rfl, Gc.pA ⟨fun hh => absurd hh (by decide), fun _ => Gc.Uc ⟨fun hh => absurd hh (by decide), fun _ => Gc.pB fun wb hwb => ?_⟩⟩⟩⟩⟩⟩
 obtain ⟨Ad, AMW⟩ := Hp.AM hwb
 have hM : ∀ {u : Obj}, ((τ.set db (BZ q 0 c num)).set wb u) db = some (BZ q 0 c num) := fun {u} => by rw [Hp.AH (Ne.symm Ad)]; exact h0
 refine G0.start ⟨wb, 0, rfl, _, Ac rfl, uy, Ac rfl, by decide, bF hM ⟨_, _, _, rfl, ?_⟩⟩
 refine AJ.store HT (Hp.AA _ _ _) rfl (by simp) (by simp [Value.cells, Value.oneCell']) ?_
 rw [Hp.set_set]
 refine AJ.store HT (Hp.AA _ _ _) rfl (by simp [De]) (by simp [Value.cells, Value.oneCell']) ?_
 rw [Hp.set_set]
 refine AJ.store HT (Hp.AA _ _ _) rfl (by simp [De]) (by simp [Value.cells, Value.oneCell']) ?_
 rw [Hp.set_set]
 refine AJ.store HT (Hp.AA _ _ _) rfl (by simp [De]) (by simp [Value.cells, Value.oneCell']) ?_
 rw [Hp.set_set]
 have e : (Obj.cells (DU (DU (DU (DU #[.pointer (some ⟨db, 0, none⟩), .string uy, .int .i64 0, .int .i64 0, .int .i64 0, .int .i64 0] (0 + 4) (Value.int .i64 0).cells.toList) (0 + 2) (Value.int .i64 0).cells.toList) (0 + 3) (Value.int .i64 (-1)).cells.toList) (0 + 5) (Value.int .i64 0).cells.toList) 146 (0, 0)) = HG db 0 (-1) := by simp [DU, Value.cells, HG]
 rw [e]
 refine G0.BO ⟨fun hh => absurd hh (by decide), fun _ => ⟨wb, 0, rfl, -1, Ac rfl, fun _ => ⟨0, Ac rfl, by unfold AN; decide, ?_⟩, fun hh => absurd (by decide) hh⟩⟩
 refine AJ.store HT (Hp.AA _ _ _) rfl (by simp) (by simp [Value.cells, Value.oneCell']) ?_
 rw [Hp.set_set]
 have e2 : (Obj.cells (DU #[.pointer (some ⟨db, 0, none⟩), .string uy, .int .i64 0, .int .i64 (-1), .int .i64 0, .int .i64 0] (0 + 2) (Value.int .i64 ((if (0 : Int) < 0 then 0 else 0) + 1)).cells.toList) 146 (0, 0)) = HG db 1 (-1) := by simp [DU, Value.cells, HG]
 rw [e2]
 exact ⟨rfl, hR wb τ (.refl _) Tp AMW Ad⟩
theorem U5 {sb wb db : Nat} {S W D : Obj} : HL [(sb, S), (wb, W), (db, D)] τ ↔ τ sb = none ∧ τ wb = none ∧ τ db = none := by simp [HL, names]
theorem nd3 {sb wb db : Nat} {S W D : Obj} (h : wb ≠ db) (h1 : sb ≠ wb) (h2 : sb ≠ db) : (names [(sb, S), (wb, W), (db, D)]).Nodup := by simp [names, h, h1, h2]
def uz (σ : Hp) (sb : Nat) (τ : Hp) : Prop := ∃ wb db q c num ρ, σ = AX ρ [(sb, E6 wb none 0 0), (wb, HG db 1 (-1)), (db, BZ q 0 c num)] ∧ ρ sb = none ∧ ρ wb = none ∧ ρ db = none ∧ wb ≠ db ∧ sb ≠ wb ∧ sb ≠ db ∧ Ext τ ρ
theorem VN (Tp : τ db = none) (hR : ∀ sb σ', uz σ' sb τ → R (.returned (.tuple #[.pointer (some ⟨sb, 0, none⟩), .int .i64 0])) σ') : Spec prog 43 #[.pointer (some ⟨db, 0, none⟩)] (τ.set db (BZ q 0 c num)) R := by
 refine Lv.start (AFt Tp fun wb τ' hx hd hw Ad => ⟨_, _, _, _, _, rfl, fun hh => absurd rfl hh, fun _ sb hsb => Lv.Uk ⟨fun hh => absurd hh (by decide), fun _ => ?_⟩⟩)
 obtain ⟨hn, AMX⟩ := Bu hsb
 simp [names] at hn
 exact hR sb _ ⟨wb, db, q, c, num, τ', rfl, AMX, hw, hd, Ad, hn.1, hn.2, hx⟩
end
end TwW
end
section
namespace TwW
open Go Tw Go.RowKit Go.Proofs.Tryz
section
variable {τ0 τ σ : Hp} {R : Rr} {db wb sb : Nat} {q p : Option Addr} {n c cc : Nat} {s f : ByteArray}
abbrev UP (f : ByteArray) (qd : Option Addr) (m d : Nat) (y : Int) : List Value := [.string f, .slice qd m d, .int .u64 y]
theorem mX {f : ByteArray} {qd : Option Addr} {m d : Nat} {y : Int} : CN (UP f qd m d y) := fun u hu => by
 simp only [UP, List.mem_cons, List.not_mem_nil, or_false] at hu
 rcases hu with rfl | rfl | rfl <;> rfl
theorem da (h : σ db = some (E6 wb q 0 c)) (hR : R (.returned (.tuple #[.int .i64 0, .bool false])) σ) : Spec prog 62 #[.pointer (some ⟨db, 0, none⟩), .string s] σ R :=
 FQ.start (FQ.CP ⟨db, 0, rfl, q, 0, c, AD h rfl, fun Ag => absurd Ag (by decide), fun _ => ⟨q, 0, c, AD h rfl, fun Ag => absurd Ag (by decide), fun _ => hR⟩⟩)
theorem zT {qd : Option Addr} {m d : Nat} {y : Int} (hx : Ext τ0 τ) (Tp : τ db = none) (hR : ∀ q' c' τ', Ext τ0 τ' → τ' db = none → Own 3 (τ0.new τ') q' 1 c' (UP f qd m d y) → R (.returned (.tuple #[])) (τ'.set db (E6 wb q' 1 c'))) :
   Spec prog 72 #[.pointer (some ⟨db, 0, none⟩), .agg #[.string f, .slice qd m d, .int .u64 y]] (τ.set db (E6 wb q 0 c)) R := by
 refine JE.start fun _ => da (Hp.AA _ _ _) ⟨_, _, rfl, fun hh => (by cases hh), fun _ QI lU => ?_⟩
 obtain ⟨n28, YM⟩ := Hp.AM lU
 have cm : ∀ {ρ : Hp} {b : Nat} {o u : Obj}, b ≠ db → (ρ.set db u).set b o = (ρ.set b o).set db u := fun h => Hp.Ju (Ne.symm h)
 refine ⟨db, 0, rfl, q, 0, c, by rw [cm n28]; exact Ac rfl, ⟨by omega, by omega⟩, ?_⟩
 rw [cm n28]
 have RB : Ext τ (τ.set QI (.cells #[] 154 (0, 0))) := .set YM
 refine AJ.B5 (Hp.BC (Ne.symm n28) Tp) (Dq (σ0 := τ0) (cs := []) (ys := []) (hx.trans RB) ?_ GM.zero (fun u hu => by cases hu) (by omega) fun p35 c35 τ1 Fo BJ _ Qy => ⟨_, _, _, rfl, ?_⟩)
 · exact Own.CO Own.empty fun a ha => by cases ha; exact Aw hx YM
 refine ⟨q, 0, c, Ac rfl, ⟨by omega, by omega⟩, ?_⟩
 have fin : ∀ (τ2 : Hp) q' c', Ext τ0 τ2 → τ2 db = none → Own 3 (τ0.new τ2) q' 1 c' (UP f qd m d y) → AJ prog (Instr.storeAt 148 (.pointer (aD db 1)) (.slice q' 1 c')) (τ2.set db (E6 wb q 0 c)) (fun _ EA => R (.returned (.tuple #[])) EA) := fun τ2 q' c' Ay PD Bs => by
   refine AJ.store rq (Hp.AA _ _ _) rfl (by simp) (by simp [Value.cells, Value.oneCell']) ?_
   rw [Hp.set_set]
   have e : (Obj.cells (DU #[.pointer (some ⟨wb, 0, none⟩), .slice q 0 c] 1 (Value.slice q' 1 c').cells.toList) 150 (0, 0)) = E6 wb q' 1 c' := by simp [DU, Value.cells, E6]
   rw [e]
   exact hR q' c' τ2 Ay PD Bs
 have tl : ∀ (τ2 : Hp) (VY : Option Addr) (Wm Ik : Nat), Ext τ0 τ2 → τ2 db = none → Own 3 (τ0.new τ2) VY 0 Wm [] → τ2 Ik = some (.cells (UP f qd m d y).toArray 154 (0, 0)) → _ := fun τ2 VY Wm Ik Ay PD Bs SF =>
   dY (T := 148) (Et := 154) (db := db) (o := E6 wb q 0 c) (p35 := p35) (c35 := c35) (Φ := fun q' n' c' y5 => AJ prog (Instr.storeAt 148 (.pointer (aD db 1)) (.slice q' n' c')) y5 (fun _ EA => R (.returned (.tuple #[])) EA)) rfl mX Ay PD Bs SF fun q' c' τ' h1 h2 h3 => fin τ' q' c' h1 h2 h3
 have C4 : ∀ {ρ : Hp} {b : Nat} {o : Obj}, Ext τ0 ρ → ρ b = none → Ext τ0 (ρ.set b o) := fun h hb => h.trans (.set hb)
 have em : ∀ (τ2 : Hp) (Hr : Nat), Ext τ0 τ2 → τ2 db = none → τ0 Hr = none → Own 3 τ2 (some ⟨Hr, 0, none⟩) 0 0 [] → ∀ {Φ : Value → Hp → Prop}, (∀ p' c' τ', Ext τ0 τ' → Ext (τ2.del (some ⟨Hr, 0, none⟩)) (τ'.del p') → Own 3 (τ0.new τ') p' 0 c' [] → τ' db = none → Φ (.slice p' 0 c') (τ'.set db (E6 wb q 0 c))) →
     AJ prog (Builtin.append_ #[148, 148] 148 #[.slice (some ⟨Hr, 0, none⟩) 0 0, .slice q 0 c]) (τ2.set db (E6 wb q 0 c)) Φ := fun τ2 Hr Ay PD hb Bs Φ hΦ => by
   refine AJ.B5 PD (ER (ys := []) Bs GM.zero (fun u hu => by cases hu) (by omega) fun p' c' τ' Em Cm Jj => hΦ p' c' τ' ?_ Cm ?_ Jj)
   · exact CX (fun a ha => by cases ha; exact hb) Cm Ay
   · exact Own.CO (by simpa using Em) (Bt (fun a ha => by cases ha; exact hb) Cm Ay)
 refine ⟨fun Hr RR => ⟨?_, fun Ik Nz => ?_⟩, fun Ik Nz Hr RR => ?_⟩
 · obtain ⟨n37, F6⟩ := Hp.AM RR
   rw [cm n37]
   refine em _ Hr (C4 BJ F6) (Hp.BC (Ne.symm n37) Qy) (Aw BJ F6) Own.empty fun p' c' τ' h1 _ h3 h4 => ⟨_, _, _, rfl, fun Ik Nz => ?_⟩
   obtain ⟨n46, F7⟩ := Hp.AM Nz
   rw [cm n46]
   exact tl _ _ _ Ik (C4 h1 F7) (Hp.BC (Ne.symm n46) h4) (Own.mono (Ext.BH (.set F7)) h3) (Hp.AA _ _ _)
 · obtain ⟨n37, F6⟩ := Hp.AM RR
   rw [cm n37] at Nz ⊢
   obtain ⟨n46, F7⟩ := Hp.AM Nz
   rw [cm n46]
   obtain ⟨mT, zL⟩ := Hp.AM F7
   refine em _ Hr (C4 (C4 BJ F6) F7) (Hp.BC (Ne.symm n46) (Hp.BC (Ne.symm n37) Qy)) (Aw BJ F6) (Own.mono (.set F7) Own.empty) fun p' c' τ' h1 h2 h3 h4 => ⟨_, _, _, rfl, ?_⟩
   refine tl _ _ _ Ik h1 h4 h3 ?_
   exact (A3.1 (h2 Ik _ (A3.2 ⟨fun a ha => (by cases ha; exact mT), Hp.AA _ _ _⟩))).2
 · obtain ⟨n46, F7⟩ := Hp.AM Nz
   rw [cm n46] at RR ⊢
   obtain ⟨n37, F6⟩ := Hp.AM RR
   rw [cm n37]
   obtain ⟨YO, bG⟩ := Hp.AM F6
   refine em _ Hr (C4 (C4 BJ F7) F6) (Hp.BC (Ne.symm n37) (Hp.BC (Ne.symm n46) Qy)) (Aw BJ bG) Own.empty fun p' c' τ' h1 h2 h3 h4 => ⟨_, _, _, rfl, ?_⟩
   refine tl _ _ _ Ik h1 h4 h3 ?_
   exact (A3.1 (h2 Ik _ (A3.2 ⟨fun a ha => (by cases ha; exact Ne.symm YO), by rw [Hp.AH (Ne.symm YO), Hp.AA]⟩))).2
theorem YR {bs : List Int} (h : uz σ sb τ) (hr : By .u8 τ p n bs) (h8 : E7 bs) (hn : n ≤ 60000) (hR : ∀ (a e : Int) σ', Ext τ σ' → R (.returned (.tuple #[.int .u64 a, .int .i64 e])) σ') :
   Spec prog 31 #[.pointer (some ⟨sb, 0, none⟩), .string F5, .slice p n c, .int .u64 0] σ R := by
 obtain ⟨wb, db, q, cq, num, ρ, rfl, hs, hw, hd, n1, n2, n3, hx⟩ := h
 have hN : ∀ {S W D : Obj}, (names [(sb, S), (wb, W), (db, D)]).Nodup := nd3 n1 n2 n3
 have hO : HL [(sb, E6 wb none 0 0), (wb, HG db 1 (-1)), (db, BZ q 0 cq num)] ρ := U5.2 ⟨hs, hw, hd⟩
 have Rs := HL.ext (hN (S := E6 wb none 0 0) (W := HG db 1 (-1)) (D := BZ q 0 cq num)) hO
 have out : ∀ {σ' : Hp} (a e : Int), Ext ρ σ' → R (.returned (.tuple #[.int .u64 a, .int .i64 e])) σ' := fun a e h => hR a e _ (hx.trans h)
 have KR : ∀ {τ' : Hp} {S W D : Obj}, Ext ρ τ' → Ext ρ (AX τ' [(sb, S), (wb, W), (db, D)]) := fun h => (HL.ext hN (U5.2 ⟨hs, hw, hd⟩)).trans (Ej h _)
 refine GC.start (JN.start (TN.start ⟨fun _ => ⟨_, rfl, fun hh => absurd hh (by decide), fun _ => ⟨sb, 0, rfl, _, Hq (i := 0) hN rfl rfl, wb, 0, rfl, _, Hq (i := 1) hN rfl rfl, db, 0, rfl, false, Hq (i := 2) hN rfl rfl, fun hh => (by cases hh), fun _ => ?_⟩⟩, fun hh => absurd (by decide) hh⟩))
 refine da (B3 (i := 0) hN rfl) ⟨_, _, rfl, fun _ => ⟨_, _, _, _, _, rfl, fun hh => absurd rfl hh, fun _ => ⟨fun hh => absurd rfl hh, fun _ z8 AMY => ?_⟩⟩, fun hh => (by cases hh)⟩
 obtain ⟨aQ, mY⟩ := Bu AMY
 rw [DC aQ]
 refine AJ.B9 hN (HL.set hO aQ) (Dq (σ0 := ρ) (cs := []) (.set mY) (Own.CO Own.empty fun a ha => by cases ha; exact mY) ((GM.of_map (hr.mono hx)).mono (.set mY)) CN.Cn (by omega) fun Ue WW ρ1 Fo BJ _ gh => ⟨_, _, _, rfl, fun NF h38 _ => ?_⟩)
 have e38 : NF = ((1 : Nat) : Int) := by rw [h38]; rfl
 subst e38
 rw [Nat.zero_add, List.nil_append] at Fo
 obtain ⟨Rn, VS, Ro⟩ := U5.1 gh
 refine ⟨sb, 0, rfl, _, Hq (i := 0) hN rfl rfl, ?_⟩
 rw [show (0 + n) = n from Nat.zero_add n]
 refine Spec.B9 hN gh (RP (k := F5) (d := bs) (AS.rd (Own.mono (Ext.Ah _ _) Fo)) h8 (by decide) (by omega) (by decide) fun xM n45 c45 ρ2 Bs Ay SP => ⟨_, _, _, rfl, Kp.CM (Ej Ay _), ?_⟩)
 obtain ⟨aJ, hw2, SD⟩ := U5.1 SP
 have bB : Ext ρ ρ2 := BJ.trans Ay
 have h36 : By .u8 ρ2 Ue n bs := (AS.rd (Own.mono (Ext.Ah _ _) Fo)).mono Ay
 have hS : ∀ {ρ' : Hp} {W D : Obj}, ρ' sb = none → (AX ρ' [(wb, W), (db, D)]) sb = none := fun h => by rw [Gh (by simp [names, n2, n3])]; exact h
 have Ad : ∀ {ρ' : Hp} {W D : Obj}, (AX ρ' [(wb, W), (db, D)]) sb = none → ρ' sb = none := fun h => (Bu h).2
 show Spec prog 69 _ ((AX ρ2 [(wb, HG db 1 (-1)), (db, BZ q 0 cq num)]).set sb (E6 wb none 0 0)) _
 refine Spec.B5 (hS aJ) (AFp (τ0 := ρ) bB SD hw2 n1 (AS.rd (Own.mono (Ext.Ah _ _) Bs)) (fun e τ' he Cm I7 => ⟨_, rfl, fun _ => out _ _ ?_, fun hh => absurd he hh⟩) fun q' c' ρ3 SQ sg qd m d y zP EU DJ uC hw3 Dd I7 => ⟨_, rfl, fun hh => absurd rfl hh, fun _ => ⟨_, Ac rfl, ?_⟩⟩)
 · exact KR Cm
 refine Spec.B5 (hS (by exact Ad (by exact I7))) (zR (τ0 := ρ) EU DJ uC hw3 n1 Dd fun e τ4 o Lc Vb hw4 AFu => ⟨_, rfl, fun _ => out _ _ (KR Lc), fun _ => ?_⟩)
 have hs4 : τ4 sb = none := Ad AFu
 refine zT (τ0 := AX τ4 [(wb, HG db 1 zP), (db, o)]) (.refl _) AFu fun q5 c5 τ5 Oc hs5 iN => ⟨rfl, _, Ac rfl, ?_⟩
 have AFv : (τ5.set sb (E6 wb q5 1 c5)) wb = some (HG db 1 zP) := by
   rw [Hp.AH (Ne.symm n2)]
   exact Oc _ _ (B3 (i := 0) (mW n1) rfl)
 refine HR.start ⟨wb, 0, rfl, zP, AD AFv rfl, fun _ => ⟨0, AD AFv rfl, by unfold AN; decide, _, rfl, fun hh => absurd hh (by decide), fun _ => GC.pk (out _ _ ?_)⟩, fun hh => by omega⟩
 have h6 : Ext ρ (AX τ4 [(wb, HG db 1 zP), (db, o)]) := (HL.ext (mW n1) (mV.2 ⟨hw, hd⟩)).trans (Ej Lc _)
 exact (h6.trans Oc).trans (.set hs5)
end
end TwW
end
section
namespace TwW
open Go Tw Go.RowKit Go.Proofs.Tryz
section
variable {σ σ' τ : Hp} {R : Rr}
def AFw (rf fo re : Int) (ha : Bool) : Value := .agg #[.int .i64 0, .int .i64 rf, .int .i64 0, .int .i64 0, .int .i64 fo, .int .i64 re, .int .i64 0, .int .i64 100, .int .i64 16, .int .i64 100, .bool ha]
theorem YS {rf fo re : Int} {ha : Bool} (hR : ∀ bd md, σ md = none → σ bd = none → bd ≠ md → R (.returned (.pointer (some ⟨bd, 0, none⟩))) ((σ.set md (.map #[] 0)).set bd (HY rf fo re ha md))) : Spec prog 9 #[AFw rf fo re ha] σ R :=
 JG.start fun _ => HM fun md hm => ⟨md, rfl, fun bd hb => by
   obtain ⟨Ad, JW⟩ := Hp.AM hb
   exact hR bd md hm JW Ad⟩
def VO (x : Int) : Int := Go.bits .and .i64 x 9223372036854775807
theorem VP {x : Int} : 0 ≤ VO x ∧ VO x ≤ 9223372036854775807 := by
 unfold VO
 have h2 : (BitVec.ofInt 64 9223372036854775807).toNat = 9223372036854775807 := rfl
 have e : Go.bits .and .i64 x 9223372036854775807 = IntKind.i64.wrap (((BitVec.ofInt 64 x) &&& (BitVec.ofInt 64 9223372036854775807)).toNat : Int) := rfl
 rw [e, BitVec.toNat_and, h2]
 have hle : (BitVec.ofInt 64 x).toNat &&& 9223372036854775807 ≤ 9223372036854775807 := Nat.and_le_right
 generalize (BitVec.ofInt 64 x).toNat &&& 9223372036854775807 = y at hle
 simp [IntKind.wrap, IntKind.bits, IntKind.signed]; omega
theorem Kq {x : Int} (h : R (.returned (.int .i64 (VO x))) σ) : Spec prog 8 #[.int .i64 x] σ R := Wh.start fun x4 h4 => h4 ▸ h
theorem RS {x k : Int} (h : 0 ≤ x) (hk : 0 < k) : 0 ≤ Int.tmod x k ∧ Int.tmod x k < k := ⟨Int.tmod_nonneg _ h, Int.tmod_lt_of_pos _ hk⟩
def PM (x : Int) : Int := if Int.tmod (VO x) 3 = 0 then 1 else if Int.tmod (VO x) 3 = 1 then 3 else 5
theorem dc (x : Int) : PM x = 1 ∨ PM x = 3 ∨ PM x = 5 := by
 unfold PM
 split
 · exact .inl rfl
 · split
   · exact .inr (.inl rfl)
   · exact .inr (.inr rfl)
theorem Ov {x re fo : Int} (h : R (.returned (AFw (PM x) fo re true)) σ) : Spec prog 7 #[.int .i64 x, .int .i64 re, .int .i64 fo] σ R := by
 refine Spec.drop (MO.start fun _ b7 hb7 => Kq ⟨_, rfl, by decide, fun Dc lM => ?_⟩)
 obtain ⟨h0, h3⟩ := RS (x := VO x) (k := 3) VP.1 (by decide)
 have l0 : Hp.ld (σ.set b7 (.cells #[.int .i64 1, .int .i64 3, .int .i64 5] 3 (0, 0))) ⟨b7, 0 + Int.toNat Dc * 1, none⟩ = some (.int .i64 (PM x)) := by
   unfold PM
   rw [← lM] at *
   by_cases e0 : Dc = 0
   · rw [if_pos e0]; subst e0; exact Ac rfl
   · by_cases e1 : Dc = 1
     · rw [if_neg e0, if_pos e1]; rw [e1]; exact Ac rfl
     · have e2 : Dc = 2 := by omega
       rw [if_neg e0, if_neg e1]; rw [e2]; exact Ac rfl
 exact ⟨⟨by omega, by omega⟩, PM x, l0, .mk (.set hb7) h⟩
structure JB (ms : List Mem) (n : Nat) : Prop where
 ok : LA ms
 ids : ids ms = (List.range n).map fun (k : Nat) => (k : Int)
 act : ∀ m ∈ ms, m.state = 2
 tok : ∀ m ∈ ms, ∀ t ∈ m.B4, nn t
theorem JB.len {ms : List Mem} {n : Nat} (h : JB ms n) : ms.length = n := by
 have := congrArg List.length h.ids
 simpa [TwW.ids] using this
theorem JB.B8 {ms : List Mem} {n : Nat} (h : JB ms n) : B8 ms = (List.range n).map fun (k : Nat) => (k : Int) := by
 rw [← h.ids]
 unfold TwW.B8 TwW.ids
 rw [List.filter_eq_self.2 fun m hm => by simp [h.act m hm]]
theorem JB.de {ms : List Mem} {n : Nat} (h : JB ms n) {m : Mem} (hm : m ∈ ms) : m.id < n := by
 have : m.id ∈ TwW.ids ms := List.mem_map.2 ⟨m, hm, rfl⟩
 rw [h.ids] at this
 obtain ⟨k, hk, he⟩ := List.mem_map.1 this
 have := List.mem_range.1 hk
 omega
theorem bH {xs : List Int} {x : Int} (h : EN xs) (hx : ∀ y ∈ xs, y < x) : EN (xs ++ [x]) := by
 unfold EN at *
 rw [List.pairwise_append]
 exact ⟨h, by simp, fun a ha b hb => by simp at hb; subst hb; exact hx a ha⟩
theorem RT {n : Nat} (hn : n ≤ 16) (h : ∀ p c σ' ms, PI σ' p n ms → JB ms n → Ext σ σ' → R (.returned (F3 (2 * n : Nat) p n c)) σ') : Spec prog 11 #[.int .i64 n] σ R := by
 refine Fv.start fun _ _ => ?_
 suffices H : ∀ d k : Nat, ∀ p c σ' ms, n - k = d → k ≤ n → PI σ' p k ms → JB ms k → Ext σ σ' → Fv.CC R n 0 none 0 0 (2 * k : Nat) p k c k σ' from H n 0 none 0 σ [] rfl (Nat.zero_le _) Fj.nil ⟨⟨by simp, by simp [ids, EN]⟩, by simp [ids], by simp, by simp⟩ (.refl _)
 intro d
 induction d with
 | zero =>
   intro k p c σ' ms hd hk hr hg hx
   refine Fv.BS ⟨fun Ag => by omega, fun _ => ?_⟩
   have : k = n := by omega
   subst this
   exact h p c σ' ms hr hg hx
 | succ d ih =>
   intro k p c σ' ms hd hk hr hg hx
   have DR : k < n := by omega
   have hlen := hg.len
   have fit : ∀ {EO : List Mem} {e : Int}, LA EO → 0 ≤ e → e ≤ 40 → Fit EO e k := fun h1 h2 h3 => ⟨h1, by unfold Om; omega, by omega, by omega⟩
   have BQ : place ms k = -1 := Q7 fun m hm => by have := hg.de hm; omega
   have hj : ∀ code EO, lk ms k code EO → code = 0 ∧ ∃ t, EN t ∧ 1 ≤ t.length ∧ t.length ≤ 4 ∧ (∀ y ∈ t, 0 ≤ y ∧ y < 4294967296) ∧ EO = ms ++ [⟨k, 1, t⟩] := by
     rintro code EO (⟨h1, _⟩ | ⟨_, h1, i, t, hi, _, h2, h3, h4, h5, h6, h7⟩)
     · exact absurd BQ h1
     · have hie : i = ms.length := by
         refine Nat.le_antisymm hi (Nat.le_of_not_lt fun Ag => ?_)
         exact h2 _ (List.getElem?_eq_getElem Ag) (hg.de (List.getElem_mem Ag))
       subst hie
       exact ⟨h1, t, h3, h4, h5, h6, by simpa using h7⟩
   refine Fv.BS ⟨fun _ => aW hr hg.ok.small (by unfold Om; omega) ⟨fun hb => absurd (fit hg.ok (by omega) (by omega)) hb, fun _ code EO hC Ad => absurd (hj code EO hC).1 Ad, fun _ p1 n1 c1 σ1 ms1 hC fz BJ => ⟨_, _, _, _, _, rfl, ?_⟩⟩, fun hh => by omega⟩
   obtain ⟨_, t, ht, yj, ht4, lL, rfl⟩ := hj _ _ hC
   have gN : ∀ s : Int, 1 ≤ s → s ≤ 3 → LA (ms ++ [⟨k, s, t⟩]) := fun s h1 h2 => by
     refine ⟨fun m hm => ?_, ?_⟩
     · rcases List.mem_append.1 hm with hm | hm
       · exact hg.ok.1 m hm
       · simp at hm; subst hm
         exact ⟨by show (0 : Int) ≤ k; omega, by show (k : Int) < 16; omega, h1, h2, yj, by show t.length ≤ 64; omega, ht⟩
     · have e : ids (ms ++ [⟨k, s, t⟩]) = ids ms ++ [(k : Int)] := by simp [ids]
       rw [e]
       exact bH hg.ok.2 fun y hy => by
         obtain ⟨m, hm, rfl⟩ := List.mem_map.1 hy
         exact hg.de hm
   have uZ : place (ms ++ [⟨k, 1, t⟩]) k = ms.length := Q8 (m := ⟨k, 1, t⟩) (by simp) rfl fun m hm => by
     rw [List.take_append_of_le_length (Nat.le_refl _), List.take_length] at hm
     have := hg.de hm; omega
   have htn : ∀ code EO, Xw 1 2 (ms ++ [⟨k, 1, t⟩]) k code EO → code = 0 ∧ EO = ms ++ [⟨k, 2, t⟩] := by
     rintro code EO (⟨h1, _⟩ | ⟨j, m, T7, hm, hh⟩)
     · rw [uZ] at h1; omega
     · rw [uZ] at T7
       obtain rfl : j = ms.length := by omega
       simp at hm; subst hm
       rcases hh with ⟨h1, _⟩ | ⟨_, h1, h2⟩
       · exact absurd rfl h1
       · exact ⟨h1, by rw [h2]; simp⟩
   have hk1 : ((2 * k : Nat) : Int) + 1 = ((2 * k + 1 : Nat) : Int) := by omega
   rw [hk1]
   refine RC fz (gN 1 (by decide) (by decide)).small (by unfold Om; omega) ⟨fun hb => absurd (fit (gN 1 (by decide) (by decide)) (by omega) (by omega)) hb, fun _ code EO hC Ad => absurd (htn code EO hC).1 Ad, fun _ p2 n2 c2 σ2 ms2 yn UB Ay => ⟨_, _, _, _, _, rfl, by unfold AN; omega, ?_⟩⟩
   obtain ⟨_, rfl⟩ := htn _ _ yn
   have PD : n2 = k + 1 := by have := UB.1; simp at this; omega
   subst PD
   have e2 : ((2 * k + 1 : Nat) : Int) + 1 = ((2 * (k + 1) : Nat) : Int) := by omega
   rw [e2]
   refine ih (k + 1) p2 c2 σ2 _ (by omega) (by omega) UB ⟨gN 2 (by decide) (by decide), ?_, fun m hm => ?_, fun m hm => ?_⟩ ((hx.trans BJ).trans Ay)
   · have e : ids (ms ++ [⟨k, 2, t⟩]) = ids ms ++ [(k : Int)] := by simp [ids]
     rw [e, hg.ids, List.range_succ, List.map_append]; rfl
   · rcases List.mem_append.1 hm with hm | hm
     · exact hg.act m hm
     · simp at hm; subst hm; rfl
   · rcases List.mem_append.1 hm with hm | hm
     · exact hg.tok m hm
     · simp at hm; subst hm
       exact fun y hy => lL y hy
theorem rr {e : Nat} {ms : List Mem} (h : LA ms) (he : e < 18446744073709551616) : (enc e ms).length ≤ 60000 := by
 have h1 := Tn ms fun m hm => (h.1 m hm).2.2.2.2.2.1
 have h2 := h.len
 have h3 := BV he
 have h4 := M5 (ms.length : Nat)
 simp only [enc, List.length_append]
 omega
theorem YT {k : ByteArray} : DW [] k = ([], 0) := rfl
theorem Ow {K : List ByteArray} {e n c : Nat} {p : Option Addr} {ms : List Mem} (hK : F5 ∈ K) (hK8 : K.length ≤ 8) (ht : Tb σ) (hr : PI σ p n ms) (Ap : LA ms) (Ly : ∀ m ∈ ms, ∀ t ∈ m.B4, nn t) (he : e < 18446744073709551616)
   (hR : ∀ (dk bb s sb : Nat) σ' D W rows ts τ, Hm σ' dk bb s D W rows τ → gU D W rows ts → rQ K rows → D.armed = false → D.cnt ≤ 2 → ts.length ≤ 9 → Tr (DW rows F5).1 e ms → (∀ k, DW rows k = if F5 = k then (enc e ms, 1) else ([], 0)) → Ext σ τ → R (.returned (.tuple #[.pointer (some ⟨s, 0, none⟩), .pointer (some ⟨sb, 0, none⟩)])) σ') :
   Spec prog 10 #[F3 e p n c] σ R := by
 refine Ma.start fun _ => SC fun d σ1 S1 Ro BJ => ⟨_, rfl, ?_⟩
 have h1 : Ai σ1 d ⟨fun _ => none, true, false, 0⟩ σ := ⟨S1, Ro, BJ⟩
 refine YC h1 ht rfl rfl rfl (fun _ => rfl) fun s b σ2 W FG h2 Bs JO => ⟨_, _, rfl, fun R3 AMZ => ?_⟩
 refine VN (τ := σ2) (q := none) (c := 0) (num := 0) AMZ fun sb σ3 mN => ⟨_, _, rfl, ?_⟩
 obtain ⟨wb, db, q, cq, num, ρ, rfl, hs, hw, hd, n1, n2, n3, hx⟩ := mN
 have hN : ∀ {S W D : Obj}, (names [(sb, S), (wb, W), (db, D)]).Nodup := nd3 n1 n2 n3
 have h3 := h2.mono hx
 refine Spec.B9 hN (U5.2 ⟨hs, hw, hd⟩) (Ou (hr.Q4 h3.ext) Ap.small he ⟨fun hb => absurd Ap hb, fun _ p1 n1' c1 ρ1 Fo AMa gh => ⟨_, _, _, _, rfl, fun hh => (by cases hh), fun _ => ⟨fun hh => absurd rfl hh, fun _ => ?_⟩⟩⟩)
 obtain ⟨τ1, h4, x4, x4n⟩ := h3.grow AMa
 have PA : By .u8 τ1 p1 n1' (enc e ms) := (AS.rd Fo).mono x4n
 have zm : (enc e ms).length = n1' := PA.1
 have h60 := rr Ap he
 refine Spec.B9 hN gh (l9 (K := K) h4 (ht.mono x4) Bs ⟨fun x hx => (by cases hx), fun x => by rw [YT]; decide⟩ hK8 YL hK PA (Pj he) h60 (by decide) (by show 0 + 1 < _; decide) (fun hh => absurd (by rw [YT]) hh) (fun _ ρ2 D2 W2 XH ts2 h5 iN hs5 hl5 ha5 hc5 _ SP => ⟨_, _, rfl, ?_⟩) fun hh => (by cases hh))
 have hg5 : ∀ k, DW XH k = if F5 = k then (enc e ms, 1) else ([], 0) := fun k => by
   unfold DW
   rw [hl5 k]
   show (if F5 = k then some (enc e ms, 0 + 1) else CG [] k).getD ([], 0) = _
   by_cases hk : F5 = k
   · rw [if_pos hk, if_pos hk]; rfl
   · rw [if_neg hk, if_neg hk]; rfl
 obtain ⟨g1, g2, g3⟩ := U5.1 SP
 refine YR (τ := ρ2) ⟨wb, db, q, cq, num, ρ2, rfl, g1, g2, g3, n1, n2, n3, .refl _⟩ (PA.mono h5.ext) (Pj he) (by omega) fun a e' σ5 Oc => ⟨_, _, rfl, ?_⟩
 refine hR d b s sb σ5 D2 W2 XH ts2 τ1 (h5.mono Oc) iN hs5 ha5 ?_ ?_ ⟨by rw [hg5, if_pos rfl], Ap, Ly, he⟩ hg5 x4
 · have := hc5.1
   simpa using this
 · rcases hc5.2 with h | h
   · simp at h; omega
   · exact h
theorem AFx : Enters prog 103 := fun args w => call103 args w
theorem u6 : Enters prog 105 := fun args w => call105 args w
theorem AFy : Enters prog 107 := fun args w => call107 args w
theorem AFz : Enters prog 110 := fun args w => call110 args w
theorem gj {bd BG : Nat} {qk : Option Addr} (hR : ∀ b3 b4 b5 D7 σ', M7 σ' b3 b4 b5 BG bd qk → σ' D7 = some (.cells #[(.func (.func 103) #[] #[(.pointer (some ⟨b4, 0, none⟩)), (.pointer (some ⟨b3, 0, none⟩))]), (.func (.func 105) #[] #[(.pointer (some ⟨b3, 0, none⟩)), (.pointer (some ⟨b4, 0, none⟩))]), (.func (.func 107) #[] #[(.pointer (some ⟨b5, 0, none⟩)), (.pointer (some ⟨b3, 0, none⟩)), (.pointer (some ⟨b4, 0, none⟩))]), (.func (.func 110) #[] #[(.pointer (some ⟨b4, 0, none⟩)), (.pointer (some ⟨b3, 0, none⟩)), (.pointer (some ⟨b5, 0, none⟩))])] 123 (0, 0)) → Ext σ σ' → R (.returned (.slice (some ⟨D7, 0, none⟩) 4 4)) σ') :
   Spec prog 47 #[.pointer (some ⟨bd, 0, none⟩), .pointer (some ⟨BG, 0, none⟩), .pointer qk] σ R := by
 refine DO.start fun b3 h3 b4 h4 b5 h5 D7 nj => ?_
 have x3 : Ext σ _ := .set h3 (o := .cells #[.pointer (some ⟨bd, 0, none⟩)] 33 (0, 0))
 have x4 := Ext.set h4 (o := .cells #[.pointer (some ⟨BG, 0, none⟩)] 118 (0, 0))
 have x5 := Ext.set h5 (o := .cells #[.pointer qk] 35 (0, 0))
 exact hR b3 b4 b5 D7 _ ⟨Ext.set nj _ _ (x5 _ _ (x4 _ _ (Hp.AA _ _ _))), Ext.set nj _ _ (x5 _ _ (Hp.AA _ _ _)), Ext.set nj _ _ (Hp.AA _ _ _)⟩ (Hp.AA _ _ _) (((x3.trans x4).trans x5).trans (.set nj))
end
end TwW
end
section
namespace TwW
open Go Tw Go.RowKit Go.Proofs.Tryz
section
variable {σ σ' τ : Hp} {R : Rr}
def YU (x : ByteArray) (xs : List ByteArray) : Bool := xs.any fun y => decide (x = y)
theorem mZ {x : ByteArray} {xs : List ByteArray} : YU x xs = true ↔ x ∈ xs := by simp [YU]
theorem RU {p : Option Addr} {n c : Nat} {x : ByteArray} {xs : List ByteArray} (hr : GM 1 σ p n (xs.map .string)) (h : R (.returned (.bool (YU x xs))) σ) : Spec prog 271 #[.slice p n c, .string x] σ R := by
 have hn : xs.length = n := by have := hr.1; simpa using this
 have FW : n ≤ 4611686018427387904 := hr.2.1
 have key : ∀ i : Int, (0 ≤ i ↔ x ∈ xs) → AB R (CI .i64 fun x7 y => R (.returned (.bool (decide (0 ≤ x7)))) y) (.returned (.int .i64 i)) σ := fun i hi => ⟨i, rfl, by
   dsimp only
   rw [show decide (0 ≤ i) = YU x xs by rw [Bool.eq_iff_iff, mZ, decide_eq_true_eq]; exact hi]; exact h⟩
 refine slices_Contains_string.start (slices_Index_string.start ?_)
 suffices H : ∀ d k : Nat, n - k = d → k ≤ n → x ∉ xs.take k → slices_Index_string.Ni (AB R (CI .i64 fun x7 y => R (.returned (.bool (decide (0 ≤ x7)))) y)) p n c x n k σ from H n 0 rfl (Nat.zero_le _) (by simp)
 intro d
 induction d with
 | zero =>
   intro k hd hk BQ
   refine slices_Index_string.D6 ⟨fun Ag => by omega, fun _ => key (-1) ?_⟩
   rw [List.take_of_length_le (by omega)] at BQ
   exact ⟨fun h => absurd h (by decide), fun h => absurd h BQ⟩
 | succ d ih =>
   intro k hd hk BQ
   have DR : k < n := by omega
   obtain ⟨y, hy⟩ : ∃ y, xs[k]? = some y := ⟨_, List.getElem?_eq_getElem (by omega)⟩
   obtain ⟨b, o, rfl, hl⟩ := GM.at1 hr (k := k) (v := .string y) (by rw [List.getElem?_map, hy]; rfl)
   refine slices_Index_string.D6 ⟨fun _ => ⟨b, o, rfl, by omega, y, by simpa using hl, fun he => key k ⟨fun _ => ?_, fun _ => by omega⟩, fun Ad => ⟨Af DR FW, ih (k + 1) (by omega) (by omega) ?_⟩⟩, fun Fb => by omega⟩
   · rw [rH, decide_eq_true_eq] at he
     rw [he]; exact List.mem_of_getElem? hy
   · rw [rH, decide_eq_false_iff_not] at Ad
     rw [Fa hy]
     rintro (h1 | h1)
     · exact BQ h1
     · exact Ad h1
theorem YV {f : Nat} {cap : Array Value} {g : Lb → Bool} {p : Option Addr} {n c : Nat} {ls : List Lb} (Jr : Enters prog f) (hr : Pf σ p n ls) (hn : n ≤ 1000000)
   (hf : ∀ (σ' : Hp) (x : Lb) (R' : Rr), Ext σ σ' → R' (.returned (.bool (g x))) σ' → Spec prog f (#[] ++ #[.agg #[.string x.1, .string x.2]] ++ cap) σ' R')
   (h : ∀ p' n' c' σ', BA 2 JU (σ.new σ') p' n' c' (ls.filter g) → Ext σ σ' → R (.returned (.slice p' n' c')) σ') : Spec prog 269 #[.slice p n c, .func (.func f) #[] cap] σ R := by
 have rD : ls.length = n := hr.1
 refine DF.start ?_
 suffices H : ∀ d k : Nat, ∀ p5 n5 c5 σ5, n - k = d → k ≤ n → BA 2 JU (σ.new σ5) p5 n5 c5 ((ls.take k).filter g) → Ext σ σ5 → DF.A5 R (.func (.func f) #[] cap) p5 n5 c5 p n c n k σ5 from H n 0 none 0 0 σ rfl (Nat.zero_le _) BA.nil (.refl _)
 intro d
 induction d with
 | zero =>
   intro k p5 n5 c5 σ5 hd hk ho hx
   refine DF.AW ⟨fun Ag => by omega, fun _ => h p5 n5 c5 σ5 ?_ hx⟩
   rw [List.take_of_length_le (by omega)] at ho; exact ho
 | succ d ih =>
   intro k p5 n5 c5 σ5 hd hk ho hx
   have DR : k < n := by omega
   obtain ⟨x, SE⟩ := hr.ex DR
   obtain ⟨b, o, rfl, hl⟩ := Pf.at hr SE
   have hn5 : n5 ≤ n := by
     have h1 := ho.1
     have h2 := List.length_filter_le g (ls.take k)
     rw [List.length_take] at h2
     omega
   have ht : (ls.take (k + 1)).filter g = (ls.take k).filter g ++ if g x then [x] else [] := by
     rw [AQ SE, List.filter_append]
     by_cases hg : g x <;> simp [hg]
   refine DF.AW ⟨fun _ => ⟨b, o, rfl, by omega, x.1, x.2, by simpa using hl.mono hx, fun _ => ⟨f, #[], cap, rfl, Jr, hf σ5 x _ hx ⟨_, rfl, fun hg Yc AMb => ?_, fun hg => ?_⟩⟩⟩, fun hh => by omega⟩
   · refine BA.Hy JU.mono (vs := [.string x.1, .string x.2]) (x := x) hx ho rfl (JU.one σ _ _ rfl) rfl (by omega) (fun p' c' σ' Em Cm => ⟨_, _, _, rfl, DF.Ff ⟨Af DR hr.big, ih (k + 1) _ _ _ _ (by omega) (by omega) ?_ Cm⟩⟩) AMb
     rw [ht, if_pos hg]; exact Em
   · refine DF.Ff ⟨Af DR hr.big, ih (k + 1) _ _ _ _ (by omega) (by omega) ?_ hx⟩
     rw [ht, if_neg (by simp [hg]), List.append_nil]; exact ho
theorem AF0 : Enters prog 270 := fun args w => call270 args w
theorem VQ {p q : Option Addr} {n c m d : Nat} {ls : List Lb} {ns : List ByteArray} (hr : Pf σ p n ls) (hn : n ≤ 1000000) (hs : GM 1 σ q m (ns.map .string))
   (h : ∀ p' n' c' σ', BA 2 JU (σ.new σ') p' n' c' (ls.filter fun x => !YU x.1 ns) → Ext σ σ' → R (.returned (.slice p' n' c')) σ') : Spec prog 194 #[.slice p n c, .slice q m d] σ R := by
 refine LK.start fun b3 Ur => ?_
 have DJ : Ext σ (σ.set b3 (.cells #[.slice q m d] 97 (0, 0))) := .set Ur
 refine YV (f := 270) (g := fun x => !YU x.1 ns) AF0 (hr.mono JU.mono DJ) hn (fun σ' x R' hx hR' => ?_) fun p' n' c' σ' ho hx => ⟨_, _, _, rfl, h p' n' c' σ' ?_ (DJ.trans hx)⟩
 · refine JK.start fun _ => ⟨q, m, d, AD (hx _ _ (Hp.AA _ _ _)) rfl, RU (hs.mono (DJ.trans hx)) ⟨_, rfl, hR'⟩⟩
 · exact ho.mono JU.mono (Ext.CR DJ)
def HH : ByteArray := ⟨#[99, 108, 117, 115, 116, 101, 114]⟩
def C5 : ByteArray := ⟨#[114, 101, 112, 108, 105, 99, 97]⟩
abbrev A4 : ByteArray := ⟨#[]⟩
def El : List Sm → Option (ByteArray × ByteArray)
 | [] => none
 | s :: l => if A8 s.ls C5 ≠ A4 then some (A8 s.ls HH, A8 s.ls C5) else El l
def DA (s : Sm) : Bool := decide (A8 s.ls HH ≠ A4) && decide (A8 s.ls C5 ≠ A4)
def HZ (s : Sm) : Sm := ⟨s.ls.filter fun x => !YU x.1 [C5], s.t, s.v⟩
theorem RV {l : List Sm} {s : Sm} : El (l ++ [s]) = (El l).or (if A8 s.ls C5 ≠ A4 then some (A8 s.ls HH, A8 s.ls C5) else none) := by
 induction l with
 | nil => simp [El]
 | cons a l ih =>
   rw [List.cons_append, El, El]
   by_cases h : A8 a.ls C5 ≠ A4
   · rw [if_pos h, if_pos h]; rfl
   · rw [if_neg h, if_neg h, ih]
abbrev L4 (b6 b7 b8 b9 : Nat) (cl re : ByteArray) (sm al : Bool) : List (Nat × Obj) :=
 [(b9, .cells #[.bool al] 4 (0, 0)), (b8, .cells #[.bool sm] 4 (0, 0)), (b7, .cells #[.string re] 9 (0, 0)), (b6, .cells #[.string cl] 9 (0, 0))]
theorem gk {b6 b7 b8 b9 : Nat} {cl re : ByteArray} {sm al : Bool} {q : Option Addr} {k c : Nat} {s : Sm} (hN : [b9, b8, b7, b6].Nodup) (hO : ∀ b ∈ [b9, b8, b7, b6], τ b = none) (hq : Pf τ q k s.ls)
   (hR : R (.returned (.tuple #[])) (AX τ (L4 b6 b7 b8 b9 (if sm = false ∧ A8 s.ls C5 ≠ A4 then A8 s.ls HH else cl) (if sm = false ∧ A8 s.ls C5 ≠ A4 then A8 s.ls C5 else re) (sm || decide (A8 s.ls C5 ≠ A4)) (al && DA s)))) :
   Spec prog 193 #[.agg #[.slice q k c, .int .i64 s.t, .int .u64 s.v], .pointer (some ⟨b8, 0, none⟩), .pointer (some ⟨b6, 0, none⟩), .pointer (some ⟨b7, 0, none⟩), .pointer (some ⟨b9, 0, none⟩)] (AX τ (L4 b6 b7 b8 b9 cl re sm al)) R := by
 have hn : ∀ {cl re sm al}, (names (L4 b6 b7 b8 b9 cl re sm al)).Nodup := hN
 have hx : Ext τ (AX τ (L4 b6 b7 b8 b9 cl re sm al)) := HL.ext hn hO
 have hq' := hq.mono JU.mono hx
 refine Iz.start fun _ => Fh (k := HH) hq' ⟨_, rfl, Fh (k := C5) hq' ⟨_, rfl, sm, Hq (i := 1) hn rfl rfl, ?_⟩⟩
 have e1 : ∀ s : ByteArray, (s.toList == (ByteArray.mk #[]).toList) = decide (s = A4) := fun _ => rH
 have fin : ∀ cl' re' sm', R (.returned (.tuple #[])) (AX τ (L4 b6 b7 b8 b9 cl' re' sm' (al && DA s))) → Iz.A5 R b9 (A8 s.ls HH) (A8 s.ls C5) (AX τ (L4 b6 b7 b8 b9 cl' re' sm' al)) := fun cl' re' sm' h => by
   refine Iz.AW ⟨al, Hq (i := 0) hn rfl rfl, fun ha => ?_, fun ha => ?_⟩
   · subst ha
     rw [e1, e1]
     refine ⟨fun h1 => ?_, fun h1 => ?_⟩
     · refine AJ.Bz (i := 0) (c := #[.bool true]) (c' := #[.bool (!decide (A8 s.ls C5 = A4))]) JP hn rfl rfl rfl rfl rfl ?_
       rw [decide_eq_false_iff_not] at h1
       have : (true && DA s) = !decide (A8 s.ls C5 = A4) := by unfold DA; simp [h1]
       rw [this] at h; exact h
     · refine AJ.Bz (i := 0) (c := #[.bool true]) (c' := #[.bool false]) JP hn rfl rfl rfl rfl rfl ?_
       rw [decide_eq_true_eq] at h1
       have : (true && DA s) = false := by unfold DA; simp [h1]
       rw [this] at h; exact h
   · subst ha
     refine AJ.Bz (i := 0) (c := #[.bool false]) (c' := #[.bool false]) JP hn rfl rfl rfl rfl rfl ?_
     simpa using h
 refine ⟨fun hs => ?_, fun hs => ?_⟩
 · subst hs
   rw [e1]
   refine ⟨fun h1 => ?_, fun h1 => ?_⟩
   · rw [decide_eq_false_iff_not] at h1
     refine AJ.Bz (i := 3) (c := #[.string cl]) (c' := #[.string (A8 s.ls HH)]) sizeOf9 hn rfl rfl rfl rfl rfl ?_
     refine AJ.Bz (L := L4 b6 b7 b8 b9 (A8 s.ls HH) re false al) (i := 2) (c := #[.string re]) (c' := #[.string (A8 s.ls C5)]) sizeOf9 hn rfl rfl rfl rfl rfl ?_
     refine AJ.Bz (L := L4 b6 b7 b8 b9 (A8 s.ls HH) (A8 s.ls C5) false al) (i := 1) (c := #[.bool false]) (c' := #[.bool true]) JP hn rfl rfl rfl rfl rfl ?_
     refine fin _ _ true ?_
     rw [if_pos ⟨rfl, h1⟩, if_pos ⟨rfl, h1⟩, decide_eq_true h1] at hR
     exact hR
   · rw [decide_eq_true_eq] at h1
     refine fin _ _ false ?_
     rw [if_neg (by simp [h1]), if_neg (by simp [h1]), decide_eq_false (by simp [h1])] at hR
     exact hR
 · subst hs
   refine fin _ _ true ?_
   rw [if_neg (by simp), if_neg (by simp), Bool.true_or] at hR
   exact hR
theorem AF1 : Enters prog 193 := fun args w => call193 args w
theorem bI {p : Option Addr} {n c : Nat} {ss : List Sm} (hr : Jh σ p n ss) (hn : n ≤ 256) (MC : ∀ s ∈ ss, G3 s.ls)
   (ma : El ss = none → ∀ q m d σ', BA 3 Mw (σ.new σ') q m d ss → Ext σ σ' → R (.returned (.tuple #[.string A4, .string A4, .slice q m d, .int .i64 0])) σ')
   (mb : ∀ cl re, El ss = some (cl, re) → (∀ s ∈ ss, A8 s.ls HH = cl ∧ A8 s.ls C5 = re) → ∀ q m d σ', BA 3 Mw (σ.new σ') q m d (ss.map HZ) → Ext σ σ' → R (.returned (.tuple #[.string cl, .string re, .slice q m d, .int .i64 0])) σ')
   (mc : ∀ cl re, El ss = some (cl, re) → ¬ (ss.all DA = true ∧ ∀ s ∈ ss, A8 s.ls HH = cl ∧ A8 s.ls C5 = re) → R (.returned (.tuple #[.string A4, .string A4, .slice none 0 0, .int .i64 160])) σ) :
   Spec prog 106 #[.slice p n c] σ R := by
 have rD : ss.length = n := hr.1
 refine Spec.drop (Cz.start fun b6 h6 b7 h7 b8 h8 b9 h9 => ?_)
 obtain ⟨n76, h7'⟩ := Hp.AM h7
 obtain ⟨n87, h8'⟩ := Hp.AM h8
 obtain ⟨n86, AMe⟩ := Hp.AM h8'
 obtain ⟨n98, h9'⟩ := Hp.AM h9
 obtain ⟨n97, AMf⟩ := Hp.AM h9'
 obtain ⟨n96, AF2⟩ := Hp.AM AMf
 have hN : [b9, b8, b7, b6].Nodup := by simp [n98, n97, n96, n87, n86, n76]
 have Yx : ∀ {cl re sm al}, (names (L4 b6 b7 b8 b9 cl re sm al)).Nodup := hN
 have zU : ∀ b ∈ [b9, b8, b7, b6], σ b = none := fun b hb => by
   simp only [List.mem_cons, List.not_mem_nil, or_false] at hb
   rcases hb with rfl | rfl | rfl | rfl
   · exact AF2
   · exact AMe
   · exact h7'
   · exact h6
 have Vc : ∀ {ρ : Hp} {cl re sm al}, (∀ b ∈ [b9, b8, b7, b6], ρ b = none) → Ext ρ (AX ρ (L4 b6 b7 b8 b9 cl re sm al)) := fun h => HL.ext Yx h
 show AJ prog (Instr.storeAt 9 (.pointer (aD b6 0)) (.string A4)) (AX σ (L4 b6 b7 b8 b9 A4 A4 false false)) _
 refine AJ.Bz (i := 3) (c := #[.string A4]) (c' := #[.string A4]) sizeOf9 Yx rfl rfl rfl rfl rfl ?_
 refine AJ.Bz (L := L4 b6 b7 b8 b9 A4 A4 false false) (i := 2) (c := #[.string A4]) (c' := #[.string A4]) sizeOf9 Yx rfl rfl rfl rfl rfl ?_
 refine AJ.Bz (L := L4 b6 b7 b8 b9 A4 A4 false false) (i := 1) (c := #[.bool false]) (c' := #[.bool false]) JP Yx rfl rfl rfl rfl rfl ?_
 refine AJ.Bz (L := L4 b6 b7 b8 b9 A4 A4 false false) (i := 0) (c := #[.bool false]) (c' := #[.bool true]) JP Yx rfl rfl rfl rfl rfl ?_
 show Cz.Gk (Drop R) p n c b6 b7 b8 b9 _ p n c n 0 (AX σ (L4 b6 b7 b8 b9 A4 A4 false true))
 let cl : List Sm → ByteArray := fun l => ((El l).map (·.1)).getD A4
 let re : List Sm → ByteArray := fun l => ((El l).map (·.2)).getD A4
 let sm : List Sm → Bool := fun l => (El l).isSome
 suffices H1 : ∀ d k : Nat, n - k = d → k ≤ n → Cz.Gk (Drop R) p n c b6 b7 b8 b9 (.func (.func 193) #[] #[.pointer (some ⟨b8, 0, none⟩), .pointer (some ⟨b6, 0, none⟩), .pointer (some ⟨b7, 0, none⟩), .pointer (some ⟨b9, 0, none⟩)]) p n c n k (AX σ (L4 b6 b7 b8 b9 (cl (ss.take k)) (re (ss.take k)) (sm (ss.take k)) ((ss.take k).all DA))) from H1 n 0 rfl (Nat.zero_le _)
 intro d
 induction d with
 | succ d ih =>
   intro k hd hk
   have DR : k < n := by omega
   obtain ⟨s, hs⟩ := hr.ex DR
   obtain ⟨b, o, q, kq, cq, rfl, hl, hq⟩ := Jh.at hr hs
   refine Cz.Fc ⟨fun _ => ⟨b, o, rfl, by omega, q, kq, cq, s.t, s.v, by simpa using hl.mono (Vc zU), fun _ => ⟨193, #[], _, rfl, AF1, gk hN zU hq ⟨rfl, Af DR hr.big, ?_⟩⟩⟩, fun hh => by omega⟩
   have := ih (k + 1) (by omega) (by omega)
   have e0 : ss.take (k + 1) = ss.take k ++ [s] := AQ hs
   have e1 : cl (ss.take (k + 1)) = (if sm (ss.take k) = false ∧ A8 s.ls C5 ≠ A4 then A8 s.ls HH else cl (ss.take k)) := by
     simp only [cl, sm, e0, RV]
     cases El (ss.take k) with
     | some x => simp
     | none => by_cases h : A8 s.ls C5 = A4 <;> simp [h]
   have e2 : re (ss.take (k + 1)) = (if sm (ss.take k) = false ∧ A8 s.ls C5 ≠ A4 then A8 s.ls C5 else re (ss.take k)) := by
     simp only [re, sm, e0, RV]
     cases El (ss.take k) with
     | some x => simp
     | none => by_cases h : A8 s.ls C5 = A4 <;> simp [h]
   have e3 : sm (ss.take (k + 1)) = (sm (ss.take k) || decide (A8 s.ls C5 ≠ A4)) := by
     simp only [sm, e0, RV]
     cases El (ss.take k) with
     | some x => simp
     | none => by_cases h : A8 s.ls C5 = A4 <;> simp [h]
   have e4 : (ss.take (k + 1)).all DA = ((ss.take k).all DA && DA s) := by rw [e0]; simp
   rw [e1, e2, e3, e4] at this
   exact this
 | zero =>
   intro k hd hk
   have Pn : n = k := by omega
   subst Pn
   rw [List.take_of_length_le (by omega)]
   refine Cz.Fc ⟨fun Ag => by omega, fun _ => ?_⟩
   let out : Sm → Sm := fun s => if sm ss then HZ s else s
   have iW : ∀ {ρ : Hp} {a1 a2 a3 a4}, Hp.ld (AX ρ (L4 b6 b7 b8 b9 a1 a2 a3 a4)) ⟨b8, 0, none⟩ = some (.bool a3) ∧ Hp.ld (AX ρ (L4 b6 b7 b8 b9 a1 a2 a3 a4)) ⟨b9, 0, none⟩ = some (.bool a4) ∧ Hp.ld (AX ρ (L4 b6 b7 b8 b9 a1 a2 a3 a4)) ⟨b6, 0, none⟩ = some (.string a1) ∧ Hp.ld (AX ρ (L4 b6 b7 b8 b9 a1 a2 a3 a4)) ⟨b7, 0, none⟩ = some (.string a2) :=
     ⟨Hq (i := 1) Yx rfl rfl, Hq (i := 0) Yx rfl rfl, Hq (i := 3) Yx rfl rfl, Hq (i := 2) Yx rfl rfl⟩
   have bad : ∀ (ρ : Hp), Ext σ ρ → (∀ b ∈ [b9, b8, b7, b6], ρ b = none) → sm ss = true → ¬ (ss.all DA = true ∧ ∀ s ∈ ss, A8 s.ls HH = cl ss ∧ A8 s.ls C5 = re ss) → Drop R (.returned (.tuple #[.string A4, .string A4, .slice none 0 0, .int .i64 160])) (AX ρ (L4 b6 b7 b8 b9 (cl ss) (re ss) (sm ss) (ss.all DA))) := fun ρ hx ho h1 h2 => by
     cases hf : El ss with
     | none => simp [sm, hf] at h1
     | some x => exact .mk (hx.trans (Vc ho)) (mc x.1 x.2 hf (by simpa [cl, re, hf] using h2))
   suffices H2 : ∀ d k : Nat, ∀ p3 c3 σ3, n - k = d → k ≤ n → (∀ b ∈ [b9, b8, b7, b6], σ3 b = none) → BA 3 Mw (σ.new σ3) p3 k c3 ((ss.take k).map out) → Ext σ σ3 → (sm ss = true → ss.all DA = true ∨ k = 0) → (sm ss = true → ∀ s ∈ ss.take k, A8 s.ls HH = cl ss ∧ A8 s.ls C5 = re ss) →
       Cz.qG (Drop R) b6 b7 b8 b9 p3 k c3 p n c n k (AX σ3 (L4 b6 b7 b8 b9 (cl ss) (re ss) (sm ss) (ss.all DA))) from H2 n 0 none 0 σ rfl (Nat.zero_le _) zU BA.nil (.refl _) (fun _ => .inr rfl) (fun _ s hs => by simp at hs)
   intro d
   induction d with
   | zero =>
     intro k p3 c3 σ3 hd hk ru ho hx h1 h2
     have Pn : k = n := by omega
     subst Pn
     rw [List.take_of_length_le (by omega)] at ho h2
     refine Cz.ca ⟨fun Ag => by omega, fun _ => ⟨_, iW.2.2.1, _, iW.2.2.2, ?_⟩⟩
     cases hf : El ss with
     | none =>
       have e1 : cl ss = A4 := by simp [cl, hf]
       have e2 : re ss = A4 := by simp [re, hf]
       have e3 : ss.map out = ss := by
         have : out = id := by funext s; simp [out, sm, hf]
         rw [this, List.map_id]
       rw [e3] at ho
       rw [e1, e2]
       exact .mk (Vc ru) (ma hf p3 k c3 σ3 ho hx)
     | some x =>
       have AF3 : sm ss = true := by simp [sm, hf]
       have e1 : cl ss = x.1 := by simp [cl, hf]
       have e2 : re ss = x.2 := by simp [re, hf]
       have e3 : ss.map out = ss.map HZ := by
         have : out = HZ := by funext s; simp [out, AF3]
         rw [this]
       rw [e3] at ho
       have fD := h2 AF3
       rw [e1, e2] at fD ⊢
       exact .mk (Vc ru) (mb x.1 x.2 hf fD p3 k c3 σ3 ho hx)
   | succ d ih =>
     intro k p3 c3 σ3 hd hk ru ho hx h1 h2
     have DR : k < n := by omega
     obtain ⟨s, hs⟩ := hr.ex DR
     have rZ := MC s (List.mem_of_getElem? hs)
     obtain ⟨b, o, q, kq, cq, rfl, hl, hq⟩ := Jh.at hr hs
     have hql : s.ls.length = kq := hq.1
     have fN := rZ.1
     have hqL : ∀ {a1 a2 a3 a4}, Pf (AX σ3 (L4 b6 b7 b8 b9 a1 a2 a3 a4)) q kq s.ls := (hq.mono JU.mono hx).mono JU.mono (Vc ru)
     have hnL : ∀ {a1 a2 a3 a4}, names (L4 b6 b7 b8 b9 a1 a2 a3 a4) = [b9, b8, b7, b6] := rfl
     have put : ∀ (σ5 : Hp) (q5 : Option Addr) (m5 d5 : Nat), Ext σ3 σ5 → (∀ b ∈ [b9, b8, b7, b6], σ5 b = none) → BA 2 JU (σ3.new σ5) q5 m5 d5 (out s).ls → (sm ss = true → ss.all DA = true) → (sm ss = true → A8 s.ls HH = cl ss ∧ A8 s.ls C5 = re ss) →
         Cz.QQ (Drop R) b6 b7 b8 b9 p3 k c3 q5 m5 d5 s.t s.v (aD b o) n c n k (AX σ5 (L4 b6 b7 b8 b9 (cl ss) (re ss) (sm ss) (ss.all DA))) := by
       intro σ5 q5 m5 d5 Oc hO5 hq5 ha hg
       refine Cz.qJ fun b65 AMh => ?_
       obtain ⟨aQ, AF4⟩ := Bu AMh
       rw [DC aQ]
       have AF5 : BA 3 Mw (σ.new σ5) p3 k c3 ((ss.take k).map out) := ho.mono Mw.mono (Ext.BH Oc)
       have dP : ∀ a, p3 = some a → σ3 a.block ≠ none := fun a hpa => by
         have := ho.block a hpa
         cases hh : (σ.new σ3) a.block with
         | none => exact absurd hh this
         | some oo => rw [(AO.1 hh).2]; simp
       have CV : Ext (σ3.new σ5) ((σ.new σ5).del p3) := Ext.Hx hx dP
       have rX : (out s).t = s.t ∧ (out s).v = s.v := by
         simp only [out]
         split <;> exact ⟨rfl, rfl⟩
       have he : Mw ((σ.new σ5).del p3) [.slice q5 m5 d5, .int .i64 s.t, .int .u64 s.v] (out s) := ⟨q5, m5, d5, by rw [rX.1, rX.2], (hq5.rd JU.mono).mono JU.mono CV⟩
       refine AJ.B9 Yx (HL.set (L := L4 b6 b7 b8 b9 (cl ss) (re ss) (sm ss) (ss.all DA)) hO5 aQ) (BA.Hy Mw.mono (hx.trans Oc) AF5 rfl (Mw.one _ _ _ he) he (by omega) (fun p' c' σ6 nq Nv AMj => ⟨_, _, _, rfl, Af DR hr.big, ih (k + 1) p' c' σ6 (by omega) (by omega) AMj ?_ Nv (fun h => .inl (ha h)) fun h s' Ho => ?_⟩) AF4)
       · rw [AQ hs, List.map_append]; exact nq
       · rw [AQ hs] at Ho
         rcases List.mem_append.1 Ho with Ho | Ho
         · exact h2 h s' Ho
         · simp at Ho; subst Ho; exact hg h
     have go : (sm ss = true → ss.all DA = true) → (sm ss = true → A8 s.ls HH = cl ss ∧ A8 s.ls C5 = re ss) → Al (AX σ3 (L4 b6 b7 b8 b9 (cl ss) (re ss) (sm ss) (ss.all DA))) fun kM => AJ prog (Builtin.append_ #[22, 22] 22 #[(.slice (aD kM 0) 0 0), .slice q kq cq]) (Hp.set (AX σ3 (L4 b6 b7 b8 b9 (cl ss) (re ss) (sm ss) (ss.all DA))) kM (.cells #[] 61 (0, 0))) (CS fun qH na qI y => LB y b8 0 fun t57 => Bo t57 (Al y fun Rm => Spec prog 194 #[.slice qH na qI, (.slice (aD Rm 0) 1 1)] (Hp.set y Rm (.cells #[(.string (ByteArray.mk #[114, 101, 112, 108, 105, 99, 97]))] 9 (0, 0))) (AB (Drop R) (CS fun wq n61 sr AI => Cz.QQ (Drop R) b6 b7 b8 b9 p3 k c3 wq n61 sr s.t s.v (aD b o) n c n k AI))) (Cz.QQ (Drop R) b6 b7 b8 b9 p3 k c3 qH na qI s.t s.v (aD b o) n c n k y)) := by
       intro ha hg kM AMk
       obtain ⟨aQ, AF6⟩ := Bu AMk
       rw [DC aQ]
       refine AJ.B9 Yx (HL.set (L := L4 b6 b7 b8 b9 (cl ss) (re ss) (sm ss) (ss.all DA)) ru aQ) (Ta (hq.mono JU.mono hx) (by omega) (fun q4 c4 σ4 Pc Lc AF7 => ⟨_, _, _, rfl, sm ss, iW.1, fun ht => ?_, fun ht => ?_⟩) AF6)
       · intro Rm zM
         obtain ⟨uw, dZ⟩ := Bu zM
         show Spec prog 194 _ ((AX σ4 _).set Rm (.cells #[.string C5] 9 (0, 0))) _
         rw [DC uw]
         have me : Ext σ4 (σ4.set Rm (.cells #[.string C5] 9 (0, 0))) := .set dZ
         refine Spec.B9 Yx (HL.set (L := L4 b6 b7 b8 b9 (cl ss) (re ss) (sm ss) (ss.all DA)) AF7 uw) (VQ (ns := [C5]) (((Pc.rd JU.mono).mono JU.mono (Ext.Ah _ _)).mono JU.mono me) (by omega) ⟨rfl, by omega, .inr ⟨Rm, 0, rfl, ⟨AD (Hp.AA _ _ _) rfl, trivial⟩⟩⟩ fun q5 m5 c5 σ5 iN Oc AMl => ⟨_, _, _, rfl, ?_⟩)
         refine put σ5 q5 m5 c5 ((Lc.trans me).trans Oc) AMl ?_ ha hg
         have e : (out s).ls = s.ls.filter fun x => !YU x.1 [C5] := by simp only [out]; rw [if_pos ht]; rfl
         rw [e]
         exact iN.mono JU.mono (Ext.CR (Lc.trans me))
       · refine put σ4 q4 kq c4 Lc AF7 ?_ ha hg
         have e : (out s).ls = s.ls := by simp only [out]; rw [if_neg (by simp [ht])]
         rw [e]; exact Pc
     have Cf : s ∈ ss := List.mem_of_getElem? hs
     refine Cz.ca ⟨fun _ => ⟨b, o, rfl, by omega, q, kq, cq, s.t, s.v, by simpa using hl.mono (hx.trans (Vc ru)), fun _ => ⟨sm ss, iW.1, fun ht => ⟨ss.all DA, iW.2.1, fun ha => bad σ3 hx ru ht fun hh => (by rw [hh.1] at ha; cases ha), fun ha => ⟨cl ss, iW.2.2.1, ?_⟩⟩, fun ht => go (fun h => by rw [ht] at h; cases h) fun h => by rw [ht] at h; cases h⟩⟩, fun hh => by omega⟩
     refine Fh (k := HH) hqL ⟨_, rfl, Kp.CM (.refl _), fun Ad => ?_, fun heq => ⟨re ss, iW.2.2.2, Fh (k := C5) hqL ⟨_, rfl, Kp.CM (.refl _), fun Ad => ?_, fun AF8 => ?_⟩⟩⟩
     · rw [rH, decide_eq_false_iff_not] at Ad
       exact bad σ3 hx ru ht fun hh => Ad (hh.2 s Cf).1
     · rw [rH, decide_eq_false_iff_not] at Ad
       exact bad σ3 hx ru ht fun hh => Ad (hh.2 s Cf).2
     · rw [rH, decide_eq_true_eq] at heq AF8
       exact go (fun _ => ha) fun _ => ⟨heq, AF8⟩
end
end TwW
end
section
namespace TwW
open Go Tw Go.RowKit Go.Proofs.Tryz
section
variable {σ σ' τ : Hp} {R : Rr}
variable {b3 b4 b5 BG bd md : Nat} {qk : Option Addr} {rf fo re now : Int} {ha : Bool} {ten : ByteArray} {p : Option Addr} {n c : Nat} {ss : List Sm}
theorem bJ (h5 : M7 τ b3 b4 b5 BG bd qk) (hd : τ bd = some (HY rf fo re true md)) (hb : τ BG = none) (hs : Jh τ p n ss) (hn : n ≤ 256) (MC : ∀ s ∈ ss, G3 s.ls)
   (ma : El ss = none → ∀ q m d τ', BA 3 Mw (τ.new τ') q m d ss → Ext τ τ' → τ' BG = none → R (.returned (.int .i64 0)) (τ'.set BG (Bf ten A4 A4 q m d now none)))
   (mb : ∀ cl rep, El ss = some (cl, rep) → (∀ s ∈ ss, A8 s.ls HH = cl ∧ A8 s.ls C5 = rep) → ∀ q m d τ', BA 3 Mw (τ.new τ') q m d (ss.map HZ) → Ext τ τ' → τ' BG = none → R (.returned (.int .i64 0)) (τ'.set BG (Bf ten cl rep q m d now none)))
   (mc : ∀ cl rep, El ss = some (cl, rep) → ¬ (ss.all DA = true ∧ ∀ s ∈ ss, A8 s.ls HH = cl ∧ A8 s.ls C5 = rep) → ∀ τ', Ext τ τ' → R (.returned (.int .i64 3)) τ') :
   Spec prog 105 #[.pointer (some ⟨b3, 0, none⟩), .pointer (some ⟨b4, 0, none⟩)] (τ.set BG (Bf ten A4 A4 p n c now none)) R := by
 have hx : ∀ {o : Obj}, Ext τ (τ.set BG o) := .set hb
 refine Ba.start ⟨_, AD (hx _ _ h5.e3) rfl, bd, 0, rfl, true, AD (hx _ _ hd) rfl, fun h => (by cases h), fun _ => ⟨_, AD (hx _ _ h5.e4) rfl, _, AD (hx _ _ h5.e4) rfl, _, AD (hx _ _ h5.e4) rfl, _, AD (hx _ _ h5.e4) rfl, BG, 0, rfl, p, n, c, Ac rfl, ?_⟩⟩
 have kp : ∀ {τ' : Hp} {o o' : Obj} {L : List Nat}, Ext τ τ' → (∀ k ∈ L, k = b4) → Kp L (τ.set BG o) (τ'.set BG o') := fun Cm hL k hk u hu => by
   rw [hL k hk] at hu ⊢
   have Ad : b4 ≠ BG := fun e => by have := h5.e4; rw [e, hb] at this; cases this
   rw [Hp.AH Ad] at hu ⊢
   exact Cm _ _ hu
 have kp2 : ∀ {τ' : Hp} {o o' : Obj} {L : List Nat}, Ext τ τ' → τ' BG = none → (∀ k ∈ L, k = b4) → Kp L (τ'.set BG o) (τ'.set BG o') := fun Cm Jj hL k hk u hu => by
   rw [hL k hk] at hu ⊢
   have Ad : b4 ≠ BG := fun e => by have := h5.e4; rw [e, hb] at this; cases this
   rw [Hp.AH Ad] at hu ⊢
   exact hu
 have st : ∀ (τ' : Hp) (cl rep : ByteArray) (q : Option Addr) (m d : Nat) (e : Int), Ext τ τ' → τ' BG = none → (e = 0 → R (.returned (.int .i64 0)) (τ'.set BG (Bf ten cl rep q m d now none))) → (e ≠ 0 → R (.returned (.int .i64 3)) (τ'.set BG (Bf ten cl rep q m d now none))) →
     Kp [b4, b4, b4] (τ.set BG (Bf ten A4 A4 p n c now none)) (τ'.set BG (Bf ten A4 A4 p n c now none)) ∧ Pq (some ⟨BG, 0, none⟩) fun NB cH => AJ prog (Instr.storeAt 9 (.pointer (aD NB (cH + 1))) (.string cl)) (τ'.set BG (Bf ten A4 A4 p n c now none)) (fun _ AI => Kp [b4, b4] (τ'.set BG (Bf ten A4 A4 p n c now none)) AI ∧ Pq (some ⟨BG, 0, none⟩) fun PZ o26 => AJ prog (Instr.storeAt 9 (.pointer (aD PZ (o26 + 2))) (.string rep)) AI (fun _ Ab => Kp [b4] AI Ab ∧ Pq (some ⟨BG, 0, none⟩) fun QI bt => AJ prog (Instr.storeAt 46 (.pointer (aD QI (bt + 3))) (.slice q m d)) Ab (fun _ A1 => Br (e ≠ 0) (R (.returned (.int .i64 3)) A1) (R (.returned (.int .i64 0)) A1)))) := by
   intro τ' cl rep q m d e Cm Jj h0 h1
   have e1 : (Obj.cells (DU #[.string ten, .string A4, .string A4, .slice p n c, .int .i64 now, .pointer none] (0 + 1) (Value.string cl).cells.toList) 120 (0, 0)) = Bf ten cl A4 p n c now none := by simp [DU, Value.cells, Bf]
   have e2 : (Obj.cells (DU #[.string ten, .string cl, .string A4, .slice p n c, .int .i64 now, .pointer none] (0 + 2) (Value.string rep).cells.toList) 120 (0, 0)) = Bf ten cl rep p n c now none := by simp [DU, Value.cells, Bf]
   have e3 : (Obj.cells (DU #[.string ten, .string cl, .string rep, .slice p n c, .int .i64 now, .pointer none] (0 + 3) (Value.slice q m d).cells.toList) 120 (0, 0)) = Bf ten cl rep q m d now none := by simp [DU, Value.cells, Bf]
   refine ⟨kp Cm (by simp), BG, 0, rfl, ?_⟩
   refine AJ.store sizeOf9 (Hp.AA _ _ _) rfl (by simp) (by simp [Value.cells, Value.oneCell']) ?_
   rw [Hp.set_set, e1]
   refine ⟨kp2 Cm Jj (by simp), BG, 0, rfl, ?_⟩
   refine AJ.store sizeOf9 (Hp.AA _ _ _) rfl (by simp) (by simp [Value.cells, Value.oneCell']) ?_
   rw [Hp.set_set, e2]
   refine ⟨kp2 Cm Jj (by simp), BG, 0, rfl, ?_⟩
   refine AJ.store sizeOf46 (Hp.AA _ _ _) rfl (by simp) (by simp [Value.cells, Value.oneCell']) ?_
   rw [Hp.set_set, e3]
   exact ⟨h1, fun h => h0 (Decidable.not_not.1 h)⟩
 refine Spec.B5 hb (bI hs hn MC (fun hf q m d τ' ho Cm Jj => ⟨_, _, _, _, _, _, rfl, ?_⟩) (fun cl rep hf Ek q m d τ' ho Cm Jj => ⟨_, _, _, _, _, _, rfl, ?_⟩) fun cl rep hf BQ Jj => ⟨_, _, _, _, _, _, rfl, ?_⟩)
 · exact st τ' _ _ q m d 0 Cm Jj (fun _ => ma hf q m d τ' ho Cm Jj) fun h => absurd rfl h
 · exact st τ' cl rep q m d 0 Cm Jj (fun _ => mb cl rep hf Ek q m d τ' ho Cm Jj) fun h => absurd rfl h
 · exact st τ A4 A4 none 0 0 160 (.refl _) Jj (fun h => by cases h) fun _ => mc cl rep hf BQ _ hx
theorem RW {dk bb bk : Nat} {D : Dk} {W : Wl} {rows : List CJ} {κ : Hp} {e : Nat} {ms : List Mem} {rk : Nat}
   (hd : σ bd = some (HY rf fo re ha md)) (hk : Hm σ dk bb bk D W rows κ) (hu : D.up = true) (ht : Tr (DW rows F5).1 e ms) (fz : 1 ≤ rf) (zE : rf ≤ 5) (mN : rf = rk) (RO : rk ≤ (B8 ms).length) (hs : Jh σ p n ss)
   (h0 : GX ten 16 100 ss ≠ 0 → ∀ σ', Ext σ σ' → R (.returned (.tuple #[.pointer none, .int .i64 (SO (GX ten 16 100 ss))])) σ')
   (mc : GX ten 16 100 ss = 0 → ha = true → ∀ cl rep, El ss = some (cl, rep) → ¬ (ss.all DA = true ∧ ∀ s ∈ ss, A8 s.ls HH = cl ∧ A8 s.ls C5 = rep) → ∀ σ', Ext σ σ' → R (.returned (.tuple #[.pointer none, .int .i64 3])) σ')
   (h1 : GX ten 16 100 ss = 0 → ∀ cl rep df, (rep = A4 → df = ss) → (ha = false ∧ rep = A4 ∨ ha = true ∧ El ss = none ∧ rep = A4 ∨ ha = true ∧ El ss = some (cl, rep) ∧ (∀ s ∈ ss, A8 s.ls HH = cl ∧ A8 s.ls C5 = rep) ∧ df = ss.map HZ) →
     ∀ b3 b4 b5 BG q m d pb σ' mv, M7 σ' b3 b4 b5 BG bd (some ⟨bk, 0, none⟩) → Ext σ σ' → Be (σ.new σ') pb e (rf / 2 + 1) (df.map (partOf ms rk)) mv (df.map fun _ => []) (fun _ => none) → σ' BG = some (Bf ten cl rep q m d now (some ⟨pb, 0, none⟩)) → σ BG = none →
     Spec prog 110 #[.pointer (some ⟨b4, 0, none⟩), .pointer (some ⟨b3, 0, none⟩), .pointer (some ⟨b5, 0, none⟩)] σ' (AB R (CI .i64 fun v Ps => (v ≠ 0 → R (.returned (.tuple #[.pointer none, .int .i64 v])) Ps) ∧ (v = 0 → LQ Ps BG 5 fun q => R (.returned (.tuple #[.pointer q, .int .i64 0])) Ps)))) :
   Spec prog 12 #[.pointer (some ⟨bd, 0, none⟩), .string ten, .slice p n c, .int .i64 now, .pointer (some ⟨bk, 0, none⟩)] σ R := by
 have dI : ss.length = n := hs.1
 refine AT.start fun BG AMm => Spec.B5 AMm (gj fun b3 b4 b5 D7 τ h5 nj hx hn => ⟨_, _, _, rfl, ?_⟩)
 show AT.A5 R _ _ _ _ _ _ (τ.set BG (Bf ten A4 A4 p n c now none))
 have XE := hx _ _ hd
 have zV := hs.mono Mw.mono hx
 have U4 : ∀ {o : Obj}, Ext τ (τ.set BG o) := .set hn
 have l11 : ∀ {σ1 : Hp} {j : Nat} {v : Value}, Ext τ σ1 → (#[(.func (.func 103) #[] #[(.pointer (some ⟨b4, 0, none⟩)), (.pointer (some ⟨b3, 0, none⟩))]), (.func (.func 105) #[] #[(.pointer (some ⟨b3, 0, none⟩)), (.pointer (some ⟨b4, 0, none⟩))]), (.func (.func 107) #[] #[(.pointer (some ⟨b5, 0, none⟩)), (.pointer (some ⟨b3, 0, none⟩)), (.pointer (some ⟨b4, 0, none⟩))]), (.func (.func 110) #[] #[(.pointer (some ⟨b4, 0, none⟩)), (.pointer (some ⟨b3, 0, none⟩)), (.pointer (some ⟨b5, 0, none⟩))])] : Array Value)[j]? = some v → Hp.ld σ1 ⟨D7, j, none⟩ = some v := fun h hv => AD (h _ _ nj) hv
 refine AT.AW ⟨fun _ => ⟨D7, 0, rfl, by omega, _, l11 (j := 0) U4 rfl, 103, #[], _, rfl, AFx, gb h5 XE hn zV ⟨_, rfl, fun Ad => ?_, fun heq => ⟨by unfold AN; omega, ?_⟩⟩⟩, fun hh => absurd (by decide) hh⟩
 · exact h0 (fun h => Ad (by rw [h]; rfl)) _ (hx.trans U4)
 have rD : GX ten 16 100 ss = 0 := by
   refine Decidable.byContradiction fun h => heq ?_
   unfold SO
   rw [if_neg h]
   split <;> decide
 have gm := rD
 unfold GX at gm
 split at gm
 · cases gm
 split at gm
 · cases gm
 rename_i _ SF
 have MC : ∀ s ∈ ss, G3 s.ls := fun s hs => aS (TZ gm s hs)
 have rest : ∀ (cl rep : ByteArray) (df : List Sm) (τ2 : Hp) q m d, (rep = A4 → df = ss) → (ha = false ∧ rep = A4 ∨ ha = true ∧ El ss = none ∧ rep = A4 ∨ ha = true ∧ El ss = some (cl, rep) ∧ (∀ s ∈ ss, A8 s.ls HH = cl ∧ A8 s.ls C5 = rep) ∧ df = ss.map HZ) → Jh τ2 q m df → (∀ s ∈ df, G3 s.ls) → df.length ≤ 256 → Ext τ τ2 → τ2 BG = none →
     AT.A5 R (aD BG 0) (aD D7 0) 4 4 (4 : Nat) ((0 : Int) + 1 + 1) (τ2.set BG (Bf ten cl rep q m d now none)) := by
   intro cl rep df τ2 q m d cN hca Ho AMn S5 Ay PD
   have AMo : ∀ {o : Obj}, Ext τ2 (τ2.set BG o) := .set PD
   have mO := h5.mono Ay
   refine AT.AW ⟨fun _ => ⟨D7, 0, rfl, by omega, _, l11 (j := 2) (Ay.trans AMo) rfl, 107, #[], _, rfl, AFy, gg mO (Ay _ _ XE) PD (hk.mono (hx.trans Ay)) hu ht fz zE mN RO Ho AMn S5 fun pb τ' mv q3 m3 d3 DJ iL dP Ad hP => ⟨_, rfl, fun Ad => absurd rfl Ad, fun _ => ⟨by unfold AN; omega, ?_⟩⟩⟩, fun hh => absurd (by decide) hh⟩
   have hN : (names [(pb, M6 e (rf / 2 + 1) q3 m3 d3), (BG, Bf ten cl rep q m d now (some ⟨pb, 0, none⟩))]).Nodup := by simp [names, Ad]
   have Vc : Ext τ' (AX τ' [(pb, M6 e (rf / 2 + 1) q3 m3 d3), (BG, Bf ten cl rep q m d now (some ⟨pb, 0, none⟩))]) := HL.ext hN fun k hk => by
     simp [names] at hk
     rcases hk with rfl | rfl
     · exact dP
     · exact iL
   have lo := B3 (τ := τ') (i := 1) hN rfl
   have Lc : Ext σ (AX τ' [(pb, M6 e (rf / 2 + 1) q3 m3 d3), (BG, Bf ten cl rep q m d now (some ⟨pb, 0, none⟩))]) := (hx.trans Ay).trans (DJ.trans Vc)
   have SB : Ext (τ2.new (AX τ' [(pb, M6 e (rf / 2 + 1) q3 m3 d3), (BG, Bf ten cl rep q m d now (some ⟨pb, 0, none⟩))])) (σ.new (AX τ' [(pb, M6 e (rf / 2 + 1) q3 m3 d3), (BG, Bf ten cl rep q m d now (some ⟨pb, 0, none⟩))])) := Ext.CR (hx.trans Ay)
   refine AT.AW ⟨fun _ => ⟨D7, 0, rfl, by omega, _, l11 (j := 3) (Ay.trans (DJ.trans Vc)) rfl, 110, #[], _, rfl, AFz, ?_⟩, fun hh => absurd (by decide) hh⟩
   refine (h1 rD cl rep df cN hca b3 b4 b5 BG q m d pb _ mv (mO.mono (DJ.trans Vc)) Lc ⟨hP.row.mono (SB.off _), hP.nodup, hP.len, fun i v f hv hf => (hP.X6 i v f hv hf).mono SB, fun k o hk => by cases hk⟩ lo (Aw hx hn)).mono fun en σ5 hr => ?_
   cases en with
   | panicked ch => exact hr
   | outgrown => exact hr
   | returned v =>
     obtain ⟨x, rfl, zF, AMp⟩ := hr
     refine ⟨x, rfl, zF, fun hz => ⟨by unfold AN; omega, ?_⟩⟩
     obtain ⟨q5, hq5, AMq⟩ := AMp (Decidable.not_not.1 hz)
     exact AT.AW ⟨fun hh => absurd hh (by decide), fun _ => ⟨BG, 0, rfl, q5, hq5, AMq⟩⟩
 cases ha with
 | false =>
   refine AT.AW ⟨fun _ => ⟨D7, 0, rfl, by omega, _, l11 (j := 1) U4 rfl, 105, #[], _, rfl, u6, bA h5 XE hn ⟨_, rfl, fun Ad => absurd rfl Ad, fun _ => ⟨by unfold AN; omega, ?_⟩⟩⟩, fun hh => absurd (by decide) hh⟩
   exact rest A4 A4 ss τ p n c (fun _ => rfl) (.inl ⟨rfl, rfl⟩) zV MC (by omega) (.refl _) hn
 | true =>
   refine AT.AW ⟨fun _ => ⟨D7, 0, rfl, by omega, _, l11 (j := 1) U4 rfl, 105, #[], _, rfl, u6, bJ h5 XE hn zV (by omega) MC (fun hf q m d τ' ho Cm Jj => ⟨_, rfl, fun Ad => absurd rfl Ad, fun _ => ⟨by unfold AN; omega, ?_⟩⟩) (fun cl rep hf Ek q m d τ' ho Cm Jj => ⟨_, rfl, fun Ad => absurd rfl Ad, fun _ => ⟨by unfold AN; omega, ?_⟩⟩) fun cl rep hf BQ τ' Cm => ⟨_, rfl, fun _ => mc rD rfl cl rep hf BQ _ (hx.trans Cm), fun hh => absurd (by decide) hh⟩⟩, fun hh => absurd (by decide) hh⟩
   · exact rest A4 A4 ss τ' q m d (fun _ => rfl) (.inr (.inl ⟨rfl, hf, rfl⟩)) ((ho.rd Mw.mono).mono Mw.mono (Ext.Ah _ _)) MC (by omega) Cm Jj
   · refine rest cl rep (ss.map HZ) τ' q m d (fun cN => ?_) (.inr (.inr ⟨rfl, hf, Ek, rfl⟩)) ((ho.rd Mw.mono).mono Mw.mono (Ext.Ah _ _)) (fun s hs => ?_) (by rw [List.length_map]; omega) Cm Jj
     · exfalso
       have : ∀ l : List Sm, El l = some (cl, rep) → rep ≠ A4 := fun l => by
         induction l with
         | nil => intro h; cases h
         | cons a l ih =>
           intro h
           rw [El] at h
           split at h
           · cases h; assumption
           · exact ih h
       exact this ss hf cN
     · obtain ⟨s0, kY, rfl⟩ := List.mem_map.1 hs
       have h1 := MC s0 kY
       exact ⟨Nat.le_trans (List.length_filter_le _ _) h1.1, fun x hx => h1.2 x (List.mem_filter.1 hx).1⟩
theorem RX {dk bb bk : Nat} {D : Dk} {W : Wl} {rows : List CJ} {κ : Hp} {e : Nat} {ms : List Mem} {rk : Nat}
   (hd : σ bd = some (HY rf fo re ha md)) (hk : Hm σ dk bb bk D W rows κ) (hu : D.up = true) (ht : Tr (DW rows F5).1 e ms) (fz : 1 ≤ rf) (zE : rf ≤ 5) (mN : rf = rk) (RO : rk ≤ (B8 ms).length) (hs : Jh σ p n ss) (hha : ha = true → El ss = none)
   (h0 : GX ten 16 100 ss ≠ 0 → ∀ σ', Ext σ σ' → R (.returned (.tuple #[.pointer none, .int .i64 (SO (GX ten 16 100 ss))])) σ')
   (h1 : GX ten 16 100 ss = 0 → ∀ pb σ' mv, Be σ' pb e (rf / 2 + 1) (ss.map (partOf ms rk)) mv (ss.map fun _ => []) σ → R (.returned (.tuple #[.pointer (some ⟨pb, 0, none⟩), .int .i64 0])) σ') :
   Spec prog 12 #[.pointer (some ⟨bd, 0, none⟩), .string ten, .slice p n c, .int .i64 now, .pointer (some ⟨bk, 0, none⟩)] σ R := by
 refine RW hd hk hu ht fz zE mN RO hs h0 (fun _ h2 cl rep hf _ => by rw [hha h2] at hf; cases hf) fun hl cl rep df cN hca b3 b4 b5 BG q m d pb σ' mv h5 hx hP lo uW => ?_
 have mf : rep = A4 := by
   rcases hca with h | h | h
   · exact h.2
   · exact h.2.2
   · have := hha h.1
     rw [h.2.1] at this; cases this
 obtain rfl := cN mf
 subst mf
 exact Bb.start ⟨_, AD h5.e4 rfl, BG, 0, rfl, A4, AD lo rfl, fun _ => ⟨0, rfl, fun Ad => absurd rfl Ad, fun _ => ⟨_, AD lo rfl, h1 hl pb σ' mv (hP.Ah hx)⟩⟩, fun h => by simp at h⟩
theorem YW {dk bb bk : Nat} {D : Dk} {W : Wl} {rows : List CJ} {κ : Hp} {e : Nat} {ms : List Mem} {rk : Nat}
   (hd : σ bd = some (HY rf fo re ha md)) (hk : Hm σ dk bb bk D W rows κ) (hu : D.up = true) (ht : Tr (DW rows F5).1 e ms) (fz : 1 ≤ rf) (zE : rf ≤ 5) (mN : rf = rk) (RO : rk ≤ (B8 ms).length) (hs : Jh σ p n ss) (hha : ha = true → El ss = none)
   (h0 : GX ten 16 100 ss ≠ 0 → ∀ σ', Ext σ σ' → R (.returned (.tuple #[.pointer none, .int .i64 (SO (GX ten 16 100 ss))])) σ')
   (h1 : GX ten 16 100 ss = 0 → ∀ pb σ' mv, Ext σ σ' → Be (σ.new σ') pb e (rf / 2 + 1) (ss.map (partOf ms rk)) mv (ss.map fun _ => []) (fun _ => none) → R (.returned (.tuple #[.pointer (some ⟨pb, 0, none⟩), .int .i64 0])) σ') :
   Spec prog 12 #[.pointer (some ⟨bd, 0, none⟩), .string ten, .slice p n c, .int .i64 now, .pointer (some ⟨bk, 0, none⟩)] σ R := by
 refine RW hd hk hu ht fz zE mN RO hs h0 (fun _ h2 cl rep hf _ => by rw [hha h2] at hf; cases hf) fun hl cl rep df cN hca b3 b4 b5 BG q m d pb σ' mv h5 hx hP lo uW => ?_
 have mf : rep = A4 := by
   rcases hca with h | h | h
   · exact h.2
   · exact h.2.2
   · have := hha h.1
     rw [h.2.1] at this; cases this
 obtain rfl := cN mf
 subst mf
 exact Bb.start ⟨_, AD h5.e4 rfl, BG, 0, rfl, A4, AD lo rfl, fun _ => ⟨0, rfl, fun Ad => absurd rfl Ad, fun _ => ⟨_, AD lo rfl, h1 hl pb σ' mv hx hP⟩⟩, fun h => by simp at h⟩
end
end TwW
end
section
namespace TwW
open Go Tw Go.RowKit Go.Proofs.Tryz
section
variable {σ σ' τ : Hp} {R : Rr}
theorem KU {p q : Option Addr} {n c m d : Nat} {xs ys : List Bool} (hr : rE σ p n xs) (hs : rE σ q m ys) (h : R (.returned (.bool (decide (xs = ys)))) σ) : Spec prog 18 #[.slice p n c, .slice q m d] σ R := by
 have Rs : xs.length = n := by have := hr.1; simpa using this
 have U1 : ys.length = m := by have := hs.1; simpa using this
 refine Cs.start ⟨fun Ad => ?_, fun he => ?_⟩
 · rw [decide_eq_false fun e => Ad (by rw [← Rs, ← U1, e])] at h; exact h
 obtain rfl : n = m := by omega
 have FW : n ≤ 4611686018427387904 := hr.2.1
 suffices H : ∀ d' k : Nat, n - k = d' → k ≤ n → xs.take k = ys.take k → Cs.As R p n c q n d k σ from H n 0 rfl (Nat.zero_le _) (by simp)
 intro d'
 induction d' with
 | zero =>
   intro k hd hk BQ
   refine Cs.BO ⟨fun Ag => by omega, fun _ => ?_⟩
   rw [List.take_of_length_le (by omega), List.take_of_length_le (by omega)] at BQ
   rw [decide_eq_true BQ] at h; exact h
 | succ d' ih =>
   intro k hd hk BQ
   have DR : k < n := by omega
   obtain ⟨x, hx⟩ : ∃ x, xs[k]? = some x := ⟨_, List.getElem?_eq_getElem (by omega)⟩
   obtain ⟨y, hy⟩ : ∃ y, ys[k]? = some y := ⟨_, List.getElem?_eq_getElem (by omega)⟩
   obtain ⟨b, o, rfl, hl⟩ := hr.at hx
   obtain ⟨b', o', rfl, S5⟩ := hs.at hy
   have bad : x ≠ y → R (.returned (.bool false)) σ := fun Ad => by
     rw [decide_eq_false fun e => Ad (by rw [e, hy] at hx; cases hx; rfl)] at h; exact h
   have good : x = y → AN ((k : Int) + 1) ∧ Cs.As R (aD b o) n c (aD b' o') n d ((k : Int) + 1) σ := fun he => ⟨Af DR FW, ih (k + 1) (by omega) (by omega) (by rw [AQ hx, AQ hy, BQ, he])⟩
   refine Cs.BO ⟨fun _ => ⟨b, o, rfl, by omega, x, by simpa using hl, b', o', rfl, by omega, y, by simpa using S5, fun h1 => ⟨fun h2 => good (by rw [h1, h2]), fun h2 => bad (by rw [h1, h2]; simp)⟩, fun h1 => ⟨fun h2 => bad (by rw [h1, h2]; simp), fun h2 => good (by rw [h1, h2])⟩⟩, fun hh => by omega⟩
theorem RY {α : Type} {b : Nat} {T : TypeId} {f : α → Value} {x : α} {ρ : Hp} (h : ρ b = some (.cells #[f x] T (0, 0))) : GM 1 ρ (some ⟨b, 0, none⟩) 1 ([x].map f) := ⟨rfl, by omega, .inr ⟨b, 0, rfl, ⟨AD h rfl, trivial⟩⟩⟩
def kT : ByteArray := ⟨#[116]⟩
def zW : Sm := ⟨[(⟨#[97]⟩, ⟨#[120]⟩)], 5, 1⟩
theorem AMr : GX kT 16 100 [zW] = 0 := by decide
theorem AGC : GX kT 16 100 [] = 151 := by decide
theorem AMs : El [zW] = none := by decide
theorem AGD : PM 1 = 3 := by decide
theorem N1 {nd y : Int} {x : Part} {f : Ci} (h : Db nd x = true) : KS nd [x] [f] [y] = [if C2 (C9 f nd) then f else Hl f nd y] := by simp [KS, G4, h]
theorem gn {nd y : Int} {x : Part} {f : Ci} (h : Db nd x = false) : KS nd [x] [f] [y] = [f] := by simp [KS, h]
theorem RZ {ms : List Mem} {n k : Nat} {h : Int} (hg : JB ms n) (hk : k ≤ n) : ((round ms h).take k).Nodup ∧ ((round ms h).take k).length = k := by
 have h1 := Th (hash := h) hg.ok
 rw [hg.B8] at h1
 simp at h1
 exact ⟨(On ms h).sublist (List.take_sublist _ _), by rw [List.length_take]; omega⟩
theorem YX (ht : Tb σ) (hR : ∀ σ', Ext σ σ' → R (.returned (.bool true)) σ') : Spec prog 13 #[] σ R := by
 refine OQ.start (Ov ⟨_, _, _, _, _, _, _, _, _, _, _, rfl, YS fun bd md cu hbd Ad => ⟨_, rfl, ?_⟩⟩)
 rw [AGD]
 generalize Mx : (σ.set md (.map #[] 0)).set bd (HY 3 30 5 true md) = σ1
 have BJ : Ext σ σ1 := by rw [← Mx]; exact (Ext.set cu).trans (.set (by rw [Hp.AH Ad]; exact hbd))
 have Ro : σ1 bd = some (HY 3 30 5 true md) := by rw [← Mx, Hp.AA]
 refine RT (n := 3) (by decide) fun pr cr σ2 ms UB hg Ay => ⟨_, _, _, _, rfl, ?_⟩
 refine Ow (K := [F5]) (e := 6) (by simp) (by simp) (ht.mono (BJ.trans Ay)) UB hg.ok hg.tok (by decide) fun dk bb s sb σ3 D W rows ts τ3 hk3 Dd hs3 ha3 hc3 _ htr _ Up => ⟨_, _, rfl, fun hh => (by cases hh), fun _ => ⟨fun hh => (by cases hh), fun _ Kd AMu Jm rO => ?_⟩⟩
 have DJ : Ext σ2 σ3 := Up.trans hk3.ext
 show Spec prog 12 #[_, .string kT, .slice (some ⟨Jm, 0, none⟩) 1 1, _, _] ((σ3.set Kd (.cells #[(.string (ByteArray.mk #[97])), (.string (ByteArray.mk #[120]))] 61 (0, 0))).set Jm (.cells #[(.slice (aD Kd 0) 1 1), .int .i64 5, .int .u64 1] 25 (0, 0))) _
 generalize gp : (σ3.set Kd (.cells #[(.string (ByteArray.mk #[97])), (.string (ByteArray.mk #[120]))] 61 (0, 0))).set Jm (.cells #[(.slice (aD Kd 0) 1 1), .int .i64 5, .int .u64 1] 25 (0, 0)) = σ4
 have Lc : Ext σ3 σ4 := by rw [← gp]; exact (Ext.set AMu).trans (.set rO)
 have l31 : σ4 Jm = some (.cells #[(.slice (aD Kd 0) 1 1), .int .i64 5, .int .u64 1] 25 (0, 0)) := by rw [← gp, Hp.AA]
 have l29 : σ4 Kd = some (.cells #[(.string (ByteArray.mk #[97])), (.string (ByteArray.mk #[120]))] 61 (0, 0)) := by
   rw [← gp]; exact Ext.set rO _ _ (Hp.AA _ _ _)
 have hrs : Jh σ4 (some ⟨Jm, 0, none⟩) 1 [zW] := ⟨rfl, [.slice (aD Kd 0) 1 1, .int .i64 5, .int .u64 1], ⟨rfl, by omega, .inr ⟨Jm, 0, rfl, ⟨AD l31 rfl, AD l31 rfl, AD l31 rfl, trivial⟩⟩⟩, Ch.one rfl ⟨_, _, _, rfl, rfl, [.string ⟨#[97]⟩, .string ⟨#[120]⟩], ⟨rfl, by omega, .inr ⟨Kd, 0, rfl, ⟨AD l29 rfl, AD l29 rfl, trivial⟩⟩⟩, Ch.one rfl rfl⟩⟩
 have Vb : σ4 bd = some (HY 3 30 5 true md) := Lc _ _ (DJ _ _ (Ay _ _ Ro))
 have RO : (3 : Nat) ≤ (B8 ms).length := by rw [hg.B8]; simp
 refine RX (rk := 3) Vb (hk3.mono Lc) Dd.up htr (by decide) (by decide) rfl RO hrs (fun _ => AMs) (fun hh => absurd AMr hh) fun _ pb σ5 mv hP => ⟨_, _, rfl, fun hh => absurd rfl hh, fun _ => ⟨fun hh => (by cases hh), fun _ => ?_⟩⟩
 have hq : ((3 : Int) / 2 + 1) = 2 := by decide
 rw [hq] at hP
 generalize vD : partOf ms 3 zW = pt at hP
 have rv : pt.rs.Nodup ∧ pt.rs.length = 3 := by rw [← vD]; exact RZ (h := Xr zW.ls) hg (by decide)
 have hPs : [zW].map (partOf ms 3) = [pt] := by rw [← vD]; rfl
 rw [hPs] at hP
 have hL : ∀ L : List Int, EN L → (∀ x, x ∈ L ↔ ∃ y ∈ [pt], x ∈ y.rs) → L.length = 3 ∧ ∀ x ∈ L, Db x pt = true := fun L XF hm => by
   refine ⟨?_, fun x hx => ?_⟩
   · rw [Mz (L0 XF) rv.1 fun x => by rw [hm]; simp, rv.2]
   · have := (hm x).1 hx
     simpa [Db] using this
 refine L5 hP.at fun VY n44 Wm σ6 L6 nq Nv zX nr => ⟨_, _, _, rfl, fun hh => ?_, fun _ => ?_⟩
 · have h1 := (hL L6 zX nr).1
   have h2 : L6.length = n44 := nq.rd.1
   exact absurd (by omega) hh
 refine L5 (hP.mono Nv).at fun WV n49 c49 σ7 L7 ho7 Jg AGE hm7 => ⟨_, _, _, rfl, ?_⟩
 obtain ⟨hl7, Z5⟩ := hL L7 AGE hm7
 obtain ⟨τ7, mg, x7, x7n⟩ := (hP.mono Nv).grow Jg
 have Yp : By .i64 τ7 WV n49 L7 := ho7.rd.mono x7n
 have AMx : n49 = 3 := by have := Yp.1; omega
 subst AMx
 obtain ⟨u0, hu0⟩ := Yp.ex (k := 0) (by decide)
 obtain ⟨u1, hu1⟩ := Yp.ex (k := 1) (by decide)
 obtain ⟨sn, so, rfl, l53⟩ := Yp.at hu0
 obtain ⟨_, _, he, AMz⟩ := Yp.at hu1
 cases he
 have AGF : u0 ≠ u1 := fun e => by have := la AGE (show 0 < 1 by decide) hu0 hu1; omega
 have Ml := Z5 u0 (List.mem_of_getElem? hu0)
 have hm1 := Z5 u1 (List.mem_of_getElem? hu1)
 refine ⟨sn, so, rfl, ⟨by decide, by decide⟩, u0, by simpa using mg.up.ld l53, X7 mg.at fun qH na qI σ8 au Rp => ⟨_, _, _, _, rfl, ⟨by decide, by decide⟩, u0, by simpa using (mg.up.trans Rp).ld l53, fun b62 AGG => ?_⟩⟩
 have AM0 : na = 1 := by have := au.1; simp [Ml] at this; omega
 obtain ⟨τ9, u7, x9, x9n⟩ := mg.grow (Rp.trans (.set AGG (o := .cells #[.int .i64 1] 3 (0, 0))))
 have h62 : By .i64 τ9 (some ⟨b62, 0, none⟩) 1 [1] := By.Jt (RY (T := 3) (f := Value.int .i64) (x9n _ _ (AO.2 ⟨Aw Rp AGG, Hp.AA _ _ _⟩)))
 refine Ny u7 h62 fun SR AGH => ⟨rfl, ⟨by decide, by decide⟩, u1, by simpa using (x9.trans AGH.up).ld AMz, fun iG AGI => ?_⟩
 obtain ⟨AM1, AGJ, Ed, AM2⟩ := AGH.grow (.set AGI (o := .cells #[.int .i64 2] 3 (0, 0)))
 have h68 : By .i64 AM1 (some ⟨iG, 0, none⟩) 1 [2] := By.Jt (RY (T := 3) (f := Value.int .i64) (AM2 _ _ (AO.2 ⟨AGI, Hp.AA _ _ _⟩)))
 have hf1 : KS u0 [pt] ([zW].map fun _ => []) [1] = [[(u0, 1)]] := by
   show KS u0 [pt] [[]] [1] = _
   rw [N1 Ml]; simp [C2, C9, Hl]
 have oL : KS u1 [pt] [[(u0, 1)]] [2] = [[(u0, 1), (u1, 2)]] := by
   rw [N1 hm1]; simp [C2, C9, Hl, AGF]
 rw [hf1] at AGJ
 refine Ny AGJ h68 fun ATl zY => ⟨rfl, ?_⟩
 rw [oL] at zY
 have C3 : [[(u0, (1 : Int)), (u1, 2)]].map (D1 2) = [true] := by simp [D1, VF, C2]
 refine RN zY (fun f hf => by simp at hf; subst hf; simp) fun p72 n72 c72 AGK AGL rl => ⟨_, _, _, _, rfl, ?_⟩
 rw [C3] at AGL ⊢
 have mh : Ext σ4 AGK := ((((x7.trans x9).trans Ed).trans zY.up)).trans rl
 show Spec prog 12 #[_, .string kT, _, _, _] AGK _
 refine RX (rk := 3) (ss := []) (mh _ _ Vb) ((hk3.mono Lc).mono mh) Dd.up htr (by decide) (by decide) rfl RO Fj.nil (fun _ => rfl) (fun _ ATm mR => ⟨_, _, rfl, ?_⟩) fun hh => absurd (hh.symm.trans AGC) (by decide)
 refine ⟨fun _ => ⟨fun _ => ⟨fun _ Zz AGM => ?_, fun hh => absurd rfl hh⟩, fun hh => absurd rfl hh⟩, fun hh => absurd (by rw [AM0]; rfl) hh⟩
 refine KU ((((Own.rd AGL).mono (Ext.Ah _ _)).mono mR).mono (.set AGM)) (RY (Hp.AA _ _ _)) ⟨_, rfl, fun _ => ?_, fun hh => by simp at hh⟩
 have h4 : SO (GX kT 16 100 []) = 4 := by rw [AGC]; decide
 rw [h4]
 exact hR _ (((((BJ.trans Ay).trans DJ).trans Lc).trans mh).trans (mR.trans (.set AGM)))
end
end TwW
end
section
namespace Tw
open Go
variable [Ht]
def Hp.or (N M : Hp) : Hp := fun k => match N k with | some o => some o | none => M k
def Hp.minus (σ N : Hp) : Hp := fun k => match N k with | some _ => none | none => σ k
def bK (N M : Hp) : Prop := ∀ k, M k ≠ none → N k = none
theorem Hp.ry {N M : Hp} {k : Nat} {o : Obj} (h : N k = some o) : N.or M k = some o := by simp [Hp.or, h]
theorem Hp.rz {N M : Hp} {k : Nat} (h : N k = none) : N.or M k = M k := by simp [Hp.or, h]
theorem Ext.ry (N M : Hp) : Ext N (N.or M) := fun _ _ h => Hp.ry h
theorem Ext.rz {N M : Hp} (hd : bK N M) : Ext M (N.or M) := fun k o h => by rw [Hp.rz (hd k (by rw [h]; simp))]; exact h
theorem Hp.JC {σ N : Hp} {k : Nat} {o : Obj} : σ.minus N k = some o ↔ N k = none ∧ σ k = some o := by
 unfold Hp.minus
 cases N k <;> simp
theorem Ext.Ra (σ N : Hp) : Ext (σ.minus N) σ := fun _ _ h => (Hp.JC.1 h).2
theorem bK.minus (σ N : Hp) : bK N (σ.minus N) := fun k h => by
 cases hh : σ.minus N k with
 | none => exact absurd hh h
 | some o => exact (Hp.JC.1 hh).1
theorem bK.less {N M M' : Hp} (h : bK N M) (hx : Ext M' M) : bK N M' := fun k hk => h k fun e => hk (by
 cases hh : M' k with
 | none => rfl
 | some o => rw [hx _ _ hh] at e; cases e)
theorem Ext.Rb {σ σ' N : Hp} (h : Ext σ σ') (hd : bK N σ) : Ext σ (σ'.minus N) := fun k o hk => Hp.JC.2 ⟨hd k (by rw [hk]; simp), h _ _ hk⟩
theorem Spec.zZ {P : Program} {f : FuncId} {args : Array Value} {N M σ : Hp} {R : Rr} (hN : Ext N σ) (hM : Ext M σ) (hd : bK N M)
   (h : Spec P f args N (fun e N' => bK N' M → R e (N'.or M))) : Spec P f args σ R := fun w F hs hF => by
 have hMs : ∀ k, M k ≠ none → ∃ o, M k = some o ∧ w.heap[k]? = some o := fun k hk => by
   cases hh : M k with
   | none => exact absurd hh hk
   | some o => exact ⟨o, rfl, hs _ _ (hM _ _ hh)⟩
 refine (h w (fun k => F k ∨ M k ≠ none) (fun k o hk => hs _ _ (hN _ _ hk)) fun k hk => ?_).mono ?_
 · rcases hk with hk | hk
   · exact ⟨(hF k hk).1, Aw hN (hF k hk).2⟩
   · obtain ⟨o, _, ho⟩ := hMs k hk
     exact ⟨(Array.getElem?_eq_some_iff.1 ho).1, hd k hk⟩
 · rintro e w' ⟨N', hr, hf⟩
   have yF : bK N' M := fun k hk => (hf.CU k (.inr hk)).1
   refine ⟨N'.or M, hr yF, fun k o hk => ?_, fun k hk => ⟨?_, (hf.CU k (.inl hk)).2⟩, hf.os, hf.out, hf.grow⟩
   · unfold Hp.or at hk
     split at hk
     · rename_i u hu; cases hk; exact hf.sat _ _ hu
     · have Ad : M k ≠ none := by rw [hk]; simp
       obtain ⟨o', h1, h2⟩ := hMs k Ad
       rw [hk] at h1; cases h1
       rw [(hf.CU k (.inr Ad)).2]; exact h2
   · rw [Hp.rz (hf.CU k (.inl hk)).1]
     exact Aw hM (hF k hk).2
end Tw
end
section
namespace TwW
open Go Tw Go.RowKit Go.Proofs.Tryz
section
variable {σ σ' τ : Hp} {R : Rr}
theorem Rc {p : Option Addr} {n c : Nat} {x : Int} {xs : List Int} (hr : By .i64 σ p n xs) (h : R (.returned (.bool (decide (x ∈ xs)))) σ) : Spec prog 16 #[.slice p n c, .int .i64 x] σ R := by
 refine IG.start ?_
 suffices H : ∀ d k : Nat, n - k = d → k ≤ n → x ∉ xs.take k → IG.JZ R p n c x k σ from H n 0 rfl (Nat.zero_le _) (by simp)
 intro d
 induction d with
 | zero =>
   intro k hd hk BQ
   refine IG.CP ⟨fun Ag => by omega, fun _ => ?_⟩
   rw [List.take_of_length_le (by rw [hr.1]; omega)] at BQ
   simpa [BQ] using h
 | succ d ih =>
   intro k hd hk BQ
   have DR : k < n := by omega
   obtain ⟨y, hy⟩ := hr.ex DR
   obtain ⟨b, o, rfl, hl⟩ := hr.at hy
   refine IG.CP ⟨fun Ag => ⟨b, o, rfl, by omega, y, by simpa using hl, fun he => ?_, fun Ad => ⟨Af DR hr.big, ih (k + 1) (by omega) (by omega) ?_⟩⟩, fun Fb => by omega⟩
   · have : x ∈ xs := he ▸ List.mem_of_getElem? hy
     simpa [this] using h
   · rw [Fa hy]
     rintro (h1 | h1)
     · exact BQ h1
     · exact Ad h1.symm
structure L9 (rs : List Int) (f : Ci) (EP : List Int) : Prop where
 keys : (f.map Prod.fst).Nodup
 sub : ∀ a ∈ f, a.1 ∈ rs
 nodup : EP.Nodup
 iff : ∀ x, x ∈ EP ↔ x ∈ rs ∧ C2 (C9 f x) = true
theorem Tq {f : Ci} (hn : (f.map Prod.fst).Nodup) {a : Int × Int} (ha : a ∈ f) : C9 f a.1 = a.2 := by
 induction f with
 | nil => cases ha
 | cons b f ih =>
   rw [List.map_cons, List.nodup_cons] at hn
   rw [C9]
   rcases List.mem_cons.1 ha with rfl | ha
   · rw [if_pos rfl]
   · rw [if_neg fun (e : b.1 = a.1) => hn.1 (by rw [e]; exact List.mem_map.2 ⟨a, ha, rfl⟩)]; exact ih hn.2 ha
theorem L9.nil {rs : List Int} : L9 rs [] [] := ⟨by simp, by simp, List.nodup_nil, by simp [C9, C2]⟩
theorem L9.cnt {rs EP : List Int} {f : Ci} (h : L9 rs f EP) : VF f = EP.length := by
 have h1 : ((f.filter fun x => C2 x.2).map Prod.fst).Nodup := (h.keys.sublist ((List.filter_sublist).map _))
 have h2 := Mz h1 h.nodup fun x => by
   rw [h.iff]
   constructor
   · intro hx
     obtain ⟨a, ha, rfl⟩ := List.mem_map.1 hx
     obtain ⟨ha1, ha2⟩ := List.mem_filter.1 ha
     exact ⟨h.sub a ha1, by rw [Tq h.keys ha1]; exact ha2⟩
   · rintro ⟨h3, h4⟩
     have : ∃ a ∈ f, a.1 = x := Decidable.byContradiction fun BQ => by
       rw [RH fun a ha he => BQ ⟨a, ha, he⟩] at h4
       exact absurd h4 (by decide)
     obtain ⟨a, ha, rfl⟩ := this
     rw [Tq h.keys ha] at h4
     exact List.mem_map.2 ⟨a, List.mem_filter.2 ⟨ha, h4⟩, rfl⟩
 rw [List.length_map] at h2
 exact h2
theorem gq {f : Ci} {x y z : Int} : C9 (Hl f x y) z = if z = x then y else C9 f z := by
 induction f with
 | nil =>
   simp only [Hl, C9]
   by_cases h : z = x
   · rw [if_pos h.symm, if_pos h]
   · rw [if_neg (Ne.symm h), if_neg h]
 | cons a f ih =>
   obtain ⟨u, v⟩ := a
   rw [Hl]
   by_cases h1 : u = x
   · rw [if_pos h1, C9, C9]
     by_cases h : z = x
     · rw [if_pos h.symm, if_pos h]
     · rw [if_neg (Ne.symm h), if_neg h, if_neg (by rw [h1]; exact Ne.symm h)]
   · rw [if_neg h1, C9, C9, ih]
     by_cases h2 : u = z
     · rw [if_pos h2, if_pos h2, if_neg (by rw [← h2]; exact h1)]
     · rw [if_neg h2, if_neg h2]
theorem Ts {f : Ci} {x y : Int} : (Hl f x y).map Prod.fst = if x ∈ f.map Prod.fst then f.map Prod.fst else f.map Prod.fst ++ [x] := by
 induction f with
 | nil => simp [Hl]
 | cons a f ih =>
   obtain ⟨u, v⟩ := a
   rw [Hl]
   by_cases h1 : u = x
   · rw [if_pos h1]; simp [h1]
   · rw [if_neg h1, List.map_cons, ih, List.map_cons]
     by_cases h2 : x ∈ f.map Prod.fst
     · rw [if_pos h2, if_pos (List.mem_cons_of_mem _ h2)]
     · rw [if_neg h2, if_neg (by simp only [List.mem_cons, not_or]; exact ⟨Ne.symm h1, h2⟩)]; rfl
theorem L9.step {rs EP : List Int} {f : Ci} {x y : Int} (h : L9 rs f EP) (hx : x ∈ rs) :
   (x ∈ EP → L9 rs (if C2 (C9 f x) then f else Hl f x y) EP) ∧ (x ∉ EP → L9 rs (if C2 (C9 f x) then f else Hl f x y) (if C2 y = true then EP ++ [x] else EP)) := by
 refine ⟨fun CV => ?_, fun BQ => ?_⟩
 · rw [if_pos ((h.iff x).1 CV).2]; exact h
 · have hk : C2 (C9 f x) = false := by
     cases hh : C2 (C9 f x) with
     | false => rfl
     | true => exact absurd ((h.iff x).2 ⟨hx, hh⟩) BQ
   rw [if_neg (by simp [hk])]
   have AGN : ((Hl f x y).map Prod.fst).Nodup := by
     rw [Ts]
     split
     · exact h.keys
     · rename_i hnx
       rw [List.nodup_append]
       exact ⟨h.keys, by simp, fun a ha b hb => by simp at hb; subst hb; exact fun e => hnx (e ▸ ha)⟩
   refine ⟨AGN, fun a ha => ?_, ?_, fun z => ?_⟩
   · have : a.1 ∈ (Hl f x y).map Prod.fst := List.mem_map.2 ⟨a, ha, rfl⟩
     rw [Ts] at this
     have Jc : ∀ w ∈ f.map Prod.fst, w ∈ rs := fun w hw => by
       obtain ⟨b, hb, rfl⟩ := List.mem_map.1 hw
       exact h.sub b hb
     split at this
     · exact Jc _ this
     · rcases List.mem_append.1 this with h1 | h1
       · exact Jc _ h1
       · simp at h1; rw [h1]; exact hx
   · split
     · rw [List.nodup_append]
       exact ⟨h.nodup, by simp, fun a ha b hb => by simp at hb; subst hb; exact fun e => BQ (e ▸ ha)⟩
     · exact h.nodup
   · rw [gq]
     by_cases hy : C2 y = true
     · rw [if_pos hy, List.mem_append, h.iff, List.mem_singleton]
       by_cases hz : z = x
       · rw [if_pos hz]; simp [hy, hz, hx]
       · rw [if_neg hz]; simp [hz]
     · rw [if_neg hy, h.iff]
       by_cases hz : z = x
       · rw [if_pos hz, hz]; simp [hy, hk]
       · rw [if_neg hz]
theorem L9.le {rs EP : List Int} {f : Ci} (h : L9 rs f EP) : EP.length ≤ rs.length ∧ f.length ≤ rs.length := by
 refine ⟨Ie EP rs h.nodup fun x hx => ((h.iff x).1 hx).1, ?_⟩
 have := Ie (f.map Prod.fst) rs h.keys fun x hx => by
   obtain ⟨b, hb, rfl⟩ := List.mem_map.1 hx
   exact h.sub b hb
 rwa [List.length_map] at this
theorem AGO {N σ7 : Hp} {pb b : Nat} {E Q nd y : Int} {ps : List Part} {mv : List Nat} {fs : List Ci} (hN : Ext N σ7) (hP : Be N pb E Q ps mv fs (fun _ => none)) (hb : σ7 b = none)
   (hR : ∀ N', bK N' (σ7.minus N) → Be N' pb E Q ps mv (KS nd ps fs [y]) (fun _ => none) → R (.returned (.tuple #[])) (N'.or (σ7.minus N))) :
   Spec prog 15 #[.pointer (some ⟨pb, 0, none⟩), .int .i64 nd, .slice (some ⟨b, 0, none⟩) 1 1] (σ7.set b (.cells #[.int .i64 y] 3 (0, 0))) R := by
 have hNb : N b = none := Aw hN hb
 have hN9 : Ext (N.set b (.cells #[.int .i64 y] 3 (0, 0))) (σ7.set b (.cells #[.int .i64 y] 3 (0, 0))) := fun k o hk => by
   by_cases e : k = b
   · subst e; rw [Hp.AA] at hk ⊢; exact hk
   · rw [Hp.AH e] at hk ⊢; exact hN _ _ hk
 have hd : bK (N.set b (.cells #[.int .i64 y] 3 (0, 0))) (σ7.minus N) := fun k hk => by
   have Ad : k ≠ b := fun e => hk (by rw [e]; unfold Hp.minus; rw [hNb]; exact hb)
   rw [Hp.AH Ad]; exact bK.minus σ7 N k hk
 obtain ⟨τ', hP', _, xn⟩ := hP.grow (.set hNb (o := .cells #[.int .i64 y] 3 (0, 0)))
 refine Spec.zZ hN9 ((Ext.Ra σ7 N).trans (.set hb)) hd (Ny (ys := [y]) hP' (By.Jt (RY (T := 3) (f := Value.int .i64) (xn _ _ (AO.2 ⟨hNb, Hp.AA _ _ _⟩)))) fun N' hP2 yF => hR N' yF (hP2.FC fun k o h => by cases h))
theorem VR {y : Int} : C2 (1 + y) = true ↔ (1 + y = 1 ∨ 1 + y = 2) := by simp [C2]
theorem YY {x0 x1 t v : Int} {p2 p3 p4 : Option Addr} {n2 c2 n3 c3 n4 c4 : Nat} {ls : List Lb} {ns fx : List Int} (ht : Tb σ) (hs : Pf σ p2 n2 ls) (hn : By .i64 σ p3 n3 ns) (hf : By .i64 σ p4 n4 fx) (hR : ∀ σ', Ext σ σ' → R (.returned (.bool true)) σ') :
   Spec prog 3 #[.int .i64 x0, .int .i64 x1, .agg #[.slice p2 n2 c2, .int .i64 t, .int .u64 v], .slice p3 n3 c3, .slice p4 n4 c4] σ R := by
 have aw : ∀ {σ' : Hp}, Ext σ σ' → Spec prog 13 #[] σ' (AB R (CB fun t71 Jo => R (.returned (.bool t71)) Jo)) := fun hx => YX (ht.mono hx) fun Ps Cm => ⟨_, rfl, hR _ (hx.trans Cm)⟩
 refine AR.start fun _ => Ov ⟨_, _, _, _, _, _, _, _, _, _, _, rfl, fun _ => Kq ⟨_, rfl, by decide, fun Rj h35 => ?_⟩⟩
 obtain ⟨r0, r3⟩ := RS (x := VO x1) (k := 3) VP.1 (by decide)
 rw [← h35] at r0 r3
 obtain ⟨rk, mN⟩ : ∃ rk : Nat, PM x0 = rk := ⟨(PM x0).toNat, by have := dc x0; omega⟩
 have hrf := dc x0
 generalize PM x0 = rf at mN hrf
 obtain ⟨n, hnn⟩ : ∃ n : Nat, rf + Rj = n := ⟨(rf + Rj).toNat, by omega⟩
 rw [hnn]
 refine ⟨by unfold AN; omega, YS fun bd md cu hbd Ad => ⟨_, rfl, ?_⟩⟩
 generalize Mx : (σ.set md (.map #[] 0)).set bd (HY rf 30 5 false md) = σ1
 have BJ : Ext σ σ1 := by rw [← Mx]; exact (Ext.set cu).trans (.set (by rw [Hp.AH Ad]; exact hbd))
 have Ro : σ1 bd = some (HY rf 30 5 false md) := by rw [← Mx, Hp.AA]
 refine RT (n := n) (by omega) fun pr cr σ2 ms UB hg Ay => ⟨_, _, _, _, rfl, ?_⟩
 refine Ow (K := [F5]) (e := 2 * n) (by simp) (by simp) (ht.mono (BJ.trans Ay)) UB hg.ok hg.tok (by omega) fun dk bb s sb σ3 D W rows ts τ3 hk3 Dd hs3 ha3 hc3 _ htr _ Up => ⟨_, _, rfl, fun hh => (by cases hh), fun _ => ⟨fun hh => (by cases hh), fun _ qD AM5 => ?_⟩⟩
 have DJ : Ext σ2 σ3 := Up.trans hk3.ext
 show Spec prog 12 #[_, .string kT, .slice (some ⟨qD, 0, none⟩) 1 1, _, _] (σ3.set qD (.cells #[.slice p2 n2 c2, .int .i64 t, .int .u64 v] 25 (0, 0))) _
 generalize gp : σ3.set qD (.cells #[.slice p2 n2 c2, .int .i64 t, .int .u64 v] 25 (0, 0)) = σ4
 have Lc : Ext σ3 σ4 := by rw [← gp]; exact .set AM5
 have l54 : σ4 qD = some (.cells #[.slice p2 n2 c2, .int .i64 t, .int .u64 v] 25 (0, 0)) := by rw [← gp, Hp.AA]
 have za : Ext σ σ4 := ((BJ.trans Ay).trans DJ).trans Lc
 have hrs : Jh σ4 (some ⟨qD, 0, none⟩) 1 [⟨ls, t, v⟩] := ⟨rfl, [.slice p2 n2 c2, .int .i64 t, .int .u64 v], ⟨rfl, by omega, .inr ⟨qD, 0, rfl, ⟨AD l54 rfl, AD l54 rfl, AD l54 rfl, trivial⟩⟩⟩, Ch.one rfl ⟨p2, n2, c2, rfl, hs.mono JU.mono za⟩⟩
 have Vb : σ4 bd = some (HY rf 30 5 false md) := Lc _ _ (DJ _ _ (Ay _ _ Ro))
 have RO : rk ≤ (B8 ms).length := by rw [hg.B8]; simp; omega
 refine YW (rk := rk) Vb (hk3.mono Lc) Dd.up htr (by omega) (by omega) mN RO hrs (fun hh => by cases hh) (fun Ad σ5 Oc => ?_) fun _ pb σ5 mv Oc hP => ?_
 · -- refused
   have h3 : SO (GX kT 16 100 [⟨ls, t, v⟩]) = 3 := by
     have e : GX kT 16 100 [⟨ls, t, v⟩] = Ic 16 [⟨ls, t, v⟩] := by
       unfold GX
       rw [if_neg (by decide), if_neg (by simp)]
     rw [e] at Ad ⊢
     rcases Oj (b := 16) [⟨ls, t, v⟩] with h | h | h
     · exact absurd h Ad
     · rw [h]; decide
     · rw [h]; decide
   rw [h3]
   exact ⟨_, _, rfl, fun _ => ⟨fun _ => ⟨fun _ => aw (za.trans Oc), fun hh => (by cases hh)⟩, fun hh => absurd rfl hh⟩, fun hh => absurd (by decide) hh⟩
 refine ⟨_, _, rfl, fun hh => absurd rfl hh, fun _ => ⟨fun hh => (by cases hh), fun _ => ?_⟩⟩
 generalize vD : partOf ms rk ⟨ls, t, v⟩ = pt at hP
 have rv : pt.rs.Nodup ∧ pt.rs.length = rk := by rw [← vD]; exact RZ (h := Xr ls) hg (by omega)
 have hPs : [(⟨ls, t, v⟩ : Sm)].map (partOf ms rk) = [pt] := by rw [← vD]; rfl
 rw [hPs] at hP
 refine L5 (hP.at.mono (Ext.Ah _ _)) fun tc nZ c74 σ6 L6 nq Nv zX nr => ⟨_, _, _, rfl, fun hh => ?_, fun _ => ?_⟩
 · have h1 : L6.length = rk := by rw [Mz (L0 zX) rv.1 fun x => by rw [nr]; simp, rv.2]
   have h2 : L6.length = nZ := nq.rd.1
   exact absurd (by omega) hh
 have AM7 : By .i64 (σ4.new σ6) tc nZ L6 := (nq.rd).mono (Ext.CR Oc)
 have Cf : ∀ x, x ∈ L6 ↔ Db x pt = true := fun x => by rw [nr]; simp [Db]
 have hQ : rf / 2 + 1 ≤ 3 ∧ 1 ≤ rf / 2 + 1 := by omega
 have hN6 : Ext (σ4.new σ5) σ6 := (Ext.Ah σ4 σ5).trans Nv
 generalize hN0 : σ4.new σ5 = N0 at hP hN6
 have hdn : bK N0 σ4 := fun k hk => by
   cases hh : N0 k with
   | none => rfl
   | some o => rw [← hN0] at hh; exact absurd (AO.1 hh).1 hk
 generalize zb : σ6.minus N0 = τ6
 have me : Ext σ4 τ6 := by rw [← zb]; exact (Oc.trans Nv).Rb hdn
 have mQ : Ext σ τ6 := za.trans me
 have AGP : By .i64 τ6 tc nZ L6 := by
   refine nq.rd.mono fun k o hk => ?_
   rw [← zb]
   refine Hp.JC.2 ⟨?_, (AO.1 hk).2⟩
   cases hh : N0 k with
   | none => rfl
   | some u =>
     rw [← hN0] at hh
     have := (AO.1 hh).2
     rw [(AO.1 hk).1] at this
     cases this
 have fin : ∀ (σ7 N : Hp) (f : Ci) (EP : List Int) (n19 : Nat), Ext N σ7 → Be N pb (2 * n : Nat) (rf / 2 + 1) [pt] mv [f] (fun _ => none) → Ext σ σ7 → L9 pt.rs f EP → n19 = EP.length →
     Spec prog 17 #[.pointer (some ⟨pb, 0, none⟩)] σ7 (AB R (fun z y => ∃ KA KB KC KD, z = (.tuple #[.int .i64 KA, .slice KB KC KD]) ∧ 2 ≠ (0 : Int) ∧ Df (IntKind.i64.wrap (Int.tdiv rf 2)) fun R9 => AN (R9 + 1) ∧ Br (((R9 + 1) : Int) ≤ (n19 : Int)) (AR.Wy R KA KB KC KD true 1 y) (AR.Wy R KA KB KC KD false 5 y))) := by
   intro σ7 N f EP n19 hN mg Jg hT mj
   have XG : ∀ g ∈ [f], g.length ≤ 1000000 := fun g hg => by
     simp at hg; subst hg
     have := hT.le.2
     omega
   refine RN (mg.mono hN) XG fun AGQ n135 AGR σ8 au Rp => ⟨_, _, _, _, rfl, by decide, fun R9 AM8 => ?_⟩
   have AM9 : R9 = rf / 2 := by
     rw [AM8, Int.tdiv_eq_ediv_of_nonneg (by omega)]
     simp [IntKind.wrap, IntKind.bits, IntKind.signed]; omega
   subst AM9
   have C3 : D1 (rf / 2 + 1) f = decide (rf / 2 + 1 ≤ (n19 : Int)) := by rw [D1, hT.cnt, mj]
   have ANA : Ext σ σ8 := Jg.trans Rp
   have last : ∀ b : Bool, rV (σ7.new σ8) AGQ n135 AGR [b] → AR.Wy R (M3 [b]) AGQ n135 AGR b (M3 [b]) σ8 := fun b au => AR.qE ⟨fun _ Z3 vA =>
     KU (((Own.rd au).mono (Ext.Ah _ _)).mono (.set vA)) (RY (Hp.AA _ _ _)) ⟨_, rfl, fun _ => aw (ANA.trans (.set vA)), fun hh => by simp at hh⟩, fun hh => absurd rfl hh⟩
   rw [List.map_cons, List.map_nil] at au ⊢
   refine ⟨by unfold AN; omega, fun hle => ?_, fun hle => ?_⟩
   · rw [C3, decide_eq_true hle] at au ⊢; exact last true au
   · rw [C3, decide_eq_false hle] at au ⊢; exact last false au
 suffices H : ∀ g i : Nat, ∀ (σ7 N : Hp) (f : Ci) (EP : List Int) J4 n19 Ke, n3 - i = g → i ≤ n3 → Ext N σ7 → Be N pb (2 * n : Nat) (rf / 2 + 1) [pt] mv [f] (fun _ => none) → Ext τ6 (σ7.minus N) → L9 pt.rs f EP → AS .i64 (τ6.new (σ7.minus N)) J4 n19 Ke EP →
     AR.FA R p3 n3 c3 p4 n4 c4 0 rf 0 0 30 5 0 100 16 100 false n (some ⟨pb, 0, none⟩) tc nZ c74 J4 n19 Ke i σ7 from H n3 0 σ6 N0 [] [] none 0 0 rfl (Nat.zero_le _) hN6 hP (by rw [zb]; exact .refl _) L9.nil AS.nil
 intro g
 induction g with
 | zero =>
   intro i σ7 N f EP J4 n19 Ke hg' hi hN mg Jg hT ho
   have mj : n19 = EP.length := ho.rd.1.symm
   exact AR.I2 ⟨fun Ag => by omega, fun _ => fin σ7 N f EP n19 hN mg (mQ.trans (Jg.trans (Ext.Ra _ _))) hT mj⟩
 | succ g ih =>
   intro i σ7 N f EP J4 n19 Ke hg' hi hN mg Jg hT ho
   have mj : n19 = EP.length := ho.rd.1.symm
   have hi3 : i < n3 := by omega
   have EB : Ext σ σ7 := mQ.trans (Jg.trans (Ext.Ra _ _))
   refine AR.I2 ⟨fun _ => ⟨fun ATr => ?_, fun _ => fin σ7 N f EP n19 hN mg EB hT mj⟩, fun hh => by omega⟩
   have hi4 : i < n4 := by omega
   obtain ⟨a, ha⟩ := hn.ex hi3
   obtain ⟨Zz, kO, rfl, ANB⟩ := hn.at ha
   obtain ⟨fa, gR⟩ := hf.ex hi4
   obtain ⟨QY, QZ, rfl, AGS⟩ := hf.at gR
   refine ⟨Zz, kO, rfl, by omega, a, by simpa using EB.ld ANB, Kq ⟨_, rfl, by unfold AN; omega, by omega, fun te h99 => ⟨QY, QZ, rfl, by omega, fa, by simpa using EB.ld AGS, Kq ⟨_, rfl, by decide, fun W3 ANC => ?_⟩⟩⟩⟩
   obtain ⟨q0, q1⟩ := RS (x := VO fa) (k := 5) VP.1 (by decide)
   rw [← ANC] at q0 q1
   refine ⟨by unfold AN; omega, fun xj AGT => AGO hN mg AGT fun N9 hd9 u7 => ⟨rfl, ?_⟩⟩
   generalize hM : σ7.minus N = M at Jg ho hd9
   have yM : Ext M (N9.or M) := Ext.rz hd9
   have hN9 : Ext N9 (N9.or M) := Ext.ry _ _
   have hm9 : Ext M ((N9.or M).minus N9) := yM.Rb hd9
   have AGV : bK N9 τ6 := hd9.less Jg
   have nx : ∀ (SR : Hp) (f' : Ci) (dh : List Int) p' n' c', Ext N9 SR → Be N9 pb (2 * n : Nat) (rf / 2 + 1) [pt] mv [f'] (fun _ => none) → Ext τ6 (SR.minus N9) → L9 pt.rs f' dh → AS .i64 (τ6.new (SR.minus N9)) p' n' c' dh →
       AR.Nk R (aD Zz kO) n3 c3 (aD QY QZ) n4 c4 0 rf 0 0 30 5 0 100 16 100 false n (some ⟨pb, 0, none⟩) tc nZ c74 p' n' c' i SR := fun SR f' dh p' n' c' h0 h1 h2 h3 h4 =>
     AR.Uc ⟨Af hi3 hn.big, ih (i + 1) SR N9 f' dh p' n' c' (by omega) (by omega) h0 h1 h2 h3 h4⟩
   have same : ∀ f', Be N9 pb (2 * n : Nat) (rf / 2 + 1) [pt] mv [f'] (fun _ => none) → L9 pt.rs f' EP → AR.Nk R (aD Zz kO) n3 c3 (aD QY QZ) n4 c4 0 rf 0 0 30 5 0 100 16 100 false n (some ⟨pb, 0, none⟩) tc nZ c74 J4 n19 Ke i (N9.or M) := fun f' h1 h2 =>
     nx _ f' EP J4 n19 Ke hN9 h1 (Jg.trans hm9) h2 (Own.mono (Ext.BH hm9) ho)
   refine Rc (AGP.mono (Jg.trans yM)) ⟨_, rfl, fun CV => ?_, fun CV => ?_⟩
   · rw [decide_eq_true_eq, Cf] at CV
     have hmx : te ∈ pt.rs := by simpa [Db] using CV
     rw [N1 CV] at u7
     obtain ⟨s1, s2⟩ := hT.step (y := 1 + W3) hmx
     have Ly : By .i64 (N9.or M) J4 n19 EP := (AS.rd (Own.mono (Ext.Ah _ _) ho)).mono yM
     refine Rc Ly ⟨_, rfl, fun BQ => ?_, fun AGW => ?_⟩
     · rw [decide_eq_false_iff_not] at BQ
       have M9 := s2 BQ
       have app : C2 (1 + W3) = true → ∀ R8 : Nat, (N9.or M) R8 = none → AJ prog (Builtin.append_ #[26, 26] 26 #[.slice J4 n19 Ke, (.slice (aD R8 0) 1 1)]) (Hp.set (N9.or M) R8 (.cells #[.int .i64 te] 3 (0, 0))) (CS fun kP n132 kQ EA => AR.Nk R (aD Zz kO) n3 c3 (aD QY QZ) n4 c4 0 rf 0 0 30 5 0 100 16 100 false n (some ⟨pb, 0, none⟩) tc nZ c74 kP n132 kQ i EA) := fun hk R8 AGX => by
         rw [if_pos hk] at M9
         have hlen := M9.le.1
         simp at hlen
         refine AS.Hy (Jg.trans yM) (Own.mono (Ext.BH yM) ho) (by omega) (fun p' c' SR zJ rh hdl => ⟨_, _, _, rfl, ?_⟩) AGX
         have key : ∀ k o, N9 k = some o → SR k = some o ∧ ∀ a, p' = some a → k ≠ a.block := fun k o hk => by
           have h1 : (τ6.new (N9.or M)) k = some o := AO.2 ⟨(by
             cases hh : τ6 k with
             | none => rfl
             | some u => exact absurd (AGV k (by rw [hh]; simp)) (by rw [hk]; simp)), Hp.ry hk⟩
           have h2 : ∀ a, J4 = some a → k ≠ a.block := fun a hpa e => by
             have := Own.block ho a hpa
             have hMa : M a.block ≠ none := fun e2 => this (by
               cases hh : (τ6.new M) a.block with
               | none => rfl
               | some u => rw [(AO.1 hh).2] at e2; cases e2)
             have := hd9 _ hMa
             rw [← e, hk] at this; cases this
           have h3 := A3.1 (hdl k o (A3.2 ⟨h2, h1⟩))
           exact ⟨(AO.1 h3.2).2, h3.1⟩
         refine nx SR _ _ p' _ c' (fun k o hk => (key k o hk).1) u7 (rh.Rb AGV) M9 (TwW.Own.loc zJ fun b hb => ?_)
         have sB : N9 b = none := by
           cases hh : N9 b with
           | none => rfl
           | some u =>
             cases p' with
             | none => cases hb
             | some a =>
               simp only [DI, List.mem_singleton] at hb
               exact absurd hb ((key b u hh).2 a rfl)
         unfold Hp.new Hp.minus
         rw [sB]
       refine ⟨fun h1 => app (VR.2 (.inl h1)), fun h1 => ⟨fun h2 => app (VR.2 (.inr h2)), fun h2 => ?_⟩⟩
       have hk : ¬ C2 (1 + W3) = true := fun h => (VR.1 h).elim h1 h2
       rw [if_neg hk] at M9
       exact same _ u7 M9
     · rw [decide_eq_true_eq] at AGW
       exact same _ u7 (s1 AGW)
   · rw [decide_eq_false_iff_not, Cf] at CV
     rw [gn (by simpa using CV)] at u7
     exact same _ u7 hT
end
end TwW
end
section
namespace Tw
open Go Go.RowKit Go.ChangeShapes Go.WideShapes Go.Deep
def full (w : World) : Hp := fun b => w.heap[b]?
theorem ml (w : World) : Sat (full w) w := fun _ _ h => h
theorem r5 {w : World} {a : Addr} {v : Value} (h : w.cell? a = some v) : (full w).ld a = some v := h
theorem mn {w w' : World} {σ' : Hp} (hx : Ext (full w) σ') (hs : Sat σ' w') (ho : FJ w w') (FB : w'.output = w.output) (hg : w.heap.size ≤ w'.heap.size) : Below w.heap.size w w' :=
 ⟨ho.1, ho.2.1, FB, hg, fun k hk => by
   have h1 : w.heap[k]? = some w.heap[k] := Array.getElem?_eq_getElem hk
   rw [h1]; exact hs _ _ (hx _ _ h1)⟩
def Lawful (P : Program) (f : FuncId) (args : Array Value) (w : World) : Prop := Spec P f args (full w) (fun e σ' => e = .returned (.bool true) ∧ Ext (full w) σ')
theorem Lawful.calls {P : Program} {f : FuncId} {args : Array Value} {w : World} (h : Lawful P f args w) : Calls P f args w fun e w' => e = .returned (.bool true) ∧ Below w.heap.size w w' :=
 (h w (fun _ => False) (ml w) (fun _ h => h.elim)).mono fun e w' ⟨σ', ⟨he, hx⟩, hf⟩ => ⟨he, mn hx hf.sat hf.os hf.out hf.grow⟩
section
variable {H : Type} {enc : TypeId × Value → H} {P : Program}
theorem Lg (hl : laidOutB P = true) {W W' : World} (hb : Below W.heap.size W W') : ∀ {ts : List TypeId} {vs : List Value} {ds : List (DataW H)} {ps : List MemPlace}, (ts.all fun t => P.readableRec t && Nat.blt t P.types.size) = true → (∀ x ∈ ps, x.block < W.heap.size) →
   DataW.TrodAll enc P W 0 (fun _ => true) true ts vs ds ps → DataW.TrodAll enc P W' 0 (fun b => decide (b < W.heap.size)) true ts vs ds ps
 | [], [], [], ps, _, _, h => h
 | t :: ts, v :: vs, d :: ds, ps, hr, Ag, ⟨p, q, h1, h2, e⟩ => by
   simp only [List.all_cons, Bool.and_eq_true] at hr
   subst e
   exact ⟨p, q, Below.trod hl hr.1.1 (Nat.le_of_ble_eq_true hr.1.2) h1 hb (fun x hx => Ag x (List.mem_append_left _ hx)), Lg hl hb hr.2 (fun x hx => Ag x (List.mem_append_right _ hx)) h2, rfl⟩
 | [], _ :: _, _, _, _, _, h => h.elim
 | [], [], _ :: _, _, _, _, h => h.elim
 | _ :: _, [], _, _, _, _, h => h.elim
 | _ :: _, _ :: _, [], _, _, _, h => h.elim
theorem mo {f : Func} {s : ChangeSpec} {W W' : World} {args : Array Value} {ds gs : List (DataW H)} {before : List MemPlace} {tb : TypeId} (hl : laidOutB P = true) (hr : (f.params.toList.all fun t => P.readableRec t && Nat.blt t P.types.size) = true)
   (rv : f.resultTypes = #[tb]) (htb : P.underlying tb = some .bool) (hv : s.vars = []) (M8 : (s.fn H (ds ++ gs)).results = [.lit (.bool true)] ∧ (s.fn H (ds ++ gs)).args = ds ∧ (s.fn H (ds ++ gs)).vars = [])
   (hW : DataW.Whole enc P f.params.toList s.vars false W args.toList ds gs before) (hb : Below W.heap.size W W') : s.post enc P f false true false false W args (.bool true) W' := by
 have Ag : ∀ p ∈ before, p.block < W.heap.size := fun p hp => hW.lt p hp
 have hW' := hW
 obtain ⟨p, q, hA, hV, rfl, hfz, _⟩ := hW'
 refine ⟨ds, gs, p ++ q, [], p, [], hW, ?_, ?_, ?_, World.keptBut_mono (fun x hx => ⟨hx, ?_⟩) (hb.frame (· ∈ p ++ q)), fun h => by cases h⟩
 · rw [M8.1, rv]
   exact trodAll_mk1 (shut_bool htb true)
 · rw [M8.2.1]
   exact Lg hl hb hr (fun x hx => Ag x (List.mem_append_left _ hx)) hA
 · rw [M8.2.2, hv]; rfl
 · rw [hv] at hV
   have : q = [] := by
     cases gs with
     | nil => exact hV
     | cons _ _ => exact hV.elim
   subst this
   exact .inr (.inl (by simpa using hx))
def bL (P : Program) {α : Type} (t : TypeId) (E : Hp → List Value → α → Prop) (I : α → Prop) : Prop :=
 ∀ {H : Type} {enc : TypeId × Value → H} {w : World} {base : Nat} {sp : Nat → Bool} {held : Bool} {fuel : Nat} {cs : List Value} {x : DataW H × List MemPlace},
   DataW.trod enc P w base sp held fuel t cs = some x → (∀ n ∈ x.1.weights P t, n ≤ reachBytes) → ∃ y, E (full w) cs y ∧ I y
theorem bL.int {t : TypeId} {k : IntKind} (ht : P.underlying t = some (.int k)) : bL P t (T9 k) (fun x => (Lit.int k x).wf = true) := fun h _ => by
 obtain ⟨n, rfl, rfl, hw⟩ := DataW.trod_int ht h
 exact ⟨n, rfl, hw⟩
theorem Ox {e : TypeId} : ∀ {l : List (DataW H)} {d : DataW H}, d ∈ l → ∀ n ∈ d.weights P e, n ∈ DataW.weightsAll P e l
 | x :: l, d, hd, n, hn => by
   simp only [DataW.weightsAll, List.mem_append]
   rcases List.mem_cons.1 hd with rfl | hd
   · exact .inl hn
   · exact .inr (Ox hd n hn)
theorem Ga {n : Nat} : ∀ {ts : List TypeId} {l : List (DataW H)} {j : Nat} {t : TypeId} {d : DataW H}, ts[j]? = some t → l[j]? = some d → n ∈ d.weights P t → n ∈ DataW.weightsEach P ts l := fun ht hd hn => DataW.weights_mem_each ht hd n hn
theorem Dz.snoc {σ : Hp} {b : Nat} : ∀ {l m : List Value} {o : Nat}, Dz σ b o l → Dz σ b (o + l.length) m → Dz σ b o (l ++ m)
 | [], m, o, _, h => by simpa using h
 | v :: l, m, o, h, h' => ⟨h.1, Dz.snoc h.2 (by simpa [Nat.add_assoc, Nat.add_comm 1] using h')⟩
theorem Fj.mk' {α : Type} {s : Nat} {E : Hp → List Value → α → Prop} {I : α → Prop} {σ : Hp} {b o : Nat} : ∀ {n : Nat}, n ≤ 4611686018427387904 → (∀ i, i < n → ∃ vs x, vs.length = s ∧ Dz σ b (o + i * s) vs ∧ E σ vs x ∧ I x) →
   ∃ xs, Fj s E σ (some ⟨b, o, none⟩) n xs ∧ ∀ x ∈ xs, I x
 | 0, _, _ => ⟨[], Fj.nil, by simp⟩
 | n + 1, hn, h => by
   obtain ⟨xs, ⟨h1, cs, ⟨hl, _, h2⟩, h3⟩, hI⟩ := Fj.mk' (n := n) (by omega) (fun i hi => h i (by omega))
   obtain ⟨vs, x, hv, oI, hE, hx⟩ := h n (by omega)
   have Hv : Dz σ b o cs := by
     rcases h2 with rfl | ⟨b', o', hp, S5⟩
     · have : cs = [] := List.eq_nil_of_length_eq_zero (by simpa using hl)
       subst this; trivial
     · cases hp; exact S5
   refine ⟨xs ++ [x], ⟨by simp [h1], cs ++ vs, ⟨by rw [List.length_append, hl, hv, Nat.add_mul]; omega, hn, .inr ⟨b, o, rfl, Hv.snoc (by rw [hl]; exact oI)⟩⟩, h3.snoc hv hE⟩, fun y hy => ?_⟩
   rcases List.mem_append.1 hy with hy | hy
   · exact hI y hy
   · simp at hy; subst hy; exact hx
def ESl {α : Type} (s : Nat) (E : Hp → List Value → α → Prop) (σ : Hp) (vs : List Value) (xs : List α) : Prop := ∃ p n c, vs = [.slice p n c] ∧ Fj s E σ p n xs
theorem gu {w : World} {a : Addr} {v : Value} (h : w.cell? a = some v) : a.spot = none := by
 unfold World.cell? at h
 split at h
 · split at h
   · cases h
   · rename_i hs; simpa using hs
 · cases h
theorem bL.slice {α : Type} {t e : TypeId} {s bs : Nat} {E : Hp → List Value → α → Prop} {I : α → Prop} (ht : P.underlying t = some (.slice e)) (hs : P.cellsOf e = s) (iM : P.bytesOf e = bs) (kY : 0 < s) (vO : 0 < bs) (he : bL P e E I) :
   bL P t (ESl s E) (fun xs => (∀ x ∈ xs, I x) ∧ xs.length * bs ≤ reachBytes) := by
 intro H enc w base sp held fuel cs x h hw
 subst hs iM
 rcases open_slice ht h with ⟨rfl, rfl⟩ | ⟨a, len, cap, m, n, D, Pl, rfl, hb, hl, hm, gM, rfl, hi⟩
 · exact ⟨[], ⟨none, 0, 0, rfl, Fj.nil⟩, by simp, by simp⟩
 · have hlm : len ≤ m := by rw [gM]; split <;> omega
   have VS : len * P.bytesOf e ≤ reachBytes := by
     have := hw _ (by simp only [DataW.weights, ht]; exact List.mem_cons_self ..)
     simp only [List.length_map, List.length_range] at this
     exact Nat.le_trans (Nat.mul_le_mul_right _ (by omega)) this
   have hlen : len ≤ reachBytes := Nat.le_trans (Nat.le_mul_of_pos_right _ vO) VS
   have zc : len ≤ 4611686018427387904 := Nat.le_trans hlen (by decide)
   have r6 : ∀ i, i < len → ∀ k ∈ (D i).weights P e, k ≤ reachBytes := fun i JQ k hk => hw k (by
     simp only [DataW.weights, ht]
     exact List.mem_cons_of_mem _ (List.mem_append_left _ (Ox (List.mem_map.2 ⟨i, List.mem_range.2 JQ, rfl⟩) k hk)))
   by_cases h0 : len = 0
   · subst h0
     exact ⟨[], ⟨some a, 0, cap, rfl, Fj.nil⟩, by simp, by simp⟩
   · have vB : a.spot = none := by
       obtain ⟨cs', hc, _⟩ := hi 0 (by omega)
       obtain ⟨_, jL, dw⟩ := World.cells?_some hc
       have h1 := dw 0 kY
       rw [List.getElem?_eq_getElem (by omega)] at h1
       have := gu h1
       simpa [Addr.add] using this
     obtain ⟨b, o, sp'⟩ := a
     simp only at vB
     subst vB
     obtain ⟨xs, hr, hI⟩ := Fj.mk' (s := P.cellsOf e) (E := E) (I := I) (σ := full w) (b := b) (o := o) zc (fun i JQ => by
       obtain ⟨cs', hc, ht'⟩ := hi i (by omega)
       obtain ⟨_, jL, dw⟩ := World.cells?_some hc
       obtain ⟨y, hE, hy⟩ := he ht' (r6 i JQ)
       refine ⟨cs', y, jL, Dz.of fun j v hj => ?_, hE, hy⟩
       have T7 : j < P.cellsOf e := by have := (List.getElem?_eq_some_iff.1 hj).1; omega
       have h1 := dw j T7
       rw [hj, DB, DB] at h1
       exact r5 h1)
     exact ⟨xs, ⟨some ⟨b, o, none⟩, len, cap, rfl, hr⟩, hI, by rw [hr.1]; exact VS⟩
end
end Tw
end
section
namespace TwW
open Go Tw Go.RowKit Go.ChangeShapes Go.WideShapes Go.ChangeAt Go.Deep Go.Proofs.Tryz
namespace Rw
open Go.Proofs.YtaaincfenibojaaGreatDoor
theorem own : ownKnob prog.godebug = none := by kernel_rfl
theorem laidOut : laidOutB prog = true := by kernel_rfl
def cellsOf : DataW Unit → Array Value
 | .agg l => (l.map fun x => match x with | .lit (.int k z) => Value.int k z | _ => .nilFunc).toArray
 | _ => #[]
def strOf : DataW Unit → Value
 | .iface _ (.ptr (.agg [.lit (.string s)])) => .string ⟨s.toArray⟩
 | _ => .nilFunc
noncomputable def N2 (os : Os) : World :=
 let N := (World.settled prog os).heap.size
 let w0 := World.holding prog os ⟨#[.cells #[strOf Rows.laid_strconv_ErrSyntax] 405, .cells #[strOf Rows.laid_strconv_ErrRange] 405], #[], []⟩
 let put (h : Array Obj) (g : Nat) (cs : Array Value) : Array Obj := h.modify g fun
   | .cells _ t frozen => .cells cs t frozen
   | o => o
 let h0 := put (put w0.heap 4 #[.iface 403 (.pointer (some ⟨N, 0, none⟩))]) 5 #[.iface 403 (.pointer (some ⟨N + 1, 0, none⟩))]
 { w0 with heap := put (put (put h0 1 (cellsOf Rows.laid_internal_strconv_uint64pow10)) 2 (cellsOf Rows.laid_math_bits_deBruijn32tab)) 3 (cellsOf Rows.laid_math_bits_deBruijn64tab) }
abbrev Laid : List (String × DataW Unit) := [("math/bits.deBruijn32tab", Rows.laid_math_bits_deBruijn32tab), ("math/bits.deBruijn64tab", Rows.laid_math_bits_deBruijn64tab), ("internal/strconv.uint64pow10", Rows.laid_internal_strconv_uint64pow10), ("strconv.ErrRange", Rows.laid_strconv_ErrRange), ("strconv.ErrSyntax", Rows.laid_strconv_ErrSyntax)]
theorem mq (os : Os) (args : Array Value) : laidMet prog Laid ((N2 os).forCall (fun _ _ => 0) ⟨#[], args, []⟩).memory :=
 laidMet_of_run' 8 (by kernel_rfl) (by kernel_rfl)
theorem mr {W : World} {cs : Array Value} (h : W.var? prog "internal/strconv.uint64pow10" = some cs) : ∃ T fr, W.heap[1]? = some (.cells cs T fr) := by
 unfold World.var? at h
 rw [show prog.globalNamed "internal/strconv.uint64pow10" = some 1 by kernel_rfl] at h
 simp only [Option.bind_some] at h
 split at h
 · rename_i c T fr hc
   cases h
   exact ⟨T, fr, hc⟩
 · cases h
theorem AGY {W : World} (h : laidMetH prog Laid W) : Tb (full W) := by
 have h1 : laidMet prog Laid W := h
 have h2 : laidMet prog (("internal/strconv.uint64pow10", Lib.tabData .u64 Lib.pow10Tab) :: [("strconv.ErrRange", Rows.laid_strconv_ErrRange), ("strconv.ErrSyntax", Rows.laid_strconv_ErrSyntax)]) W := laidMet.tail (laidMet.tail h1)
 have h3 := Lib.tabIs_of_head (g := 1) (t := 336) (e := 23) (n := 20) (by kernel_rfl) (by kernel_rfl) (by kernel_rfl) (by kernel_rfl) (by kernel_rfl) (by kernel_rfl) h2
 obtain ⟨T, fr, h4⟩ := mr h3
 exact ⟨1, T, fr, by kernel_rfl, h4⟩
theorem G7 {H : Type} {P : Program} {t : TypeId} {fs : Array Field} (ht : P.underlying t = some (.struct fs)) {ds : List (DataW H)} {j : Nat} {f : Field} {d : DataW H} (hf : fs[j]? = some f) (hd : ds[j]? = some d) (hw : ∀ n ∈ (DataW.agg ds).weights P t, n ≤ reachBytes) :
   ∀ n ∈ d.weights P f.type, n ≤ reachBytes := fun n hn => hw n (by
 simp only [DataW.weights, ht]
 exact Ga (by simp [hf]) hd hn)
theorem bL.str {t : TypeId} (ht : prog.underlying t = some .string) : bL prog t (fun _ vs (s : ByteArray) => vs = [.string s]) (fun _ => True) := fun h _ => by
 obtain ⟨n, rfl, rfl, _⟩ := DataW.trod_string ht h
 exact ⟨n, rfl, trivial⟩
set_option maxRecDepth 100000 in
theorem zd : bL prog 61 JU (fun _ => True) := by
 intro H enc w base sp held fuel cs x h hw
 obtain ⟨xs, n, _, rfl, hlen, Rs, hg⟩ := DataW.trod_struct underlying61 h
 rw [show prog.cellsOf 61 = 2 by kernel_rfl] at hlen
 match cs, hlen, xs, Rs with
 | [c0, c1], _, [y0, y1], _ =>
   have h0 := hg 0 _ rfl
   have h1 := hg 1 _ rfl
   simp only [show prog.cellsOf 9 = 1 by kernel_rfl, List.drop, List.take, List.getElem?_cons_zero, List.getElem?_cons_succ] at h0 h1
   obtain ⟨a, e0, _⟩ := bL.str underlying9 h0 (G7 underlying61 (j := 0) (ds := [y0.1, y1.1]) (f := { name := "Name", type := 9, offset := 0, embedded := false, tag := "", pkgPath := "", byteOffset := 0 }) rfl rfl (by simpa using hw))
   obtain ⟨b, e1, _⟩ := bL.str underlying9 h1 (G7 underlying61 (j := 1) (ds := [y0.1, y1.1]) (f := { name := "Value", type := 9, offset := 1, embedded := false, tag := "", pkgPath := "", byteOffset := 16 }) rfl rfl (by simpa using hw))
   cases e0; cases e1
   exact ⟨(a, b), rfl, trivial⟩
theorem ze : bL prog 22 (ESl 2 JU) (fun xs => (∀ x ∈ xs, True) ∧ xs.length * 32 ≤ reachBytes) :=
 bL.slice underlying22 (by kernel_rfl) (by kernel_rfl) (by decide) (by decide) zd
theorem zf : bL prog 26 (ESl 1 (T9 .i64)) (fun xs => (∀ x ∈ xs, (Lit.int .i64 x).wf = true) ∧ xs.length * 8 ≤ reachBytes) :=
 bL.slice underlying26 (by kernel_rfl) (by kernel_rfl) (by decide) (by decide) (bL.int underlying3)
section
variable {H : Type} {enc : TypeId × Value → H} {W : World} {base : Nat} {v : Value} {d : DataW H} {ps : List MemPlace} {r : Reach}
set_option maxRecDepth 100000 in
theorem di (hv : Value.okWide prog W r base 26 v) (h : DataW.Trod enc prog W 0 (fun _ => true) true 26 v d ps) (hw : ∀ n ∈ d.weights prog 26, n ≤ reachBytes) :
   ∃ p n c xs, v = .slice p n c ∧ By .i64 (full W) p n xs := by
 obtain ⟨a, l, c, rfl⟩ := okWide_slice underlying26 hv
 obtain ⟨fuel, hf⟩ := h
 obtain ⟨xs, ⟨p, n, c', e, hr⟩, hI, hz⟩ := zf hf hw
 have e' : [Value.slice a l c] = [.slice p n c'] := by simpa [Value.cells] using e
 cases e'
 exact ⟨a, l, c, xs, rfl, hr⟩
set_option maxRecDepth 100000 in
theorem r7 (hv : Value.okWide prog W r base 25 v) (h : DataW.Trod enc prog W 0 (fun _ => true) true 25 v d ps) (hw : ∀ n ∈ d.weights prog 25, n ≤ reachBytes) :
   ∃ p n c t u ls, v = .agg #[.slice p n c, .int .i64 t, .int .u64 u] ∧ Pf (full W) p n ls := by
 obtain ⟨cs, rfl, EU⟩ := okWide_struct underlying25 hv
 obtain ⟨fuel, hf⟩ := h
 obtain ⟨xs, n, _, hx, hlen, Rs, hg⟩ := DataW.trod_struct underlying25 hf
 simp only [Prod.mk.injEq] at hx
 obtain ⟨l⟩ := cs
 rw [show prog.cellsOf 25 = 3 by kernel_rfl] at hlen
 match l, hlen, xs, Rs with
 | [c0, c1, c2], _, [y0, y1, y2], _ =>
   have h0 := hg 0 _ rfl
   have h1 := hg 1 _ rfl
   have h2 := hg 2 _ rfl
   simp only [Value.cells, show prog.cellsOf 22 = 1 by kernel_rfl, show prog.cellsOf 2 = 1 by kernel_rfl, show prog.cellsOf 23 = 1 by kernel_rfl, List.drop, List.take, List.getElem?_cons_zero, List.getElem?_cons_succ] at h0 h1 h2
   obtain ⟨ls, ⟨p, k, c, e0, hr⟩, hI, hL⟩ := ze h0 (G7 underlying25 (j := 0) (ds := [y0.1, y1.1, y2.1]) (f := { name := "Labels", type := 22, offset := 0, embedded := false, tag := "", pkgPath := "", byteOffset := 0 }) rfl rfl (by rw [hx.1] at hw; simpa using hw))
   obtain ⟨a, e1, _, wa⟩ := DataW.trod_int underlying2 h1
   obtain ⟨b, e2, _, wb⟩ := DataW.trod_int underlying23 h2
   cases e0; cases e1; cases e2
   exact ⟨p, k, c, a, b, ls, rfl, hr⟩
end
theorem zh {f : FuncId} {fn : Func} {s : ChangeSpec} {H : Type} {enc : TypeId × Value → H} {W : World} {args : Array Value} {ds gs : List (DataW H)} {before : List MemPlace} (hr : (fn.params.toList.all fun t => prog.readableRec t && Nat.blt t prog.types.size) = true)
   (rv : fn.resultTypes = #[4]) (hv : s.vars = []) (M8 : (s.fn H (ds ++ gs)).results = [.lit (.bool true)] ∧ (s.fn H (ds ++ gs)).args = ds ∧ (s.fn H (ds ++ gs)).vars = [])
   (hW : DataW.Whole enc prog fn.params.toList s.vars false W args.toList ds gs before) (h : Lawful prog f args W) :
   Calls prog f args W fun e W' => ∃ v, e = .returned v ∧ s.post enc prog fn false true false false W args v W' :=
 h.calls.mono fun e W' ⟨he, hb⟩ => ⟨_, he, mo laidOut hr rv underlying4 hv M8 hW hb⟩
end Rw
end TwW
end
section
namespace TwW.Rw
open Go Tw TwW Go.Proofs.Tryz Go.Proofs.YtaaincfenibojaaGreatDoor
theorem CH {a b : Bool} (h1 : a = true) (h2 : b = true) : (a && b) = true := by rw [h1, h2]; rfl
theorem AGZ : mapsRowed prog = true := by kernel_rfl
theorem heard : prog.stopsHeard = true := by kernel_rfl
theorem enters : prog.mayEnter = true := by kernel_rfl
theorem zi : (prog.stops == []) = true := by kernel_rfl
theorem zj : (prog.stopKnobs == []) = true := by kernel_rfl
theorem AGa : (Rows.distributorQuorumRow.lifted == prog.liftsFinal) = true := by kernel_rfl
theorem keys : (Rows.distributorQuorumRow.plainKeys == prog.plainKeys) = true := by kernel_rfl
theorem makes : (prog.make == some Rows.distributorQuorumRow.make) = true := by kernel_rfl
end TwW.Rw
end
