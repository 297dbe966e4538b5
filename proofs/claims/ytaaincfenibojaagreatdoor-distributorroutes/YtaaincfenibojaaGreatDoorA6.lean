/-
  Part 6 of the proof that the law DistributorRoutesCardSaid of the given program answers true for every input of the given statement; the input reads behind the call as it did. (The texts: packed from 19 texts. Names are shortened by the packing program, for the bound on size.)
-/
import Derived.Test.YtaaincfenibojaaGreatDoorA5
import Derived.Laws.BytesArg
import Derived.ProofKit
import Derived.SizedLaws
import Derived.Deep.Slices
import Derived.Test.YtaaincfenibojaaGreatDoorCards
import Derived.Test.YtaaincfenibojaaGreatDoorTie
import Derived.WalkKit
import Derived.OpenShut
import Derived.Deep.DeepHandedRow
import Derived.Deep.DeepWitnessRowRef
import Derived.Lib.LaidTab
import Derived.Stop.LaidErr
import Derived.Laws.StructEq
import Derived.Tactics
import Derived.Tactics2
set_option linter.all false
section
namespace TwW
open Go Tw Go.RowKit Go.Proofs.Tryz
section
variable {σ σ' τ : Hp} {R : Rr}
theorem RE {α : Type} [Inhabited α] {enc : α → Value} {F2 : Array α} {F : Nat → Prop} {w : World} {b o n : Nat} {arr : Array Value} {T : TypeId} {os : Array Obj} (hs : Sat σ w) (hF : ∀ b, F b → b < w.heap.size ∧ σ b = none) (hb : σ b = some (.cells arr T (0, 0))) :
   Fin (σ.set b (.cells (Sort.putCells enc o F2 arr) T (0, 0))) F w (Sort.grow (Sort.putRow enc (Sort.ahead w n) b o F2) os) := by
 have hw := hs _ _ hb
 have hblk : b < w.heap.size := (Array.getElem?_eq_some_iff.1 hw).1
 have DI : ∀ k, (Sort.grow (Sort.putRow enc (Sort.ahead w n) b o F2) os).heap[k]? = if k < w.heap.size then (if b = k then (w.heap[k]?).map (Sort.onCells (Sort.putCells enc o F2)) else w.heap[k]?) else os[k - w.heap.size]? := fun k => by
   simp only [Sort.grow, Sort.putRow, Sort.mapBlock, Sort.ahead, Array.getElem?_append, Array.size_modify, Array.getElem?_modify]
 refine ⟨fun k u hk => ?_, fun k hk => ?_, ⟨rfl, rfl, fun _ => ⟨n, rfl⟩⟩, rfl, by simp [Sort.grow, Sort.putRow, Sort.mapBlock, Sort.ahead]⟩
 · rw [DI k]
   by_cases C5 : k = b
   · subst C5
     rw [Hp.AA] at hk; cases hk
     rw [if_pos hblk, if_pos rfl, hw]; rfl
   · rw [Hp.AH C5] at hk
     have := hs k u hk
     rw [if_pos (Array.getElem?_eq_some_iff.1 this).1, if_neg (Ne.symm C5)]; exact this
 · have C5 : k ≠ b := fun e => by have := (hF k hk).2; rw [e, hb] at this; cases this
   refine ⟨by rw [Hp.AH C5]; exact (hF k hk).2, ?_⟩
   rw [DI k, if_pos (hF k hk).1, if_neg (Ne.symm C5)]
theorem AR.row {q : Option Addr} {m d : Nat} {xs : List Int} (ho : AR .i64 σ q m d xs) (Mi : m ≠ 0) {w : World} (hs : Sat σ w) :
   ∃ b o arr T, q = some ⟨b, o, none⟩ ∧ σ b = some (.cells arr T (0, 0)) ∧ m ≤ d ∧ o + d * 1 ≤ arr.size ∧ (∀ (j : Nat) (hj : j < xs.length), arr[o + j]? = some (.int .i64 xs[j])) ∧ Sort.Holds (Value.int .i64) w b o xs.toArray ∧ b < w.heap.size := by
 have hm : xs.length = m := ho.rd.1
 obtain ⟨b, o, arr, T, rfl, hb, cz, Oo, H5⟩ : ∃ b o arr T, q = some ⟨b, o, none⟩ ∧ σ b = some (.cells arr T (0, 0)) ∧ m ≤ d ∧ o + d * 1 ≤ arr.size ∧ (arr.toList.drop o).take (m * 1) = xs.map (.int .i64) := by
   rcases ho.2.2 with ⟨_, h2, _⟩ | h
   · exact absurd h2 Mi
   · exact h
 have hw := hs _ _ hb
 have O0 : ∀ (j : Nat) (hj : j < xs.length), arr[o + j]? = some (.int .i64 xs[j]) := fun j hj => by
   have h1 : (xs.map (Value.int .i64))[j]? = some (.int .i64 xs[j]) := by simp [hj]
   rw [← H5, List.getElem?_take, if_pos (by omega), List.getElem?_drop, Array.getElem?_toList] at h1
   exact h1
 refine ⟨b, o, arr, T, rfl, hb, cz, Oo, O0, fun j hj => ?_, (Array.getElem?_eq_some_iff.1 hw).1⟩
 have Tx : j < xs.length := by simpa using hj
 refine ⟨?_, by simp [World.frozen?, hw]⟩
 have e1 : xs.toArray[j]! = xs[j] := by simp [Tx]
 simp only [World.cell?, hw, e1]
 simpa using O0 j Tx
def Gc (xs : List Int) : List Int := xs.mergeSort fun x y => decide (x ≤ y)
theorem Ha (xs : List Int) : (Gc xs).length = xs.length := by simp [Gc]
theorem Xv (xs : List Int) : (Gc xs).Pairwise (· ≤ ·) := by
 have := List.pairwise_mergeSort (le := fun x y : Int => decide (x ≤ y)) (fun a b c h1 h2 => by simp at *; omega) (fun a b => by simp; omega) xs
 exact this.imp fun h => by simpa using h
theorem ai {q : Option Addr} {m d : Nat} {xs : List Int} (ho : AR .i64 σ q m d xs) (EY : m < 4611686018427387904)
   (h : ∀ σ', AR .i64 σ' q m d (Gc xs) → Ext (σ.del q) (σ'.del q) → R (.returned (.tuple #[])) σ') : Spec prog 48 #[.slice q m d] σ R := by
 intro w F hs hF
 have hm : xs.length = m := ho.rd.1
 by_cases Mi : m = 0
 · subst Mi
   have hx : xs = [] := List.eq_nil_of_length_eq_zero hm
   subst hx
   refine (Go.Proofs.Tryz.slices_Sort_int_none q d w).mono ?_
   rintro e w' ⟨rfl, rfl⟩
   exact ⟨σ, h σ (by simpa [Gc] using ho) (Ext.refl _), hs, fun b hb => ⟨(hF b hb).2, rfl⟩, .same rfl rfl rfl, rfl, Nat.le_refl _⟩
 · obtain ⟨b, o, arr, T, rfl, hb, cz, Oo, O0, hH, hblk⟩ := AR.row ho Mi hs
   have Ho := Go.Proofs.Tryz.slices_Sort_int b o d xs w hH hblk (by omega)
   rw [hm] at Ho
   refine Ho.mono ?_
   rintro e w' ⟨rfl, n, os, rfl⟩
   refine ⟨_, h _ ⟨by simp [Ha, hm], by omega, .inr ⟨b, o, _, T, rfl, Hp.AA _ _ _, cz, by simpa [Sort.putCells] using Oo, ?_⟩⟩ (by rw [Hp.Bh]; exact Ext.refl _), RE (F2 := (Gc xs).toArray) hs hF hb⟩
   have hF2 : (Gc xs).toArray.size = m := by simp [Ha, hm]
   refine List.ext_getElem? fun j => ?_
   rw [List.getElem?_take]
   by_cases hj : j < m * 1
   · have Ty : j < (Gc xs).length := by rw [Ha]; omega
     rw [if_pos hj, List.getElem?_drop, Array.getElem?_toList, E0, if_pos (by omega), O0 j (by omega)]
     simp [Ty]
   · rw [if_neg hj, List.getElem?_eq_none (by simp [Ha]; omega)]
theorem RF {zs : List Int} (hz : zs.Pairwise (· ≤ ·)) : ∀ m, m ≤ zs.length → (Lib.compactUpTo zs.toArray m).Pairwise (· < ·) ∧ ∀ x, x ∈ Lib.compactUpTo zs.toArray m ↔ x ∈ zs.take m
 | 0, _ => by simp [Lib.compactUpTo]
 | m + 1, hm => by
   obtain ⟨h1, h2⟩ := RF hz m (by omega)
   have Ag : m < zs.length := by omega
   have em : zs.toArray[m]! = zs[m] := by simp [Ag]
   have C2 : ∀ x, x ∈ zs.take (m + 1) ↔ x ∈ zs.take m ∨ x = zs[m] := fun x => Fa (List.getElem?_eq_getElem Ag)
   rw [Lib.compactUpTo_succ]
   by_cases hk : Lib.keeps zs.toArray m = true
   · rw [if_pos hk, em]
     refine ⟨List.pairwise_append.2 ⟨h1, by simp, fun a ha b hb => ?_⟩, fun x => by rw [C2, List.mem_append, h2]; simp⟩
     simp only [List.mem_singleton] at hb
     subst hb
     obtain ⟨i, hi, rfl⟩ := List.mem_iff_getElem.1 ((h2 a).1 ha)
     rw [List.length_take] at hi
     rw [List.getElem_take]
     have HI : i < m := by omega
     have hle : zs[m - 1]'(by omega) ≤ zs[m] := List.pairwise_iff_getElem.1 hz (m - 1) m (by omega) Ag (by omega)
     have Ae : zs[m] ≠ zs[m - 1]'(by omega) := by
       have e1 : zs.toArray[m - 1]! = zs[m - 1]'(by omega) := by simp [show m - 1 < zs.length by omega]
       unfold Lib.keeps at hk
       rw [em, e1] at hk
       simp only [decide_eq_true_eq] at hk
       rcases hk with hk | hk
       · omega
       · exact hk
     have AFK : zs[i]'(by omega) ≤ zs[m - 1]'(by omega) := by
       by_cases hh : i = m - 1
       · subst hh; exact Int.le_refl _
       · exact List.pairwise_iff_getElem.1 hz i (m - 1) (by omega) (by omega) (by omega)
     omega
   · rw [if_neg hk, List.append_nil]
     refine ⟨h1, fun x => ?_⟩
     rw [C2, h2]
     refine ⟨.inl, fun h => h.elim id fun he => ?_⟩
     unfold Lib.keeps at hk
     rw [em] at hk
     simp only [decide_eq_true_eq, not_or, Decidable.not_not] at hk
     have e1 : zs.toArray[m - 1]! = zs[m - 1]'(by omega) := by simp [show m - 1 < zs.length by omega]
     rw [e1] at hk
     rw [he, hk.2]
     exact List.mem_iff_getElem.2 ⟨m - 1, by rw [List.length_take]; omega, by rw [List.getElem_take]⟩
theorem R8 {q : Option Addr} {m d : Nat} {xs : List Int} (ho : AR .i64 σ q m d xs) (hz : xs.Pairwise (· ≤ ·)) (EY : m < 4611686018427387904)
   (h : ∀ σ' k ys, AR .i64 σ' q k d ys → Ext (σ.del q) (σ'.del q) → EM ys → (∀ x, x ∈ ys ↔ x ∈ xs) → R (.returned (.slice q k d)) σ') : Spec prog 49 #[.slice q m d] σ R := by
 intro w F hs hF
 have hm : xs.length = m := ho.rd.1
 by_cases Mi : m = 0
 · subst Mi
   have hx : xs = [] := List.eq_nil_of_length_eq_zero hm
   subst hx
   refine (Go.Proofs.Tryz.slices_Compact_int_empty q d w).mono ?_
   rintro e w' ⟨rfl, rfl⟩
   exact ⟨σ, h σ 0 [] ho (Ext.refl _) List.Pairwise.nil (fun _ => Iff.rfl), hs, fun b hb => ⟨(hF b hb).2, rfl⟩, .same rfl rfl rfl, rfl, Nat.le_refl _⟩
 · obtain ⟨b, o, arr, T, rfl, hb, cz, Oo, O0, hH, hblk⟩ := AR.row ho Mi hs
   obtain ⟨h1, h2⟩ := RF hz xs.length (Nat.le_refl _)
   have Ho := Go.Proofs.Tryz.slices_Compact_int b o d xs w hH (by omega) (by omega)
   rw [hm] at Ho
   refine Ho.mono ?_
   rintro e w' ⟨rfl, n, rfl⟩
   have hle : (Lib.compact xs).length ≤ m := by
     rw [← hm]
     unfold Lib.compact Lib.compactUpTo
     rw [List.length_map]
     have := List.length_filter_le (Lib.keeps xs.toArray) (List.range xs.length)
     simpa using this
   have hF2 : (Lib.compact xs ++ List.replicate (m - (Lib.compact xs).length) 0).toArray.size = m := by simp; omega
   have Jg := RE (enc := Value.int .i64) (F2 := (Lib.compact xs ++ List.replicate (m - (Lib.compact xs).length) 0).toArray) (o := o) (n := n) (os := #[]) hs hF hb
   rw [Sort.grow_empty] at Jg
   refine ⟨_, h _ _ (Lib.compact xs) ⟨by simp, by omega, .inr ⟨b, o, _, T, rfl, Hp.AA _ _ _, by omega, by simpa [Sort.putCells] using Oo, ?_⟩⟩ (by rw [Hp.Bh]; exact Ext.refl _) h1 (fun x => by have := h2 x; rw [List.take_length] at this; exact this), Jg⟩
   refine List.ext_getElem? fun j => ?_
   rw [List.getElem?_take]
   by_cases hj : j < (Lib.compact xs).length * 1
   · have Ty : j < (Lib.compact xs).length := by omega
     rw [if_pos hj, List.getElem?_drop, Array.getElem?_toList, E0, if_pos (by omega), O0 j (by omega)]
     have e1 : o + j - o = j := by omega
     rw [e1, getElem!_pos _ j (by omega)]
     simp [Ty]
   · rw [if_neg hj, List.getElem?_eq_none (by simp; omega)]
variable {pb : Nat} {E Q : Int} {ps : List Part} {ms : List Nat} {fs : List EO}
theorem Oi (h : ∀ x ∈ ps, x.rs.length ≤ 5) : (ps.flatMap (·.rs)).length ≤ ps.length * 5 := by
 induction ps with
 | nil => simp
 | cons x l ih =>
   have := ih fun y hy => h y (List.mem_cons_of_mem _ hy)
   have := h x (by simp)
   rw [List.flatMap_cons, List.length_append, List.length_cons]
   omega
theorem Ly (h : Lx σ pb E Q ps ms) (hR : ∀ p n c σ' L, AR .i64 (σ.new σ') p n c L → Ext σ σ' → EM L → (∀ x, x ∈ L ↔ ∃ y ∈ ps, x ∈ y.rs) → R (.returned (.slice p n c)) σ') :
   Spec prog 14 #[.pointer (some ⟨pb, 0, none⟩)] σ R := by
 obtain ⟨p, n, c, hc, hr⟩ := h.cell
 have hn : ps.length = n := by have := hr.1; rw [List.length_zip, ← h.len, Nat.min_self] at this; exact this
 have hfew := h.uh
 refine BU.start ⟨pb, 0, rfl, p, n, c, AD hc rfl, ?_⟩
 suffices H : ∀ d i : Nat, ∀ p6 n6 c6 σ6, n - i = d → i ≤ n → AR .i64 (σ.new σ6) p6 n6 c6 ((ps.take i).flatMap (·.rs)) → Ext σ σ6 → BU.A4 R p6 n6 c6 p n c n i σ6 from H n 0 none 0 0 σ rfl (Nat.zero_le _) Own.nil (.refl σ)
 intro d
 induction d with
 | zero =>
   intro i p6 n6 c6 σ6 hd hi ho hx
   rw [List.take_of_length_le (by omega)] at ho
   have hq := ho.De
   have uj : (ps.flatMap (·.rs)).length = n6 := ho.rd.1
   have := Oi h.rep
   refine BU.AW ⟨fun Ag => by omega, fun _ => ai (Own.mono (Ext.Af _ _) ho) (by omega) fun σ7 yw L9 => ⟨rfl, ?_⟩⟩
   refine R8 yw (Xv _) (by omega) fun σ8 k ys rZ O2 VW C2 => ⟨_, _, _, rfl, hR _ _ _ σ8 ys (Own.CC rZ hq) (Ext.lx hx hq (L9.trans O2)) VW fun x => ?_⟩
   rw [C2, Gc, List.mem_mergeSort, List.mem_flatMap]
 | succ d ih =>
   intro i p6 n6 c6 σ6 hd hi ho hx
   have HI : i < n := by omega
   obtain ⟨x, aY⟩ := hr.ex HI
   obtain ⟨mC, QT⟩ := List.getElem?_zip_eq_some.1 aY
   obtain ⟨b, o, p1, n1, c1, q, m, d1, rfl, hl, h1, h2⟩ := Dm.at hr aY
   have R1 : x.1.rs.length = m := h2.1
   have uj : ((ps.take i).flatMap (·.rs)).length = n6 := ho.rd.1
   have hb6 := Oi (ps := ps.take i) fun y hy => h.rep y (List.mem_of_mem_take hy)
   have O4 := h.rep x.1 (List.mem_of_getElem? mC)
   rw [List.length_take] at hb6
   refine BU.AW ⟨fun _ => ⟨b, o, rfl, by omega, p1, n1, c1, x.1.s.t, x.1.s.v, q, m, d1, x.2, by simpa using hl.mono hx, fun _ => ?_⟩, fun hh => by omega⟩
   refine Dt hx ho ((GP.of_map h2).mono hx) CR.Cj (by omega) fun p' c' σ' Em Ci hdl => ⟨_, _, _, rfl, Aa HI hr.big, ih (i + 1) _ _ _ _ (by omega) (by omega) ?_ Ci⟩
   rw [AO mC, List.flatMap_append]
   simpa [AR] using Em
abbrev yx (σ : Hp) (p : Option Addr) (n c : Nat) (bs : List Bool) : Prop := Own 1 σ p n c (bs.map .bool)
def Eh (Q : Int) (f : EO) : Bool := decide (Q ≤ (Xn f : Int))
def Xw (bs : List Bool) : Int := if bs.all id then 1 else if bs.any id then 6 else 5
theorem dZ : ∀ {f : EO} {bs : List Nat}, bs.length = f.length → ((List.zipWith JH f bs).filter fun e => match e.val with | .int _ y => G8 y | _ => false).length = Xn f
 | [], _, _ => by simp [Xn]
 | a :: f, [], h => by simp at h
 | a :: f, b :: bs, h => by
   have ih := dZ (f := f) (bs := bs) (by simpa using h)
   simp only [Xn, List.zipWith_cons_cons, List.filter_cons] at ih ⊢
   have : (match (JH a b).val with | .int _ y => G8 y | _ => false) = G8 a.2 := rfl
   rw [this]
   by_cases hk : G8 a.2 = true
   · rw [if_pos hk, if_pos hk, List.length_cons, List.length_cons, ih]
   · rw [if_neg hk, if_neg hk, ih]
def da (e : MapEntry) : Bool := match e.val with | .int _ y => G8 y | _ => false
theorem aj (h : CP σ pb E Q ps ms fs τ) (hf : ∀ f ∈ fs, f.length ≤ 1000000) (hR : ∀ p n c σ', yx (σ.new σ') p n c (fs.map (Eh Q)) → Ext σ σ' → R (.returned (.tuple #[.int .i64 (Xw (fs.map (Eh Q))), .slice p n c])) σ') :
   Spec prog 17 #[.pointer (some ⟨pb, 0, none⟩)] σ R := by
 obtain ⟨p, n, c, hc, hr⟩ := h.at.cell
 have hn : ps.length = n := by have := hr.1; rw [List.length_zip, ← h.at.len, Nat.min_self] at this; exact this
 have ig : ms.length = fs.length := h.len
 have hpm := h.at.len
 have hfew := h.at.uh
 refine As.start ⟨pb, 0, rfl, p, n, c, AD hc rfl, ?_⟩
 suffices H : ∀ d i : Nat, ∀ p6 n6 c6 σ6, n - i = d → i ≤ n → yx (σ.new σ6) p6 n6 c6 ((fs.take i).map (Eh Q)) → Ext σ σ6 → As.Gp R (aD pb 0) p6 n6 c6 (((fs.take i).map (Eh Q)).all id) (((fs.take i).map (Eh Q)).any id) p n c n i σ6 from H n 0 none 0 0 σ rfl (Nat.zero_le _) Own.nil (.refl σ)
 intro d
 induction d with
 | zero =>
   intro i p6 n6 c6 σ6 hd hi ho hx
   rw [List.take_of_length_le (by omega)] at ho ⊢
   have := hR p6 n6 c6 σ6 ho hx
   unfold Xw at this
   refine As.Fb ⟨fun Ag => by omega, fun _ => ⟨fun h1 => ?_, fun h1 => ⟨fun h2 => ?_, fun h2 => ?_⟩⟩⟩
   · rw [if_pos h1] at this; exact this
   · rw [if_neg (by simp [h1]), if_pos h2] at this; exact this
   · rw [if_neg (by simp [h1]), if_neg (by simp [h2])] at this; exact this
 | succ d ih =>
   intro i p6 n6 c6 σ6 hd hi ho hx
   have HI : i < n := by omega
   obtain ⟨x, aY⟩ := hr.ex HI
   obtain ⟨mC, QT⟩ := List.getElem?_zip_eq_some.1 aY
   obtain ⟨b, o, p1, n1, c1, q, m, d1, rfl, hl, h1, h2⟩ := Dm.at hr aY
   obtain ⟨f, iV⟩ : ∃ f, fs[i]? = some f := ⟨_, List.getElem?_eq_getElem (by omega)⟩
   have Z0 := hf f (List.mem_of_getElem? iV)
   obtain ⟨bs, clock, fN, Mi⟩ := h.Xp i x.2 f QT iV
   have yu := Mi.mono hx
   refine As.Fb ⟨fun _ => ⟨b, o, rfl, by omega, p1, n1, c1, x.1.s.t, x.1.s.v, q, m, d1, x.2, by simpa using hl.mono hx, fun _ => ?_⟩, fun hh => by omega⟩
   refine yW.H9 yu fun ib io hib Oz => ⟨_, rfl, ?_⟩
   have leaf : ∀ (σ7 : Hp) (J8 x9 : Int) (t5 t6 : Bool), decide (J8 ≤ x9) = Eh Q f → t5 = ((fs.take (i + 1)).map (Eh Q)).all id → t6 = ((fs.take (i + 1)).map (Eh Q)).any id → Ext σ6 σ7 → Al σ7 fun M6 => AJ prog (Builtin.append_ #[51, 51] 51 #[.slice p6 n6 c6, (.slice (aD M6 0) 1 1)]) (Hp.set σ7 M6 (.cells #[(.bool (decide (J8 ≤ x9)))] 4 (0, 0))) (CS fun Rp n50 S5 AI => AN ((i : Int) + 1) ∧ As.Gp R (aD pb 0) Rp n50 S5 t5 t6 (aD b o) n c n ((i : Int) + 1) AI) := by
     intro σ7 J8 x9 t5 t6 hk h5 h6 L9 M6 yy
     rw [hk]
     have uj : n6 = i := by have := Own.rd ho |>.1; simp at this; omega
     refine Iy (ys := [.bool (Eh Q f)]) (hx.trans L9) (Own.mono (Ext.BN L9) ho) rfl (fun u hu => by simp at hu; subst hu; rfl) (by omega) (fun p' c' σ' Dq C6 nr => ⟨p', _, c', rfl, Aa HI hr.big, ?_⟩) yy
     rw [h5, h6]
     refine ih (i + 1) _ _ _ _ (by omega) (by omega) ?_ C6
     rw [AO iV, List.map_append, yx, List.map_append]
     exact Dq
   have Yr : ∀ (σ7 : Hp) (ob : Obj), Ext σ6 σ7 → Ext σ6 (σ7.set ib ob) := fun σ7 ob h7 k u hk => by rw [Hp.AH fun e => by rw [e, hib] at hk; cases hk]; exact h7 k u hk
   have AFL : ∀ g : Bool, (((fs.take (i + 1)).map (Eh Q)).all id = ((((fs.take i).map (Eh Q)).all id) && Eh Q f)) ∧ (((fs.take (i + 1)).map (Eh Q)).any id = ((((fs.take i).map (Eh Q)).any id) || Eh Q f)) := fun _ => by
     rw [AO iV]; simp
   suffices H2 : ∀ N : Nat, ∀ (L : List MapEntry) (σ7 : Hp) (k : Nat), L.length = N → Co σ7 ib x.2 (List.zipWith JH f bs) L clock → Ext σ6 σ7 → L.Sublist (List.zipWith JH f bs) → k + (L.filter da).length = Xn f →
       As.QL R (aD pb 0) p6 n6 c6 (((fs.take i).map (Eh Q)).all id) (((fs.take i).map (Eh Q)).any id) k (aD b o) n c n i (.pointer (some ⟨ib, 0, none⟩)) σ7 from
     H2 _ _ _ 0 rfl Oz (.set hib) (List.Sublist.refl _) (by rw [Nat.zero_add]; exact dZ fN)
   intro N
   induction N using Nat.strongRecOn with
   | ind N ihN =>
   intro L σ7 k hL Oz L9 Lt hk
   have hm7 := yu.mono L9
   refine As.PS (yW.Jy hm7 Oz (fun h0 => .inl ⟨rfl, ?_⟩) fun e Ju Ui ob Z2 Zz => .inr ?_)
   · subst h0
     have hck : k = Xn f := by simpa using hk
     refine ⟨pb, 0, rfl, Q, AD (o := 1) (L9 _ _ (hx _ _ hc)) rfl, ?_⟩
     have hd : decide (Q ≤ (k : Int)) = Eh Q f := by rw [hck]; rfl
     obtain ⟨e1, e2⟩ := AFL true
     refine ⟨fun h5 => ⟨fun h6 => leaf σ7 _ _ _ _ hd ?_ ?_ L9, fun h6 => leaf σ7 _ _ _ _ hd ?_ ?_ L9⟩, fun h5 => ⟨fun h6 => leaf σ7 _ _ _ _ hd ?_ ?_ L9, fun h6 => leaf σ7 _ _ _ _ hd ?_ ?_ L9⟩⟩
     all_goals first | rw [e1, h5, ← hd] | rw [e2, h6, ← hd]
     all_goals simp
   · obtain ⟨l1, l2, ASc⟩ := List.append_of_mem Ui
     obtain ⟨fa, dV, y, hfy⟩ : ∃ (j : Nat) (a : Int × Int) (bn : Nat), e = JH a bn := by
       obtain ⟨j, hj⟩ := List.mem_iff_getElem?.1 Ui
       rw [List.getElem?_zipWith] at hj
       split at hj
       · cases hj; exact ⟨j, _, _, rfl⟩
       · cases hj
     subst hfy
     have Ae : x.2 ≠ ib := fun e => by rw [← e, yu.1] at hib; cases hib
     have W7 : (L.map (·.born)).Nodup := Mi.Vh.sublist (Lt.map _)
     have qa := (Ka W7 Ju).filter da
     have l7 := qa.length_eq
     refine ⟨dV.1, dV.2, rfl, Zz _ (Hp.AA _ _ _) (Hp.AH Ae) ⟨dV.1, dV.2, rfl, RC ⟨_, rfl, fun ht => ?_, fun ht => ?_⟩⟩⟩
     · have Ag := KS Ju
       have hke : da (JH dV y) = true := ht
       rw [List.filter_cons, if_pos hke, List.length_cons] at l7
       have jX : Xn f ≤ f.length := List.length_filter_le _ _
       have := ihN _ (by omega) (L.filter fun z => z.born != (JH dV y).born) (σ7.set ib ob) (k + 1) rfl (Z2 _ (Hp.AA _ _ _)) (Yr _ _ L9) (List.filter_sublist.trans Lt) (by omega)
       exact ⟨by unfold AN; omega, this⟩
     · have Ag := KS Ju
       have hke : da (JH dV y) = false := ht
       rw [List.filter_cons, if_neg (by simp [hke])] at l7
       exact ihN _ (by omega) (L.filter fun z => z.born != (JH dV y).born) (σ7.set ib ob) k rfl (Z2 _ (Hp.AA _ _ _)) (Yr _ _ L9) (List.filter_sublist.trans Lt) (by omega)
end
end TwW
end
section
namespace TwW
open Go Tw Go.Proofs.Tryz
theorem ALs : Enters prog 125 := fun args w => Go.Proofs.Tryz.call125 args w
def mN (c5 Hj k m d : Nat) (q : Option Addr) (ms : List Mem) (X : Hp) : Prop :=
 X c5 = some (.cells #[.slice q m d] 213 (0, 0)) ∧ X Hj = some (.cells #[.int .i64 k] 3 (0, 0)) ∧ Fi 2 KM X q m (sorted (Bf ms))
theorem mN.mono {c5 Hj k m d : Nat} {q : Option Addr} {ms : List Mem} {X Y : Hp} (h : Ext X Y) (g : mN c5 Hj k m d q ms X) : mN c5 Hj k m d q ms Y :=
 ⟨h _ _ g.1, h _ _ g.2.1, g.2.2.mono KM.mono h⟩
theorem dc {B : Hp} {b5 b6 b7 b8 D l : Nat} {rf o7 : Int} {o6 : Value} {q : Option Addr} {n d : Nat} {lo : Loop} (hn : Nd b5 b6 b7 b8 D l) (Ep : Xm b5 b6 b7 b8 D l B) :
   Hp.ld ((AX B (NA b5 b6 b7 b8 D l rf o6 o7 q n d lo)).set D (.deferred none)) ⟨b6, 0, none⟩ = some o6 ∧ Hp.ld ((AX B (NA b5 b6 b7 b8 D l rf o6 o7 q n d lo)).set D (.deferred none)) ⟨b7, 0, none⟩ = some (.int .i64 o7) ∧
     Ext B ((AX B (NA b5 b6 b7 b8 D l rf o6 o7 q n d lo)).set D (.deferred none)) := by
 have key : (AX B (NA b5 b6 b7 b8 D l rf o6 o7 q n d lo)).set D (.deferred none) = AX B ((NA b5 b6 b7 b8 D l rf o6 o7 q n d lo).set 1 (D, .deferred none)) := Pm (L := NA b5 b6 b7 b8 D l rf o6 o7 q n d lo) (i := 1) hn rfl
 rw [key]
 exact ⟨Hv (i := 4) hn rfl rfl, Hv (i := 3) hn rfl rfl, HP.ext (L := (NA b5 b6 b7 b8 D l rf o6 o7 q n d lo).set 1 (D, .deferred none)) hn Ep⟩
theorem ra {ids : List Int} {j : Nat} {x : Int} (hx : ids[j]? = some x) : dd [] (ids.take (j + 1)) = if x ∈ dd [] (ids.take j) then dd [] (ids.take j) else dd [] (ids.take j) ++ [x] := by
 rw [AO hx, aR]; rfl
structure ALt (ms : List Mem) (hash rf : Int) (σ : Hp) (Φ : Option Addr → Nat → Nat → Int → Hp → Prop) : Prop where
 bad : ¬ (Ku ms ∧ 1 ≤ rf ∧ rf ≤ 5) → Φ none 0 0 130 σ
 uh : Ku ms → 1 ≤ rf → rf ≤ 5 → ((Bz ms).length : Int) < rf → Φ none 0 0 133 σ
 ok : Ku ms → 1 ≤ rf → rf ≤ 5 → ∀ k : Nat, rf = k → k ≤ (Bz ms).length → ∀ q d σ', AR .i64 (σ.new σ') q k d ((round ms hash).take k) → Ext σ σ' → Φ q k d 0 σ'
theorem LZ {R : Rr} {σ : Hp} {e hash rf : Int} {p : Option Addr} {n c : Nat} {ms : List Mem} (hr : Nq σ p n ms) (hs : Small ms)
   (h : ALt ms hash rf σ fun q k d code σ' => R (.returned (.tuple #[.slice q k d, .int .i64 code])) σ') : Spec prog 23 #[F4 e p n c, .int .u32 hash, .int .i64 rf] σ R := by
 refine Spec.drop (DR.start fun b5 Wu b6 hb6 b7 hb7 => ?_)
 obtain ⟨n65, ALu⟩ := Hp.AM hb6
 obtain ⟨n76, ALv⟩ := Hp.AM hb7
 obtain ⟨YY, AFM⟩ := Hp.AM ALv
 let L3 : Int → List (Nat × Obj) := fun o7 => [(b7, .cells #[.int .i64 o7] 67 (0, 0)), (b6, .cells #[.slice none 0 0] 26 (0, 0)), (b5, .cells #[.int .i64 rf] 3 (0, 0))]
 have ur : ∀ o7, (names (L3 o7)).Nodup := fun o7 => by simp [L3, names]; omega
 have Dq : ∀ o7, HP (L3 o7) σ := fun o7 b hb => by
   simp [L3, names] at hb
   rcases hb with rfl | rfl | rfl
   · exact AFM
   · exact ALu
   · exact Wu
 have C6 : ∀ o7, Ext σ (AX σ (L3 o7)) := fun o7 => HP.ext (ur o7) (Dq o7)
 have KF : ¬ (Ku ms ∧ 1 ≤ rf ∧ rf ≤ 5) → AJ prog (Instr.storeAt 26 (.pointer (some ⟨b6, 0, none⟩)) (.slice none 0 0)) (AX σ (L3 0)) (fun _ Az => AJ prog (Instr.storeAt 67 (.pointer (some ⟨b7, 0, none⟩)) (.int .i64 130)) Az (fun _ A0 => ∃ RW : Option Addr, ∃ RX : Nat, ∃ RY : Nat, ∃ RZ : Int, Hp.ld A0 ⟨b6, 0, none⟩ = some (.slice RW RX RY) ∧ Hp.ld A0 ⟨b7, 0, none⟩ = some (.int .i64 RZ) ∧ Drop R (.returned (.tuple #[(.slice RW RX RY), (.int .i64 RZ)])) A0)) := fun hb => by
   refine AJ.B1 (i := 1) (c := #[.slice none 0 0]) PY (ur 0) rfl rfl rfl rfl rfl ?_
   refine AJ.B1 (i := 0) (c := #[.int .i64 0]) aV (ur 0) rfl rfl rfl rfl rfl ?_
   exact ⟨none, 0, 0, 130, Hv (L := L3 130) (i := 1) (ur 130) rfl rfl, Hv (L := L3 130) (i := 0) (ur 130) rfl rfl, .mk (C6 130) (h.bad hb)⟩
 show Spec prog 54 #[F4 e p n c] (AX σ (L3 0)) _
 refine Lw (hr.Qv (C6 0)) hs ⟨_, rfl, fun Ae => KF fun hb => Ae (by simp [O7, hb.1]), fun heq => ⟨rf, Hv (i := 2) (ur 0) rfl rfl, fun h1 => KF fun hb => by omega, fun h1 => ⟨rf, Hv (i := 2) (ur 0) rfl rfl, fun h2 => KF fun hb => by omega, fun h2 b8 hb8 => ?_⟩⟩⟩
 have Aq : Ku ms := Decidable.byContradiction fun hn => heq (by simp [O7, hn])
 have hlen := Aq.len
 obtain ⟨k0, rfl⟩ : ∃ k : Nat, rf = k := ⟨rf.toNat, by omega⟩
 obtain ⟨n8, ALw⟩ := By hb8
 let L4 : List (Nat × Obj) := (b8, .cells #[.slice none 0 0] 26 (0, 0)) :: L3 0
 have Yi : (names L4).Nodup := List.nodup_cons.2 ⟨n8, ur 0⟩
 have OS : HP L4 σ := fun b hb => by
   rcases List.mem_cons.1 hb with rfl | hb
   · exact ALw
   · exact Dq 0 b hb
 show Spec prog 55 #[F4 e p n c, .int .u32 hash] (AX σ L4) _
 refine Spec.CD Yi OS (Xj hr Aq fun c5v Hj cq m cd τ k hc5 yz iZ fV HJ hk Rh hhi Ep => ⟨_, rfl, 125, _, rfl, ALs, fun D l r0 hDl hD hl hy => ?_⟩)
 generalize hB0 : (c5 τ c5v cq m cd).set Hj (.cells #[.int .i64 k] 3 (0, 0)) = B0 at *
 obtain ⟨nD, hDB⟩ := By hD
 obtain ⟨nl, hlB⟩ := By hl
 have mO : Nd b5 b6 b7 b8 D l := by
   simp only [L4, L3, names, List.map_cons, List.map_nil, List.mem_cons, List.not_mem_nil, or_false, not_or] at nD nl n8
   unfold Nd
   simp only [List.nodup_cons, List.mem_cons, List.not_mem_nil, or_false, not_or, List.nodup_nil, not_false_eq_true, and_true]
   omega
 have AFN : Xm b5 b6 b7 b8 D l B0 := fun b hb => by
   simp only [List.mem_cons, List.not_mem_nil, or_false] at hb
   rcases hb with rfl | rfl | rfl | rfl | rfl | rfl
   · exact hlB
   · exact hDB
   · exact Ep b (by simp [L4, L3, names])
   · exact Ep b (by simp [L4, L3, names])
   · exact Ep b (by simp [L4, L3, names])
   · exact Ep b (by simp [L4, L3, names])
 have ALx : Ext σ B0 := by
   rw [← hB0]
   exact fV.trans ((Ext.set hc5).trans (.set (Hp.BD iZ.symm yz)))
 have y3 : mN c5v Hj k m cd cq ms (σ.new B0) := by
   have hs5 : σ c5v = none := A6 fV hc5
   have ALy : σ Hj = none := A6 fV yz
   refine ⟨AS.2 ⟨hs5, ?_⟩, AS.2 ⟨ALy, ?_⟩, HJ.mono KM.mono (Ext.BN ?_)⟩
   · rw [← hB0, Hp.AH iZ]; exact Hp.AA _ _ _
   · rw [← hB0]; exact Hp.AA _ _ _
   · rw [← hB0]; exact (Ext.set hc5).trans (.set (Hp.BD iZ.symm yz))
 have hm : (sorted (Bf ms)).length = m := HJ.1
 have y6 : m ≤ 1024 := by
   have h1 := Kh ms 64 (fun x hx => (Aq.1 x hx).2.2.2.2.2.1)
   rw [Dl] at hm; omega
 have dA := TX (hash := hash) Aq
 let Xx := (R7 ms hash).map Prod.snd
 have ASg : Xx.length = m := by simp [Xx, mA, ← hm, Dl]
 have VD : ∀ {B : Hp} (o6 : Value) (o7 : Int) (q : Option Addr) (n d : Nat) (lo : Loop), Xm b5 b6 b7 b8 D l B → Ext B (AX B (NA b5 b6 b7 b8 D l k0 o6 o7 q n d lo)) := fun o6 o7 q n d lo ho => HP.ext (L := NA b5 b6 b7 b8 D l k0 o6 o7 q n d lo) mO ho
 rw [show (#[.func (.yield l) #[] #[]] ++ #[.pointer (some ⟨c5v, 0, none⟩), .pointer (some ⟨Hj, 0, none⟩)] : Array Value) = #[.func (.yield l) #[] #[], .pointer (some ⟨c5v, 0, none⟩), .pointer (some ⟨Hj, 0, none⟩)] from rfl]
 show Spec prog 125 _ (AX B0 (NA b5 b6 b7 b8 D l k0 (.slice none 0 0) 0 none 0 0 (lp r0 .ready none))) _
 refine U9 (hash := hash) (q := cq) (d := cd) (ms := ms) (I := fun j σ' => ∃ B qo no d out, σ' = AX B (NA b5 b6 b7 b8 D l k0 (.slice none 0 0) 0 qo no d (lp r0 .ready none)) ∧ Xm b5 b6 b7 b8 D l B ∧ Ext σ B ∧ AR .i64 (σ.new B) qo no d out ∧ out = dd [] (Xx.take j) ∧ no < k0 ∧ mN c5v Hj k m cd cq ms ((σ.new B).del qo))
   (S := fun σ' => ∃ B qo d, σ' = AX B (NA b5 b6 b7 b8 D l k0 (.slice qo k0 d) 0 qo k0 d (lp r0 .done (some .ret))) ∧ Xm b5 b6 b7 b8 D l B ∧ Ext σ B ∧ AR .i64 (σ.new B) qo k0 d ((round ms hash).take k0) ∧ k0 ≤ (round ms hash).length) hm y6 hk Rh hhi ?_ ?_ ?_ ?_ ?_
 · rintro j _ ⟨B, qo, no, d, out, rfl, y7, hxB, ho, E9, BX, hC⟩
   have hC := hC.mono (((Ext.GA (σ.new B) qo).trans (Ext.Af σ B)).trans (VD (.slice none 0 0) 0 qo no d (lp r0 .ready none) y7))
   exact ⟨by simp [Hp.ld, hC.1], by simp [Hp.ld, hC.2.1], hC.2.2⟩
 · rintro j _ s ⟨B, qo, no, d, out, rfl, y7, hxB, ho, E9, BX, hC⟩ hs
   have ALz : Xx[j]? = some s.2 := by simp [Xx, hs]
   have N0 := ra ALz
   have hol : out.length = no := ho.rd.1
   refine hy _ _ s.2 (B4 (i := 0) mO rfl) (aW mO y7 hxB ho BX (by omega) (fun q' n' d' B' KO Fm Ql Ag TZ Ci Em SE => .inl ⟨rfl, B', q', n', d', KO, rfl, TZ, Ci, Em, ?_, Ag, hC.mono SE⟩) fun q' d' B' KO Fm Ql TZ Ci Em => .inr ⟨rfl, B', q', d', rfl, TZ, Ci, ?_, ?_⟩)
   · rw [Fm, N0, E9]
   all_goals
     have AFO : KO = dd [] (Xx.take (j + 1)) := by rw [Fm, N0, E9]
     obtain ⟨E, hE⟩ := aQ (Xx.drop (j + 1)) KO
     have T0 : round ms hash = KO ++ E := by
       rw [← hE, AFO, ← aR, List.take_append_drop]; rfl
   · have ht : (round ms hash).take k0 = KO := by rw [T0, Ql, List.take_left]
     rw [ht]; exact Em
   · rw [T0, Ql]; simp
 · rintro _ ⟨B, qo, no, d, out, rfl, y7, hxB, ho, E9, BX, hC⟩
   rw [List.take_of_length_le (by omega)] at E9
   have hol : out.length = no := ho.rd.1
   have hfew : (Bz ms).length < k0 := by rw [← dA]; show (dd [] Xx).length < k0; rw [← E9]; omega
   refine ⟨_, .ready, none, rfl, B4 (i := 0) mO rfl, by decide, .inl ⟨rfl, ?_⟩⟩
   rw [KN]
   refine AJ.B1 (i := 4) (c := #[.slice none 0 0]) PY mO rfl rfl rfl rfl rfl ?_
   refine AJ.B1 (i := 3) (c := #[.int .i64 0]) aV mO rfl rfl rfl rfl rfl ?_
   obtain ⟨e1, e2, e3⟩ := dc (B := B) (rf := k0) (o7 := 133) (o6 := .slice none 0 0) (q := qo) (n := no) (d := d) (lo := lp r0 .exhausted none) mO y7
   exact ⟨none, 0, 0, 133, B4 (i := 1) mO rfl, e1, e2, .mk (hxB.trans e3) (h.uh Aq (by omega) (by omega) (by omega))⟩
 · rintro _ ⟨B, qo, d, rfl, y7, hxB, ho, hle⟩
   refine ⟨_, .done, some .ret, rfl, B4 (i := 0) mO rfl, by decide, .inr ⟨rfl, ?_⟩⟩
   rw [KN]
   obtain ⟨e1, e2, e3⟩ := dc (B := B) (rf := k0) (o7 := 0) (o6 := .slice qo k0 d) (q := qo) (n := k0) (d := d) (lo := lp r0 .exhausted (some .ret)) mO y7
   exact ⟨qo, k0, d, 0, B4 (i := 1) mO rfl, e1, e2, .mk e3 (h.ok Aq (by omega) (by omega) k0 rfl (by omega) qo d B ho hxB)⟩
 · exact ⟨B0, none, 0, 0, [], rfl, AFN, ALx, AR.nil, by simp [dd], by omega, y3⟩
end TwW
end
section
namespace TwW
open Go Tw Go.Proofs.Tryz
def un (x : Int) : Nat := (IntKind.u64.wrap x).toNat
theorem Bk (x : Int) : IntKind.u64.wrap x = ((un x : Nat) : Int) ∧ un x < 18446744073709551616 := by
 unfold un
 simp [IntKind.wrap, IntKind.bits, IntKind.signed]; omega
theorem Mx {x : Int} (h0 : 0 ≤ x) (h1 : x < 18446744073709551616) : un x = x.toNat := by
 unfold un
 simp [IntKind.wrap, IntKind.bits, IntKind.signed]; omega
def Kv (ts : List Int) : List Int := ts.flatMap fun t => uv (un t)
def Il (m : Mem) : List Int := uv (un m.id) ++ uv (un m.state) ++ uv (un m.B5.length) ++ Kv m.B5
def enc (e : Nat) (ms : List Mem) : List Int := uv e ++ uv (un ms.length) ++ ms.flatMap Il
theorem My (x : Int) : (uv (un x)).length ≤ 10 := BV (Bk x).2
theorem Xy : ∀ ts : List Int, (Kv ts).length ≤ 10 * ts.length
 | [] => by simp [Kv]
 | t :: ts => by
   have := Xy ts
   have h2 := My t
   simp only [Kv, List.flatMap_cons, List.length_append, List.length_cons] at *
   omega
theorem mP {m : Mem} (h : m.B5.length ≤ 64) : (Il m).length ≤ 670 := by
 have h1 := Xy m.B5
 have h2 := My m.id
 have h3 := My m.state
 have h4 := My m.B5.length
 simp only [Il, List.length_append]; omega
theorem Tf : ∀ ms : List Mem, (∀ m ∈ ms, m.B5.length ≤ 64) → (ms.flatMap Il).length ≤ 670 * ms.length
 | [], _ => by simp
 | m :: ms, h => by
   have h1 := Tf ms (fun x hx => h x (List.mem_cons_of_mem _ hx))
   have h2 := mP (h m (List.mem_cons_self ..))
   simp only [List.flatMap_cons, List.length_append, List.length_cons]; omega
theorem gk {ts : List Int} {k : Nat} {t : Int} (h : ts[k]? = some t) : Kv (ts.take (k + 1)) = Kv (ts.take k) ++ uv (un t) := by
 simp [Kv, AO h]
theorem ak {ms : List Mem} {i : Nat} {m : Mem} (h : ms[i]? = some m) : (ms.take (i + 1)).flatMap Il = (ms.take i).flatMap Il ++ Il m := by
 rw [show ms.take (i + 1) = ms.take i ++ [m] by simp [List.take_add_one, h]]; simp
section
variable {R : Rr} {σ0 σ : Hp} {p : Option Addr} {n c : Nat} {xs : List Int}
theorem gm (h0 : Ext σ0 σ) (ho : AR .u8 (σ0.new σ) p n c xs) (hn : n ≤ 1000000) {y : Int} {x : Nat} (hy : y = (x : Nat)) (hx : x < 18446744073709551616)
   (h : ∀ p' n' c' σ', AR .u8 (σ0.new σ') p' n' c' (xs ++ uv x) → n' ≤ n + 10 → Ext σ0 σ' → Ext σ σ' → R (.returned (.slice p' n' c')) σ') : Spec prog 99 #[.slice p n c, .int .u64 y] σ R := by
 subst hy
 refine DF (ho.rd.mono (Ext.Af _ _)) (by omega) hx fun p' n' c' σ' Em Ci => h p' n' c' σ' (Own.mono (Ext.Cm h0) Em) ?_ (h0.trans Ci) Ci
 have h1 := Em.rd.1
 have h2 := ho.rd.1
 have := BV hx
 rw [List.length_append] at h1; omega
end
structure AL0 (e : Nat) (ms : List Mem) (σ : Hp) (Φ : Option Addr → Nat → Nat → Int → Hp → Prop) : Prop where
 bad : ¬ Ku ms → Φ none 0 0 130 σ
 ok : Ku ms → ∀ p n c σ', AR .u8 (σ.new σ') p n c (enc e ms) → Ext σ σ' → Φ p n c 0 σ'
theorem Oj {R : Rr} {σ : Hp} {e : Nat} {p : Option Addr} {n c : Nat} {ms : List Mem} (hr : Nq σ p n ms) (hs : Small ms) (he : e < 18446744073709551616)
   (h : AL0 e ms σ fun p' n' c' code σ' => R (.returned (.tuple #[.slice p' n' c', .int .i64 code])) σ') : Spec prog 44 #[F4 e p n c] σ R := by
 have hn : ms.length = n := hr.1
 refine BZ.start fun _ => Lw hr hs ⟨_, rfl, fun Ae => ?_, fun heq Sp rM => ?_⟩
 · have : ¬ Ku ms := fun Aq => Ae (by simp [O7, Aq])
   have hb := h.bad this
   simpa [O7, this] using hb
 have Aq : Ku ms := Decidable.byContradiction fun hn => heq (by simp [O7, hn])
 have hlen := Aq.len
 have h64 : ∀ m ∈ ms, m.B5.length ≤ 64 := fun m hm => (Aq.1 m hm).2.2.2.2.2.1
 have AL1 : Sp = ((un ms.length : Nat) : Int) := by rw [rM, ← hn]; exact (Bk _).1
 refine gm (.refl σ) (AR.nil (k := .u8)) (by omega) rfl he fun p1 n1 c1 σ1 Fm Ql BM _ => ⟨_, _, _, rfl, ?_⟩
 refine gm BM Fm (by omega) AL1 (Bk _).2 fun p2 n2 c2 σ2 Bt O6 Ay _ => ⟨_, _, _, rfl, ?_⟩
 suffices H : ∀ g i : Nat, ∀ q j d τ, n - i = g → i ≤ n → Ext σ τ → j ≤ 20 + 670 * i → AR .u8 (σ.new τ) q j d (uv e ++ uv (un ms.length) ++ (ms.take i).flatMap Il) → BZ.NV R q j d p n c n i τ from
   H n 0 p2 n2 c2 σ2 rfl (by omega) Ay (by omega) (by simpa using Bt)
 intro g
 induction g with
 | zero =>
   intro i q j d τ hg hi hx hj ho
   refine BZ.I5 ⟨fun Ag => by omega, fun _ => ?_⟩
   rw [List.take_of_length_le (by omega)] at ho
   exact h.ok Aq q j d τ ho hx
 | succ g ih =>
   intro i q j d τ hg hi hx hj ho
   obtain ⟨m, hm⟩ := hr.ex (k := i) (by omega)
   obtain ⟨b, o, q1, j1, d1, rfl, hl, ht⟩ := hr.at' hm
   have ga := Aq.1 m (List.mem_of_getElem? hm)
   have ASi := h64 m (List.mem_of_getElem? hm)
   have Ty : m.B5.length = j1 := ht.1
   refine BZ.I5 ⟨fun _ => ⟨b, o, rfl, by omega, m.id, m.state, q1, j1, d1, by simpa using hl.mono hx, fun _ Nb AL2 => ?_⟩, fun FB => by omega⟩
   have AFP : Ext τ (τ.set Nb (.cells #[.int .i64 m.id, .int .i64 m.state, .int .i64 (j1 : Nat)] 3 (0, 0))) := .set AL2
   dsimp only
   generalize y8 : τ.set Nb (.cells #[.int .i64 m.id, .int .i64 m.state, .int .i64 (j1 : Nat)] 3 (0, 0)) = τ3 at *
   have g0 : Hp.ld τ3 ⟨Nb, 0 + Int.toNat 0 * 1, none⟩ = some (.int .i64 m.id) := by rw [← y8]; exact Ad rfl
   have g1 : Hp.ld τ3 ⟨Nb, 0 + Int.toNat (0 + 1) * 1, none⟩ = some (.int .i64 m.state) := by rw [← y8]; exact Ad rfl
   have g2 : Hp.ld τ3 ⟨Nb, 0 + Int.toNat (0 + 1 + 1) * 1, none⟩ = some (.int .i64 (j1 : Nat)) := by rw [← y8]; exact Ad rfl
   have Dq : AR .u8 (σ.new τ3) q j d _ := Own.mono (Ext.BN AFP) ho
   refine BZ.JA ⟨fun _ => ⟨Nb, 0, rfl, by omega, _, g0, fun Rq gn => ?_⟩, fun FB => by omega⟩
   refine gm (hx.trans AFP) Dq (by omega) (gn.trans (Bk _).1) (Bk _).2 fun q2 j2 d2 τ4 OS nG LW AFQ => ⟨_, _, _, rfl, by unfold AN; omega, ?_⟩
   refine BZ.JA ⟨fun _ => ⟨Nb, 0, rfl, by omega, _, AFQ.ld g1, fun Rq gn => ?_⟩, fun FB => by omega⟩
   refine gm LW OS (by omega) (gn.trans (Bk _).1) (Bk _).2 fun q3 j3 d3 τ5 dE hj3 OU AL3 => ⟨_, _, _, rfl, by unfold AN; omega, ?_⟩
   refine BZ.JA ⟨fun _ => ⟨Nb, 0, rfl, by omega, _, (AFQ.trans AL3).ld g2, fun Rq gn => ?_⟩, fun FB => by omega⟩
   refine gm OU dE (by omega) (gn.trans (Bk _).1) (Bk _).2 fun q4 j4 d4 τ6 ho6 hj4 L8 ASj => ⟨_, _, _, rfl, by unfold AN; omega, ?_⟩
   refine BZ.JA ⟨fun Ag => by omega, fun _ => ?_⟩
   suffices H2 : ∀ g2 k : Nat, ∀ q j d τ, j1 - k = g2 → k ≤ j1 → Ext σ τ → j ≤ 20 + 670 * i + 30 + 10 * k → AR .u8 (σ.new τ) q j d (uv e ++ uv (un ms.length) ++ (ms.take i).flatMap Il ++ uv (un m.id) ++ uv (un m.state) ++ uv (un (j1 : Nat)) ++ Kv (m.B5.take k)) →
       BZ.pY R q j d (some ⟨b, o, none⟩) n c n i q1 j1 d1 j1 k τ from H2 j1 0 q4 j4 d4 τ6 rfl (by omega) L8 (by omega) (by simpa [Kv] using ho6)
   intro g2
   induction g2 with
   | zero =>
     intro k q j d τ hg2 hk hx hj ho
     refine BZ.cW ⟨fun Ag => by omega, fun _ => ⟨by unfold AN; omega, ih (i + 1) q j d τ (by omega) (by omega) hx (by omega) ?_⟩⟩
     rw [List.take_of_length_le (show m.B5.length ≤ k by omega)] at ho
     rw [ak hm, Il, Ty]
     simpa using ho
   | succ g2 rN =>
     intro k q j d τ hg2 hk hx hj ho
     obtain ⟨t, Mr⟩ := ht.ex (k := k) (by omega)
     obtain ⟨b2, o2, rfl, R1⟩ := ht.at Mr
     refine BZ.cW ⟨fun _ => ⟨b2, o2, rfl, by omega, t, by simpa using hx.ld R1, fun wv AL4 => ?_⟩, fun FB => by omega⟩
     refine gm hx ho (by omega) (AL4.trans (Bk _).1) (Bk _).2 fun q' j' d' τ' Em Tx Ci _ => ⟨_, _, _, rfl, Aa (by omega) ht.big, rN (k + 1) q' j' d' τ' (by omega) (by omega) Ci (by omega) ?_⟩
     rw [gk Mr]
     simpa using Em
end TwW
end
section
namespace TwW
open Go Tw Go.Proofs.Tryz
theorem AL5 {x y : Int} (hx : 0 ≤ x ∧ x < 256) (hy : 0 ≤ y ∧ y < 256) (h : UInt8.ofNat x.toNat = UInt8.ofNat y.toNat) : x = y := by
 have := congrArg UInt8.toNat h
 simp at this
 omega
theorem AFR : ∀ (xs ys : List Int), E6 xs → E6 ys → xs.map (fun n => UInt8.ofNat n.toNat) = ys.map (fun n => UInt8.ofNat n.toNat) → xs = ys
 | [], [], _, _, _ => rfl
 | [], y :: ys, _, _, h => by simp at h
 | x :: xs, [], _, _, h => by simp at h
 | x :: xs, y :: ys, hx, hy, h => by
   simp only [List.map_cons, List.cons.injEq] at h
   rw [AL5 (hx x (List.mem_cons_self ..)) (hy y (List.mem_cons_self ..)) h.1, AFR xs ys (fun a ha => hx a (List.mem_cons_of_mem _ ha)) (fun a ha => hy a (List.mem_cons_of_mem _ ha)) h.2]
theorem y9 {xs ys : List Int} (hx : E6 xs) (hy : E6 ys) : ((strOfNums xs).toList == (strOfNums ys).toList) = decide (xs = ys) := by
 rw [ByteArray.toList_eq, ByteArray.toList_eq, strOfNums_data, strOfNums_data]
 by_cases h : xs = ys
 · subst h; simp
 · rw [decide_eq_false h]
   have : xs.map (fun n => UInt8.ofNat n.toNat) ≠ ys.map (fun n => UInt8.ofNat n.toNat) := fun e => h (AFR xs ys hx hy e)
   simpa using this
theorem PD {R : Rr} {σ : Hp} {p q : Option Addr} {n c m d : Nat} {xs ys : List Int} (hr : B9 .u8 σ p n xs) (hs : B9 .u8 σ q m ys) (hx : E6 xs) (hy : E6 ys) (h : R (.returned (.bool (decide (xs = ys)))) σ) :
   Spec prog 196 #[.slice p n c, .slice q m d] σ R :=
 bytes_Equal.start (F3 hr ⟨_, rfl, F3 hs ⟨_, rfl, by dsimp only; rw [y9 hx hy]; exact h⟩⟩)
theorem Tg {x : Nat} (h : x < 18446744073709551616) : E6 (uv x) := Nj 9 x (by omega)
theorem Xz {α : Type} {f : α → List Int} : ∀ (l : List α), (∀ x ∈ l, E6 (f x)) → E6 (l.flatMap f) := fun l h a ha => by
 obtain ⟨x, hx, ym⟩ := List.mem_flatMap.1 ha
 exact h x hx a ym
theorem Pa {e : Nat} {ms : List Mem} (he : e < 18446744073709551616) : E6 (enc e ms) :=
 Be (Be (Tg he) (Tg (Bk _).2)) (Xz ms fun m _ => Be (Be (Be (Tg (Bk _).2) (Tg (Bk _).2)) (Tg (Bk _).2)) (Xz m.B5 fun t _ => Tg (Bk _).2))
def Tr (bs : List Int) (e : Nat) (ms : List Mem) : Prop := bs = enc e ms ∧ Ku ms ∧ (∀ m ∈ ms, ∀ t ∈ m.B5, oC t) ∧ e < 18446744073709551616
structure AL6 (bs : List Int) (σ : Hp) (Φ : Int → Option Addr → Nat → Nat → Int → Hp → Prop) : Prop where
 bad : (∀ e ms, ¬ Tr bs e ms) → Φ 0 none 0 0 130 σ
 ok : ∀ (e : Nat) ms p n c σ', Tr bs e ms → (∀ e0 Ei, Tr bs e0 Ei → e = e0 ∧ ms = Ei) → Nq (σ.new σ') p n ms → Ext σ σ' → Φ e p n c 0 σ'
abbrev PE (b1 b4 b5 : Nat) (p : Option Addr) (n c : Nat) (i : Nat) (bad : Bool) : List (Nat × Obj) :=
 [(b5, .cells #[.bool bad] 4 (0, 0)), (b4, .cells #[.int .i64 i] 3 (0, 0)), (b1, .cells #[.slice p n c] 84 (0, 0))]
def N3 (b1 b4 b5 : Nat) : Prop := [b5, b4, b1].Nodup
def O3 (b1 b4 b5 : Nat) (τ : Hp) : Prop := ∀ b ∈ [b5, b4, b1], τ b = none
theorem LV.Yf {bs : List Int} {n i : Nat} {Φ : Int → Int → Int → Prop} (fN : bs.length = n) (h1 : (∀ w, ¬ JF bs i w) → ∀ code : Int, code ≠ 0 → Φ 0 0 code)
   (h2 : ∀ v t : Nat, i < t → t ≤ n → v < 18446744073709551616 → (∀ w, JF bs i w → v = w ∧ t = i + (uv w).length) → Φ v t 0) : LV bs i Φ := ⟨h1, fun v hv => by
 refine h2 v (i + (uv v).length) (by have := QZ v; omega) ?_ hv.1 fun w hw => ?_
 · obtain ⟨_, rest, hd⟩ := hv
   have := QZ v
   have h3 := congrArg List.length hd
   simp only [List.length_drop, List.length_append] at h3
   omega
 · obtain rfl := hv.uniq hw
   exact ⟨rfl, rfl⟩⟩
theorem VE {R : Rr} {τ : Hp} {b1 b4 b5 n c i : Nat} {p : Option Addr} {bad : Bool} {bs : List Int} {PF : Nat} (hn : N3 b1 b4 b5) (ho : O3 b1 b4 b5 τ) (hr : B9 .u8 τ p n bs) (h8 : E6 bs) (hi : i ≤ n)
   (h : ∀ (x j : Nat) (Rv : Bool), j ≤ n → x ≤ PF → x < 18446744073709551616 → (∀ w, JF bs i w → bad = false → w ≤ PF → x = w ∧ j = i + (uv w).length ∧ Rv = false) → R (.returned (.int .u64 x)) (AX τ (PE b1 b4 b5 p n c j Rv))) :
   Spec prog 195 #[.int .u64 PF, .pointer (some ⟨b1, 0, none⟩), .pointer (some ⟨b4, 0, none⟩), .pointer (some ⟨b5, 0, none⟩)] (AX τ (PE b1 b4 b5 p n c i bad)) R := by
 have hx : Ext τ (AX τ (PE b1 b4 b5 p n c i bad)) := HP.ext (L := PE b1 b4 b5 p n c i bad) hn ho
 have KF : ∀ j : Int, ((∀ w, JF bs i w → bad = false → w ≤ PF → False)) → AJ prog (Instr.storeAt 4 (.pointer (some ⟨b5, 0, none⟩)) (.bool true)) (AX τ (PE b1 b4 b5 p n c i bad)) (fun _ Az => ∃ t26 : Bool, Hp.ld Az ⟨b5, 0, none⟩ = some (.bool t26) ∧ (t26 = true → R (.returned (.int .u64 0)) Az) ∧ (t26 = false → AJ prog (Instr.storeAt 3 (.pointer (some ⟨b4, 0, none⟩)) (.int .i64 j)) Az (fun _ A0 => R (.returned (.int .u64 0)) A0))) := fun j BX => by
   refine AJ.B1 (i := 0) (c := #[.bool bad]) JZ hn rfl rfl rfl rfl rfl ?_
   exact ⟨true, Hv (L := PE b1 b4 b5 p n c i true) (i := 0) hn rfl rfl, fun _ => h 0 i true hi (by omega) (by omega) (fun w h1 h2 h3 => (BX w h1 h2 h3).elim), fun hf => by cases hf⟩
 refine LA.start ⟨p, n, c, Hv (i := 2) hn rfl rfl, i, Hv (i := 1) hn rfl rfl, Kb (hr.mono hx) h8 hi (LV.Yf hr.1 (fun BX code hc => ⟨0, 0, code, rfl, bad, Hv (i := 0) hn rfl rfl, fun _ => KF 0 (fun w h1 _ _ => BX w h1), fun _ => ⟨fun _ => KF 0 (fun w h1 _ _ => BX w h1), fun h0 => absurd hc h0⟩⟩) fun v tt Ag hle hv hu => ⟨v, tt, 0, rfl, bad, Hv (i := 0) hn rfl rfl, fun hb => ?_, fun hb => ⟨fun h0 => absurd rfl h0, fun _ => ?_⟩⟩)⟩
 · refine AJ.B1 (i := 0) (c := #[.bool bad]) JZ hn rfl rfl rfl rfl rfl ?_
   exact ⟨true, Hv (L := PE b1 b4 b5 p n c i true) (i := 0) hn rfl rfl, fun _ => h 0 i true hi (by omega) (by omega) (fun w h1 h2 h3 => by rw [hb] at h2; cases h2), fun hf => by cases hf⟩
 · refine AJ.B1 (i := 0) (c := #[.bool bad]) (c' := #[.bool (decide (((PF : Nat) : Int) < ((v : Nat) : Int)))]) JZ hn rfl rfl rfl rfl rfl ?_
   refine ⟨decide (((PF : Nat) : Int) < ((v : Nat) : Int)), Hv (L := PE b1 b4 b5 p n c i _) (i := 0) hn rfl rfl, fun ht => ?_, fun hf => ?_⟩
   · exact h 0 i _ hi (by omega) (by omega) (fun w h1 h2 h3 => by
       have := (hu w h1).1
       simp at ht; omega)
   · refine AJ.B1 (L := PE b1 b4 b5 p n c i (decide (((PF : Nat) : Int) < ((v : Nat) : Int)))) (i := 1) (c := #[.int .i64 i]) (c' := #[.int .i64 tt]) Xe hn rfl rfl rfl rfl rfl ?_
     have hvm : v ≤ PF := by simp at hf; omega
     exact h v tt _ hle hvm hv (fun w h1 h2 h3 => ⟨(hu w h1).1, (hu w h1).2, hf⟩)
end TwW
end
section
namespace TwW
open Go Tw Go.Proofs.Tryz
theorem VF : Enters prog 195 := fun args w => Go.Proofs.Tryz.call195 args w
theorem w64 {x : Nat} (h : x < 9223372036854775808) {y : Int} (hy : y = IntKind.i64.wrap (x : Int)) : y = (x : Int) := by
 rw [hy]; simp [IntKind.wrap, IntKind.bits, IntKind.signed]; omega
theorem bp (x : Nat) {y : Int} (hy : y = IntKind.u32.wrap (x : Int)) : oC y ∧ (x < 4294967296 → y = (x : Int)) := by
 rw [hy]; unfold oC; simp [IntKind.wrap, IntKind.bits, IntKind.signed]; omega
theorem uu {x : Nat} (h : 0 < x) (h2 : x < 18446744073709551616) {y : Int} (hy : y = IntKind.u64.wrap ((x : Int) - 1)) : y = ((x - 1 : Nat) : Int) := by
 rw [hy]; simp [IntKind.wrap, IntKind.bits, IntKind.signed]; omega
theorem mQ {x : Nat} (h : x < 18446744073709551616) : un (x : Int) = x := by rw [Mx (by omega) (by omega)]; rfl
theorem gp {ms : List Mem} {i : Nat} {m : Mem} (h : ms[i]? = some m) : (ms.drop i).flatMap Il = Il m ++ (ms.drop (i + 1)).flatMap Il := by
 obtain ⟨Ag, heq⟩ := List.getElem?_eq_some_iff.1 h
 rw [List.drop_eq_getElem_cons Ag, heq]; simp
theorem gq {ts : List Int} {k : Nat} {t : Int} (h : ts[k]? = some t) : Kv (ts.drop k) = uv (un t) ++ Kv (ts.drop (k + 1)) := by
 obtain ⟨Ag, heq⟩ := List.getElem?_eq_some_iff.1 h
 rw [List.drop_eq_getElem_cons Ag, heq]; simp [Kv]
theorem AL7 {bs rest : List Int} {j w : Nat} (hw : w < 18446744073709551616) (h : bs.drop j = uv w ++ rest) : JF bs j w ∧ bs.drop (j + (uv w).length) = rest :=
 ⟨⟨hw, rest, h⟩, by rw [← List.drop_drop, h, List.drop_left]⟩
theorem mR {a b : Mem} (h1 : a.id = b.id) (h2 : a.state = b.state) (h3 : a.B5 = b.B5) : a = b := by cases a; cases b; simp_all
instance : DecidableEq Mem := fun a b => if h : a.id = b.id ∧ a.state = b.state ∧ a.B5 = b.B5 then .isTrue (mR h.1 h.2.1 h.2.2) else .isFalse fun e => h (by subst e; exact ⟨rfl, rfl, rfl⟩)
theorem gu {R : Rr} {τ : Hp} {b1 b4 b5 n c i : Nat} {p : Option Addr} {bad : Bool} {bs : List Int} (PF : Nat) {mi : Int} (uF : mi = (PF : Nat)) (hn : N3 b1 b4 b5) (ho : O3 b1 b4 b5 τ) (hr : B9 .u8 τ p n bs) (h8 : E6 bs) (hi : i ≤ n)
   (h : ∀ (x j : Nat) (Rv : Bool), j ≤ n → x ≤ PF → x < 18446744073709551616 → (∀ w rest, bs.drop i = uv w ++ rest → w < 18446744073709551616 → bad = false → w ≤ PF → x = w ∧ Rv = false ∧ bs.drop j = rest) → R (.returned (.int .u64 x)) (AX τ (PE b1 b4 b5 p n c j Rv))) :
   Spec prog 195 #[.int .u64 mi, .pointer (some ⟨b1, 0, none⟩), .pointer (some ⟨b4, 0, none⟩), .pointer (some ⟨b5, 0, none⟩)] (AX τ (PE b1 b4 b5 p n c i bad)) R := by
 subst uF
 exact VE hn ho hr h8 hi fun x j Rv h1 h2 h3 h4 => h x j Rv h1 h2 h3 fun w rest h5 h6 h7 h8 => by
   obtain ⟨g1, g2⟩ := AL7 h6 h5
   obtain ⟨rfl, rfl, rfl⟩ := h4 w g1 h7 h8
   exact ⟨rfl, rfl, g2⟩
theorem X0 {R : Rr} {σ : Hp} {p : Option Addr} {n c : Nat} {bs : List Int} (hr : B9 .u8 σ p n bs) (h8 : E6 bs)
   (h : AL6 bs σ fun e p' n' c' code σ' => R (.returned (.tuple #[F4 e p' n' c', .int .i64 code])) σ') : Spec prog 108 #[.slice p n c] σ R := by
 refine Spec.drop (CY.start fun b1 O4 _ b4 fS b5 Wu => ?_)
 obtain ⟨n41, yY⟩ := Hp.AM fS
 obtain ⟨n54, AL8⟩ := Hp.AM Wu
 obtain ⟨n51, AFS⟩ := Hp.AM AL8
 have hN : N3 b1 b4 b5 := by unfold N3; simp; omega
 have hO : O3 b1 b4 b5 σ := fun b hb => by
   simp at hb
   rcases hb with rfl | rfl | rfl
   · exact AFS
   · exact yY
   · exact O4
 have VD : ∀ {τ : Hp} (j : Nat) (bad : Bool), O3 b1 b4 b5 τ → Ext τ (AX τ (PE b1 b4 b5 p n c j bad)) := fun j bad ho => HP.ext (L := PE b1 b4 b5 p n c j bad) hN ho
 have fN : bs.length = n := hr.1
 show AJ prog (Instr.storeAt 3 (.pointer (some ⟨b4, 0, none⟩)) (.int .i64 0)) (AX σ (PE b1 b4 b5 p n c 0 false)) _
 refine AJ.B1 (i := 1) (c := #[.int .i64 (0 : Nat)]) Xe hN rfl rfl rfl rfl rfl ?_
 refine AJ.B1 (i := 0) (c := #[.bool false]) JZ hN rfl rfl rfl rfl rfl ?_
 show Spec prog 195 _ (AX σ (PE b1 b4 b5 p n c 0 false)) _
 refine gu 18446744073709551615 rfl hN hO hr h8 (Nat.zero_le n) fun e1 j1 ASl Ty _ rO yb => ⟨_, rfl, fun _ => ?_⟩
 refine gu 16 rfl hN hO hr h8 Ty fun cnt j2 AL9 nG Hn _ ht2 => ⟨_, rfl, ?_⟩
 have fin : ∀ (τ : Hp) (pm : Option Addr) (nm cm j : Nat) (bad : Bool) (ms : List Mem), O3 b1 b4 b5 τ → Ext σ τ → Jm (σ.new τ) pm nm cm ms → nm ≤ 16 → (∀ m ∈ ms, m.B5.length ≤ 64 ∧ ∀ t ∈ m.B5, oC t) →
     (∀ e0 Ei, Tr bs e0 Ei → bad = false ∧ e1 = e0 ∧ ms = Ei) →
     Spec prog 44 #[F4 e1 pm nm cm] (AX τ (PE b1 b4 b5 p n c j bad)) (AB (Drop R) (fun v σ1 => ∃ Wj : Option Addr, ∃ Wk : Nat, ∃ Wm : Nat, ∃ Uf : Int, v = (.tuple #[(.slice Wj Wk Wm), (.int .i64 Uf)]) ∧ ∃ t63 : Bool, Hp.ld σ1 ⟨b5, 0, none⟩ = some (.bool t63) ∧ (t63 = true → Drop R (.returned (.tuple #[(.agg #[(.int .u64 0), (.slice none 0 0)]), (.int .i64 130)])) σ1) ∧ (t63 = false → ((Uf : Int) ≠ 0 → Drop R (.returned (.tuple #[(.agg #[(.int .u64 0), (.slice none 0 0)]), (.int .i64 130)])) σ1) ∧ (¬ ((Uf : Int) ≠ 0) → ∃ nZ : Option Addr, ∃ na : Nat, ∃ c70 : Nat, Hp.ld σ1 ⟨b1, 0, none⟩ = some (.slice nZ na c70) ∧ Spec prog 196 #[(.slice Wj Wk Wm), (.slice nZ na c70)] σ1 (AB (Drop R) (fun MO Az => ∃ t71 : Bool, MO = (.bool t71) ∧ (t71 = false → Drop R (.returned (.tuple #[(.agg #[(.int .u64 0), (.slice none 0 0)]), (.int .i64 130)])) Az) ∧ (t71 = true → Drop R (.returned (.tuple #[(.agg #[(.int .u64 e1), (.slice pm nm cm)]), (.int .i64 0)])) Az))))))) := by
   intro τ pm nm cm j bad ms ho hx AY Rx ao hT
   have L0 : Nq (σ.new τ) pm nm ms := A3.rd EA.mono AY
   have hrm : Nq τ pm nm ms := L0.Qv (Ext.Af σ τ)
   have Ky : Small ms := ⟨by rw [hrm.1]; omega, fun m hm => by have := (ao m hm).1; omega⟩
   have no : ¬ Ku ms → ∀ e0 Ei, ¬ Tr bs e0 Ei := fun BX e0 Ei ht => BX ((hT e0 Ei ht).2.2 ▸ ht.2.1)
   refine Spec.CD (L := PE b1 b4 b5 p n c j bad) hN ho (Oj hrm Ky rO ⟨fun BX Ep => ⟨_, _, _, _, rfl, bad, Hv (i := 0) hN rfl rfl, fun hb => ?_, fun hb => ⟨fun _ => ?_, fun h0 => absurd (by decide) h0⟩⟩, fun Aq p3 n3 c3 τ' Dq C6 Ep => ⟨_, _, _, _, rfl, bad, Hv (i := 0) hN rfl rfl, fun hb => ?_, fun hb => ⟨fun h0 => absurd rfl h0, fun _ => ⟨p, n, c, Hv (i := 2) hN rfl rfl, ?_⟩⟩⟩⟩)
   · exact .mk (hx.trans (VD j bad ho)) (h.bad (no BX))
   · exact .mk (hx.trans (VD j bad ho)) (h.bad (no BX))
   · exact .mk ((hx.trans C6).trans (VD j bad Ep)) (h.bad fun e0 Ei ht => by have := (hT e0 Ei ht).1; rw [hb] at this; cases this)
   · refine PD (Dq.rd.mono ((Ext.Af _ _).trans (VD j bad Ep))) (hr.mono ((hx.trans C6).trans (VD j bad Ep))) (Pa rO) h8 ⟨_, rfl, fun hf => ?_, fun ht => ?_⟩
     · refine .mk ((hx.trans C6).trans (VD j bad Ep)) (h.bad fun e0 Ei ht => ?_)
       obtain ⟨_, rfl, rfl⟩ := hT e0 Ei ht
       simp [← ht.1] at hf
     · have iX : enc e1 ms = bs := by simpa using ht
       refine .mk (VD j bad Ep) (h.ok e1 ms pm nm cm τ' ⟨iX.symm, Aq, fun m hm => (ao m hm).2, rO⟩ (fun e0 Ei ht => (hT e0 Ei ht).2) (L0.Qv (Ext.BN C6)) (hx.trans C6))
 have hv6 : ∀ x : Value, (#[] ++ #[x] ++ #[.pointer (some ⟨b1, 0, none⟩), .pointer (some ⟨b4, 0, none⟩), .pointer (some ⟨b5, 0, none⟩)] : Array Value) = #[x, .pointer (some ⟨b1, 0, none⟩), .pointer (some ⟨b4, 0, none⟩), .pointer (some ⟨b5, 0, none⟩)] := fun x => rfl
 suffices H : ∀ g : Nat, ∀ (τ : Hp) (pm : Option Addr) (nm cm cnt j : Nat) (bad : Bool) (ms : List Mem), cnt = g → nm + cnt ≤ 16 → O3 b1 b4 b5 τ → Ext σ τ → Jm (σ.new τ) pm nm cm ms → (∀ m ∈ ms, m.B5.length ≤ 64 ∧ ∀ t ∈ m.B5, oC t) → j ≤ n →
     (∀ e0 Ei, Tr bs e0 Ei → bad = false ∧ e1 = e0 ∧ ms = Ei.take nm ∧ nm + cnt = Ei.length ∧ bs.drop j = (Ei.drop nm).flatMap Il) →
     CY.Km (Drop R) b1 0 none 0 0 b5 (.func (.func 195) #[] #[.pointer (some ⟨b1, 0, none⟩), .pointer (some ⟨b4, 0, none⟩), .pointer (some ⟨b5, 0, none⟩)]) e1 pm nm cm cnt (AX τ (PE b1 b4 b5 p n c j bad)) from by
   refine H cnt σ none 0 0 cnt j2 AL9 [] rfl (by omega) hO (.refl σ) A3.nil (by simp) nG fun e0 Ei ht => ?_
   have hd : bs.drop 0 = uv e0 ++ (uv (un Ei.length) ++ Ei.flatMap Il) := by rw [ht.1]; simp [enc]
   obtain ⟨rfl, O4, TD⟩ := yb e0 _ hd ht.2.2.2 rfl (by have := ht.2.2.2; omega)
   have hlen := ht.2.1.len
   have SD : un (Ei.length : Nat) = Ei.length := mQ (by omega)
   obtain ⟨T4, HD, Rz⟩ := ht2 (un Ei.length) _ TD (Bk _).2 O4 (by omega)
   exact ⟨HD, rfl, by simp, by omega, by simpa using Rz⟩
 intro g
 induction g with
 | zero =>
   intro τ pm nm cm cnt j bad ms hg hle ho hx AY ao hj hT
   subst hg
   refine CY.HT ⟨fun Ag => by omega, fun _ => fin τ pm nm cm j bad ms ho hx AY (by omega) ao fun e0 Ei ht => ?_⟩
   obtain ⟨f1, f2, f3, f4, _⟩ := hT e0 Ei ht
   exact ⟨f1, f2, by rw [f3, List.take_of_length_le (by omega)]⟩
 | succ g ih =>
   intro τ pm nm cm cnt j bad ms hg hle ho hx AY ao hj hT
   refine CY.HT ⟨fun Ag => ⟨bad, Hv (i := 0) hN rfl rfl, fun hb => ?_, fun hb => fin τ pm nm cm j bad ms ho hx AY (by omega) ao fun e0 Ei ht => by have := (hT e0 Ei ht).1; rw [hb] at this; cases this⟩, fun FB => by omega⟩
   have hrx := hr.mono hx
   have dy : ∀ e0 Ei, Tr bs e0 Ei → ∃ m, Ei[nm]? = some m := fun e0 Ei ht => ⟨_, List.getElem?_eq_getElem (by have := (hT e0 Ei ht).2.2.2.1; omega)⟩
   refine ⟨195, #[], _, rfl, VF, ?_⟩
   rw [hv6]
   refine gu 16 rfl hN ho hrx h8 hj fun Gq j3 ASn hj3 Q3 _ ht3 => ⟨_, rfl, fun UP AMA => ⟨195, #[], _, rfl, VF, ?_⟩⟩
   rw [hv6]
   refine gu 3 rfl hN ho hrx h8 hj3 fun Fp j4 ASo hj4 ASp _ ht4 => ⟨_, rfl, fun sk AMB _ => ⟨195, #[], _, rfl, VF, ?_⟩⟩
   rw [hv6]
   refine gu 64 rfl hN ho hrx h8 hj4 fun Za j5 AFT hj5 ASr _ ht5 => ⟨_, rfl, ?_⟩
   have e29 := w64 (by omega) AMA
   have e32 := w64 (by omega) AMB
   subst e29 e32
   have hT5 : ∀ e0 Ei, Tr bs e0 Ei → ∃ m, Ei[nm]? = some m ∧ m.id = (Gq : Int) ∧ m.state = (Fp : Int) ∧ Za = m.B5.length ∧ AFT = false ∧ bs.drop j5 = Kv m.B5 ++ (Ei.drop (nm + 1)).flatMap Il := fun e0 Ei ht => by
     obtain ⟨m, hm⟩ := dy e0 Ei ht
     obtain ⟨f1, f2, f3, f4, f5⟩ := hT e0 Ei ht
     have Aq := ht.2.1.1 m (List.mem_of_getElem? hm)
     obtain ⟨k1, k2, k3, k4, k5, k6, _⟩ := Aq
     rw [gp hm] at f5
     have u1 : un m.id = m.id.toNat := Mx k1 (by omega)
     have u2 : un m.state = m.state.toNat := Mx (by omega) (by omega)
     have u3 : un (m.B5.length : Nat) = m.B5.length := mQ (by omega)
     obtain ⟨g1, g2, g3⟩ := ht3 (un m.id) (uv (un m.state) ++ (uv (un m.B5.length) ++ (Kv m.B5 ++ (Ei.drop (nm + 1)).flatMap Il))) (by rw [f5]; simp [Il]) (Bk _).2 f1 (by omega)
     obtain ⟨g4, g5, g6⟩ := ht4 (un m.state) _ g3 (Bk _).2 g2 (by omega)
     obtain ⟨g7, g8, g9⟩ := ht5 (un m.B5.length) _ g6 (Bk _).2 g5 (by omega)
     exact ⟨m, hm, by omega, by omega, by omega, g8, g9⟩
   suffices H2 : ∀ g2 : Nat, ∀ (τ' : Hp) (pt : Option Addr) (k ct left j : Nat) (bad : Bool) (ts : List Int), left = g2 → k + left ≤ 64 → O3 b1 b4 b5 τ' → Ext τ τ' → AR .u32 (τ.new τ') pt k ct ts → (∀ t ∈ ts, oC t) → j ≤ n →
       (∀ e0 Ei, Tr bs e0 Ei → ∃ m, Ei[nm]? = some m ∧ m.id = (Gq : Int) ∧ m.state = (Fp : Int) ∧ bad = false ∧ ts = m.B5.take k ∧ k + left = m.B5.length ∧ bs.drop j = Kv (m.B5.drop k) ++ (Ei.drop (nm + 1)).flatMap Il) →
       CY.MQ (Drop R) b1 0 none 0 0 b5 (.func (.func 195) #[] #[.pointer (some ⟨b1, 0, none⟩), .pointer (some ⟨b4, 0, none⟩), .pointer (some ⟨b5, 0, none⟩)]) e1 pm nm cm cnt Gq Fp pt k ct left (AX τ' (PE b1 b4 b5 p n c j bad)) from by
     refine H2 Za τ none 0 0 Za j5 AFT [] rfl (by omega) ho (.refl τ) AR.nil (by simp) hj5 fun e0 Ei ht => ?_
     obtain ⟨m, q1, q2, q3, q4, q5, q6⟩ := hT5 e0 Ei ht
     exact ⟨m, q1, q2, q3, q5, by simp, by omega, by simpa using q6⟩
   have done : ∀ (τ' : Hp) (pt : Option Addr) (k ct j : Nat) (bad : Bool) (ts : List Int), k ≤ 64 → O3 b1 b4 b5 τ' → Ext τ τ' → AR .u32 (τ.new τ') pt k ct ts → (∀ t ∈ ts, oC t) → j ≤ n →
       (∀ e0 Ei, Tr bs e0 Ei → ∃ m, Ei[nm]? = some m ∧ m.id = (Gq : Int) ∧ m.state = (Fp : Int) ∧ bad = false ∧ ts = m.B5 ∧ bs.drop j = (Ei.drop (nm + 1)).flatMap Il) →
       ∀ VR : Nat, (AX τ' (PE b1 b4 b5 p n c j bad)) VR = none → AJ prog (Builtin.append_ #[39, 39] 39 #[(.slice pm nm cm), (.slice (some ⟨VR, 0, none⟩) 1 1)]) (Hp.set (AX τ' (PE b1 b4 b5 p n c j bad)) VR (.cells #[(.int .i64 Gq), (.int .i64 Fp), (.slice pt k ct)] 196 (0, 0))) (fun v σ1 => ∃ p56 : Option Addr, ∃ n56 : Nat, ∃ c56 : Nat, v = (.slice p56 n56 c56) ∧ ∀ Hw : Int, Hw = IntKind.u64.wrap ((cnt : Int) - 1) → CY.Km (Drop R) b1 0 none 0 0 b5 (.func (.func 195) #[] #[.pointer (some ⟨b1, 0, none⟩), .pointer (some ⟨b4, 0, none⟩), .pointer (some ⟨b5, 0, none⟩)]) e1 p56 n56 c56 Hw σ1) := by
     intro τ' pt k ct j bad ts hk Em Ci rb lV hj RU VR AMC
     obtain ⟨MA, hB⟩ := By AMC
     rw [DC MA]
     have lz : Jm (σ.new τ') pm nm cm ms := AY.mono EA.mono (Ext.BN Ci)
     have Yg : ∀ a, pm = some a → τ a.block ≠ none := fun a ha => by
       have := AY.block a ha
       cases hh : (σ.new τ) a.block with
       | none => exact absurd hh this
       | some oo => rw [(AS.1 hh).2]; simp
     have Ck : Ext (τ.new τ') ((σ.new τ').del pm) := Ext.Gj hx Yg
     have AFU : B9 .u32 (τ.new τ') pt k ts := AR.rd rb
     have Rj : ts.length = k := AFU.1
     refine AJ.CD (L := PE b1 b4 b5 p n c j bad) hN (HP.set (L := PE b1 b4 b5 p n c j bad) Em MA) (A3.H7 EA.mono (vs := [.int .i64 Gq, .int .i64 Fp, .slice pt k ct]) (x := ⟨Gq, Fp, ts⟩) (hx.trans Ci) lz rfl Qw (EA.mk (AFU.mono Ck)) (by omega) (fun p' c2 τ2 Bt Ay mS => ⟨p', nm + 1, c2, rfl, fun Hw rh => ?_⟩) hB)
     have e26 := uu (by omega) (by omega) rh
     subst e26
     refine ih τ2 p' (nm + 1) c2 (cnt - 1) j bad _ (by omega) (by omega) mS Ay Bt (fun m hm => ?_) hj fun e0 Ei ht => ?_
     · rcases List.mem_append.1 hm with hm | hm
       · exact ao m hm
       · simp at hm; subst hm
         exact ⟨by show ts.length ≤ 64; omega, lV⟩
     · obtain ⟨m, q1, q2, q3, q4, q5, q6⟩ := RU e0 Ei ht
       obtain ⟨f1, f2, f3, f4, f5⟩ := hT e0 Ei ht
       refine ⟨q4, f2, ?_, by omega, q6⟩
       rw [List.take_add_one, q1, f3]
       simp [mR (a := ⟨Gq, Fp, ts⟩) (b := m) q2.symm q3.symm q5]
   intro g2
   induction g2 with
   | zero =>
     intro τ' pt k ct left j bad ts hg2 AFK Em Ci rb lV hj RU
     subst hg2
     refine CY.I8 ⟨fun Ag => by omega, fun _ => done τ' pt k ct j bad ts (by omega) Em Ci rb lV hj fun e0 Ei ht => ?_⟩
     obtain ⟨m, q1, q2, q3, q4, q5, q6, q7⟩ := RU e0 Ei ht
     refine ⟨m, q1, q2, q3, q4, by rw [q5, List.take_of_length_le (by omega)], ?_⟩
     rw [q7, List.drop_eq_nil_of_le (by omega)]; simp [Kv]
   | succ g2 rN =>
     intro τ' pt k ct left j bad ts hg2 AFK Em Ci rb lV hj RU
     refine CY.I8 ⟨fun Ag => ⟨bad, Hv (i := 0) hN rfl rfl, fun hb => ?_, fun hb => done τ' pt k ct j bad ts (by omega) Em Ci rb lV hj fun e0 Ei ht => by obtain ⟨m, _, _, _, q4, _⟩ := RU e0 Ei ht; rw [hb] at q4; cases q4⟩, fun FB => by omega⟩
     refine ⟨195, #[], _, rfl, VF, ?_⟩
     rw [hv6]
     refine gu 4294967295 rfl hN Em (hrx.mono Ci) h8 hj fun Rq j6 zA hj6 gn _ ht6 => ⟨_, rfl, fun JO yD M6 yy => ?_⟩
     obtain ⟨AMD, AME⟩ := bp Rq yD
     obtain ⟨MA, hB⟩ := By yy
     rw [DC MA]
     refine AJ.CD (L := PE b1 b4 b5 p n c j6 zA) hN (HP.set (L := PE b1 b4 b5 p n c j6 zA) Em MA) (AR.H7 Ci rb (by omega) (fun p' c' τ2 Bt Ay _ mS => ⟨p', k + 1, c', rfl, fun w7 AMF => ?_⟩) hB)
     have e43 := uu (by omega) (by omega) AMF
     subst e43
     refine rN τ2 p' (k + 1) c' (left - 1) j6 zA _ (by omega) (by omega) mS Ay Bt (fun t ht => ?_) hj6 fun e0 Ei ht => ?_
     · rcases List.mem_append.1 ht with ht | ht
       · exact lV t ht
       · simp at ht; subst ht; exact AMD
     · obtain ⟨m, q1, q2, q3, q4, q5, q6, q7⟩ := RU e0 Ei ht
       obtain ⟨t, Mr⟩ : ∃ t, m.B5[k]? = some t := ⟨_, List.getElem?_eq_getElem (by omega)⟩
       have yQ := ht.2.2.1 m (List.mem_of_getElem? q1) t (List.mem_of_getElem? Mr)
       unfold oC at yQ
       have ut : un t = t.toNat := Mx yQ.1 (by omega)
       rw [gq Mr, List.append_assoc] at q7
       obtain ⟨r1, r2, r3⟩ := ht6 (un t) _ q7 (Bk _).2 q4 (by omega)
       refine ⟨m, q1, q2, q3, r2, ?_, by omega, r3⟩
       rw [AO Mr, q5, AME (by omega)]
       congr 2; omega
end TwW
end
section
namespace TwW
open Go Tw Go.RowKit Go.Proofs.Tryz
section
variable {σ σ' τ : Hp} {R : Rr}
theorem Ej {τ τ' : Hp} (h : Ext τ τ') : ∀ L : List (Nat × Obj), Ext (AX τ L) (AX τ' L)
 | [] => h
 | (b, o) :: L => fun k u hk => by
   simp only [AX] at hk ⊢
   by_cases e : k = b
   · subst e; rw [Hp.AA] at hk ⊢; exact hk
   · rw [Hp.AH e] at hk ⊢; exact Ej h L k u hk
def mT (v : Int) : Bool := FloatKind.f64.format.order v.toNat v.toNat != some .eq
def X1 (v : Int) : Int := if v ≠ 9218868437227405314 ∧ mT v = true then 9221120237041090560 else v
theorem AFV {x : Int} : YN prog 198 #[.int .u64 x] σ (.float .f64 x.toNat) := fun w _ => by
 rw [run_callFunc_extern Go.Proofs.Tryz.func198 (by kernel_rfl) (by kernel_rfl) (by kernel_rfl) (e := Extern.MathFloatBits.float64frombits) (by kernel_rfl)]
 rfl
theorem aq {x : Int} (h : R (.returned (.bool (mT x))) σ) : Spec prog 197 #[.float .f64 x.toNat] σ R :=
 QM.start ⟨_, fun w _ => by simp [eqGuard, binOp, Op.floatCmp, mT], h⟩
theorem X2 {x : Int} (h : R (.returned (.int .u64 (X1 x))) σ) : Spec prog 109 #[.int .u64 x] σ R := by
 unfold X1 at h
 refine LH.start ⟨fun h1 => ⟨_, AFV, aq ⟨_, rfl, fun h2 => ?_, fun h2 => ?_⟩⟩, fun h1 => ?_⟩
 · rw [if_pos ⟨h1, h2⟩] at h; exact h
 · rw [if_neg (by simp [h2])] at h; exact h
 · rw [if_neg (by simp [Decidable.not_not.1 h1])] at h; exact h
def Im (rf fo re : Int) (ha : Bool) (md : Nat) : Obj := .cells #[.int .i64 0, .int .i64 rf, .int .i64 0, .int .i64 0, .int .i64 fo, .int .i64 re, .int .i64 0, .int .i64 100, .int .i64 16, .int .i64 100, .bool ha, .map (some md)] 103 (0, 0)
def Bg (ten cl rep : ByteArray) (p : Option Addr) (n c : Nat) (now : Int) (q : Option Addr) : Obj := .cells #[.string ten, .string cl, .string rep, .slice p n c, .int .i64 now, .pointer q] 120 (0, 0)
def Mz (e : Nat) (Q : Int) (p : Option Addr) (n c : Nat) : Obj := .cells #[.int .u64 e, .int .i64 Q, .slice p n c] 126 (0, 0)
def F6 : ByteArray := ⟨#[114, 105, 110, 103]⟩
theorem X3 : FH F6 = true := by decide
structure M0 (τ : Hp) (b3 b4 b5 BI bd : Nat) (qk : Option Addr) : Prop where
 e3 : τ b3 = some (.cells #[.pointer (some ⟨bd, 0, none⟩)] 33 (0, 0))
 e4 : τ b4 = some (.cells #[.pointer (some ⟨BI, 0, none⟩)] 118 (0, 0))
 e5 : τ b5 = some (.cells #[.pointer qk] 35 (0, 0))
theorem M0.mono {b3 b4 b5 BI bd : Nat} {qk : Option Addr} (h : M0 τ b3 b4 b5 BI bd qk) (hx : Ext τ σ) : M0 σ b3 b4 b5 BI bd qk := ⟨hx _ _ h.e3, hx _ _ h.e4, hx _ _ h.e5⟩
variable {b3 b4 b5 BI bd md : Nat} {qk : Option Addr} {rf fo re now : Int} {ha : Bool} {ten cl rep : ByteArray} {p : Option Addr} {n c : Nat} {ss : List Sm}
def R9 (e : Int) : Int := if e = 0 then 0 else if e = 151 then 4 else 3
theorem gv (h5 : M0 τ b3 b4 b5 BI bd qk) (hd : τ bd = some (Im rf fo re ha md)) (hb : τ BI = none) (hs : GG τ p n ss) (hR : R (.returned (.int .i64 (R9 (Ga ten 16 100 ss)))) (τ.set BI (Bg ten cl rep p n c now none))) :
   Spec prog 103 #[.pointer (some ⟨b4, 0, none⟩), .pointer (some ⟨b3, 0, none⟩)] (τ.set BI (Bg ten cl rep p n c now none)) R := by
 have hx : Ext τ (τ.set BI (Bg ten cl rep p n c now none)) := .set hb
 have h5' := h5.mono hx
 refine Cu.start ⟨_, AD h5'.e4 rfl, BI, 0, rfl, ten, Ad rfl, _, AD h5'.e4 rfl, BI, 0, rfl, p, n, c, Ad rfl, _, AD h5'.e3 rfl, bd, 0, rfl, 100, 16, 100, ha, ⟨AD (hx _ _ hd) rfl, AD (hx _ _ hd) rfl, AD (hx _ _ hd) rfl, AD (hx _ _ hd) rfl, trivial⟩, ?_⟩
 refine Np (hs.mono Hq.mono hx) fun i => ⟨_, _, rfl, fun h0 => ?_, fun h0 => ⟨fun h1 => ?_, fun h1 => ?_⟩⟩
 · rw [R9, if_pos h0] at hR; exact hR
 · rw [R9, if_neg h0, if_pos h1] at hR; exact hR
 · rw [R9, if_neg h0, if_neg h1] at hR; exact hR
theorem au (h5 : M0 τ b3 b4 b5 BI bd qk) (hd : τ bd = some (Im rf fo re false md)) (hb : τ BI = none) {o : Obj} (hR : R (.returned (.int .i64 0)) (τ.set BI o)) :
   Spec prog 105 #[.pointer (some ⟨b3, 0, none⟩), .pointer (some ⟨b4, 0, none⟩)] (τ.set BI o) R := by
 have hx : Ext τ (τ.set BI o) := .set hb
 exact Bc.start ⟨_, AD (hx _ _ h5.e3) rfl, bd, 0, rfl, false, AD (hx _ _ hd) rfl, fun _ => hR, fun h => by cases h⟩
def partOf (ms : List Mem) (k : Nat) (s : Sm) : Part := ⟨⟨s.ls, s.t, X1 s.v⟩, (round ms (TQ s.ls)).take k⟩
theorem Dm.one (σ : Hp) (vs : List Value) (x : Part × Nat) (h : Dm σ vs x) : CR vs := by
 obtain ⟨p, n, c, q, m, d, rfl, _⟩ := h
 intro u hu
 simp only [List.mem_cons, List.not_mem_nil, or_false] at hu
 rcases hu with rfl | rfl | rfl | rfl | rfl <;> rfl
theorem mU : ∀ w, (Go.sizeOf 43).run prog w = .ok 1 w := fun w => sizeOf43 w
theorem mV : ∀ w, (Go.sizeOf 124).run prog w = .ok 1 w := fun w => sizeOf124 w
theorem gw {dk bb bk : Nat} {D : Dk} {W : Wl} {rows : List CM} {κ : Hp} {e : Nat} {ms : List Mem} {rk : Nat} (h5 : M0 τ b3 b4 b5 BI bd (some ⟨bk, 0, none⟩)) (hd : τ bd = some (Im rf fo re ha md)) (hb : τ BI = none) (hk : Hs τ dk bb bk D W rows κ) (hu : D.up = true)
   (ht : Tr (DW rows F6).1 e ms) (gN : 1 ≤ rf) (ri : rf ≤ 5) (mW : rf = rk) (RG : rk ≤ (Bz ms).length) (hs : GG τ p n ss) (Ky : ∀ s ∈ ss, GH s.ls) (hn : ss.length ≤ 256)
   (hR : ∀ (pb : Nat) (τ' : Hp) (mv : List Nat) q m d, Ext τ τ' → τ' BI = none → τ' pb = none → pb ≠ BI → CP (τ.new (AX τ' [(pb, Mz e (rf / 2 + 1) q m d), (BI, Bg ten cl rep p n c now (some ⟨pb, 0, none⟩))])) pb e (rf / 2 + 1) (ss.map (partOf ms rk)) mv (ss.map fun _ => []) (fun _ => none) →
     R (.returned (.int .i64 0)) (AX τ' [(pb, Mz e (rf / 2 + 1) q m d), (BI, Bg ten cl rep p n c now (some ⟨pb, 0, none⟩))])) :
   Spec prog 107 #[.pointer (some ⟨b5, 0, none⟩), .pointer (some ⟨b3, 0, none⟩), .pointer (some ⟨b4, 0, none⟩)] (τ.set BI (Bg ten cl rep p n c now none)) R := by
 have dM : ss.length = n := hs.1
 have Z8 : Ext τ (τ.set BI (Bg ten cl rep p n c now none)) := .set hb
 refine Ax.start ⟨_, AD (Z8 _ _ h5.e5) rfl, fun h => by simp at h, fun _ => ⟨_, AD (Z8 _ _ h5.e5) rfl, ?_⟩⟩
 show Spec prog 39 #[_, .string F6] (AX τ [(BI, Bg ten cl rep p n c now none)]) _
 have hN1 : (names [(BI, Bg ten cl rep p n c now none)]).Nodup := by simp [names]
 have hO1 : ∀ {ρ : Hp}, ρ BI = none → HP [(BI, Bg ten cl rep p n c now none)] ρ := fun h k hk => by simp [names] at hk; rw [hk]; exact h
 refine Spec.CD hN1 (hO1 hb) (Xr hk hu (fun h => by rw [X3] at h; cases h) fun _ p1 n1 c1 τ1 Fm BM gx => ⟨_, _, _, _, _, rfl, ?_⟩)
 have zB : B9 .u8 τ1 p1 n1 (DW rows F6).1 := AR.rd (Own.mono (Ext.Af _ _) Fm)
 refine Spec.CD hN1 gx (X0 zB (by rw [ht.1]; exact Pa ht.2.2.2) ⟨fun BX _ => (BX e ms ht).elim, fun e' EN p2 n2 c2 τ2 htr dD HJ Ay SA => ?_⟩)
 obtain ⟨rfl, rfl⟩ := dD e ms ht
 have Aq : Ku EN := ht.2.1
 have AEm : Nq τ2 p2 n2 EN := HJ.mono EA.mono (Ext.Af _ _)
 have av : Ext τ τ2 := BM.trans Ay
 have mX := h5.mono av
 have Rz := av _ _ hd
 have uZ : Ext τ2 (AX τ2 [(BI, Bg ten cl rep p n c now none)]) := HP.ext hN1 SA
 have HD : τ2 BI = none := SA BI (by simp [names])
 refine ⟨e', p2, n2, c2, 0, rfl, fun _ => ⟨fun h => absurd rfl h, fun _ => ⟨fun h => absurd rfl h, fun _ => ⟨_, AD (uZ _ _ mX.e4) rfl, _, AD (uZ _ _ mX.e3) rfl, bd, 0, rfl, rf, AD (uZ _ _ Rz) rfl, by decide, fun PN h40 => ?_⟩⟩⟩⟩
 have e40 : PN = rf / 2 := by
   rw [h40, Int.tdiv_eq_ediv_of_nonneg (by omega)]
   simp [IntKind.wrap, IntKind.bits, IntKind.signed]; omega
 subst e40
 refine ⟨by unfold AN; omega, fun F9 AMI => ⟨BI, 0, rfl, ?_⟩⟩
 obtain ⟨AMJ, uw⟩ := By AMI
 have Ae : F9 ≠ BI := by simpa [names] using AMJ
 show AJ prog (Instr.storeAt 43 (.pointer (some ⟨BI, 5, none⟩)) (.pointer (some ⟨F9, 0, none⟩))) (AX τ2 [(F9, Mz e' (rf / 2 + 1) none 0 0), (BI, Bg ten cl rep p n c now none)]) _
 let L2 : Option Addr → Nat → Nat → List (Nat × Obj) := fun q m d => [(F9, Mz e' (rf / 2 + 1) q m d), (BI, Bg ten cl rep p n c now (some ⟨F9, 0, none⟩))]
 have oE : ∀ {q m d}, (names (L2 q m d)).Nodup := by simp [L2, names, Ae]
 have hO2 : ∀ {q m d} {ρ : Hp}, ρ F9 = none → ρ BI = none → HP (L2 q m d) ρ := fun h1 h2 k hk => by
   simp [L2, names] at hk
   rcases hk with rfl | rfl
   · exact h1
   · exact h2
 have HB : ∀ {q m d}, names (L2 q m d) = [F9, BI] := by simp [L2, names]
 refine AJ.B1 (i := 1) (c := #[.string ten, .string cl, .string rep, .slice p n c, .int .i64 now, .pointer none]) (c' := #[.string ten, .string cl, .string rep, .slice p n c, .int .i64 now, .pointer (some ⟨F9, 0, none⟩)]) mU (by simp [names, Ae]) rfl rfl rfl rfl rfl ?_
 show LQ (AX τ2 (L2 none 0 0)) b4 0 _
 have VY : ∀ {q m d} {ρ : Hp}, ρ F9 = none → ρ BI = none → Ext ρ (AX ρ (L2 q m d)) := fun h1 h2 => HP.ext oE (hO2 h1 h2)
 have ldo : ∀ {q m d} {ρ : Hp} {o : Nat} {v : Value}, (#[.string ten, .string cl, .string rep, .slice p n c, .int .i64 now, .pointer (some ⟨F9, 0, none⟩)] : Array Value)[o]? = some v → Hp.ld (AX ρ (L2 q m d)) ⟨BI, o, none⟩ = some v := fun h => Hv (i := 1) oE rfl h
 refine ⟨_, AD (VY uw HD _ _ mX.e4) rfl, BI, 0, rfl, p, n, c, ldo rfl, ?_⟩
 have Jg : ∀ (σ0 τ6 : Hp) (mv : List Nat) q m d, m = n → A3 5 Dm (σ0.new τ6) q m d ((ss.map (partOf EN rk)).zip mv) → Ext τ2 σ0 → Ext σ0 τ6 → mv.length = n → mv.Nodup → (∀ v ∈ mv, σ0 v = some (.map #[] 0) ∧ τ2 v = none) → τ6 F9 = none → τ6 BI = none → R (.returned (.int .i64 0)) (AX τ6 (L2 q m d)) := by
   intro σ0 τ6 mv q m d hm ho Ur L8 ig Zy mY lB iW
   have Ni := VY (q := q) (m := m) (d := d) lB iW
   have AMM : ∀ v ∈ mv, v ≠ F9 ∧ v ≠ BI := fun v hv => ⟨fun e => (by have := L8 _ _ (mY v hv).1; rw [e, lB] at this; cases this), fun e => (by have := L8 _ _ (mY v hv).1; rw [e, iW] at this; cases this)⟩
   have Uj : Ext τ σ0 := av.trans Ur
   have Ep : Ext (σ0.new τ6) ((τ.new (AX τ6 (L2 q m d))).off mv) := fun k o hk => Hp.AG.2 ⟨fun DK => (by
     have h1 := (AS.1 hk).1
     rw [(mY k DK).1] at h1; cases h1), AS.2 ⟨A6 Uj (AS.1 hk).1, Ni _ _ (AS.1 hk).2⟩⟩
   refine hR F9 τ6 mv q m d (Uj.trans L8) iW lB Ae ⟨⟨⟨q, m, d, Hp.AG.2 ⟨fun h => (AMM _ h).1 rfl, AS.2 ⟨A6 (Uj.trans L8) lB, B4 (i := 0) oE rfl⟩⟩, (ho.rd Dm.mono).mono Dm.mono Ep⟩, by simp [ig, dM], by simpa using hn, fun x hx => ?_, fun x hx => ?_⟩, Zy, by simp [ig, dM], fun i v f hv hf => ?_, fun k o hk => by cases hk⟩
   · obtain ⟨s, Hu, rfl⟩ := List.mem_map.1 hx
     exact Ky s Hu
   · obtain ⟨s, Hu, rfl⟩ := List.mem_map.1 hx
     show ((round EN (TQ s.ls)).take rk).length ≤ 5
     rw [List.length_take]; omega
   · obtain ⟨s, Hu, rfl⟩ := List.mem_map.1 (List.mem_of_getElem? hf)
     have oL := (mY v (List.mem_of_getElem? hv)).1
     exact ⟨[], 0, rfl, AS.2 ⟨A6 av (mY v (List.mem_of_getElem? hv)).2, Ni _ _ (L8 _ _ oL)⟩, MapKept.stamped_empty 0, by simp⟩
 suffices H : ∀ g i : Nat, ∀ (σ0 τ6 : Hp) (mv : List Nat) q m d, n - i = g → i ≤ n → m = i → A3 5 Dm (σ0.new τ6) q m d (((ss.take i).map (partOf EN rk)).zip mv) → Ext τ2 σ0 → Ext σ0 τ6 → mv.length = i → mv.Nodup → (∀ v ∈ mv, σ0 v = some (.map #[] 0) ∧ τ2 v = none) → τ6 F9 = none → τ6 BI = none →
     Ax.MQ R b3 b4 e' p2 n2 c2 p n c n i (AX τ6 (L2 q m d)) from H n 0 τ2 τ2 [] none 0 0 rfl (Nat.zero_le _) rfl A3.nil (.refl _) (.refl _) rfl List.nodup_nil (by simp) uw HD
 intro g
 induction g with
 | zero =>
   intro i σ0 τ6 mv q m d hg hi hm ho Ur L8 ig Zy mY lB iW
   have Ck : i = n := by omega
   subst Ck
   rw [List.take_of_length_le (by omega)] at ho
   exact Ax.I8 ⟨fun Ag => by omega, fun _ => Jg σ0 τ6 mv q m d hm ho Ur L8 ig Zy mY lB iW⟩
 | succ g ih =>
   intro i σ0 τ6 mv q m d hg hi hm ho Ur L8 ig Zy mY lB iW
   have HI : i < n := by omega
   subst hm
   obtain ⟨s, oI⟩ := hs.ex HI
   obtain ⟨b, o, qs, ks, cs, rfl, hl, hls⟩ := GG.at hs oI
   have rj := Ky s (List.mem_of_getElem? oI)
   have ff := rj.1
   have AS0 : s.ls.length = ks := hls.1
   have rh : Ext τ2 τ6 := Ur.trans L8
   have AFY : Ext τ τ6 := av.trans rh
   have Ni := VY (q := q) (m := m) (d := d) lB iW
   refine Ax.I8 ⟨fun _ => ⟨b, o, rfl, by omega, qs, ks, cs, s.t, s.v, by simpa using hl.mono (AFY.trans Ni), fun _ => ?_⟩, fun hh => by omega⟩
   refine Spec.CD oE (hO2 lB iW) (XX (hls.mono G7.mono AFY) (by omega) fun q7 c7 τ7 yw L9 zC => ⟨q7, ks, c7, s.t, s.v, rfl, ?_⟩)
   refine X2 ⟨_, rfl, ?_⟩
   have g43 : τ7 F9 = none := zC F9 (by rw [HB]; simp)
   have g20 : τ7 BI = none := zC BI (by rw [HB]; simp)
   have rl : Ext τ2 τ7 := rh.trans L9
   have zD := VY (q := q) (m := m) (d := d) g43 g20
   refine ⟨_, AD (zD _ _ (rl _ _ mX.e3)) rfl, bd, 0, rfl, rf, AD (zD _ _ (rl _ _ Rz)) rfl, ?_⟩
   have VQ : Nn (τ6.new τ7) q7 ks s.ls := yw.rd G7.mono
   refine TR (VQ.mono G7.mono ((Ext.Af _ _).trans zD)) rj ⟨_, rfl, Kp.CA (.refl _), ?_⟩
   refine Spec.CD oE zC (LZ (AEm.Qv rl) Aq.small ⟨fun hb => (hb ⟨Aq, gN, ri⟩).elim, fun _ _ _ hb => by omega, fun _ _ _ k hk hka q8 d8 τ8 rZ O2 zE => ?_⟩)
   have dW : k = rk := by omega
   subst dW
   have k43 : τ8 F9 = none := zE F9 (by rw [HB]; simp)
   have k20 : τ8 BI = none := zE BI (by rw [HB]; simp)
   have Q3 : Ext τ2 τ8 := rl.trans O2
   have AFZ := VY (q := q) (m := m) (d := d) k43 k20
   refine ⟨q8, k, d8, 0, rfl, fun h => absurd rfl h, fun _ => ⟨_, AD (AFZ _ _ (Q3 _ _ mX.e4)) rfl, BI, 0, rfl, _, ldo rfl, _, AD (AFZ _ _ (Q3 _ _ mX.e4)) rfl, BI, 0, rfl, _, ldo rfl, F9, 0, rfl, q, m, d, Hv (i := 0) oE rfl rfl, ?_⟩⟩
   refine AJ.CD oE zE (HQ fun mm gZ AFa => ⟨mm, rfl, Kp.CA (Ej (.set gZ) _), fun b91 AMN => ?_⟩)
   have AMO : Ext σ0 (τ8.set mm (.map #[] 0)) := (L8.trans (L9.trans O2)).trans (.set gZ)
   generalize AFb : τ8.set mm (.map #[] 0) = τ9 at *
   have hm9 : τ9 mm = some (.map #[] 0) := by rw [← AFb, Hp.AA]
   have AFc : Ext τ8 τ9 := by rw [← AFb]; exact .set gZ
   have AFd : σ0 mm = none := A6 (L8.trans (L9.trans O2)) gZ
   have l43 : τ9 F9 = none := AFa F9 (by rw [HB]; simp)
   have l20 : τ9 BI = none := AFa BI (by rw [HB]; simp)
   obtain ⟨aK, ux⟩ := By AMN
   dsimp only
   rw [DC aK]
   have Qu : Ext σ0 (σ0.set mm (.map #[] 0)) := .set AFd
   have AMP : Ext (σ0.set mm (.map #[] 0)) τ9 := fun k o hk => by
     by_cases e : k = mm
     · subst e; rw [Hp.AA] at hk; rw [hm9]; exact hk
     · rw [Hp.AH e] at hk; exact AMO k o hk
   have C3 : ∀ {ρ : Hp}, Ext ρ τ8 → Ext (σ0.new ρ) ((σ0.set mm (.map #[] 0)).new τ9) := fun hρ k o hk => by
     obtain ⟨h1, h2⟩ := AS.1 hk
     have h3 := hρ _ _ h2
     have yI : k ≠ mm := fun e => by rw [e, gZ] at h3; cases h3
     exact AS.2 ⟨by rw [Hp.AH yI]; exact h1, AFc _ _ h3⟩
   have AFe : A3 5 Dm ((σ0.set mm (.map #[] 0)).new τ9) q m d (((ss.take m).map (partOf EN k)).zip mv) := ho.mono Dm.mono (C3 (L9.trans O2))
   have Yg : ∀ a, q = some a → τ6 a.block ≠ none := fun a hqa => by
     have := ho.block a hqa
     cases hh : (σ0.new τ6) a.block with
     | none => exact absurd hh this
     | some oo => rw [(AS.1 hh).2]; simp
   have lQ : ∀ {ρ : Hp}, Ext τ6 ρ → Ext ρ τ8 → Ext (τ6.new ρ) (((σ0.set mm (.map #[] 0)).new τ9).del q) := fun AS4 hρ k o hk => by
     obtain ⟨h1, h2⟩ := AS.1 hk
     refine A9.2 ⟨fun a hqa e => Yg a hqa (by rw [← e]; exact h1), C3 hρ k o (AS.2 ⟨A6 L8 h1, h2⟩)⟩
   have hE : Dm (((σ0.set mm (.map #[] 0)).new τ9).del q) [.slice q7 ks c7, .int .i64 s.t, .int .u64 (X1 s.v), .slice q8 k d8, .map (some mm)] (partOf EN k s, mm) := ⟨q7, ks, c7, q8, k, d8, rfl, VQ.mono G7.mono (lQ L9 O2), (AR.rd rZ).mono (fun k' o' DK => by
     obtain ⟨h1, h2⟩ := AS.1 DK
     exact lQ (L9.trans O2) (.refl _) k' o' (AS.2 ⟨A6 L9 h1, h2⟩))⟩
   refine AJ.CD oE (HP.set (hO2 l43 l20) (by rw [HB] at aK ⊢; exact aK)) (A3.H7 Dm.mono AMP AFe rfl (Dm.one _ _ _ hE) hE (by omega) (fun p' c' rm AMR AFf uy => ⟨p', m + 1, c', rfl, ?_⟩) ux)
   have m43 : rm F9 = none := uy F9 (by rw [HB]; simp)
   have m20 : rm BI = none := uy BI (by rw [HB]; simp)
   have AMS := VY (q := q) (m := m) (d := d) m43 m20
   have AFg : Ext τ2 rm := (Ur.trans Qu).trans AFf
   refine ⟨fun k' DK o' Em => ?_, F9, 0, rfl, ?_⟩
   · simp only [List.mem_cons, List.not_mem_nil, or_false] at DK
     rcases DK with rfl | rfl
     · rw [B4 (i := 1) oE rfl] at Em ⊢; exact Em
     · have e1 : (AX (τ9.set b91 (.cells [.slice q7 ks c7, .int .i64 s.t, .int .u64 (X1 s.v), .slice q8 k d8, .map (some mm)].toArray 129 (0, 0))) (L2 q m d)) k' = some (.cells #[.pointer (some ⟨BI, 0, none⟩)] 118 (0, 0)) := VY (by rw [Hp.AH (fun e => aK (by rw [HB, ← e]; simp))]; exact l43) (by rw [Hp.AH (fun e => aK (by rw [HB, ← e]; simp))]; exact l20) _ _ ((Ext.set ux) _ _ (AFc _ _ (Q3 _ _ mX.e4)))
       have e2 : some o' = some (Obj.cells #[.pointer (some ⟨BI, 0, none⟩)] 118 (0, 0)) := Em.symm.trans e1
       rw [e2]
       exact AMS _ _ (AFg _ _ mX.e4)
   · refine AJ.B1 (i := 0) (c := #[.int .u64 e', .int .i64 (rf / 2 + 1), .slice q m d]) (c' := #[.int .u64 e', .int .i64 (rf / 2 + 1), .slice p' (m + 1) c']) mV oE rfl rfl rfl rfl rfl ?_
     refine ⟨Aa HI hs.big, ?_⟩
     have AMT : ((ss.take (m + 1)).map (partOf EN k)).zip (mv ++ [mm]) = ((ss.take m).map (partOf EN k)).zip mv ++ [(partOf EN k s, mm)] := by
       rw [AO oI, List.map_append, List.zip_append (by simp [ig]; omega)]; rfl
     refine ih (m + 1) (σ0.set mm (.map #[] 0)) rm (mv ++ [mm]) p' (m + 1) c' (by omega) (by omega) rfl (by rw [AMT]; exact AMR) (Ur.trans Qu) AFf (by simp [ig]) ?_ (fun v hv => ?_) m43 m20
     · rw [List.nodup_append]
       refine ⟨Zy, by simp, fun a hav b' Jf => ?_⟩
       simp only [List.mem_singleton] at Jf
       subst Jf
       exact fun e => by have := (mY a hav).1; rw [e, AFd] at this; cases this
     · rcases List.mem_append.1 hv with hv | hv
       · exact ⟨Qu _ _ (mY v hv).1, (mY v hv).2⟩
       · simp only [List.mem_singleton] at hv
         subst hv
         exact ⟨Hp.AA _ _ _, A6 Q3 gZ⟩
end
end TwW
end
section
namespace TwW
open Go Tw Go.RowKit Go.Proofs.Tryz
theorem rn {x : Nat} (hx : x < 18446744073709551616) : Go.bits .and .u64 (x : Int) 127 = ((x % 128 : Nat) : Int) := by
 have := bits_and_u64_nat x 127 hx (by decide)
 rw [show ((127 : Nat) : Int) = 127 from rfl] at this
 rw [this, Nat.and_two_pow_sub_one_eq_mod x 7]
theorem rp {x : Nat} : Go.bits .or .u64 ((x % 128 : Nat) : Int) 128 = ((x % 128 + 128 : Nat) : Int) := by
 have hm := Nat.mod_lt x (show 128 > 0 by decide)
 have := bits_or_u64_nat (x % 128) 128 (by omega) (by decide)
 rw [show ((128 : Nat) : Int) = 128 from rfl] at this
 rw [this, yA ⟨x % 128, hm⟩]
theorem GJ {R : Rr} {σ : Hp} {p : Option Addr} {n c x : Nat} {xs : List Int} (hr : B9 .u8 σ p n xs) (hn : n ≤ 70368744177664) (hx : x < 18446744073709551616)
   (h : ∀ p' n' c' σ', AR .u8 (σ.new σ') p' n' c' (xs ++ uv x) → Ext σ σ' → R (.returned (.slice p' n' c')) σ') : Spec prog 143 #[.slice p n c, .int .u64 x] σ R := by
 refine Ex.start fun b hb => ?_
 refine Dr Own.empty ((GP.of_map hr).mono (.set hb)) CR.Cj (by omega) fun p' c' σ' AY Di => ?_
 have hq : ∀ a : Addr, (some (⟨b, 0, none⟩ : Addr)) = some a → σ a.block = none := fun a ha => by cases ha; exact hb
 have ho := Own.CC AY (Bb hq Di (.set hb))
 have he := CL hq Di (.set hb)
 refine ⟨p', 0 + n, c', rfl, ?_⟩
 rw [Nat.zero_add] at ho ⊢
 have hlen := hr.1
 suffices H : ∀ (k x n' : Nat) p' c' σ' ys, x < 128 ^ (k + 1) → x < 18446744073709551616 → n' + k ≤ n + 9 → AR .u8 (σ.new σ') p' n' c' ys → Ext σ σ' → (∀ p' n' c' σ', AR .u8 (σ.new σ') p' n' c' (ys ++ uv x) → Ext σ σ' → R (.returned (.slice p' n' c')) σ') → Ex.Jh R x p' n' c' σ' from
   H 9 x n p' c' σ' xs (by omega) hx (by omega) ho he h
 intro k
 induction k with
 | zero =>
   intro x n' p' c' σ' ys hx _ Jn ho he h
   refine Ex.CU ⟨fun Ag => by omega, fun _ IE Uq b2 HD => ?_⟩
   have Ni : IE = (x : Int) := by rw [Uq]; simp [IntKind.wrap, IntKind.bits, IntKind.signed]; omega
   subst Ni
   refine AR.H7 he ho (by omega) (fun p2 c2 σ2 Bt W8 _ => ⟨p2, n' + 1, c2, rfl, h _ _ _ _ ?_ W8⟩) HD
   rw [CZ (by omega)]; exact Bt
 | succ k ih =>
   intro x n' p' c' σ' ys hx AMU Jn ho he h
   refine Ex.CU ⟨fun Ag E7 rq FD mZ Hh fe b2 HD => ?_, fun FB IE Uq b2 HD => ?_⟩
   · rw [rn AMU] at rq
     subst rq
     rw [rp] at mZ
     subst mZ
     have ff : Hh = ((x % 128 + 128 : Nat) : Int) := by
       rw [fe]; simp [IntKind.wrap, IntKind.bits, IntKind.signed]; omega
     subst ff
     refine AR.H7 he ho (by omega) (fun p2 c2 σ2 Bt W8 _ => ⟨p2, n' + 1, c2, rfl, by simp [IntKind.bits], fun DU Z4 => ?_⟩) HD
     have h12 : DU = ((x / 128 : Nat) : Int) := by rw [Z4]; simp
     subst h12
     refine ih (x / 128) (n' + 1) p2 c2 σ2 _ (by rw [Nat.div_lt_iff_lt_mul (by decide)]; rw [Nat.pow_succ] at hx; exact hx) (by omega) (by omega) Bt W8 fun p3 n3 c3 σ3 Dq he3 => h p3 n3 c3 σ3 ?_ he3
     rw [G5 (by omega)]
     simpa using Dq
   · have Ni : IE = (x : Int) := by rw [Uq]; simp [IntKind.wrap, IntKind.bits, IntKind.signed]; omega
     subst Ni
     refine AR.H7 he ho (by omega) (fun p2 c2 σ2 Bt W8 _ => ⟨p2, n' + 1, c2, rfl, h _ _ _ _ ?_ W8⟩) HD
     rw [CZ (by omega)]; exact Bt
section
variable {σ σ' τ : Hp} {R : Rr}
theorem Je {p : Option Addr} {n c : Nat} {xs : List Int} {s : ByteArray} (hr : B9 .u8 σ p n xs) (hn : n ≤ 1048576) (hs : s.size ≤ 1048576)
   (h : ∀ p' n' c' σ', AR .u8 (σ.new σ') p' n' c' (xs ++ uv s.size ++ Nl s) → Ext σ σ' → R (.returned (.slice p' n' c')) σ') : Spec prog 142 #[.slice p n c, .string s] σ R := by
 refine ML.start fun x8 h8 => ?_
 have e8 : x8 = (s.size : Int) := by rw [h8]; simp [IntKind.wrap, IntKind.bits, IntKind.signed]; omega
 subst e8
 refine GJ hr (by omega) (by omega) fun p' n' c' σ1 ho BM => ⟨p', n', c', rfl, ?_⟩
 have hq := ho.De
 have hl : (xs ++ uv s.size).length = n' := by have := ho.1; simpa using this
 have lW := BV (x := s.size) (by omega)
 have Rg : xs.length = n := hr.1
 rw [List.length_append] at hl
 refine dQ underlying9 (Own.mono (Ext.Af _ _) ho) rfl XV (by omega) fun p2 c2 σ2 Bt Ay _ => ⟨p2, _, c2, rfl, ?_⟩
 have HD := Bb hq Ay BM
 refine h p2 _ c2 σ2 ?_ (CL hq Ay BM)
 have := Own.CC Bt HD
 simpa [AR] using this
theorem RH {k : ByteArray} {p : Option Addr} {n c v : Nat} {d : List Int} (hr : B9 .u8 σ p n d) (h8 : E6 d) (hk : k.size ≤ 262144) (hd : n ≤ 262144) (hv : v < 18446744073709551616)
   (h : ∀ p' n' c' σ', AR .u8 (σ.new σ') p' n' c' (Cf k d v) → Ext σ σ' → R (.returned (.slice p' n' c')) σ') : Spec prog 70 #[.agg #[.string k, .slice p n c, .int .u64 v]] σ R := by
 have hdl : d.length = n := hr.1
 have ALB := BV (x := k.size) (by omega)
 have qj := BV (x := v) hv
 have fst : ∀ {R2 : Rr} {τ : Hp}, (∀ p' n' c' σ', AR .u8 (τ.new σ') p' n' c' (uv k.size ++ Nl k) → n' ≤ 262154 → Ext τ σ' → R2 (.returned (.slice p' n' c')) σ') → Spec prog 142 #[.slice none 0 0, .string k] τ R2 := fun hh =>
   Je (xs := []) Fi.nil (by omega) (by omega) fun p6 n6 c6 σ1 Fm BM => hh p6 n6 c6 σ1 (by simpa using Fm) (by have := C9 Fm; simp [D1] at this; omega) BM
 have snd : ∀ {R2 : Rr} {τ τ1 : Hp} {p6 : Option Addr} {n6 c6 : Nat}, Ext τ τ1 → AR .u8 (τ.new τ1) p6 n6 c6 (uv k.size ++ Nl k) → n6 ≤ 262154 → (∀ p' n' c' σ', AR .u8 (τ.new σ') p' n' c' (uv k.size ++ Nl k ++ uv v) → n' ≤ 262164 → Ext τ σ' → R2 (.returned (.slice p' n' c')) σ') → Spec prog 143 #[.slice p6 n6 c6, .int .u64 v] τ1 R2 := fun BM Fm uz hh =>
   GJ (AR.rd (Own.mono (Ext.Af _ _) Fm)) (by omega) hv fun p9 n9 c9 σ2 Bt Ay => hh p9 n9 c9 σ2 (Own.mono (Ext.Cm BM) Bt) (by have := C9 Bt; have h2 := C9 Fm; rw [List.length_append] at this; omega) (BM.trans Ay)
 have thd : ∀ {τ1 : Hp} {p9 : Option Addr} {n9 c9 : Nat}, Ext σ τ1 → AR .u8 (σ.new τ1) p9 n9 c9 (uv k.size ++ Nl k ++ uv v) → n9 ≤ 262164 → Spec prog 142 #[.slice p9 n9 c9, .string (strOfNums d)] τ1 (AB R (CS fun Jq n12 c12 Av => R (.returned (.slice Jq n12 c12)) Av)) := fun Ay Bt hn9 =>
   Je (AR.rd (Own.mono (Ext.Af _ _) Bt)) (by omega) (by rw [CH]; omega) fun p3 n3 c3 σ3 Dq C6 => ⟨_, _, _, rfl, by
     rw [CH, Kd h8] at Dq
     exact h p3 n3 c3 σ3 (Own.mono (Ext.Cm Ay) Dq) (Ay.trans C6)⟩
 refine MW.start fun _ => ⟨fst fun p6 n6 c6 σ1 Fm uz BM => ⟨_, _, _, rfl, ?_, ?_⟩, ?_⟩
 · exact snd BM Fm uz fun p9 n9 c9 σ2 Bt hn9 Ay => ⟨_, _, _, rfl, F3 (hr.mono Ay) ⟨_, rfl, thd Ay Bt hn9⟩⟩
 · exact F3 (hr.mono BM) ⟨_, rfl, snd BM Fm uz fun p9 n9 c9 σ2 Bt hn9 Ay => ⟨_, _, _, rfl, thd Ay Bt hn9⟩⟩
 · exact F3 hr ⟨_, rfl, fst fun p6 n6 c6 σ1 Fm uz BM => ⟨_, _, _, rfl, snd BM Fm uz fun p9 n9 c9 σ2 Bt hn9 Ay => ⟨_, _, _, rfl, thd Ay Bt hn9⟩⟩⟩
theorem ax {p : Option Addr} {n c : Nat} {xs : List Int} (hr : B9 .u8 σ p n xs) (h : ∀ x, R (.returned (.int .u32 x)) σ) : Spec prog 235 #[.slice p n c] σ R := by
 refine EI.start ?_
 suffices H : ∀ d k : Nat, ∀ x : Int, n - k = d → k ≤ n → EI.Bu R p n c x k σ from H n 0 _ rfl (Nat.zero_le _)
 intro d
 induction d with
 | zero => intro k x hd hk; exact EI.BF ⟨fun Ag => by omega, fun _ sy _ => h sy⟩
 | succ d ih =>
   intro k x hd hk
   have DK : k < n := by omega
   obtain ⟨y, hy⟩ := hr.ex DK
   obtain ⟨b, o, rfl, hl⟩ := hr.at hy
   refine EI.BF ⟨fun _ => ⟨b, o, rfl, by omega, y, by simpa using hl, fun _ _ Iu _ => ?_⟩, fun hh => by omega⟩
   suffices H2 : ∀ g j : Nat, ∀ z : Int, 8 - j = g → j ≤ 8 → EI.Ua R (aD b o) n c z k j σ from H2 8 0 Iu rfl (by omega)
   intro g
   induction g with
   | zero => intro j z hg hj; exact EI.MS ⟨fun Ag => by omega, fun _ => ⟨Aa DK hr.big, ih (k + 1) z (by omega) (by omega)⟩⟩
   | succ g ihg =>
     intro j z hg hj
     have nx : ∀ w : Int, EI.pQ R (aD b o) n c w k j σ := fun w => EI.pR ⟨by unfold AN; omega, ihg (j + 1) w (by omega) (by omega)⟩
     exact EI.MS ⟨fun _ _ _ => ⟨by simp [IntKind.bits], fun _ _ => ⟨fun _ Fp _ => nx Fp, fun _ => nx _⟩⟩, fun hh => by omega⟩
theorem VG {p : Option Addr} {n c : Nat} {xs : List Int} (hr : B9 .u8 σ p n xs) (h0 : R (.returned (.tuple #[.slice none 0 0, .int .i64 23])) σ) (h : ∀ p' n' c' σ' ys, AR .u8 (σ.new σ') p' n' c' ys → n' ≤ 65560 → Ext σ σ' → R (.returned (.tuple #[.slice p' n' c', .int .i64 0])) σ') :
   Spec prog 139 #[.slice p n c] σ R := by
 have Rg : xs.length = n := hr.1
 refine QP.start ⟨fun _ => h0, fun hn x9 h9 => ?_⟩
 have e9 : x9 = (n : Int) := by rw [h9]; simp [IntKind.wrap, IntKind.bits, IntKind.signed]; omega
 subst e9
 have lW := BV (x := n) (by omega)
 refine GJ Fi.nil (by omega) (by omega) fun p1 n1 c1 σ1 Fm BM => ⟨_, _, _, rfl, ?_⟩
 have SH := C9 Fm
 rw [List.nil_append] at SH
 refine ax (hr.mono BM) fun DU => ⟨_, rfl, ?_⟩
 refine Sr.start ⟨by simp [IntKind.bits], fun x4 _ x5 _ => ⟨by simp [IntKind.bits], fun x7 _ x8 _ => ⟨by simp [IntKind.bits], fun Db _ Eb _ E7 _ Hk AMW => ⟨_, _, _, rfl, ?_⟩⟩⟩⟩
 have Ay : Ext σ1 (σ1.set Hk (.cells #[.int .u8 x5, .int .u8 x8, .int .u8 Eb, .int .u8 E7] 5 (0, 0))) := .set AMW
 refine Dt (σ0 := σ) (ys := [x5, x8, Eb, E7].map (Value.int .u8)) (BM.trans Ay) (Own.mono (Ext.BN Ay) Fm) ⟨rfl, by omega, .inr ⟨Hk, 0, rfl, Dn.of fun j v hj => ?_⟩⟩ CR.Cj (by omega) fun p3 c3 σ3 Dq C6 _ => ⟨_, _, _, rfl, ?_⟩
 · refine AD (Hp.AA _ _ _) ?_
   rw [Nat.zero_add, ← Array.getElem?_toList]
   exact hj
 refine Dt C6 Dq ((GP.of_map hr).mono C6) CR.Cj (by omega) fun p4 c4 σ4 OS LW _ => ⟨_, _, _, rfl, h p4 _ c4 σ4 ([] ++ uv n ++ [x5, x8, Eb, E7] ++ xs) ?_ (by omega) LW⟩
 simpa [AR] using OS
theorem ay {x : Int} (h : ∀ s σ', s.size = 8 → Ext σ σ' → R (.returned (.string s)) σ') : Spec prog 147 #[.int .i64 x] σ R := by
 refine F0.start ?_
 suffices H : ∀ d k : Nat, ∀ (x : Int) (s : ByteArray) (σ' : Hp), 8 - k = d → k ≤ 8 → s.size = k → Ext σ σ' → F0.Bu R x s k σ' from H 8 0 x _ σ rfl (by omega) rfl (.refl _)
 intro d
 induction d with
 | zero => intro k x s σ' hd hk hs hx; exact F0.BF ⟨fun Ag => by omega, fun _ => h s σ' (by omega) hx⟩
 | succ d ih =>
   intro k x s σ' hd hk hs hx
   refine F0.BF ⟨fun _ => ⟨by decide, fun Db lW => ⟨?_, fun DU _ IJ fO => ?_⟩⟩, fun hh => by omega⟩
   · have h1 := Int.tmod_lt_of_pos x (b := 10) (by decide)
     have h2 : -10 < Int.tmod x 10 := by
       have := Int.tmod_lt_of_pos (-x) (b := 10) (by decide)
       rw [Int.neg_tmod] at this
       omega
     unfold AN; omega
   have hr : B9 .u8 (σ'.set IJ (.cells #[.int .u8 DU] 5 (0, 0))) (some ⟨IJ, 0, none⟩) 1 [DU] := B9.Lg ⟨rfl, by omega, .inr ⟨IJ, 0, rfl, ⟨AD (Hp.AA _ _ _) rfl, trivial⟩⟩⟩
   have EY : (strOfNums [DU]).size = 1 := CH
   refine F3 hr ⟨_, rfl, by rw [EY, hs]; omega, by decide, fun Fc _ => ⟨by unfold AN; omega, ?_⟩⟩
   exact ih (k + 1) Fc _ _ (by omega) (by omega) (by rw [ByteArray.size_append, EY, hs]; omega) (hx.trans (.set fO))
def rch (u : UInt8) : Bool := decide ((97 ≤ u.toNat ∧ u.toNat ≤ 122) ∨ (48 ≤ u.toNat ∧ u.toNat ≤ 57) ∨ u.toNat = 47 ∨ u.toNat = 46 ∨ u.toNat = 45)
def az (s : ByteArray) : Bool := decide (0 < s.size) && decide (s.size ≤ 64) && s.data.toList.all rch
theorem Lz {s : ByteArray} (h : R (.returned (.bool (az s))) σ) : Spec prog 178 #[.string s] σ R := by
 refine IS.start ⟨fun h0 => ?_, fun h0 => ⟨fun h1 => ?_, fun h1 => ?_⟩⟩
 · have : ¬ 0 < s.size := by omega
   simpa [az, this] using h
 · have : ¬ s.size ≤ 64 := by omega
   simpa [az, this] using h
 · refine U0 (s := s) (pt := fun k => IS.Am R s k σ) (ok := rch) (G := fun t => R (.returned (.bool t)) σ) (fun g => IS.BB ⟨fun Ag => by omega, fun _ => g⟩) (fun k u hk hu hi good bad => ?_) ?_ (by omega)
   · simp only [rch, decide_eq_true_eq, decide_eq_false_iff_not] at good bad
     refine IS.BB ⟨fun Ag => ⟨u, by omega, hu, ?_⟩, fun FB => by omega⟩
     clear h
     generalize u.toNat = n at good bad
     repeat' (first | refine ⟨fun _ => ?_, fun _ => ?_⟩ | exact ⟨hi, good (by omega)⟩ | exact bad (by omega))
   · have e : az s = s.data.toList.all rch := by simp [az, show 0 < s.size by omega, show s.size ≤ 64 by omega]
     rwa [e] at h
def Ba (q : Option Addr) (n c : Nat) (num : Int) : Obj := .cells #[.slice q n c, .bool false, .bool false, .int .i64 0, .int .i64 0, .int .u64 num] 113 (0, 0)
def slt (a b : ByteArray) : Bool := Op.bytesLess a.toList b.toList
theorem zF {x y : Operand} {a b : ByteArray} {T : TypeId} : YF prog (do eqGuard .lss T x y (.string a) (.string b); binOp .lss T (.string a) (.string b)) σ (.bool (slt a b)) := fun w _ => by
 simp [eqGuard, binOp, Op.stringOp, slt]
variable {q : Option Addr} {c db : Nat} {num : Int} {s f : ByteArray}
theorem RI (h : σ db = some (Ba q 0 c num)) (hR : R (.returned (.tuple #[.int .i64 0, .bool false])) σ) : Spec prog 237 #[.pointer (some ⟨db, 0, none⟩), .string s] σ R :=
 Cs.start (Cs.CU ⟨db, 0, rfl, q, 0, c, AD h rfl, fun Ag => absurd Ag (by decide), fun _ => ⟨q, 0, c, AD h rfl, fun Ag => absurd Ag (by decide), fun _ => hR⟩⟩)
theorem ma {b o : Nat} (h : σ db = some (Ba (some ⟨b, o, none⟩) 1 c num)) (hl : Hp.ld σ ⟨b, o, none⟩ = some (.string f)) (h1 : slt f s = true → R (.returned (.tuple #[.int .i64 1, .bool false])) σ) (h0 : slt f s = false → R (.returned (.tuple #[.int .i64 0, .bool (decide (f = s))])) σ) :
   Spec prog 237 #[.pointer (some ⟨db, 0, none⟩), .string s] σ R := by
 refine Cs.start (Cs.CU ⟨db, 0, rfl, _, 1, c, AD h rfl, fun _ => ⟨_, 1, c, AD h rfl, b, o, rfl, by omega, f, by simpa using hl, _, zF, fun ht => ⟨by unfold AN; omega, ?_⟩, fun hf => ⟨_, 1, c, AD h rfl, fun _ => ⟨_, 1, c, AD h rfl, b, o, rfl, by omega, f, by simpa using hl, by dsimp only; rw [rL]; exact h0 hf⟩, fun hh => absurd (by decide) hh⟩⟩, fun hh => absurd (by decide) hh⟩)
 exact Cs.CU ⟨db, 0, rfl, _, 1, c, AD h rfl, fun hh => absurd hh (by decide), fun _ => ⟨_, 1, c, AD h rfl, fun hh => absurd hh (by decide), fun _ => h1 ht⟩⟩
theorem bA (h : σ db = some (Ba q 0 c num)) (hR : R (.returned (.slice none 0 0)) σ) : Spec prog 149 #[.pointer (some ⟨db, 0, none⟩), .string s] σ R :=
 Gu.start (Gu.BF ⟨db, 0, rfl, q, 0, c, AD h rfl, fun Ag => absurd Ag (by decide), fun _ => hR⟩)
theorem rr (h : σ db = some (Ba q 0 c num)) (h0 : az s = true → R (.returned (.int .i64 0)) σ) (h1 : ∀ e : Int, e ≠ 0 → R (.returned (.int .i64 e)) σ) : Spec prog 236 #[.pointer (some ⟨db, 0, none⟩), .string s, .bool false] σ R :=
 GC.start ⟨db, 0, rfl, false, AD h rfl, fun hh => (by cases hh), fun _ => Lz ⟨_, rfl, fun _ => h1 61 (by decide), fun hn => RI h ⟨_, _, rfl, fun hh => (by cases hh), fun _ => h0 hn⟩⟩⟩
theorem ru {b o : Nat} (h : σ db = some (Ba (some ⟨b, o, none⟩) 1 c num)) (hl : Hp.ld σ ⟨b, o, none⟩ = some (.string f)) (h0 : slt f s = false → R (.returned (.int .i64 0)) σ) (h1 : ∀ e : Int, e ≠ 0 → R (.returned (.int .i64 e)) σ) : Spec prog 236 #[.pointer (some ⟨db, 0, none⟩), .string s, .bool true] σ R :=
 GC.start ⟨db, 0, rfl, false, AD h rfl, fun hh => (by cases hh), fun _ => Lz ⟨_, rfl, fun _ => h1 61 (by decide), fun hn => ma h hl (fun _ => ⟨_, _, rfl, fun _ => ⟨fun _ => h1 62 (by decide), fun hh => (by cases hh)⟩, fun hh => (by cases hh)⟩) fun Ag => ⟨_, _, rfl, fun _ => ⟨fun _ => h1 62 (by decide), fun _ => h0 Ag⟩, fun hh => (by cases hh)⟩⟩⟩
theorem u6 {n : Nat} (hR : ∀ SB, R (.returned (.bool false)) (τ.set db (Ba q n c SB))) : Spec prog 238 #[.pointer (some ⟨db, 0, none⟩)] (τ.set db (Ba q n c num)) R := by
 refine J5.start ⟨db, 0, rfl, num, Ad rfl, fun x7 _ => ?_⟩
 refine AJ.store Zx (Hp.AA _ _ _) rfl (by simp) (by simp [Value.cells, Value.oneCell']) ?_
 rw [Hp.set_set]
 have e : (Obj.cells (DT #[.slice q n c, .bool false, .bool false, .int .i64 0, .int .i64 0, .int .u64 num] (0 + 5) (Value.int .u64 x7).cells.toList) 113 (0, 0)) = Ba q n c x7 := by simp [DT, Value.cells, Ba]
 rw [e]
 exact ⟨false, Ad rfl, fun _ => hR x7, fun hh => by cases hh⟩
end
end TwW
end
section
namespace TwW
open Go Tw Go.RowKit Go.Proofs.Tryz
section
variable {τ0 τ : Hp} {R : Rr} {db : Nat} {q p : Option Addr} {n c cc : Nat} {num : Int} {s f : ByteArray}
theorem GP.zero {k : Nat} {σ : Hp} {p : Option Addr} : GP k σ p 0 [] := ⟨by simp, by omega, .inl rfl⟩
theorem rv : ∀ w, (Go.sizeOf 111).run prog w = .ok 1 w := sizeOf111
theorem ry : ∀ w, (Go.sizeOf 148).run prog w = .ok 1 w := sizeOf148
abbrev Io (f : ByteArray) (qd : Option Addr) (m d : Nat) (y : Int) : List Value := [.string f, .slice qd m d, .int .i64 y]
theorem gy {f : ByteArray} {qd : Option Addr} {m d : Nat} {y : Int} : CR (Io f qd m d y) := fun u hu => by
 simp only [Io, List.mem_cons, List.not_mem_nil, or_false] at hu
 rcases hu with rfl | rfl | rfl <;> rfl
theorem de {T Et : TypeId} [Jo prog T Et 3 48] {vs : List Value} (h3 : vs.length = 3) (h1 : CR vs) {Iv : Nat} {o : Obj} {VU p35 : Option Addr} {Wg c35 : Nat} {Φ : Option Addr → Nat → Nat → Hp → Prop} (hx : Ext τ0 τ) (Th : τ db = none) (ho : Own 3 (τ0.new τ) VU 0 Wg []) (hl : τ Iv = some (.cells vs.toArray Et (0, 0)))
   (hΦ : ∀ q' c' τ', Ext τ0 τ' → τ' db = none → Own 3 (τ0.new τ') q' 1 c' vs → Φ q' 1 c' (τ'.set db o)) :
   AJ prog (Builtin.append_ #[T, T] T #[.slice VU 0 Wg, .slice (some ⟨Iv, 0, none⟩) 1 1]) (τ.set db o) (CS fun xR n47 xS y4 => AJ prog (Builtin.append_ #[T, T] T #[.slice xR n47 xS, .slice p35 0 c35]) y4 (CS Φ)) := by
 refine AJ.B6 Th (Dt (ys := vs) hx ho ⟨by omega, by omega, .inr ⟨Iv, 0, rfl, Dn.of fun j v hj => AD hl (by rw [Nat.zero_add, ← Array.getElem?_toList]; exact hj)⟩⟩ h1 (by omega) fun p4 c4 τ4 OS LW _ Yi => ⟨_, _, _, rfl, ?_⟩)
 refine AJ.B6 Yi (Dt (ys := []) LW OS GP.zero (fun u hu => by cases hu) (by omega) fun p5 c5 τ5 dE OU _ hn5 => ⟨_, _, _, rfl, ?_⟩)
 exact hΦ p5 c5 τ5 OU hn5 (by simpa using dE)
theorem AFh {qd : Option Addr} {m d : Nat} {y : Int} (hx : Ext τ0 τ) (Th : τ db = none) (hR : ∀ q' c' τ', Ext τ0 τ' → τ' db = none → Own 3 (τ0.new τ') q' 1 c' (Io f qd m d y) → R (.returned (.tuple #[])) (τ'.set db (Ba q' 1 c' num))) :
   Spec prog 239 #[.pointer (some ⟨db, 0, none⟩), .agg #[.string f, .slice qd m d, .int .i64 y]] (τ.set db (Ba q 0 c num)) R := by
 refine Hm.start fun _ => RI (Hp.AA _ _ _) ⟨_, _, rfl, fun hh => (by cases hh), fun _ => Hm.BF (RI (Hp.AA _ _ _) ⟨_, _, rfl, fun QA lk => ?_⟩)⟩
 obtain ⟨n28, X4⟩ := Hp.AM lk
 have cm : ∀ {ρ : Hp} {b : Nat} {o u : Obj}, b ≠ db → (ρ.set db u).set b o = (ρ.set b o).set db u := fun h => Hp.Jw (Ne.symm h)
 refine ⟨db, 0, rfl, q, 0, c, by rw [cm n28]; exact Ad rfl, ⟨by omega, by omega⟩, ?_⟩
 rw [cm n28]
 have Q3 : Ext τ (τ.set QA (.cells #[] 305 (0, 0))) := .set X4
 refine AJ.B6 (Hp.BD (Ne.symm n28) Th) (Dt (σ0 := τ0) (cs := []) (ys := []) (hx.trans Q3) ?_ GP.zero (fun u hu => by cases hu) (by omega) fun p35 c35 τ1 Fm BM _ Ql => ⟨_, _, _, rfl, ?_⟩)
 · exact Own.CC Own.empty fun a ha => by cases ha; exact A6 hx X4
 refine ⟨q, 0, c, Ad rfl, ⟨by omega, by omega⟩, ?_⟩
 have fin : ∀ (τ2 : Hp) q' c', Ext τ0 τ2 → τ2 db = none → Own 3 (τ0.new τ2) q' 1 c' (Io f qd m d y) → AJ prog (Instr.storeAt 111 (.pointer (aD db 0)) (.slice q' 1 c')) (τ2.set db (Ba q 0 c num)) (fun _ FE => R (.returned (.tuple #[])) FE) := fun τ2 q' c' Ay O6 Bt => by
   refine AJ.store rv (Hp.AA _ _ _) rfl (by simp) (by simp [Value.cells, Value.oneCell']) ?_
   rw [Hp.set_set]
   have e : (Obj.cells (DT #[.slice q 0 c, .bool false, .bool false, .int .i64 0, .int .i64 0, .int .u64 num] 0 (Value.slice q' 1 c').cells.toList) 113 (0, 0)) = Ba q' 1 c' num := by simp [DT, Value.cells, Ba]
   rw [e]
   exact hR q' c' τ2 Ay O6 Bt
 have tl : ∀ (τ2 : Hp) (VU : Option Addr) (Wg Iv : Nat), Ext τ0 τ2 → τ2 db = none → Own 3 (τ0.new τ2) VU 0 Wg [] → τ2 Iv = some (.cells (Io f qd m d y).toArray 305 (0, 0)) → _ := fun τ2 VU Wg Iv Ay O6 Bt R1 =>
   de (T := 111) (Et := 305) (db := db) (o := Ba q 0 c num) (p35 := p35) (c35 := c35) (Φ := fun q' n' c' y5 => AJ prog (Instr.storeAt 111 (.pointer (aD db 0)) (.slice q' n' c')) y5 (fun _ FE => R (.returned (.tuple #[])) FE)) rfl gy Ay O6 Bt R1 fun q' c' τ' h1 h2 h3 => fin τ' q' c' h1 h2 h3
 have C3 : ∀ {ρ : Hp} {b : Nat} {o : Obj}, Ext τ0 ρ → ρ b = none → Ext τ0 (ρ.set b o) := fun h hb => h.trans (.set hb)
 have em : ∀ (τ2 : Hp) (Hx : Nat), Ext τ0 τ2 → τ2 db = none → τ0 Hx = none → Own 3 τ2 (some ⟨Hx, 0, none⟩) 0 0 [] → ∀ {Φ : Value → Hp → Prop}, (∀ p' c' τ', Ext τ0 τ' → Ext (τ2.del (some ⟨Hx, 0, none⟩)) (τ'.del p') → Own 3 (τ0.new τ') p' 0 c' [] → τ' db = none → Φ (.slice p' 0 c') (τ'.set db (Ba q 0 c num))) →
     AJ prog (Builtin.append_ #[111, 111] 111 #[.slice (some ⟨Hx, 0, none⟩) 0 0, .slice q 0 c]) (τ2.set db (Ba q 0 c num)) Φ := fun τ2 Hx Ay O6 hb Bt Φ hΦ => by
   refine AJ.B6 O6 (Dr (ys := []) Bt GP.zero (fun u hu => by cases hu) (by omega) fun p' c' τ' Em Ci Jn => hΦ p' c' τ' ?_ Ci ?_ Jn)
   · exact CL (fun a ha => by cases ha; exact hb) Ci Ay
   · exact Own.CC (by simpa using Em) (Bb (fun a ha => by cases ha; exact hb) Ci Ay)
 refine ⟨fun Hx RJ => ⟨?_, fun Iv Ns => ?_⟩, fun Iv Ns Hx RJ => ?_⟩
 · obtain ⟨n37, F7⟩ := Hp.AM RJ
   rw [cm n37]
   refine em _ Hx (C3 BM F7) (Hp.BD (Ne.symm n37) Ql) (A6 BM F7) Own.empty fun p' c' τ' h1 _ h3 h4 => ⟨_, _, _, rfl, fun Iv Ns => ?_⟩
   obtain ⟨n46, F8⟩ := Hp.AM Ns
   rw [cm n46]
   exact tl _ _ _ Iv (C3 h1 F8) (Hp.BD (Ne.symm n46) h4) (Own.mono (Ext.BN (.set F8)) h3) (Hp.AA _ _ _)
 · obtain ⟨n37, F7⟩ := Hp.AM RJ
   rw [cm n37] at Ns ⊢
   obtain ⟨n46, F8⟩ := Hp.AM Ns
   rw [cm n46]
   obtain ⟨mb, zG⟩ := Hp.AM F8
   refine em _ Hx (C3 (C3 BM F7) F8) (Hp.BD (Ne.symm n46) (Hp.BD (Ne.symm n37) Ql)) (A6 BM F7) (Own.mono (.set F8) Own.empty) fun p' c' τ' h1 h2 h3 h4 => ⟨_, _, _, rfl, ?_⟩
   refine tl _ _ _ Iv h1 h4 h3 ?_
   exact (A9.1 (h2 Iv _ (A9.2 ⟨fun a ha => (by cases ha; exact mb), Hp.AA _ _ _⟩))).2
 · obtain ⟨n46, F8⟩ := Hp.AM Ns
   rw [cm n46] at RJ ⊢
   obtain ⟨n37, F7⟩ := Hp.AM RJ
   rw [cm n37]
   obtain ⟨X5, bB⟩ := Hp.AM F7
   refine em _ Hx (C3 (C3 BM F8) F7) (Hp.BD (Ne.symm n37) (Hp.BD (Ne.symm n46) Ql)) (A6 BM bB) Own.empty fun p' c' τ' h1 h2 h3 h4 => ⟨_, _, _, rfl, ?_⟩
   refine tl _ _ _ Iv h1 h4 h3 ?_
   exact (A9.1 (h2 Iv _ (A9.2 ⟨fun a ha => (by cases ha; exact Ne.symm X5), by rw [Hp.AH (Ne.symm X5), Hp.AA]⟩))).2
theorem mc {xs : List Int} (hx : Ext τ0 τ) (Th : τ db = none) (hr : B9 .u8 τ p n xs) (hn : n ≤ 65560) (h1 : ∀ e : Int, e ≠ 0 → R (.returned (.int .i64 e)) (τ.set db (Ba q 0 c num)))
   (hR : ∀ q' c' τ' SB qd m d y, Ext τ0 τ' → τ' db = none → Own 3 (τ0.new τ') q' 1 c' (Io s qd m d y) → R (.returned (.int .i64 0)) (τ'.set db (Ba q' 1 c' SB))) :
   Spec prog 140 #[.pointer (some ⟨db, 0, none⟩), .string s, .slice p n cc] (τ.set db (Ba q 0 c num)) R := by
 have Rg : xs.length = n := hr.1
 refine FT.start (rr (Hp.AA _ _ _) (fun _ => ⟨_, rfl, fun hh => absurd rfl hh, fun _ => ?_⟩) fun e he => ⟨_, rfl, fun _ => h1 e he, fun hh => absurd he hh⟩)
 refine RI (Hp.AA _ _ _) ⟨_, _, rfl, fun _ => ⟨fun hh => (by cases hh), fun _ => ?_⟩⟩
 refine FT.Fe ⟨fun hh => by omega, fun _ => ⟨by unfold AN; omega, fun hh => by omega, fun _ => ⟨fun _ => ⟨db, 0, rfl, q, 0, c, Ad rfl, fun hh => absurd hh (by decide), fun _ => ?_⟩, fun hh => (by cases hh)⟩⟩⟩
 refine u6 fun SB => ⟨_, rfl, fun Rc zH => ?_⟩
 obtain ⟨n60, df⟩ := Hp.AM zH
 rw [Hp.Jw (Ne.symm n60)]
 have AMX : Ext τ (τ.set Rc (.cells #[] 5 (0, 0))) := .set df
 refine AJ.B6 (Hp.BD (Ne.symm n60) Th) (Dt (σ0 := τ) (cs := []) (ys := []) AMX (Own.CC Own.empty fun a ha => by cases ha; exact df) GP.zero (fun u hu => by cases hu) (by omega) fun p63 c63 τ1 Fm BM _ Ql => ⟨_, _, _, rfl, ?_⟩)
 refine AJ.B6 Ql (Dt BM Fm ((GP.of_map hr).mono BM) CR.Cj (by omega) fun p65 c65 τ2 Bt Ay _ O6 => ⟨_, _, _, rfl, ?_⟩)
 exact AFh (hx.trans Ay) O6 fun q' c' τ' h1 h2 h3 => ⟨rfl, fun hh => (by cases hh), fun _ => hR q' c' τ' _ _ _ _ _ h1 h2 h3⟩
theorem zI {qd : Option Addr} {m d : Nat} {y : Int} (hx : Ext τ0 τ) (Th : τ db = none) (ho : Own 3 (τ0.new τ) q 1 c (Io f qd m d y)) (hR : ∀ (e : Int) τ' o, Ext τ0 τ' → τ' db = none → R (.returned (.int .i64 e)) (τ'.set db o)) :
   Spec prog 144 #[.pointer (some ⟨db, 0, none⟩), .string s] (τ.set db (Ba q 1 c num)) R := by
 obtain ⟨b, o, arr, T, rfl, hb, fi, EY, H5⟩ : ∃ b o arr T, q = some ⟨b, o, none⟩ ∧ (τ0.new τ) b = some (.cells arr T (0, 0)) ∧ 1 ≤ c ∧ o + c * 3 ≤ arr.size ∧ (arr.toList.drop o).take (1 * 3) = Io f qd m d y := by
   rcases ho.2.2 with ⟨_, h2, _⟩ | h
   · exact absurd h2 (by decide)
   · exact h
 obtain ⟨vP, zJ⟩ := AS.1 hb
 have Ae : b ≠ db := fun e => by rw [e, Th] at zJ; cases zJ
 have SE : ∀ {u : Obj}, Ext τ (τ.set db u) := .set Th
 have HJ := (Own.rd ho)
 obtain ⟨b', o', hp, hl⟩ : ∃ b' o', (some (⟨b, o, none⟩ : Addr)) = some ⟨b', o', none⟩ ∧ Dn (τ0.new τ) b' o' (Io f qd m d y) := by
   rcases HJ.2.2 with h | ⟨b', o', hp, hl⟩
   · simp [Io] at h
   · exact ⟨b', o', hp, hl⟩
 cases hp
 have AFi : Dn τ b o (Io f qd m d y) := hl.mono (Ext.Af _ _)
 have lf : ∀ {u : Obj}, Hp.ld (τ.set db u) ⟨b, o, none⟩ = some (.string f) := fun {u} => SE.ld AFi.1
 have ls : ∀ {u : Obj}, Hp.ld (τ.set db u) ⟨b, o + 1, none⟩ = some (.slice qd m d) := fun {u} => SE.ld AFi.2.1
 refine J4.start (ru (Hp.AA _ _ _) lf (fun Ag => ⟨_, rfl, fun hh => absurd rfl hh, fun _ => ?_⟩) fun e he => ⟨_, rfl, fun _ => hR e τ _ hx Th, fun hh => absurd he hh⟩)
 refine u6 fun SB => ⟨_, rfl, fun hh => (by cases hh), fun _ => ma (Hp.AA _ _ _) lf (fun hh => (by rw [Ag] at hh; cases hh)) fun _ => ⟨_, _, rfl, db, 0, rfl, _, 1, c, Ad rfl, _, 1, c, Ad rfl, b, o, rfl, by omega, qd, m, d, by simpa using ls, b, o, rfl, by omega, ?_⟩⟩
 refine AJ.B6 Th (AJ.store HW zJ rfl (by simp [Value.cells]; omega) (by simp [Value.cells, Value.oneCell']) fun hn => hR 0 _ _ (fun k u hk => ?_) hn)
 have C5 : k ≠ b := fun e => by rw [e, vP] at hk; cases hk
 rw [Hp.AH C5]; exact hx k u hk
def u7 : ByteArray := ⟨#[107, 118]⟩
def HK (db : Nat) (op sz : Int) : Obj := .cells #[.pointer (some ⟨db, 0, none⟩), .string u7, .int .i64 op, .int .i64 sz, .int .i64 0, .int .i64 0] 146 (0, 0)
variable {wb sb : Nat} {op sz : Int}
theorem X6 {L : List (Nat × Obj)} {i : Nat} {x : Int} (hN : (names L).Nodup) (hO : HP L τ) (hi : L[i]? = some (wb, HK db op sz)) (hR : ∀ s τ', Ext τ τ' → HP L τ' → R (.returned (.string s)) (AX τ' L)) : Spec prog 141 #[.pointer (some ⟨wb, 0, none⟩), .int .i64 x] (AX τ L) R :=
 IF.start ⟨wb, 0, rfl, u7, Hv hN hi rfl, by decide, Spec.CD hN hO (ay fun s σ' hs hx qP => ⟨_, rfl, Kp.CA (Ej hx L), by rw [hs]; decide, hR _ σ' hx qP⟩)⟩
theorem me {wb db : Nat} {W D : Obj} : HP [(wb, W), (db, D)] τ ↔ τ wb = none ∧ τ db = none := by simp [HP, names]
theorem mf {wb db : Nat} {W D : Obj} (h : wb ≠ db) : (names [(wb, W), (db, D)]).Nodup := by simp [names, h]
theorem AFj {xs : List Int} (hx : Ext τ0 τ) (Th : τ db = none) (hwb : τ wb = none) (Ae : wb ≠ db) (hr : B9 .u8 τ p n xs) (h1 : ∀ (e : Int) τ', e ≠ 0 → Ext τ0 τ' → R (.returned (.int .i64 e)) (AX τ' [(wb, HK db op (-1)), (db, Ba q 0 c num)]))
   (hR : ∀ q' c' τ' SB s qd m d y zK, 0 ≤ zK → Ext τ0 τ' → τ' db = none → τ' wb = none → Own 3 (τ0.new τ') q' 1 c' (Io s qd m d y) → R (.returned (.int .i64 0)) (AX τ' [(wb, HK db op zK), (db, Ba q' 1 c' SB)])) :
   Spec prog 69 #[.pointer (some ⟨wb, 0, none⟩), .slice p n cc] (AX τ [(wb, HK db op (-1)), (db, Ba q 0 c num)]) R := by
 refine GB.start (Spec.CD (mf Ae) (me.2 ⟨hwb, Th⟩) (VG hr (fun _ => ⟨_, _, _, _, rfl, fun _ => h1 70 τ (by decide) hx, fun hh => absurd (by decide) hh⟩) fun p1 n1 c1 τ1 ys Fm Ql BM qP => ?_))
 refine ⟨_, _, _, _, rfl, fun hh => absurd rfl hh, fun _ => ⟨wb, 0, rfl, -1, Hv (i := 0) (mf Ae) rfl rfl, fun hh => absurd hh (by decide), fun _ => GB.PL ⟨wb, 0, rfl, _, Hv (i := 0) (mf Ae) rfl rfl, op, Hv (i := 0) (mf Ae) rfl rfl, ?_⟩⟩⟩
 refine X6 (i := 0) (mf Ae) qP rfl fun s τ2 Ay SA => ⟨_, rfl, Kp.CA (Ej Ay _), ?_⟩
 obtain ⟨hw2, Rz⟩ := me.1 SA
 show Spec prog 140 _ ((τ2.set db (Ba q 0 c num)).set wb (HK db op (-1))) _
 refine Spec.B6 (Hp.BD Ae hw2) (mc ((hx.trans BM).trans Ay) Rz ((AR.rd (Own.mono (Ext.Af _ _) Fm)).mono Ay) Ql (fun e he _ => ⟨_, rfl, fun _ => h1 e τ2 he ((hx.trans BM).trans Ay), fun hh => absurd he hh⟩) fun q' c' τ' SB qd m d y C6 nr Dq hw3 => ⟨_, rfl, fun hh => absurd rfl hh, fun _ => ⟨-1, Ad rfl, by unfold AN; simp; omega, ?_⟩⟩)
 obtain ⟨_, zL⟩ := Hp.AM hw3
 refine AJ.store HW (Hp.AA _ _ _) rfl (by simp) (by simp [Value.cells, Value.oneCell']) ?_
 rw [Hp.set_set]
 have e : (Obj.cells (DT #[.pointer (some ⟨db, 0, none⟩), .string u7, .int .i64 op, .int .i64 (-1), .int .i64 0, .int .i64 0] (0 + 3) (Value.int .i64 ((if (-1 : Int) < 0 then 0 else (-1)) + (n1 : Int))).cells.toList) 146 (0, 0)) = HK db op n1 := by simp [DT, Value.cells, HK]
 rw [e]
 exact hR q' c' τ' SB s qd m d y n1 (by omega) C6 nr zL Dq
theorem zM {qd : Option Addr} {m d : Nat} {y : Int} (EY : 0 ≤ sz) (hx : Ext τ0 τ) (Th : τ db = none) (hwb : τ wb = none) (Ae : wb ≠ db) (ho : Own 3 (τ0.new τ) q 1 c (Io f qd m d y)) (hR : ∀ (e : Int) τ' o, Ext τ0 τ' → τ' db = none → τ' wb = none → R (.returned (.int .i64 e)) (AX τ' [(wb, HK db op sz), (db, o)])) :
   Spec prog 71 #[.pointer (some ⟨wb, 0, none⟩)] (AX τ [(wb, HK db op sz), (db, Ba q 1 c num)]) R := by
 refine LP.start ⟨wb, 0, rfl, sz, Hv (i := 0) (mf Ae) rfl rfl, fun hh => by omega, fun _ => ⟨_, Hv (i := 0) (mf Ae) rfl rfl, op, Hv (i := 0) (mf Ae) rfl rfl, ?_⟩⟩
 refine X6 (i := 0) (mf Ae) (me.2 ⟨hwb, Th⟩) rfl fun s τ2 Ay SA => ⟨_, rfl, Kp.CA (Ej Ay _), ?_⟩
 obtain ⟨hw2, Rz⟩ := me.1 SA
 show Spec prog 144 _ ((τ2.set db (Ba q 1 c num)).set wb (HK db op sz)) _
 refine Spec.B6 (Hp.BD Ae hw2) (zI (hx.trans Ay) Rz (Own.mono (Ext.BN Ay) ho) fun e τ' o h1 h2 hw3 => ⟨_, rfl, ?_⟩)
 obtain ⟨_, zL⟩ := Hp.AM hw3
 exact hR e τ' o h1 h2 zL
def E5 (wb : Nat) (q : Option Addr) (n c : Nat) : Obj := .cells #[.pointer (some ⟨wb, 0, none⟩), .slice q n c] 150 (0, 0)
theorem zN : az u7 = true := by decide
theorem AFn (Th : τ db = none) (hR : ∀ wb τ', Ext τ τ' → τ' db = none → τ' wb = none → wb ≠ db → R (.returned (.tuple #[.pointer (some ⟨wb, 0, none⟩), .slice none 0 0, .int .i64 0])) (AX τ' [(wb, HK db 1 (-1)), (db, Ba q 0 c num)])) :
   Spec prog 97 #[.pointer (some ⟨db, 0, none⟩), .string u7] (τ.set db (Ba q 0 c num)) R := by
 have h0 : (τ.set db (Ba q 0 c num)) db = some (Ba q 0 c num) := Hp.AA _ _ _
 refine Ge.start ⟨fun hh => absurd hh (by decide), fun _ => Lz ⟨_, rfl, fun hh => (by rw [zN] at hh; cases hh), fun _ => ⟨db, 0, rfl, false, Ad rfl, fun hh => (by cases hh), fun _ => ?_⟩⟩⟩
 refine IV.start ⟨by decide, bA h0 ⟨_, _, _, rfl, IV.qM ⟨fun hh => absurd hh (by decide), fun _ => ⟨by decide, RI h0 ⟨_, _, rfl, fun hh => (by cases hh), fun _ => IV.JB (IV.qN ⟨fun hh => absurd hh (by decide), fun _ => ?_⟩)⟩⟩⟩⟩⟩
 refine ⟨_, _, rfl, fun hh => absurd rfl hh, fun _ => ⟨fun hh => absurd hh (by decide), fun _ => Ge.US ⟨by decide, bA h0 ⟨_, _, _, rfl, Ge.pB ⟨fun hh => absurd hh (by decide), fun _ => Ge.pC ⟨fun hh => absurd hh (by decide), fun _ => Ge.pD fun wb hwb => ?_⟩⟩⟩⟩⟩⟩
 obtain ⟨Ae, AMY⟩ := Hp.AM hwb
 have hM : ∀ {u : Obj}, ((τ.set db (Ba q 0 c num)).set wb u) db = some (Ba q 0 c num) := fun {u} => by rw [Hp.AH (Ne.symm Ae)]; exact h0
 refine G4.start ⟨wb, 0, rfl, _, Ad rfl, u7, Ad rfl, by decide, bA hM ⟨_, _, _, rfl, ?_⟩⟩
 refine AJ.store HW (Hp.AA _ _ _) rfl (by simp) (by simp [Value.cells, Value.oneCell']) ?_
 rw [Hp.set_set]
 refine AJ.store HW (Hp.AA _ _ _) rfl (by simp [Dc]) (by simp [Value.cells, Value.oneCell']) ?_
 rw [Hp.set_set]
 refine AJ.store HW (Hp.AA _ _ _) rfl (by simp [Dc]) (by simp [Value.cells, Value.oneCell']) ?_
 rw [Hp.set_set]
 refine AJ.store HW (Hp.AA _ _ _) rfl (by simp [Dc]) (by simp [Value.cells, Value.oneCell']) ?_
 rw [Hp.set_set]
 have e : (Obj.cells (DT (DT (DT (DT #[.pointer (some ⟨db, 0, none⟩), .string u7, .int .i64 0, .int .i64 0, .int .i64 0, .int .i64 0] (0 + 4) (Value.int .i64 0).cells.toList) (0 + 2) (Value.int .i64 0).cells.toList) (0 + 3) (Value.int .i64 (-1)).cells.toList) (0 + 5) (Value.int .i64 0).cells.toList) 146 (0, 0)) = HK db 0 (-1) := by simp [DT, Value.cells, HK]
 rw [e]
 refine G4.BB ⟨fun hh => absurd hh (by decide), fun _ => ⟨wb, 0, rfl, -1, Ad rfl, fun _ => ⟨0, Ad rfl, by unfold AN; decide, ?_⟩, fun hh => absurd (by decide) hh⟩⟩
 refine AJ.store HW (Hp.AA _ _ _) rfl (by simp) (by simp [Value.cells, Value.oneCell']) ?_
 rw [Hp.set_set]
 have e2 : (Obj.cells (DT #[.pointer (some ⟨db, 0, none⟩), .string u7, .int .i64 0, .int .i64 (-1), .int .i64 0, .int .i64 0] (0 + 2) (Value.int .i64 ((if (0 : Int) < 0 then 0 else 0) + 1)).cells.toList) 146 (0, 0)) = HK db 1 (-1) := by simp [DT, Value.cells, HK]
 rw [e2]
 exact ⟨rfl, hR wb τ (.refl _) Th AMY Ae⟩
theorem Uz {sb wb db : Nat} {S W D : Obj} : HP [(sb, S), (wb, W), (db, D)] τ ↔ τ sb = none ∧ τ wb = none ∧ τ db = none := by simp [HP, names]
theorem nd3 {sb wb db : Nat} {S W D : Obj} (h : wb ≠ db) (h1 : sb ≠ wb) (h2 : sb ≠ db) : (names [(sb, S), (wb, W), (db, D)]).Nodup := by simp [names, h, h1, h2]
def vA (σ : Hp) (sb : Nat) (τ : Hp) : Prop := ∃ wb db q c num ρ, σ = AX ρ [(sb, E5 wb none 0 0), (wb, HK db 1 (-1)), (db, Ba q 0 c num)] ∧ ρ sb = none ∧ ρ wb = none ∧ ρ db = none ∧ wb ≠ db ∧ sb ≠ wb ∧ sb ≠ db ∧ Ext τ ρ
theorem VH (Th : τ db = none) (hR : ∀ sb σ', vA σ' sb τ → R (.returned (.tuple #[.pointer (some ⟨sb, 0, none⟩), .int .i64 0])) σ') : Spec prog 43 #[.pointer (some ⟨db, 0, none⟩)] (τ.set db (Ba q 0 c num)) R := by
 refine Lr.start (AFn Th fun wb τ' hx hd hw Ae => ⟨_, _, _, _, _, rfl, fun hh => absurd rfl hh, fun _ sb hsb => Lr.Uc ⟨fun hh => absurd hh (by decide), fun _ => ?_⟩⟩)
 obtain ⟨hn, AMZ⟩ := By hsb
 simp [names] at hn
 exact hR sb _ ⟨wb, db, q, c, num, τ', rfl, AMZ, hw, hd, Ae, hn.1, hn.2, hx⟩
end
end TwW
end
section
namespace TwW
open Go Tw Go.RowKit Go.Proofs.Tryz
section
variable {τ0 τ σ : Hp} {R : Rr} {db wb sb : Nat} {q p : Option Addr} {n c cc : Nat} {s f : ByteArray}
abbrev UG (f : ByteArray) (qd : Option Addr) (m d : Nat) (y : Int) : List Value := [.string f, .slice qd m d, .int .u64 y]
theorem mg {f : ByteArray} {qd : Option Addr} {m d : Nat} {y : Int} : CR (UG f qd m d y) := fun u hu => by
 simp only [UG, List.mem_cons, List.not_mem_nil, or_false] at hu
 rcases hu with rfl | rfl | rfl <;> rfl
theorem dh (h : σ db = some (E5 wb q 0 c)) (hR : R (.returned (.tuple #[.int .i64 0, .bool false])) σ) : Spec prog 62 #[.pointer (some ⟨db, 0, none⟩), .string s] σ R :=
 FP.start (FP.CU ⟨db, 0, rfl, q, 0, c, AD h rfl, fun Ag => absurd Ag (by decide), fun _ => ⟨q, 0, c, AD h rfl, fun Ag => absurd Ag (by decide), fun _ => hR⟩⟩)
theorem zO {qd : Option Addr} {m d : Nat} {y : Int} (hx : Ext τ0 τ) (Th : τ db = none) (hR : ∀ q' c' τ', Ext τ0 τ' → τ' db = none → Own 3 (τ0.new τ') q' 1 c' (UG f qd m d y) → R (.returned (.tuple #[])) (τ'.set db (E5 wb q' 1 c'))) :
   Spec prog 72 #[.pointer (some ⟨db, 0, none⟩), .agg #[.string f, .slice qd m d, .int .u64 y]] (τ.set db (E5 wb q 0 c)) R := by
 refine JM.start fun _ => dh (Hp.AA _ _ _) ⟨_, _, rfl, fun hh => (by cases hh), fun _ QA lk => ?_⟩
 obtain ⟨n28, X4⟩ := Hp.AM lk
 have cm : ∀ {ρ : Hp} {b : Nat} {o u : Obj}, b ≠ db → (ρ.set db u).set b o = (ρ.set b o).set db u := fun h => Hp.Jw (Ne.symm h)
 refine ⟨db, 0, rfl, q, 0, c, by rw [cm n28]; exact Ad rfl, ⟨by omega, by omega⟩, ?_⟩
 rw [cm n28]
 have Q3 : Ext τ (τ.set QA (.cells #[] 154 (0, 0))) := .set X4
 refine AJ.B6 (Hp.BD (Ne.symm n28) Th) (Dt (σ0 := τ0) (cs := []) (ys := []) (hx.trans Q3) ?_ GP.zero (fun u hu => by cases hu) (by omega) fun p35 c35 τ1 Fm BM _ Ql => ⟨_, _, _, rfl, ?_⟩)
 · exact Own.CC Own.empty fun a ha => by cases ha; exact A6 hx X4
 refine ⟨q, 0, c, Ad rfl, ⟨by omega, by omega⟩, ?_⟩
 have fin : ∀ (τ2 : Hp) q' c', Ext τ0 τ2 → τ2 db = none → Own 3 (τ0.new τ2) q' 1 c' (UG f qd m d y) → AJ prog (Instr.storeAt 148 (.pointer (aD db 1)) (.slice q' 1 c')) (τ2.set db (E5 wb q 0 c)) (fun _ FE => R (.returned (.tuple #[])) FE) := fun τ2 q' c' Ay O6 Bt => by
   refine AJ.store ry (Hp.AA _ _ _) rfl (by simp) (by simp [Value.cells, Value.oneCell']) ?_
   rw [Hp.set_set]
   have e : (Obj.cells (DT #[.pointer (some ⟨wb, 0, none⟩), .slice q 0 c] 1 (Value.slice q' 1 c').cells.toList) 150 (0, 0)) = E5 wb q' 1 c' := by simp [DT, Value.cells, E5]
   rw [e]
   exact hR q' c' τ2 Ay O6 Bt
 have tl : ∀ (τ2 : Hp) (VU : Option Addr) (Wg Iv : Nat), Ext τ0 τ2 → τ2 db = none → Own 3 (τ0.new τ2) VU 0 Wg [] → τ2 Iv = some (.cells (UG f qd m d y).toArray 154 (0, 0)) → _ := fun τ2 VU Wg Iv Ay O6 Bt R1 =>
   de (T := 148) (Et := 154) (db := db) (o := E5 wb q 0 c) (p35 := p35) (c35 := c35) (Φ := fun q' n' c' y5 => AJ prog (Instr.storeAt 148 (.pointer (aD db 1)) (.slice q' n' c')) y5 (fun _ FE => R (.returned (.tuple #[])) FE)) rfl mg Ay O6 Bt R1 fun q' c' τ' h1 h2 h3 => fin τ' q' c' h1 h2 h3
 have C3 : ∀ {ρ : Hp} {b : Nat} {o : Obj}, Ext τ0 ρ → ρ b = none → Ext τ0 (ρ.set b o) := fun h hb => h.trans (.set hb)
 have em : ∀ (τ2 : Hp) (Hx : Nat), Ext τ0 τ2 → τ2 db = none → τ0 Hx = none → Own 3 τ2 (some ⟨Hx, 0, none⟩) 0 0 [] → ∀ {Φ : Value → Hp → Prop}, (∀ p' c' τ', Ext τ0 τ' → Ext (τ2.del (some ⟨Hx, 0, none⟩)) (τ'.del p') → Own 3 (τ0.new τ') p' 0 c' [] → τ' db = none → Φ (.slice p' 0 c') (τ'.set db (E5 wb q 0 c))) →
     AJ prog (Builtin.append_ #[148, 148] 148 #[.slice (some ⟨Hx, 0, none⟩) 0 0, .slice q 0 c]) (τ2.set db (E5 wb q 0 c)) Φ := fun τ2 Hx Ay O6 hb Bt Φ hΦ => by
   refine AJ.B6 O6 (Dr (ys := []) Bt GP.zero (fun u hu => by cases hu) (by omega) fun p' c' τ' Em Ci Jn => hΦ p' c' τ' ?_ Ci ?_ Jn)
   · exact CL (fun a ha => by cases ha; exact hb) Ci Ay
   · exact Own.CC (by simpa using Em) (Bb (fun a ha => by cases ha; exact hb) Ci Ay)
 refine ⟨fun Hx RJ => ⟨?_, fun Iv Ns => ?_⟩, fun Iv Ns Hx RJ => ?_⟩
 · obtain ⟨n37, F7⟩ := Hp.AM RJ
   rw [cm n37]
   refine em _ Hx (C3 BM F7) (Hp.BD (Ne.symm n37) Ql) (A6 BM F7) Own.empty fun p' c' τ' h1 _ h3 h4 => ⟨_, _, _, rfl, fun Iv Ns => ?_⟩
   obtain ⟨n46, F8⟩ := Hp.AM Ns
   rw [cm n46]
   exact tl _ _ _ Iv (C3 h1 F8) (Hp.BD (Ne.symm n46) h4) (Own.mono (Ext.BN (.set F8)) h3) (Hp.AA _ _ _)
 · obtain ⟨n37, F7⟩ := Hp.AM RJ
   rw [cm n37] at Ns ⊢
   obtain ⟨n46, F8⟩ := Hp.AM Ns
   rw [cm n46]
   obtain ⟨mb, zG⟩ := Hp.AM F8
   refine em _ Hx (C3 (C3 BM F7) F8) (Hp.BD (Ne.symm n46) (Hp.BD (Ne.symm n37) Ql)) (A6 BM F7) (Own.mono (.set F8) Own.empty) fun p' c' τ' h1 h2 h3 h4 => ⟨_, _, _, rfl, ?_⟩
   refine tl _ _ _ Iv h1 h4 h3 ?_
   exact (A9.1 (h2 Iv _ (A9.2 ⟨fun a ha => (by cases ha; exact mb), Hp.AA _ _ _⟩))).2
 · obtain ⟨n46, F8⟩ := Hp.AM Ns
   rw [cm n46] at RJ ⊢
   obtain ⟨n37, F7⟩ := Hp.AM RJ
   rw [cm n37]
   obtain ⟨X5, bB⟩ := Hp.AM F7
   refine em _ Hx (C3 (C3 BM F8) F7) (Hp.BD (Ne.symm n37) (Hp.BD (Ne.symm n46) Ql)) (A6 BM bB) Own.empty fun p' c' τ' h1 h2 h3 h4 => ⟨_, _, _, rfl, ?_⟩
   refine tl _ _ _ Iv h1 h4 h3 ?_
   exact (A9.1 (h2 Iv _ (A9.2 ⟨fun a ha => (by cases ha; exact Ne.symm X5), by rw [Hp.AH (Ne.symm X5), Hp.AA]⟩))).2
theorem X7 {bs : List Int} (h : vA σ sb τ) (hr : B9 .u8 τ p n bs) (h8 : E6 bs) (hn : n ≤ 60000) (hR : ∀ (a e : Int) σ', Ext τ σ' → R (.returned (.tuple #[.int .u64 a, .int .i64 e])) σ') :
   Spec prog 31 #[.pointer (some ⟨sb, 0, none⟩), .string F6, .slice p n c, .int .u64 0] σ R := by
 obtain ⟨wb, db, q, cq, num, ρ, rfl, hs, hw, hd, n1, n2, n3, hx⟩ := h
 have hN : ∀ {S W D : Obj}, (names [(sb, S), (wb, W), (db, D)]).Nodup := nd3 n1 n2 n3
 have hO : HP [(sb, E5 wb none 0 0), (wb, HK db 1 (-1)), (db, Ba q 0 cq num)] ρ := Uz.2 ⟨hs, hw, hd⟩
 have Rg := HP.ext (hN (S := E5 wb none 0 0) (W := HK db 1 (-1)) (D := Ba q 0 cq num)) hO
 have out : ∀ {σ' : Hp} (a e : Int), Ext ρ σ' → R (.returned (.tuple #[.int .u64 a, .int .i64 e])) σ' := fun a e h => hR a e _ (hx.trans h)
 have KO : ∀ {τ' : Hp} {S W D : Obj}, Ext ρ τ' → Ext ρ (AX τ' [(sb, S), (wb, W), (db, D)]) := fun h => (HP.ext hN (Uz.2 ⟨hs, hw, hd⟩)).trans (Ej h _)
 refine GD.start (JX.start (TB.start ⟨fun _ => ⟨_, rfl, fun hh => absurd hh (by decide), fun _ => ⟨sb, 0, rfl, _, Hv (i := 0) hN rfl rfl, wb, 0, rfl, _, Hv (i := 1) hN rfl rfl, db, 0, rfl, false, Hv (i := 2) hN rfl rfl, fun hh => (by cases hh), fun _ => ?_⟩⟩, fun hh => absurd (by decide) hh⟩))
 refine dh (B4 (i := 0) hN rfl) ⟨_, _, rfl, fun _ => ⟨_, _, _, _, _, rfl, fun hh => absurd rfl hh, fun _ => ⟨fun hh => absurd rfl hh, fun _ z7 AMa => ?_⟩⟩, fun hh => (by cases hh)⟩
 obtain ⟨aK, mh⟩ := By AMa
 rw [DC aK]
 refine AJ.CD hN (HP.set hO aK) (Dt (σ0 := ρ) (cs := []) (.set mh) (Own.CC Own.empty fun a ha => by cases ha; exact mh) ((GP.of_map (hr.mono hx)).mono (.set mh)) CR.Cj (by omega) fun UT WR ρ1 Fm BM _ gx => ⟨_, _, _, rfl, fun M8 h38 _ => ?_⟩)
 have e38 : M8 = ((1 : Nat) : Int) := by rw [h38]; rfl
 subst e38
 rw [Nat.zero_add, List.nil_append] at Fm
 obtain ⟨Re, VJ, TD⟩ := Uz.1 gx
 refine ⟨sb, 0, rfl, _, Hv (i := 0) hN rfl rfl, ?_⟩
 rw [show (0 + n) = n from Nat.zero_add n]
 refine Spec.CD hN gx (RH (k := F6) (d := bs) (AR.rd (Own.mono (Ext.Af _ _) Fm)) h8 (by decide) (by omega) (by decide) fun xQ n45 c45 ρ2 Bt Ay SA => ⟨_, _, _, rfl, Kp.CA (Ej Ay _), ?_⟩)
 obtain ⟨aC, hw2, Rz⟩ := Uz.1 SA
 have av : Ext ρ ρ2 := BM.trans Ay
 have h36 : B9 .u8 ρ2 UT n bs := (AR.rd (Own.mono (Ext.Af _ _) Fm)).mono Ay
 have hS : ∀ {ρ' : Hp} {W D : Obj}, ρ' sb = none → (AX ρ' [(wb, W), (db, D)]) sb = none := fun h => by rw [Gk (by simp [names, n2, n3])]; exact h
 have Ae : ∀ {ρ' : Hp} {W D : Obj}, (AX ρ' [(wb, W), (db, D)]) sb = none → ρ' sb = none := fun h => (By h).2
 show Spec prog 69 _ ((AX ρ2 [(wb, HK db 1 (-1)), (db, Ba q 0 cq num)]).set sb (E5 wb none 0 0)) _
 refine Spec.B6 (hS aC) (AFj (τ0 := ρ) av Rz hw2 n1 (AR.rd (Own.mono (Ext.Af _ _) Bt)) (fun e τ' he Ci Hy => ⟨_, rfl, fun _ => out _ _ ?_, fun hh => absurd he hh⟩) fun q' c' ρ3 SB sg qd m d y zK EY C6 nr hw3 Dq Hy => ⟨_, rfl, fun hh => absurd rfl hh, fun _ => ⟨_, Ad rfl, ?_⟩⟩)
 · exact KO Ci
 refine Spec.B6 (hS (by exact Ae (by exact Hy))) (zM (τ0 := ρ) EY C6 nr hw3 n1 Dq fun e τ4 o LW Yh hw4 AFo => ⟨_, rfl, fun _ => out _ _ (KO LW), fun _ => ?_⟩)
 have hs4 : τ4 sb = none := Ae AFo
 refine zO (τ0 := AX τ4 [(wb, HK db 1 zK), (db, o)]) (.refl _) AFo fun q5 c5 τ5 OU hs5 dE => ⟨rfl, _, Ad rfl, ?_⟩
 have AFp : (τ5.set sb (E5 wb q5 1 c5)) wb = some (HK db 1 zK) := by
   rw [Hp.AH (Ne.symm n2)]
   exact OU _ _ (B4 (i := 0) (mf n1) rfl)
 refine HU.start ⟨wb, 0, rfl, zK, AD AFp rfl, fun _ => ⟨0, AD AFp rfl, by unfold AN; decide, _, rfl, fun hh => absurd hh (by decide), fun _ => GD.po (out _ _ ?_)⟩, fun hh => by omega⟩
 have h6 : Ext ρ (AX τ4 [(wb, HK db 1 zK), (db, o)]) := (HP.ext (mf n1) (me.2 ⟨hw, hd⟩)).trans (Ej LW _)
 exact (h6.trans OU).trans (.set hs5)
end
end TwW
end
section
namespace TwW
open Go Tw Go.RowKit Go.Proofs.Tryz
section
variable {σ σ' τ : Hp} {R : Rr}
def AFq (rf fo re : Int) (ha : Bool) : Value := .agg #[.int .i64 0, .int .i64 rf, .int .i64 0, .int .i64 0, .int .i64 fo, .int .i64 re, .int .i64 0, .int .i64 100, .int .i64 16, .int .i64 100, .bool ha]
theorem X8 {rf fo re : Int} {ha : Bool} (hR : ∀ bd md, σ md = none → σ bd = none → bd ≠ md → R (.returned (.pointer (some ⟨bd, 0, none⟩))) ((σ.set md (.map #[] 0)).set bd (Im rf fo re ha md))) : Spec prog 9 #[AFq rf fo re ha] σ R :=
 JP.start fun _ => HQ fun md hm => ⟨md, rfl, fun bd hb => by
   obtain ⟨Ae, Jf⟩ := Hp.AM hb
   exact hR bd md hm Jf Ae⟩
def SC (x : Int) : Int := Go.bits .and .i64 x 9223372036854775807
theorem di {x : Int} : 0 ≤ SC x ∧ SC x ≤ 9223372036854775807 := by
 unfold SC
 have h2 : (BitVec.ofInt 64 9223372036854775807).toNat = 9223372036854775807 := rfl
 have e : Go.bits .and .i64 x 9223372036854775807 = IntKind.i64.wrap (((BitVec.ofInt 64 x) &&& (BitVec.ofInt 64 9223372036854775807)).toNat : Int) := rfl
 rw [e, BitVec.toNat_and, h2]
 have hle : (BitVec.ofInt 64 x).toNat &&& 9223372036854775807 ≤ 9223372036854775807 := Nat.and_le_right
 generalize (BitVec.ofInt 64 x).toNat &&& 9223372036854775807 = y at hle
 simp [IntKind.wrap, IntKind.bits, IntKind.signed]; omega
theorem Nt {x : Int} (h : R (.returned (.int .i64 (SC x))) σ) : Spec prog 8 #[.int .i64 x] σ R := Wb.start fun x4 h4 => h4 ▸ h
theorem X9 {x k : Int} (h : 0 ≤ x) (hk : 0 < k) : 0 ≤ Int.tmod x k ∧ Int.tmod x k < k := ⟨Int.tmod_nonneg _ h, Int.tmod_lt_of_pos _ hk⟩
def Ip (x : Int) : Int := if Int.tmod (SC x) 3 = 0 then 1 else if Int.tmod (SC x) 3 = 1 then 3 else 5
theorem rz (x : Int) : Ip x = 1 ∨ Ip x = 3 ∨ Ip x = 5 := by
 unfold Ip
 split
 · exact .inl rfl
 · split
   · exact .inr (.inl rfl)
   · exact .inr (.inr rfl)
theorem Ol {x re fo : Int} (h : R (.returned (AFq (Ip x) fo re true)) σ) : Spec prog 7 #[.int .i64 x, .int .i64 re, .int .i64 fo] σ R := by
 refine Spec.drop (MJ.start fun _ b7 hb7 => Nt ⟨_, rfl, by decide, fun Db lW => ?_⟩)
 obtain ⟨h0, h3⟩ := X9 (x := SC x) (k := 3) di.1 (by decide)
 have l0 : Hp.ld (σ.set b7 (.cells #[.int .i64 1, .int .i64 3, .int .i64 5] 3 (0, 0))) ⟨b7, 0 + Int.toNat Db * 1, none⟩ = some (.int .i64 (Ip x)) := by
   unfold Ip
   rw [← lW] at *
   by_cases e0 : Db = 0
   · rw [if_pos e0]; subst e0; exact Ad rfl
   · by_cases e1 : Db = 1
     · rw [if_neg e0, if_pos e1]; rw [e1]; exact Ad rfl
     · have e2 : Db = 2 := by omega
       rw [if_neg e0, if_neg e1]; rw [e2]; exact Ad rfl
 exact ⟨⟨by omega, by omega⟩, Ip x, l0, .mk (.set hb7) h⟩
structure JJ (ms : List Mem) (n : Nat) : Prop where
 ok : Ku ms
 ids : ids ms = (List.range n).map fun (k : Nat) => (k : Int)
 act : ∀ m ∈ ms, m.state = 2
 tok : ∀ m ∈ ms, ∀ t ∈ m.B5, oC t
theorem JJ.len {ms : List Mem} {n : Nat} (h : JJ ms n) : ms.length = n := by
 have := congrArg List.length h.ids
 simpa [TwW.ids] using this
theorem JJ.Bz {ms : List Mem} {n : Nat} (h : JJ ms n) : Bz ms = (List.range n).map fun (k : Nat) => (k : Int) := by
 rw [← h.ids]
 unfold TwW.Bz TwW.ids
 rw [List.filter_eq_self.2 fun m hm => by simp [h.act m hm]]
theorem JJ.dj {ms : List Mem} {n : Nat} (h : JJ ms n) {m : Mem} (hm : m ∈ ms) : m.id < n := by
 have : m.id ∈ TwW.ids ms := List.mem_map.2 ⟨m, hm, rfl⟩
 rw [h.ids] at this
 obtain ⟨k, hk, he⟩ := List.mem_map.1 this
 have := List.mem_range.1 hk
 omega
theorem bC {xs : List Int} {x : Int} (h : EM xs) (hx : ∀ y ∈ xs, y < x) : EM (xs ++ [x]) := by
 unfold EM at *
 rw [List.pairwise_append]
 exact ⟨h, by simp, fun a ha b hb => by simp at hb; subst hb; exact hx a ha⟩
theorem RL {n : Nat} (hn : n ≤ 16) (h : ∀ p c σ' ms, Nq σ' p n ms → JJ ms n → Ext σ σ' → R (.returned (F4 (2 * n : Nat) p n c)) σ') : Spec prog 11 #[.int .i64 n] σ R := by
 refine Fv.start fun _ _ => ?_
 suffices H : ∀ d k : Nat, ∀ p c σ' ms, n - k = d → k ≤ n → Nq σ' p k ms → JJ ms k → Ext σ σ' → Fv.Bu R n 0 none 0 0 (2 * k : Nat) p k c k σ' from H n 0 none 0 σ [] rfl (Nat.zero_le _) Fi.nil ⟨⟨by simp, by simp [ids, EM]⟩, by simp [ids], by simp, by simp⟩ (.refl _)
 intro d
 induction d with
 | zero =>
   intro k p c σ' ms hd hk hr hg hx
   refine Fv.BF ⟨fun Ag => by omega, fun _ => ?_⟩
   have : k = n := by omega
   subst this
   exact h p c σ' ms hr hg hx
 | succ d ih =>
   intro k p c σ' ms hd hk hr hg hx
   have DK : k < n := by omega
   have hlen := hg.len
   have fit : ∀ {EN : List Mem} {e : Int}, Ku EN → 0 ≤ e → e ≤ 40 → Fit EN e k := fun h1 h2 h3 => ⟨h1, by unfold Oc; omega, by omega, by omega⟩
   have BX : place ms k = -1 := Qz fun m hm => by have := hg.dj hm; omega
   have hj : ∀ code EN, l3 ms k code EN → code = 0 ∧ ∃ t, EM t ∧ 1 ≤ t.length ∧ t.length ≤ 4 ∧ (∀ y ∈ t, 0 ≤ y ∧ y < 4294967296) ∧ EN = ms ++ [⟨k, 1, t⟩] := by
     rintro code EN (⟨h1, _⟩ | ⟨_, h1, i, t, hi, _, h2, h3, h4, h5, h6, h7⟩)
     · exact absurd BX h1
     · have hie : i = ms.length := by
         refine Nat.le_antisymm hi (Nat.le_of_not_lt fun Ag => ?_)
         exact h2 _ (List.getElem?_eq_getElem Ag) (hg.dj (List.getElem_mem Ag))
       subst hie
       exact ⟨h1, t, h3, h4, h5, h6, by simpa using h7⟩
   refine Fv.BF ⟨fun _ => aP hr hg.ok.small (by unfold Oc; omega) ⟨fun hb => absurd (fit hg.ok (by omega) (by omega)) hb, fun _ code EN hC Ae => absurd (hj code EN hC).1 Ae, fun _ p1 n1 c1 σ1 ms1 hC gN BM => ⟨_, _, _, _, _, rfl, ?_⟩⟩, fun hh => by omega⟩
   obtain ⟨_, t, ht, yb, ht4, lV, rfl⟩ := hj _ _ hC
   have ga : ∀ s : Int, 1 ≤ s → s ≤ 3 → Ku (ms ++ [⟨k, s, t⟩]) := fun s h1 h2 => by
     refine ⟨fun m hm => ?_, ?_⟩
     · rcases List.mem_append.1 hm with hm | hm
       · exact hg.ok.1 m hm
       · simp at hm; subst hm
         exact ⟨by show (0 : Int) ≤ k; omega, by show (k : Int) < 16; omega, h1, h2, yb, by show t.length ≤ 64; omega, ht⟩
     · have e : ids (ms ++ [⟨k, s, t⟩]) = ids ms ++ [(k : Int)] := by simp [ids]
       rw [e]
       exact bC hg.ok.2 fun y hy => by
         obtain ⟨m, hm, rfl⟩ := List.mem_map.1 hy
         exact hg.dj hm
   have l7 : place (ms ++ [⟨k, 1, t⟩]) k = ms.length := Q0 (m := ⟨k, 1, t⟩) (by simp) rfl fun m hm => by
     rw [List.take_append_of_le_length (Nat.le_refl _), List.take_length] at hm
     have := hg.dj hm; omega
   have htn : ∀ code EN, Xd 1 2 (ms ++ [⟨k, 1, t⟩]) k code EN → code = 0 ∧ EN = ms ++ [⟨k, 2, t⟩] := by
     rintro code EN (⟨h1, _⟩ | ⟨j, m, Tx, hm, hh⟩)
     · rw [l7] at h1; omega
     · rw [l7] at Tx
       obtain rfl : j = ms.length := by omega
       simp at hm; subst hm
       rcases hh with ⟨h1, _⟩ | ⟨_, h1, h2⟩
       · exact absurd rfl h1
       · exact ⟨h1, by rw [h2]; simp⟩
   have hk1 : ((2 * k : Nat) : Int) + 1 = ((2 * k + 1 : Nat) : Int) := by omega
   rw [hk1]
   refine Q4 gN (ga 1 (by decide) (by decide)).small (by unfold Oc; omega) ⟨fun hb => absurd (fit (ga 1 (by decide) (by decide)) (by omega) (by omega)) hb, fun _ code EN hC Ae => absurd (htn code EN hC).1 Ae, fun _ p2 n2 c2 σ2 ms2 ye SJ Ay => ⟨_, _, _, _, _, rfl, by unfold AN; omega, ?_⟩⟩
   obtain ⟨_, rfl⟩ := htn _ _ ye
   have O6 : n2 = k + 1 := by have := SJ.1; simp at this; omega
   subst O6
   have e2 : ((2 * k + 1 : Nat) : Int) + 1 = ((2 * (k + 1) : Nat) : Int) := by omega
   rw [e2]
   refine ih (k + 1) p2 c2 σ2 _ (by omega) (by omega) SJ ⟨ga 2 (by decide) (by decide), ?_, fun m hm => ?_, fun m hm => ?_⟩ ((hx.trans BM).trans Ay)
   · have e : ids (ms ++ [⟨k, 2, t⟩]) = ids ms ++ [(k : Int)] := by simp [ids]
     rw [e, hg.ids, List.range_succ, List.map_append]; rfl
   · rcases List.mem_append.1 hm with hm | hm
     · exact hg.act m hm
     · simp at hm; subst hm; rfl
   · rcases List.mem_append.1 hm with hm | hm
     · exact hg.tok m hm
     · simp at hm; subst hm
       exact fun y hy => lV y hy
theorem r4 {e : Nat} {ms : List Mem} (h : Ku ms) (he : e < 18446744073709551616) : (enc e ms).length ≤ 60000 := by
 have h1 := Tf ms fun m hm => (h.1 m hm).2.2.2.2.2.1
 have h2 := h.len
 have h3 := BV he
 have h4 := My (ms.length : Nat)
 simp only [enc, List.length_append]
 omega
theorem YA {k : ByteArray} : DW [] k = ([], 0) := rfl
theorem Om {K : List ByteArray} {e n c : Nat} {p : Option Addr} {ms : List Mem} (hK : F6 ∈ K) (hK8 : K.length ≤ 8) (ht : Tb σ) (hr : Nq σ p n ms) (Aq : Ku ms) (Mr : ∀ m ∈ ms, ∀ t ∈ m.B5, oC t) (he : e < 18446744073709551616)
   (hR : ∀ (dk bb s sb : Nat) σ' D W rows ts τ, Hs σ' dk bb s D W rows τ → gj D W rows ts → rU K rows → D.armed = false → D.cnt ≤ 2 → ts.length ≤ 9 → Tr (DW rows F6).1 e ms → (∀ k, DW rows k = if F6 = k then (enc e ms, 1) else ([], 0)) → Ext σ τ → R (.returned (.tuple #[.pointer (some ⟨s, 0, none⟩), .pointer (some ⟨sb, 0, none⟩)])) σ') :
   Spec prog 10 #[F4 e p n c] σ R := by
 refine MU.start fun _ => Ry fun d σ1 S1 TD BM => ⟨_, rfl, ?_⟩
 have h1 : Ai σ1 d ⟨fun _ => none, true, false, 0⟩ σ := ⟨S1, TD, BM⟩
 refine Xu h1 ht rfl rfl rfl (fun _ => rfl) fun s b σ2 W FF h2 Bt JY => ⟨_, _, rfl, fun Ro AMb => ?_⟩
 refine VH (τ := σ2) (q := none) (c := 0) (num := 0) AMb fun sb σ3 mW => ⟨_, _, rfl, ?_⟩
 obtain ⟨wb, db, q, cq, num, ρ, rfl, hs, hw, hd, n1, n2, n3, hx⟩ := mW
 have hN : ∀ {S W D : Obj}, (names [(sb, S), (wb, W), (db, D)]).Nodup := nd3 n1 n2 n3
 have h3 := h2.mono hx
 refine Spec.CD hN (Uz.2 ⟨hs, hw, hd⟩) (Oj (hr.Qv h3.ext) Aq.small he ⟨fun hb => absurd Aq hb, fun _ p1 n1' c1 ρ1 Fm AMc gx => ⟨_, _, _, _, rfl, fun hh => (by cases hh), fun _ => ⟨fun hh => absurd rfl hh, fun _ => ?_⟩⟩⟩)
 obtain ⟨τ1, h4, x4, x4n⟩ := h3.grow AMc
 have O4 : B9 .u8 τ1 p1 n1' (enc e ms) := (AR.rd Fm).mono x4n
 have zk : (enc e ms).length = n1' := O4.1
 have h60 := r4 Aq he
 refine Spec.CD hN gx (mI (K := K) h4 (ht.mono x4) Bt ⟨fun x hx => (by cases hx), fun x => by rw [YA]; decide⟩ hK8 X3 hK O4 (Pa he) h60 (by decide) (by show 0 + 1 < _; decide) (fun hh => absurd (by rw [YA]) hh) (fun _ ρ2 D2 W2 Ws ts2 h5 dE hs5 hl5 ha5 hc5 _ SA => ⟨_, _, rfl, ?_⟩) fun hh => (by cases hh))
 have hg5 : ∀ k, DW Ws k = if F6 = k then (enc e ms, 1) else ([], 0) := fun k => by
   unfold DW
   rw [hl5 k]
   show (if F6 = k then some (enc e ms, 0 + 1) else CJ [] k).getD ([], 0) = _
   by_cases hk : F6 = k
   · rw [if_pos hk, if_pos hk]; rfl
   · rw [if_neg hk, if_neg hk]; rfl
 obtain ⟨g1, g2, g3⟩ := Uz.1 SA
 refine X7 (τ := ρ2) ⟨wb, db, q, cq, num, ρ2, rfl, g1, g2, g3, n1, n2, n3, .refl _⟩ (O4.mono h5.ext) (Pa he) (by omega) fun a e' σ5 OU => ⟨_, _, rfl, ?_⟩
 refine hR d b s sb σ5 D2 W2 Ws ts2 τ1 (h5.mono OU) dE hs5 ha5 ?_ ?_ ⟨by rw [hg5, if_pos rfl], Aq, Mr, he⟩ hg5 x4
 · have := hc5.1
   simpa using this
 · rcases hc5.2 with h | h
   · simp at h; omega
   · exact h
theorem AFr : Enters prog 103 := fun args w => call103 args w
theorem vB : Enters prog 105 := fun args w => call105 args w
theorem AFs : Enters prog 107 := fun args w => call107 args w
theorem AFt : Enters prog 110 := fun args w => call110 args w
theorem hJ {bd BI : Nat} {qk : Option Addr} (hR : ∀ b3 b4 b5 EB σ', M0 σ' b3 b4 b5 BI bd qk → σ' EB = some (.cells #[(.func (.func 103) #[] #[(.pointer (some ⟨b4, 0, none⟩)), (.pointer (some ⟨b3, 0, none⟩))]), (.func (.func 105) #[] #[(.pointer (some ⟨b3, 0, none⟩)), (.pointer (some ⟨b4, 0, none⟩))]), (.func (.func 107) #[] #[(.pointer (some ⟨b5, 0, none⟩)), (.pointer (some ⟨b3, 0, none⟩)), (.pointer (some ⟨b4, 0, none⟩))]), (.func (.func 110) #[] #[(.pointer (some ⟨b4, 0, none⟩)), (.pointer (some ⟨b3, 0, none⟩)), (.pointer (some ⟨b5, 0, none⟩))])] 123 (0, 0)) → Ext σ σ' → R (.returned (.slice (some ⟨EB, 0, none⟩) 4 4)) σ') :
   Spec prog 47 #[.pointer (some ⟨bd, 0, none⟩), .pointer (some ⟨BI, 0, none⟩), .pointer qk] σ R := by
 refine DO.start fun b3 h3 b4 h4 b5 h5 EB oA => ?_
 have x3 : Ext σ _ := .set h3 (o := .cells #[.pointer (some ⟨bd, 0, none⟩)] 33 (0, 0))
 have x4 := Ext.set h4 (o := .cells #[.pointer (some ⟨BI, 0, none⟩)] 118 (0, 0))
 have x5 := Ext.set h5 (o := .cells #[.pointer qk] 35 (0, 0))
 exact hR b3 b4 b5 EB _ ⟨Ext.set oA _ _ (x5 _ _ (x4 _ _ (Hp.AA _ _ _))), Ext.set oA _ _ (x5 _ _ (Hp.AA _ _ _)), Ext.set oA _ _ (Hp.AA _ _ _)⟩ (Hp.AA _ _ _) (((x3.trans x4).trans x5).trans (.set oA))
end
end TwW
end
section
namespace TwW
open Go Tw Go.RowKit Go.Proofs.Tryz
section
variable {σ σ' τ : Hp} {R : Rr}
def YB (x : ByteArray) (xs : List ByteArray) : Bool := xs.any fun y => decide (x = y)
theorem mj {x : ByteArray} {xs : List ByteArray} : YB x xs = true ↔ x ∈ xs := by simp [YB]
theorem RM {p : Option Addr} {n c : Nat} {x : ByteArray} {xs : List ByteArray} (hr : GP 1 σ p n (xs.map .string)) (h : R (.returned (.bool (YB x xs))) σ) : Spec prog 271 #[.slice p n c, .string x] σ R := by
 have hn : xs.length = n := by have := hr.1; simpa using this
 have FV : n ≤ 4611686018427387904 := hr.2.1
 have key : ∀ i : Int, (0 ≤ i ↔ x ∈ xs) → AB R (CI .i64 fun x7 y => R (.returned (.bool (decide (0 ≤ x7)))) y) (.returned (.int .i64 i)) σ := fun i hi => ⟨i, rfl, by
   dsimp only
   rw [show decide (0 ≤ i) = YB x xs by rw [Bool.eq_iff_iff, mj, decide_eq_true_eq]; exact hi]; exact h⟩
 refine slices_Contains_string.start (slices_Index_string.start ?_)
 suffices H : ∀ d k : Nat, n - k = d → k ≤ n → x ∉ xs.take k → slices_Index_string.NY (AB R (CI .i64 fun x7 y => R (.returned (.bool (decide (0 ≤ x7)))) y)) p n c x n k σ from H n 0 rfl (Nat.zero_le _) (by simp)
 intro d
 induction d with
 | zero =>
   intro k hd hk BX
   refine slices_Index_string.D7 ⟨fun Ag => by omega, fun _ => key (-1) ?_⟩
   rw [List.take_of_length_le (by omega)] at BX
   exact ⟨fun h => absurd h (by decide), fun h => absurd h BX⟩
 | succ d ih =>
   intro k hd hk BX
   have DK : k < n := by omega
   obtain ⟨y, hy⟩ : ∃ y, xs[k]? = some y := ⟨_, List.getElem?_eq_getElem (by omega)⟩
   obtain ⟨b, o, rfl, hl⟩ := GP.at1 hr (k := k) (v := .string y) (by rw [List.getElem?_map, hy]; rfl)
   refine slices_Index_string.D7 ⟨fun _ => ⟨b, o, rfl, by omega, y, by simpa using hl, fun he => key k ⟨fun _ => ?_, fun _ => by omega⟩, fun Ae => ⟨Aa DK FV, ih (k + 1) (by omega) (by omega) ?_⟩⟩, fun FB => by omega⟩
   · rw [rL, decide_eq_true_eq] at he
     rw [he]; exact List.mem_of_getElem? hy
   · rw [rL, decide_eq_false_iff_not] at Ae
     rw [Fa hy]
     rintro (h1 | h1)
     · exact BX h1
     · exact Ae h1
theorem YC {f : Nat} {cap : Array Value} {g : Lb → Bool} {p : Option Addr} {n c : Nat} {ls : List Lb} (Ju : Enters prog f) (hr : Nn σ p n ls) (hn : n ≤ 1000000)
   (hf : ∀ (σ' : Hp) (x : Lb) (R' : Rr), Ext σ σ' → R' (.returned (.bool (g x))) σ' → Spec prog f (#[] ++ #[.agg #[.string x.1, .string x.2]] ++ cap) σ' R')
   (h : ∀ p' n' c' σ', A3 2 G7 (σ.new σ') p' n' c' (ls.filter g) → Ext σ σ' → R (.returned (.slice p' n' c')) σ') : Spec prog 269 #[.slice p n c, .func (.func f) #[] cap] σ R := by
 have rH : ls.length = n := hr.1
 refine DE.start ?_
 suffices H : ∀ d k : Nat, ∀ p5 n5 c5 σ5, n - k = d → k ≤ n → A3 2 G7 (σ.new σ5) p5 n5 c5 ((ls.take k).filter g) → Ext σ σ5 → DE.A4 R (.func (.func f) #[] cap) p5 n5 c5 p n c n k σ5 from H n 0 none 0 0 σ rfl (Nat.zero_le _) A3.nil (.refl _)
 intro d
 induction d with
 | zero =>
   intro k p5 n5 c5 σ5 hd hk ho hx
   refine DE.AW ⟨fun Ag => by omega, fun _ => h p5 n5 c5 σ5 ?_ hx⟩
   rw [List.take_of_length_le (by omega)] at ho; exact ho
 | succ d ih =>
   intro k p5 n5 c5 σ5 hd hk ho hx
   have DK : k < n := by omega
   obtain ⟨x, R0⟩ := hr.ex DK
   obtain ⟨b, o, rfl, hl⟩ := Nn.at hr R0
   have hn5 : n5 ≤ n := by
     have h1 := ho.1
     have h2 := List.length_filter_le g (ls.take k)
     rw [List.length_take] at h2
     omega
   have ht : (ls.take (k + 1)).filter g = (ls.take k).filter g ++ if g x then [x] else [] := by
     rw [AO R0, List.filter_append]
     by_cases hg : g x <;> simp [hg]
   refine DE.AW ⟨fun _ => ⟨b, o, rfl, by omega, x.1, x.2, by simpa using hl.mono hx, fun _ => ⟨f, #[], cap, rfl, Ju, hf σ5 x _ hx ⟨_, rfl, fun hg UL AMd => ?_, fun hg => ?_⟩⟩⟩, fun hh => by omega⟩
   · refine A3.H7 G7.mono (vs := [.string x.1, .string x.2]) (x := x) hx ho rfl (G7.one σ _ _ rfl) rfl (by omega) (fun p' c' σ' Em Ci => ⟨_, _, _, rfl, DE.Fe ⟨Aa DK hr.big, ih (k + 1) _ _ _ _ (by omega) (by omega) ?_ Ci⟩⟩) AMd
     rw [ht, if_pos hg]; exact Em
   · refine DE.Fe ⟨Aa DK hr.big, ih (k + 1) _ _ _ _ (by omega) (by omega) ?_ hx⟩
     rw [ht, if_neg (by simp [hg]), List.append_nil]; exact ho
theorem AFu : Enters prog 270 := fun args w => call270 args w
theorem VI {p q : Option Addr} {n c m d : Nat} {ls : List Lb} {ns : List ByteArray} (hr : Nn σ p n ls) (hn : n ≤ 1000000) (hs : GP 1 σ q m (ns.map .string))
   (h : ∀ p' n' c' σ', A3 2 G7 (σ.new σ') p' n' c' (ls.filter fun x => !YB x.1 ns) → Ext σ σ' → R (.returned (.slice p' n' c')) σ') : Spec prog 194 #[.slice p n c, .slice q m d] σ R := by
 refine LD.start fun b3 Ul => ?_
 have C6 : Ext σ (σ.set b3 (.cells #[.slice q m d] 97 (0, 0))) := .set Ul
 refine YC (f := 270) (g := fun x => !YB x.1 ns) AFu (hr.mono G7.mono C6) hn (fun σ' x R' hx hR' => ?_) fun p' n' c' σ' ho hx => ⟨_, _, _, rfl, h p' n' c' σ' ?_ (C6.trans hx)⟩
 · refine JU.start fun _ => ⟨q, m, d, AD (hx _ _ (Hp.AA _ _ _)) rfl, RM (hs.mono (C6.trans hx)) ⟨_, rfl, hR'⟩⟩
 · exact ho.mono G7.mono (Ext.Cm C6)
def HL : ByteArray := ⟨#[99, 108, 117, 115, 116, 101, 114]⟩
def C4 : ByteArray := ⟨#[114, 101, 112, 108, 105, 99, 97]⟩
abbrev A2 : ByteArray := ⟨#[]⟩
def El : List Sm → Option (ByteArray × ByteArray)
 | [] => none
 | s :: l => if A8 s.ls C4 ≠ A2 then some (A8 s.ls HL, A8 s.ls C4) else El l
def DA (s : Sm) : Bool := decide (A8 s.ls HL ≠ A2) && decide (A8 s.ls C4 ≠ A2)
def Hb (s : Sm) : Sm := ⟨s.ls.filter fun x => !YB x.1 [C4], s.t, s.v⟩
theorem RN {l : List Sm} {s : Sm} : El (l ++ [s]) = (El l).or (if A8 s.ls C4 ≠ A2 then some (A8 s.ls HL, A8 s.ls C4) else none) := by
 induction l with
 | nil => simp [El]
 | cons a l ih =>
   rw [List.cons_append, El, El]
   by_cases h : A8 a.ls C4 ≠ A2
   · rw [if_pos h, if_pos h]; rfl
   · rw [if_neg h, if_neg h, ih]
abbrev L4 (b6 b7 b8 b9 : Nat) (cl re : ByteArray) (sm al : Bool) : List (Nat × Obj) :=
 [(b9, .cells #[.bool al] 4 (0, 0)), (b8, .cells #[.bool sm] 4 (0, 0)), (b7, .cells #[.string re] 9 (0, 0)), (b6, .cells #[.string cl] 9 (0, 0))]
theorem hX {b6 b7 b8 b9 : Nat} {cl re : ByteArray} {sm al : Bool} {q : Option Addr} {k c : Nat} {s : Sm} (hN : [b9, b8, b7, b6].Nodup) (hO : ∀ b ∈ [b9, b8, b7, b6], τ b = none) (hq : Nn τ q k s.ls)
   (hR : R (.returned (.tuple #[])) (AX τ (L4 b6 b7 b8 b9 (if sm = false ∧ A8 s.ls C4 ≠ A2 then A8 s.ls HL else cl) (if sm = false ∧ A8 s.ls C4 ≠ A2 then A8 s.ls C4 else re) (sm || decide (A8 s.ls C4 ≠ A2)) (al && DA s)))) :
   Spec prog 193 #[.agg #[.slice q k c, .int .i64 s.t, .int .u64 s.v], .pointer (some ⟨b8, 0, none⟩), .pointer (some ⟨b6, 0, none⟩), .pointer (some ⟨b7, 0, none⟩), .pointer (some ⟨b9, 0, none⟩)] (AX τ (L4 b6 b7 b8 b9 cl re sm al)) R := by
 have hn : ∀ {cl re sm al}, (names (L4 b6 b7 b8 b9 cl re sm al)).Nodup := hN
 have hx : Ext τ (AX τ (L4 b6 b7 b8 b9 cl re sm al)) := HP.ext hn hO
 have hq' := hq.mono G7.mono hx
 refine I9.start fun _ => Fg (k := HL) hq' ⟨_, rfl, Fg (k := C4) hq' ⟨_, rfl, sm, Hv (i := 1) hn rfl rfl, ?_⟩⟩
 have e1 : ∀ s : ByteArray, (s.toList == (ByteArray.mk #[]).toList) = decide (s = A2) := fun _ => rL
 have fin : ∀ cl' re' sm', R (.returned (.tuple #[])) (AX τ (L4 b6 b7 b8 b9 cl' re' sm' (al && DA s))) → I9.A4 R b9 (A8 s.ls HL) (A8 s.ls C4) (AX τ (L4 b6 b7 b8 b9 cl' re' sm' al)) := fun cl' re' sm' h => by
   refine I9.AW ⟨al, Hv (i := 0) hn rfl rfl, fun ha => ?_, fun ha => ?_⟩
   · subst ha
     rw [e1, e1]
     refine ⟨fun h1 => ?_, fun h1 => ?_⟩
     · refine AJ.B1 (i := 0) (c := #[.bool true]) (c' := #[.bool (!decide (A8 s.ls C4 = A2))]) JZ hn rfl rfl rfl rfl rfl ?_
       rw [decide_eq_false_iff_not] at h1
       have : (true && DA s) = !decide (A8 s.ls C4 = A2) := by unfold DA; simp [h1]
       rw [this] at h; exact h
     · refine AJ.B1 (i := 0) (c := #[.bool true]) (c' := #[.bool false]) JZ hn rfl rfl rfl rfl rfl ?_
       rw [decide_eq_true_eq] at h1
       have : (true && DA s) = false := by unfold DA; simp [h1]
       rw [this] at h; exact h
   · subst ha
     refine AJ.B1 (i := 0) (c := #[.bool false]) (c' := #[.bool false]) JZ hn rfl rfl rfl rfl rfl ?_
     simpa using h
 refine ⟨fun hs => ?_, fun hs => ?_⟩
 · subst hs
   rw [e1]
   refine ⟨fun h1 => ?_, fun h1 => ?_⟩
   · rw [decide_eq_false_iff_not] at h1
     refine AJ.B1 (i := 3) (c := #[.string cl]) (c' := #[.string (A8 s.ls HL)]) sizeOf9 hn rfl rfl rfl rfl rfl ?_
     refine AJ.B1 (L := L4 b6 b7 b8 b9 (A8 s.ls HL) re false al) (i := 2) (c := #[.string re]) (c' := #[.string (A8 s.ls C4)]) sizeOf9 hn rfl rfl rfl rfl rfl ?_
     refine AJ.B1 (L := L4 b6 b7 b8 b9 (A8 s.ls HL) (A8 s.ls C4) false al) (i := 1) (c := #[.bool false]) (c' := #[.bool true]) JZ hn rfl rfl rfl rfl rfl ?_
     refine fin _ _ true ?_
     rw [if_pos ⟨rfl, h1⟩, if_pos ⟨rfl, h1⟩, decide_eq_true h1] at hR
     exact hR
   · rw [decide_eq_true_eq] at h1
     refine fin _ _ false ?_
     rw [if_neg (by simp [h1]), if_neg (by simp [h1]), decide_eq_false (by simp [h1])] at hR
     exact hR
 · subst hs
   refine fin _ _ true ?_
   rw [if_neg (by simp), if_neg (by simp), Bool.true_or] at hR
   exact hR
theorem AFv : Enters prog 193 := fun args w => call193 args w
theorem bD {p : Option Addr} {n c : Nat} {ss : List Sm} (hr : GG σ p n ss) (hn : n ≤ 256) (Ky : ∀ s ∈ ss, GH s.ls)
   (ml : El ss = none → ∀ q m d σ', A3 3 Hq (σ.new σ') q m d ss → Ext σ σ' → R (.returned (.tuple #[.string A2, .string A2, .slice q m d, .int .i64 0])) σ')
   (mn : ∀ cl re, El ss = some (cl, re) → (∀ s ∈ ss, A8 s.ls HL = cl ∧ A8 s.ls C4 = re) → ∀ q m d σ', A3 3 Hq (σ.new σ') q m d (ss.map Hb) → Ext σ σ' → R (.returned (.tuple #[.string cl, .string re, .slice q m d, .int .i64 0])) σ')
   (mo : ∀ cl re, El ss = some (cl, re) → ¬ (ss.all DA = true ∧ ∀ s ∈ ss, A8 s.ls HL = cl ∧ A8 s.ls C4 = re) → R (.returned (.tuple #[.string A2, .string A2, .slice none 0 0, .int .i64 160])) σ) :
   Spec prog 106 #[.slice p n c] σ R := by
 have rH : ss.length = n := hr.1
 refine Spec.drop (Cy.start fun b6 h6 b7 h7 b8 h8 b9 h9 => ?_)
 obtain ⟨n76, h7'⟩ := Hp.AM h7
 obtain ⟨n87, h8'⟩ := Hp.AM h8
 obtain ⟨n86, AMg⟩ := Hp.AM h8'
 obtain ⟨n98, h9'⟩ := Hp.AM h9
 obtain ⟨n97, AMh⟩ := Hp.AM h9'
 obtain ⟨n96, AFw⟩ := Hp.AM AMh
 have hN : [b9, b8, b7, b6].Nodup := by simp [n98, n97, n96, n87, n86, n76]
 have Yi : ∀ {cl re sm al}, (names (L4 b6 b7 b8 b9 cl re sm al)).Nodup := hN
 have zP : ∀ b ∈ [b9, b8, b7, b6], σ b = none := fun b hb => by
   simp only [List.mem_cons, List.not_mem_nil, or_false] at hb
   rcases hb with rfl | rfl | rfl | rfl
   · exact AFw
   · exact AMg
   · exact h7'
   · exact h6
 have VY : ∀ {ρ : Hp} {cl re sm al}, (∀ b ∈ [b9, b8, b7, b6], ρ b = none) → Ext ρ (AX ρ (L4 b6 b7 b8 b9 cl re sm al)) := fun h => HP.ext Yi h
 show AJ prog (Instr.storeAt 9 (.pointer (aD b6 0)) (.string A2)) (AX σ (L4 b6 b7 b8 b9 A2 A2 false false)) _
 refine AJ.B1 (i := 3) (c := #[.string A2]) (c' := #[.string A2]) sizeOf9 Yi rfl rfl rfl rfl rfl ?_
 refine AJ.B1 (L := L4 b6 b7 b8 b9 A2 A2 false false) (i := 2) (c := #[.string A2]) (c' := #[.string A2]) sizeOf9 Yi rfl rfl rfl rfl rfl ?_
 refine AJ.B1 (L := L4 b6 b7 b8 b9 A2 A2 false false) (i := 1) (c := #[.bool false]) (c' := #[.bool false]) JZ Yi rfl rfl rfl rfl rfl ?_
 refine AJ.B1 (L := L4 b6 b7 b8 b9 A2 A2 false false) (i := 0) (c := #[.bool false]) (c' := #[.bool true]) JZ Yi rfl rfl rfl rfl rfl ?_
 show Cy.Gp (Drop R) p n c b6 b7 b8 b9 _ p n c n 0 (AX σ (L4 b6 b7 b8 b9 A2 A2 false true))
 let cl : List Sm → ByteArray := fun l => ((El l).map (·.1)).getD A2
 let re : List Sm → ByteArray := fun l => ((El l).map (·.2)).getD A2
 let sm : List Sm → Bool := fun l => (El l).isSome
 suffices H1 : ∀ d k : Nat, n - k = d → k ≤ n → Cy.Gp (Drop R) p n c b6 b7 b8 b9 (.func (.func 193) #[] #[.pointer (some ⟨b8, 0, none⟩), .pointer (some ⟨b6, 0, none⟩), .pointer (some ⟨b7, 0, none⟩), .pointer (some ⟨b9, 0, none⟩)]) p n c n k (AX σ (L4 b6 b7 b8 b9 (cl (ss.take k)) (re (ss.take k)) (sm (ss.take k)) ((ss.take k).all DA))) from H1 n 0 rfl (Nat.zero_le _)
 intro d
 induction d with
 | succ d ih =>
   intro k hd hk
   have DK : k < n := by omega
   obtain ⟨s, hs⟩ := hr.ex DK
   obtain ⟨b, o, q, kq, cq, rfl, hl, hq⟩ := GG.at hr hs
   refine Cy.Fb ⟨fun _ => ⟨b, o, rfl, by omega, q, kq, cq, s.t, s.v, by simpa using hl.mono (VY zP), fun _ => ⟨193, #[], _, rfl, AFv, hX hN zP hq ⟨rfl, Aa DK hr.big, ?_⟩⟩⟩, fun hh => by omega⟩
   have := ih (k + 1) (by omega) (by omega)
   have e0 : ss.take (k + 1) = ss.take k ++ [s] := AO hs
   have e1 : cl (ss.take (k + 1)) = (if sm (ss.take k) = false ∧ A8 s.ls C4 ≠ A2 then A8 s.ls HL else cl (ss.take k)) := by
     simp only [cl, sm, e0, RN]
     cases El (ss.take k) with
     | some x => simp
     | none => by_cases h : A8 s.ls C4 = A2 <;> simp [h]
   have e2 : re (ss.take (k + 1)) = (if sm (ss.take k) = false ∧ A8 s.ls C4 ≠ A2 then A8 s.ls C4 else re (ss.take k)) := by
     simp only [re, sm, e0, RN]
     cases El (ss.take k) with
     | some x => simp
     | none => by_cases h : A8 s.ls C4 = A2 <;> simp [h]
   have e3 : sm (ss.take (k + 1)) = (sm (ss.take k) || decide (A8 s.ls C4 ≠ A2)) := by
     simp only [sm, e0, RN]
     cases El (ss.take k) with
     | some x => simp
     | none => by_cases h : A8 s.ls C4 = A2 <;> simp [h]
   have e4 : (ss.take (k + 1)).all DA = ((ss.take k).all DA && DA s) := by rw [e0]; simp
   rw [e1, e2, e3, e4] at this
   exact this
 | zero =>
   intro k hd hk
   have Pd : n = k := by omega
   subst Pd
   rw [List.take_of_length_le (by omega)]
   refine Cy.Fb ⟨fun Ag => by omega, fun _ => ?_⟩
   let out : Sm → Sm := fun s => if sm ss then Hb s else s
   have iu : ∀ {ρ : Hp} {a1 a2 a3 a4}, Hp.ld (AX ρ (L4 b6 b7 b8 b9 a1 a2 a3 a4)) ⟨b8, 0, none⟩ = some (.bool a3) ∧ Hp.ld (AX ρ (L4 b6 b7 b8 b9 a1 a2 a3 a4)) ⟨b9, 0, none⟩ = some (.bool a4) ∧ Hp.ld (AX ρ (L4 b6 b7 b8 b9 a1 a2 a3 a4)) ⟨b6, 0, none⟩ = some (.string a1) ∧ Hp.ld (AX ρ (L4 b6 b7 b8 b9 a1 a2 a3 a4)) ⟨b7, 0, none⟩ = some (.string a2) :=
     ⟨Hv (i := 1) Yi rfl rfl, Hv (i := 0) Yi rfl rfl, Hv (i := 3) Yi rfl rfl, Hv (i := 2) Yi rfl rfl⟩
   have bad : ∀ (ρ : Hp), Ext σ ρ → (∀ b ∈ [b9, b8, b7, b6], ρ b = none) → sm ss = true → ¬ (ss.all DA = true ∧ ∀ s ∈ ss, A8 s.ls HL = cl ss ∧ A8 s.ls C4 = re ss) → Drop R (.returned (.tuple #[.string A2, .string A2, .slice none 0 0, .int .i64 160])) (AX ρ (L4 b6 b7 b8 b9 (cl ss) (re ss) (sm ss) (ss.all DA))) := fun ρ hx ho h1 h2 => by
     cases hf : El ss with
     | none => simp [sm, hf] at h1
     | some x => exact .mk (hx.trans (VY ho)) (mo x.1 x.2 hf (by simpa [cl, re, hf] using h2))
   suffices H2 : ∀ d k : Nat, ∀ p3 c3 σ3, n - k = d → k ≤ n → (∀ b ∈ [b9, b8, b7, b6], σ3 b = none) → A3 3 Hq (σ.new σ3) p3 k c3 ((ss.take k).map out) → Ext σ σ3 → (sm ss = true → ss.all DA = true ∨ k = 0) → (sm ss = true → ∀ s ∈ ss.take k, A8 s.ls HL = cl ss ∧ A8 s.ls C4 = re ss) →
       Cy.qG (Drop R) b6 b7 b8 b9 p3 k c3 p n c n k (AX σ3 (L4 b6 b7 b8 b9 (cl ss) (re ss) (sm ss) (ss.all DA))) from H2 n 0 none 0 σ rfl (Nat.zero_le _) zP A3.nil (.refl _) (fun _ => .inr rfl) (fun _ s hs => by simp at hs)
   intro d
   induction d with
   | zero =>
     intro k p3 c3 σ3 hd hk r5 ho hx h1 h2
     have Pd : k = n := by omega
     subst Pd
     rw [List.take_of_length_le (by omega)] at ho h2
     refine Cy.ca ⟨fun Ag => by omega, fun _ => ⟨_, iu.2.2.1, _, iu.2.2.2, ?_⟩⟩
     cases hf : El ss with
     | none =>
       have e1 : cl ss = A2 := by simp [cl, hf]
       have e2 : re ss = A2 := by simp [re, hf]
       have e3 : ss.map out = ss := by
         have : out = id := by funext s; simp [out, sm, hf]
         rw [this, List.map_id]
       rw [e3] at ho
       rw [e1, e2]
       exact .mk (VY r5) (ml hf p3 k c3 σ3 ho hx)
     | some x =>
       have AFx : sm ss = true := by simp [sm, hf]
       have e1 : cl ss = x.1 := by simp [cl, hf]
       have e2 : re ss = x.2 := by simp [re, hf]
       have e3 : ss.map out = ss.map Hb := by
         have : out = Hb := by funext s; simp [out, AFx]
         rw [this]
       rw [e3] at ho
       have fR := h2 AFx
       rw [e1, e2] at fR ⊢
       exact .mk (VY r5) (mn x.1 x.2 hf fR p3 k c3 σ3 ho hx)
   | succ d ih =>
     intro k p3 c3 σ3 hd hk r5 ho hx h1 h2
     have DK : k < n := by omega
     obtain ⟨s, hs⟩ := hr.ex DK
     have rj := Ky s (List.mem_of_getElem? hs)
     obtain ⟨b, o, q, kq, cq, rfl, hl, hq⟩ := GG.at hr hs
     have hql : s.ls.length = kq := hq.1
     have ff := rj.1
     have hqL : ∀ {a1 a2 a3 a4}, Nn (AX σ3 (L4 b6 b7 b8 b9 a1 a2 a3 a4)) q kq s.ls := (hq.mono G7.mono hx).mono G7.mono (VY r5)
     have hnL : ∀ {a1 a2 a3 a4}, names (L4 b6 b7 b8 b9 a1 a2 a3 a4) = [b9, b8, b7, b6] := rfl
     have put : ∀ (σ5 : Hp) (q5 : Option Addr) (m5 d5 : Nat), Ext σ3 σ5 → (∀ b ∈ [b9, b8, b7, b6], σ5 b = none) → A3 2 G7 (σ3.new σ5) q5 m5 d5 (out s).ls → (sm ss = true → ss.all DA = true) → (sm ss = true → A8 s.ls HL = cl ss ∧ A8 s.ls C4 = re ss) →
         Cy.QG (Drop R) b6 b7 b8 b9 p3 k c3 q5 m5 d5 s.t s.v (aD b o) n c n k (AX σ5 (L4 b6 b7 b8 b9 (cl ss) (re ss) (sm ss) (ss.all DA))) := by
       intro σ5 q5 m5 d5 OU hO5 hq5 ha hg
       refine Cy.qJ fun b65 AMj => ?_
       obtain ⟨aK, AFy⟩ := By AMj
       rw [DC aK]
       have AFz : A3 3 Hq (σ.new σ5) p3 k c3 ((ss.take k).map out) := ho.mono Hq.mono (Ext.BN OU)
       have Yg : ∀ a, p3 = some a → σ3 a.block ≠ none := fun a hpa => by
         have := ho.block a hpa
         cases hh : (σ.new σ3) a.block with
         | none => exact absurd hh this
         | some oo => rw [(AS.1 hh).2]; simp
       have Ck : Ext (σ3.new σ5) ((σ.new σ5).del p3) := Ext.Gj hx Yg
       have rb : (out s).t = s.t ∧ (out s).v = s.v := by
         simp only [out]
         split <;> exact ⟨rfl, rfl⟩
       have he : Hq ((σ.new σ5).del p3) [.slice q5 m5 d5, .int .i64 s.t, .int .u64 s.v] (out s) := ⟨q5, m5, d5, by rw [rb.1, rb.2], (hq5.rd G7.mono).mono G7.mono Ck⟩
       refine AJ.CD Yi (HP.set (L := L4 b6 b7 b8 b9 (cl ss) (re ss) (sm ss) (ss.all DA)) hO5 aK) (A3.H7 Hq.mono (hx.trans OU) AFz rfl (Hq.one _ _ _ he) he (by omega) (fun p' c' σ6 ho6 L8 AMk => ⟨_, _, _, rfl, Aa DK hr.big, ih (k + 1) p' c' σ6 (by omega) (by omega) AMk ?_ L8 (fun h => .inl (ha h)) fun h s' Hu => ?_⟩) AFy)
       · rw [AO hs, List.map_append]; exact ho6
       · rw [AO hs] at Hu
         rcases List.mem_append.1 Hu with Hu | Hu
         · exact h2 h s' Hu
         · simp at Hu; subst Hu; exact hg h
     have go : (sm ss = true → ss.all DA = true) → (sm ss = true → A8 s.ls HL = cl ss ∧ A8 s.ls C4 = re ss) → Al (AX σ3 (L4 b6 b7 b8 b9 (cl ss) (re ss) (sm ss) (ss.all DA))) fun kW => AJ prog (Builtin.append_ #[22, 22] 22 #[(.slice (aD kW 0) 0 0), .slice q kq cq]) (Hp.set (AX σ3 (L4 b6 b7 b8 b9 (cl ss) (re ss) (sm ss) (ss.all DA))) kW (.cells #[] 61 (0, 0))) (CS fun qH nj qI y => LB y b8 0 fun t57 => Bo t57 (Al y fun Rc => Spec prog 194 #[.slice qH nj qI, (.slice (aD Rc 0) 1 1)] (Hp.set y Rc (.cells #[(.string (ByteArray.mk #[114, 101, 112, 108, 105, 99, 97]))] 9 (0, 0))) (AB (Drop R) (CS fun w5 n61 sx AI => Cy.QG (Drop R) b6 b7 b8 b9 p3 k c3 w5 n61 sx s.t s.v (aD b o) n c n k AI))) (Cy.QG (Drop R) b6 b7 b8 b9 p3 k c3 qH nj qI s.t s.v (aD b o) n c n k y)) := by
       intro ha hg kW AMl
       obtain ⟨aK, AF0⟩ := By AMl
       rw [DC aK]
       refine AJ.CD Yi (HP.set (L := L4 b6 b7 b8 b9 (cl ss) (re ss) (sm ss) (ss.all DA)) r5 aK) (TO (hq.mono G7.mono hx) (by omega) (fun q4 c4 σ4 OS LW AF1 => ⟨_, _, _, rfl, sm ss, iu.1, fun ht => ?_, fun ht => ?_⟩) AF0)
       · intro Rc zH
         obtain ⟨uz, df⟩ := By zH
         show Spec prog 194 _ ((AX σ4 _).set Rc (.cells #[.string C4] 9 (0, 0))) _
         rw [DC uz]
         have zQ : Ext σ4 (σ4.set Rc (.cells #[.string C4] 9 (0, 0))) := .set df
         refine Spec.CD Yi (HP.set (L := L4 b6 b7 b8 b9 (cl ss) (re ss) (sm ss) (ss.all DA)) AF1 uz) (VI (ns := [C4]) (((OS.rd G7.mono).mono G7.mono (Ext.Af _ _)).mono G7.mono zQ) (by omega) ⟨rfl, by omega, .inr ⟨Rc, 0, rfl, ⟨AD (Hp.AA _ _ _) rfl, trivial⟩⟩⟩ fun q5 m5 c5 σ5 dE OU AMm => ⟨_, _, _, rfl, ?_⟩)
         refine put σ5 q5 m5 c5 ((LW.trans zQ).trans OU) AMm ?_ ha hg
         have e : (out s).ls = s.ls.filter fun x => !YB x.1 [C4] := by simp only [out]; rw [if_pos ht]; rfl
         rw [e]
         exact dE.mono G7.mono (Ext.Cm (LW.trans zQ))
       · refine put σ4 q4 kq c4 LW AF1 ?_ ha hg
         have e : (out s).ls = s.ls := by simp only [out]; rw [if_neg (by simp [ht])]
         rw [e]; exact OS
     have C2 : s ∈ ss := List.mem_of_getElem? hs
     refine Cy.ca ⟨fun _ => ⟨b, o, rfl, by omega, q, kq, cq, s.t, s.v, by simpa using hl.mono (hx.trans (VY r5)), fun _ => ⟨sm ss, iu.1, fun ht => ⟨ss.all DA, iu.2.1, fun ha => bad σ3 hx r5 ht fun hh => (by rw [hh.1] at ha; cases ha), fun ha => ⟨cl ss, iu.2.2.1, ?_⟩⟩, fun ht => go (fun h => by rw [ht] at h; cases h) fun h => by rw [ht] at h; cases h⟩⟩, fun hh => by omega⟩
     refine Fg (k := HL) hqL ⟨_, rfl, Kp.CA (.refl _), fun Ae => ?_, fun heq => ⟨re ss, iu.2.2.2, Fg (k := C4) hqL ⟨_, rfl, Kp.CA (.refl _), fun Ae => ?_, fun AF2 => ?_⟩⟩⟩
     · rw [rL, decide_eq_false_iff_not] at Ae
       exact bad σ3 hx r5 ht fun hh => Ae (hh.2 s C2).1
     · rw [rL, decide_eq_false_iff_not] at Ae
       exact bad σ3 hx r5 ht fun hh => Ae (hh.2 s C2).2
     · rw [rL, decide_eq_true_eq] at heq AF2
       exact go (fun _ => ha) fun _ => ⟨heq, AF2⟩
end
end TwW
end
section
namespace TwW
open Go Tw Go.RowKit Go.Proofs.Tryz
section
variable {σ σ' τ : Hp} {R : Rr}
variable {b3 b4 b5 BI bd md : Nat} {qk : Option Addr} {rf fo re now : Int} {ha : Bool} {ten : ByteArray} {p : Option Addr} {n c : Nat} {ss : List Sm}
theorem bE (h5 : M0 τ b3 b4 b5 BI bd qk) (hd : τ bd = some (Im rf fo re true md)) (hb : τ BI = none) (hs : GG τ p n ss) (hn : n ≤ 256) (Ky : ∀ s ∈ ss, GH s.ls)
   (ml : El ss = none → ∀ q m d τ', A3 3 Hq (τ.new τ') q m d ss → Ext τ τ' → τ' BI = none → R (.returned (.int .i64 0)) (τ'.set BI (Bg ten A2 A2 q m d now none)))
   (mn : ∀ cl rep, El ss = some (cl, rep) → (∀ s ∈ ss, A8 s.ls HL = cl ∧ A8 s.ls C4 = rep) → ∀ q m d τ', A3 3 Hq (τ.new τ') q m d (ss.map Hb) → Ext τ τ' → τ' BI = none → R (.returned (.int .i64 0)) (τ'.set BI (Bg ten cl rep q m d now none)))
   (mo : ∀ cl rep, El ss = some (cl, rep) → ¬ (ss.all DA = true ∧ ∀ s ∈ ss, A8 s.ls HL = cl ∧ A8 s.ls C4 = rep) → ∀ τ', Ext τ τ' → R (.returned (.int .i64 3)) τ') :
   Spec prog 105 #[.pointer (some ⟨b3, 0, none⟩), .pointer (some ⟨b4, 0, none⟩)] (τ.set BI (Bg ten A2 A2 p n c now none)) R := by
 have hx : ∀ {o : Obj}, Ext τ (τ.set BI o) := .set hb
 refine Bc.start ⟨_, AD (hx _ _ h5.e3) rfl, bd, 0, rfl, true, AD (hx _ _ hd) rfl, fun h => (by cases h), fun _ => ⟨_, AD (hx _ _ h5.e4) rfl, _, AD (hx _ _ h5.e4) rfl, _, AD (hx _ _ h5.e4) rfl, _, AD (hx _ _ h5.e4) rfl, BI, 0, rfl, p, n, c, Ad rfl, ?_⟩⟩
 have kp : ∀ {τ' : Hp} {o o' : Obj} {L : List Nat}, Ext τ τ' → (∀ k ∈ L, k = b4) → Kp L (τ.set BI o) (τ'.set BI o') := fun Ci hL k hk u hu => by
   rw [hL k hk] at hu ⊢
   have Ae : b4 ≠ BI := fun e => by have := h5.e4; rw [e, hb] at this; cases this
   rw [Hp.AH Ae] at hu ⊢
   exact Ci _ _ hu
 have kp2 : ∀ {τ' : Hp} {o o' : Obj} {L : List Nat}, Ext τ τ' → τ' BI = none → (∀ k ∈ L, k = b4) → Kp L (τ'.set BI o) (τ'.set BI o') := fun Ci Jn hL k hk u hu => by
   rw [hL k hk] at hu ⊢
   have Ae : b4 ≠ BI := fun e => by have := h5.e4; rw [e, hb] at this; cases this
   rw [Hp.AH Ae] at hu ⊢
   exact hu
 have st : ∀ (τ' : Hp) (cl rep : ByteArray) (q : Option Addr) (m d : Nat) (e : Int), Ext τ τ' → τ' BI = none → (e = 0 → R (.returned (.int .i64 0)) (τ'.set BI (Bg ten cl rep q m d now none))) → (e ≠ 0 → R (.returned (.int .i64 3)) (τ'.set BI (Bg ten cl rep q m d now none))) →
     Kp [b4, b4, b4] (τ.set BI (Bg ten A2 A2 p n c now none)) (τ'.set BI (Bg ten A2 A2 p n c now none)) ∧ Pq (some ⟨BI, 0, none⟩) fun M5 cH => AJ prog (Instr.storeAt 9 (.pointer (aD M5 (cH + 1))) (.string cl)) (τ'.set BI (Bg ten A2 A2 p n c now none)) (fun _ AI => Kp [b4, b4] (τ'.set BI (Bg ten A2 A2 p n c now none)) AI ∧ Pq (some ⟨BI, 0, none⟩) fun PQ o26 => AJ prog (Instr.storeAt 9 (.pointer (aD PQ (o26 + 2))) (.string rep)) AI (fun _ AZ => Kp [b4] AI AZ ∧ Pq (some ⟨BI, 0, none⟩) fun QA br => AJ prog (Instr.storeAt 46 (.pointer (aD QA (br + 3))) (.slice q m d)) AZ (fun _ Av => Br (e ≠ 0) (R (.returned (.int .i64 3)) Av) (R (.returned (.int .i64 0)) Av)))) := by
   intro τ' cl rep q m d e Ci Jn h0 h1
   have e1 : (Obj.cells (DT #[.string ten, .string A2, .string A2, .slice p n c, .int .i64 now, .pointer none] (0 + 1) (Value.string cl).cells.toList) 120 (0, 0)) = Bg ten cl A2 p n c now none := by simp [DT, Value.cells, Bg]
   have e2 : (Obj.cells (DT #[.string ten, .string cl, .string A2, .slice p n c, .int .i64 now, .pointer none] (0 + 2) (Value.string rep).cells.toList) 120 (0, 0)) = Bg ten cl rep p n c now none := by simp [DT, Value.cells, Bg]
   have e3 : (Obj.cells (DT #[.string ten, .string cl, .string rep, .slice p n c, .int .i64 now, .pointer none] (0 + 3) (Value.slice q m d).cells.toList) 120 (0, 0)) = Bg ten cl rep q m d now none := by simp [DT, Value.cells, Bg]
   refine ⟨kp Ci (by simp), BI, 0, rfl, ?_⟩
   refine AJ.store sizeOf9 (Hp.AA _ _ _) rfl (by simp) (by simp [Value.cells, Value.oneCell']) ?_
   rw [Hp.set_set, e1]
   refine ⟨kp2 Ci Jn (by simp), BI, 0, rfl, ?_⟩
   refine AJ.store sizeOf9 (Hp.AA _ _ _) rfl (by simp) (by simp [Value.cells, Value.oneCell']) ?_
   rw [Hp.set_set, e2]
   refine ⟨kp2 Ci Jn (by simp), BI, 0, rfl, ?_⟩
   refine AJ.store sizeOf46 (Hp.AA _ _ _) rfl (by simp) (by simp [Value.cells, Value.oneCell']) ?_
   rw [Hp.set_set, e3]
   exact ⟨h1, fun h => h0 (Decidable.not_not.1 h)⟩
 refine Spec.B6 hb (bD hs hn Ky (fun hf q m d τ' ho Ci Jn => ⟨_, _, _, _, _, _, rfl, ?_⟩) (fun cl rep hf D3 q m d τ' ho Ci Jn => ⟨_, _, _, _, _, _, rfl, ?_⟩) fun cl rep hf BX Jn => ⟨_, _, _, _, _, _, rfl, ?_⟩)
 · exact st τ' _ _ q m d 0 Ci Jn (fun _ => ml hf q m d τ' ho Ci Jn) fun h => absurd rfl h
 · exact st τ' cl rep q m d 0 Ci Jn (fun _ => mn cl rep hf D3 q m d τ' ho Ci Jn) fun h => absurd rfl h
 · exact st τ A2 A2 none 0 0 160 (.refl _) Jn (fun h => by cases h) fun _ => mo cl rep hf BX _ hx
theorem RO {dk bb bk : Nat} {D : Dk} {W : Wl} {rows : List CM} {κ : Hp} {e : Nat} {ms : List Mem} {rk : Nat}
   (hd : σ bd = some (Im rf fo re ha md)) (hk : Hs σ dk bb bk D W rows κ) (hu : D.up = true) (ht : Tr (DW rows F6).1 e ms) (gN : 1 ≤ rf) (ri : rf ≤ 5) (mW : rf = rk) (RG : rk ≤ (Bz ms).length) (hs : GG σ p n ss)
   (h0 : Ga ten 16 100 ss ≠ 0 → ∀ σ', Ext σ σ' → R (.returned (.tuple #[.pointer none, .int .i64 (R9 (Ga ten 16 100 ss))])) σ')
   (mo : Ga ten 16 100 ss = 0 → ha = true → ∀ cl rep, El ss = some (cl, rep) → ¬ (ss.all DA = true ∧ ∀ s ∈ ss, A8 s.ls HL = cl ∧ A8 s.ls C4 = rep) → ∀ σ', Ext σ σ' → R (.returned (.tuple #[.pointer none, .int .i64 3])) σ')
   (h1 : Ga ten 16 100 ss = 0 → ∀ cl rep dm, (rep = A2 → dm = ss) → (ha = false ∧ rep = A2 ∨ ha = true ∧ El ss = none ∧ rep = A2 ∨ ha = true ∧ El ss = some (cl, rep) ∧ (∀ s ∈ ss, A8 s.ls HL = cl ∧ A8 s.ls C4 = rep) ∧ dm = ss.map Hb) →
     ∀ b3 b4 b5 BI q m d pb σ' mv, M0 σ' b3 b4 b5 BI bd (some ⟨bk, 0, none⟩) → Ext σ σ' → CP (σ.new σ') pb e (rf / 2 + 1) (dm.map (partOf ms rk)) mv (dm.map fun _ => []) (fun _ => none) → σ' BI = some (Bg ten cl rep q m d now (some ⟨pb, 0, none⟩)) → σ BI = none →
     Spec prog 110 #[.pointer (some ⟨b4, 0, none⟩), .pointer (some ⟨b3, 0, none⟩), .pointer (some ⟨b5, 0, none⟩)] σ' (AB R (CI .i64 fun v Ph => (v ≠ 0 → R (.returned (.tuple #[.pointer none, .int .i64 v])) Ph) ∧ (v = 0 → LQ Ph BI 5 fun q => R (.returned (.tuple #[.pointer q, .int .i64 0])) Ph)))) :
   Spec prog 12 #[.pointer (some ⟨bd, 0, none⟩), .string ten, .slice p n c, .int .i64 now, .pointer (some ⟨bk, 0, none⟩)] σ R := by
 have dM : ss.length = n := hs.1
 refine AQ.start fun BI AMn => Spec.B6 AMn (hJ fun b3 b4 b5 EB τ h5 oA hx hn => ⟨_, _, _, rfl, ?_⟩)
 show AQ.A4 R _ _ _ _ _ _ (τ.set BI (Bg ten A2 A2 p n c now none))
 have Wq := hx _ _ hd
 have zR := hs.mono Hq.mono hx
 have Uy : ∀ {o : Obj}, Ext τ (τ.set BI o) := .set hn
 have l11 : ∀ {σ1 : Hp} {j : Nat} {v : Value}, Ext τ σ1 → (#[(.func (.func 103) #[] #[(.pointer (some ⟨b4, 0, none⟩)), (.pointer (some ⟨b3, 0, none⟩))]), (.func (.func 105) #[] #[(.pointer (some ⟨b3, 0, none⟩)), (.pointer (some ⟨b4, 0, none⟩))]), (.func (.func 107) #[] #[(.pointer (some ⟨b5, 0, none⟩)), (.pointer (some ⟨b3, 0, none⟩)), (.pointer (some ⟨b4, 0, none⟩))]), (.func (.func 110) #[] #[(.pointer (some ⟨b4, 0, none⟩)), (.pointer (some ⟨b3, 0, none⟩)), (.pointer (some ⟨b5, 0, none⟩))])] : Array Value)[j]? = some v → Hp.ld σ1 ⟨EB, j, none⟩ = some v := fun h hv => AD (h _ _ oA) hv
 refine AQ.AW ⟨fun _ => ⟨EB, 0, rfl, by omega, _, l11 (j := 0) Uy rfl, 103, #[], _, rfl, AFr, gv h5 Wq hn zR ⟨_, rfl, fun Ae => ?_, fun heq => ⟨by unfold AN; omega, ?_⟩⟩⟩, fun hh => absurd (by decide) hh⟩
 · exact h0 (fun h => Ae (by rw [h]; rfl)) _ (hx.trans Uy)
 have rH : Ga ten 16 100 ss = 0 := by
   refine Decidable.byContradiction fun h => heq ?_
   unfold R9
   rw [if_neg h]
   split <;> decide
 have hY := rH
 unfold Ga at hY
 split at hY
 · cases hY
 split at hY
 · cases hY
 rename_i _ R1
 have Ky : ∀ s ∈ ss, GH s.ls := fun s hs => Qt (No hY s hs)
 have rest : ∀ (cl rep : ByteArray) (dm : List Sm) (τ2 : Hp) q m d, (rep = A2 → dm = ss) → (ha = false ∧ rep = A2 ∨ ha = true ∧ El ss = none ∧ rep = A2 ∨ ha = true ∧ El ss = some (cl, rep) ∧ (∀ s ∈ ss, A8 s.ls HL = cl ∧ A8 s.ls C4 = rep) ∧ dm = ss.map Hb) → GG τ2 q m dm → (∀ s ∈ dm, GH s.ls) → dm.length ≤ 256 → Ext τ τ2 → τ2 BI = none →
     AQ.A4 R (aD BI 0) (aD EB 0) 4 4 (4 : Nat) ((0 : Int) + 1 + 1) (τ2.set BI (Bg ten cl rep q m d now none)) := by
   intro cl rep dm τ2 q m d cN hca Hu AMo Si Ay O6
   have AMp : ∀ {o : Obj}, Ext τ2 (τ2.set BI o) := .set O6
   have mX := h5.mono Ay
   refine AQ.AW ⟨fun _ => ⟨EB, 0, rfl, by omega, _, l11 (j := 2) (Ay.trans AMp) rfl, 107, #[], _, rfl, AFs, gw mX (Ay _ _ Wq) O6 (hk.mono (hx.trans Ay)) hu ht gN ri mW RG Hu AMo Si fun pb τ' mv q3 m3 d3 C6 iW Yg Ae hP => ⟨_, rfl, fun Ae => absurd rfl Ae, fun _ => ⟨by unfold AN; omega, ?_⟩⟩⟩, fun hh => absurd (by decide) hh⟩
   have hN : (names [(pb, Mz e (rf / 2 + 1) q3 m3 d3), (BI, Bg ten cl rep q m d now (some ⟨pb, 0, none⟩))]).Nodup := by simp [names, Ae]
   have VY : Ext τ' (AX τ' [(pb, Mz e (rf / 2 + 1) q3 m3 d3), (BI, Bg ten cl rep q m d now (some ⟨pb, 0, none⟩))]) := HP.ext hN fun k hk => by
     simp [names] at hk
     rcases hk with rfl | rfl
     · exact Yg
     · exact iW
   have lo := B4 (τ := τ') (i := 1) hN rfl
   have LW : Ext σ (AX τ' [(pb, Mz e (rf / 2 + 1) q3 m3 d3), (BI, Bg ten cl rep q m d now (some ⟨pb, 0, none⟩))]) := (hx.trans Ay).trans (C6.trans VY)
   have Rx : Ext (τ2.new (AX τ' [(pb, Mz e (rf / 2 + 1) q3 m3 d3), (BI, Bg ten cl rep q m d now (some ⟨pb, 0, none⟩))])) (σ.new (AX τ' [(pb, Mz e (rf / 2 + 1) q3 m3 d3), (BI, Bg ten cl rep q m d now (some ⟨pb, 0, none⟩))])) := Ext.Cm (hx.trans Ay)
   refine AQ.AW ⟨fun _ => ⟨EB, 0, rfl, by omega, _, l11 (j := 3) (Ay.trans (C6.trans VY)) rfl, 110, #[], _, rfl, AFt, ?_⟩, fun hh => absurd (by decide) hh⟩
   refine (h1 rH cl rep dm cN hca b3 b4 b5 BI q m d pb _ mv (mX.mono (C6.trans VY)) LW ⟨hP.row.mono (Rx.off _), hP.nodup, hP.len, fun i v f hv hf => (hP.Xp i v f hv hf).mono Rx, fun k o hk => by cases hk⟩ lo (A6 hx hn)).mono fun en σ5 hr => ?_
   cases en with
   | panicked ch => exact hr
   | outgrown => exact hr
   | returned v =>
     obtain ⟨x, rfl, zB, AMq⟩ := hr
     refine ⟨x, rfl, zB, fun hz => ⟨by unfold AN; omega, ?_⟩⟩
     obtain ⟨q5, hq5, AMr⟩ := AMq (Decidable.not_not.1 hz)
     exact AQ.AW ⟨fun hh => absurd hh (by decide), fun _ => ⟨BI, 0, rfl, q5, hq5, AMr⟩⟩
 cases ha with
 | false =>
   refine AQ.AW ⟨fun _ => ⟨EB, 0, rfl, by omega, _, l11 (j := 1) Uy rfl, 105, #[], _, rfl, vB, au h5 Wq hn ⟨_, rfl, fun Ae => absurd rfl Ae, fun _ => ⟨by unfold AN; omega, ?_⟩⟩⟩, fun hh => absurd (by decide) hh⟩
   exact rest A2 A2 ss τ p n c (fun _ => rfl) (.inl ⟨rfl, rfl⟩) zR Ky (by omega) (.refl _) hn
 | true =>
   refine AQ.AW ⟨fun _ => ⟨EB, 0, rfl, by omega, _, l11 (j := 1) Uy rfl, 105, #[], _, rfl, vB, bE h5 Wq hn zR (by omega) Ky (fun hf q m d τ' ho Ci Jn => ⟨_, rfl, fun Ae => absurd rfl Ae, fun _ => ⟨by unfold AN; omega, ?_⟩⟩) (fun cl rep hf D3 q m d τ' ho Ci Jn => ⟨_, rfl, fun Ae => absurd rfl Ae, fun _ => ⟨by unfold AN; omega, ?_⟩⟩) fun cl rep hf BX τ' Ci => ⟨_, rfl, fun _ => mo rH rfl cl rep hf BX _ (hx.trans Ci), fun hh => absurd (by decide) hh⟩⟩, fun hh => absurd (by decide) hh⟩
   · exact rest A2 A2 ss τ' q m d (fun _ => rfl) (.inr (.inl ⟨rfl, hf, rfl⟩)) ((ho.rd Hq.mono).mono Hq.mono (Ext.Af _ _)) Ky (by omega) Ci Jn
   · refine rest cl rep (ss.map Hb) τ' q m d (fun cN => ?_) (.inr (.inr ⟨rfl, hf, D3, rfl⟩)) ((ho.rd Hq.mono).mono Hq.mono (Ext.Af _ _)) (fun s hs => ?_) (by rw [List.length_map]; omega) Ci Jn
     · exfalso
       have : ∀ l : List Sm, El l = some (cl, rep) → rep ≠ A2 := fun l => by
         induction l with
         | nil => intro h; cases h
         | cons a l ih =>
           intro h
           rw [El] at h
           split at h
           · cases h; assumption
           · exact ih h
       exact this ss hf cN
     · obtain ⟨s0, kk, rfl⟩ := List.mem_map.1 hs
       have h1 := Ky s0 kk
       exact ⟨Nat.le_trans (List.length_filter_le _ _) h1.1, fun x hx => h1.2 x (List.mem_filter.1 hx).1⟩
theorem RP {dk bb bk : Nat} {D : Dk} {W : Wl} {rows : List CM} {κ : Hp} {e : Nat} {ms : List Mem} {rk : Nat}
   (hd : σ bd = some (Im rf fo re ha md)) (hk : Hs σ dk bb bk D W rows κ) (hu : D.up = true) (ht : Tr (DW rows F6).1 e ms) (gN : 1 ≤ rf) (ri : rf ≤ 5) (mW : rf = rk) (RG : rk ≤ (Bz ms).length) (hs : GG σ p n ss) (hha : ha = true → El ss = none)
   (h0 : Ga ten 16 100 ss ≠ 0 → ∀ σ', Ext σ σ' → R (.returned (.tuple #[.pointer none, .int .i64 (R9 (Ga ten 16 100 ss))])) σ')
   (h1 : Ga ten 16 100 ss = 0 → ∀ pb σ' mv, CP σ' pb e (rf / 2 + 1) (ss.map (partOf ms rk)) mv (ss.map fun _ => []) σ → R (.returned (.tuple #[.pointer (some ⟨pb, 0, none⟩), .int .i64 0])) σ') :
   Spec prog 12 #[.pointer (some ⟨bd, 0, none⟩), .string ten, .slice p n c, .int .i64 now, .pointer (some ⟨bk, 0, none⟩)] σ R := by
 refine RO hd hk hu ht gN ri mW RG hs h0 (fun _ h2 cl rep hf _ => by rw [hha h2] at hf; cases hf) fun hl cl rep dm cN hca b3 b4 b5 BI q m d pb σ' mv h5 hx hP lo ub => ?_
 have mq : rep = A2 := by
   rcases hca with h | h | h
   · exact h.2
   · exact h.2.2
   · have := hha h.1
     rw [h.2.1] at this; cases this
 obtain rfl := cN mq
 subst mq
 exact Bd.start ⟨_, AD h5.e4 rfl, BI, 0, rfl, A2, AD lo rfl, fun _ => ⟨0, rfl, fun Ae => absurd rfl Ae, fun _ => ⟨_, AD lo rfl, h1 hl pb σ' mv (hP.Af hx)⟩⟩, fun h => by simp at h⟩
theorem YD {dk bb bk : Nat} {D : Dk} {W : Wl} {rows : List CM} {κ : Hp} {e : Nat} {ms : List Mem} {rk : Nat}
   (hd : σ bd = some (Im rf fo re ha md)) (hk : Hs σ dk bb bk D W rows κ) (hu : D.up = true) (ht : Tr (DW rows F6).1 e ms) (gN : 1 ≤ rf) (ri : rf ≤ 5) (mW : rf = rk) (RG : rk ≤ (Bz ms).length) (hs : GG σ p n ss) (hha : ha = true → El ss = none)
   (h0 : Ga ten 16 100 ss ≠ 0 → ∀ σ', Ext σ σ' → R (.returned (.tuple #[.pointer none, .int .i64 (R9 (Ga ten 16 100 ss))])) σ')
   (h1 : Ga ten 16 100 ss = 0 → ∀ pb σ' mv, Ext σ σ' → CP (σ.new σ') pb e (rf / 2 + 1) (ss.map (partOf ms rk)) mv (ss.map fun _ => []) (fun _ => none) → R (.returned (.tuple #[.pointer (some ⟨pb, 0, none⟩), .int .i64 0])) σ') :
   Spec prog 12 #[.pointer (some ⟨bd, 0, none⟩), .string ten, .slice p n c, .int .i64 now, .pointer (some ⟨bk, 0, none⟩)] σ R := by
 refine RO hd hk hu ht gN ri mW RG hs h0 (fun _ h2 cl rep hf _ => by rw [hha h2] at hf; cases hf) fun hl cl rep dm cN hca b3 b4 b5 BI q m d pb σ' mv h5 hx hP lo ub => ?_
 have mq : rep = A2 := by
   rcases hca with h | h | h
   · exact h.2
   · exact h.2.2
   · have := hha h.1
     rw [h.2.1] at this; cases this
 obtain rfl := cN mq
 subst mq
 exact Bd.start ⟨_, AD h5.e4 rfl, BI, 0, rfl, A2, AD lo rfl, fun _ => ⟨0, rfl, fun Ae => absurd rfl Ae, fun _ => ⟨_, AD lo rfl, h1 hl pb σ' mv hx hP⟩⟩, fun h => by simp at h⟩
end
end TwW
end
section
namespace TwW
open Go Tw Go.RowKit Go.Proofs.Tryz
section
variable {σ σ' τ : Hp} {R : Rr}
theorem RQ {p q : Option Addr} {n c m d : Nat} {xs ys : List Bool} (hr : rI σ p n xs) (hs : rI σ q m ys) (h : R (.returned (.bool (decide (xs = ys)))) σ) : Spec prog 18 #[.slice p n c, .slice q m d] σ R := by
 have Rg : xs.length = n := by have := hr.1; simpa using this
 have Uv : ys.length = m := by have := hs.1; simpa using this
 refine Cq.start ⟨fun Ae => ?_, fun he => ?_⟩
 · rw [decide_eq_false fun e => Ae (by rw [← Rg, ← Uv, e])] at h; exact h
 obtain rfl : n = m := by omega
 have FV : n ≤ 4611686018427387904 := hr.2.1
 suffices H : ∀ d' k : Nat, n - k = d' → k ≤ n → xs.take k = ys.take k → Cq.Am R p n c q n d k σ from H n 0 rfl (Nat.zero_le _) (by simp)
 intro d'
 induction d' with
 | zero =>
   intro k hd hk BX
   refine Cq.BB ⟨fun Ag => by omega, fun _ => ?_⟩
   rw [List.take_of_length_le (by omega), List.take_of_length_le (by omega)] at BX
   rw [decide_eq_true BX] at h; exact h
 | succ d' ih =>
   intro k hd hk BX
   have DK : k < n := by omega
   obtain ⟨x, hx⟩ : ∃ x, xs[k]? = some x := ⟨_, List.getElem?_eq_getElem (by omega)⟩
   obtain ⟨y, hy⟩ : ∃ y, ys[k]? = some y := ⟨_, List.getElem?_eq_getElem (by omega)⟩
   obtain ⟨b, o, rfl, hl⟩ := hr.at hx
   obtain ⟨b', o', rfl, Si⟩ := hs.at hy
   have bad : x ≠ y → R (.returned (.bool false)) σ := fun Ae => by
     rw [decide_eq_false fun e => Ae (by rw [e, hy] at hx; cases hx; rfl)] at h; exact h
   have good : x = y → AN ((k : Int) + 1) ∧ Cq.Am R (aD b o) n c (aD b' o') n d ((k : Int) + 1) σ := fun he => ⟨Aa DK FV, ih (k + 1) (by omega) (by omega) (by rw [AO hx, AO hy, BX, he])⟩
   refine Cq.BB ⟨fun _ => ⟨b, o, rfl, by omega, x, by simpa using hl, b', o', rfl, by omega, y, by simpa using Si, fun h1 => ⟨fun h2 => good (by rw [h1, h2]), fun h2 => bad (by rw [h1, h2]; simp)⟩, fun h1 => ⟨fun h2 => bad (by rw [h1, h2]; simp), fun h2 => good (by rw [h1, h2])⟩⟩, fun hh => by omega⟩
theorem bF {α : Type} {b : Nat} {T : TypeId} {f : α → Value} {x : α} {ρ : Hp} (h : ρ b = some (.cells #[f x] T (0, 0))) : GP 1 ρ (some ⟨b, 0, none⟩) 1 ([x].map f) := ⟨rfl, by omega, .inr ⟨b, 0, rfl, ⟨AD h rfl, trivial⟩⟩⟩
def kT : ByteArray := ⟨#[116]⟩
def zS : Sm := ⟨[(⟨#[97]⟩, ⟨#[120]⟩)], 5, 1⟩
theorem AMs : Ga kT 16 100 [zS] = 0 := by decide
theorem AF6 : Ga kT 16 100 [] = 151 := by decide
theorem AMt : El [zS] = none := by decide
theorem AF7 : Ip 1 = 3 := by decide
theorem Ti {nd y : Int} {x : Part} {f : EO} (h : BL nd x = true) : Og nd [x] [f] [y] = [if G8 (Jd f nd) then f else RA f nd y] := by simp [Og, G9, h]
theorem RR {ms : List Mem} {n k : Nat} {h : Int} (hg : JJ ms n) (hk : k ≤ n) : ((round ms h).take k).Nodup ∧ ((round ms h).take k).length = k := by
 have h1 := TX (hash := h) hg.ok
 rw [hg.Bz] at h1
 simp at h1
 exact ⟨(Od ms h).sublist (List.take_sublist _ _), by rw [List.length_take]; omega⟩
theorem YE (ht : Tb σ) (hR : ∀ σ', Ext σ σ' → R (.returned (.bool true)) σ') : Spec prog 13 #[] σ R := by
 refine OH.start (Ol ⟨_, _, _, _, _, _, _, _, _, _, _, rfl, X8 fun bd md cz hbd Ae => ⟨_, rfl, ?_⟩⟩)
 rw [AF7]
 generalize Qu : (σ.set md (.map #[] 0)).set bd (Im 3 30 5 true md) = σ1
 have BM : Ext σ σ1 := by rw [← Qu]; exact (Ext.set cz).trans (.set (by rw [Hp.AH Ae]; exact hbd))
 have TD : σ1 bd = some (Im 3 30 5 true md) := by rw [← Qu, Hp.AA]
 refine RL (n := 3) (by decide) fun pr cr σ2 ms SJ hg Ay => ⟨_, _, _, _, rfl, ?_⟩
 refine Om (K := [F6]) (e := 6) (by simp) (by simp) (ht.mono (BM.trans Ay)) SJ hg.ok hg.tok (by decide) fun dk bb s sb σ3 D W rows ts τ3 hk3 Dq hs3 ha3 hc3 _ htr _ Uj => ⟨_, _, rfl, fun hh => (by cases hh), fun _ => ⟨fun hh => (by cases hh), fun _ JN zT Jp rS => ?_⟩⟩
 have C6 : Ext σ2 σ3 := Uj.trans hk3.ext
 show Spec prog 12 #[_, .string kT, .slice (some ⟨Jp, 0, none⟩) 1 1, _, _] ((σ3.set JN (.cells #[(.string (ByteArray.mk #[97])), (.string (ByteArray.mk #[120]))] 61 (0, 0))).set Jp (.cells #[(.slice (aD JN 0) 1 1), .int .i64 5, .int .u64 1] 25 (0, 0))) _
 generalize zU : (σ3.set JN (.cells #[(.string (ByteArray.mk #[97])), (.string (ByteArray.mk #[120]))] 61 (0, 0))).set Jp (.cells #[(.slice (aD JN 0) 1 1), .int .i64 5, .int .u64 1] 25 (0, 0)) = σ4
 have LW : Ext σ3 σ4 := by rw [← zU]; exact (Ext.set zT).trans (.set rS)
 have l31 : σ4 Jp = some (.cells #[(.slice (aD JN 0) 1 1), .int .i64 5, .int .u64 1] 25 (0, 0)) := by rw [← zU, Hp.AA]
 have l29 : σ4 JN = some (.cells #[(.string (ByteArray.mk #[97])), (.string (ByteArray.mk #[120]))] 61 (0, 0)) := by
   rw [← zU]; exact Ext.set rS _ _ (Hp.AA _ _ _)
 have hrs : GG σ4 (some ⟨Jp, 0, none⟩) 1 [zS] := ⟨rfl, [.slice (aD JN 0) 1 1, .int .i64 5, .int .u64 1], ⟨rfl, by omega, .inr ⟨Jp, 0, rfl, ⟨AD l31 rfl, AD l31 rfl, AD l31 rfl, trivial⟩⟩⟩, Ch.one rfl ⟨_, _, _, rfl, rfl, [.string ⟨#[97]⟩, .string ⟨#[120]⟩], ⟨rfl, by omega, .inr ⟨JN, 0, rfl, ⟨AD l29 rfl, AD l29 rfl, trivial⟩⟩⟩, Ch.one rfl rfl⟩⟩
 have Yh : σ4 bd = some (Im 3 30 5 true md) := LW _ _ (C6 _ _ (Ay _ _ TD))
 have RG : (3 : Nat) ≤ (Bz ms).length := by rw [hg.Bz]; simp
 refine RP (rk := 3) Yh (hk3.mono LW) Dq.up htr (by decide) (by decide) rfl RG hrs (fun _ => AMt) (fun hh => absurd AMs hh) fun _ pb σ5 mv hP => ⟨_, _, rfl, fun hh => absurd rfl hh, fun _ => ⟨fun hh => (by cases hh), fun _ => ?_⟩⟩
 have hq : ((3 : Int) / 2 + 1) = 2 := by decide
 rw [hq] at hP
 generalize hpt : partOf ms 3 zS = pt at hP
 have hrt : pt.rs.Nodup ∧ pt.rs.length = 3 := by rw [← hpt]; exact RR (h := TQ zS.ls) hg (by decide)
 have hPs : [zS].map (partOf ms 3) = [pt] := by rw [← hpt]; rfl
 rw [hPs] at hP
 have hL : ∀ L : List Int, EM L → (∀ x, x ∈ L ↔ ∃ y ∈ [pt], x ∈ y.rs) → L.length = 3 ∧ ∀ x ∈ L, BL x pt = true := fun L VW hm => by
   refine ⟨?_, fun x hx => ?_⟩
   · rw [Xl (Q9 VW) hrt.1 fun x => by rw [hm]; simp, hrt.2]
   · have := (hm x).1 hx
     simpa [BL] using this
 refine Ly hP.at fun VU n44 Wg σ6 L6 ho6 L8 AMx yu => ⟨_, _, _, rfl, fun hh => ?_, fun _ => ?_⟩
 · have h1 := (hL L6 AMx yu).1
   have h2 : L6.length = n44 := ho6.rd.1
   exact absurd (by omega) hh
 refine Ly (hP.mono L8).at fun WQ n49 c49 σ7 L7 yw L9 AF8 hm7 => ⟨_, _, _, rfl, ?_⟩
 obtain ⟨hl7, Zy⟩ := hL L7 AF8 hm7
 obtain ⟨τ7, hP7, x7, x7n⟩ := (hP.mono L8).grow L9
 have VQ : B9 .i64 τ7 WQ n49 L7 := yw.rd.mono x7n
 have AMy : n49 = 3 := by have := VQ.1; omega
 subst AMy
 obtain ⟨u0, hu0⟩ := VQ.ex (k := 0) (by decide)
 obtain ⟨u1, hu1⟩ := VQ.ex (k := 1) (by decide)
 obtain ⟨su, sv, rfl, l53⟩ := VQ.at hu0
 obtain ⟨_, _, he, AM0⟩ := VQ.at hu1
 cases he
 have AF9 : u0 ≠ u1 := fun e => by have := lv AF8 (show 0 < 1 by decide) hu0 hu1; omega
 have Mi := Zy u0 (List.mem_of_getElem? hu0)
 have hm1 := Zy u1 (List.mem_of_getElem? hu1)
 refine ⟨su, sv, rfl, ⟨by decide, by decide⟩, u0, by simpa using hP7.up.ld l53, RB hP7.at fun qH nj qI σ8 rZ O2 => ⟨_, _, _, _, rfl, ⟨by decide, by decide⟩, u0, by simpa using (hP7.up.trans O2).ld l53, fun b62 AGA => ?_⟩⟩
 have AM1 : nj = 1 := by have := rZ.1; simp [Mi] at this; omega
 obtain ⟨τ9, hP9, x9, x9n⟩ := hP7.grow (O2.trans (.set AGA (o := .cells #[.int .i64 1] 3 (0, 0))))
 have h62 : B9 .i64 τ9 (some ⟨b62, 0, none⟩) 1 [1] := B9.Lg (bF (T := 3) (f := Value.int .i64) (x9n _ _ (AS.2 ⟨A6 O2 AGA, Hp.AA _ _ _⟩)))
 refine Td hP9 h62 fun ATS AGB => ⟨rfl, ⟨by decide, by decide⟩, u1, by simpa using (x9.trans AGB.up).ld AM0, fun iR AGC => ?_⟩
 obtain ⟨AM2, AGD, Eb, AM3⟩ := AGB.grow (.set AGC (o := .cells #[.int .i64 2] 3 (0, 0)))
 have h68 : B9 .i64 AM2 (some ⟨iR, 0, none⟩) 1 [2] := B9.Lg (bF (T := 3) (f := Value.int .i64) (AM3 _ _ (AS.2 ⟨AGC, Hp.AA _ _ _⟩)))
 have hf1 : Og u0 [pt] ([zS].map fun _ => []) [1] = [[(u0, 1)]] := by
   show Og u0 [pt] [[]] [1] = _
   rw [Ti Mi]; simp [G8, Jd, RA]
 have oR : Og u1 [pt] [[(u0, 1)]] [2] = [[(u0, 1), (u1, 2)]] := by
   rw [Ti hm1]; simp [G8, Jd, RA, AF9]
 rw [hf1] at AGD
 refine Td AGD h68 fun ATV zV => ⟨rfl, ?_⟩
 rw [oR] at zV
 have C5 : [[(u0, (1 : Int)), (u1, 2)]].map (Eh 2) = [true] := by simp [Eh, Xn, G8]
 refine aj zV (fun f hf => by simp at hf; subst hf; simp) fun p72 n72 c72 AGE AGF rq => ⟨_, _, _, _, rfl, ?_⟩
 rw [C5] at AGF ⊢
 have mr : Ext σ4 AGE := ((((x7.trans x9).trans Eb).trans zV.up)).trans rq
 show Spec prog 12 #[_, .string kT, _, _, _] AGE _
 refine RP (rk := 3) (ss := []) (mr _ _ Yh) ((hk3.mono LW).mono mr) Dq.up htr (by decide) (by decide) rfl RG Fi.nil (fun _ => rfl) (fun _ ATW mZ => ⟨_, _, rfl, ?_⟩) fun hh => absurd (hh.symm.trans AF6) (by decide)
 refine ⟨fun _ => ⟨fun _ => ⟨fun _ b94 AGG => ?_, fun hh => absurd rfl hh⟩, fun hh => absurd rfl hh⟩, fun hh => absurd (by rw [AM1]; rfl) hh⟩
 refine RQ ((((Own.rd AGF).mono (Ext.Af _ _)).mono mZ).mono (.set AGG)) (bF (Hp.AA _ _ _)) ⟨_, rfl, fun _ => ?_, fun hh => by simp at hh⟩
 have h4 : R9 (Ga kT 16 100 []) = 4 := by rw [AF6]; decide
 rw [h4]
 exact hR _ (((((BM.trans Ay).trans C6).trans LW).trans mr).trans (mZ.trans (.set AGG)))
end
end TwW
end
section
namespace TwW
open Go Tw Go.RowKit Go.Proofs.Tryz
section
variable {σ σ' τ : Hp} {R : Rr}
theorem RS {p : Option Addr} {n c : Nat} {x : Int} {xs : List Int} (hr : B9 .i64 σ p n xs) (h : R (.returned (.bool (decide (x ∈ xs)))) σ) : Spec prog 16 #[.slice p n c, .int .i64 x] σ R := by
 refine IM.start ?_
 suffices H : ∀ d k : Nat, n - k = d → k ≤ n → x ∉ xs.take k → IM.Jh R p n c x k σ from H n 0 rfl (Nat.zero_le _) (by simp)
 intro d
 induction d with
 | zero =>
   intro k hd hk BX
   refine IM.CU ⟨fun Ag => by omega, fun _ => ?_⟩
   rw [List.take_of_length_le (by rw [hr.1]; omega)] at BX
   simpa [BX] using h
 | succ d ih =>
   intro k hd hk BX
   have DK : k < n := by omega
   obtain ⟨y, hy⟩ := hr.ex DK
   obtain ⟨b, o, rfl, hl⟩ := hr.at hy
   refine IM.CU ⟨fun Ag => ⟨b, o, rfl, by omega, y, by simpa using hl, fun he => ?_, fun Ae => ⟨Aa DK hr.big, ih (k + 1) (by omega) (by omega) ?_⟩⟩, fun FB => by omega⟩
   · have : x ∈ xs := he ▸ List.mem_of_getElem? hy
     simpa [this] using h
   · rw [Fa hy]
     rintro (h1 | h1)
     · exact BX h1
     · exact Ae h1.symm
structure ATX (rs : List Int) (f : EO) (AGH : List Int) : Prop where
 keys : (f.map Prod.fst).Nodup
 sub : ∀ a ∈ f, a.1 ∈ rs
 nodup : AGH.Nodup
 iff : ∀ x, x ∈ AGH ↔ x ∈ rs ∧ G8 (Jd f x) = true
end
end TwW
end
section
namespace Tw
open Go Go.RowKit Go.ChangeShapes Go.WideShapes Go.Deep
def full (w : World) : Hp := fun b => w.heap[b]?
theorem mu (w : World) : Sat (full w) w := fun _ _ h => h
theorem r6 {w : World} {a : Addr} {v : Value} (h : w.cell? a = some v) : (full w).ld a = some v := h
theorem mw {w w' : World} {σ' : Hp} (hx : Ext (full w) σ') (hs : Sat σ' w') (ho : FI w w') (E9 : w'.output = w.output) (hg : w.heap.size ≤ w'.heap.size) : Below w.heap.size w w' :=
 ⟨ho.1, ho.2.1, E9, hg, fun k hk => by
   have h1 : w.heap[k]? = some w.heap[k] := Array.getElem?_eq_getElem hk
   rw [h1]; exact hs _ _ (hx _ _ h1)⟩
def Lawful (P : Program) (f : FuncId) (args : Array Value) (w : World) : Prop := Spec P f args (full w) (fun e σ' => e = .returned (.bool true) ∧ Ext (full w) σ')
theorem Lawful.calls {P : Program} {f : FuncId} {args : Array Value} {w : World} (h : Lawful P f args w) : Calls P f args w fun e w' => e = .returned (.bool true) ∧ Below w.heap.size w w' :=
 (h w (fun _ => False) (mu w) (fun _ h => h.elim)).mono fun e w' ⟨σ', ⟨he, hx⟩, hf⟩ => ⟨he, mw hx hf.sat hf.os hf.out hf.grow⟩
section
variable {H : Type} {enc : TypeId × Value → H} {P : Program}
theorem La (hl : laidOutB P = true) {W W' : World} (hb : Below W.heap.size W W') : ∀ {ts : List TypeId} {vs : List Value} {ds : List (DataW H)} {ps : List MemPlace}, (ts.all fun t => P.readableRec t && Nat.blt t P.types.size) = true → (∀ x ∈ ps, x.block < W.heap.size) →
   DataW.TrodAll enc P W 0 (fun _ => true) true ts vs ds ps → DataW.TrodAll enc P W' 0 (fun b => decide (b < W.heap.size)) true ts vs ds ps
 | [], [], [], ps, _, _, h => h
 | t :: ts, v :: vs, d :: ds, ps, hr, Ag, ⟨p, q, h1, h2, e⟩ => by
   simp only [List.all_cons, Bool.and_eq_true] at hr
   subst e
   exact ⟨p, q, Below.trod hl hr.1.1 (Nat.le_of_ble_eq_true hr.1.2) h1 hb (fun x hx => Ag x (List.mem_append_left _ hx)), La hl hb hr.2 (fun x hx => Ag x (List.mem_append_right _ hx)) h2, rfl⟩
 | [], _ :: _, _, _, _, _, h => h.elim
 | [], [], _ :: _, _, _, _, h => h.elim
 | _ :: _, [], _, _, _, _, h => h.elim
 | _ :: _, _ :: _, [], _, _, _, h => h.elim
theorem my {f : Func} {s : ChangeSpec} {W W' : World} {args : Array Value} {ds gs : List (DataW H)} {before : List MemPlace} {tb : TypeId} (hl : laidOutB P = true) (hr : (f.params.toList.all fun t => P.readableRec t && Nat.blt t P.types.size) = true)
   (hrt : f.resultTypes = #[tb]) (htb : P.underlying tb = some .bool) (hv : s.vars = []) (M3 : (s.fn H (ds ++ gs)).results = [.lit (.bool true)] ∧ (s.fn H (ds ++ gs)).args = ds ∧ (s.fn H (ds ++ gs)).vars = [])
   (hW : DataW.Whole enc P f.params.toList s.vars false W args.toList ds gs before) (hb : Below W.heap.size W W') : s.post enc P f false true false false W args (.bool true) W' := by
 have Ag : ∀ p ∈ before, p.block < W.heap.size := fun p hp => hW.lt p hp
 have hW' := hW
 obtain ⟨p, q, hA, hV, rfl, hfz, _⟩ := hW'
 refine ⟨ds, gs, p ++ q, [], p, [], hW, ?_, ?_, ?_, World.keptBut_mono (fun x hx => ⟨hx, ?_⟩) (hb.frame (· ∈ p ++ q)), fun h => by cases h⟩
 · rw [M3.1, hrt]
   exact trodAll_mk1 (shut_bool htb true)
 · rw [M3.2.1]
   exact La hl hb hr (fun x hx => Ag x (List.mem_append_left _ hx)) hA
 · rw [M3.2.2, hv]; rfl
 · rw [hv] at hV
   have : q = [] := by
     cases gs with
     | nil => exact hV
     | cons _ _ => exact hV.elim
   subst this
   exact .inr (.inl (by simpa using hx))
def hZ (P : Program) {α : Type} (t : TypeId) (E : Hp → List Value → α → Prop) (I : α → Prop) : Prop :=
 ∀ {H : Type} {enc : TypeId × Value → H} {w : World} {base : Nat} {sp : Nat → Bool} {held : Bool} {fuel : Nat} {cs : List Value} {x : DataW H × List MemPlace},
   DataW.trod enc P w base sp held fuel t cs = some x → (∀ n ∈ x.1.weights P t, n ≤ reachBytes) → ∃ y, E (full w) cs y ∧ I y
theorem On {e : TypeId} : ∀ {l : List (DataW H)} {d : DataW H}, d ∈ l → ∀ n ∈ d.weights P e, n ∈ DataW.weightsAll P e l
 | x :: l, d, hd, n, hn => by
   simp only [DataW.weightsAll, List.mem_append]
   rcases List.mem_cons.1 hd with rfl | hd
   · exact .inl hn
   · exact .inr (On hd n hn)
theorem M1 {n : Nat} : ∀ {ts : List TypeId} {l : List (DataW H)} {j : Nat} {t : TypeId} {d : DataW H}, ts[j]? = some t → l[j]? = some d → n ∈ d.weights P t → n ∈ DataW.weightsEach P ts l := fun ht hd hn => DataW.weights_mem_each ht hd n hn
theorem Dn.snoc {σ : Hp} {b : Nat} : ∀ {l m : List Value} {o : Nat}, Dn σ b o l → Dn σ b (o + l.length) m → Dn σ b o (l ++ m)
 | [], m, o, _, h => by simpa using h
 | v :: l, m, o, h, h' => ⟨h.1, Dn.snoc h.2 (by simpa [Nat.add_assoc, Nat.add_comm 1] using h')⟩
theorem Fi.mk' {α : Type} {s : Nat} {E : Hp → List Value → α → Prop} {I : α → Prop} {σ : Hp} {b o : Nat} : ∀ {n : Nat}, n ≤ 4611686018427387904 → (∀ i, i < n → ∃ vs x, vs.length = s ∧ Dn σ b (o + i * s) vs ∧ E σ vs x ∧ I x) →
   ∃ xs, Fi s E σ (some ⟨b, o, none⟩) n xs ∧ ∀ x ∈ xs, I x
 | 0, _, _ => ⟨[], Fi.nil, by simp⟩
 | n + 1, hn, h => by
   obtain ⟨xs, ⟨h1, cs, ⟨hl, _, h2⟩, h3⟩, hI⟩ := Fi.mk' (n := n) (by omega) (fun i hi => h i (by omega))
   obtain ⟨vs, x, hv, bN, hE, hx⟩ := h n (by omega)
   have H5 : Dn σ b o cs := by
     rcases h2 with rfl | ⟨b', o', hp, Si⟩
     · have : cs = [] := List.eq_nil_of_length_eq_zero (by simpa using hl)
       subst this; trivial
     · cases hp; exact Si
   refine ⟨xs ++ [x], ⟨by simp [h1], cs ++ vs, ⟨by rw [List.length_append, hl, hv, Nat.add_mul]; omega, hn, .inr ⟨b, o, rfl, H5.snoc (by rw [hl]; exact bN)⟩⟩, h3.snoc hv hE⟩, fun y hy => ?_⟩
   rcases List.mem_append.1 hy with hy | hy
   · exact hI y hy
   · simp at hy; subst hy; exact hx
def ESl {α : Type} (s : Nat) (E : Hp → List Value → α → Prop) (σ : Hp) (vs : List Value) (xs : List α) : Prop := ∃ p n c, vs = [.slice p n c] ∧ Fi s E σ p n xs
theorem iA {w : World} {a : Addr} {v : Value} (h : w.cell? a = some v) : a.spot = none := by
 unfold World.cell? at h
 split at h
 · split at h
   · cases h
   · rename_i hs; simpa using hs
 · cases h
theorem hZ.slice {α : Type} {t e : TypeId} {s bs : Nat} {E : Hp → List Value → α → Prop} {I : α → Prop} (ht : P.underlying t = some (.slice e)) (hs : P.cellsOf e = s) (iX : P.bytesOf e = bs) (kk : 0 < s) (vP : 0 < bs) (he : hZ P e E I) :
   hZ P t (ESl s E) (fun xs => (∀ x ∈ xs, I x) ∧ xs.length * bs ≤ reachBytes) := by
 intro H enc w base sp held fuel cs x h hw
 subst hs iX
 rcases open_slice ht h with ⟨rfl, rfl⟩ | ⟨a, len, cap, m, n, D, Pl, rfl, hb, hl, hm, gZ, rfl, hi⟩
 · exact ⟨[], ⟨none, 0, 0, rfl, Fi.nil⟩, by simp, by simp⟩
 · have hlm : len ≤ m := by rw [gZ]; split <;> omega
   have VJ : len * P.bytesOf e ≤ reachBytes := by
     have := hw _ (by simp only [DataW.weights, ht]; exact List.mem_cons_self ..)
     simp only [List.length_map, List.length_range] at this
     exact Nat.le_trans (Nat.mul_le_mul_right _ (by omega)) this
   have hlen : len ≤ reachBytes := Nat.le_trans (Nat.le_mul_of_pos_right _ vP) VJ
   have zW : len ≤ 4611686018427387904 := Nat.le_trans hlen (by decide)
   have r7 : ∀ i, i < len → ∀ k ∈ (D i).weights P e, k ≤ reachBytes := fun i HI k hk => hw k (by
     simp only [DataW.weights, ht]
     exact List.mem_cons_of_mem _ (List.mem_append_left _ (On (List.mem_map.2 ⟨i, List.mem_range.2 HI, rfl⟩) k hk)))
   by_cases h0 : len = 0
   · subst h0
     exact ⟨[], ⟨some a, 0, cap, rfl, Fi.nil⟩, by simp, by simp⟩
   · have vC : a.spot = none := by
       obtain ⟨cs', hc, _⟩ := hi 0 (by omega)
       obtain ⟨_, jX, dy⟩ := World.cells?_some hc
       have h1 := dy 0 kk
       rw [List.getElem?_eq_getElem (by omega)] at h1
       have := iA h1
       simpa [Addr.add] using this
     obtain ⟨b, o, sp'⟩ := a
     simp only at vC
     subst vC
     obtain ⟨xs, hr, hI⟩ := Fi.mk' (s := P.cellsOf e) (E := E) (I := I) (σ := full w) (b := b) (o := o) zW (fun i HI => by
       obtain ⟨cs', hc, ht'⟩ := hi i (by omega)
       obtain ⟨_, jX, dy⟩ := World.cells?_some hc
       obtain ⟨y, hE, hy⟩ := he ht' (r7 i HI)
       refine ⟨cs', y, jX, Dn.of fun j v hj => ?_, hE, hy⟩
       have Tx : j < P.cellsOf e := by have := (List.getElem?_eq_some_iff.1 hj).1; omega
       have h1 := dy j Tx
       rw [hj, DB, DB] at h1
       exact r6 h1)
     exact ⟨xs, ⟨some ⟨b, o, none⟩, len, cap, rfl, hr⟩, hI, by rw [hr.1]; exact VJ⟩
end
end Tw
end
section
namespace TwW
open Go Tw Go.RowKit Go.ChangeShapes Go.WideShapes Go.ChangeAt Go.Deep Go.Proofs.Tryz
namespace Rw
open Go.Proofs.YtaaincfenibojaaGreatDoor
theorem own : ownKnob prog.godebug = none := by kernel_rfl
theorem laidOut : laidOutB prog = true := by kernel_rfl
def cellsOf : DataW Unit → Array Value
 | .agg l => (l.map fun x => match x with | .lit (.int k z) => Value.int k z | _ => .nilFunc).toArray
 | _ => #[]
def strOf : DataW Unit → Value
 | .iface _ (.ptr (.agg [.lit (.string s)])) => .string ⟨s.toArray⟩
 | _ => .nilFunc
noncomputable def Nu (os : Os) : World :=
 let N := (World.settled prog os).heap.size
 let w0 := World.holding prog os ⟨#[.cells #[strOf Rows.laid_strconv_ErrSyntax] 405, .cells #[strOf Rows.laid_strconv_ErrRange] 405], #[], []⟩
 let put (h : Array Obj) (g : Nat) (cs : Array Value) : Array Obj := h.modify g fun
   | .cells _ t frozen => .cells cs t frozen
   | o => o
 let h0 := put (put w0.heap 4 #[.iface 403 (.pointer (some ⟨N, 0, none⟩))]) 5 #[.iface 403 (.pointer (some ⟨N + 1, 0, none⟩))]
 { w0 with heap := put (put (put h0 1 (cellsOf Rows.laid_internal_strconv_uint64pow10)) 2 (cellsOf Rows.laid_math_bits_deBruijn32tab)) 3 (cellsOf Rows.laid_math_bits_deBruijn64tab) }
abbrev Laid : List (String × DataW Unit) := [("math/bits.deBruijn32tab", Rows.laid_math_bits_deBruijn32tab), ("math/bits.deBruijn64tab", Rows.laid_math_bits_deBruijn64tab), ("internal/strconv.uint64pow10", Rows.laid_internal_strconv_uint64pow10), ("strconv.ErrRange", Rows.laid_strconv_ErrRange), ("strconv.ErrSyntax", Rows.laid_strconv_ErrSyntax)]
theorem mz (os : Os) (args : Array Value) : laidMet prog Laid ((Nu os).forCall (fun _ _ => 0) ⟨#[], args, []⟩).memory :=
 laidMet_of_run' 8 (by kernel_rfl) (by kernel_rfl)
theorem nA {W : World} {cs : Array Value} (h : W.var? prog "internal/strconv.uint64pow10" = some cs) : ∃ T fr, W.heap[1]? = some (.cells cs T fr) := by
 unfold World.var? at h
 rw [show prog.globalNamed "internal/strconv.uint64pow10" = some 1 by kernel_rfl] at h
 simp only [Option.bind_some] at h
 split at h
 · rename_i c T fr hc
   cases h
   exact ⟨T, fr, hc⟩
 · cases h
theorem AGI {W : World} (h : laidMetH prog Laid W) : Tb (full W) := by
 have h1 : laidMet prog Laid W := h
 have h2 : laidMet prog (("internal/strconv.uint64pow10", Lib.tabData .u64 Lib.pow10Tab) :: [("strconv.ErrRange", Rows.laid_strconv_ErrRange), ("strconv.ErrSyntax", Rows.laid_strconv_ErrSyntax)]) W := laidMet.tail (laidMet.tail h1)
 have h3 := Lib.tabIs_of_head (g := 1) (t := 336) (e := 23) (n := 20) (by kernel_rfl) (by kernel_rfl) (by kernel_rfl) (by kernel_rfl) (by kernel_rfl) (by kernel_rfl) h2
 obtain ⟨T, fr, h4⟩ := nA h3
 exact ⟨1, T, fr, by kernel_rfl, h4⟩
theorem HC {H : Type} {P : Program} {t : TypeId} {fs : Array Field} (ht : P.underlying t = some (.struct fs)) {ds : List (DataW H)} {j : Nat} {f : Field} {d : DataW H} (hf : fs[j]? = some f) (hd : ds[j]? = some d) (hw : ∀ n ∈ (DataW.agg ds).weights P t, n ≤ reachBytes) :
   ∀ n ∈ d.weights P f.type, n ≤ reachBytes := fun n hn => hw n (by
 simp only [DataW.weights, ht]
 exact M1 (by simp [hf]) hd hn)
theorem hZ.str {t : TypeId} (ht : prog.underlying t = some .string) : hZ prog t (fun _ vs (s : ByteArray) => vs = [.string s]) (fun _ => True) := fun h _ => by
 obtain ⟨n, rfl, rfl, _⟩ := DataW.trod_string ht h
 exact ⟨n, rfl, trivial⟩
set_option maxRecDepth 100000 in
theorem zX : hZ prog 61 G7 (fun _ => True) := by
 intro H enc w base sp held fuel cs x h hw
 obtain ⟨xs, n, _, rfl, hlen, Rg, hg⟩ := DataW.trod_struct underlying61 h
 rw [show prog.cellsOf 61 = 2 by kernel_rfl] at hlen
 match cs, hlen, xs, Rg with
 | [c0, c1], _, [y0, y1], _ =>
   have h0 := hg 0 _ rfl
   have h1 := hg 1 _ rfl
   simp only [show prog.cellsOf 9 = 1 by kernel_rfl, List.drop, List.take, List.getElem?_cons_zero, List.getElem?_cons_succ] at h0 h1
   obtain ⟨a, e0, _⟩ := hZ.str underlying9 h0 (HC underlying61 (j := 0) (ds := [y0.1, y1.1]) (f := { name := "Name", type := 9, offset := 0, embedded := false, tag := "", pkgPath := "", byteOffset := 0 }) rfl rfl (by simpa using hw))
   obtain ⟨b, e1, _⟩ := hZ.str underlying9 h1 (HC underlying61 (j := 1) (ds := [y0.1, y1.1]) (f := { name := "Value", type := 9, offset := 1, embedded := false, tag := "", pkgPath := "", byteOffset := 16 }) rfl rfl (by simpa using hw))
   cases e0; cases e1
   exact ⟨(a, b), rfl, trivial⟩
theorem zY : hZ prog 22 (ESl 2 G7) (fun xs => (∀ x ∈ xs, True) ∧ xs.length * 32 ≤ reachBytes) :=
 hZ.slice underlying22 (by kernel_rfl) (by kernel_rfl) (by decide) (by decide) zX
section
variable {H : Type} {enc : TypeId × Value → H} {W : World} {base : Nat} {v : Value} {d : DataW H} {ps : List MemPlace} {r : Reach}
end
theorem zZ {f : FuncId} {fn : Func} {s : ChangeSpec} {H : Type} {enc : TypeId × Value → H} {W : World} {args : Array Value} {ds gs : List (DataW H)} {before : List MemPlace} (hr : (fn.params.toList.all fun t => prog.readableRec t && Nat.blt t prog.types.size) = true)
   (hrt : fn.resultTypes = #[4]) (hv : s.vars = []) (M3 : (s.fn H (ds ++ gs)).results = [.lit (.bool true)] ∧ (s.fn H (ds ++ gs)).args = ds ∧ (s.fn H (ds ++ gs)).vars = [])
   (hW : DataW.Whole enc prog fn.params.toList s.vars false W args.toList ds gs before) (h : Lawful prog f args W) :
   Calls prog f args W fun e W' => ∃ v, e = .returned v ∧ s.post enc prog fn false true false false W args v W' :=
 h.calls.mono fun e W' ⟨he, hb⟩ => ⟨_, he, my laidOut hr hrt underlying4 hv M3 hW hb⟩
end Rw
end TwW
end
section
namespace TwW.Rw
open Go Tw TwW Go.Proofs.Tryz Go.Proofs.YtaaincfenibojaaGreatDoor
theorem CK {a b : Bool} (h1 : a = true) (h2 : b = true) : (a && b) = true := by rw [h1, h2]; rfl
theorem AGJ : mapsRowed prog = true := by kernel_rfl
theorem heard : prog.stopsHeard = true := by kernel_rfl
theorem enters : prog.mayEnter = true := by kernel_rfl
theorem za : (prog.stops == []) = true := by kernel_rfl
theorem zb : (prog.stopKnobs == []) = true := by kernel_rfl
theorem AGK : (Rows.distributorQuorumRow.lifted == prog.liftsFinal) = true := by kernel_rfl
theorem keys : (Rows.distributorQuorumRow.plainKeys == prog.plainKeys) = true := by kernel_rfl
theorem makes : (prog.make == some Rows.distributorQuorumRow.make) = true := by kernel_rfl
end TwW.Rw
end
section
namespace TwW
open Go Tw Go.RowKit Go.Proofs.Tryz
section
variable {σ σ' τ : Hp} {R : Rr}
theorem RT {q : Option Addr} {j c : Nat} {ls : List Lb} (ht : Nn σ q j ls) (hb : j * 32 ≤ 140737488355328)
   (h : ∀ p' c' σ', A3 2 G7 (σ.new σ') p' j c' ls → Ext σ σ' → R (.returned (.slice p' j c')) σ') : Spec prog 25 #[.slice q j c] σ R := by
 refine JT.start fun b hn => ?_
 obtain ⟨h1, cs, h2, h3⟩ := ht
 refine Dr Own.empty (h2.mono (.set hn)) (Ch.jB G7.one h3 (by decide)) (by omega) fun p' c' σ' AY Di => ?_
 have hq : ∀ a : Addr, (some (⟨b, 0, none⟩ : Addr)) = some a → σ a.block = none := fun a ha => by cases ha; exact hn
 rw [Nat.zero_add] at AY ⊢
 rw [List.nil_append] at AY
 exact ⟨_, _, _, rfl, h p' c' σ' ⟨h1, cs, Own.CC AY (Bb hq Di (.set hn)), h3⟩ (CL hq Di (.set hn))⟩
theorem bG {p : Option Addr} {n c : Nat} {ss : List Sm} (hr : GG σ p n ss) (hn : n * 40 ≤ 140737488355328) (hl : ∀ s ∈ ss, s.ls.length * 32 ≤ 140737488355328)
   (hR : ∀ p' c' σ', A3 3 Hq (σ.new σ') p' n c' ss → Ext σ σ' → R (.returned (.slice p' n c')) σ') : Spec prog 22 #[.slice p n c] σ R := by
 have Hy : ss.length = n := hr.1
 refine Ct.start ?_
 suffices H : ∀ d i : Nat, ∀ p6 c6 σ6, n - i = d → i ≤ n → A3 3 Hq (σ.new σ6) p6 i c6 (ss.take i) → Ext σ σ6 → Ct.Bu R p n c p6 i c6 i σ6 from H n 0 none 0 σ rfl (Nat.zero_le _) A3.nil (.refl σ)
 intro d
 induction d with
 | zero =>
   intro i p6 c6 σ6 hd hi ho hx
   have : i = n := by omega
   subst this
   refine Ct.BF ⟨fun Ag => by omega, fun _ => hR p6 c6 σ6 ?_ hx⟩
   rw [List.take_of_length_le (by omega)] at ho; exact ho
 | succ d ih =>
   intro i p6 c6 σ6 hd hi ho hx
   have HI : i < n := by omega
   obtain ⟨x, aY⟩ := hr.ex HI
   obtain ⟨b, o, q, k, c1, rfl, bN, h1⟩ := GG.at hr aY
   have hk : x.ls.length = k := h1.1
   have C5 := hl x (List.mem_of_getElem? aY)
   obtain ⟨l0, l1, l2, _⟩ := bN.mono hx
   refine Ct.BF ⟨fun _ => ⟨b, o, rfl, by omega, q, k, c1, by simpa using l0, by omega, x.t, by simpa using l1, by omega, x.v, by simpa [Nat.add_assoc] using l2, RT (h1.mono G7.mono hx) (by omega) fun q' j' σ1 hq BM => ⟨q', k, j', rfl, Kp.CA BM, fun JN zT => ?_⟩⟩, fun hh => by omega⟩
   have XZ : A3 3 Hq (σ.new σ1) p6 i c6 (ss.take i) := ho.mono Hq.mono (Ext.BN BM)
   have Yg : ∀ a, p6 = some a → σ6 a.block ≠ none := fun a ha => by
     have := ho.block a ha
     cases hh : (σ.new σ6) a.block with
     | none => exact absurd hh this
     | some oo => rw [(AS.1 hh).2]; simp
   have yn : Ext (σ6.new σ1) ((σ.new σ1).del p6) := Ext.Gj hx Yg
   have he : Hq ((σ.new σ1).del p6) [.slice q' k j', .int .i64 x.t, .int .u64 x.v] x := ⟨q', k, j', rfl, (hq.rd G7.mono).mono G7.mono yn⟩
   refine A3.H7 Hq.mono (hx.trans BM) XZ rfl (Hq.one _ _ _ he) he (by omega) (fun p' c2 σ2 Bt Ay => ⟨p', i + 1, c2, rfl, Aa HI hr.big, ih (i + 1) _ _ _ (by omega) (by omega) ?_ Ay⟩) zT
   rw [AO aY]; exact Bt
set_option maxRecDepth 100000 in
theorem AGL {x y : Operand} {a b a' b' : ByteArray} : YF prog (do eqGuard .neq 61 x y (.agg #[.string a, .string b]) (.agg #[.string a', .string b']); binOp .neq 61 (.agg #[.string a, .string b]) (.agg #[.string a', .string b'])) σ (.bool (!(a.toList == a'.toList && b.toList == b'.toList))) := fun w _ => by
 have u9 := underlying9
 have hS : prog.underlying 61 = some (.struct (prog.fieldsOf 61)) := by kernel_rfl
 have hp : prog.stoodInHeld 61 = false := by kernel_rfl
 have hf : (prog.fieldsOf 61).toList = [{ name := "Name", type := 9, offset := 0, embedded := false, tag := "", pkgPath := "", byteOffset := 0 }, { name := "Value", type := 9, offset := 1, embedded := false, tag := "", pkgPath := "", byteOffset := 16 }] := by kernel_rfl
 simp only [Sem.run_bind, run_eqGuard_agg _ _ _ _ _ _ _ (show prog.eqGuardType prog.depth 61 = false by kernel_rfl), Result.andThen_ok, run_neq_struct]
 rw [show (10000 : Nat) = 9999 + 1 from rfl, run_equalIn_agg w 9999 61 _ _ hS hp, hf]
 simp only [Op.eqFields]
 go_simp
 by_cases h1 : a.toList = a'.toList <;> by_cases h2 : b.toList = b'.toList <;> simp [h1, h2]
theorem bH {p p' : Option Addr} {n n' c c' : Nat} {ls : List Lb} (h1 : Nn σ p n ls) (h2 : Nn σ p' n' ls) (hR : R (.returned (.bool true)) σ) : Spec prog 26 #[.slice p n c, .slice p' n' c'] σ R := by
 have e1 : ls.length = n := h1.1
 have e2 : ls.length = n' := h2.1
 refine DM.start ⟨fun Ae => absurd (by omega) Ae, fun _ => ?_⟩
 suffices H : ∀ d i : Nat, n - i = d → i ≤ n → DM.Am R p n c p' n' c' i σ from H n 0 rfl (Nat.zero_le _)
 intro d
 induction d with
 | zero => exact fun i hd hi => DM.BB ⟨fun Ag => by omega, fun _ => hR⟩
 | succ d ih =>
   intro i hd hi
   obtain ⟨x, hx⟩ := h1.ex (show i < n by omega)
   obtain ⟨b, o, rfl, l1⟩ := Nn.at h1 hx
   obtain ⟨b', o', rfl, l2⟩ := Nn.at h2 hx
   exact DM.BB ⟨fun _ => ⟨b, o, rfl, by omega, x.1, x.2, by simpa using l1, b', o', rfl, by omega, x.1, x.2, by simpa using l2, _, AGL, fun hh => by simp at hh, fun _ => ⟨Aa (by omega) h1.big, ih (i + 1) (by omega) (by omega)⟩⟩, fun hh => by omega⟩
theorem Tj {α : Type} {P : α → Bool} : ∀ {l : List α} {i : Nat} {x : α}, l[i]? = some x → P x = true → (l.filter P)[((l.take i).filter P).length]? = some x
 | y :: l, 0, x, h, hp => by
   simp at h; subst h; simp [hp]
 | y :: l, i + 1, x, h, hp => by
   have := Tj (l := l) (i := i) (by simpa using h) hp
   cases hy : P y <;> simpa [hy] using this
theorem sum_add {α : Type} (f g : α → Nat) : ∀ l : List α, (l.map fun x => f x + g x).sum = (l.map f).sum + (l.map g).sum
 | [] => rfl
 | x :: l => by simp only [List.map_cons, List.sum_cons, sum_add f g l]; omega
theorem YG {k : Nat} : ∀ {rs : List Int}, rs.Nodup → (∀ x ∈ rs, 0 ≤ x ∧ x < (k : Int)) → ((List.range k).map fun (j : Nat) => if (j : Int) ∈ rs then 1 else 0).sum = rs.length := by
 induction k with
 | zero =>
   intro rs _ h
   cases rs with
   | nil => rfl
   | cons x l => have := h x (by simp); omega
 | succ k ih =>
   intro rs hn h
   rw [List.range_succ, List.map_append, List.sum_append]
   by_cases hk : (k : Int) ∈ rs
   · have h1 := ih (rs := rs.erase k) (hn.erase _) fun x hx => by
       have h2 := h x (List.mem_of_mem_erase hx)
       have : x ≠ k := fun e => by rw [e] at hx; exact (hn.mem_erase_iff.1 hx).1 rfl
       omega
     have h2 : ((List.range k).map fun (j : Nat) => if (j : Int) ∈ rs.erase k then 1 else 0) = (List.range k).map fun (j : Nat) => if (j : Int) ∈ rs then 1 else 0 := List.map_congr_left fun j hj => by
       have : (j : Int) ≠ k := by have := List.mem_range.1 hj; omega
       simp [hn.mem_erase_iff, this]
     rw [h2] at h1
     rw [h1, List.length_erase_of_mem hk]
     have := List.length_pos_of_mem hk
     simp [hk]; omega
   · have h1 := ih hn fun x hx => by
       have h2 := h x hx
       have : x ≠ k := fun e => hk (e ▸ hx)
       omega
     rw [h1]; simp [hk]
theorem Tk {k r : Nat} : ∀ {ps : List Part}, (∀ p ∈ ps, p.rs.Nodup ∧ p.rs.length = r ∧ ∀ x ∈ p.rs, 0 ≤ x ∧ x < (k : Int)) → ((List.range k).map fun (j : Nat) => (ps.filter (BL j)).length).sum = r * ps.length
 | [], _ => by
   have : ∀ l : List Nat, (l.map fun _ => 0).sum = 0 := fun l => by induction l <;> simp_all
   simpa using this (List.range k)
 | p :: ps, h => by
   have h1 := Tk (k := k) (r := r) (ps := ps) fun x hx => h x (by simp [hx])
   obtain ⟨a, b, c⟩ := h p (by simp)
   have h2 := YG a c
   have h3 : ((List.range k).map fun (j : Nat) => ((p :: ps).filter (BL j)).length) = (List.range k).map fun (j : Nat) => (if (j : Int) ∈ p.rs then 1 else 0) + (ps.filter (BL j)).length := List.map_congr_left fun j _ => by
     by_cases hj : (j : Int) ∈ p.rs
     · simp [BL, hj]; omega
     · simp [BL, hj]
   rw [h3, sum_add, h2, h1, b, List.length_cons, Nat.mul_succ]; omega
theorem nB {α : Type} {f : α → Nat} {B : Nat} (hf : ∀ x, f x ≤ B) : ∀ l : List α, (l.map f).sum ≤ l.length * B
 | [] => by simp
 | x :: l => by
   have := nB hf l
   have := hf x
   simp only [List.map_cons, List.sum_cons, List.length_cons, Nat.succ_mul]; omega
theorem iB {ten : ByteArray} {ss : List Sm} (h : Ga ten 16 100 ss = 0) : ss.length ≤ 100 ∧ ∀ s ∈ ss, GH s.ls := by
 unfold Ga at h
 split at h
 · cases h
 · split at h
   · cases h
   · rename_i h2
     exact ⟨by omega, fun s hs => Qt (No h s hs)⟩
theorem YH {x0 x1 : Int} {p2 : Option Addr} {n2 c2 : Nat} {ss : List Sm} (ht : Tb σ) (hs : GG σ p2 n2 ss) (h40 : n2 * 40 ≤ 140737488355328) (hl : ∀ s ∈ ss, s.ls.length * 32 ≤ 140737488355328) (hR : ∀ σ', Ext σ σ' → R (.returned (.bool true)) σ') :
   Spec prog 5 #[.int .i64 x0, .int .i64 x1, .slice p2 n2 c2] σ R := by
 have aw : ∀ {σ' : Hp}, Ext σ σ' → Spec prog 13 #[] σ' (AB R (CB fun t71 Ek => R (.returned (.bool t71)) Ek)) := fun hx => YE (ht.mono hx) fun Ph Ci => ⟨_, rfl, hR _ (hx.trans Ci)⟩
 have Hy : ss.length = n2 := hs.1
 have hrf := rz x0
 obtain ⟨rk, mW⟩ : ∃ rk : Nat, Ip x0 = rk := ⟨(Ip x0).toNat, by omega⟩
 obtain ⟨r0, r3⟩ := X9 (x := SC x1) (k := 4) di.1 (by decide)
 obtain ⟨n, hnn⟩ : ∃ n : Nat, Ip x0 + Int.tmod (SC x1) 4 = n := ⟨(Ip x0 + Int.tmod (SC x1) 4).toNat, by omega⟩
 refine AT.start (Ol ⟨_, _, _, _, _, _, _, _, _, _, _, rfl, fun b7 => ⟨Nt ⟨_, rfl, by decide, fun Fp nu => ⟨by subst nu; unfold AN; omega, ?_, fun b8 => ?_⟩⟩, fun b8 => Nt ⟨_, rfl, by decide, fun Fp nu => ⟨by subst nu; unfold AN; omega, ?_⟩⟩⟩⟩)
 all_goals rw [nu, hnn]
 all_goals refine RL (n := n) (by omega) fun pr cr σ2 ms SJ hg Ay => ⟨_, _, _, _, rfl, ?_⟩
 intro _
 all_goals
   refine X8 fun bd md cz hbd Ae => ⟨_, rfl, ?_⟩
   generalize fU : (σ2.set md (.map #[] 0)).set bd (Im (Ip x0) 30 5 false md) = σ3
   have C6 : Ext σ2 σ3 := by rw [← fU]; exact (Ext.set cz).trans (.set (by rw [Hp.AH Ae]; exact hbd))
   have nr : σ3 bd = some (Im (Ip x0) 30 5 false md) := by rw [← fU, Hp.AA]
   refine Om (K := [F6]) (e := 2 * n) (by simp) (by simp) (ht.mono (Ay.trans C6)) (SJ.mono EA.mono C6) hg.ok hg.tok (by omega) fun dk bb s sb σ4 D W rows ts τ4 hk4 OS hs4 ha4 hc4 _ htr _ Uj => ⟨_, _, rfl, fun hh => (by cases hh), fun _ => ⟨fun hh => (by cases hh), fun _ => ?_⟩⟩
   have LW : Ext σ3 σ4 := Uj.trans hk4.ext
   have AGM : Ext σ σ4 := (Ay.trans C6).trans LW
   refine bG (hs.mono Hq.mono AGM) h40 hl fun Rp S5 σ5 dE OU => ⟨_, _, _, rfl, ?_⟩
   have zc : Ext σ σ5 := AGM.trans OU
   have hrs : GG σ5 Rp n2 ss := (dE.rd Hq.mono).mono Hq.mono (Ext.Af _ _)
   have RG : rk ≤ (Bz ms).length := by rw [hg.Bz]; simp; omega
   have ri : Nq σ5 pr n ms := SJ.mono EA.mono ((C6.trans LW).trans OU)
   refine YD (rk := rk) (OU _ _ (LW _ _ nr)) (hk4.mono OU) OS.up htr (by omega) (by omega) mW RG hrs (fun hh => by cases hh) (fun qQ σ6 L8 => ?_) fun hz pb σ6 mv L8 hP => ?_
   · generalize Ga _ 16 100 ss = e at qQ
     unfold R9
     rw [if_neg qQ]
     split
     · exact ⟨_, _, rfl, fun _ => ⟨fun hh => absurd hh (by decide), fun _ => ⟨fun _ => ⟨fun _ => aw (zc.trans L8), fun hh => (by cases hh)⟩, fun hh => absurd rfl hh⟩⟩, fun hh => absurd (by decide) hh⟩
     · exact ⟨_, _, rfl, fun _ => ⟨fun _ => ⟨fun _ => aw (zc.trans L8), fun hh => (by cases hh)⟩, fun hh => absurd rfl hh⟩, fun hh => absurd (by decide) hh⟩
   obtain ⟨ATY, Ky⟩ := iB hz
   refine ⟨_, _, rfl, fun hh => absurd rfl hh, fun _ => ⟨fun hh => (by cases hh), fun _ => Ly (hP.at.mono (Ext.Af _ _)) fun Zi YY c75 σ7 L yw L9 VW hm => ⟨_, _, _, rfl, ?_⟩⟩⟩
   have AGN := (hP.at.mono (Ext.Af σ5 σ6)).mono L9
   have hL7 : B9 .i64 σ7 Zi YY L := yw.rd.mono (Ext.Af _ _)
   have AGO : Ext σ σ7 := (zc.trans L8).trans L9
   have VQ : Nq σ7 pr n ms := ri.mono EA.mono (L8.trans L9)
   have hpx : ∀ (i : Nat) (s : Sm), ss[i]? = some s → (ss.map (partOf ms rk))[i]? = some (partOf ms rk s) := fun i s h => by rw [List.getElem?_map, h]; rfl
   have l7 : (ss.map (partOf ms rk)).length = n2 := by rw [List.length_map, Hy]
   have D3 : ∀ p ∈ ss.map (partOf ms rk), p.rs.Nodup ∧ p.rs.length = rk ∧ ∀ x ∈ p.rs, 0 ≤ x ∧ x < ((16 : Nat) : Int) := fun p hp => by
     obtain ⟨s, _, rfl⟩ := List.mem_map.1 hp
     have h1 := RR (h := TQ s.ls) (k := rk) hg (by omega)
     refine ⟨h1.1, h1.2, fun x hx => ?_⟩
     have h2 := (TW hg.ok).1 (List.mem_of_mem_take hx)
     rw [hg.Bz] at h2
     obtain ⟨k, hk, rfl⟩ := List.mem_map.1 h2
     have := List.mem_range.1 hk
     omega
   generalize ss.map (partOf ms rk) = ps at hP hm AGN hpx l7 D3
   have AGP := Tk D3
   rw [l7] at AGP
   have hmul : rk * n2 ≤ 5 * 100 := Nat.mul_le_mul (by omega) (by omega)
   have AGQ : Ip x0 * (n2 : Int) = ((rk * n2 : Nat) : Int) := by rw [mW, Int.natCast_mul]
   suffices H : ∀ d k : Nat, ∀ σc, 16 - k = d → k ≤ 16 → Ext σ7 σc → AT.Zn R p2 n2 c2 0 (Ip x0) 0 0 30 5 0 100 16 100 false (2 * n : Nat) pr n cr (some ⟨pb, 0, none⟩) Zi YY c75 (((List.range k).map fun (j : Nat) => (ps.filter (BL j)).length).sum : Nat) k σc from H 16 0 σ7 rfl (Nat.zero_le _) (.refl _)
   intro d
   induction d with
   | zero =>
     intro k σc hd hk ia
     obtain rfl : k = 16 := by omega
     refine AT.cb ⟨fun Ag => by omega, fun _ => ?_⟩
     rw [AGP, AGQ]
     exact ⟨by unfold AN; omega, fun _ => aw (AGO.trans ia), fun Ae => absurd rfl Ae⟩
   | succ d ih =>
     intro k σc hd hk ia
     refine AT.cb ⟨fun _ => RB (AGN.mono ia) fun p83 r8 c83 σ8 rZ O2 => ⟨_, _, _, _, rfl, RS (hL7.mono (ia.trans O2)) ⟨_, rfl, ?_⟩⟩, fun hh => by omega⟩
     have vD : GG σ8 p83 r8 ((ps.filter (BL k)).map (·.s)) := (rZ.rd Hq.mono).mono Hq.mono (Ext.Af _ _)
     have ig : (ps.filter (BL k)).length = r8 := by have := vD.1; simpa using this
     have hle : r8 ≤ 100 := by
       have := List.length_filter_le (BL k) ps
       omega
     have AEX : ((List.range k).map fun (j : Nat) => (ps.filter (BL j)).length).sum ≤ k * 100 := by
       have := nB (B := 100) (f := fun (j : Nat) => (ps.filter (BL j)).length) (fun j => by have := List.length_filter_le (BL j) ps; omega) (List.range k)
       rwa [List.length_range] at this
     have hnx : ((List.range (k + 1)).map fun (j : Nat) => (ps.filter (BL j)).length).sum = ((List.range k).map fun (j : Nat) => (ps.filter (BL j)).length).sum + r8 := by
       rw [List.range_succ, List.map_append, List.sum_append]; simp [ig]
     have AGR : (k : Int) ∈ L ↔ 0 < r8 := by
       rw [hm, ← ig, List.length_pos_iff_exists_mem]
       simp only [List.mem_filter, BL, decide_eq_true_eq]
     have go : AN ((((List.range k).map fun (j : Nat) => (ps.filter (BL j)).length).sum : Nat) + (r8 : Int)) ∧ AT.fI R p2 n2 c2 0 (Ip x0) 0 0 30 5 0 100 16 100 false (2 * n : Nat) pr n cr (some ⟨pb, 0, none⟩) Zi YY c75 ((((List.range k).map fun (j : Nat) => (ps.filter (BL j)).length).sum : Nat) + (r8 : Int)) k p83 r8 c83 0 0 σ8 := by
       refine ⟨by unfold AN; omega, ?_⟩
       have AM7 : AN ((k : Int) + 1) := by unfold AN; omega
       rw [← Int.natCast_add, ← hnx]
       have out : ∀ σd, Ext σ8 σd → AT.Zn R p2 n2 c2 0 (Ip x0) 0 0 30 5 0 100 16 100 false (2 * n : Nat) pr n cr (some ⟨pb, 0, none⟩) Zi YY c75 (((List.range (k + 1)).map fun (j : Nat) => (ps.filter (BL j)).length).sum : Nat) ((k : Int) + 1) σd := fun σd SE => ih (k + 1) σd (by omega) (by omega) ((ia.trans O2).trans SE)
       generalize (((List.range (k + 1)).map fun (j : Nat) => (ps.filter (BL j)).length).sum : Int) = tt at out
       clear ih hnx AEX
       suffices G : ∀ e i : Nat, ∀ σd, n2 - i = e → i ≤ n2 → Ext σ8 σd → AT.fI R p2 n2 c2 0 (Ip x0) 0 0 30 5 0 100 16 100 false (2 * n : Nat) pr n cr (some ⟨pb, 0, none⟩) Zi YY c75 tt k p83 r8 c83 (((ps.take i).filter (BL k)).length : Nat) i σd from G n2 0 σ8 rfl (Nat.zero_le _) (.refl _)
       intro e
       induction e with
       | zero =>
         intro i σd he hi SE
         obtain rfl : i = n2 := by omega
         refine AT.cg ⟨fun Ag => by omega, fun _ => ?_⟩
         rw [List.take_of_length_le (by omega), ig]
         exact ⟨fun Ae => absurd rfl Ae, fun _ => ⟨AM7, out σd SE⟩⟩
       | succ e ihe =>
         intro i σd he hi SE
         have HI : i < n2 := by omega
         have r9 : Ext σ σd := ((AGO.trans ia).trans O2).trans SE
         obtain ⟨s, oI⟩ := hs.ex HI
         obtain ⟨b, o, q, j, c1, rfl, bN, h1⟩ := GG.at hs oI
         have hss := Ky s (List.mem_of_getElem? oI)
         have hj : s.ls.length = j := h1.1
         have ATa := hss.1
         have qZ := hpx i s oI
         refine AT.cg ⟨fun _ => ⟨b, o, rfl, by omega, q, j, c1, by simpa using (bN.mono r9).1, RT (h1.mono G7.mono r9) (by omega) fun q' j' σe hq O8 => ⟨_, _, _, rfl, TR ((hq.rd G7.mono).mono G7.mono (Ext.Af _ _)) hss ⟨_, rfl, LZ (VQ.mono EA.mono (((ia.trans O2).trans SE).trans O8)) hg.ok.small ⟨fun hb => absurd ⟨hg.ok, by omega, by omega⟩ hb, fun _ _ _ Ag => (by omega), fun _ _ _ k' DK _ q2 d2 σf qP hxf => ?_⟩⟩⟩⟩, fun hh => by omega⟩
         obtain rfl : k' = rk := by omega
         have sA : Ext σd σf := O8.trans hxf
         have Ck : BL k (partOf ms k' s) = decide ((k : Int) ∈ (round ms (TQ s.ls)).take k') := rfl
         refine ⟨_, _, _, _, rfl, fun Ae => absurd rfl Ae, fun _ => RS (qP.rd.mono (Ext.Af _ _)) ⟨_, rfl, fun BX => ?_, fun zd => ?_⟩⟩
         · rw [← Ck] at BX
           refine AT.cn ⟨Aa HI hs.big, ?_⟩
           have := ihe (i + 1) σf (by omega) (by omega) (SE.trans sA)
           rw [AO qZ, List.filter_append] at this
           simpa [BX] using this
         · rw [← Ck] at zd
           have dV := Tj qZ zd
           have Ag := (List.getElem?_eq_some_iff.1 dV).1
           have hfm : ((ps.filter (BL k)).map (·.s))[((ps.take i).filter (BL k)).length]? = some (partOf ms k' s).s := by rw [List.getElem?_map, dV]; rfl
           obtain ⟨b', o', q3, j3, c3, rfl, AM8, Uh⟩ := GG.at vD hfm
           have ze := SE.trans sA
           have ld1 := AM8.mono ze
           have ld2 := bN.mono (r9.trans sA)
           refine ⟨fun FB => absurd FB (by omega), fun _ => ⟨b', o', rfl, by omega, q3, j3, c3, by simpa using ld1.1, by omega, q, j, c1, by simpa using ld2.1, bH (ls := s.ls) (Uh.mono G7.mono ze) (h1.mono G7.mono (r9.trans sA)) ⟨_, rfl, fun hh => (by cases hh), fun _ => ⟨by omega, (partOf ms k' s).s.t, by simpa using ld1.2.1, by omega, s.t, by simpa using ld2.2.1, fun Ae => absurd rfl Ae, fun _ => ⟨by unfold AN; omega, AT.cn ⟨Aa HI hs.big, ?_⟩⟩⟩⟩⟩⟩
           have := ihe (i + 1) σf (by omega) (by omega) ze
           rw [AO qZ, List.filter_append] at this
           simpa [zd] using this
     refine ⟨fun Ix => ⟨fun _ => ⟨fun Ae => absurd rfl Ae, fun _ => go⟩, fun hf => ?_⟩, fun hnp => ⟨fun ht => ?_, fun _ => ⟨fun Ae => absurd rfl Ae, fun _ => go⟩⟩⟩
     · exact absurd (AGR.2 (by omega)) (of_decide_eq_false hf)
     · exact absurd (AGR.1 (of_decide_eq_true ht)) (by omega)
end
end TwW
end
section
namespace TwW
open Go Tw Go.RowKit Go.ChangeShapes Go.WideShapes Go.ChangeAt Go.Deep Go.Proofs.Tryz
namespace Rw
set_option maxRecDepth 100000 in
theorem zf : hZ prog 25 Hq (fun s => s.ls.length * 32 ≤ reachBytes) := by
 intro H enc w base sp held fuel cs x h hw
 obtain ⟨xs, n, _, rfl, hlen, Rg, hg⟩ := DataW.trod_struct underlying25 h
 rw [show prog.cellsOf 25 = 3 by kernel_rfl] at hlen
 match cs, hlen, xs, Rg with
 | [c0, c1, c2], _, [y0, y1, y2], _ =>
   have h0 := hg 0 _ rfl
   have h1 := hg 1 _ rfl
   have h2 := hg 2 _ rfl
   simp only [show prog.cellsOf 22 = 1 by kernel_rfl, show prog.cellsOf 2 = 1 by kernel_rfl, show prog.cellsOf 23 = 1 by kernel_rfl, List.drop, List.take, List.getElem?_cons_zero, List.getElem?_cons_succ] at h0 h1 h2
   obtain ⟨ls, ⟨p, k, c, e0, hr⟩, hI, hL⟩ := zY h0 (HC underlying25 (j := 0) (ds := [y0.1, y1.1, y2.1]) (f := { name := "Labels", type := 22, offset := 0, embedded := false, tag := "", pkgPath := "", byteOffset := 0 }) rfl rfl (by simpa using hw))
   obtain ⟨a, e1, _, wa⟩ := DataW.trod_int underlying2 h1
   obtain ⟨b, e2, _, wb⟩ := DataW.trod_int underlying23 h2
   cases e0; cases e1; cases e2
   exact ⟨⟨ls, a, b⟩, ⟨p, k, c, rfl, hr⟩, hL⟩
theorem sB : hZ prog 46 (ESl 3 Hq) (fun xs => (∀ x ∈ xs, x.ls.length * 32 ≤ reachBytes) ∧ xs.length * 40 ≤ reachBytes) :=
 hZ.slice underlying46 (by kernel_rfl) (by kernel_rfl) (by decide) (by decide) zf
section
variable {H : Type} {enc : TypeId × Value → H} {W : World} {base : Nat} {v : Value} {d : DataW H} {ps : List MemPlace} {r : Reach}
set_option maxRecDepth 100000 in
theorem nC (hv : Value.okWide prog W r base 46 v) (h : DataW.Trod enc prog W 0 (fun _ => true) true 46 v d ps) (hw : ∀ n ∈ d.weights prog 46, n ≤ reachBytes) :
   ∃ p n c ss, v = .slice p n c ∧ GG (full W) p n ss ∧ n * 40 ≤ 140737488355328 ∧ ∀ s ∈ ss, s.ls.length * 32 ≤ 140737488355328 := by
 obtain ⟨a, l, c, rfl⟩ := okWide_slice underlying46 hv
 obtain ⟨fuel, hf⟩ := h
 obtain ⟨xs, ⟨p, n, c', e, hr⟩, hI, hz⟩ := sB hf hw
 have e' : [Value.slice a l c] = [.slice p n c'] := by simpa [Value.cells] using e
 cases e'
 have hn : xs.length = l := hr.1
 unfold reachBytes at hz hI
 exact ⟨a, l, c, xs, rfl, hr, by omega, fun s hs => by have := hI s hs; omega⟩
end
end Rw
end TwW
end
