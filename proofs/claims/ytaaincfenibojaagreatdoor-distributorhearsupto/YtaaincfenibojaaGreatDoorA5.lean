/-
  Part 5 of the proof that the law DistributorHearsUptoCardSaid of the given program answers true for every input of the given statement; the input reads behind the call as it did. (The texts: packed from 26 texts. Names are shortened by the packing program, for the bound on size.)
-/
import Derived.Test.YtaaincfenibojaaGreatDoorA4
import Derived.Shelf.LaysM
import Derived.Shelf.LaysC
import Derived.Shelf.Sort.Plain
import Derived.Ground.Names2Prog
import Derived.Shelf.Slices.CompactI
import Derived.Shelf.Slices.Cells
import Derived.Shelf.Slices.In.SortNone
import Derived.Test.YtaaincfenibojaaGreatDoorProg
import Derived.Shelf.SlSortCmp.NoneTotal
import Derived.Ground.SlsfProg
import Derived.Laws.BytesArg
set_option linter.all false
section
set_option maxRecDepth 100000
noncomputable section
namespace TwW
open Go Tw Go.Proofs.Tryz
variable [I7] {R : Rr} {σ : Hp}

namespace B6
variable {p0 : Option Addr} {n0 c0 : Nat} {x1 x2 x3 Di Eg Du : Int} {t8 t9 : Bool}
def M : Fw := ⟨prog, 305, f305, [305, 322, 323, 324, 325, 326, 327, 328, 329, 330], [], false, [], [], [(112, [(0, wL), (1, wI), (2, wI), (3, wI), (8, wB), (9, wB)]), (1822, [(0, wL), (1, wI), (2, wI), (3, wI), (8, wB), (9, wB), (10, wI)]), (14588, [(0, wL), (1, wI), (2, wI), (3, wI), (8, wB), (9, wB), (10, wI), (11, wI), (12, wI)]), (29180, [(0, wL), (1, wI), (2, wI), (3, wI), (8, wB), (9, wB), (10, wI), (11, wI)])]⟩
theorem ok : M.Ok := ⟨.cons call305 (.cons call322 (.cons call323 (.cons call324 (.cons call325 (.cons call326 (.cons call327 (.cons call328 (.cons call329 (.cons call330 (AM.nil)))))))))), mixed, func305, by kernel_rfl⟩
def Ns := M.pt 0
def QT := M.pt 1
theorem start (h : Ns R p0 n0 c0 x1 x2 x3 true true σ) : Spec prog 305 #[.slice p0 n0 c0, .int .i64 x1, .int .i64 x2, .int .i64 x3] σ R := M.start h ok
theorem EJ (h : AO (x2 - x1) ∧ Br (((x2 - x1) : Int) ≤ 12) (Spec prog 322 #[.slice p0 n0 c0, .int .i64 x1, .int .i64 x2] σ (AB R (fun z y => z = (.tuple #[]) ∧ R (.returned (.tuple #[])) y))) (Br (x3 = 0) (Spec prog 323 #[.slice p0 n0 c0, .int .i64 x1, .int .i64 x2] σ (AB R (fun z y => z = (.tuple #[]) ∧ R (.returned (.tuple #[])) y))) (Bn t8 (Spec prog 324 #[.slice p0 n0 c0, .int .i64 x1, .int .i64 x2] σ (AB R (fun z y => z = (.tuple #[]) ∧ AO (x3 - 1) ∧ QT R p0 n0 c0 x1 x2 (x3 - 1) false t9 (x2 - x1) y))) (QT R p0 n0 c0 x1 x2 x3 true t9 (x2 - x1) σ)))) : Ns R p0 n0 c0 x1 x2 x3 t8 t9 σ := M.of h ok rfl
end B6
end TwW
end
end
section
namespace TwW
open Go Tw Go.Proofs.Tryz
set_option maxRecDepth 100000 in
theorem mQ {R : Rr} {σ : Hp} {n : Nat} (hn : n < 256) (h : ∀ x, R (.returned (.int .i64 x)) σ) : Spec prog 113 #[.int .u64 n] σ R := by
 refine Lk.start (DQ.start ⟨fun h1 => by omega, fun _ => DQ.F5 ⟨fun h1 => by omega, fun _ => DQ.Gm ⟨fun h1 => by omega, fun _ => DQ.rP fun x hx => ?_⟩⟩⟩)
 have : x = (n : Int) := by rw [hx]; simp [IntKind.wrap, IntKind.bits, IntKind.signed]; omega
 subst this
 refine ⟨_, by omega, Array.getElem?_eq_getElem (by show Int.toNat (n : Int) < 256; omega), fun Po sK => ⟨?_, _, rfl, h _⟩⟩
 generalize hu : UInt8.toNat _ = u at sK
 have hu2 : u < 256 := by rw [← hu]; exact UInt8.toNat_lt _
 rw [sK, IntKind.wrap_i64]
 unfold AO
 omega
theorem gb {R : Rr} {σ : Hp} {p : Option Addr} {n c : Nat} {xs : List Int} {Q : Int → Prop} (hQ : ∀ x ∈ xs, Q x) (ho : AS .u32 σ p n c xs) (hn : n ≤ 12)
   (h : ∀ σ' ys, (∀ y ∈ ys, Q y) → AS .u32 σ' p n c ys → Ext (σ.del p) (σ'.del p) → Asc ys n (fun _ => True) → R (.returned (.tuple #[])) σ') : Spec prog 264 #[.slice p n c] σ R := by
 refine HD.start fun x8 Qy => ?_
 have : x8 = (n : Int) := by rw [Qy]; simp [IntKind.wrap, IntKind.bits, IntKind.signed]; omega
 subst this
 refine mQ (by omega) fun x => ⟨x, rfl, B6.start (B6.EJ ⟨by unfold AO; omega, fun _ => ?_, fun hgt => by omega⟩)⟩
 refine RO hQ ho fun σ' ys h0 h1 h2 h3 => ⟨rfl, rfl, h σ' ys h0 h1 h2 h3⟩
theorem mR {xs : List Int} (h : EY xs) {a b : Nat} {x y : Int} (gK : a < b) (hx : xs[a]? = some x) (hy : xs[b]? = some y) : x < y := by
 unfold EY at h
 have := (List.pairwise_iff_getElem (R := ((· < ·) : Int → Int → Prop))).1 h a b (List.getElem?_eq_some_iff.1 hx).1 (List.getElem?_eq_some_iff.1 hy).1 gK
 rwa [(List.getElem?_eq_some_iff.1 hx).2, (List.getElem?_eq_some_iff.1 hy).2] at this
theorem zF : ∀ z w, (zeroValue 70).run prog w = .ok z w → CU z.cells.toList := fun z w h => by
 rw [show (zeroValue 70).run prog w = _ from Go.Proofs.Tryz.zeroValue70 w] at h
 cases h
 intro u hu
 simp [Value.cells] at hu
 subst hu; rfl
theorem VQ {R : Rr} {σ : Hp} {p : Option Addr} {n c : Nat} {xs : List Int} {Q : Int → Prop} (hQ : ∀ x ∈ xs, Q x) (ho : AS .u32 σ p n c xs) (hs : Asc xs n (fun _ => True)) (jA : 0 < n)
   (h : ∀ σ' m ys, (∀ y ∈ ys, Q y) → AS .u32 σ' p m c ys → Ext (σ.del p) (σ'.del p) → EY ys → 0 < m → m ≤ n → R (.returned (.slice p m c)) σ') : Spec prog 265 #[.slice p n c] σ R := by
 have hb := ho.rd.big
 have Vq := ho.rd.1
 refine AZ.start ⟨fun Ag => h σ n xs hQ ho (Ext.refl _) (JU (by omega)) jA (Nat.le_refl _), fun F8 => ?_⟩
 suffices H : ∀ d k : Nat, n - k = d → 0 < k → k ≤ n → EY (xs.take k) → AZ.Ap R p n c k σ from H (n - 1) 1 rfl (by omega) (by omega) (JU (by simp; omega))
 intro d
 induction d with
 | zero =>
   intro k hd hk LF XQ
   refine AZ.BI ⟨fun Ag => by omega, fun _ => h σ n xs hQ ho (Ext.refl _) ?_ jA (Nat.le_refl _)⟩
   rwa [List.take_of_length_le (by omega)] at XQ
 | succ d ih =>
   intro k hd hk LF XQ
   refine AZ.BI ⟨fun Ag => ?_, fun F8 => by omega⟩
   have Dh : k < n := by omega
   obtain ⟨x, hx⟩ := ho.rd.ex Dh
   obtain ⟨y, hy⟩ := ho.rd.ex (k := k - 1) (by omega)
   obtain ⟨b, o, hp, hl⟩ := ho.rd.at hx
   obtain ⟨b', o', he, TK⟩ := ho.rd.at hy
   rw [hp] at he; cases he
   have e : ((k : Int) - 1) = ((k - 1 : Nat) : Int) := by omega
   have hyx : y ≤ x := hs (k - 1) k y x (by omega) Dh trivial hy hx
   refine ⟨b, o, hp, by omega, x, by simpa using hl, by unfold AO; omega, by omega, y, by rw [e]; simpa using TK, fun heq => ⟨by omega, ?_⟩, fun Ad => ⟨Ah Dh hb, by rw [Mc hp]; exact ih (k + 1) (by omega) (by omega) (by omega) (Kw hk hy hx XQ (by omega))⟩⟩
   rw [Mc hp]
   have yc : n ≤ c := ho.room.1
   suffices H2 : ∀ d2 i j : Nat, ∀ σ' zs, (∀ z ∈ zs, Q z) → n - i = d2 → i ≤ n → 0 < j → j < i → k < i → AS .u32 σ' p n c zs → Ext (σ.del p) (σ'.del p) → (∀ a, i ≤ a + 1 → zs[a]? = xs[a]?) → EY (zs.take j) → zs[j - 1]? = xs[i - 1]? →
       AZ.W7 R p n c j (GP p k c 1) (n - k) (c - k) ((i - k : Nat) : Int) σ' by
     have := H2 (n - (k + 1)) (k + 1) k σ xs hQ rfl (by omega) hk (by omega) (by omega) ho (Ext.refl _) (fun _ _ => rfl) XQ (by rw [hy, show k + 1 - 1 = k by omega, hx]; simp; omega)
     simpa using this
   intro d2
   induction d2 with
   | zero =>
     intro i j σ' zs zG PN C9 hj0 Yo hki Aa fj hag hrj Jn
     refine AZ.JO ⟨fun Ag => by omega, fun _ => ⟨by omega, ?_⟩⟩
     obtain ⟨_, L, hC, hL⟩ := Aa.room
     refine eJ (s := 1) (j := j) (L := L) (by simpa using hC) (by simp; omega) zF fun σ2 ws hws zH An => ⟨by omega, ?_⟩
     refine h σ2 j (zs.take j) (fun z hz => zG z (List.mem_of_mem_take hz)) ?_ (fj.trans An) hrj hj0 (by omega)
     have := zH.own (n := j) (by omega) (by omega)
     have hLl : L.length = c * 1 := hC.1
     suffices he : List.take (j * 1) (over L (j * 1) ws) = (zs.take j).map (.int .u32) by
       show Own 1 σ2 p j c ((zs.take j).map (.int .u32))
       rw [← he]; exact this
     unfold over
     rw [List.append_assoc, List.take_append_of_le_length (by simp; omega), List.take_take, Nat.min_self]
     rw [List.map_take, ← hL, List.take_take, Nat.mul_one, Nat.mul_one, Nat.min_eq_left (by omega)]
   | succ d2 sL =>
     intro i j σ' zs zG PN C9 hj0 Yo hki Aa fj hag hrj Jn
     have hzl := Aa.rd.1
     refine AZ.JO ⟨fun Ag => ?_, fun F8 => by omega⟩
     have Jl : i < n := by omega
     obtain ⟨u, hu⟩ := Aa.rd.ex Jl
     obtain ⟨v, hv⟩ := Aa.rd.ex (k := i - 1) (by omega)
     obtain ⟨b1, o1, sM, NM⟩ := Aa.rd.at hu
     obtain ⟨b2, o2, Xc, SX⟩ := Aa.rd.at hv
     rw [hp] at sM Xc; cases sM; cases Xc
     have huo : xs[i]? = some u := by rw [← hag i (by omega)]; exact hu
     have hvo : xs[i - 1]? = some v := by rw [← hag (i - 1) (by omega)]; exact hv
     have hvu : v ≤ u := hs (i - 1) i v u (by omega) Jl trivial hvo huo
     have dV : GP p k c 1 = some ⟨b, o + k, none⟩ := by rw [hp]; simp [GP, show c ≠ k by omega, MX]
     have e1 : o + k + (i - k) = o + i := by omega
     have e2 : ((i - k : Nat) : Int) - 1 = ((i - 1 - k : Nat) : Int) := by omega
     have e3 : o + k + (i - 1 - k) = o + (i - 1) := by omega
     have r6 : Hp.ld σ' ⟨b, o + k + Int.toNat ((i - k : Nat) : Int) * 1, none⟩ = some (.int .u32 u) := by
       rw [Int.toNat_natCast, Nat.mul_one, e1]; simpa using NM
     have hlv : Hp.ld σ' ⟨b, o + k + Int.toNat (((i - k : Nat) : Int) - 1) * 1, none⟩ = some (.int .u32 v) := by
       rw [e2, Int.toNat_natCast, Nat.mul_one, e3]; simpa using SX
     refine ⟨b, o + k, dV, by omega, u, r6, by unfold AO; omega, by omega, v, hlv, fun Ad => ⟨by omega, u, r6, b, o, hp, by omega, ?_⟩, fun heq => AZ.dA ⟨by unfold AO; omega, ?_⟩⟩
     · suffices H3 : ∀ σ2, AS .u32 σ2 p n c (zs.set j u) → Ext (σ'.del p) (σ2.del p) → AO ((j : Int) + 1) ∧ AZ.qp R (some ⟨b, o, none⟩) n c ((j : Int) + 1) (some ⟨b, o + k, none⟩) (n - k) (c - k) ((i - k : Nat) : Int) σ2 by
         obtain ⟨b3, o3, od, mO⟩ := AS.ZJ Aa (P := prog) (T := 70) (i := j) (v := u) (by omega) mN H3
         rw [hp] at od; cases od
         simpa using mO
       intro σ2 Ox An
       refine ⟨by unfold AO; omega, AZ.dA ⟨by unfold AO; omega, ?_⟩⟩
       rw [← hp, ← dV]
       have AMD : ∀ z ∈ zs.set j u, Q z := fun z hz => by
         rcases List.mem_or_eq_of_mem_set hz with hz | rfl
         · exact zG z hz
         · exact zG z (List.mem_of_getElem? hu)
       have := sL (i + 1) (j + 1) σ2 (zs.set j u) AMD (by omega) (by omega) (by omega) (by omega) (by omega) Ox (fj.trans An) (fun a ha => by rw [List.getElem?_set_ne (by omega)]; exact hag a (by omega)) ?_ ?_
       · have e4 : ((i + 1 - k : Nat) : Int) = ((i - k : Nat) : Int) + 1 := by omega
         rw [e4] at this; exact this
       · have hvj : (zs.set j u)[j - 1]? = some v := by rw [List.getElem?_set_ne (by omega), Jn, hvo]
         have huj : (zs.set j u)[j]? = some u := by rw [List.getElem?_set_self (by omega)]
         refine Kw hj0 hvj huj ?_ (by omega)
         rw [List.take_set_of_le (by omega)]; exact hrj
       · rw [show j + 1 - 1 = j by omega, show i + 1 - 1 = i by omega, List.getElem?_set_self (by omega), huo]
     · rw [Mc dV]
       have := sL (i + 1) j σ' zs zG (by omega) (by omega) hj0 (by omega) (by omega) Aa fj (fun a ha => hag a (by omega)) hrj (by rw [Jn, hvo, show i + 1 - 1 = i by omega, huo]; simp; omega)
       have e4 : ((i + 1 - k : Nat) : Int) = ((i - k : Nat) : Int) + 1 := by omega
       rw [e4] at this; exact this
end TwW
end
section
namespace TwW
open Go Tw Go.Proofs.Tryz
theorem Ext.mS {σ σ1 σ2 : Hp} {p : Option Addr} (h0 : Ext σ σ1) (hp : ∀ a, p = some a → σ a.block = none) (hx : Ext (σ1.del p) (σ2.del p)) : Ext σ σ2 := fun b o hb => by
 have h1 := h0 b o hb
 exact (A6.1 (hx b o (A6.2 ⟨fun a ha he => (by rw [he, hp a ha] at hb; cases hb), h1⟩))).2
theorem X5 {R : Rr} {σ : Hp} {x : Nat} (hx : x < 16)
   (h : ∀ p n c σ' ys, (∀ y ∈ ys, 0 ≤ y ∧ y < 4294967296) → CA .u32 (σ.new σ') p n ys → Ext σ σ' → EY ys → 0 < n → n ≤ 4 → R (.returned (.slice p n c)) σ') : Spec prog 189 #[.int .i64 x] σ R := by
 refine GG.start ?_
 suffices H : ∀ d k : Nat, ∀ p c σ' ys, (∀ y ∈ ys, 0 ≤ y ∧ y < 4294967296) → 4 - k = d → k ≤ 4 → Ext σ σ' → AS .u32 (σ.new σ') p k c ys → GG.CF R x p k c k σ' from H 4 0 none 0 σ [] (by simp) rfl (by omega) (.refl σ) AS.nil
 intro d
 induction d with
 | zero =>
   intro k p c σ' ys hq hd hk EU Aa
   have hk4 : k = 4 := by omega
   subst hk4
   refine GG.BX ⟨fun Ag => by omega, fun _ => ?_⟩
   have pB := Aa.Dp
   refine gb hq (Own.mono (Ext.Af σ σ') Aa) (by omega) fun σ2 zs zG Ox An AME => ⟨rfl, ?_⟩
   refine VQ zG Ox AME (by omega) fun σ3 m ws hqw Tu DR XQ hm sN => ⟨_, _, _, rfl, h _ _ _ _ ws hqw (AS.rd (Own.CV Tu pB)) ?_ XQ hm sN⟩
   exact Ext.mS EU pB (An.trans DR)
 | succ d ih =>
   intro k p c σ' ys hq hd hk EU Aa
   refine GG.BX ⟨fun _ Eg AMF => ?_, fun F8 => by omega⟩
   have oe : Eg = (x : Int) := by rw [AMF]; simp [IntKind.wrap, IntKind.bits, IntKind.signed]; omega
   subst oe
   have aH : CA .u8 σ' none 0 [] := GS.nil
   refine Ce aH (by omega) (by omega) fun p1 n1 c1 σ1 Ff sM => ⟨_, _, _, rfl, ?_⟩
   have NM := Ff.rd.1
   have := BF (x := x) (by omega)
   simp only [List.nil_append] at NM
   refine Ce (Ff.rd.mono (Ext.Af _ _)) (by omega) (by omega) fun p2 n2 c2 σ2 B1 Xc => ⟨_, _, _, rfl, ?_⟩
   refine mP (B1.rd.mono (Ext.Af _ _)) fun t ht => ⟨t, rfl, fun Ko mK => ?_⟩
   refine AS.JF ((EU.trans sM).trans Xc) (Own.mono (Ext.BV (sM.trans Xc)) Aa) (by omega) (fun p3 c3 σ3 Dl he3 _ => ⟨_, _, _, rfl, fun x8 Qy => ?_⟩) mK
   have h8 : x8 = ((k + 1 : Nat) : Int) := by rw [Qy]; simp [IntKind.wrap, IntKind.bits, IntKind.signed]; omega
   subst h8
   exact ih (k + 1) p3 c3 σ3 _ (fun y hy => by
     rcases List.mem_append.1 hy with hy | hy
     · exact hq y hy
     · simp at hy; subst hy; exact ht) (by omega) (by omega) he3 Dl
end TwW
end
section
namespace TwW
open Go Tw Go.Proofs.Tryz
theorem FP.one (σ : Hp) (vs : List Value) (m : Mem) (h : FP σ vs m) : CU vs := by
 obtain ⟨p, n, c, rfl, _⟩ := h
 exact RI
theorem mT {L vs : List Value} {i n : Nat} (hl : (n + 1) * 3 ≤ L.length) (hi : i ≤ n) (hv : vs.length = 3) :
   List.take ((n + 1) * 3) (over (over L ((i + 1) * 3) ((L.take (n * 3)).drop (i * 3))) (i * 3) vs) = (L.take (n * 3)).take (i * 3) ++ vs ++ (L.take (n * 3)).drop (i * 3) := by
 have hd : ((L.take (n * 3)).drop (i * 3)).length = n * 3 - i * 3 := by simp; omega
 refine List.ext_getElem? fun k => ?_
 unfold over
 rw [List.getElem?_take, List.take_take, Nat.min_eq_left (by omega)]
 have ht : ∀ M : List Value, (n + 1) * 3 ≤ M.length → (M.take (i * 3)).length = i * 3 := fun M h => by rw [List.length_take]; omega
 have hM : (List.take ((i + 1) * 3) L ++ List.drop (i * 3) (List.take (n * 3) L) ++ List.drop ((i + 1) * 3 + (List.drop (i * 3) (List.take (n * 3) L)).length) L).length = L.length := by
   simp only [List.length_append, List.length_take, List.length_drop]; omega
 by_cases hk : k < (n + 1) * 3
 · rw [if_pos hk]
   by_cases h1 : k < i * 3
   · rw [List.append_assoc, List.getElem?_append_left (by rw [ht _ (by omega)]; omega), List.getElem?_take, if_pos h1, List.append_assoc, List.getElem?_append_left (by rw [List.length_take]; omega), List.getElem?_take, if_pos (by omega),
       List.append_assoc, List.getElem?_append_left (by rw [List.length_take]; omega), List.getElem?_take, if_pos h1]
   · by_cases h2 : k < i * 3 + 3
     · rw [List.append_assoc, List.getElem?_append_right (by rw [ht _ (by omega)]; omega), ht _ (by omega), List.getElem?_append_left (by omega),
         List.append_assoc, List.getElem?_append_right (by rw [List.length_take]; omega), List.length_take, Nat.min_eq_left (by omega), List.getElem?_append_left (by omega)]
     · rw [List.getElem?_append_right (by rw [List.length_append, ht _ (by omega)]; omega), List.length_append, ht _ (by omega), hv, List.getElem?_drop, show i * 3 + 3 + (k - (i * 3 + 3)) = k by omega,
         List.append_assoc, List.getElem?_append_right (by rw [List.length_take]; omega), List.length_take, Nat.min_eq_left (by omega), List.getElem?_append_left (by omega),
         List.getElem?_append_right (by rw [List.length_append, List.length_take]; omega), List.length_append, List.length_take, Nat.min_eq_left (by omega), hv, show (i + 1) * 3 = i * 3 + 3 by omega]
 · rw [if_neg hk, eq_comm, List.getElem?_eq_none]
   simp only [List.length_append, List.length_take, List.length_drop]; omega
end TwW
namespace TwW
open Go Tw Go.Proofs.Tryz
theorem zI (args : Array Value) (w : World) : (callFunc 262 args).run prog w = ((Extern.SlicesOverlaps.overlaps #[39, 39] #[4] args).run prog w).andThen (fun v w => .ok (.value v) w) :=
 run_callFunc_extern Go.Proofs.Tryz.func262 (by kernel_rfl) (by kernel_rfl) (by kernel_rfl) (e := Extern.SlicesOverlaps.overlaps #[39, 39] #[4]) (by kernel_rfl) args w
theorem gg {L cs vs rest : List Value} {i n : Nat} (hl : (n + 1) * 3 ≤ L.length) (hi : i ≤ n) (hv : vs.length = 3) (hc : L.take (i * 3) = cs) (hr : rest.length = (n - i) * 3) :
   List.take ((n + 1) * 3) (over (over L (i * 3) vs) ((i + 1) * 3) rest) = cs ++ vs ++ rest := by
 have eZ : cs.length = i * 3 := by rw [← hc, List.length_take]; omega
 have h1 : (over L (i * 3) vs).length = L.length := OI (by omega)
 have h2 : List.take ((i + 1) * 3) (over L (i * 3) vs) = cs ++ vs := by
   unfold over
   rw [hc, List.take_append_of_le_length (by rw [List.length_append]; omega), List.take_of_length_le (by rw [List.length_append]; omega)]
 generalize over L (i * 3) vs = M at *
 unfold over
 rw [h2, List.take_append_of_le_length (by simp only [List.length_append]; omega), List.take_of_length_le (by simp only [List.length_append]; omega)]
theorem X6 {R : Rr} {σ : Hp} {p : Option Addr} {n c i bv : Nat} {ms : List Mem} {vs : List Value} {Tv : TypeId} {x : Mem} (ho : J0 σ p n c ms) (hi : i ≤ n) (hn : n ≤ 1048576)
   (hv : σ bv = some (.cells vs.toArray Tv (0, 0))) (hpv : ∀ a, p = some a → a.block ≠ bv) (he : FP (σ.del p) vs x)
   (h : ∀ p' c' σ', J0 σ' p' (n + 1) c' (ms.take i ++ [x] ++ ms.drop i) → Ext (σ.del p) (σ'.del p') → R (.returned (.slice p' (n + 1) c')) σ') :
   Spec prog 188 #[.slice p n c, .int .i64 i, .slice (some ⟨bv, 0, none⟩) 1 1] σ R := by
 obtain ⟨hlen, cs, Aa, vQ⟩ := ho
 obtain ⟨iR, L, hC, hL⟩ := Aa.room
 have hb := Aa.2.1
 have eZ := Aa.1
 have hLl := hC.1
 have hvl : vs.length = 3 := by obtain ⟨q, k, c, rfl, _⟩ := he; rfl
 have hv1 : CU vs := FP.one _ _ _ he
 have hvr : ∀ σ' : Hp, σ' bv = some (.cells vs.toArray Tv (0, 0)) → Gi 3 σ' (some ⟨bv, 0, none⟩) 1 vs := fun σ' h => ⟨by rw [hvl], by omega, .inr ⟨bv, 0, rfl, EF.of fun j v hj => by simp [Hp.ld, h, hj]⟩⟩
 have hvd : (σ.del p) bv = some (.cells vs.toArray Tv (0, 0)) := A6.2 ⟨fun a ha he => hpv a ha he.symm, hv⟩
 have fin : ∀ p' c' σ' cells, Own 3 σ' p' (n + 1) c' cells → cells = cs.take (i * 3) ++ vs ++ cs.drop (i * 3) → Ext (σ.del p) (σ'.del p') → R (.returned (.slice p' (n + 1) c')) σ' := by
   rintro p' c' σ' _ mU rfl hx
   refine h p' c' σ' ⟨by simp only [List.length_append, List.length_take, List.length_drop, List.length_singleton]; omega, _, mU, ?_⟩ hx
   exact (((vQ.take i).append (Ch.one hvl he)).append (vQ.drop i)).mono FP.mono hx
 refine GH.start ⟨by omega, fun h0 => by omega, fun _ => ⟨fun eL => ?_, fun wG => ⟨by unfold AO; omega, fun Db => ?_, fun Db => ?_⟩⟩⟩
 · -- at the end
   have C9 : i = n := by omega
   refine Ec Aa (hvr σ hv) hv1 (by omega) fun p' c' σ' EN Cc => ⟨p', n + 1, c', rfl, fin p' c' σ' _ EN ?_ Cc⟩
   rw [C9, ← eZ, List.take_length, List.drop_length, List.append_nil]
 · -- no room
   refine ⟨by omega, by unfold AO; omega, by unfold AO; omega, ?_⟩
   have e1 : (((n : Nat) : Int) + ((1 : Nat) : Int)) - (i : Int) = ((n + 1 - i : Nat) : Int) := by omega
   have e2 : (((n : Nat) : Int) + 1) - (i : Int) = ((n + 1 - i : Nat) : Int) := by omega
   simp only [Int.toNat_natCast, e1, e2]
   refine UT Go.Proofs.Tryz.underlying3 (Aa.take hi) (by omega) (by omega) fun p' c' L' σ1 hC1 fy hL1 BH jK hf => ?_
   have C9 : i + (n + 1 - i) = n + 1 := by omega
   rw [C9] at fy ⊢
   refine ⟨p', n + 1, c', rfl, by omega, ?_⟩
   refine MY (k := 1) hC1 (by omega) (by omega) (hvr σ1 (BH _ _ hv)) hv1 fun σ2 zH An => ⟨_, rfl, by unfold AO; omega, by omega, by omega, ?_⟩
   have e3 : Int.toNat ((i : Int) + ((1 : Nat) : Int)) = i + 1 := by omega
   have e4 : Int.toNat ((i : Int) + 1) = i + 1 := by omega
   simp only [e3, e4]
   have aE : Ext σ σ2 := (jK.trans An).trans (Ext.GR _ _)
   have HM := (hC.rd (i := i) (n := n - i) (by omega) (by omega)).mono aE
   have MI : (L.drop (i * 3)).take ((n - i) * 3) = cs.drop (i * 3) := by
     rw [← hL, List.drop_take]; congr 1; omega
   rw [MI] at HM
   have Pu : CU (cs.drop (i * 3)) := fun u hu => vQ.pC FP.one (by decide) u (List.mem_of_mem_drop hu)
   refine MY (k := n - i) zH (by omega) (by omega) HM Pu fun σ3 hC3 DR => ⟨_, rfl, ?_⟩
   have Tu := hC3.own (n := n + 1) (by omega) (by omega)
   have NM : (n + 1) * 3 ≤ L'.length := by rw [hC1.1]; exact Nat.mul_le_mul_right 3 fy
   have hdl : (cs.drop (i * 3)).length = (n - i) * 3 := by rw [List.length_drop, eZ]; omega
   rw [gg NM hi hvl hL1 hdl] at Tu
   refine fin p' c' σ3 _ Tu rfl ?_
   exact (Ext.GR σ p).trans ((jK.trans An).trans DR)
 · -- room
   have zJ : n + 1 ≤ c := by omega
   refine ⟨by unfold AO; omega, by omega, by unfold AO; omega, by omega, ?_⟩
   have e3 : Int.toNat ((i : Int) + ((1 : Nat) : Int)) = i + 1 := by omega
   have e4 : Int.toNat ((i : Int) + 1) = i + 1 := by omega
   have e5 : Int.toNat ((n : Int) + ((1 : Nat) : Int)) = n + 1 := by omega
   have e6 : Int.toNat ((n : Int) + 1) = n + 1 := by omega
   simp only [e3, e4, e5, e6, Int.toNat_natCast]
   refine ⟨.bool false, ?_, false, rfl, fun _ => ⟨by unfold AO; omega, by omega, by omega, ?_⟩, fun hf => by cases hf⟩
   · rcases hC.2 with ⟨_, hc0⟩ | ⟨b, o, arr, T, rfl, hblk, Ee, _⟩
     · omega
     · have R6 : ∃ o', GP (some ⟨b, o, none⟩) (i + 1) c 3 = some ⟨b, o', none⟩ := by
         unfold GP
         split
         · exact ⟨o, rfl⟩
         · exact ⟨o + (i + 1) * 3, by simp [MX]⟩
       obtain ⟨o', R6⟩ := R6
       exact V2 (T := 39) (tR := 4) Go.Proofs.Tryz.func262 (zI _) rfl R6 hv hblk (fun e => hpv _ rfl e.symm) (by omega)
   · have HM := hC.rd (i := i) (n := n - i) (by omega) (by omega)
     have MI : (L.drop (i * 3)).take ((n - i) * 3) = (L.take (n * 3)).drop (i * 3) := by
       rw [List.drop_take]; congr 1; omega
     rw [MI] at HM
     have Pu : CU ((L.take (n * 3)).drop (i * 3)) := by
       rw [hL]; exact fun u hu => vQ.pC FP.one (by decide) u (List.mem_of_mem_drop hu)
     refine MY (k := n - i) hC (by omega) (by omega) HM Pu fun σ1 hC1 BH => ⟨_, rfl, by omega, ?_⟩
     have hv2 : σ1 bv = some (.cells vs.toArray Tv (0, 0)) := Ext.GR _ _ _ _ (BH _ _ hvd)
     refine MY (k := 1) hC1 (by omega) (by omega) (hvr σ1 hv2) hv1 fun σ2 zH An => ⟨_, rfl, ?_⟩
     have Ox := zH.own (n := n + 1) (by omega) (by omega)
     rw [mT (by rw [hLl]; exact Nat.mul_le_mul_right 3 zJ) hi hvl, hL] at Ox
     exact fin p c σ2 _ Ox rfl (BH.trans An)
end TwW
end
section
namespace TwW
open Go Tw Go.Proofs.Tryz
theorem Hp.set_comm {σ : Hp} {a b : Nat} {o u : Obj} (h : a ≠ b) : (σ.set a o).set b u = (σ.set b u).set a o := by
 funext k
 simp only [Hp.set]
 by_cases h1 : k = a
 · subst h1; simp [h]
 · simp [h1]
theorem Ac {σ : Hp} {b o : Nat} {cs : Array Value} {t : TypeId} {v : Value} (h : cs[o]? = some v) : Hp.ld (σ.set b (.cells cs t (0, 0))) ⟨b, o, none⟩ = some v := by
 simp [Hp.ld, Hp.AA, h]
theorem Tx : ∀ (xs : List Int) (N : Nat) (a : Int), EY xs → (∀ x ∈ xs, a ≤ x ∧ x < a + N) → xs.length ≤ N
 | [], _, _, _, _ => Nat.zero_le _
 | x :: xs, 0, a, _, h => by have := h x (List.mem_cons_self ..); omega
 | x :: xs, N + 1, a, hr, h => by
   have hx := h x (List.mem_cons_self ..)
   unfold EY at hr
   rw [List.pairwise_cons] at hr
   have := Tx xs N (a + 1) hr.2 (fun y hy => by have h1 := h y (List.mem_cons_of_mem _ hy); have h2 := hr.1 y hy; push_cast at h1; omega)
   simp; omega
theorem LV.len {ms : List Mem} (h : LV ms) : ms.length ≤ 16 := by
 have := Tx (ids ms) 16 0 h.2 (fun x hx => by
   obtain ⟨m, hm, rfl⟩ := List.mem_map.1 hx
   have := h.1 m hm
   exact ⟨this.1, by have := this.2.1; omega⟩)
 simpa [ids] using this
theorem LV.small {ms : List Mem} (h : LV ms) : Small ms := ⟨by have := h.len; omega, fun m hm => by have := (h.1 m hm).2.2.2.2.2.1; omega⟩
def mV (ms : List Mem) (x code : Int) (EZ : List Mem) : Prop :=
 (place ms x ≠ -1 ∧ code = 131) ∨ (place ms x = -1 ∧ code = 0 ∧ ∃ i t, i ≤ ms.length ∧ (∀ m ∈ ms.take i, m.id < x) ∧ (∀ m, ms[i]? = some m → ¬ m.id < x) ∧ EY t ∧ 1 ≤ t.length ∧ t.length ≤ 4 ∧ (∀ y ∈ t, 0 ≤ y ∧ y < 4294967296) ∧ EZ = ms.take i ++ [⟨x, 1, t⟩] ++ ms.drop i)
def X7 (f t : Int) (ms : List Mem) (x code : Int) (EZ : List Mem) : Prop :=
 (place ms x = -1 ∧ code = 131) ∨ ∃ (k : Nat) (m : Mem), place ms x = k ∧ ms[k]? = some m ∧ ((m.state ≠ f ∧ code = 132) ∨ (m.state = f ∧ code = 0 ∧ EZ = ms.set k { m with state := t }))
abbrev cell (τ : Hp) (b : Nat) (e : Int) (p : Option Addr) (n c : Nat) : Hp := τ.set b (.cells #[.int .u64 e, .slice p n c] 41 (0, 0))
def zK (f : Nat) (C : List Mem → Int → Int → List Mem → Prop) : Prop := ∀ (R : Rr) (τ : Hp) (b : Nat) (e x : Int) (p : Option Addr) (n c : Nat) (ms : List Mem), J0 τ p n c ms → τ b = none → LV ms → 0 ≤ x → x < 16 →
 (∀ code EZ, C ms x code EZ → code ≠ 0 → R (.returned (.int .i64 code)) (cell τ b e p n c)) →
 (∀ p' n' c' τ' EZ, C ms x 0 EZ → J0 τ' p' n' c' EZ → Ext (τ.del p) (τ'.del p') → τ' b = none → R (.returned (.int .i64 0)) (cell τ' b e p' n' c')) →
 Spec prog f #[.agg #[.pointer (some ⟨b, 0, none⟩), .int .i64 x, .int .i64 (place ms x)]] (cell τ b e p n c) R
theorem AFh (w : World) : (Go.sizeOf 39).run prog w = .ok 1 w := Go.Proofs.Tryz.sizeOf39 w
theorem X8 (w : World) : (Go.sizeOf 3).run prog w = .ok 1 w := Go.Proofs.Tryz.sizeOf3 w
theorem aX {τ : Hp} {b : Nat} {e : Int} {p q : Option Addr} {n c m d : Nat} {Φ : Unit → Hp → Prop} (h : Φ () (cell τ b e q m d)) :
   AJ prog (Instr.storeAt 39 (.pointer (some ⟨b, 0 + 1, none⟩)) (.slice q m d)) (cell τ b e p n c) Φ := by
 refine AJ.store AFh (Hp.AA _ _ _) rfl (by simp) (by simp [Value.cells, Value.oneCell']) ?_
 simp only [cell, Hp.set_set]
 exact h
theorem mW {ms : List Mem} {k : Nat} {m : Mem} (h : ms[k]? = some m) : k < ms.length := (List.getElem?_eq_some_iff.1 h).1
theorem J0.state {τ : Hp} {p : Option Addr} {n c k : Nat} {ms : List Mem} {m : Mem} {t : Int} {Ψ : Hp → Prop} (ho : J0 τ p n c ms) (hm : ms[k]? = some m)
   (h : ∀ τ', J0 τ' p n c (ms.set k { m with state := t }) → Ext (τ.del p) (τ'.del p) → Ψ τ') :
   ∃ b o, p = some ⟨b, o, none⟩ ∧ AJ prog (Instr.storeAt 3 (.pointer (some ⟨b, o + k * 3 + 1, none⟩)) (.int .i64 t)) τ (fun _ => Ψ) := by
 obtain ⟨hlen, cs, Aa, vQ⟩ := ho
 have hk : k < n := by rw [← hlen]; exact (List.getElem?_eq_some_iff.1 hm).1
 have APt := Aa
 obtain ⟨h1, h0, h2⟩ := Aa
 rcases h2 with ⟨_, hn, _⟩ | ⟨b, o, arr, T', rfl, hblk, iR, Ee, IP⟩
 · omega
 · have hle : (k + 1) * 3 ≤ c * 3 := by omega
   refine ⟨b, o, rfl, AJ.store X8 hblk rfl (by omega) (by simp [Value.cells, Value.oneCell']) (h _ ⟨by simp [hlen], cs.set (k * 3 + 1) (.int .i64 t), ⟨by simpa using h1, h0, .inr ⟨b, o, _, T', rfl, Hp.AA _ _ _, iR, by rw [Dm]; exact Ee, ?_⟩⟩, ?_⟩ (by rw [Hp.Bl]; exact Ext.refl _))⟩
   · show ((DX arr (o + k * 3 + 1) [.int .i64 t]).toList.drop o).take (n * 3) = _
     rw [show o + k * 3 + 1 = o + (k * 3 + 1) by omega, P5 (by simp; omega) (by omega), IP]
     unfold over
     rw [List.set_eq_take_append_cons_drop, if_pos (by omega)]
     simp
   · rw [Hp.Bl]
     refine ⟨by simp [vQ.1], fun i y hy => ?_⟩
     rw [List.getElem?_set] at hy
     have yt : k < ms.length := by omega
     obtain ⟨q, j, d, hv, hq⟩ := vQ.2 k m hm
     by_cases hik : k = i
     · subst hik
       rw [if_pos rfl, if_pos yt] at hy
       cases hy
       refine ⟨q, j, d, ?_, hq⟩
       have hd : (cs.drop (k * 3)).take 3 = [.int .i64 m.id, .int .i64 m.state, .slice q j d] := hv
       have : ((cs.set (k * 3 + 1) (.int .i64 t)).drop (k * 3)).take 3 = ((cs.drop (k * 3)).take 3).set 1 (.int .i64 t) := by
         rw [List.drop_set, if_neg (by omega), List.take_set]
         congr 1; omega
       rw [this, hd]; rfl
     · rw [if_neg hik] at hy
       have := vQ.2 i y hy
       have he : ((cs.set (k * 3 + 1) (.int .i64 t)).drop (i * 3)).take 3 = (cs.drop (i * 3)).take 3 := by
         rw [List.drop_set]
         split
         · rfl
         · rw [List.take_set_of_le (by omega)]
       rw [he]; exact this
theorem gh (f t : Int) : ∀ (R : Rr) (τ : Hp) (b : Nat) (e x : Int) (p : Option Addr) (n c : Nat) (ms : List Mem), J0 τ p n c ms → τ b = none →
 (∀ code EZ, X7 f t ms x code EZ → code ≠ 0 → R (.returned (.int .i64 code)) (cell τ b e p n c)) →
 (∀ τ' EZ, X7 f t ms x 0 EZ → J0 τ' p n c EZ → Ext (τ.del p) (τ'.del p) → τ' b = none → R (.returned (.int .i64 0)) (cell τ' b e p n c)) →
 Spec prog 190 #[.agg #[.pointer (some ⟨b, 0, none⟩), .int .i64 x, .int .i64 (place ms x)], .int .i64 f, .int .i64 t] (cell τ b e p n c) R := by
 intro R τ b e x p n c ms ho hb Q0 Au
 refine Ii.start fun _ => ⟨fun Ag => ?_, fun F8 => ?_⟩
 · rcases Kb ms x with ⟨h1, _⟩ | ⟨k, m, hk, _⟩
   · exact Q0 131 ms (.inl ⟨h1, rfl⟩) (by decide)
   · omega
 · rcases Kb ms x with ⟨h1, _⟩ | ⟨k, m, hk, hm, hid, Be⟩
   · omega
   · have hx : Ext τ (cell τ b e p n c) := .set hb
     obtain ⟨b2, o2, q, j, d, hp, hl, _⟩ := Pa.at' (A9.rd FP.mono ho) hm
     have hl := hl.mono hx
     have LF : k < n := by rw [← ho.1]; exact (List.getElem?_eq_some_iff.1 hm).1
     rw [hk]
     refine ⟨b, 0, rfl, p, n, c, Ac rfl, b2, o2, hp, by omega, m.state, by simpa using hl.2.1, fun Ad => ?_, fun heq => ?_⟩
     · exact Q0 132 ms (.inr ⟨k, m, hk, hm, .inl ⟨Ad, rfl⟩⟩) (by decide)
     · refine ⟨p, n, c, Ac rfl, b2, o2, hp, by omega, ?_⟩
       simp only [Int.toNat_natCast]
       refine AJ.BW hb ?_
       obtain ⟨b3, o3, od, mO⟩ := J0.state ho hm (t := t) (Ψ := fun τ' => τ' b = none → R (.returned (.int .i64 0)) (cell τ' b e p n c)) (fun τ' EN Cc hn => Au τ' _ (.inr ⟨k, m, hk, hm, .inr ⟨by omega, rfl, rfl⟩⟩) EN Cc hn)
       rw [hp] at od; cases od
       exact mO
theorem X9 : zK 102 (X7 1 2) := fun R τ b e x p n c ms ho hb _ _ _ Q0 Au =>
 GD.start fun _ => (gh 1 2 _ τ b e x p n c ms ho hb (fun code EZ hc Ad => ⟨_, rfl, Q0 code EZ hc Ad⟩) fun τ' EZ hc EN hx hn => ⟨_, rfl, Au p n c τ' EZ hc EN hx hn⟩)
theorem FP.mk {σ : Hp} {p : Option Addr} {n c : Nat} {x s : Int} {t : List Int} (h : CA .u32 σ p n t) : FP σ [.int .i64 x, .int .i64 s, .slice p n c] ⟨x, s, t⟩ := ⟨p, n, c, rfl, h⟩
theorem sO : zK 101 mV := fun R τ b e x p n c ms ho hb hms aI rh Q0 Au => by
 have hlen := hms.len
 have hn := ho.1
 have HM := A9.rd FP.mono ho
 have hxc : Ext τ (cell τ b e p n c) := .set hb
 obtain ⟨x, rfl⟩ : ∃ y : Nat, x = y := ⟨x.toNat, by omega⟩
 refine C2.start fun _ => ⟨fun F8 => Q0 131 ms (.inl ⟨by omega, rfl⟩) (by decide), fun Ag => ?_⟩
 have vR : place ms x = -1 := by rcases Kb ms x with ⟨h1, _⟩ | ⟨k, m, hk, _⟩ <;> omega
 rw [vR]
 have fin : ∀ i : Nat, i ≤ n → (∀ m ∈ ms.take i, m.id < x) → (∀ m, ms[i]? = some m → ¬ m.id < x) →
     ∃ R1 : Option Addr, ∃ n37 : Nat, ∃ c37 : Nat, Hp.ld (cell τ b e p n c) ⟨b, (0 + 1), none⟩ = some (.slice R1 n37 c37) ∧ Spec prog 189 #[(.int .i64 x)] (cell τ b e p n c) (AB R (fun v σ1 => ∃ Uu : Option Addr, ∃ n43 : Nat, ∃ Vk : Nat, v = (.slice Uu n43 Vk) ∧ Kp [b] (cell τ b e p n c) σ1 ∧ ∀ W5 : Nat, σ1 W5 = none → Spec prog 188 #[(.slice R1 n37 c37), (.int .i64 i), (.slice (some ⟨W5, 0, none⟩) 1 1)] (Hp.set σ1 W5 (.cells #[(.int .i64 x), (.int .i64 1), (.slice Uu n43 Vk)] 196 (0, 0))) (AB R (fun cK Bb => ∃ cW : Option Addr, ∃ n46 : Nat, ∃ c46 : Nat, cK = (.slice cW n46 c46) ∧ AJ prog (Instr.storeAt 39 (.pointer (some ⟨b, (0 + 1), none⟩)) (.slice cW n46 c46)) Bb (fun _ BE => R (.returned (.int .i64 0)) BE))))) := by
   intro i hi R8 hhi
   refine ⟨p, n, c, Ac rfl, Spec.BW hb (X5 (by omega) fun q j d τ1 t hq4 ht BH XQ hj0 hj4 PU => ⟨q, j, d, rfl, fun k hk u hu => ?_, fun b2 HV => ?_⟩)⟩
   · simp only [List.mem_singleton] at hk
     subst hk
     simp only [cell, Hp.AA] at hu ⊢; exact hu
   · have Ad : b2 ≠ b := fun h => by rw [h, Hp.AA] at HV; cases HV
     have AFi : τ1 b2 = none := by rw [Hp.AF Ad] at HV; exact HV
     rw [Hp.set_comm (Ne.symm Ad)]
     have An : Ext τ1 (τ1.set b2 (.cells #[.int .i64 x, .int .i64 1, .slice q j d] 196 (0, 0))) := .set AFi
     have Ff : J0 (τ1.set b2 (.cells #[.int .i64 x, .int .i64 1, .slice q j d] 196 (0, 0))) p n c ms := ho.mono FP.mono (BH.trans An)
     have de : ∀ a, p = some a → τ a.block ≠ none := ho.block
     refine Spec.BW (Hp.BD (Ne.symm Ad) PU) ?_
     refine X6 (vs := [.int .i64 x, .int .i64 1, .slice q j d]) (x := ⟨x, 1, t⟩) Ff hi (by omega) (Hp.AA _ _ _) (fun a ha h => de a ha (A4 BH (h ▸ AFi))) (FP.mk ?_) fun p' c' τ2 B1 SY NT => ⟨p', n + 1, c', rfl, aX ?_⟩
     · exact ht.mono ((Ext.o0 de).trans (An.del p))
     · refine Au p' (n + 1) c' τ2 _ (.inr ⟨vR, rfl, i, t, by omega, R8, hhi, XQ, by have := ht.1; omega, by have := ht.1; omega, hq4, rfl⟩) B1 ?_ NT
       exact ((BH.trans An).del p).trans SY
 suffices H : ∀ d i : Nat, n - i = d → i ≤ n → (∀ m ∈ ms.take i, m.id < x) → C2.Ap R (some ⟨b, 0, none⟩) x (-1) i (cell τ b e p n c) from H n 0 rfl (by omega) (by simp)
 intro d
 induction d with
 | zero =>
   intro i hd hi R8
   exact C2.BI ⟨b, 0, rfl, p, n, c, Ac rfl, fun Ag => by omega, fun _ => fin i hi R8 (fun m hm => by have := mW hm; omega)⟩
 | succ d ih =>
   intro i hd hi R8
   obtain ⟨m, hm⟩ := HM.ex (k := i) (by omega)
   obtain ⟨b2, o2, q, j, d2, hp, hl, _⟩ := Pa.at' HM hm
   have hl := hl.mono hxc
   refine C2.BI ⟨b, 0, rfl, p, n, c, Ac rfl, fun _ => ⟨p, n, c, Ac rfl, b2, o2, hp, by omega, m.id, by simpa using hl.1, fun Ag => ⟨by unfold AO; omega, ih (i + 1) (by omega) (by omega) ?_⟩, fun F8 => fin i hi R8 (fun m' Kr => by rw [hm] at Kr; cases Kr; exact F8)⟩, fun F8 => by omega⟩
   intro m' Kr
   rw [List.take_add_one, hm] at Kr
   simp only [Option.toList, List.mem_append, List.mem_singleton] at Kr
   rcases Kr with Kr | rfl
   · exact R8 m' Kr
   · exact Ag
end TwW
end
section
namespace TwW
open Go Tw Go.Proofs.Tryz
abbrev GL (e : Int) (p : Option Addr) (n c : Nat) : Value := .agg #[.int .u64 e, .slice p n c]
abbrev Oy : Int := 18446744073709551615
def Fit (ms : List Mem) (e x : Int) : Prop := LV ms ∧ e ≠ Oy ∧ 0 ≤ x ∧ x < 16
instance (ms : List Mem) (e x : Int) : Decidable (Fit ms e x) := by unfold Fit; infer_instance
theorem zL (w : World) : (Go.sizeOf 41).run prog w = .ok 2 w := Go.Proofs.Tryz.sizeOf41 w
theorem NC {f : Nat} {C : List Mem → Int → Int → List Mem → Prop} (hby : zK f C) (J8 : Enters prog f) {R : Rr} {σ : Hp} {e x : Int} {p : Option Addr} {n c : Nat} {ms : List Mem} (hr : Pa σ p n ms) (hs : Small ms) (he : 0 ≤ e ∧ e ≤ Oy)
   (bad : ¬ Fit ms e x → R (.returned (.tuple #[GL 0 none 0 0, .int .i64 130])) σ)
   (err : Fit ms e x → ∀ code EZ, C ms x code EZ → code ≠ 0 → R (.returned (.tuple #[GL 0 none 0 0, .int .i64 code])) σ)
   (ok : Fit ms e x → ∀ p' n' c' σ' EZ, C ms x 0 EZ → Pa σ' p' n' EZ → Ext σ σ' → R (.returned (.tuple #[GL (e + 1) p' n' c', .int .i64 0])) σ') :
   Spec prog 100 #[GL e p n c, .int .i64 x, .func (.func f) #[] #[]] σ R := by
 refine Spec.drop (Mo.start fun _ _ => (MM hr hs ⟨_, rfl, fun Ad => ?_, fun heq => ⟨fun h1 => ?_, fun h1 => dc ⟨_, rfl, fun hf => ?_, fun ht => ?_⟩⟩⟩))
 · exact .mk (.refl σ) (bad fun h => Ad (by simp [PT, h.1]))
 · exact .mk (.refl σ) (bad fun h => h.2.1 h1)
 · exact .mk (.refl σ) (bad fun h => by simp at hf; have := h.2.2; omega)
 · have Au : LV ms := Decidable.byContradiction fun hn => heq (by simp [PT, hn])
   have hx : 0 ≤ x ∧ x < 16 := by simpa using ht
   have eF : Fit ms e x := ⟨Au, h1, hx⟩
   refine RJ hr hs fun p1 c1 τ ho BH => ⟨e, p1, n, c1, rfl, fun b hb => ?_⟩
   refine AJ.store zL (Hp.AA _ _ _) rfl (by simp) (by simp [Value.cells, Value.oneCell']) ?_
   rw [Hp.set_set]
   refine ⟨e, Ac rfl, fun G9 RP => ?_⟩
   have h28 : G9 = e + 1 := by rw [RP]; simp [IntKind.wrap, IntKind.bits, IntKind.signed]; simp [Oy] at h1 he; omega
   subst h28
   refine AJ.store Z6 (Hp.AA _ _ _) rfl (by simp [Dm]) (by simp [Value.cells, Value.oneCell']) ?_
   rw [Hp.set_set]
   have Fe : (τ.set b (.cells (DX (DX #[.int .u64 0, .slice none 0 0] 0 (Value.agg #[.int .u64 e, .slice p1 n c1]).cells.toList) 0 (Value.int .u64 (e + 1)).cells.toList) 41 (0, 0))) = cell τ b (e + 1) p1 n c1 := by
     simp [cell, DX, Value.cells]
   rw [Fe]
   have pB : ∀ a, p1 = some a → σ a.block = none := let ⟨_, _, h, _⟩ := ho; h.Dp
   have Ff : J0 τ p1 n c1 ms := ho.mono FP.mono (Ext.Af σ τ)
   have hxc : Ext σ (cell τ b (e + 1) p1 n c1) := BH.trans (.set hb)
   refine X4 (hr.RH hxc) ⟨_, rfl, f, #[], #[], rfl, J8, ?_⟩
   refine hby _ τ b (e + 1) x p1 n c1 ms Ff hb Au hx.1 hx.2 (fun code EZ hC Ad => ⟨_, rfl, fun _ => .mk hxc (err eF code EZ hC Ad), fun h0 => absurd Ad h0⟩) fun p' n' c' τ' EZ hC EN Cc hn => ⟨_, rfl, fun h0 => absurd rfl h0, fun _ => ⟨e + 1, p', n', c', ⟨Ac rfl, Ac rfl, trivial⟩, ?_⟩⟩
   have N7 : Ext σ τ' := CX pB Cc BH
   exact .mk (.refl _) (ok eF p' n' c' _ EZ hC ((A9.rd FP.mono EN).mono FP.mono (.set hn)) (N7.trans (.set hn)))
theorem zM : Enters prog 101 := fun args w => Go.Proofs.Tryz.call101 args w
theorem aY : Enters prog 102 := fun args w => Go.Proofs.Tryz.call102 args w
section
variable {R : Rr} {σ : Hp} {e x : Int} {p : Option Addr} {n c : Nat} {ms : List Mem}
def ChR (C : List Mem → Int → Int → List Mem → Prop) (ms : List Mem) (e x : Int) (σ : Hp) (Φ : Int → Option Addr → Nat → Nat → Int → Hp → Prop) : Prop :=
 (¬ Fit ms e x → Φ 0 none 0 0 130 σ) ∧ (Fit ms e x → ∀ code EZ, C ms x code EZ → code ≠ 0 → Φ 0 none 0 0 code σ) ∧
 (Fit ms e x → ∀ p' n' c' σ' EZ, C ms x 0 EZ → Pa σ' p' n' EZ → Ext σ σ' → Φ (e + 1) p' n' c' 0 σ')
theorem aZ (hr : Pa σ p n ms) (hs : Small ms) (he : 0 ≤ e ∧ e ≤ Oy) (h : ChR mV ms e x σ fun e' p' n' c' code σ' => R (.returned (.tuple #[GL e' p' n' c', .int .i64 code])) σ') : Spec prog 45 #[GL e p n c, .int .i64 x] σ R :=
 TY.start fun _ _ => (NC sO zM hr hs he (fun hb => ⟨_, _, _, _, _, rfl, h.1 hb⟩) (fun hf code EZ hC Ad => ⟨_, _, _, _, _, rfl, h.2.1 hf code EZ hC Ad⟩) fun hf p' n' c' σ' EZ hC I9 hx => ⟨_, _, _, _, _, rfl, h.2.2 hf p' n' c' σ' EZ hC I9 hx⟩)
theorem RQ (hr : Pa σ p n ms) (hs : Small ms) (he : 0 ≤ e ∧ e ≤ Oy) (h : ChR (X7 1 2) ms e x σ fun e' p' n' c' code σ' => R (.returned (.tuple #[GL e' p' n' c', .int .i64 code])) σ') : Spec prog 46 #[GL e p n c, .int .i64 x] σ R :=
 Ll.start fun _ _ => (NC X9 aY hr hs he (fun hb => ⟨_, _, _, _, _, rfl, h.1 hb⟩) (fun hf code EZ hC Ad => ⟨_, _, _, _, _, rfl, h.2.1 hf code EZ hC Ad⟩) fun hf p' n' c' σ' EZ hC I9 hx => ⟨_, _, _, _, _, rfl, h.2.2 hf p' n' c' σ' EZ hC I9 hx⟩)
end
end TwW
end
section
namespace Go.Proofs
open Go.Shelf
def Tryz.YA : Go.Shelf.Ren := ⟨fun | 189 => 48 | 125 => 113 | 257 => 112 | 128 => 210 | 129 => 211 | 294 => 201 | 295 => 202 | 296 => 203 | 297 => 204 | 298 => 205 | 299 => 206 | 216 => 207 | 300 => 208 | 301 => 209 | 328 => 272 | 329 => 273 | 330 => 274 | 331 => 275 | 332 => 276 | 215 => 214 | 343 => 309 | n => n, fun | 28 => 26 | 3 => 3 | 46 => 205 | 0 => 0 | 51 => 70 | 53 => 23 | 4 => 4 | 183 => 280 | 182 => 279 | 131 => 151 | 5 => 5 | 9 => 9 | 218 => 325 | 222 => 328 | 228 => 351 | 229 => 352 | n => n, fun | n => n⟩
theorem Tryz.df : Go.Proofs.Lays.n189 Tryz.prog Tryz.YA := {
 mixed := by kernel_rfl
 f125 := Tryz.func113.trans (congrArg some (by kernel_rfl))
 f128 := Tryz.func210.trans (congrArg some (by kernel_rfl))
 f129 := Tryz.func211.trans (congrArg some (by kernel_rfl))
 f189 := Tryz.func48.trans (congrArg some (by kernel_rfl))
 f215 := Tryz.func214.trans (congrArg some (by kernel_rfl))
 f216 := Tryz.func207.trans (congrArg some (by kernel_rfl))
 f257 := Tryz.func112.trans (congrArg some (by kernel_rfl))
 f294 := Tryz.func201.trans (congrArg some (by kernel_rfl))
 f295 := Tryz.func202.trans (congrArg some (by kernel_rfl))
 f296 := Tryz.func203.trans (congrArg some (by kernel_rfl))
 f297 := Tryz.func204.trans (congrArg some (by kernel_rfl))
 f298 := Tryz.func205.trans (congrArg some (by kernel_rfl))
 f299 := Tryz.func206.trans (congrArg some (by kernel_rfl))
 f300 := Tryz.func208.trans (congrArg some (by kernel_rfl))
 f301 := Tryz.func209.trans (congrArg some (by kernel_rfl))
 f328 := Tryz.func272.trans (congrArg some (by kernel_rfl))
 f329 := Tryz.func273.trans (congrArg some (by kernel_rfl))
 f330 := Tryz.func274.trans (congrArg some (by kernel_rfl))
 f331 := Tryz.func275.trans (congrArg some (by kernel_rfl))
 f332 := Tryz.func276.trans (congrArg some (by kernel_rfl))
 f343 := Tryz.func309.trans (congrArg some (by kernel_rfl))
 t0 := Tryz.underlying0
 a0 := Tryz.isAgg0
 z0 := Tryz.sizeOf0
 v0 := Tryz.zeroValue0
 t3 := Tryz.underlying3
 a3 := Tryz.isAgg3
 z3 := Tryz.sizeOf3
 v3 := Tryz.zeroValue3
 t4 := Tryz.underlying4
 a4 := Tryz.isAgg4
 z4 := Tryz.sizeOf4
 v4 := Tryz.zeroValue4
 t5 := Tryz.underlying5
 a5 := Tryz.isAgg5
 z5 := Tryz.sizeOf5
 v5 := Tryz.zeroValue5
 t9 := Tryz.underlying9
 a9 := Tryz.isAgg9
 z9 := Tryz.sizeOf9
 v9 := Tryz.zeroValue9
 t28 := Tryz.underlying26
 a28 := Tryz.isAgg26
 z28 := Tryz.sizeOf26
 v28 := Tryz.zeroValue26
 t46 := Tryz.underlying205
 a46 := Tryz.isAgg205
 z46 := Tryz.sizeOf205
 v46 := Tryz.zeroValue205
 t51 := Tryz.underlying70
 a51 := Tryz.isAgg70
 z51 := Tryz.sizeOf70
 v51 := Tryz.zeroValue70
 t53 := Tryz.underlying23
 a53 := Tryz.isAgg23
 z53 := Tryz.sizeOf23
 v53 := Tryz.zeroValue23
 t131 := Tryz.underlying151
 a131 := Tryz.isAgg151
 z131 := Tryz.sizeOf151
 v131 := Tryz.zeroValue151
 t182 := Tryz.underlying279
 a182 := Tryz.isAgg279
 z182 := Tryz.sizeOf279
 v182 := Tryz.zeroValue279
 t183 := Tryz.underlying280
 a183 := Tryz.isAgg280
 z183 := Tryz.sizeOf280
 v183 := Tryz.zeroValue280
 t218 := Tryz.underlying325
 a218 := Tryz.isAgg325
 z218 := Tryz.sizeOf325
 v218 := Tryz.zeroValue325
 t222 := Tryz.underlying328
 a222 := Tryz.isAgg328
 z222 := Tryz.sizeOf328
 v222 := Tryz.zeroValue328
 t228 := Tryz.underlying351
 a228 := Tryz.isAgg351
 z228 := Tryz.sizeOf351
 v228 := Tryz.zeroValue351
 t229 := Tryz.underlying352
 a229 := Tryz.isAgg352
 z229 := Tryz.sizeOf352
 v229 := Tryz.zeroValue352 }
open Go.Sort Go.RowKit in
theorem Tryz.slices_Sort_int (DJ off cap : Nat) (zs : List Int) (w : World) (hH : Holds (Value.int .i64) w DJ off zs.toArray) (hblk : DJ < w.heap.size) (Ee : zs.length < 4611686018427387904) :
   Calls Tryz.prog 48 #[.slice (some ⟨DJ, off, none⟩) zs.length cap] w fun e w' =>
     e = .returned (.tuple #[]) ∧ ∃ n os, w' = grow (putRow (Value.int .i64) (Sort.ahead w n) DJ off (zs.mergeSort fun x y => decide (x ≤ y)).toArray) os := Any.slices_Sort_int Tryz.df DJ off cap zs w hH hblk Ee
def Tryz.Sb : Go.Shelf.Ren := ⟨fun | 20 => 49 | n => n, fun | 22 => 26 | 3 => 3 | 4 => 4 | 0 => 0 | n => n, fun | n => n⟩
theorem Tryz.Ty : Go.Proofs.Lays2.n20 Tryz.prog Tryz.Sb := {
 mixed := by kernel_rfl
 f20 := Tryz.func49.trans (congrArg some (by kernel_rfl))
 t0 := Tryz.underlying0
 a0 := Tryz.isAgg0
 z0 := Tryz.sizeOf0
 v0 := Tryz.zeroValue0
 t3 := Tryz.underlying3
 a3 := Tryz.isAgg3
 z3 := Tryz.sizeOf3
 v3 := Tryz.zeroValue3
 t4 := Tryz.underlying4
 a4 := Tryz.isAgg4
 z4 := Tryz.sizeOf4
 v4 := Tryz.zeroValue4
 t22 := Tryz.underlying26
 a22 := Tryz.isAgg26
 z22 := Tryz.sizeOf26
 v22 := Tryz.zeroValue26
 i3 := by kernel_rfl }
open Go.RowKit Go.Lib Go.Sort in
theorem Tryz.slices_Compact_int (DJ off cap : Nat) (zs : List Int) (w : World) (hH : Holds (Value.int .i64) w DJ off zs.toArray) (Ee : zs.length ≤ 9223372036854775807) (yc : zs.length ≤ cap) :
   Calls Tryz.prog 49 #[.slice (some ⟨DJ, off, none⟩) zs.length cap] w fun e w' => e = .returned (.slice (some ⟨DJ, off, none⟩) (Lib.compact zs).length cap) ∧ ∃ q, w' = putRow (Value.int .i64) (Sort.ahead w q) DJ off (Lib.compact zs ++ List.replicate (zs.length - (Lib.compact zs).length) 0).toArray := Any.slices_Compact_int Tryz.Ty DJ off cap zs w hH Ee yc
open Go.RowKit Go.Lib Go.Sort in
theorem Tryz.slices_Compact_int_empty (a : Option Addr) (cap : Nat) (w : World) :
   Calls Tryz.prog 49 #[.slice a 0 cap] w fun e w' => e = .returned (.slice a 0 cap) ∧ w' = w := Any.slices_Compact_int_empty Tryz.Ty a cap w
open Go.RowKit Go.Sort in
theorem Tryz.slices_Sort_int_none (p : Option Addr) (cap : Nat) (w : World) :
   Calls Tryz.prog 48 #[.slice p 0 cap] w fun e w' => e = .returned (.tuple #[]) ∧ w' = w := Any.slices_Sort_int_none Tryz.df p cap w
def Tryz.VR : Go.Shelf.Ren := ⟨fun | 6 => 120 | 15 => 113 | 14 => 212 | 28 => 210 | 29 => 211 | 20 => 277 | 21 => 278 | 22 => 279 | 23 => 280 | 24 => 281 | 25 => 282 | 26 => 283 | 27 => 284 | 46 => 310 | 47 => 273 | 48 => 274 | 49 => 311 | 50 => 312 | 57 => 331 | n => n, fun | 22 => 213 | 24 => 215 | 25 => 220 | 3 => 3 | 39 => 205 | 0 => 0 | 53 => 70 | 55 => 23 | 4 => 4 | 46 => 280 | 45 => 279 | 50 => 151 | 5 => 5 | 9 => 9 | 66 => 325 | 70 => 328 | 76 => 351 | 77 => 352 | n => n, fun | n => n⟩
theorem Tryz.YB : Go.Proofs.SlLaysF0.n6 Tryz.prog Tryz.VR := {
 mixed := by kernel_rfl
 f6 := ⟨Tryz.f120.name, by decide, Tryz.func120.trans (congrArg some (by kernel_rfl))⟩
 f14 := ⟨Tryz.f212.name, by decide, Tryz.func212.trans (congrArg some (by kernel_rfl))⟩
 f15 := Tryz.func113.trans (congrArg some (by kernel_rfl))
 f20 := ⟨Tryz.f277.name, by decide, Tryz.func277.trans (congrArg some (by kernel_rfl))⟩
 f21 := ⟨Tryz.f278.name, by decide, Tryz.func278.trans (congrArg some (by kernel_rfl))⟩
 f22 := ⟨Tryz.f279.name, by decide, Tryz.func279.trans (congrArg some (by kernel_rfl))⟩
 f23 := ⟨Tryz.f280.name, by decide, Tryz.func280.trans (congrArg some (by kernel_rfl))⟩
 f24 := ⟨Tryz.f281.name, by decide, Tryz.func281.trans (congrArg some (by kernel_rfl))⟩
 f25 := ⟨Tryz.f282.name, by decide, Tryz.func282.trans (congrArg some (by kernel_rfl))⟩
 f26 := ⟨Tryz.f283.name, by decide, Tryz.func283.trans (congrArg some (by kernel_rfl))⟩
 f27 := ⟨Tryz.f284.name, by decide, Tryz.func284.trans (congrArg some (by kernel_rfl))⟩
 f28 := Tryz.func210.trans (congrArg some (by kernel_rfl))
 f29 := Tryz.func211.trans (congrArg some (by kernel_rfl))
 f46 := ⟨Tryz.f310.name, by decide, Tryz.func310.trans (congrArg some (by kernel_rfl))⟩
 f47 := Tryz.func273.trans (congrArg some (by kernel_rfl))
 f48 := Tryz.func274.trans (congrArg some (by kernel_rfl))
 f49 := ⟨Tryz.f311.name, by decide, Tryz.func311.trans (congrArg some (by kernel_rfl))⟩
 f50 := ⟨Tryz.f312.name, by decide, Tryz.func312.trans (congrArg some (by kernel_rfl))⟩
 f57 := ⟨Tryz.f331.name, by decide, Tryz.func331.trans (congrArg some (by kernel_rfl))⟩
 t0 := Tryz.underlying0
 a0 := Tryz.isAgg0
 z0 := Tryz.sizeOf0
 v0 := Tryz.zeroValue0
 t3 := Tryz.underlying3
 a3 := Tryz.isAgg3
 z3 := Tryz.sizeOf3
 v3 := Tryz.zeroValue3
 t4 := Tryz.underlying4
 a4 := Tryz.isAgg4
 z4 := Tryz.sizeOf4
 v4 := Tryz.zeroValue4
 t5 := Tryz.underlying5
 a5 := Tryz.isAgg5
 z5 := Tryz.sizeOf5
 v5 := Tryz.zeroValue5
 t9 := Tryz.underlying9
 a9 := Tryz.isAgg9
 z9 := Tryz.sizeOf9
 v9 := Tryz.zeroValue9
 t22 := Tryz.underlying213
 a22 := Tryz.isAgg213
 z22 := Tryz.sizeOf213
 v22 := Tryz.zeroValue213
 t25 := Tryz.underlying220
 a25 := Tryz.isAgg220
 z25 := Tryz.sizeOf220
 v25 := Tryz.zeroValue220
 t39 := Tryz.underlying205
 a39 := Tryz.isAgg205
 z39 := Tryz.sizeOf205
 v39 := Tryz.zeroValue205
 t45 := Tryz.underlying279
 a45 := Tryz.isAgg279
 z45 := Tryz.sizeOf279
 v45 := Tryz.zeroValue279
 t46 := Tryz.underlying280
 a46 := Tryz.isAgg280
 z46 := Tryz.sizeOf280
 v46 := Tryz.zeroValue280
 t50 := Tryz.underlying151
 a50 := Tryz.isAgg151
 z50 := Tryz.sizeOf151
 v50 := Tryz.zeroValue151
 t53 := Tryz.underlying70
 a53 := Tryz.isAgg70
 z53 := Tryz.sizeOf70
 v53 := Tryz.zeroValue70
 t55 := Tryz.underlying23
 a55 := Tryz.isAgg23
 z55 := Tryz.sizeOf23
 v55 := Tryz.zeroValue23
 t66 := Tryz.underlying325
 a66 := Tryz.isAgg325
 z66 := Tryz.sizeOf325
 v66 := Tryz.zeroValue325
 t70 := Tryz.underlying328
 a70 := Tryz.isAgg328
 z70 := Tryz.sizeOf328
 v70 := Tryz.zeroValue328
 t76 := Tryz.underlying351
 a76 := Tryz.isAgg351
 z76 := Tryz.sizeOf351
 v76 := Tryz.zeroValue351
 t77 := Tryz.underlying352
 a77 := Tryz.isAgg352
 z77 := Tryz.sizeOf352
 v77 := Tryz.zeroValue352 }
end Go.Proofs
end
section
namespace Tw
open Go
theorem Spec.grown {P : Program} {f : FuncId} {args : Array Value} {R : Rr} (h : @Spec ⟨True⟩ P f args (fun _ => none) R) (w : World) :
   Calls P f args w (fun e w' => (∃ σ, R e σ) ∧ ∃ q os, w' = { w with heap := w.heap ++ os, drawn := w.drawn + q }) := by
 refine (h w (fun b => b < w.heap.size) (fun b o hb => by cases hb) (fun b hb => ⟨hb, rfl⟩)).mono ?_
 rintro e w' ⟨σ, hr, hf⟩
 refine ⟨⟨σ, hr⟩, ?_⟩
 obtain ⟨h1, h2, h30⟩ := @Fin.os ⟨True⟩ _ _ _ _ hf
 have hfp := @Fin.C7 ⟨True⟩ _ _ _ _ hf
 have hfg := @Fin.grow ⟨True⟩ _ _ _ _ hf
 have hfo := @Fin.out ⟨True⟩ _ _ _ _ hf
 obtain ⟨q, h3⟩ := h30 trivial
 refine ⟨q, w'.heap.extract w.heap.size w'.heap.size, ?_⟩
 have hh : w'.heap = w.heap ++ w'.heap.extract w.heap.size w'.heap.size := by
   apply Array.ext_getElem?
   intro i
   rw [Array.getElem?_append]
   split
   · rename_i hi
     exact (hfp i hi).2
   · rename_i hi
     rw [Array.getElem?_extract]
     have := hfg
     split
     · congr 1; omega
     · rename_i h2
       exact Array.getElem?_eq_none (by omega)
 cases w with
 | mk heap tape drawn os output =>
   cases w' with
   | mk APv APw AMK os' AIe =>
     have h4 := hfo
     simp only at h1 h2 h3 h4 hh ⊢
     subst h1 h2 h3 h4
     rw [← hh]
end Tw
end
section
namespace TwW
open Go Tw Go.Proofs.Tryz
abbrev GM := Int × Int
def encS (x : GM) : List Value := [.int .u32 x.1, .int .i64 x.2]
def dh (x y : GM) : Int := if x.1 < y.1 then -1 else if y.1 < x.1 then 1 else if x.2 < y.2 then -1 else if y.2 < x.2 then 1 else 0
theorem gi [I7] {R : Rr} {σ : Hp} {x y : Int} (h : R (.returned (.int .i64 (if x < y then -1 else if y < x then 1 else 0))) σ) : Spec prog 123 #[.int .u32 x, .int .u32 y] σ R := by
 refine HB.start (ED.start ⟨_, rfl, ED.start ⟨_, rfl, fun ht => by simp at ht, fun _ => ⟨fun ht => by simp at ht, fun _ => ⟨fun h1 => ?_, fun h1 => ⟨fun h2 => ?_, fun h2 => ?_⟩⟩⟩⟩⟩)
 · simpa [h1] using h
 · simpa [h1, h2] using h
 · simpa [h1, h2] using h
theorem gj [I7] {R : Rr} {σ : Hp} {x y : Int} (h : R (.returned (.int .i64 (if x < y then -1 else if y < x then 1 else 0))) σ) : Spec prog 124 #[.int .i64 x, .int .i64 y] σ R := by
 refine cmp_Compare_int.start (cmp_isNaN_int.start ⟨_, rfl, cmp_isNaN_int.start ⟨_, rfl, fun ht => by simp at ht, fun _ => ⟨fun ht => by simp at ht, fun _ => ⟨fun h1 => ?_, fun h1 => ⟨fun h2 => ?_, fun h2 => ?_⟩⟩⟩⟩⟩)
 · simpa [h1] using h
 · simpa [h1, h2] using h
 · simpa [h1, h2] using h
theorem VS [I7] {R : Rr} {σ : Hp} {x y : GM} (h : ∀ σ', R (.returned (.int .i64 (dh x y))) σ') : Spec prog 121 #[.agg #[.int .u32 x.1, .int .i64 x.2], .agg #[.int .u32 y.1, .int .i64 y.2]] σ R := by
 refine Lc.start fun _ _ => (gi ⟨_, rfl, gj ⟨_, rfl, fun b hb => ?_⟩⟩)
 generalize hu : (if x.1 < y.1 then (-1 : Int) else if y.1 < x.1 then 1 else 0) = u
 generalize hv : (if x.2 < y.2 then (-1 : Int) else if y.2 < x.2 then 1 else 0) = v
 have y7 : dh x y = if u = 0 then v else u := by
   unfold dh
   rw [← hu, ← hv]
   by_cases h1 : x.1 < y.1
   · simp [h1]
   · by_cases h2 : y.1 < x.1
     · simp [h1, h2]
     · simp [h1, h2]
 refine G6.start (G6.AW ⟨fun _ => ⟨b, 0, rfl, by omega, u, by simp [Hp.ld, Hp.AA], fun h0 => ⟨_, rfl, ?_⟩, fun h0 => ⟨by unfold AO; omega, G6.AW ⟨fun _ => ⟨b, 0, rfl, by omega, v, by simp [Hp.ld, Hp.AA], fun h1 => ⟨_, rfl, ?_⟩, fun h1 => ⟨by unfold AO; omega, G6.AW ⟨fun h2 => by omega, fun _ => ⟨_, rfl, ?_⟩⟩⟩⟩, fun h2 => by omega⟩⟩⟩, fun h2 => by omega⟩)
 · have := h (σ.set b (.cells #[.int .i64 u, .int .i64 v] 3 (0, 0)))
   rw [y7, if_neg h0] at this; exact this
 · have h0 : u = 0 := Decidable.byContradiction h0
   have := h (σ.set b (.cells #[.int .i64 u, .int .i64 v] 3 (0, 0)))
   rw [y7, if_pos h0] at this; exact this
 · have h0 : u = 0 := Decidable.byContradiction h0
   have h1 : v = 0 := Decidable.byContradiction h1
   have := h (σ.set b (.cells #[.int .i64 u, .int .i64 v] 3 (0, 0)))
   rw [y7, if_pos h0] at this
   simpa [h1] using this
theorem Sc (x y : GM) (W : World) : Calls prog 121 #[.agg (encS x).toArray, .agg (encS y).toArray] W fun e w' => e = .returned (.int .i64 (dh x y)) ∧ ∃ q os, w' = Sort.grow (W.drewN q) os :=
 (Spec.grown (@VS ⟨True⟩ (fun e _ => e = .returned (.int .i64 (dh x y))) _ _ _ fun _ => rfl) W).mono fun e w' ⟨⟨_, he⟩, q, os, hw⟩ => ⟨he, q, os, hw⟩
theorem ltS (x y : GM) : Proofs.ltOf dh x y = decide (x.1 < y.1 ∨ (x.1 = y.1 ∧ x.2 < y.2)) := by
 unfold Proofs.ltOf dh
 by_cases h1 : x.1 < y.1
 · simp [h1]
 · by_cases h2 : y.1 < x.1
   · simp [h1, h2]; omega
   · by_cases h3 : x.2 < y.2
     · simp [h1, h2, h3]; omega
     · by_cases h4 : y.2 < x.2
       · simp [h1, h2, h3, h4]
       · simp [h1, h2, h3, h4]
theorem AML : Sort.SWO (Proofs.ltOf dh) where
 irrefl x := by rw [ltS]; simp
 trans x y z h1 h2 := by rw [ltS] at *; simp at *; omega
 ntrans x y z h1 h2 := by rw [ltS] at *; simp at *; omega
theorem AMM (x y : GM) (h1 : Proofs.ltOf dh x y = false) (h2 : Proofs.ltOf dh y x = false) : x = y := by
 rw [ltS] at *
 simp at h1 h2
 exact Prod.ext (by omega) (by omega)
def sorted (xs : List GM) : List GM := xs.mergeSort fun x y => !(Proofs.ltOf dh) y x
theorem Dy (xs : List GM) : (sorted xs).length = xs.length := List.length_mergeSort _
theorem RR {α : Type} {enc : α → List Value} {k : Nat} (hk : ∀ x, (enc x).length = k) (h0 : 0 < k) : ∀ (xs : List α) (j : Nat), (xs.flatMap enc)[j]? = (xs[j / k]?).bind fun x => (enc x)[j % k]?
 | [], j => by simp
 | x :: xs, j => by
   rw [List.flatMap_cons, List.getElem?_append, hk]
   by_cases hj : j < k
   · rw [if_pos hj, Nat.div_eq_of_lt hj, Nat.mod_eq_of_lt hj]; simp
   · rw [if_neg hj, RR hk h0 xs, show j / k = (j - k) / k + 1 by rw [← Nat.add_div_right _ h0]; congr 1; omega, show (j - k) % k = j % k by rw [Nat.mod_eq_sub_mod (by omega : j ≥ k)]]
     simp
theorem Kx {α : Type} {enc : α → List Value} {k : Nat} (hk : ∀ x, (enc x).length = k) : ∀ (xs : List α), (xs.flatMap enc).length = xs.length * k
 | [] => by simp
 | x :: xs => by rw [List.flatMap_cons, List.length_append, Kx hk xs, hk, List.length_cons, Nat.add_mul]; omega
theorem Tz (d : List GM) (j : Nat) (hj : j < d.length * 2) : (d.flatMap encS)[j]? = some (Sort.flatK encS 2 d.toArray)[j]! := by
 rw [RR (k := 2) (fun _ => rfl) (by decide), Sort.get_flatK _ _ _ _ (by simpa using hj)]
 have Ag : j / 2 < d.length := by omega
 rw [List.getElem?_eq_getElem Ag]
 have h2 : j % 2 < (encS d[j / 2]).length := Nat.mod_lt _ (by decide)
 simp only [Option.bind_some]
 rw [List.getElem?_eq_getElem h2]
 have e1 : d.toArray[j / 2]! = d[j / 2] := by simp [Ag]
 rw [e1, getElem!_pos (encS d[j / 2]) (j % 2) h2]
theorem gk {σ : Hp} {w : World} (hs : Sat σ w) {b o m d : Nat} {cs : List Value} (h : Own 2 σ (some ⟨b, o, none⟩) m d cs) (hm : m ≠ 0) :
   ∃ arr T, σ b = some (.cells arr T (0, 0)) ∧ w.heap[b]? = some (.cells arr T (0, 0)) ∧ m ≤ d ∧ o + d * 2 ≤ arr.size ∧ (arr.toList.drop o).take (m * 2) = cs := by
 rcases h.2.2 with ⟨h1, h2, _⟩ | ⟨b', o', arr, T, hp, hb, im, Ee, IP⟩
 · exact absurd h2 hm
 · cases hp
   exact ⟨arr, T, hb, hs _ _ hb, im, Ee, IP⟩
theorem RS {R : Rr} {σ : Hp} {q : Option Addr} {m d : Nat} {xs : List GM} (ho : Own 2 σ q m d (xs.flatMap encS)) (hm : xs.length = m) (Ee : m < 4611686018427387904)
   (h : ∀ σ', Own 2 σ' q m d ((sorted xs).flatMap encS) → Ext (σ.del q) (σ'.del q) → R (.returned (.tuple #[])) σ') : Spec prog 120 #[.slice q m d, .func (.func 121) #[] #[]] σ R := by
 intro w F hs hF
 by_cases My : m = 0
 · subst My
   have hx : xs = [] := List.eq_nil_of_length_eq_zero hm
   subst hx
   have IB := Proofs.AnyF.slices_SortFunc_none Proofs.Tryz.YB q d (.func (.func 121) #[] #[]) w
   change Calls prog 120 _ _ _ at IB
   refine IB.mono ?_
   rintro e w' ⟨rfl, rfl⟩
   exact ⟨σ, h σ (by simpa [sorted] using ho) (Ext.refl _), hs, fun b hb => ⟨(hF b hb).2, rfl⟩, .same rfl rfl rfl, rfl, Nat.le_refl _⟩
 · obtain ⟨b, o, rfl⟩ : ∃ b o, q = some ⟨b, o, none⟩ := by
     rcases ho.2.2 with ⟨_, h2, _⟩ | ⟨b', o', arr, T, hp, _⟩
     · exact absurd h2 My
     · exact ⟨b', o', hp⟩
   obtain ⟨arr, T, hb, hw, im, PA, IP⟩ := gk hs ho My
   have AFj : (Sort.flatK encS 2 xs.toArray).size = m * 2 := by simp [hm]
   have PO : ∀ j, j < m * 2 → arr[o + j]? = some (Sort.flatK encS 2 xs.toArray)[j]! := fun j hj => by
     rw [← Tz xs j (by omega), ← IP, List.getElem?_take, if_pos hj, List.getElem?_drop, Array.getElem?_toList]
   have hH : Sort.HoldsK encS 2 w b o xs.toArray := fun j hj => by
     rw [AFj] at hj
     refine ⟨?_, by simp [World.frozen?, hw]⟩
     simp only [World.cell?, hw, id]
     simpa using PO j hj
   have hblk : b < w.heap.size := (Array.getElem?_eq_some_iff.1 hw).1
   have eg : ∀ args w, (callFunc 121 args).run prog w = .ok (.enter 121 args) w := fun args w => Proofs.Tryz.call121 args w
   have AMN : Proofs.CmpLays prog 121 #[] encS 2 dh b o xs.toArray.size w := fun _ _ _ _ x y => Sc x y _
   have IB := Proofs.AnyQ.slices_SortFunc_total Proofs.Tryz.YB 2 Proofs.Tryz.isAgg215 Proofs.Tryz.sizeOf215 encS (fun _ => rfl) (fun x v hv => by simp [encS] at hv; rcases hv with rfl | rfl <;> rfl) dh AML 121 #[] b o d xs.toArray w eg AMN hH hblk (by simpa [hm] using Ee) AMM
   change Calls prog 120 _ _ _ at IB
   rw [show xs.toArray.size = m by simpa using hm] at IB
   rw [show (xs.toArray.toList.mergeSort fun x y => !Proofs.ltOf dh y x) = sorted xs from rfl] at IB
   refine IB.mono ?_
   rintro e w' ⟨rfl, n, os, rfl⟩
   let F2 := Sort.flatK encS 2 (sorted xs).toArray
   have hF2 : F2.size = m * 2 := by simp [F2, Dy, hm]
   have DL : ∀ k, (Proofs.sortWorldK encS 2 w b o n (sorted xs).toArray os).heap[k]? = if k < w.heap.size then (if b = k then (w.heap[k]?).map (Sort.onCells (Sort.putCells id o F2)) else w.heap[k]?) else os[k - w.heap.size]? := fun k => by
     simp only [Proofs.sortWorldK, Sort.grow, Sort.putRowK, Sort.putRow, Sort.mapBlock, Sort.ahead, Array.getElem?_append, Array.size_modify, Array.getElem?_modify]
     rfl
   refine ⟨σ.set b (.cells (Sort.putCells id o F2 arr) T (0, 0)), h _ ⟨by rw [Kx (k := 2) (fun _ => rfl), Dy, hm], by omega, .inr ⟨b, o, _, T, rfl, Hp.AA _ _ _, im, by simpa [Sort.putCells] using PA, ?_⟩⟩ (by rw [Hp.Bl]; exact Ext.refl _), ?_⟩
   · refine List.ext_getElem? fun j => ?_
     rw [List.getElem?_take]
     by_cases hj : j < m * 2
     · rw [if_pos hj, List.getElem?_drop, Array.getElem?_toList, FJ, if_pos (by omega), Tz _ _ (by rw [Dy]; omega), PO j hj]
       simp [F2]
     · rw [if_neg hj, List.getElem?_eq_none (by rw [Kx (k := 2) (fun _ => rfl), Dy]; omega)]
   · refine ⟨fun k u hk => ?_, fun k hk => ?_, ⟨rfl, rfl, fun _ => ⟨n, rfl⟩⟩, rfl, by simp [Proofs.sortWorldK, Sort.grow, Sort.putRowK, Sort.putRow, Sort.mapBlock, Sort.ahead]⟩
     · rw [DL]
       by_cases DD : k = b
       · subst DD
         rw [Hp.AA] at hk; cases hk
         rw [if_pos hblk, if_pos rfl, hw]; rfl
       · rw [Hp.AF DD] at hk
         have := hs k u hk
         rw [if_pos (Array.getElem?_eq_some_iff.1 this).1, if_neg (Ne.symm DD)]; exact this
     · have DD : k ≠ b := fun e => by have := (hF k hk).2; rw [e, hb] at this; cases this
       refine ⟨by rw [Hp.AF DD]; exact (hF k hk).2, ?_⟩
       rw [DL, if_pos (hF k hk).1, if_neg (Ne.symm DD)]
end TwW
end
section
namespace TwW
open Go Tw Go.Proofs.Tryz
def Ky (m : Mem) : List GM := if m.state = 2 then m.B8.map (fun t => (t, m.id)) else []
def Bk (ms : List Mem) : List GM := ms.flatMap Ky
theorem YC (m : Mem) (N : Nat) (h : m.B8.length ≤ N) : (Ky m).length ≤ N := by
 unfold Ky; split <;> simp; exact h
theorem Kz : ∀ (ms : List Mem) (N : Nat), (∀ m ∈ ms, m.B8.length ≤ N) → (Bk ms).length ≤ ms.length * N
 | [], N, _ => by simp [Bk]
 | m :: ms, N, h => by
   have h1 := Kz ms N (fun x hx => h x (List.mem_cons_of_mem _ hx))
   have h2 := YC m N (h m (List.mem_cons_self ..))
   simp only [Bk, List.flatMap_cons, List.length_append, List.length_cons, Nat.add_mul] at *
   omega
theorem RT {ms : List Mem} {i : Nat} {m : Mem} (h : ms[i]? = some m) : Bk (ms.take (i + 1)) = Bk (ms.take i) ++ Ky m := by
 simp [Bk, List.take_add_one, h]
abbrev c5 (τ : Hp) (b : Nat) (q : Option Addr) (m d : Nat) : Hp := τ.set b (.cells #[.slice q m d] 213 (0, 0))
theorem sP (w : World) : (Go.sizeOf 213).run prog w = .ok 1 w := Go.Proofs.Tryz.sizeOf213 w
def Kc (_ : Hp) (vs : List Value) (x : GM) : Prop := vs = encS x
theorem Kc.mono : PD Kc := fun _ _ _ _ _ h => h
theorem sQ {σ : Hp} : ∀ {xs : List GM}, Ch 2 Kc σ (xs.flatMap encS) xs := fun {xs} => by
 refine ⟨Kx (k := 2) (fun _ => rfl) xs, fun i x hx => ?_⟩
 show _ = encS x
 refine List.ext_getElem? fun j => ?_
 rw [List.getElem?_take]
 by_cases hj : j < 2
 · rw [if_pos hj, List.getElem?_drop, RR (k := 2) (fun _ => rfl) (by decide), show (i * 2 + j) / 2 = i by omega, show (i * 2 + j) % 2 = j by omega, hx]; rfl
 · rw [if_neg hj, List.getElem?_eq_none (by show 2 ≤ j; omega)]
theorem gm {x : GM} : CU (encS x) := by
 intro u hu
 simp [encS] at hu
 rcases hu with rfl | rfl <;> rfl
theorem YD {R : Rr} {σ : Hp} {e hash : Int} {p : Option Addr} {n c : Nat} {ms : List Mem} (hr : Pa σ p n ms) (Au : LV ms)
   (h : ∀ b5 EL q m d τ k, τ b5 = none → τ EL = none → b5 ≠ EL → Ext σ τ → GS 2 Kc (σ.new τ) q m (sorted (Bk ms)) → k ≤ m → (∀ s ∈ (sorted (Bk ms)).take k, s.1 < hash) → (∀ s, (sorted (Bk ms))[k]? = some s → ¬ s.1 < hash) →
     R (.returned (.func (.func 125) #[] #[.pointer (some ⟨b5, 0, none⟩), .pointer (some ⟨EL, 0, none⟩)])) ((c5 τ b5 q m d).set EL (.cells #[.int .i64 k] 3 (0, 0)))) :
   Spec prog 55 #[GL e p n c, .int .u32 hash] σ R := by
 have hn : ms.length = n := hr.1
 have hlen := Au.len
 refine BJ.start fun _ b5 XT => ?_
 have AFk : ∀ q m d τ, m = (Bk ms).length → τ b5 = none → Ext σ τ → Own 2 (σ.new τ) q m d ((Bk ms).flatMap encS) → ∃ R1 : Option Addr, ∃ n37 : Nat, ∃ c37 : Nat, Hp.ld (c5 τ b5 q m d) ⟨b5, 0, none⟩ = some (.slice R1 n37 c37) ∧ Spec prog 120 #[(.slice R1 n37 c37), (.func (.func 121) #[] #[])] (c5 τ b5 q m d) (AB R (fun v σ1 => v = (.tuple #[]) ∧ ∀ EL : Nat, σ1 EL = none → AJ prog (Instr.storeAt 3 (.pointer (some ⟨EL, 0, none⟩)) (.int .i64 0)) (Hp.set σ1 EL (.cells #[(.int .i64 0)] 3 (0, 0))) (fun _ Bb => BJ.G7 R hash b5 EL Bb))) := by
   intro q m d τ hm hb hx ho
   refine ⟨q, m, d, Ac rfl, Spec.BW hb ?_⟩
   have Fy : m ≤ 1024 := by
     have h1 := Kz ms 64 (fun x hx => (Au.1 x hx).2.2.2.2.2.1)
     omega
   refine RS (ho.mono (Ext.Af σ τ)) hm.symm (by omega) fun τ' EN Cc J1 => ⟨rfl, fun EL AFl => ?_⟩
   obtain ⟨Ad, vS⟩ := Hp.AL AFl
   refine AJ.store X8 (Hp.AA _ _ _) rfl (by simp) (by simp [Value.cells, Value.oneCell']) ?_
   rw [Hp.set_set]
   have fj : Ext σ τ' := CX ho.Dp Cc hx
   have hL : (sorted (Bk ms)).length = m := by rw [Dy, hm]
   have MP : GS 2 Kc (σ.new τ') q m (sorted (Bk ms)) := ⟨hL, _, (Own.CV EN (B2 ho.Dp Cc hx)).rd, sQ⟩
   have HM : GS 2 Kc τ' q m (sorted (Bk ms)) := MP.mono Kc.mono (Ext.Af σ τ')
   suffices H : ∀ g k, m - k = g → k ≤ m → (∀ s ∈ (sorted (Bk ms)).take k, s.1 < hash) → BJ.G7 R hash b5 EL ((c5 τ' b5 q m d).set EL (.cells #[.int .i64 k] 3 (0, 0))) from by
     have := H m 0 rfl (by omega) (by simp)
     simpa [DX, Value.cells] using this
   intro g
   induction g with
   | zero =>
     intro k hg hk R8
     refine BJ.Pn ⟨k, Ac rfl, q, m, d, by rw [Hp.set_comm Ad.symm]; exact Ac rfl, fun Ag => by omega, fun _ => ?_⟩
     exact h b5 EL q m d τ' k J1 vS Ad.symm fj MP hk R8 (fun s hs => by have := (List.getElem?_eq_some_iff.1 hs).1; omega)
   | succ g ih =>
     intro k hg hk R8
     obtain ⟨s, hs⟩ := HM.ex (k := k) (by omega)
     obtain ⟨b, o, vs, hq, hv, hl⟩ := GS.idx HM hs
     have hv : vs = encS s := hv
     subst hv
     have N7 : Ext τ' ((c5 τ' b5 q m d).set EL (.cells #[.int .i64 k] 3 (0, 0))) := (Ext.set J1).trans (.set AFl)
     refine BJ.Pn ⟨k, Ac rfl, q, m, d, by rw [Hp.set_comm Ad.symm]; exact Ac rfl, fun Ag => ⟨q, m, d, by rw [Hp.set_comm Ad.symm]; exact Ac rfl, k, Ac rfl, b, o, hq, by omega, s.1, by simpa using N7.ld hl.1, fun ht => ⟨k, Ac rfl, by unfold AO; omega, ?_⟩, fun ht => ?_⟩, fun F8 => by omega⟩
     · refine AJ.store X8 (Hp.AA _ _ _) rfl (by simp) (by simp [Value.cells, Value.oneCell']) ?_
       rw [Hp.set_set]
       have := ih (k + 1) (by omega) (by omega) (fun s' II => by
         rw [List.take_add_one, hs] at II
         simp only [Option.toList, List.mem_append, List.mem_singleton] at II
         rcases II with II | rfl
         · exact R8 s' II
         · exact ht)
       simpa [DX, Value.cells] using this
     · exact h b5 EL q m d τ' k J1 vS Ad.symm fj MP hk R8 (fun s' II => by rw [hs] at II; cases II; exact ht)
 suffices H : ∀ g i : Nat, ∀ q m d τ, n - i = g → i ≤ n → m = (Bk (ms.take i)).length → τ b5 = none → Ext σ τ → Own 2 (σ.new τ) q m d ((Bk (ms.take i)).flatMap encS) → BJ.A1 R hash b5 p n c n i (c5 τ b5 q m d) from
   H n 0 none 0 0 σ rfl (by omega) rfl XT (.refl σ) .nil
 intro g
 induction g with
 | zero =>
   intro i q m d τ hg hi hm hb hx ho
   refine BJ.AW ⟨fun Ag => by omega, fun _ => ?_⟩
   rw [List.take_of_length_le (by omega)] at hm ho
   exact AFk q m d τ hm hb hx ho
 | succ g ih =>
   intro i q m d τ hg hi hm hb hx ho
   refine BJ.AW ⟨fun Ag => ?_, fun F8 => by omega⟩
   obtain ⟨mm, gn⟩ := hr.ex (k := i) (by omega)
   obtain ⟨b, o, q1, j, d1, rfl, hl, ht⟩ := hr.at' gn
   have Cl : mm ∈ ms := List.mem_of_getElem? gn
   have gp := Au.1 mm Cl
   have hj : mm.B8.length = j := ht.1
   have ATU : j ≤ 64 := by rw [← hj]; exact gp.2.2.2.2.2.1
   have PQ : (Bk (ms.take i)).length ≤ i * 64 := by
     have h1 := Kz (ms.take i) 64 (fun x hx => (Au.1 x (List.mem_of_mem_take hx)).2.2.2.2.2.1)
     rw [List.length_take] at h1
     have : min i ms.length * 64 ≤ i * 64 := Nat.mul_le_mul_right _ (Nat.min_le_left ..)
     omega
   refine ⟨b, o, rfl, by omega, mm.id, mm.state, q1, j, d1, by simpa using hl.mono (hx.trans (.set hb)), fun _ => ?_⟩
   suffices H2 : ∀ g2 k : Nat, ∀ q m d τ, j - k = g2 → k ≤ j → m = (Bk (ms.take i) ++ (if mm.state = 2 then (mm.B8.take k).map (fun t => (t, mm.id)) else [])).length → τ b5 = none → Ext σ τ → Own 2 (σ.new τ) q m d ((Bk (ms.take i) ++ (if mm.state = 2 then (mm.B8.take k).map (fun t => (t, mm.id)) else [])).flatMap encS) →
       BJ.Gn R hash b5 mm.id mm.state q1 j d1 (some ⟨b, o, none⟩) n c n i q1 j d1 j k (c5 τ b5 q m d) from
     H2 j 0 q m d τ rfl (by omega) (by simpa using hm) hb hx (by simpa using ho)
   intro g2
   induction g2 with
   | zero =>
     intro k q m d τ hg2 hk hm hb hx ho
     refine BJ.F4 ⟨fun Ag => by omega, fun _ => ⟨by unfold AO; omega, ih (i + 1) q m d τ (by omega) (by omega) ?_ hb hx ?_⟩⟩
     all_goals rw [List.take_of_length_le (by omega : mm.B8.length ≤ k)] at *
     · rw [RT gn]; exact hm
     · rw [RT gn]; exact ho
   | succ g2 sL =>
     intro k q m d τ hg2 hk hm hb hx ho
     obtain ⟨t, M8⟩ := ht.ex (k := k) (by omega)
     obtain ⟨b2, o2, rfl, SX⟩ := ht.at M8
     refine BJ.F4 ⟨fun _ => ⟨b2, o2, rfl, by omega, t, by simpa using (hx.trans (.set hb)).ld SX, fun h2 => ?_, fun h2 => ?_⟩, fun F8 => by omega⟩
     · refine ⟨q, m, d, Ac rfl, fun Yu gq => ?_⟩
       obtain ⟨Ad, AFm⟩ := Hp.AL gq
       rw [Hp.set_comm Ad.symm]
       rw [if_pos h2] at hm ho
       have APx : m ≤ 2048 := by rw [hm]; simp; omega
       refine AJ.BW (Hp.BD Ad.symm hb) (JE (m := 1) (ys := encS (t, mm.id)) hx ho rfl gm (by omega) (fun q' d' τ' EN Cc _ J1 => ⟨q', m + 1, d', rfl, ?_⟩) AFm)
       refine AJ.store sP (Hp.AA _ _ _) rfl (by simp) (by simp [Value.cells, Value.oneCell']) ?_
       rw [Hp.set_set]
       have e1 : mm.B8.take (k + 1) = mm.B8.take k ++ [t] := AR M8
       have := sL (k + 1) q' (m + 1) d' τ' (by omega) (by omega) (by rw [if_pos h2, e1, hm]; simp; omega) J1 Cc (by
         rw [if_pos h2, e1, List.map_append, ← List.append_assoc, List.flatMap_append]
         simpa using EN)
       refine BJ.Mf ⟨by unfold AO; omega, ?_⟩
       simpa [DX, Value.cells] using this
     · rw [if_neg h2] at hm ho
       exact BJ.Mf ⟨by unfold AO; omega, sL (k + 1) q m d τ (by omega) (by omega) (by rw [if_neg h2]; exact hm) hb hx (by rw [if_neg h2]; exact ho)⟩
end TwW
end
section
namespace TwW
open Go Tw Go.Proofs.Tryz
def Se (ms : List Mem) (hash : Int) : List GM := (sorted (Bk ms)).dropWhile (fun s => decide (s.1 < hash)) ++ (sorted (Bk ms)).takeWhile (fun s => decide (s.1 < hash))
def dd : List Int → List Int → List Int
 | acc, [] => acc
 | acc, x :: xs => if x ∈ acc then dd acc xs else dd (acc ++ [x]) xs
def round (ms : List Mem) (hash : Int) : List Int := dd [] ((Se ms hash).map Prod.snd)
theorem ad : ∀ (xs acc : List Int), ∃ E, dd acc xs = acc ++ E
 | [], acc => ⟨[], by simp [dd]⟩
 | x :: xs, acc => by
   unfold dd
   split
   · exact ad xs acc
   · obtain ⟨E, hE⟩ := ad xs (acc ++ [x])
     exact ⟨x :: E, by rw [hE]; simp⟩
theorem ae : ∀ (xs ys acc : List Int), dd acc (xs ++ ys) = dd (dd acc xs) ys
 | [], ys, acc => rfl
 | x :: xs, ys, acc => by
   simp only [List.cons_append, dd]
   split <;> exact ae xs ys _
theorem af : ∀ (xs acc : List Int) (y : Int), y ∈ dd acc xs ↔ y ∈ acc ∨ y ∈ xs
 | [], acc, y => by simp [dd]
 | x :: xs, acc, y => by
   unfold dd
   split
   · rename_i h
     rw [af xs acc y, List.mem_cons]
     constructor
     · rintro (h1 | h1)
       · exact .inl h1
       · exact .inr (.inr h1)
     · rintro (h1 | rfl | h1)
       · exact .inl h1
       · exact .inl h
       · exact .inr h1
   · rw [af xs _ y]; simp [or_assoc]
theorem RU : ∀ (xs acc : List Int), acc.Nodup → (dd acc xs).Nodup
 | [], acc, h => h
 | x :: xs, acc, h => by
   unfold dd
   split
   · exact RU xs acc h
   · rename_i hx
     refine RU xs _ ?_
     rw [List.nodup_append]
     exact ⟨h, by simp, fun a ha b hb => by simp at hb; subst hb; exact fun e => hx (e ▸ ha)⟩
theorem ag {xs : List GM} {x : GM} : x ∈ sorted xs ↔ x ∈ xs := (List.mergeSort_perm xs _).mem_iff
theorem YE {ms : List Mem} {hash : Int} {s : GM} : s ∈ Se ms hash ↔ s ∈ Bk ms := by
 unfold Se
 rw [List.mem_append, or_comm, ← List.mem_append, List.takeWhile_append_dropWhile, ag]
def kd (hash t : Int) : Int := (t - hash) % 4294967296
def oh (t : Int) : Prop := 0 ≤ t ∧ t < 4294967296
def better (hash : Int) (b : Option GM) (s : GM) : Option GM :=
 match b with
 | none => some s
 | some u => if kd hash s.1 < kd hash u.1 then some s else some u
def pick (hash : Int) (xs : List GM) : Option GM := xs.foldl (better hash) none
theorem OB : ∀ (A B : List Int), A.Nodup → (∀ x ∈ A, x ∈ B) → A.length ≤ B.length
 | [], B, _, _ => Nat.zero_le _
 | a :: A, B, hn, h => by
   rw [List.nodup_cons] at hn
   have ha := h a (List.mem_cons_self ..)
   have := OB A (B.erase a) hn.2 (fun x hx => (List.mem_erase_of_ne (fun (e : x = a) => hn.1 (by rw [← e]; exact hx))).2 (h x (List.mem_cons_of_mem _ hx)))
   rw [List.length_erase_of_mem ha] at this
   have hb : 0 < B.length := List.length_pos_of_mem ha
   simp; omega
theorem YG {A B : List Int} (ha : A.Nodup) (hb : B.Nodup) (h : ∀ x, x ∈ A ↔ x ∈ B) : A.length = B.length :=
 Nat.le_antisymm (OB A B ha fun x hx => (h x).1 hx) (OB B A hb fun x hx => (h x).2 hx)
def CE (ms : List Mem) : List Int := (ms.filter fun m => decide (m.state = 2)).map Mem.id
theorem mX {ms : List Mem} (Au : LV ms) (x : Int) : x ∈ (Bk ms).map Prod.snd ↔ x ∈ CE ms := by
 unfold Bk CE
 simp only [List.mem_map, List.mem_flatMap, List.mem_filter, decide_eq_true_eq]
 constructor
 · rintro ⟨s, ⟨m, hm, hs⟩, rfl⟩
   unfold Ky at hs
   split at hs
   · rename_i h2
     obtain ⟨t, ht, rfl⟩ := List.mem_map.1 hs
     exact ⟨m, ⟨hm, h2⟩, rfl⟩
   · cases hs
 · rintro ⟨m, ⟨hm, h2⟩, rfl⟩
   have h1 := (Au.1 m hm).2.2.2.2.1
   cases hto : m.B8 with
   | nil => rw [hto] at h1; simp at h1
   | cons t ts => exact ⟨(t, m.id), ⟨m, hm, by unfold Ky; rw [if_pos h2, hto]; simp⟩, rfl⟩
theorem RV {xs : List Int} (h : EY xs) : xs.Nodup := List.Pairwise.imp (fun {a b} (gK : a < b) => by omega) h
theorem T0 {ms : List Mem} {hash x : Int} (Au : LV ms) : x ∈ round ms hash ↔ x ∈ CE ms := by
 unfold round
 rw [af, ← mX Au]
 simp only [List.not_mem_nil, false_or, List.mem_map]
 constructor
 · rintro ⟨s, hs, rfl⟩; exact ⟨s, YE.1 hs, rfl⟩
 · rintro ⟨s, hs, rfl⟩; exact ⟨s, YE.2 hs, rfl⟩
theorem Oz (ms : List Mem) (hash : Int) : (round ms hash).Nodup := RU _ _ List.nodup_nil
theorem T4 {ms : List Mem} {hash : Int} (Au : LV ms) : (round ms hash).length = (CE ms).length :=
 YG (Oz ms hash) ((RV Au.2).sublist ((List.filter_sublist).map _)) fun x => T0 Au
end TwW
end
section
namespace TwW
open Go Tw Go.Proofs.Tryz
theorem ah {R : Rr} {σ : Hp} {p : Option Addr} {n c : Nat} {x : Int} {xs : List Int} (hr : CA .i64 σ p n xs) (h : ∀ i : Int, (0 ≤ i ↔ x ∈ xs) → R (.returned (.int .i64 i)) σ) :
   Spec prog 114 #[.slice p n c, .int .i64 x] σ R := by
 refine slices_Index_int.start ?_
 suffices H : ∀ d k : Nat, n - k = d → k ≤ n → x ∉ xs.take k → slices_Index_int.Ns R p n c x n k σ from H n 0 rfl (Nat.zero_le _) (by simp)
 intro d
 induction d with
 | zero =>
   intro k hd hk Be
   refine slices_Index_int.EJ ⟨fun Ag => by omega, fun _ => h (-1) ?_⟩
   rw [List.take_of_length_le (by rw [hr.1]; omega)] at Be
   exact ⟨fun h => absurd h (by decide), fun h => absurd h Be⟩
 | succ d ih =>
   intro k hd hk Be
   obtain ⟨y, hy⟩ := hr.ex (k := k) (by omega)
   obtain ⟨b, o, rfl, hl⟩ := hr.at hy
   refine slices_Index_int.EJ ⟨fun _ => ⟨b, o, rfl, by omega, y, by simpa using hl, fun he => h k ⟨fun _ => ?_, fun _ => by omega⟩, fun Ad => ⟨Ah (by omega) hr.big, ih (k + 1) (by omega) (by omega) ?_⟩⟩, fun F8 => by omega⟩
   · rw [show x = y by omega]; exact List.mem_of_getElem? hy
   · rw [Hy hy]
     rintro (h1 | h1)
     · exact Be h1
     · exact Ad (by omega)
theorem ID {R : Rr} {σ : Hp} {p : Option Addr} {n c : Nat} {x : Int} {xs : List Int} (hr : CA .i64 σ p n xs) (h : R (.returned (.bool (decide (x ∈ xs)))) σ) :
   Spec prog 50 #[.slice p n c, .int .i64 x] σ R :=
 slices_Contains_int.start (ah hr fun i hi => ⟨i, rfl, by dsimp only; rw [show decide (0 ≤ i) = decide (x ∈ xs) by by_cases hx : x ∈ xs <;> simp [hx, hi]]; exact h⟩)
abbrev NV (b5 b6 b7 b8 D l : Nat) (rf : Int) (o6 : Value) (o7 : Int) (q : Option Addr) (n d : Nat) (lo : Loop) : List (Nat × Obj) :=
 [(l, .loop lo), (D, .deferred (some [])), (b8, .cells #[.slice q n d] 26 (0, 0)), (b7, .cells #[.int .i64 o7] 67 (0, 0)), (b6, .cells #[o6] 26 (0, 0)), (b5, .cells #[.int .i64 rf] 3 (0, 0))]
theorem Kd {B : Hp} {b5 b6 b7 b8 D l : Nat} {rf : Int} {o6 : Value} {o7 : Int} {q : Option Addr} {n d : Nat} {lo lo' : Loop} : (AX B (NV b5 b6 b7 b8 D l rf o6 o7 q n d lo)).set l (.loop lo') = AX B (NV b5 b6 b7 b8 D l rf o6 o7 q n d lo') := Hp.set_set
theorem Py (w : World) : (Go.sizeOf 26).run prog w = .ok 1 w := Go.Proofs.Tryz.sizeOf26 w
theorem ai (w : World) : (Go.sizeOf 67).run prog w = .ok 1 w := Go.Proofs.Tryz.sizeOf67 w
section
variable {b5 b6 b7 b8 D l : Nat}
def Nd (b5 b6 b7 b8 D l : Nat) : Prop := [l, D, b8, b7, b6, b5].Nodup
def YH (b5 b6 b7 b8 D l : Nat) (B : Hp) : Prop := ∀ b ∈ [l, D, b8, b7, b6, b5], B b = none
theorem T5 {R2 : Rr} {σ B : Hp} {r0 : Loop} {n k0 d : Nat} {q : Option Addr} {out : List Int} (hn : Nd b5 b6 b7 b8 D l)
   (ready : n ≠ k0 → R2 (.returned (.bool true)) (AX B (NV b5 b6 b7 b8 D l k0 (.slice none 0 0) 0 q n d (lp r0 .ready none))))
   (stop : n = k0 → R2 (.returned (.bool false)) (AX B (NV b5 b6 b7 b8 D l k0 (.slice q n d) 0 q n d (lp r0 .done (some .ret))))) :
   DU.pW R2 l r0 b5 b6 b7 b8 (AX B (NV b5 b6 b7 b8 D l k0 (.slice none 0 0) 0 q n d (lp r0 .busy none))) := by
 refine DU.pY ⟨q, n, d, IJ (i := 2) hn rfl rfl, k0, IJ (i := 5) hn rfl rfl, fun he => ⟨q, n, d, IJ (i := 2) hn rfl rfl, ?_⟩, fun Ad => ⟨B7 (i := 0) hn rfl, ?_⟩⟩
 · refine AJ.B4 (i := 4) (c := #[.slice none 0 0]) Py hn rfl rfl rfl rfl rfl ?_
   refine AJ.B4 (i := 3) (c := #[.int .i64 0]) ai hn rfl rfl rfl rfl rfl ?_
   refine ⟨B7 (i := 0) hn rfl, ?_⟩
   have JC := stop (by omega)
   rw [← Kd (lo := lp r0 .busy none)] at JC
   exact JC
 · have Vh := ready (by omega)
   rw [← Kd (lo := lp r0 .busy none)] at Vh
   exact Vh
theorem aj {R2 : Rr} {σ B : Hp} {r0 : Loop} {n k0 d : Nat} {q : Option Addr} {out : List Int} {x : Int} (hn : Nd b5 b6 b7 b8 D l) (FA : YH b5 b6 b7 b8 D l B) (hx : Ext σ B) (ho : AS .i64 (σ.new B) q n d out) (hnk : n < k0) (hk5 : k0 ≤ 5)
   (ready : ∀ q' n' d' B' Ke, Ke = (if x ∈ out then out else out ++ [x]) → n' = Ke.length → n' < k0 → YH b5 b6 b7 b8 D l B' → Ext σ B' → AS .i64 (σ.new B') q' n' d' Ke → Ext ((σ.new B).del q) ((σ.new B').del q') → R2 (.returned (.bool true)) (AX B' (NV b5 b6 b7 b8 D l k0 (.slice none 0 0) 0 q' n' d' (lp r0 .ready none))))
   (stop : ∀ q' d' B' Ke, Ke = (if x ∈ out then out else out ++ [x]) → k0 = Ke.length → YH b5 b6 b7 b8 D l B' → Ext σ B' → AS .i64 (σ.new B') q' k0 d' Ke → R2 (.returned (.bool false)) (AX B' (NV b5 b6 b7 b8 D l k0 (.slice q' k0 d') 0 q' k0 d' (lp r0 .done (some .ret))))) :
   DU.Ap R2 l r0 b5 b6 b7 b8 x (AX B (NV b5 b6 b7 b8 D l k0 (.slice none 0 0) 0 q n d (lp r0 .ready none))) := by
 have hol : out.length = n := ho.rd.1
 have APz : ∀ lo o6 o7 q n d, Hf (NV b5 b6 b7 b8 D l k0 o6 o7 q n d lo) B := fun _ _ _ _ _ _ => FA
 refine DU.BI ⟨B7 (i := 0) hn rfl, ?_⟩
 rw [show Hp.set (AX B (NV b5 b6 b7 b8 D l k0 (.slice none 0 0) 0 q n d (lp r0 .ready none))) l (.loop (lp r0 .busy none)) = AX B (NV b5 b6 b7 b8 D l k0 (.slice none 0 0) 0 q n d (lp r0 .busy none)) from Kd]
 change ∃ R0 : Option Addr, ∃ n25 : Nat, ∃ Pk : Nat, Hp.ld (AX B (NV b5 b6 b7 b8 D l k0 (.slice none 0 0) 0 q n d (lp r0 .busy none))) ⟨b8, 0, none⟩ = some (.slice R0 n25 Pk) ∧ Spec prog 50 #[.slice R0 n25 Pk, .int .i64 x] (AX B (NV b5 b6 b7 b8 D l k0 (.slice none 0 0) 0 q n d (lp r0 .busy none))) _
 have Qq : Ext B (AX B (NV b5 b6 b7 b8 D l k0 (.slice none 0 0) 0 q n d (lp r0 .busy none))) := Hf.ext (hn : (names (NV b5 b6 b7 b8 D l k0 (.slice none 0 0) 0 q n d (lp r0 .busy none))).Nodup) FA
 refine ⟨q, n, d, IJ (i := 2) hn rfl rfl, ID (ho.rd.mono ((Ext.Af σ B).trans Qq)) ⟨_, rfl, fun hf => ?_, fun ht => ?_⟩⟩
 · have hnx : x ∉ out := by simpa using hf
   refine ⟨q, n, d, IJ (i := 2) hn rfl rfl, fun J5 sR => ?_⟩
   obtain ⟨MV, hB⟩ := B3 sR
   rw [DE MV]
   refine AJ.CH hn (Hf.set (L := NV b5 b6 b7 b8 D l k0 (.slice none 0 0) 0 q n d (lp r0 .busy none)) FA MV) (AS.JF hx ho (by omega) (fun q' d' B' EN Cc jK T6 => ⟨q', n + 1, d', rfl, ?_⟩) hB)
   refine AJ.B4 (i := 2) (c := #[.slice q n d]) Py hn rfl rfl rfl rfl rfl ?_
   have hlen : (out ++ [x]).length = n + 1 := by simp [hol]
   refine T5 (σ := σ) (out := out) hn (fun Ad => ready q' (n + 1) d' B' (out ++ [x]) (by rw [if_neg hnx]) hlen.symm (by omega) T6 Cc EN jK) fun he => ?_
   subst he
   exact stop q' d' B' (out ++ [x]) (by rw [if_neg hnx]) hlen.symm T6 Cc EN
 · have SY : x ∈ out := by simpa using ht
   refine T5 (σ := σ) (out := out) hn (fun Ad => ready q n d B out (by rw [if_pos SY]) hol.symm hnk FA hx ho (.refl _)) fun he => by omega
end
theorem vT : ∀ (L : List GM) (k : Nat) (hash : Int), (∀ s ∈ L.take k, s.1 < hash) → (∀ s, L[k]? = some s → ¬ s.1 < hash) → L.takeWhile (fun s => decide (s.1 < hash)) = L.take k ∧ L.dropWhile (fun s => decide (s.1 < hash)) = L.drop k
 | [], k, hash, _, _ => by simp
 | x :: L, 0, hash, _, h2 => by
   have := h2 x rfl
   simp [List.takeWhile, List.dropWhile, decide_eq_false this]
 | x :: L, k + 1, hash, h1, h2 => by
   have hx : x.1 < hash := h1 x (by simp)
   have ih := vT L k hash (fun s hs => h1 s (by simp [hs])) (fun s hs => h2 s (by simpa using hs))
   simp [List.takeWhile, List.dropWhile, decide_eq_true hx, ih.1, ih.2]
theorem mY {ms : List Mem} {hash : Int} {k m j : Nat} (hm : (sorted (Bk ms)).length = m) (hk : k ≤ m) (h1 : ∀ s ∈ (sorted (Bk ms)).take k, s.1 < hash) (h2 : ∀ s, (sorted (Bk ms))[k]? = some s → ¬ s.1 < hash) (hj : j < m) :
   (Se ms hash)[j]? = (sorted (Bk ms))[(k + j) % m]? := by
 obtain ⟨e1, e2⟩ := vT _ k hash h1 h2
 unfold Se
 rw [e1, e2, List.getElem?_append, List.length_drop, hm]
 by_cases UR : j < m - k
 · rw [if_pos UR, List.getElem?_drop, Nat.mod_eq_of_lt (by omega)]
 · rw [if_neg UR, List.getElem?_take, if_pos (by omega), show (k + j) % m = j - (m - k) by rw [Nat.mod_eq_sub_mod (by omega), Nat.mod_eq_of_lt (by omega)]; omega]
theorem mZ {ms : List Mem} {hash : Int} : (Se ms hash).length = (Bk ms).length := by
 unfold Se
 rw [List.length_append, Nat.add_comm, ← List.length_append, List.takeWhile_append_dropWhile, Dy]
theorem VT {R : Rr} {σ0 : Hp} {H6 c5 l k m d : Nat} {q : Option Addr} {ms : List Mem} {hash : Int} {I : Nat → Hp → Prop} {S : Hp → Prop}
   (hm : (sorted (Bk ms)).length = m) (hm9 : m ≤ 1024) (hk : k ≤ m) (h1 : ∀ s ∈ (sorted (Bk ms)).take k, s.1 < hash) (h2 : ∀ s, (sorted (Bk ms))[k]? = some s → ¬ s.1 < hash)
   (hI : ∀ j σ, I j σ → Hp.ld σ ⟨c5, 0, none⟩ = some (.slice q m d) ∧ Hp.ld σ ⟨H6, 0, none⟩ = some (.int .i64 k) ∧ GS 2 Kc σ q m (sorted (Bk ms)))
   (OK : ∀ j σ s, I j σ → (Se ms hash)[j]? = some s → J9 prog l #[.int .i64 s.2] σ (fun e σ' => (e = .returned (.bool true) ∧ I (j + 1) σ') ∨ (e = .returned (.bool false) ∧ S σ')))
   (eL : ∀ σ, I m σ → R (.returned (.tuple #[])) σ) (AFn : ∀ σ, S σ → R (.returned (.tuple #[])) σ) (h0 : I 0 σ0) :
   Spec prog 125 #[.func (.yield l) #[] #[], .pointer (some ⟨c5, 0, none⟩), .pointer (some ⟨H6, 0, none⟩)] σ0 R := by
 refine EP.start ⟨q, m, d, (hI 0 σ0 h0).1, ?_⟩
 suffices H : ∀ g j : Nat, ∀ σ, m - j = g → j ≤ m → I j σ → EP.pt5 R (.func (.yield l) #[] #[]) c5 H6 m j σ from H m 0 σ0 rfl (by omega) h0
 intro g
 induction g with
 | zero =>
   intro j σ hg hj hi
   obtain rfl : j = m := by omega
   exact EP.kn ⟨fun Ag => by omega, fun _ => eL σ hi⟩
 | succ g ih =>
   intro j σ hg hj hi
   obtain ⟨f1, f2, f3⟩ := hI j σ hi
   have hjm : j < m := by omega
   have Nc : (k + j) % m < m := Nat.mod_lt _ (by omega)
   obtain ⟨s, hs⟩ := f3.ex Nc
   obtain ⟨b, o, vs, hq, hv, hl⟩ := GS.idx f3 hs
   have hv : vs = encS s := hv
   subst hv
   have IP : (Se ms hash)[j]? = some s := by rw [mY hm hk h1 h2 hjm]; exact hs
   refine EP.kn ⟨fun _ => ⟨q, m, d, f1, k, f2, by unfold AO; omega, q, m, d, f1, by omega, fun D8 AMO => ?_⟩, fun F8 => by omega⟩
   have h17 : D8 = (((k + j) % m : Nat) : Int) := by
     rw [AMO, Int.tmod_eq_emod_of_nonneg (by omega), Int.natCast_emod, Int.natCast_add]
   subst h17
   refine ⟨b, o, hq, by omega, s.2, by rw [Int.toNat_natCast]; exact hl.2.1, l, rfl, (OK j σ s hi IP).mono fun e σ' he => ?_⟩
   rcases he with ⟨rfl, Jl⟩ | ⟨rfl, II⟩
   · exact ⟨true, rfl, fun h => (by cases h), fun _ => ⟨by unfold AO; omega, ih (j + 1) σ' (by omega) (by omega) Jl⟩⟩
   · exact ⟨false, rfl, fun _ => AFn σ' II, fun h => by cases h⟩
end TwW
end
section
namespace TwW
open Go Tw Go.RowKit Go.Proofs.Tryz
structure Part where
 s : Sm
 rs : List Int
def Dz (σ : Hp) (vs : List Value) (x : Part × Nat) : Prop := ∃ p n c q m d, vs = [.slice p n c, .int .i64 x.1.s.t, .int .u64 x.1.s.v, .slice q m d, .map (some x.2)] ∧ SA σ p n x.1.s.ls ∧ CA .i64 σ q m x.1.rs
theorem Dz.mono : PD Dz := fun _ _ _ _ hx ⟨p, n, c, q, m, d, hv, h1, h2⟩ => ⟨p, n, c, q, m, d, hv, h1.mono Ka.mono hx, h2.mono hx⟩
abbrev Ea := List (Int × Int)
def Jq : Ea → Int → Int
 | [], _ => 0
 | (a, b) :: l, x => if a = x then b else Jq l x
def RW : Ea → Int → Int → Ea
 | [], x, y => [(x, y)]
 | (a, b) :: l, x, y => if a = x then (x, y) :: l else (a, b) :: RW l x y
def HP (x : Int) : Bool := decide (x = 1 ∨ x = 2)
def YI (f : Ea) : Nat := (f.filter fun x => HP x.2).length
theorem ak {f : Ea} {x : Int} (h : ∀ a ∈ f, a.1 ≠ x) : Jq f x = 0 := by
 induction f with
 | nil => rfl
 | cons a f ih => rw [Jq, if_neg (h a (by simp))]; exact ih fun b hb => h b (List.mem_cons_of_mem _ hb)
theorem gu {f1 f2 : Ea} {x y : Int} (h : ∀ a ∈ f1, a.1 ≠ x) : Jq (f1 ++ (x, y) :: f2) x = y := by
 induction f1 with
 | nil => simp [Jq]
 | cons a f ih => rw [List.cons_append, Jq, if_neg (h a (by simp))]; exact ih fun b hb => h b (List.mem_cons_of_mem _ hb)
theorem T7 {f : Ea} {x y : Int} (h : ∀ a ∈ f, a.1 ≠ x) : RW f x y = f ++ [(x, y)] := by
 induction f with
 | nil => rfl
 | cons a f ih => rw [RW, if_neg (h a (by simp)), ih fun b hb => h b (List.mem_cons_of_mem _ hb)]; rfl
theorem YJ {f1 f2 : Ea} {x y z : Int} (h : ∀ a ∈ f1, a.1 ≠ x) : RW (f1 ++ (x, z) :: f2) x y = f1 ++ (x, y) :: f2 := by
 induction f1 with
 | nil => simp [RW]
 | cons a f ih => rw [List.cons_append, RW, if_neg (h a (by simp)), ih fun b hb => h b (List.mem_cons_of_mem _ hb)]; rfl
def JV (x : Int × Int) (n : Nat) : MapEntry := { key := .int .i64 x.1, val := .int .i64 x.2, born := n }
def En (σ : Hp) (m : Nat) (f : Ea) : Prop := ∃ (bs : List Nat) (clock : Nat), bs.length = f.length ∧ y8.Av σ m (List.zipWith JV f bs) clock
instance : y8.y9 prog 127 3 3 := ⟨underlying127, underlying3⟩
theorem AFo : ∀ w, (zeroValue 3).run prog w = .ok (.int .i64 0) w := fun w => by
 have h : prog.info? 3 = some t3 := by kernel_rfl
 simp [zeroValue, typeInfo, h]
 rfl
section
variable {σ σ' τ : Hp} {R : Rr}
theorem En.mono {m : Nat} {f : Ea} (h : En σ m f) (hx : Ext σ σ') : En σ' m f := let ⟨bs, c, h1, h2⟩ := h; ⟨bs, c, h1, h2.mono hx⟩
theorem En.loc {m : Nat} {f : Ea} (h : En σ m f) (hx : σ' m = σ m) : En σ' m f := let ⟨bs, c, h1, h2⟩ := h; ⟨bs, c, h1, h2.loc hx⟩
theorem En.known {m : Nat} {f : Ea} (h : En σ m f) : σ m ≠ none := let ⟨bs, c, h1, h2⟩ := h; by rw [h2.1]; simp
theorem Pz {f : Ea} {bs : List Nat} (h : bs.length = f.length) {a : Int × Int} (ha : a ∈ f) : ∃ e ∈ List.zipWith JV f bs, e.key = .int .i64 a.1 := by
 obtain ⟨i, hi⟩ := List.mem_iff_getElem?.1 ha
 have Ag := (List.getElem?_eq_some_iff.1 hi).1
 refine ⟨JV a (bs[i]'(by omega)), List.mem_iff_getElem?.2 ⟨i, ?_⟩, rfl⟩
 rw [List.getElem?_zipWith, hi, List.getElem?_eq_getElem (by omega)]
theorem T9 {f : Ea} {bs : List Nat} {l1 l2 : List MapEntry} {e : MapEntry} {x : Int} (h : bs.length = f.length) (hl : List.zipWith JV f bs = l1 ++ e :: l2) (hk : e.key = .int .i64 x) :
   ∃ f1 y f2 b1 b b2, f = f1 ++ (x, y) :: f2 ∧ bs = b1 ++ b :: b2 ∧ b1.length = f1.length ∧ l1 = List.zipWith JV f1 b1 ∧ l2 = List.zipWith JV f2 b2 ∧ e = JV (x, y) b := by
 induction l1 generalizing f bs with
 | nil =>
   cases f with
   | nil => simp at hl
   | cons a f =>
     cases bs with
     | nil => simp at h
     | cons b bs =>
       simp only [List.zipWith_cons_cons, List.nil_append, List.cons.injEq] at hl
       obtain ⟨rfl, rfl⟩ := hl
       have : a.1 = x := by simpa [JV] using hk
       subst this
       exact ⟨[], a.2, f, [], b, bs, rfl, rfl, rfl, rfl, rfl, rfl⟩
 | cons a l1 ih =>
   cases f with
   | nil => simp at hl
   | cons a' f =>
     cases bs with
     | nil => simp at h
     | cons b' bs =>
       simp only [List.zipWith_cons_cons, List.cons_append, List.cons.injEq] at hl
       obtain ⟨rfl, hl⟩ := hl
       obtain ⟨f1, y, f2, b1, b, b2, rfl, rfl, h3, rfl, rfl, rfl⟩ := ih (by simpa using h) hl
       exact ⟨a' :: f1, y, f2, b' :: b1, b, b2, rfl, rfl, by simp [h3], rfl, rfl, rfl⟩
theorem O0 {f1 f2 : Ea} {b1 b2 : List Nat} {b : Nat} {x y : Int} (hb : b1.length = f1.length) (hn : ((List.zipWith JV (f1 ++ (x, y) :: f2) (b1 ++ b :: b2)).map (·.key)).Nodup) : ∀ a ∈ f1, a.1 ≠ x := fun a ha he => by
 rw [List.zipWith_append (by omega), List.map_append, List.zipWith_cons_cons, List.map_cons, List.nodup_append] at hn
 obtain ⟨e, h1, h2⟩ := Pz hb ha
 exact hn.2.2 _ (List.mem_map.2 ⟨e, h1, h2⟩) _ (by simp [JV]; exact .inl rfl) (by rw [he])
theorem En.look {m : Nat} {f : Ea} {x : Int} {Φ : Value → Hp → Prop} (h : En σ m f) (hΦ : Φ (.int .i64 (Jq f x)) σ) : AJ prog (Instr.lookup 127 (.map (some m)) (.int .i64 x) false) σ Φ := by
 obtain ⟨bs, clock, hb, hm⟩ := h
 refine y8.JG hm AFo (fun Be => ?_) fun l1 e l2 hl he => ?_
 · rwa [ak] at hΦ
   intro a ha zN
   obtain ⟨e, h1, h2⟩ := Pz hb ha
   exact Be e h1 (by rw [h2, zN])
 · obtain ⟨f1, y, f2, b1, b, b2, rfl, rfl, h3, rfl, rfl, rfl⟩ := T9 hb hl he
   rwa [gu (O0 h3 hm.nodup)] at hΦ
theorem En.put {m : Nat} {f : Ea} {x y : Int} {Φ : Unit → Hp → Prop} (h : En σ m f) (hΦ : ∀ o, En (σ.set m o) m (RW f x y) → Φ () (σ.set m o)) : AJ prog (Instr.mapUpdate 127 (.map (some m)) (.int .i64 x) (.int .i64 y)) σ Φ := by
 obtain ⟨bs, clock, hb, hm⟩ := h
 refine y8.DT hm (fun Be σ' hσ Kr => ?_) fun l1 e l2 hl he σ' hσ Kr => ?_
 · subst hσ
   refine hΦ _ ⟨bs ++ [clock], clock + 1, ?_, ?_⟩
   · rw [T7]
     · simp [hb]
     · intro a ha zN
       obtain ⟨e, h1, h2⟩ := Pz hb ha
       exact Be e h1 (by rw [h2, zN])
   · rw [T7, List.zipWith_append hb.symm]
     · exact Kr
     · intro a ha zN
       obtain ⟨e, h1, h2⟩ := Pz hb ha
       exact Be e h1 (by rw [h2, zN])
 · obtain ⟨f1, z, f2, b1, b, b2, rfl, rfl, h3, rfl, rfl, rfl⟩ := T9 hb hl he
   have hf := O0 h3 hm.nodup
   subst hσ
   refine hΦ _ ⟨b1 ++ b :: b2, clock, ?_, ?_⟩
   · rw [YJ hf]; simpa using hb
   · rw [YJ hf, List.zipWith_append h3.symm]
     exact Kr
theorem ma {α : Type} {l : List α} (h : l.Nodup) {i j : Nat} {x : α} (hi : l[i]? = some x) (hj : l[j]? = some x) : i = j := by
 obtain ⟨h1, XO⟩ := List.getElem?_eq_some_iff.1 hi
 obtain ⟨h2, fg⟩ := List.getElem?_eq_some_iff.1 hj
 have := List.pairwise_iff_getElem.1 h
 rcases Nat.lt_trichotomy i j with hl | hl | hl
 · exact absurd (XO.trans fg.symm) (this i j h1 h2 hl)
 · exact hl
 · exact absurd (fg.trans XO.symm) (this j i h2 h1 hl)
structure IE (σ : Hp) (pb : Nat) (E : Int) (Q : Int) (ps : List Part) (ms : List Nat) : Prop where
 cell : ∃ p n c, σ pb = some (.cells #[.int .u64 E, .int .i64 Q, .slice p n c] 126 (0, 0)) ∧ GS 5 Dz σ p n (ps.zip ms)
 len : ps.length = ms.length
 vU : ps.length ≤ 256
 small : ∀ x ∈ ps, HO x.s.ls
 rep : ∀ x ∈ ps, x.rs.length ≤ 5
theorem IE.mono {pb : Nat} {E Q : Int} {ps : List Part} {ms : List Nat} (h : IE σ pb E Q ps ms) (hx : Ext σ σ') : IE σ' pb E Q ps ms :=
 let ⟨⟨p, n, c, h1, h2⟩, h3, h4, h5, h6⟩ := h; ⟨⟨p, n, c, hx _ _ h1, h2.mono Dz.mono hx⟩, h3, h4, h5, h6⟩
structure Cj (σ : Hp) (pb : Nat) (E : Int) (Q : Int) (ps : List Part) (ms : List Nat) (fs : List Ea) (τ : Hp) : Prop where
 row : IE (σ.off ms) pb E Q ps ms
 nodup : ms.Nodup
 len : ms.length = fs.length
 YK : ∀ (i m : Nat) (f : Ea), ms[i]? = some m → fs[i]? = some f → En σ m f
 ext : Ext τ (σ.off ms)
variable {pb : Nat} {E Q : Int} {ps : List Part} {ms : List Nat} {fs : List Ea}
theorem Cj.at (h : Cj σ pb E Q ps ms fs τ) : IE σ pb E Q ps ms := h.row.mono (Ext.CJ _ _)
theorem Cj.known (h : Cj σ pb E Q ps ms fs τ) : ∀ m ∈ ms, σ m ≠ none := fun m hm => by
 obtain ⟨i, hi⟩ := List.mem_iff_getElem?.1 hm
 have Ag := (List.getElem?_eq_some_iff.1 hi).1
 exact (h.YK i m _ hi (List.getElem?_eq_getElem (by rw [← h.len]; exact Ag))).known
theorem Cj.grow (h : Cj σ pb E Q ps ms fs τ) (hx : Ext σ σ') : ∃ τ', Cj σ' pb E Q ps ms fs τ' ∧ Ext τ τ' ∧ Ext (σ.new σ') τ' :=
 ⟨σ'.off ms, ⟨h.row.mono (hx.off ms), h.nodup, h.len, fun i m f hm hf => (h.YK i m f hm hf).mono hx, .refl _⟩, h.ext.trans (hx.off ms), fun k o hk => Hp.AH.2 ⟨fun Dh => by
   have h1 := (AQ.1 hk).1
   exact h.known k Dh h1, (AQ.1 hk).2⟩⟩
theorem Cj.EW {τ' : Hp} (h : Cj σ pb E Q ps ms fs τ) (hx : Ext τ' τ) : Cj σ pb E Q ps ms fs τ' := ⟨h.row, h.nodup, h.len, h.YK, hx.trans h.ext⟩
theorem Cj.mono (h : Cj σ pb E Q ps ms fs τ) (hx : Ext σ σ') : Cj σ' pb E Q ps ms fs τ := let ⟨_, h1, h2, _⟩ := h.grow hx; h1.EW h2
theorem Cj.up (h : Cj σ pb E Q ps ms fs τ) : Ext τ σ := h.ext.trans (Ext.CJ _ _)
theorem Cj.Af {σ0 : Hp} (h : Cj (σ0.new σ) pb E Q ps ms fs (fun _ => none)) (hx : Ext σ0 σ) : Cj σ pb E Q ps ms fs σ0 :=
 ⟨h.row.mono ((Ext.Af _ _).off ms), h.nodup, h.len, fun i m f hm hf => (h.YK i m f hm hf).mono (Ext.Af _ _), fun k o hk => Hp.AH.2 ⟨fun Dh => h.known k Dh (by
   cases hh : (σ0.new σ) k with
   | none => rfl
   | some u => have := (AQ.1 hh).1; rw [hk] at this; cases this), hx _ _ hk⟩⟩
theorem Cj.set {i m x y : Nat} {f f' : Ea} {o : Obj} (h : Cj σ pb E Q ps ms fs τ) (hm : ms[i]? = some m) (hf : En (σ.set m o) m f') : Cj (σ.set m o) pb E Q ps ms (fs.set i f') τ := by
 have Cl : m ∈ ms := List.mem_of_getElem? hm
 have Ag := (List.getElem?_eq_some_iff.1 hm).1
 have e : (σ.set m o).off ms = σ.off ms := Hp.Gj Cl
 refine ⟨by rw [e]; exact h.row, h.nodup, by simp [h.len], fun j m' g hj hg => ?_, by rw [e]; exact h.ext⟩
 by_cases hij : i = j
 · subst hij
   rw [hm] at hj; cases hj
   rw [List.getElem?_set_self (by rw [← h.len]; exact Ag)] at hg
   cases hg; exact hf
 · rw [List.getElem?_set_ne hij] at hg
   have Ad : m' ≠ m := fun e => by
     subst e
     exact hij (ma h.nodup hm hj)
   exact (h.YK j m' g hj hg).loc (Hp.AF Ad)
def Eb (nd : Int) (x : Part) : Bool := decide (nd ∈ x.rs)
theorem Dz.at {p : Option Addr} {n i : Nat} {L : List (Part × Nat)} {x : Part × Nat} (hr : GS 5 Dz σ p n L) (hx : L[i]? = some x) : ∃ b o p1 n1 c1 q m d, p = some ⟨b, o, none⟩ ∧ EF σ b (o + i * 5) [.slice p1 n1 c1, .int .i64 x.1.s.t, .int .u64 x.1.s.v, .slice q m d, .map (some x.2)] ∧ SA σ p1 n1 x.1.s.ls ∧ CA .i64 σ q m x.1.rs := by
 obtain ⟨b, o, vs, hp, ⟨p1, n1, c1, q, m, d, rfl, h1, h2⟩, hl⟩ := GS.idx hr hx
 exact ⟨b, o, p1, n1, c1, q, m, d, hp, hl, h1, h2⟩
theorem ML.one (σ : Hp) (vs : List Value) (x : Sm) (h : ML σ vs x) : CU vs := by
 obtain ⟨p, n, c, rfl, _⟩ := h
 intro u hu
 simp only [List.mem_cons, List.not_mem_nil, or_false] at hu
 rcases hu with rfl | rfl | rfl <;> rfl
theorem RX {nd : Int} (h : IE σ pb E Q ps ms) (hR : ∀ p n c σ', A9 3 ML (σ.new σ') p n c ((ps.filter (Eb nd)).map (·.s)) → Ext σ σ' → R (.returned (.tuple #[.slice p n c, .int .u64 E])) σ') :
   Spec prog 20 #[.pointer (some ⟨pb, 0, none⟩), .int .i64 nd] σ R := by
 obtain ⟨p, n, c, hc, hr⟩ := h.cell
 have hn : ps.length = n := by have := hr.1; rw [List.length_zip, ← h.len, Nat.min_self] at this; exact this
 have hfew := h.vU
 refine A8.start ⟨pb, 0, rfl, p, n, c, AD hc rfl, ?_⟩
 suffices H : ∀ d i : Nat, ∀ p6 n6 c6 σ6, n - i = d → i ≤ n → A9 3 ML (σ.new σ6) p6 n6 c6 (((ps.take i).filter (Eb nd)).map (·.s)) → Ext σ σ6 → A8.A1 R (aD pb 0) nd p6 n6 c6 p n c n i σ6 from H n 0 none 0 0 σ rfl (Nat.zero_le _) A9.nil (.refl σ)
 intro d
 induction d with
 | zero =>
   intro i p6 n6 c6 σ6 hd hi ho hx
   refine A8.AW ⟨fun Ag => by omega, fun _ => ⟨pb, 0, rfl, E, AD (hx _ _ hc) rfl, hR p6 n6 c6 σ6 ?_ hx⟩⟩
   rw [List.take_of_length_le (by omega)] at ho; exact ho
 | succ d ih =>
   intro i p6 n6 c6 σ6 hd hi ho hx
   have Jl : i < n := by omega
   obtain ⟨x, mb⟩ := hr.ex Jl
   obtain ⟨mc, Qq⟩ := List.getElem?_zip_eq_some.1 mb
   obtain ⟨b, o, p1, n1, c1, q, m, d1, rfl, hl, h1, h2⟩ := Dz.at hr mb
   have MR := h.small x.1 (List.mem_of_getElem? mc)
   have NM : x.1.s.ls.length = n1 := h1.1
   have fv := MR.1
   have ho6 : n6 ≤ 256 := by
     have := ho.1
     simp only [List.length_map] at this
     have h9 := List.length_filter_le (Eb nd) (ps.take i)
     rw [List.length_take] at h9
     omega
   refine A8.AW ⟨fun _ => ⟨b, o, rfl, by omega, p1, n1, c1, x.1.s.t, x.1.s.v, q, m, d1, x.2, by simpa using hl.mono hx, fun _ => ID (h2.mono hx) ⟨_, rfl, fun C9 => ?_, fun C9 => ?_⟩⟩, fun hh => by omega⟩
   · refine X2 (h1.mono Ka.mono hx) (by omega) fun q' j' σ1 hq BH => ⟨q', n1, j', _, _, rfl, fun TV U8 => ?_⟩
     have mM : A9 3 ML (σ.new σ1) p6 n6 c6 (((ps.take i).filter (Eb nd)).map (·.s)) := ho.mono ML.mono (Ext.BV BH)
     have de : ∀ a, p6 = some a → σ6 a.block ≠ none := fun a ha => by
       have := ho.block a ha
       cases hh : (σ.new σ6) a.block with
       | none => exact absurd hh this
       | some oo => rw [(AQ.1 hh).2]; simp
     have AMP : Ext (σ6.new σ1) ((σ.new σ1).del p6) := Ext.IS hx de
     have he : ML ((σ.new σ1).del p6) [.slice q' n1 j', .int .i64 x.1.s.t, .int .u64 x.1.s.v] x.1.s := ⟨q', n1, j', rfl, (hq.rd Ka.mono).mono Ka.mono AMP⟩
     refine A9.JF ML.mono (hx.trans BH) mM rfl (ML.one _ _ _ he) he (by omega) (fun p' c2 σ2 B1 An => ⟨p', n6 + 1, c2, rfl, A8.F4 ⟨Ah Jl hr.big, ih (i + 1) _ _ _ _ (by omega) (by omega) ?_ An⟩⟩) U8
     rw [AR mc, List.filter_append, List.map_append]
     have : Eb nd x.1 = true := C9
     simpa [this] using B1
   · refine A8.F4 ⟨Ah Jl hr.big, ih (i + 1) _ _ _ _ (by omega) (by omega) ?_ hx⟩
     rw [AR mc, List.filter_append, List.map_append]
     have : Eb nd x.1 = false := C9
     simpa [this] using ho
theorem RY {x : Int} (h : R (.returned (.bool (HP x))) σ) : Spec prog 51 #[.int .i64 x] σ R := by
 refine Ip.start ⟨fun h1 => ?_, fun h1 => ?_⟩
 · simpa [HP, h1] using h
 · simpa [HP, h1] using h
def HQ (nd : Int) : List Part → List Ea → List Int → List Ea
 | [], fs, _ => fs
 | _, [], _ => []
 | x :: ps, f :: fs, ys => if Eb nd x then (if HP (Jq f nd) then f else RW f nd (ys.headD 0)) :: HQ nd ps fs ys.tail else f :: HQ nd ps fs ys
def O1 (nd : Int) (ps : List Part) (fs : List Ea) (ys : List Int) : List Ea := if (ps.filter (Eb nd)).length = ys.length then HQ nd ps fs ys else fs
theorem ao {ys : List Int} {k : Nat} {y : Int} (h : ys[k]? = some y) : (ys.drop k).headD 0 = y := by rw [Hu h]; rfl
theorem UA {nd : Int} {q : Option Addr} {n2 c2 : Nat} {ys : List Int} (h : Cj σ pb E Q ps ms fs τ) (hy : CA .i64 τ q n2 ys)
   (hR : ∀ σ', Cj σ' pb E Q ps ms (O1 nd ps fs ys) τ → R (.returned (.tuple #[])) σ') : Spec prog 15 #[.pointer (some ⟨pb, 0, none⟩), .int .i64 nd, .slice q n2 c2] σ R := by
 have VE : ys.length = n2 := hy.1
 refine Ak.start (RX h.at fun yL n14 yM σ1 ho BH => ⟨yL, n14, yM, E, rfl, fun Ad => ?_, fun heq => ?_⟩)
 · refine hR σ1 ?_
   have := ho.1
   rw [List.length_map] at this
   rw [O1, if_neg (by omega)]
   exact h.mono BH
 have GJ : (ps.filter (Eb nd)).length = ys.length := by have := ho.1; rw [List.length_map] at this; omega
 rw [O1, if_pos GJ] at hR
 obtain ⟨p, n, c, hc, hr⟩ := h.row.cell
 have hn : ps.length = n := by have := hr.1; rw [List.length_zip, ← h.row.len, Nat.min_self] at this; exact this
 have sI := h.row.len
 have NM := h.len
 have hfew := h.row.vU
 refine ⟨pb, 0, rfl, p, n, c, AD (BH _ _ (Ext.CJ _ _ _ _ hc)) rfl, ?_⟩
 have hU1 := h.mono BH
 suffices H : ∀ d i k : Nat, ∀ (σ2 : Hp) (gs : List Ea), n - i = d → i ≤ n → k = ((ps.take i).filter (Eb nd)).length → Cj σ2 pb E Q ps ms gs τ → GS 5 Dz (σ2.off ms) p n (ps.zip ms) → gs.drop i = fs.drop i → HQ nd ps fs ys = gs.take i ++ HQ nd (ps.drop i) (fs.drop i) (ys.drop k) →
     Ak.LJ R nd q n2 c2 k p n c n i σ2 from H n 0 0 σ1 fs rfl (Nat.zero_le _) rfl hU1 (hr.mono Dz.mono (BH.off ms)) rfl rfl
 intro d
 induction d with
 | zero =>
   intro i k σ2 gs hd hi hk hU US hg ht
   refine Ak.Hk ⟨fun Ag => by omega, fun _ => hR σ2 ?_⟩
   have hgl := hU.len
   rw [List.take_of_length_le (by omega), List.drop_of_length_le (l := fs) (by omega), List.drop_of_length_le (l := ps) (by omega)] at ht
   rw [ht]; simpa [HQ] using hU
 | succ d ih =>
   intro i k σ2 gs hd hi hk hU US hg ht
   have Jl : i < n := by omega
   have hgl := hU.len
   obtain ⟨x, mb⟩ := US.ex Jl
   obtain ⟨mc, Qq⟩ := List.getElem?_zip_eq_some.1 mb
   obtain ⟨b, o, p1, n1, c1, q1, m, d1, rfl, hl, h1, h2⟩ := Dz.at US mb
   have Ev : Ext (σ2.off ms) σ2 := Ext.CJ _ _
   obtain ⟨f, hf⟩ : ∃ f, fs[i]? = some f := ⟨_, List.getElem?_eq_getElem (by omega)⟩
   have hgf : gs[i]? = some f := by
     have := congrArg List.head? hg
     rw [List.head?_drop, List.head?_drop] at this
     rw [this, hf]
   rw [Hu mc, Hu hf] at ht
   have hg1 : gs.drop (i + 1) = fs.drop (i + 1) := by
     have := congrArg List.tail hg
     simpa [List.tail_drop] using this
   have next : ∀ (j : Nat) (σ3 : Hp) (g' : Ea), j = ((ps.take (i + 1)).filter (Eb nd)).length → Cj σ3 pb E Q ps ms (gs.set i g') τ → σ3.off ms = σ2.off ms → HQ nd ps fs ys = gs.take i ++ g' :: HQ nd (ps.drop (i + 1)) (fs.drop (i + 1)) (ys.drop j) → Ak.QV R nd q n2 c2 j (aD b o) n c n i σ3 := fun j σ3 g' hj hU3 he ht3 =>
     Ak.Ur ⟨Ah Jl hr.big, ih (i + 1) j σ3 _ (by omega) (by omega) hj hU3 (by rw [he]; exact US) (by rw [List.drop_set_of_lt (by omega)]; exact hg1) (by
       rw [ht3, List.take_add_one, List.getElem?_set_self (by omega), List.take_set_of_le (by omega)]
       simp)⟩
   have KF : gs.set i f = gs := by
     obtain ⟨h8, h9⟩ := List.getElem?_eq_some_iff.1 hgf
     rw [← h9]; exact List.set_getElem_self h8
   have AP2 : k ≤ 256 := by
     have h9 := List.length_filter_le (Eb nd) (ps.take i)
     rw [List.length_take] at h9
     omega
   refine Ak.Hk ⟨fun _ => ⟨b, o, rfl, by omega, p1, n1, c1, x.1.s.t, x.1.s.v, q1, m, d1, x.2, by simpa using hl.mono Ev, fun _ => ID (h2.mono Ev) ⟨_, rfl, fun C9 => ?_, fun C9 => ?_⟩⟩, fun hh => by omega⟩
   · have C9 : Eb nd x.1 = false := C9
     rw [HQ, if_neg (by simp [C9])] at ht
     refine next k σ2 f ?_ (by rw [KF]; exact hU) rfl ht
     rw [AR mc, List.filter_append, List.length_append, ← hk]; simp [C9]
   · have C9 : Eb nd x.1 = true := C9
     rw [HQ, if_pos C9, List.tail_drop] at ht
     have me := hU.YK i x.2 f Qq hgf
     have iu : k + 1 = ((ps.take (i + 1)).filter (Eb nd)).length := by
       rw [AR mc, List.filter_append, List.length_append, ← hk]; simp [C9]
     refine me.look ⟨_, rfl, RY ⟨_, rfl, fun J3 => ?_, fun J3 => ?_⟩⟩
     · have Ag : k < n2 := by
         have h9 : ((ps.take (i + 1)).filter (Eb nd)).length ≤ (ps.filter (Eb nd)).length := List.Sublist.length_le ((List.take_sublist _ _).filter _)
         omega
       obtain ⟨y, hyk⟩ := hy.ex Ag
       obtain ⟨cX, kM, rfl, AMR⟩ := hy.at hyk
       refine ⟨cX, kM, rfl, by omega, y, by simpa using hU.up.ld AMR, me.put fun ob AMS => ?_⟩
       rw [if_neg (by simp [J3]), ao hyk] at ht
       refine Ak.cY ⟨by unfold AO; omega, ?_⟩
       exact next (k + 1) _ _ iu (hU.set (x := 0) (y := 0) (f := []) Qq AMS) (Hp.Gj (List.mem_of_getElem? Qq)) ht
     · rw [if_pos J3] at ht
       refine Ak.cY ⟨by unfold AO; omega, ?_⟩
       exact next (k + 1) σ2 f iu (by rw [KF]; exact hU) rfl ht
end
end TwW
end
section
namespace TwW
open Go Tw Go.RowKit Go.Proofs.Tryz
instance : pF prog 159 9 156 := ⟨underlying159, underlying9⟩
theorem zO : ∀ w, (zeroValue 156).run prog w = .ok (.agg #[.slice none 0 0, .int .u64 0]) w := fun w => by
 have h : prog.info? 156 = some t156 := by kernel_rfl
 simp [zeroValue, typeInfo, h]
 rfl
structure CO where
 key : ByteArray
 p : Option Addr
 n : Nat
 c : Nat
 data : List Int
 Ez : Nat
 born : Nat
def CO.CY (r : CO) : MapEntry := Tw.CY r.key (.agg #[.slice r.p r.n r.c, .int .u64 r.Ez]) r.born
structure CO.Ok (ρ : Hp) (r : CO) : Prop where
 cap : r.n ≤ r.c
 rd : CA .u8 ρ r.p r.n r.data
 vE : E8 r.data
 small : r.n ≤ 65536
 key : Dg r.key = true
 Ez : r.Ez < 18446744073709551616
theorem CO.Ok.mono {ρ ρ' : Hp} {r : CO} (h : r.Ok ρ) (hx : Ext ρ ρ') : r.Ok ρ' := ⟨h.cap, h.rd.mono hx, h.vE, h.small, h.key, h.Ez⟩
abbrev jB := List Int × Nat
def B9 (rows : List CO) (k : ByteArray) : Option jB := (rows.find? fun r => decide (r.key = k)).map fun r => (r.data, r.Ez)
def Cr (rows : List CO) (k : ByteArray) : jB := (B9 rows k).getD ([], 0)
abbrev BS (rows : List CO) : List ByteArray := rows.map (·.key)
theorem HR {r : CO} {rows : List CO} {k : ByteArray} : B9 (r :: rows) k = if r.key = k then some (r.data, r.Ez) else B9 rows k := by
 unfold B9
 rw [List.find?_cons]
 by_cases h : r.key = k <;> simp [h]
theorem JW {rows : List CO} {k : ByteArray} (h : k ∉ BS rows) : B9 rows k = none := by
 induction rows with
 | nil => rfl
 | cons r rows ih =>
   simp only [BS, List.map_cons, List.mem_cons, not_or] at h
   rw [HR, if_neg (fun e => h.1 e.symm)]; exact ih h.2
theorem ND {r1 r2 : List CO} {k : ByteArray} : B9 (r1 ++ r2) k = (B9 r1 k).or (B9 r2 k) := by
 induction r1 with
 | nil => simp [B9]
 | cons r r1 ih =>
   rw [List.cons_append, HR, HR, ih]
   by_cases h : r.key = k <;> simp [h]
theorem LA {r1 r2 : List CO} {r : CO} (hn : (BS (r1 ++ r :: r2)).Nodup) (k : ByteArray) : B9 (r1 ++ r :: r2) k = if r.key = k then some (r.data, r.Ez) else (B9 r1 k).or (B9 r2 k) := by
 rw [ND, HR]
 by_cases h : r.key = k
 · rw [if_pos h, if_pos h]
   have : k ∉ BS r1 := by
     rw [BS, List.map_append, List.nodup_append] at hn
     intro hk
     exact hn.2.2 k hk k (by simp [h]) rfl
   rw [JW this]; rfl
 · rw [if_neg h, if_neg h]
theorem gv {rows : List CO} {k : ByteArray} (hn : (BS rows).Nodup) (hk : k ∈ BS rows) : ∃ r ∈ rows, r.key = k ∧ B9 rows k = some (r.data, r.Ez) := by
 obtain ⟨r, hr, rfl⟩ := List.mem_map.1 hk
 obtain ⟨r1, r2, rfl⟩ := List.append_of_mem hr
 exact ⟨r, hr, rfl, by rw [LA hn, if_pos rfl]⟩
theorem Kf {rows : List CO} {l1 l2 : List MapEntry} {e : MapEntry} (h : rows.map CO.CY = l1 ++ e :: l2) : ∃ r1 r r2, rows = r1 ++ r :: r2 ∧ r1.map CO.CY = l1 ∧ r.CY = e ∧ r2.map CO.CY = l2 := by
 obtain ⟨r1, t, h1, h2, h3⟩ := List.map_eq_append_iff.1 h
 obtain ⟨r, r2, h4, h5, h6⟩ := List.map_eq_cons_iff.1 h3
 exact ⟨r1, r, r2, by rw [h1, h4], h2, h5, h6⟩
structure jC (ρ : Hp) (b d s m clock : Nat) (rows : List CO) (τ : Hp) : Prop where
 cell : ρ s = some (.cells #[.pointer (some ⟨b, 0, none⟩), .pointer (some ⟨d, 0, none⟩), .map (some m)] 161 (0, 0))
 map : Av ρ m (rows.map CO.CY) clock
 row : ∀ r ∈ rows, r.Ok (ρ.off [m])
 ext : Ext τ (ρ.off [m])
def IF (σ : Hp) (d b s : Nat) (D : Dk) (W : Wl) (rows : List CO) (τ : Hp) : Prop := ∃ ρ m clock, Aj σ d b D W ρ ∧ jC ρ b d s m clock rows τ
section
variable {σ σ' τ τ' ρ ρ' : Hp} {d b s m clock : Nat} {D : Dk} {W : Wl} {rows : List CO} {R : Rr}
theorem jC.mono (h : jC ρ b d s m clock rows τ) (hx : Ext ρ ρ') : jC ρ' b d s m clock rows τ := ⟨hx _ _ h.cell, h.map.mono hx, fun r hr => (h.row r hr).mono (hx.off [m]), h.ext.trans (hx.off [m])⟩
theorem jC.nodup (h : jC ρ b d s m clock rows τ) : (BS rows).Nodup := by
 have := h.map.nodup
 rw [List.map_map] at this
 have e : (rows.map ((fun e : MapEntry => e.key) ∘ CO.CY)) = (BS rows).map Value.string := by rw [BS, List.map_map]; rfl
 rw [e, List.Nodup, List.pairwise_map] at this
 exact this.imp fun Ad e => Ad (by rw [e])
theorem jC.ne (h : jC ρ b d s m clock rows τ) : s ≠ m := fun e => by
 have h1 := h.cell
 rw [e, h.map.1] at h1; cases h1
theorem jC.up (h : jC ρ b d s m clock rows τ) : Ext τ ρ := h.ext.trans (Ext.CJ _ _)
theorem IF.ext (h : IF σ d b s D W rows τ) : Ext τ σ := let ⟨ρ, m, cl, h1, h2⟩ := h; h2.up.trans h1.ext
theorem IF.nodup (h : IF σ d b s D W rows τ) : (BS rows).Nodup := let ⟨ρ, m, cl, h1, h2⟩ := h; h2.nodup
theorem IF.EW (h : IF σ d b s D W rows τ) (hx : Ext τ' τ) : IF σ d b s D W rows τ' := let ⟨ρ, m, cl, h1, h2⟩ := h; ⟨ρ, m, cl, h1, h2.cell, h2.map, h2.row, hx.trans h2.ext⟩
theorem IF.grow (h : IF σ d b s D W rows τ) (hx : Ext σ σ') : ∃ τ', IF σ' d b s D W rows τ' ∧ Ext τ τ' ∧ Ext (σ.new σ') τ' := by
 obtain ⟨ρ, m, cl, h1, h2⟩ := h
 obtain ⟨ρ1, h3, x3, x3n⟩ := h1.grow hx
 have h4 := h2.mono x3
 refine ⟨ρ1.off [m], ⟨ρ1, m, cl, h3, h4.cell, h4.map, h4.row, Ext.refl _⟩, h4.ext, fun k o hk => Hp.AH.2 ⟨?_, x3n k o hk⟩⟩
 have h5 := (AQ.1 hk).1
 have h6 := h1.ext _ _ h2.map.1
 simp only [List.mem_singleton]
 intro e
 rw [e, h6] at h5; cases h5
theorem IF.mono (h : IF σ d b s D W rows τ) (hx : Ext σ σ') : IF σ' d b s D W rows τ := let ⟨_, h1, h2, _⟩ := h.grow hx; h1.EW h2
theorem IF.box {k : Nat} {o : Obj} (h : IF σ d b s D W rows τ) (hk : σ k = none) : ∃ τ', IF (σ.set k o) d b s D W rows τ' ∧ Ext τ τ' ∧ τ' k = some o := by
 obtain ⟨τ', h1, h2, h3⟩ := h.grow (.set hk (o := o))
 exact ⟨τ', h1, h2, h3 k o (AQ.2 ⟨hk, Hp.AA _ _ _⟩)⟩
theorem aq {r : CO} (h : jC ρ b d s m clock rows τ) (hr : r ∈ rows) : B9 rows r.key = some (r.data, r.Ez) := by
 obtain ⟨r1, r2, rfl⟩ := List.append_of_mem hr
 rw [LA h.nodup, if_pos rfl]
theorem IF.look {k : ByteArray} {Φ : Value → Hp → Prop} {mm : Option Nat} (h : IF σ d b s D W rows τ) (hm : σ.ld ⟨s, 0 + 2, none⟩ = some (.map mm))
   (hΦ : ∀ p n c, n ≤ c → n ≤ 65536 → E8 (Cr rows k).1 → (Cr rows k).2 < 18446744073709551616 → CA .u8 σ p n (Cr rows k).1 → Φ (.agg #[.slice p n c, .int .u64 (Cr rows k).2]) σ) : AJ prog (Instr.lookup 159 (.map mm) (.string k) false) σ Φ := by
 obtain ⟨ρ, m, cl, h1, h2⟩ := h
 have hx := h1.ext
 rw [AD (hx _ _ h2.cell) rfl] at hm
 cases hm
 refine JG (h2.map.mono hx) zO (fun Be => ?_) fun l1 e l2 hl he => ?_
 · have e : Cr rows k = ([], 0) := by
     have hk : k ∉ BS rows := fun hk => by
       obtain ⟨r, hr, rfl⟩ := List.mem_map.1 hk
       exact Be r.CY (List.mem_map.2 ⟨r, hr, rfl⟩) rfl
     rw [Cr, JW hk]; rfl
   have := hΦ none 0 0 (Nat.le_refl _) (by omega)
   rw [e] at this
   exact this (fun a ha => by cases ha) (by omega) GS.nil
 · obtain ⟨r1, r, r2, CR, _, rfl, _⟩ := Kf hl
   have hr : r ∈ rows := by simp [CR]
   have hk : r.key = k := by simpa [CO.CY] using he
   have hg : Cr rows k = (r.data, r.Ez) := by rw [Cr, ← hk, aq h2 hr]; rfl
   have Au := h2.row r hr
   have := hΦ r.p r.n r.c Au.cap Au.small
   rw [hg] at this
   exact this Au.vE Au.Ez (Au.rd.mono ((Ext.CJ _ _).trans hx))
theorem IF.put {k : ByteArray} {p : Option Addr} {n c v : Nat} {data : List Int} {Φ : Unit → Hp → Prop} {mm : Option Nat} (h : IF σ d b s D W rows τ) (hm : σ.ld ⟨s, 0 + 2, none⟩ = some (.map mm)) (hc : n ≤ c) (hr : CA .u8 τ p n data) (h8 : E8 data) (hn : n ≤ 65536) (hk : Dg k = true) (hv : v < 18446744073709551616)
   (hΦ : ∀ σ' rows', IF σ' d b s D W rows' τ → (∀ k', B9 rows' k' = if k = k' then some (data, v) else B9 rows k') → (∀ x, x ∈ BS rows' ↔ x = k ∨ x ∈ BS rows) → Φ () σ') : AJ prog (Instr.mapUpdate 159 (.map mm) (.string k) (.agg #[.slice p n c, .int .u64 v])) σ Φ := by
 obtain ⟨ρ, m, cl, h1, h2⟩ := h
 have hx := h1.ext
 rw [AD (hx _ _ h2.cell) rfl] at hm
 cases hm
 have Fe : ∀ o, Aj (σ.set m o) d b D W ((ρ.off [m]).set m o) := fun o => by
   have := (h1.VH h2.map.1).mA (k := m) (o := o) (Hp.Ef (by simp))
   have e : (σ.off [m]).set m o = σ.set m o := by
     funext i
     by_cases hi : i = m
     · rw [hi, Hp.AA, Hp.AA]
     · rw [Hp.AF hi, Hp.AF hi, Hp.BN (by simpa using hi)]
   rwa [e] at this
 have FA : ∀ o, ((ρ.off [m]).set m o).off [m] = ρ.off [m] := fun o => by
   funext i
   by_cases hi : i = m <;> simp [Hp.off, Hp.set, hi]
 have C8 : ∀ bn, (⟨k, p, n, c, data, v, bn⟩ : CO).Ok (ρ.off [m]) := fun bn => ⟨hc, hr.mono h2.ext, h8, hn, hk, hv⟩
 refine DT (h2.map.mono hx) (fun Be σ' SF Kr => ?_) fun l1 e l2 hl he σ' SF Kr => ?_
 · have LF : k ∉ BS rows := fun Dh => by
     obtain ⟨r, hr, rfl⟩ := List.mem_map.1 Dh
     exact Be r.CY (List.mem_map.2 ⟨r, hr, rfl⟩) rfl
   refine hΦ σ' (rows ++ [⟨k, p, n, c, data, v, cl⟩]) ⟨(ρ.off [m]).set m (.map (rows.map CO.CY ++ [Tw.CY k (.agg #[.slice p n c, .int .u64 v]) cl]).toArray (cl + 1)), m, cl + 1, SF ▸ Fe _, ?_, ?_, ?_, ?_⟩ (fun k' => ?_) (fun x => by simp [BS, or_comm])
   · rw [Hp.AF h2.ne, Hp.BN (by simpa using h2.ne)]; exact h2.cell
   · rw [List.map_append]
     exact ⟨Hp.AA _ _ _, Kr.2⟩
   · intro r hr
     rw [FA]
     rcases List.mem_append.1 hr with hr | hr
     · exact h2.row r hr
     · simp at hr; subst hr; exact C8 _
   · rw [FA]; exact h2.ext
   · rw [ND, HR]
     by_cases RZ : k = k'
     · subst RZ
       rw [if_pos rfl, if_pos rfl, JW LF]; rfl
     · rw [if_neg RZ, if_neg RZ]
       simp [B9]
 · obtain ⟨r1, r, r2, CR, e1, rfl, e2⟩ := Kf hl
   have Dh : r.key = k := by simpa [CO.CY] using he
   have u7 := h2.nodup
   have RZ : BS (r1 ++ ⟨k, p, n, c, data, v, r.born⟩ :: r2) = BS rows := by rw [CR]; simp [BS, Dh]
   refine hΦ σ' (r1 ++ ⟨k, p, n, c, data, v, r.born⟩ :: r2) ⟨(ρ.off [m]).set m (.map (l1 ++ Tw.CY k (.agg #[.slice p n c, .int .u64 v]) r.CY.born :: l2).toArray cl), m, cl, SF ▸ Fe _, ?_, ?_, ?_, ?_⟩ (fun k' => ?_) (fun x => ?_)
   · rw [Hp.AF h2.ne, Hp.BN (by simpa using h2.ne)]; exact h2.cell
   · rw [List.map_append, List.map_cons, e1, e2]
     exact ⟨Hp.AA _ _ _, Kr.2⟩
   · intro r' I9
     rw [FA]
     rcases List.mem_append.1 I9 with I9 | I9
     · exact h2.row r' (by simp [CR, I9])
     · rcases List.mem_cons.1 I9 with rfl | I9
       · exact C8 _
       · exact h2.row r' (by simp [CR, I9])
   · rw [FA]; exact h2.ext
   · rw [LA (by rw [RZ]; exact u7), CR, LA (CR ▸ u7), Dh]
     by_cases e : k = k' <;> simp [e]
   · rw [RZ]
     constructor
     · exact .inr
     · rintro (rfl | h)
       · rw [CR]; simp [BS, Dh]
       · exact h
end
end TwW
end
section
namespace TwW
open Go Tw Go.RowKit Go.Proofs.Tryz
def SB : ByteArray := ⟨#[107, 118]⟩
theorem au : CL SB = true := by decide
abbrev Rec := ByteArray × List Int × Nat
abbrev NF (t : Rec) : List Int := Co t.1 t.2.1 t.2.2
def YL (ts : List Rec) : Prop := ∀ t ∈ ts, Dg t.1 = true ∧ E8 t.2.1 ∧ t.2.1.length ≤ 65536 ∧ 0 < t.2.2 ∧ t.2.2 < 18446744073709551616
def F0 (ts : List Rec) (k : ByteArray) : Option jB := ts.foldl (fun a t => if t.1 = k then some t.2 else a) none
theorem O2 {ts : List Rec} {t : Rec} {k : ByteArray} : F0 (ts ++ [t]) k = if t.1 = k then some t.2 else F0 ts k := by simp [F0]
theorem VU {k : ByteArray} {d : List Int} {v : Nat} (h : E8 d) (hk : k.size < 18446744073709551616) (hd : d.length < 18446744073709551616) (hv : v < 18446744073709551616) : E8 (Co k d v) := by
 unfold Co
 exact BO (BO (BO (BO (KT 9 _ (by omega)) da) (KT 9 _ (by omega))) (KT 9 _ (by omega))) h
section
variable {σ σ' τ τ' ρ ρ' : Hp} {d b s m clock : Nat} {D : Dk} {W : Wl} {rows : List CO} {R : Rr}
theorem IF.rd (h : IF σ d b s D W rows τ) : σ.ld ⟨s, 0, none⟩ = some (.pointer (some ⟨b, 0, none⟩)) ∧ σ.ld ⟨s, 0 + 1, none⟩ = some (.pointer (some ⟨d, 0, none⟩)) ∧ ∃ m, σ.ld ⟨s, 0 + 2, none⟩ = some (.map (some m)) := by
 obtain ⟨ρ, m, cl, h1, h2⟩ := h
 have := h1.ext _ _ h2.cell
 exact ⟨AD this rfl, AD this rfl, m, AD this rfl⟩
theorem IF.gE (h : IF σ d b s D W rows τ) : Ai σ d D τ := let ⟨ρ, m, cl, h1, h2⟩ := h; h1.gE.EW h2.up
theorem NG {k : ByteArray} (h : IF σ d b s D W rows τ) (hu : D.up = true) (ux : Dg k = false → R (.returned (.tuple #[.slice none 0 0, .int .u64 0, .int .i64 120])) σ)
   (hk : Dg k = true → ∀ p n c σ', AS .u8 (σ.new σ') p n c (Cr rows k).1 → Ext σ σ' → R (.returned (.tuple #[.slice p n c, .int .u64 (Cr rows k).2, .int .i64 0])) σ') : Spec prog 39 #[.pointer (some ⟨s, 0, none⟩), .string k] σ R := by
 obtain ⟨l0, l1, m, l2⟩ := h.rd
 refine Md.start (RD ⟨_, rfl, fun hf => ux hf, fun ht => ⟨s, 0, rfl, _, l1, h.gE.upS ⟨_, rfl, fun hh => (by rw [hu] at hh; cases hh), fun _ => ⟨_, l2, h.look l2 fun p n c hc hn h8 hv hr => ⟨p, n, c, _, rfl, fun _ pZ sS => ?_⟩⟩⟩⟩⟩)
 refine Ec Own.empty ((Gi.of_map hr).mono (.set sS)) CU.Cs (by omega) fun p' c' σ' Aa EU => ?_
 have hq : ∀ a : Addr, (some (⟨pZ, 0, none⟩ : Addr)) = some a → σ a.block = none := fun a ha => by cases ha; exact sS
 refine ⟨p', 0 + n, c', rfl, ?_⟩
 rw [Nat.zero_add] at Aa ⊢
 exact hk ht p' n c' σ' (Own.CV Aa (B2 hq EU (.set sS))) (CX hq EU (.set sS))
theorem av {p : Option Addr} {n c v : Nat} {k : ByteArray} {Gu : List Int} (h : IF σ d b s D W rows τ) (hr : CA .u8 σ p n (Co k Gu v)) (hc : n ≤ c) (hk : Dg k = true) (h8 : E8 Gu) (hd : Gu.length ≤ 65536) (hv0 : 0 < v) (hv : v < 18446744073709551616)
   (hR : ∀ σ' rows', IF σ' d b s D W rows' τ → (∀ k', B9 rows' k' = if k = k' then some (Gu, v) else B9 rows k') → (∀ x, x ∈ BS rows' ↔ x = k ∨ x ∈ BS rows) → R (.returned (.bool true)) σ') : Spec prog 96 #[.pointer (some ⟨s, 0, none⟩), .slice p n c] σ R := by
 have Xk : k.size ≤ 64 := by simp [Dg] at hk; exact hk.2
 have h8r : E8 (Co k Gu v) := VU h8 (by omega) (by omega) hv
 have hlen : (Co k Gu v).length = n := hr.1
 have SX : (Co k Gu v).length = (uv k.size).length + k.size + (uv v).length + (uv Gu.length).length + Gu.length := by simp [Co, Cg]; omega
 have e0 : (Co k Gu v).drop 0 = uv k.size ++ (NU k ++ (uv v ++ uv Gu.length ++ Gu)) := by simp [Co]
 have e1 : (Co k Gu v).drop (0 + (uv k.size).length + k.size) = uv v ++ (uv Gu.length ++ Gu) := by
   have : Co k Gu v = (uv k.size ++ NU k) ++ (uv v ++ (uv Gu.length ++ Gu)) := by simp [Co]
   rw [this, List.drop_left' (by simp [Cg])]
 have e2 : (Co k Gu v).drop (0 + (uv k.size).length + k.size + (uv v).length) = uv (strOfNums Gu).size ++ (NU (strOfNums Gu) ++ []) := by
   have : Co k Gu v = (uv k.size ++ NU k ++ uv v) ++ (uv Gu.length ++ Gu) := by simp [Co]
   rw [this, List.drop_left' (by simp only [List.length_append, Cg]; omega), CM, Kv h8, List.append_nil]
 have eK : Iu (Co k Gu v) (0 + (uv k.size).length + k.size) v := ⟨hv, _, e1⟩
 refine KO.start (VK (i := 0) hr h8r hc (by omega) (Nat.zero_le _) e0 ⟨_, _, _, rfl, fun hh => absurd rfl hh, fun _ => ?_⟩)
 refine Gy hr h8r (by omega) ⟨fun Be => (Be v eK).elim, fun v' ox => ?_⟩
 obtain rfl := ox.uniq eK
 refine ⟨_, _, _, rfl, fun hh => absurd rfl hh, fun _ => ?_⟩
 refine VK hr h8r hc (by rw [CM]; omega) (by omega) e2 ⟨_, _, _, rfl, fun hh => absurd rfl hh, fun _ => ⟨fun hh => ?_, fun _ => ?_⟩⟩
 · rw [CM] at hh; exact absurd (by omega) hh
 · refine RD ⟨_, rfl, fun hh => (by rw [hk] at hh; cases hh), fun _ => ⟨fun hh => by omega, fun _ => ?_⟩⟩
   obtain ⟨l0, l1, m, l2⟩ := h.rd
   refine ⟨s, 0, rfl, _, l2, gW (fun b1 o c1 PR HM iz => ⟨_, _, _, rfl, ?_⟩) (by rw [CM]; omega)⟩
   obtain ⟨τ1, h1, x1, t1⟩ := h.box (o := o) PR
   have l2' := (Ext.set PR (o := o)).ld l2
   have AFr := HM τ1 t1
   rw [CM, Kv h8] at AFr
   rw [CM] at iz ⊢
   exact h1.put l2' iz AFr h8 hd hk hv fun σ2 rows' h2 hl RZ => hR σ2 rows' (h2.EW x1) hl RZ
end
end TwW
end
section
namespace TwW
open Go Tw Go.RowKit Go.Proofs.Tryz
section
variable {σ σ' τ τ' ρ ρ' : Hp} {d b s m clock : Nat} {D : Dk} {W : Wl} {rows : List CO} {R : Rr}
theorem VV {ts : List Rec} {w : Bool} (h : Ai σ d D τ) (ht : Tb τ) (Ev : D.up = true) (LR : D.armed = false) (hc : D.cnt < 67108864) (ho : Xn D.files SB D.cnt (ts.map NF) w) (hg : YL ts) (Fy : ts.length ≤ 4194304)
   (hR : ∀ s b σ' W rows Fg cnt', IF σ' d b s (dk Fg cnt') W rows τ → (∀ k, B9 rows k = F0 ts k) → (∀ x, x ∈ BS rows → ∃ t ∈ ts, t.1 = x) → W.dir = SB → (∃ rc sg, A5 Fg cnt' W rc sg 0 ∧ rc ++ Ao sg = ts.map NF) → Fg (BC SB) = none → D.cnt ≤ cnt' → cnt' ≤ D.cnt + 1 → Sub D.files Fg → (w = true → cnt' = D.cnt) → R (.returned (.tuple #[.pointer (some ⟨s, 0, none⟩), .int .i64 0])) σ') (hfew : Oh D := by refine .inl ?_; first | omega | (dsimp only [dk]; omega) | (dsimp only; omega)) :
   Spec prog 41 #[.pointer (some ⟨d, 0, none⟩)] σ R := by
 refine Mm.start (gS (told := ts.map NF) h ht Ev LR au hc ho (by simpa using Fy) (fun b σ1 W1 rc1 sg1 ρ1 p1 n1 c1 fs1 AFs h1 x1 r1 e1 ok1 ly ATe AMU AMV k1a k1b k1c => ⟨_, _, _, _, _, rfl, fun hh => absurd rfl hh, fun _ => Hg fun m hm => ⟨m, rfl, fun s hs => ?_⟩⟩) (hfew := hfew))
 obtain ⟨ρ2, h2, x2, t2⟩ := h1.box (o := .map #[] 0) hm
 obtain ⟨ρ3, h3, x3, t3⟩ := h2.box (o := .cells #[.pointer (some ⟨b, 0, none⟩), .pointer (some ⟨d, 0, none⟩), .map (some m)] 161 (0, 0)) hs
 have PU : (ts.map NF).length = n1 := r1.1
 rw [List.length_map] at PU
 have yt : jC ρ3 b d s m 0 [] ρ1 := ⟨t3, ⟨x3 _ _ t2, (Av.fresh (σ := σ1) (b := m)).2⟩, fun r hr => (by cases hr), fun k o hk => Hp.AH.2 ⟨fun e => (by
   simp only [List.mem_singleton] at e
   have := h1.ext _ _ hk
   rw [e, hm] at this; cases this), x3 _ _ (x2 _ _ hk)⟩⟩
 suffices H : ∀ (j k : Nat) (σ : Hp) (rows : List CO), n1 - k = j → k ≤ n1 → IF σ d b s (dk fs1 AFs) W1 rows ρ1 → (∀ x, B9 rows x = F0 (ts.take k) x) → (∀ x, x ∈ BS rows → ∃ t ∈ ts, t.1 = x) → Mm.JL R (some ⟨s, 0, none⟩) p1 n1 c1 n1 k σ from
   H n1 0 _ [] rfl (Nat.zero_le _) ⟨ρ3, m, 0, h3, yt⟩ (fun x => rfl) (fun x hx => by cases hx)
 intro j
 induction j with
 | zero =>
   intro k σ rows hj hk hu hl RZ
   rw [List.take_of_length_le (by omega)] at hl
   exact Mm.Gm ⟨fun hh => by omega, fun _ => hR s b σ W1 rows fs1 AFs (hu.EW x1) hl RZ e1 ⟨rc1, sg1, ok1, ly⟩ AMV k1a k1b AMU fun hw => (k1c hw).1⟩
 | succ j ih =>
   intro k σ rows hj hk hu hl RZ
   obtain ⟨t, M8⟩ : ∃ t, ts[k]? = some t := ⟨_, List.getElem?_eq_getElem (by omega)⟩
   have mf := List.mem_of_getElem? M8
   obtain ⟨g1, g2, g3, g4, g5⟩ := hg t mf
   obtain ⟨Qh, dD, eh, n29, ei, hp, AMW, AMX, HM⟩ := r1.at (x := NF t) (i := k) (by rw [List.getElem?_map, M8]; rfl)
   refine Mm.Gm ⟨fun _ => ⟨Qh, dD, hp, by omega, eh, n29, ei, by simpa using hu.ext.ld AMW, ?_⟩, fun hh => by omega⟩
   refine av hu (HM.mono hu.ext) AMX g1 g2 g3 g4 g5 fun σ2 XR h2 SX dN => ⟨_, rfl, fun hh => (by cases hh), fun _ => ⟨by unfold AO; omega, ?_⟩⟩
   rw [Mc hp]
   refine ih (k + 1) σ2 XR (by omega) (by omega) h2 (fun x => ?_) fun x hx => ?_
   · rw [AR M8, O2, SX, hl]
   · rcases (dN x).1 hx with rfl | hx
     · exact ⟨t, mf, rfl⟩
     · exact RZ x hx
abbrev GZ (rows : List CO) (L : List ByteArray) : Bz := L.map fun k => Co k (Cr rows k).1 (Cr rows k).2
theorem mg {p3 : Option Addr} {n3 c3 : Nat} {L : List ByteArray} {σs : Hp} (h : IF σs d b s D W rows τ) (HM : Gi 1 σs p3 n3 (L.map .string)) (hn : n3 ≤ 1024) (hL : ∀ k ∈ L, k.size ≤ 64)
   (hR : ∀ p n c σ', Ix (σs.new σ') p n c (GZ rows L) → Ext σs σ' → R (.returned (.slice p n c)) σ') :
   ∀ (j k : Nat) (σ : Hp) (p5 : Option Addr) (c5 : Nat), n3 - k = j → k ≤ n3 → Ext σs σ → Ix (σs.new σ) p5 k c5 (GZ rows (L.take k)) → Ca.Qi R (some ⟨s, 0, none⟩) p5 k c5 p3 n3 c3 n3 k σ := by
 have hLn : L.length = n3 := by have := HM.1; simpa using this
 intro j
 induction j with
 | zero =>
   intro k σ p5 c5 hj hk hx ho
   have LF : k = n3 := by omega
   subst LF
   rw [List.take_of_length_le (by omega)] at ho
   exact Ca.Ps ⟨fun hh => by omega, fun _ => hR p5 _ c5 σ ho hx⟩
 | succ j ih =>
   intro k σ p5 c5 hj hk hx ho
   obtain ⟨x, SS⟩ : ∃ x, L[k]? = some x := ⟨_, List.getElem?_eq_getElem (by omega)⟩
   obtain ⟨b27, o27, hp, AMY⟩ := Gi.at1 (k := k) (v := .string x) HM (by rw [List.getElem?_map, SS]; rfl)
   have hu := h.mono hx
   obtain ⟨l0, l1, m, l2⟩ := hu.rd
   have vN := hL x (List.mem_of_getElem? SS)
   refine Ca.Ps ⟨fun _ => ⟨b27, o27, hp, by omega, x, by simpa using hx.ld AMY, s, 0, rfl, _, l2, hu.look l2 fun Ut n36 Wu hc ATi h8 hv hr => ⟨Ut, n36, Wu, _, rfl, ?_⟩⟩, fun hh => by omega⟩
   refine Lu hr h8 (by omega) (by omega) hv fun R1 n37 c37 σ3 Dl DR => ⟨R1, n37, c37, rfl, fun b38 AMZ => ?_⟩
   have HV : ∀ a, p5 = some a → σ a.block ≠ none := fun a ha e => A9.block ho a ha (by
     cases hh : (σs.new σ) a.block with
     | none => rfl
     | some u => rw [(AQ.1 hh).2] at e; cases e)
   refine A9.JF (T := 165) R7.mono (hx.trans DR) (A9.mono R7.mono (Ext.BV DR) ho) rfl (fun u hu => by simp at hu; subst hu; rfl) (x := Co x (Cr rows x).1 (Cr rows x).2) ⟨R1, n37, c37, rfl, Own.cap Dl, (AS.rd Dl).mono (Ext.IS hx HV)⟩ (by omega) (fun p4 c4 σ4 Pv Kt => ⟨p4, _, c4, rfl, by unfold AO; omega, ?_⟩) AMZ
   rw [Mc hp]
   refine ih (k + 1) σ4 p4 c4 (by omega) (by omega) Kt ?_
   rw [AR SS, GZ, List.map_append]
   exact Pv
theorem mh {σ0 : Hp} {i m clock : Nat} (My : Av σ0 m (rows.map CO.CY) clock) (dJ : rows.length ≤ 1024) (LF : (BS rows).Nodup)
   (hR : ∀ p n c L σ', Qw (σ0.new σ') p n c L → L.Perm (BS rows) → Ext σ0 σ' → n ≤ 1024 → Ca.Qi R (some ⟨s, 0, none⟩) none 0 0 p n c n 0 σ') :
   ∀ (k : Nat) (σ : Hp) (L : List MapEntry) (xs : List ByteArray) (p : Option Addr) (c : Nat), L.length = k → Ext σ0 σ → Cv (σ0.new σ) i m (rows.map CO.CY) L clock → Qw (σ0.new σ) p xs.length c xs → (xs ++ L.map nm).Perm (BS rows) →
     Ca.A1 R (some ⟨s, 0, none⟩) p xs.length c (.pointer (some ⟨i, 0, none⟩)) σ := by
 intro k
 induction k using Nat.strongRecOn with
 | _ k ih =>
 intro σ L xs p c hL hx hi ho hp
 have hlen : xs.length ≤ rows.length := by
   have := hp.length_eq
   simp [BS] at this; omega
 have hm := My.mono hx
 refine Ca.AW (KC hm (hi.mono (Ext.Af _ _)) (fun h0 => .inl ⟨rfl, ?_⟩) fun e J8 U2 o aB Z8 => .inr ?_)
 · subst h0
   rw [List.map_nil, List.append_nil] at hp
   have B1 : Own 1 σ p xs.length c ((xs.map (·.data.toList)).map Xa) := by
     rw [List.map_map]; exact ho.mono (Ext.Af _ _)
   refine Mx B1 (by simp) (by omega) fun σ' hs hsx => ⟨rfl, ?_⟩
   refine hR p _ c ((Gt (xs.map (·.data.toList))).map fun l => ⟨l.toArray⟩) σ' ?_ ?_ (CX ho.Dp hsx hx) (by omega)
   · have := Own.CV hs (σ := σ0) ho.Dp
     unfold Qw
     rw [List.map_map]
     exact this
   · refine List.Perm.trans ?_ hp
     have h1 := (List.mergeSort_perm (xs.map (·.data.toList)) fun x y => decide (x ≤ y)).map fun l => (⟨l.toArray⟩ : ByteArray)
     rw [List.map_map] at h1
     have h2 : xs.map ((fun l => (⟨l.toArray⟩ : ByteArray)) ∘ fun s : ByteArray => s.data.toList) = xs := by
       conv => rhs; rw [← List.map_id xs]
       exact List.map_congr_left fun a _ => rfl
     rw [h2] at h1
     exact h1
 · obtain ⟨seen, c0, yi, _⟩ := hi
   obtain ⟨fe, _⟩ := AQ.1 yi
   have hpi : ∀ a, p = some a → a.block ≠ i := fun a ha e => by
     rcases ho.2.2 with ⟨h1, _⟩ | ⟨b, o', arr, T, h1, h2, _⟩
     · rw [h1] at ha; cases ha
     · rw [h1] at ha; cases ha
       simp only at e; subst e
       rw [yi] at h2; cases h2
   have uq : m ≠ i := fun e => by rw [← e, My.1] at fe; cases fe
   obtain ⟨l1, l2, hl⟩ := List.append_of_mem U2
   obtain ⟨r1, r, r2, CR, _, rfl, _⟩ := Kf hl
   have An : Ext σ0 (σ.set i o) := fun b u hb => by rw [Hp.AF fun e => by rw [e, fe] at hb; cases hb]; exact hx b u hb
   have oZ : (σ0.new (σ.set i o)) i = some o := AQ.2 ⟨fe, Hp.AA _ _ _⟩
   have B1 : Qw (σ0.new (σ.set i o)) p xs.length c xs := TwW.Own.loc ho fun b hb => by
     cases p with
     | none => cases hb
     | some a =>
       simp only [DJ, List.mem_singleton] at hb
       subst hb
       simp only [Hp.new, Hp.AF (hpi a rfl)]
   have Xb : (L.map (·.born)).Nodup := My.V5.sublist ((Cv.sub ⟨seen, c0, yi, by assumption⟩).map _)
   have rb := (Ks Xb J8).map nm
   rw [List.map_cons] at rb
   refine ⟨_, _, _, _, _, rfl, Z8 _ (Hp.AA _ _ _) (Hp.AF uq) ⟨_, _, _, _, _, rfl, fun TV U8 => ?_⟩⟩
   refine JE (T := 97) (ys := [.string r.key]) An B1 rfl (fun u hu => by simp at hu; subst hu; rfl) (by omega) (fun p' c' σ' Dl DR iq => ⟨p', _, c', rfl, ?_⟩) U8
   have hi3 : (σ0.new σ') i = some o := by
     have := iq i o (A6.2 ⟨fun a ha => Ne.symm (hpi a ha), oZ⟩)
     exact (A6.1 this).2
   have := ih _ (hL ▸ Ki J8) σ' _ (xs ++ [r.key]) p' c' rfl DR (aB _ hi3) (by simpa [Qw] using Dl) (by
     rw [List.append_assoc]
     exact (rb.append_left xs).symm.trans hp)
   simpa using this
theorem mj (h : IF σ d b s D W rows τ) (dJ : rows.length ≤ 1024)
   (hR : ∀ p n c L σ', Ix (σ.new σ') p n c (GZ rows L) → L.Perm (BS rows) → Ext σ σ' → R (.returned (.slice p n c)) σ') : Spec prog 68 #[.pointer (some ⟨s, 0, none⟩)] σ R := by
 have h' := h
 obtain ⟨ρ, m, cl, h1, h2⟩ := h'
 have hx := h1.ext
 refine Ca.start ⟨s, 0, rfl, _, AD (hx _ _ h2.cell) rfl, IU (h2.map.mono hx) fun i o hi PM => ⟨_, rfl, ?_⟩⟩
 have AMa : ∀ x ∈ BS rows, x.size ≤ 64 := fun x hx => by
   obtain ⟨r, hr, rfl⟩ := List.mem_map.1 hx
   have := (h2.row r hr).key
   simp [Dg] at this; exact this.2
 refine mh (h2.map.mono hx) dJ h2.nodup (fun p n c L σ1 ho hp BH hn => ?_) _ _ _ [] none 0 rfl (.set hi) (PM.loc (by simp [Hp.new, hi])) Own.nil (by simp [BS, List.map_map]; exact List.Perm.of_eq (List.map_congr_left fun r _ => rfl))
 refine mg (h.mono BH) (Own.rd (ho.mono (Ext.Af _ _))) hn (fun k hk => AMa k (hp.mem_iff.1 hk)) (fun p' n' c' σ2 B1 An => hR p' n' c' L σ2 (A9.mono R7.mono (Ext.CW BH) B1) hp (BH.trans An)) n 0 σ1 none 0 rfl (Nat.zero_le _) (Ext.refl _) A9.nil
end
end TwW
end
section
namespace TwW
open Go Tw Go.RowKit Go.Proofs.Tryz
theorem zP {α : Type} {t l : List α} {x : α} (h : t <+: l ++ [x]) (hl : l.length ≤ t.length) : t = l ∨ t = l ++ [x] := by
 obtain ⟨r, hr⟩ := h
 rcases List.eq_nil_or_concat r with e | ⟨r0, y, e⟩
 · subst e; rw [List.append_nil] at hr; exact .inr hr
 · rw [List.concat_eq_append] at e
   subst e
   rw [← List.append_assoc] at hr
   have h1 := List.append_inj_left' hr rfl
   have : r0 = [] := List.eq_nil_of_length_eq_zero (by have := congrArg List.length h1; simp at this; omega)
   subst this
   exact .inl (by simpa using h1)
theorem YM : ∀ {rs : Bz} {M : Nat}, M1 rs → (∀ r ∈ rs, r.length ≤ M) → (AU rs).length ≤ rs.length * (M + 7)
 | [], _, _, _ => by simp [AU]
 | r :: rs, M, h, hM => by
   rw [B5, List.length_append, List.length_cons, Nat.add_mul]
   have h1 := Om (h r (by simp))
   have h2 := YM (rs := rs) (M := M) (fun x hx => h x (by simp [hx])) fun x hx => hM x (by simp [hx])
   have h3 := hM r (by simp)
   omega
theorem UB {k : ByteArray} {d : List Int} {v : Nat} (hk : k.size ≤ 64) (hd : d.length ≤ 60000) (hv : v < 18446744073709551616) : (Co k d v).length ≤ 60094 := by
 have h1 := BF (x := k.size) (by omega)
 have h2 := BF (x := v) hv
 have h3 := BF (x := d.length) (by omega)
 simp only [Co, List.length_append, Cg]; omega
open Classical in
theorem gw {L : List ByteArray} {g : ByteArray → jB} {x : ByteArray} : ∀ a, (L.map fun y => (y, g y)).foldl (fun a (t : Rec) => if t.1 = x then some t.2 else a) a = if x ∈ L then some (g x) else a := by
 induction L with
 | nil => intro a; simp
 | cons y L ih =>
   intro a
   rw [List.map_cons, List.foldl_cons, ih]
   by_cases hx : x ∈ L
   · simp [hx]
   · by_cases hy : y = x
     · subst hy; simp
     · have : ¬ x = y := fun e => hy e.symm
       simp [hx, hy, this]
open Classical in
theorem ax {L : List ByteArray} {g : ByteArray → jB} {x : ByteArray} : F0 (L.map fun y => (y, g y)) x = if x ∈ L then some (g x) else none := gw none
theorem ay {x : ByteArray} {r : jB} {ts : List Rec} : F0 ts x = some r → ∃ t ∈ ts, t.1 = x ∧ t.2 = r := by
 have : ∀ (ts : List Rec) (a : Option jB), ts.foldl (fun a (t : Rec) => if t.1 = x then some t.2 else a) a = some r → a = some r ∨ ∃ t ∈ ts, t.1 = x ∧ t.2 = r := by
   intro ts
   induction ts with
   | nil => intro a h; exact .inl h
   | cons t ts ih =>
     intro a h
     rw [List.foldl_cons] at h
     rcases ih _ h with h1 | ⟨u, hu, e⟩
     · by_cases ht : t.1 = x
       · rw [if_pos ht] at h1; cases h1; exact .inr ⟨t, by simp, ht, rfl⟩
       · rw [if_neg ht] at h1; exact .inl h1
     · exact .inr ⟨u, by simp [hu], e⟩
 intro h
 rcases this ts none h with h | h
 · cases h
 · exact h
open Classical in
theorem YO {rows : List CO} (hn : (BS rows).Nodup) (x : ByteArray) : B9 rows x = if x ∈ BS rows then some (Cr rows x) else none := by
 by_cases hx : x ∈ BS rows
 · rw [if_pos hx]
   obtain ⟨r, hr, e1, e2⟩ := gv hn hx
   rw [Cr, e2]; rfl
 · rw [if_neg hx, JW hx]
structure az (D : Dk) (W : Wl) (rows : List CO) (ts : List Rec) : Prop where
 up : D.up = true
 dir : W.dir = SB
 log : ∃ rc sg, A5 D.files D.cnt W rc sg ts.length ∧ rc ++ Ao sg = ts.map NF
 good : YL ts
 look : ∀ k, B9 rows k = F0 ts k
 new : D.files (BC SB) = none
 ex : ∀ s, (D.files s).isSome = true → (0 < W.check ∧ s = AG SB kc W.check) ∨ ∃ n ∈ W.AP, s = AG SB ks n
 sml : W.AP.length ≤ 64
def kvF (W : Wl) : List ByteArray := AG SB kc W.check :: W.AP.map (AG SB ks)
theorem di {W : Wl} {s : ByteArray} (h : (0 < W.check ∧ s = AG SB kc W.check) ∨ ∃ n ∈ W.AP, s = AG SB ks n) : s ∈ kvF W := by
 rcases h with ⟨_, e⟩ | ⟨n, hn, e⟩
 · rw [e]; exact List.mem_cons_self ..
 · rw [e]; exact List.mem_cons_of_mem _ (List.mem_map.2 ⟨n, hn, rfl⟩)
theorem dj {D : Dk} {W : Wl} (h : ∀ s, (D.files s).isSome = true → (0 < W.check ∧ s = AG SB kc W.check) ∨ ∃ n ∈ W.AP, s = AG SB ks n) (hl : W.AP.length ≤ 100) : Oh D :=
 .inr ⟨kvF W, by simp [kvF]; omega, fun s hs => di (h s hs)⟩
theorem Ra {D D' : Dk} {W : Wl} {a b : ByteArray} (h : ∀ s, (D.files s).isSome = true → (0 < W.check ∧ s = AG SB kc W.check) ∨ ∃ n ∈ W.AP, s = AG SB ks n) (hl : W.AP.length ≤ 100) (hs : ∀ s, (D'.files s).isSome = true → (D.files s).isSome = true ∨ s = a ∨ s = b) : Oh D' :=
 .inr ⟨a :: b :: kvF W, by simp [kvF]; omega, fun s h1 => by
   rcases hs s h1 with g | g | g
   · exact List.mem_cons_of_mem _ (List.mem_cons_of_mem _ (di (h s g)))
   · rw [g]; exact List.mem_cons_self ..
   · rw [g]; exact List.mem_cons_of_mem _ (List.mem_cons_self ..)⟩
theorem az.vU {D : Dk} {W : Wl} {rows : List CO} {ts : List Rec} (h : az D W rows ts) : Oh D := dj h.ex (by have := h.sml; omega)
structure ml (K : List ByteArray) (rows : List CO) : Prop where
 keys : ∀ x ∈ BS rows, x ∈ K
 len : ∀ x, (Cr rows x).1.length ≤ 60000
section
variable {σ σ' τ τ' ρ ρ' : Hp} {d b s m clock : Nat} {D : Dk} {W : Wl} {rows : List CO} {R : Rr}
theorem YQ {K : List ByteArray} {k : ByteArray} {p : Option Addr} {n c v : Nat} {Gu : List Int} {ts : List Rec} (h : IF σ d b s D W rows τ) (ht : Tb τ) (ho : az D W rows ts) (MR : ml K rows) (hK : K.length ≤ 8) (hk : Dg k = true) (sT : k ∈ K) (hr : CA .u8 τ p n Gu) (h8 : E8 Gu) (hd : Gu.length ≤ 60000) (hv : v + 1 < 18446744073709551616) (hc : D.cnt + 1 < 67108864)
   (Ad : (Cr rows k).2 ≠ v → ∀ σ', Ext σ σ' → R (.returned (.tuple #[.int .u64 (Cr rows k).2, .int .i64 121])) σ')
   (Au : (Cr rows k).2 = v → ∀ σ' D' W' rows' mn, IF σ' d b s D' W' rows' τ → az D' W' rows' mn → ml K rows' → (∀ k', B9 rows' k' = if k = k' then some (Gu, v + 1) else B9 rows k') → D'.armed = D.armed → (D'.cnt ≤ D.cnt + 2 ∧ (mn.length ≤ ts.length + 1 ∨ mn.length ≤ 9)) → (∀ x, x ∈ BS rows' ↔ x = k ∨ x ∈ BS rows) → R (.returned (.tuple #[.int .u64 ((v + 1 : Nat) : Int), .int .i64 0])) σ')
   (KU : D.armed = true → ∀ σ' D' mn, Ai σ' d D' τ → D'.up = false → D'.armed = false → D'.cnt ≤ D.cnt + 2 → Oh D' → HN D'.files SB D'.cnt (mn.map NF) → YL mn → mn.length ≤ ts.length + 9 → ((∀ k', F0 mn k' = B9 rows k') ∨ (∀ k', F0 mn k' = if k = k' then some (Gu, v + 1) else B9 rows k')) → R (.returned (.tuple #[.int .u64 0, .int .i64 60])) σ') :
   Spec prog 30 #[.pointer (some ⟨s, 0, none⟩), .string k, .slice p n c, .int .u64 v] σ R := by
 have hdn : Gu.length = n := hr.1
 have Xk : k.size ≤ 64 := by simp [Dg] at hk; exact hk.2
 have dJ := UB Xk hd hv
 have h8r : E8 (Co k Gu (v + 1)) := VU h8 (by omega) (by omega) hv
 have hdd : CL W.dir = true := by rw [ho.dir]; exact au
 obtain ⟨rc, sg, sU, NA⟩ := ho.log
 have hgn : YL (ts ++ [(k, Gu, v + 1)]) := fun t mf => by
   rcases List.mem_append.1 mf with mf | mf
   · exact ho.good t mf
   · simp at mf; subst mf; exact ⟨hk, h8, Nat.le_trans hd (by decide), Nat.succ_pos v, hv⟩
 have hln : ∀ k', F0 (ts ++ [(k, Gu, v + 1)]) k' = if k = k' then some (Gu, v + 1) else B9 rows k' := fun k' => by rw [O2, ho.look]
 have Z7 : (ts ++ [(k, Gu, v + 1)]).map NF = ts.map NF ++ [Co k Gu (v + 1)] := by simp
 have AFu : D.armed = true → ∀ σ' D' t, Ai σ' d D' τ → D'.up = false → D'.armed = false → D'.cnt ≤ D.cnt + 2 → Oh D' → HN D'.files SB D'.cnt t → t <+: ts.map NF ++ [Co k Gu (v + 1)] → ts.length ≤ t.length → R (.returned (.tuple #[.int .u64 0, .int .i64 60])) σ' := fun ha σ' D' t M6 Y3 ha' hc' Vu EN hp hl => by
   rcases zP hp (by simpa using hl) with e | e
   · subst e
     exact KU ha σ' D' ts M6 Y3 ha' hc' Vu EN ho.good (by omega) (.inl fun k' => (ho.look k').symm)
   · rw [e, ← Z7] at EN
     exact KU ha σ' D' _ M6 Y3 ha' hc' Vu EN hgn (by simp) (.inr hln)
 refine Gr.start (NG h ho.up (fun hf => by rw [hk] at hf; cases hf) fun _ uJ n20 c20 σ1 Ff BH => ⟨_, _, _, _, _, rfl, fun hh => absurd rfl hh, fun _ => ⟨fun hh => Ad (fun e => hh (by rw [e])) σ1 BH, fun heq Yu gq => ?_⟩⟩)
 have mo : (Cr rows k).2 = v := by omega
 have Au := Au mo
 have h1 := h.mono BH
 refine Ec Own.empty ((Gi.of_map (hr.mono h1.ext)).mono (.set gq)) CU.Cs (by omega) fun p35 c35 σ2 Aa EU => ?_
 have hq : ∀ a : Addr, (some (⟨Yu, 0, none⟩ : Addr)) = some a → σ1 a.block = none := fun a ha => by cases ha; exact gq
 rw [Nat.zero_add] at Aa ⊢
 have AFv : AS .u8 (σ1.new σ2) p35 n c35 Gu := Own.CV Aa (B2 hq EU (.set gq))
 have An : Ext σ1 σ2 := CX hq EU (.set gq)
 obtain ⟨τ2, h2, x2, gJ⟩ := h1.grow An
 have AFw : CA .u8 τ2 p35 n Gu := (AS.rd AFv).mono gJ
 refine ⟨p35, n, c35, rfl, fun KJ h37 => ?_⟩
 have e37 : KJ = ((v + 1 : Nat) : Int) := by rw [h37]; simp [IntKind.wrap, IntKind.bits, IntKind.signed]; omega
 subst e37
 obtain ⟨l0, l1, m, l2⟩ := h2.rd
 refine fun _ => ⟨s, 0, rfl, _, l0, Lu (AFw.mono h2.ext) h8 (by omega) (by omega) hv fun yD n45 c45 σ3 Dl DR => ⟨yD, n45, c45, rfl, Kp.CG DR, ?_⟩⟩
 obtain ⟨τ3, h3, x3, x3n⟩ := h2.grow DR
 have lY : CA .u8 τ3 yD n45 (Co k Gu (v + 1)) := (AS.rd Dl).mono x3n
 have AP5 : (Co k Gu (v + 1)).length = n45 := lY.1
 obtain ⟨ρ, m3, cl, hl, hm⟩ := h3
 have mq : Ext τ ρ := (x2.trans x3).trans hm.up
 have AFx := ht.mono mq
 refine VF (hfew := ho.vU) hl AFx (lY.mono hm.up) h8r ho.up (by omega) hdd sU (fun hh => by omega) fun _ => ⟨fun σ4 D4 W4 sg4 sf4 h4 u4 a4 k4 d4 z4 AMd s4 AFy ATj AMe ch4 _ _ _ => ⟨0, rfl, fun hh => absurd rfl hh, fun _ => ?_⟩, fun ha σ4 D4 t4 h4 u4 a4 k4 o4 ht4 hs4 => ⟨60, rfl, fun _ => ?_, fun hh => absurd (by decide) hh⟩⟩
 · have Y8 : W4.dir = SB := d4.trans ho.dir
   have AFz : CL W4.dir = true := by rw [Y8]; exact au
   have VW : rc ++ Ao sg4 = (ts ++ [(k, Gu, v + 1)]).map NF := by rw [AFy, ← List.append_assoc, NA, Z7]
   have u4' : IF σ4 d b s D4 W4 rows τ3 := ⟨ρ, m3, cl, h4, hm⟩
   refine ⟨_, u4'.rd.1, aN h4 AFx u4 (by omega) AFz AMd (fun σ5 D5 h5 u5 a5 k5 zQ ATn AMf ff5 => ⟨0, rfl, fun hh => absurd rfl hh, fun _ => ?_⟩) (fun ha σ5 D5 t5 h5 u5 a5 k5 o5 ht5 hs5 => ⟨60, rfl, fun _ => ?_, fun hh => absurd (by decide) hh⟩)⟩
   · have u5' : IF σ5 d b s D5 W4 rows τ3 := ⟨ρ, m3, cl, h5, hm⟩
     obtain ⟨z1, z2, z3, z5, z6⟩ := z4
     have AF0 : W4.opn ∈ W4.AP := List.mem_of_getLast? (by simpa [hasB] using z3)
     have sV : ∀ s, (D5.files s).isSome = true → (0 < W4.check ∧ s = AG SB kc W4.check) ∨ ∃ n ∈ W4.AP, s = AG SB ks n := fun s hs => by
       rcases z6 s (ff5.2 s hs) with g | g
       · rw [ch4]
         exact (ho.ex s g).imp id fun ⟨n, hn, e⟩ => ⟨n, z5.subset hn, e⟩
       · exact .inr ⟨_, AF0, by rw [g, Y8]⟩
     have ATp : W4.AP.length ≤ 65 := by have := ho.sml; omega
     obtain ⟨m0, _, m5, l5⟩ := u5'.rd
     have vV : D5.files (BC SB) = none := by
       have e1 := AMf; have e2 := AMe
       rw [Y8] at e1; rw [ho.dir] at e2
       exact (e1.trans e2).trans ho.new
     refine ⟨_, l5, u5'.put l5 (Own.cap AFv) (AFw.mono x3) h8 (by omega) hk hv fun σ6 FQ h6 mr hk6 => ?_⟩
     have sW : ml K FQ := ⟨fun x hx => by
       rcases (hk6 x).1 hx with rfl | hx
       · exact sT
       · exact MR.keys x hx, fun x => by
       have e : Cr FQ x = if k = x then (Gu, v + 1) else Cr rows x := by
         rw [Cr, mr]
         by_cases sG : k = x <;> simp [sG, Cr]
       rw [e]
       by_cases sG : k = x
       · rw [if_pos sG]; exact hd
       · rw [if_neg sG]; exact MR.len x⟩
     have mu : ∀ x, B9 FQ x = F0 (ts ++ [(k, Gu, v + 1)]) x := fun x => by rw [hln, mr]
     have zR := h6.nodup
     have AMi : FQ.length ≤ 8 := by
       have := XS zR sW.keys
       simp only [BS, List.length_map] at this; omega
     have ga6 : D5.armed = D.armed := a5.trans a4
     obtain ⟨ρ6, m6, cl6, AF1, zS⟩ := h6
     have h6 : IF σ6 d b s D5 W4 FQ τ3 := ⟨ρ6, m6, cl6, AF1, zS⟩
     have mw : Ext τ τ3 := x2.trans x3
     refine ⟨_, h6.rd.1, SZ AF1 ⟨_, rfl, fun Fy => ?_, fun ATr => ?_⟩⟩
     · refine ⟨_, h6.rd.1, mj h6 (by omega) fun p75 n75 c75 L σ8 zT hp8 Qy => ⟨p75, n75, c75, rfl, Kp.CG Qy, ?_⟩⟩
       obtain ⟨τ8, h8', x8, x8n⟩ := h6.grow Qy
       obtain ⟨ρ8, m8, cl8, hl8, hm8⟩ := h8'
       let om : List Rec := L.map fun x => (x, Cr FQ x)
       have e9 : GZ FQ L = om.map NF := by simp [om, GZ]
       have my : ∀ x ∈ L, ∃ t ∈ ts ++ [(k, Gu, v + 1)], t.1 = x ∧ t.2 = Cr FQ x := fun x hx => by
         refine ay ?_
         rw [← mu, YO zR, if_pos (hp8.mem_iff.1 hx)]
       have hg9 : YL om := fun t mf => by
         obtain ⟨x, hx, rfl⟩ := List.mem_map.1 mf
         obtain ⟨u, hu, e1, e2⟩ := my x hx
         have := hgn u hu
         rw [e1, e2] at this; exact this
       have hl9 : ∀ x, F0 om x = B9 FQ x := fun x => by
         rw [ax, YO zR]
         by_cases hx : x ∈ L
         · rw [if_pos hx, if_pos (hp8.mem_iff.1 hx)]
         · rw [if_neg hx, if_neg (fun h => hx (hp8.mem_iff.2 h))]
       have hLl : L.length = FQ.length := by have := hp8.length_eq; simpa [BS] using this
       have vW : ∀ r ∈ GZ FQ L, r.length ≤ 60094 := fun r I9 => by
         obtain ⟨x, hx, rfl⟩ := List.mem_map.1 I9
         obtain ⟨u, hu, e1, e2⟩ := my x hx
         have vX := hgn u hu
         refine UB ?_ (sW.len x) (by rw [← e2]; exact vX.2.2.2.2)
         have := vX.1
         rw [e1] at this
         simp [Dg] at this; exact this.2
       have AF2 : M1 (GZ FQ L) := fun r I9 => by have := vW r I9; omega
       have hj9 : (AU (GZ FQ L)).length ≤ 4194304 := by
         have := YM AF2 vW
         rw [List.length_map, hLl] at this
         have h2 : FQ.length * (60094 + 7) ≤ 8 * (60094 + 7) := Nat.mul_le_mul_right _ AMi
         omega
       have h89 : ∀ r ∈ GZ FQ L, E8 r := fun r I9 => by
         obtain ⟨x, hx, rfl⟩ := List.mem_map.1 I9
         obtain ⟨u, hu, e1, e2⟩ := my x hx
         have vX := hgn u hu
         rw [e1, e2] at vX
         have vN : x.size ≤ 64 := by have := vX.1; simp [Dg] at this; exact this.2
         exact VU vX.2.1 (by omega) (by have := vX.2.2.1; omega) vX.2.2.2.2
       have sH : Ext τ ρ8 := (mw.trans x8).trans hm8.up
       refine gU (hfew := dj sV (by omega)) hl8 (ht.mono sH) (Jx.mono (x8n.trans hm8.up) (A9.rd R7.mono zT)) h89 u5 (by omega) AFz zQ (by rw [Y8]; exact vV) (fun hh => absurd AF2 hh) fun _ => ⟨hj9, ⟨fun σ9 D9 W9 h9 u9 a9 k9 d9 s9 AMl ATx AMm => ⟨0, rfl, fun hh => absurd rfl hh, fun _ => Gr.dC ?_⟩, fun ha σ9 D9 t9 h9 u9 a9 k9 o9 ht9 => ⟨60, rfl, fun _ => ?_, fun hh => absurd (by decide) hh⟩⟩⟩
       · refine Au σ9 D9 W9 FQ om ⟨ρ8, m8, cl8, h9, hm8.cell, hm8.map, hm8.row, (mw.trans x8).trans hm8.ext⟩ ⟨u9, d9.trans Y8, ⟨GZ FQ L, [], ?_, by simp [Ao, e9]⟩, hg9, fun x => (hl9 x).symm, by have := AMm; rw [Y8] at this; exact this, fun s hs => ?_, by rw [s9.1]; simp⟩ sW mr (a9.trans ga6) ⟨by omega, .inr (by simp only [om, List.length_map]; omega)⟩ hk6
         · have : (GZ FQ L).length = om.length := by rw [e9, List.length_map]
           rw [← this]; exact AMl
         · rw [s9.2.1]
           rcases s9.2.2 s hs with g | ⟨g1, g2, g3⟩
           · exact .inl ⟨by have := zQ.opn.1; omega, by rw [g, Y8]⟩
           · exfalso
             rcases sV s g1 with ⟨e1, e2⟩ | ⟨n, hn, e⟩
             · exact g2 e1 (by rw [e2, Y8])
             · exact g3 n hn (by rw [e, Y8])
       · rw [Y8] at o9
         have E5 : t9 = om.map NF ∨ t9 = (ts ++ [(k, Gu, v + 1)]).map NF := by
           rcases ht9 with e | ⟨e1, e2⟩
           · exact .inl (e.trans e9)
           · rw [VW] at e1 e2
             exact .inr (e1.eq_of_length (by have := e1.length_le; omega))
         have M6 : Ai σ9 d D9 τ := h9.EW sH
         have LR : D.armed = true := by rw [← ga6]; exact ha
         have AF3 : Oh D9 := Ra sV (by omega) k9.2
         rcases E5 with e | e
         · rw [e] at o9
           exact KU LR σ9 D9 om M6 u9 a9 (by omega) AF3 o9 hg9 (by simp only [om, List.length_map]; omega) (.inr fun x => by rw [hl9, mr])
         · rw [e] at o9
           exact KU LR σ9 D9 _ M6 u9 a9 (by omega) AF3 o9 hgn (by simp) (.inr hln)
     · refine Gr.dC (Au σ6 D5 W4 FQ _ (h6.EW mw) ⟨u5, Y8, ⟨rc, sg4, ?_, VW⟩, hgn, mu, vV, sV, by omega⟩ sW mr ga6 ⟨by omega, .inl (by simp)⟩ hk6)
       have : (rc ++ Ao sg4).length = (ts ++ [(k, Gu, v + 1)]).length := by rw [VW, List.length_map]
       rw [← this]; exact zQ
   · rw [Y8] at o5
     have LR : D.armed = true := by rw [← a4]; exact ha
     have AMn : ∀ s, (D4.files s).isSome = true → (D.files s).isSome = true ∨ s = AG W4.dir ks W4.opn ∨ s = AG W4.dir ks W4.opn := fun s hs => (z4.2.2.2.2 s hs).imp id .inl
     refine AFu LR σ5 D5 t5 (h5.EW mq) u5 a5 (by omega) (Ra ho.ex (by have := ho.sml; omega) fun s hs => AMn s (k5.2 s hs)) o5 ?_ (by omega)
     rw [← Z7, ← VW]; exact ht5
 · rw [ho.dir] at o4
   refine AFu ha σ4 D4 t4 (h4.EW mq) u4 a4 (by omega) (Ra ho.ex (by have := ho.sml; omega) k4.2) o4 ?_ (by omega)
   rw [← NA]; exact ht4
end
end TwW
end
section
namespace TwW
open Go Tw Go.RowKit Go.Proofs.Tryz
section
variable {σ σ' τ τ' ρ ρ' : Hp} {d b s m clock : Nat} {D : Dk} {W : Wl} {rows : List CO} {R : Rr}
theorem YR (h : Ai σ d D τ) (ht : Tb τ) (Ev : D.up = true) (LR : D.armed = false) (hc : D.cnt = 0) (hf : ∀ s, D.files s = none)
   (hR : ∀ s b σ' W Fg, IF σ' d b s (dk Fg 0) W [] τ → az (dk Fg 0) W [] [] → (∀ s, Fg s = none) → R (.returned (.tuple #[.pointer (some ⟨s, 0, none⟩), .int .i64 0])) σ') : Spec prog 41 #[.pointer (some ⟨d, 0, none⟩)] σ R := by
 refine VV (ts := []) (w := true) h ht Ev LR (by omega) (HN.AFX fun s hs => by rw [hf s] at hs; cases hs) (fun t ht => by cases ht) (by simp) fun s b σ1 W1 rows Fg cnt' h1 hl hk hd sU hn c1 c2 MI hw => ?_
 have CR : rows = [] := by
   cases rows with
   | nil => rfl
   | cons r l => obtain ⟨t, ht, _⟩ := hk r.key (by simp [BS]); cases ht
 subst CR
 have GJ : cnt' = 0 := (hw rfl).trans hc
 subst GJ
 have NL : ∀ x, Fg x = none := fun x => by
   cases hh : Fg x with
   | none => rfl
   | some f => have := MI x (by rw [hh]; rfl); rw [hf x] at this; cases this
 refine hR s b σ1 W1 Fg h1 ⟨rfl, hd, sU, fun t ht => (by cases ht), hl, hn, fun x hx => (by rw [show (dk Fg 0).files x = none from NL x] at hx; cases hx), ?_⟩ NL
 obtain ⟨rc, sg, R8, _⟩ := sU
 have Vr : sg = [] := by
   cases sg with
   | nil => rfl
   | cons x l =>
     obtain ⟨f, hx, _⟩ := R8.sh.file 0 x rfl
     rw [NL] at hx; cases hx
 rw [R8.AP, Vr]; simp
theorem dm {k x : ByteArray} {r : jB} {rows rows' : List CO} (h : ∀ k', B9 rows' k' = if k = k' then some r else B9 rows k') : Cr rows' x = if k = x then r else Cr rows x := by
 rw [Cr, h]
 by_cases sG : k = x <;> simp [sG, Cr]
end
end TwW
end
section
namespace TwW
open Go Tw Go.RowKit Go.Proofs.Tryz
section
variable {σ σ' τ : Hp} {R : Rr}
theorem Rb {α : Type} [Inhabited α] {enc : α → Value} {F2 : Array α} {F : Nat → Prop} {w : World} {b o n : Nat} {arr : Array Value} {T : TypeId} {os : Array Obj} (hs : Sat σ w) (hF : ∀ b, F b → b < w.heap.size ∧ σ b = none) (hb : σ b = some (.cells arr T (0, 0))) :
   Fin (σ.set b (.cells (Sort.putCells enc o F2 arr) T (0, 0))) F w (Sort.grow (Sort.putRow enc (Sort.ahead w n) b o F2) os) := by
 have hw := hs _ _ hb
 have hblk : b < w.heap.size := (Array.getElem?_eq_some_iff.1 hw).1
 have DL : ∀ k, (Sort.grow (Sort.putRow enc (Sort.ahead w n) b o F2) os).heap[k]? = if k < w.heap.size then (if b = k then (w.heap[k]?).map (Sort.onCells (Sort.putCells enc o F2)) else w.heap[k]?) else os[k - w.heap.size]? := fun k => by
   simp only [Sort.grow, Sort.putRow, Sort.mapBlock, Sort.ahead, Array.getElem?_append, Array.size_modify, Array.getElem?_modify]
 refine ⟨fun k u hk => ?_, fun k hk => ?_, ⟨rfl, rfl, fun _ => ⟨n, rfl⟩⟩, rfl, by simp [Sort.grow, Sort.putRow, Sort.mapBlock, Sort.ahead]⟩
 · rw [DL k]
   by_cases DD : k = b
   · subst DD
     rw [Hp.AA] at hk; cases hk
     rw [if_pos hblk, if_pos rfl, hw]; rfl
   · rw [Hp.AF DD] at hk
     have := hs k u hk
     rw [if_pos (Array.getElem?_eq_some_iff.1 this).1, if_neg (Ne.symm DD)]; exact this
 · have DD : k ≠ b := fun e => by have := (hF k hk).2; rw [e, hb] at this; cases this
   refine ⟨by rw [Hp.AF DD]; exact (hF k hk).2, ?_⟩
   rw [DL k, if_pos (hF k hk).1, if_neg (Ne.symm DD)]
theorem AS.row {q : Option Addr} {m d : Nat} {xs : List Int} (ho : AS .i64 σ q m d xs) (My : m ≠ 0) {w : World} (hs : Sat σ w) :
   ∃ b o arr T, q = some ⟨b, o, none⟩ ∧ σ b = some (.cells arr T (0, 0)) ∧ m ≤ d ∧ o + d * 1 ≤ arr.size ∧ (∀ (j : Nat) (hj : j < xs.length), arr[o + j]? = some (.int .i64 xs[j])) ∧ Sort.Holds (Value.int .i64) w b o xs.toArray ∧ b < w.heap.size := by
 have hm : xs.length = m := ho.rd.1
 obtain ⟨b, o, arr, T, rfl, hb, im, PA, IP⟩ : ∃ b o arr T, q = some ⟨b, o, none⟩ ∧ σ b = some (.cells arr T (0, 0)) ∧ m ≤ d ∧ o + d * 1 ≤ arr.size ∧ (arr.toList.drop o).take (m * 1) = xs.map (.int .i64) := by
   rcases ho.2.2 with ⟨_, h2, _⟩ | h
   · exact absurd h2 My
   · exact h
 have hw := hs _ _ hb
 have PO : ∀ (j : Nat) (hj : j < xs.length), arr[o + j]? = some (.int .i64 xs[j]) := fun j hj => by
   have h1 : (xs.map (Value.int .i64))[j]? = some (.int .i64 xs[j]) := by simp [hj]
   rw [← IP, List.getElem?_take, if_pos (by omega), List.getElem?_drop, Array.getElem?_toList] at h1
   exact h1
 refine ⟨b, o, arr, T, rfl, hb, im, PA, PO, fun j hj => ?_, (Array.getElem?_eq_some_iff.1 hw).1⟩
 have UQ : j < xs.length := by simpa using hj
 refine ⟨?_, by simp [World.frozen?, hw]⟩
 have e1 : xs.toArray[j]! = xs[j] := by simp [UQ]
 simp only [World.cell?, hw, e1]
 simpa using PO j UQ
def Gv (xs : List Int) : List Int := xs.mergeSort fun x y => decide (x ≤ y)
theorem Hv (xs : List Int) : (Gv xs).length = xs.length := by simp [Gv]
theorem YS (xs : List Int) : (Gv xs).Pairwise (· ≤ ·) := by
 have := List.pairwise_mergeSort (le := fun x y : Int => decide (x ≤ y)) (fun a b c h1 h2 => by simp at *; omega) (fun a b => by simp; omega) xs
 exact this.imp fun h => by simpa using h
theorem bA {q : Option Addr} {m d : Nat} {xs : List Int} (ho : AS .i64 σ q m d xs) (Ee : m < 4611686018427387904)
   (h : ∀ σ', AS .i64 σ' q m d (Gv xs) → Ext (σ.del q) (σ'.del q) → R (.returned (.tuple #[])) σ') : Spec prog 48 #[.slice q m d] σ R := by
 intro w F hs hF
 have hm : xs.length = m := ho.rd.1
 by_cases My : m = 0
 · subst My
   have hx : xs = [] := List.eq_nil_of_length_eq_zero hm
   subst hx
   refine (Go.Proofs.Tryz.slices_Sort_int_none q d w).mono ?_
   rintro e w' ⟨rfl, rfl⟩
   exact ⟨σ, h σ (by simpa [Gv] using ho) (Ext.refl _), hs, fun b hb => ⟨(hF b hb).2, rfl⟩, .same rfl rfl rfl, rfl, Nat.le_refl _⟩
 · obtain ⟨b, o, arr, T, rfl, hb, im, PA, PO, hH, hblk⟩ := AS.row ho My hs
   have IB := Go.Proofs.Tryz.slices_Sort_int b o d xs w hH hblk (by omega)
   rw [hm] at IB
   refine IB.mono ?_
   rintro e w' ⟨rfl, n, os, rfl⟩
   refine ⟨_, h _ ⟨by simp [Hv, hm], by omega, .inr ⟨b, o, _, T, rfl, Hp.AA _ _ _, im, by simpa [Sort.putCells] using PA, ?_⟩⟩ (by rw [Hp.Bl]; exact Ext.refl _), Rb (F2 := (Gv xs).toArray) hs hF hb⟩
   have hF2 : (Gv xs).toArray.size = m := by simp [Hv, hm]
   refine List.ext_getElem? fun j => ?_
   rw [List.getElem?_take]
   by_cases hj : j < m * 1
   · have UR : j < (Gv xs).length := by rw [Hv]; omega
     rw [if_pos hj, List.getElem?_drop, Array.getElem?_toList, FJ, if_pos (by omega), PO j (by omega)]
     simp [UR]
   · rw [if_neg hj, List.getElem?_eq_none (by simp [Hv]; omega)]
theorem Rc {zs : List Int} (hz : zs.Pairwise (· ≤ ·)) : ∀ m, m ≤ zs.length → (Lib.compactUpTo zs.toArray m).Pairwise (· < ·) ∧ ∀ x, x ∈ Lib.compactUpTo zs.toArray m ↔ x ∈ zs.take m
 | 0, _ => by simp [Lib.compactUpTo]
 | m + 1, hm => by
   obtain ⟨h1, h2⟩ := Rc hz m (by omega)
   have Ag : m < zs.length := by omega
   have em : zs.toArray[m]! = zs[m] := by simp [Ag]
   have Cl : ∀ x, x ∈ zs.take (m + 1) ↔ x ∈ zs.take m ∨ x = zs[m] := fun x => Hy (List.getElem?_eq_getElem Ag)
   rw [Lib.compactUpTo_succ]
   by_cases hk : Lib.keeps zs.toArray m = true
   · rw [if_pos hk, em]
     refine ⟨List.pairwise_append.2 ⟨h1, by simp, fun a ha b hb => ?_⟩, fun x => by rw [Cl, List.mem_append, h2]; simp⟩
     simp only [List.mem_singleton] at hb
     subst hb
     obtain ⟨i, hi, rfl⟩ := List.mem_iff_getElem.1 ((h2 a).1 ha)
     rw [List.length_take] at hi
     rw [List.getElem_take]
     have Jl : i < m := by omega
     have hle : zs[m - 1]'(by omega) ≤ zs[m] := List.pairwise_iff_getElem.1 hz (m - 1) m (by omega) Ag (by omega)
     have Ad : zs[m] ≠ zs[m - 1]'(by omega) := by
       have e1 : zs.toArray[m - 1]! = zs[m - 1]'(by omega) := by simp [show m - 1 < zs.length by omega]
       unfold Lib.keeps at hk
       rw [em, e1] at hk
       simp only [decide_eq_true_eq] at hk
       rcases hk with hk | hk
       · omega
       · exact hk
     have AF4 : zs[i]'(by omega) ≤ zs[m - 1]'(by omega) := by
       by_cases hh : i = m - 1
       · subst hh; exact Int.le_refl _
       · exact List.pairwise_iff_getElem.1 hz i (m - 1) (by omega) (by omega) (by omega)
     omega
   · rw [if_neg hk, List.append_nil]
     refine ⟨h1, fun x => ?_⟩
     rw [Cl, h2]
     refine ⟨.inl, fun h => h.elim id fun he => ?_⟩
     unfold Lib.keeps at hk
     rw [em] at hk
     simp only [decide_eq_true_eq, not_or, Decidable.not_not] at hk
     have e1 : zs.toArray[m - 1]! = zs[m - 1]'(by omega) := by simp [show m - 1 < zs.length by omega]
     rw [e1] at hk
     rw [he, hk.2]
     exact List.mem_iff_getElem.2 ⟨m - 1, by rw [List.length_take]; omega, by rw [List.getElem_take]⟩
theorem Sf {q : Option Addr} {m d : Nat} {xs : List Int} (ho : AS .i64 σ q m d xs) (hz : xs.Pairwise (· ≤ ·)) (Ee : m < 4611686018427387904)
   (h : ∀ σ' k ys, AS .i64 σ' q k d ys → Ext (σ.del q) (σ'.del q) → EY ys → (∀ x, x ∈ ys ↔ x ∈ xs) → R (.returned (.slice q k d)) σ') : Spec prog 49 #[.slice q m d] σ R := by
 intro w F hs hF
 have hm : xs.length = m := ho.rd.1
 by_cases My : m = 0
 · subst My
   have hx : xs = [] := List.eq_nil_of_length_eq_zero hm
   subst hx
   refine (Go.Proofs.Tryz.slices_Compact_int_empty q d w).mono ?_
   rintro e w' ⟨rfl, rfl⟩
   exact ⟨σ, h σ 0 [] ho (Ext.refl _) List.Pairwise.nil (fun _ => Iff.rfl), hs, fun b hb => ⟨(hF b hb).2, rfl⟩, .same rfl rfl rfl, rfl, Nat.le_refl _⟩
 · obtain ⟨b, o, arr, T, rfl, hb, im, PA, PO, hH, hblk⟩ := AS.row ho My hs
   obtain ⟨h1, h2⟩ := Rc hz xs.length (Nat.le_refl _)
   have IB := Go.Proofs.Tryz.slices_Compact_int b o d xs w hH (by omega) (by omega)
   rw [hm] at IB
   refine IB.mono ?_
   rintro e w' ⟨rfl, n, rfl⟩
   have hle : (Lib.compact xs).length ≤ m := by
     rw [← hm]
     unfold Lib.compact Lib.compactUpTo
     rw [List.length_map]
     have := List.length_filter_le (Lib.keeps xs.toArray) (List.range xs.length)
     simpa using this
   have hF2 : (Lib.compact xs ++ List.replicate (m - (Lib.compact xs).length) 0).toArray.size = m := by simp; omega
   have Jt := Rb (enc := Value.int .i64) (F2 := (Lib.compact xs ++ List.replicate (m - (Lib.compact xs).length) 0).toArray) (o := o) (n := n) (os := #[]) hs hF hb
   rw [Sort.grow_empty] at Jt
   refine ⟨_, h _ _ (Lib.compact xs) ⟨by simp, by omega, .inr ⟨b, o, _, T, rfl, Hp.AA _ _ _, by omega, by simpa [Sort.putCells] using PA, ?_⟩⟩ (by rw [Hp.Bl]; exact Ext.refl _) h1 (fun x => by have := h2 x; rw [List.take_length] at this; exact this), Jt⟩
   refine List.ext_getElem? fun j => ?_
   rw [List.getElem?_take]
   by_cases hj : j < (Lib.compact xs).length * 1
   · have UR : j < (Lib.compact xs).length := by omega
     rw [if_pos hj, List.getElem?_drop, Array.getElem?_toList, FJ, if_pos (by omega), PO j (by omega)]
     have e1 : o + j - o = j := by omega
     rw [e1, getElem!_pos _ j (by omega)]
     simp [UR]
   · rw [if_neg hj, List.getElem?_eq_none (by simp; omega)]
variable {pb : Nat} {E Q : Int} {ps : List Part} {ms : List Nat} {fs : List Ea}
theorem O4 (h : ∀ x ∈ ps, x.rs.length ≤ 5) : (ps.flatMap (·.rs)).length ≤ ps.length * 5 := by
 induction ps with
 | nil => simp
 | cons x l ih =>
   have := ih fun y hy => h y (List.mem_cons_of_mem _ hy)
   have := h x (by simp)
   rw [List.flatMap_cons, List.length_append, List.length_cons]
   omega
theorem Re (h : IE σ pb E Q ps ms) (hR : ∀ p n c σ' L, AS .i64 (σ.new σ') p n c L → Ext σ σ' → EY L → (∀ x, x ∈ L ↔ ∃ y ∈ ps, x ∈ y.rs) → R (.returned (.slice p n c)) σ') :
   Spec prog 14 #[.pointer (some ⟨pb, 0, none⟩)] σ R := by
 obtain ⟨p, n, c, hc, hr⟩ := h.cell
 have hn : ps.length = n := by have := hr.1; rw [List.length_zip, ← h.len, Nat.min_self] at this; exact this
 have hfew := h.vU
 refine BY.start ⟨pb, 0, rfl, p, n, c, AD hc rfl, ?_⟩
 suffices H : ∀ d i : Nat, ∀ p6 n6 c6 σ6, n - i = d → i ≤ n → AS .i64 (σ.new σ6) p6 n6 c6 ((ps.take i).flatMap (·.rs)) → Ext σ σ6 → BY.A1 R p6 n6 c6 p n c n i σ6 from H n 0 none 0 0 σ rfl (Nat.zero_le _) Own.nil (.refl σ)
 intro d
 induction d with
 | zero =>
   intro i p6 n6 c6 σ6 hd hi ho hx
   rw [List.take_of_length_le (by omega)] at ho
   have hq := ho.Dp
   have mr : (ps.flatMap (·.rs)).length = n6 := ho.rd.1
   have := O4 h.rep
   refine BY.AW ⟨fun Ag => by omega, fun _ => bA (Own.mono (Ext.Af _ _) ho) (by omega) fun σ7 ho7 Ov => ⟨rfl, ?_⟩⟩
   refine Sf ho7 (YS _) (by omega) fun σ8 k ys zT Qy XQ Cl => ⟨_, _, _, rfl, hR _ _ _ σ8 ys (Own.CV zT hq) (Ext.mS hx hq (Ov.trans Qy)) XQ fun x => ?_⟩
   rw [Cl, Gv, List.mem_mergeSort, List.mem_flatMap]
 | succ d ih =>
   intro i p6 n6 c6 σ6 hd hi ho hx
   have Jl : i < n := by omega
   obtain ⟨x, mb⟩ := hr.ex Jl
   obtain ⟨mc, Qq⟩ := List.getElem?_zip_eq_some.1 mb
   obtain ⟨b, o, p1, n1, c1, q, m, d1, rfl, hl, h1, h2⟩ := Dz.at hr mb
   have SX : x.1.rs.length = m := h2.1
   have mr : ((ps.take i).flatMap (·.rs)).length = n6 := ho.rd.1
   have hb6 := O4 (ps := ps.take i) fun y hy => h.rep y (List.mem_of_mem_take hy)
   have PR := h.rep x.1 (List.mem_of_getElem? mc)
   rw [List.length_take] at hb6
   refine BY.AW ⟨fun _ => ⟨b, o, rfl, by omega, p1, n1, c1, x.1.s.t, x.1.s.v, q, m, d1, x.2, by simpa using hl.mono hx, fun _ => ?_⟩, fun hh => by omega⟩
   refine D6 hx ho ((Gi.of_map h2).mono hx) CU.Cs (by omega) fun p' c' σ' EN Cc hdl => ⟨_, _, _, rfl, Ah Jl hr.big, ih (i + 1) _ _ _ _ (by omega) (by omega) ?_ Cc⟩
   rw [AR mc, List.flatMap_append]
   simpa [AS] using EN
abbrev zU (σ : Hp) (p : Option Addr) (n c : Nat) (bs : List Bool) : Prop := Own 1 σ p n c (bs.map .bool)
def E0 (Q : Int) (f : Ea) : Bool := decide (Q ≤ (YI f : Int))
def YT (bs : List Bool) : Int := if bs.all id then 1 else if bs.any id then 6 else 5
theorem dn : ∀ {f : Ea} {bs : List Nat}, bs.length = f.length → ((List.zipWith JV f bs).filter fun e => match e.val with | .int _ y => HP y | _ => false).length = YI f
 | [], _, _ => by simp [YI]
 | a :: f, [], h => by simp at h
 | a :: f, b :: bs, h => by
   have ih := dn (f := f) (bs := bs) (by simpa using h)
   simp only [YI, List.zipWith_cons_cons, List.filter_cons] at ih ⊢
   have : (match (JV a b).val with | .int _ y => HP y | _ => false) = HP a.2 := rfl
   rw [this]
   by_cases hk : HP a.2 = true
   · rw [if_pos hk, if_pos hk, List.length_cons, List.length_cons, ih]
   · rw [if_neg hk, if_neg hk, ih]
def dp (e : MapEntry) : Bool := match e.val with | .int _ y => HP y | _ => false
theorem bB (h : Cj σ pb E Q ps ms fs τ) (hf : ∀ f ∈ fs, f.length ≤ 1000000) (hR : ∀ p n c σ', zU (σ.new σ') p n c (fs.map (E0 Q)) → Ext σ σ' → R (.returned (.tuple #[.int .i64 (YT (fs.map (E0 Q))), .slice p n c])) σ') :
   Spec prog 17 #[.pointer (some ⟨pb, 0, none⟩)] σ R := by
 obtain ⟨p, n, c, hc, hr⟩ := h.at.cell
 have hn : ps.length = n := by have := hr.1; rw [List.length_zip, ← h.at.len, Nat.min_self] at this; exact this
 have vY : ms.length = fs.length := h.len
 have hpm := h.at.len
 have hfew := h.at.vU
 refine Aw.start ⟨pb, 0, rfl, p, n, c, AD hc rfl, ?_⟩
 suffices H : ∀ d i : Nat, ∀ p6 n6 c6 σ6, n - i = d → i ≤ n → zU (σ.new σ6) p6 n6 c6 ((fs.take i).map (E0 Q)) → Ext σ σ6 → Aw.HC R (aD pb 0) p6 n6 c6 (((fs.take i).map (E0 Q)).all id) (((fs.take i).map (E0 Q)).any id) p n c n i σ6 from H n 0 none 0 0 σ rfl (Nat.zero_le _) Own.nil (.refl σ)
 intro d
 induction d with
 | zero =>
   intro i p6 n6 c6 σ6 hd hi ho hx
   rw [List.take_of_length_le (by omega)] at ho ⊢
   have := hR p6 n6 c6 σ6 ho hx
   unfold YT at this
   refine Aw.F5 ⟨fun Ag => by omega, fun _ => ⟨fun h1 => ?_, fun h1 => ⟨fun h2 => ?_, fun h2 => ?_⟩⟩⟩
   · rw [if_pos h1] at this; exact this
   · rw [if_neg (by simp [h1]), if_pos h2] at this; exact this
   · rw [if_neg (by simp [h1]), if_neg (by simp [h2])] at this; exact this
 | succ d ih =>
   intro i p6 n6 c6 σ6 hd hi ho hx
   have Jl : i < n := by omega
   obtain ⟨x, mb⟩ := hr.ex Jl
   obtain ⟨mc, Qq⟩ := List.getElem?_zip_eq_some.1 mb
   obtain ⟨b, o, p1, n1, c1, q, m, d1, rfl, hl, h1, h2⟩ := Dz.at hr mb
   obtain ⟨f, il⟩ : ∃ f, fs[i]? = some f := ⟨_, List.getElem?_eq_getElem (by omega)⟩
   have Z9 := hf f (List.mem_of_getElem? il)
   obtain ⟨bs, clock, fY, My⟩ := h.YK i x.2 f Qq il
   have zS := My.mono hx
   refine Aw.F5 ⟨fun _ => ⟨b, o, rfl, by omega, p1, n1, c1, x.1.s.t, x.1.s.v, q, m, d1, x.2, by simpa using hl.mono hx, fun _ => ?_⟩, fun hh => by omega⟩
   refine y8.IU zS fun ib io hib PM => ⟨_, rfl, ?_⟩
   have leaf : ∀ (σ7 : Hp) (KJ x9 : Int) (t5 t6 : Bool), decide (KJ ≤ x9) = E0 Q f → t5 = ((fs.take (i + 1)).map (E0 Q)).all id → t6 = ((fs.take (i + 1)).map (E0 Q)).any id → Ext σ6 σ7 → Al σ7 fun NR => AJ prog (Builtin.append_ #[51, 51] 51 #[.slice p6 n6 c6, (.slice (aD NR 0) 1 1)]) (Hp.set σ7 NR (.cells #[(.bool (decide (KJ ≤ x9)))] 4 (0, 0))) (CS fun fM n50 fN AI => AO ((i : Int) + 1) ∧ Aw.HC R (aD pb 0) fM n50 fN t5 t6 (aD b o) n c n ((i : Int) + 1) AI) := by
     intro σ7 KJ x9 t5 t6 hk h5 h6 Ov NR zV
     rw [hk]
     have mr : n6 = i := by have := Own.rd ho |>.1; simp at this; omega
     refine JE (ys := [.bool (E0 Q f)]) (hx.trans Ov) (Own.mono (Ext.BV Ov) ho) rfl (fun u hu => by simp at hu; subst hu; rfl) (by omega) (fun p' c' σ' Dl DR iq => ⟨p', _, c', rfl, Ah Jl hr.big, ?_⟩) zV
     rw [h5, h6]
     refine ih (i + 1) _ _ _ _ (by omega) (by omega) ?_ DR
     rw [AR il, List.map_append, zU, List.map_append]
     exact Dl
   have ZG : ∀ (σ7 : Hp) (ob : Obj), Ext σ6 σ7 → Ext σ6 (σ7.set ib ob) := fun σ7 ob h7 k u hk => by rw [Hp.AF fun e => by rw [e, hib] at hk; cases hk]; exact h7 k u hk
   have AF6 : ∀ g : Bool, (((fs.take (i + 1)).map (E0 Q)).all id = ((((fs.take i).map (E0 Q)).all id) && E0 Q f)) ∧ (((fs.take (i + 1)).map (E0 Q)).any id = ((((fs.take i).map (E0 Q)).any id) || E0 Q f)) := fun _ => by
     rw [AR il]; simp
   suffices H2 : ∀ N : Nat, ∀ (L : List MapEntry) (σ7 : Hp) (k : Nat), L.length = N → Cv σ7 ib x.2 (List.zipWith JV f bs) L clock → Ext σ6 σ7 → L.Sublist (List.zipWith JV f bs) → k + (L.filter dp).length = YI f →
       Aw.Qi R (aD pb 0) p6 n6 c6 (((fs.take i).map (E0 Q)).all id) (((fs.take i).map (E0 Q)).any id) k (aD b o) n c n i (.pointer (some ⟨ib, 0, none⟩)) σ7 from
     H2 _ _ _ 0 rfl PM (.set hib) (List.Sublist.refl _) (by rw [Nat.zero_add]; exact dn fY)
   intro N
   induction N using Nat.strongRecOn with
   | ind N ihN =>
   intro L σ7 k hL PM Ov MI hk
   have hm7 := zS.mono Ov
   refine Aw.Ps (y8.KC hm7 PM (fun h0 => .inl ⟨rfl, ?_⟩) fun e J8 U2 ob aB Z8 => .inr ?_)
   · subst h0
     have hck : k = YI f := by simpa using hk
     refine ⟨pb, 0, rfl, Q, AD (o := 1) (Ov _ _ (hx _ _ hc)) rfl, ?_⟩
     have hd : decide (Q ≤ (k : Int)) = E0 Q f := by rw [hck]; rfl
     obtain ⟨e1, e2⟩ := AF6 true
     refine ⟨fun h5 => ⟨fun h6 => leaf σ7 _ _ _ _ hd ?_ ?_ Ov, fun h6 => leaf σ7 _ _ _ _ hd ?_ ?_ Ov⟩, fun h5 => ⟨fun h6 => leaf σ7 _ _ _ _ hd ?_ ?_ Ov, fun h6 => leaf σ7 _ _ _ _ hd ?_ ?_ Ov⟩⟩
     all_goals first | rw [e1, h5, ← hd] | rw [e2, h6, ← hd]
     all_goals simp
   · obtain ⟨l1, l2, ATz⟩ := List.append_of_mem U2
     obtain ⟨fa, me, y, hfy⟩ : ∃ (j : Nat) (a : Int × Int) (bn : Nat), e = JV a bn := by
       obtain ⟨j, hj⟩ := List.mem_iff_getElem?.1 U2
       rw [List.getElem?_zipWith] at hj
       split at hj
       · cases hj; exact ⟨j, _, _, rfl⟩
       · cases hj
     subst hfy
     have Ad : x.2 ≠ ib := fun e => by rw [← e, zS.1] at hib; cases hib
     have Xb : (L.map (·.born)).Nodup := My.V5.sublist (MI.map _)
     have rb := (Ks Xb J8).filter dp
     have vR := rb.length_eq
     refine ⟨me.1, me.2, rfl, Z8 _ (Hp.AA _ _ _) (Hp.AF Ad) ⟨me.1, me.2, rfl, RY ⟨_, rfl, fun ht => ?_, fun ht => ?_⟩⟩⟩
     · have Ag := Ki J8
       have hke : dp (JV me y) = true := ht
       rw [List.filter_cons, if_pos hke, List.length_cons] at vR
       have eZ : YI f ≤ f.length := List.length_filter_le _ _
       have := ihN _ (by omega) (L.filter fun z => z.born != (JV me y).born) (σ7.set ib ob) (k + 1) rfl (aB _ (Hp.AA _ _ _)) (ZG _ _ Ov) (List.filter_sublist.trans MI) (by omega)
       exact ⟨by unfold AO; omega, this⟩
     · have Ag := Ki J8
       have hke : dp (JV me y) = false := ht
       rw [List.filter_cons, if_neg (by simp [hke])] at vR
       exact ihN _ (by omega) (L.filter fun z => z.born != (JV me y).born) (σ7.set ib ob) k rfl (aB _ (Hp.AA _ _ _)) (ZG _ _ Ov) (List.filter_sublist.trans MI) (by omega)
end
end TwW
end
section
namespace TwW
open Go Tw Go.Proofs.Tryz
theorem AMr : Enters prog 125 := fun args w => Go.Proofs.Tryz.call125 args w
def mz (c5 H6 k m d : Nat) (q : Option Addr) (ms : List Mem) (X : Hp) : Prop :=
 X c5 = some (.cells #[.slice q m d] 213 (0, 0)) ∧ X H6 = some (.cells #[.int .i64 k] 3 (0, 0)) ∧ GS 2 Kc X q m (sorted (Bk ms))
theorem mz.mono {c5 H6 k m d : Nat} {q : Option Addr} {ms : List Mem} {X Y : Hp} (h : Ext X Y) (g : mz c5 H6 k m d q ms X) : mz c5 H6 k m d q ms Y :=
 ⟨h _ _ g.1, h _ _ g.2.1, g.2.2.mono Kc.mono h⟩
theorem dq {B : Hp} {b5 b6 b7 b8 D l : Nat} {rf o7 : Int} {o6 : Value} {q : Option Addr} {n d : Nat} {lo : Loop} (hn : Nd b5 b6 b7 b8 D l) (FA : YH b5 b6 b7 b8 D l B) :
   Hp.ld ((AX B (NV b5 b6 b7 b8 D l rf o6 o7 q n d lo)).set D (.deferred none)) ⟨b6, 0, none⟩ = some o6 ∧ Hp.ld ((AX B (NV b5 b6 b7 b8 D l rf o6 o7 q n d lo)).set D (.deferred none)) ⟨b7, 0, none⟩ = some (.int .i64 o7) ∧
     Ext B ((AX B (NV b5 b6 b7 b8 D l rf o6 o7 q n d lo)).set D (.deferred none)) := by
 have key : (AX B (NV b5 b6 b7 b8 D l rf o6 o7 q n d lo)).set D (.deferred none) = AX B ((NV b5 b6 b7 b8 D l rf o6 o7 q n d lo).set 1 (D, .deferred none)) := P6 (L := NV b5 b6 b7 b8 D l rf o6 o7 q n d lo) (i := 1) hn rfl
 rw [key]
 exact ⟨IJ (i := 4) hn rfl rfl, IJ (i := 3) hn rfl rfl, Hf.ext (L := (NV b5 b6 b7 b8 D l rf o6 o7 q n d lo).set 1 (D, .deferred none)) hn FA⟩
theorem sX {ids : List Int} {j : Nat} {x : Int} (hx : ids[j]? = some x) : dd [] (ids.take (j + 1)) = if x ∈ dd [] (ids.take j) then dd [] (ids.take j) else dd [] (ids.take j) ++ [x] := by
 rw [AR hx, ae]; rfl
structure AMs (ms : List Mem) (hash rf : Int) (σ : Hp) (Φ : Option Addr → Nat → Nat → Int → Hp → Prop) : Prop where
 bad : ¬ (LV ms ∧ 1 ≤ rf ∧ rf ≤ 5) → Φ none 0 0 130 σ
 vU : LV ms → 1 ≤ rf → rf ≤ 5 → ((CE ms).length : Int) < rf → Φ none 0 0 133 σ
 ok : LV ms → 1 ≤ rf → rf ≤ 5 → ∀ k : Nat, rf = k → k ≤ (CE ms).length → ∀ q d σ', AS .i64 (σ.new σ') q k d ((round ms hash).take k) → Ext σ σ' → Φ q k d 0 σ'
theorem Si {R : Rr} {σ : Hp} {e hash rf : Int} {p : Option Addr} {n c : Nat} {ms : List Mem} (hr : Pa σ p n ms) (hs : Small ms)
   (h : AMs ms hash rf σ fun q k d code σ' => R (.returned (.tuple #[.slice q k d, .int .i64 code])) σ') : Spec prog 23 #[GL e p n c, .int .u32 hash, .int .i64 rf] σ R := by
 refine Spec.drop (DU.start fun b5 XT b6 hb6 b7 hb7 => ?_)
 obtain ⟨n65, AMt⟩ := Hp.AL hb6
 obtain ⟨n76, AMu⟩ := Hp.AL hb7
 obtain ⟨n75, AF7⟩ := Hp.AL AMu
 let L3 : Int → List (Nat × Obj) := fun o7 => [(b7, .cells #[.int .i64 o7] 67 (0, 0)), (b6, .cells #[.slice none 0 0] 26 (0, 0)), (b5, .cells #[.int .i64 rf] 3 (0, 0))]
 have vZ : ∀ o7, (names (L3 o7)).Nodup := fun o7 => by simp [L3, names]; omega
 have Dl : ∀ o7, Hf (L3 o7) σ := fun o7 b hb => by
   simp [L3, names] at hb
   rcases hb with rfl | rfl | rfl
   · exact AF7
   · exact AMt
   · exact XT
 have DR : ∀ o7, Ext σ (AX σ (L3 o7)) := fun o7 => Hf.ext (vZ o7) (Dl o7)
 have KU : ¬ (LV ms ∧ 1 ≤ rf ∧ rf ≤ 5) → AJ prog (Instr.storeAt 26 (.pointer (some ⟨b6, 0, none⟩)) (.slice none 0 0)) (AX σ (L3 0)) (fun _ Bb => AJ prog (Instr.storeAt 67 (.pointer (some ⟨b7, 0, none⟩)) (.int .i64 130)) Bb (fun _ BE => ∃ Rv : Option Addr, ∃ Rx : Nat, ∃ Ry : Nat, ∃ Rz : Int, Hp.ld BE ⟨b6, 0, none⟩ = some (.slice Rv Rx Ry) ∧ Hp.ld BE ⟨b7, 0, none⟩ = some (.int .i64 Rz) ∧ Drop R (.returned (.tuple #[(.slice Rv Rx Ry), (.int .i64 Rz)])) BE)) := fun hb => by
   refine AJ.B4 (i := 1) (c := #[.slice none 0 0]) Py (vZ 0) rfl rfl rfl rfl rfl ?_
   refine AJ.B4 (i := 0) (c := #[.int .i64 0]) ai (vZ 0) rfl rfl rfl rfl rfl ?_
   exact ⟨none, 0, 0, 130, IJ (L := L3 130) (i := 1) (vZ 130) rfl rfl, IJ (L := L3 130) (i := 0) (vZ 130) rfl rfl, .mk (DR 130) (h.bad hb)⟩
 show Spec prog 54 #[GL e p n c] (AX σ (L3 0)) _
 refine MM (hr.RH (DR 0)) hs ⟨_, rfl, fun Ad => KU fun hb => Ad (by simp [PT, hb.1]), fun heq => ⟨rf, IJ (i := 2) (vZ 0) rfl rfl, fun h1 => KU fun hb => by omega, fun h1 => ⟨rf, IJ (i := 2) (vZ 0) rfl rfl, fun h2 => KU fun hb => by omega, fun h2 b8 hb8 => ?_⟩⟩⟩
 have Au : LV ms := Decidable.byContradiction fun hn => heq (by simp [PT, hn])
 have hlen := Au.len
 obtain ⟨k0, rfl⟩ : ∃ k : Nat, rf = k := ⟨rf.toNat, by omega⟩
 obtain ⟨n8, AMv⟩ := B3 hb8
 let L4 : List (Nat × Obj) := (b8, .cells #[.slice none 0 0] 26 (0, 0)) :: L3 0
 have Y9 : (names L4).Nodup := List.nodup_cons.2 ⟨n8, vZ 0⟩
 have Pv : Hf L4 σ := fun b hb => by
   rcases List.mem_cons.1 hb with rfl | hb
   · exact AMv
   · exact Dl 0 b hb
 show Spec prog 55 #[GL e p n c, .int .u32 hash] (AX σ L4) _
 refine Spec.CH Y9 Pv (YD hr Au fun c5v H6 cq m cd τ k hc5 zW iz fj HM hk R8 hhi FA => ⟨_, rfl, 125, _, rfl, AMr, fun D l r0 hDl hD hl hy => ?_⟩)
 generalize hB0 : (c5 τ c5v cq m cd).set H6 (.cells #[.int .i64 k] 3 (0, 0)) = B0 at *
 obtain ⟨nD, hDB⟩ := B3 hD
 obtain ⟨nl, hlB⟩ := B3 hl
 have nA : Nd b5 b6 b7 b8 D l := by
   simp only [L4, L3, names, List.map_cons, List.map_nil, List.mem_cons, List.not_mem_nil, or_false, not_or] at nD nl n8
   unfold Nd
   simp only [List.nodup_cons, List.mem_cons, List.not_mem_nil, or_false, not_or, List.nodup_nil, not_false_eq_true, and_true]
   omega
 have AF8 : YH b5 b6 b7 b8 D l B0 := fun b hb => by
   simp only [List.mem_cons, List.not_mem_nil, or_false] at hb
   rcases hb with rfl | rfl | rfl | rfl | rfl | rfl
   · exact hlB
   · exact hDB
   · exact FA b (by simp [L4, L3, names])
   · exact FA b (by simp [L4, L3, names])
   · exact FA b (by simp [L4, L3, names])
   · exact FA b (by simp [L4, L3, names])
 have AMw : Ext σ B0 := by
   rw [← hB0]
   exact fj.trans ((Ext.set hc5).trans (.set (Hp.BD iz.symm zW)))
 have zX : mz c5v H6 k m cd cq ms (σ.new B0) := by
   have hs5 : σ c5v = none := A4 fj hc5
   have AMx : σ H6 = none := A4 fj zW
   refine ⟨AQ.2 ⟨hs5, ?_⟩, AQ.2 ⟨AMx, ?_⟩, HM.mono Kc.mono (Ext.BV ?_)⟩
   · rw [← hB0, Hp.AF iz]; exact Hp.AA _ _ _
   · rw [← hB0]; exact Hp.AA _ _ _
   · rw [← hB0]; exact (Ext.set hc5).trans (.set (Hp.BD iz.symm zW))
 have hm : (sorted (Bk ms)).length = m := HM.1
 have zY : m ≤ 1024 := by
   have h1 := Kz ms 64 (fun x hx => (Au.1 x hx).2.2.2.2.2.1)
   rw [Dy] at hm; omega
 have dJ := T4 (hash := hash) Au
 let YU := (Se ms hash).map Prod.snd
 have AT3 : YU.length = m := by simp [YU, mZ, ← hm, Dy]
 have VX : ∀ {B : Hp} (o6 : Value) (o7 : Int) (q : Option Addr) (n d : Nat) (lo : Loop), YH b5 b6 b7 b8 D l B → Ext B (AX B (NV b5 b6 b7 b8 D l k0 o6 o7 q n d lo)) := fun o6 o7 q n d lo ho => Hf.ext (L := NV b5 b6 b7 b8 D l k0 o6 o7 q n d lo) nA ho
 rw [show (#[.func (.yield l) #[] #[]] ++ #[.pointer (some ⟨c5v, 0, none⟩), .pointer (some ⟨H6, 0, none⟩)] : Array Value) = #[.func (.yield l) #[] #[], .pointer (some ⟨c5v, 0, none⟩), .pointer (some ⟨H6, 0, none⟩)] from rfl]
 show Spec prog 125 _ (AX B0 (NV b5 b6 b7 b8 D l k0 (.slice none 0 0) 0 none 0 0 (lp r0 .ready none))) _
 refine VT (hash := hash) (q := cq) (d := cd) (ms := ms) (I := fun j σ' => ∃ B qo no d out, σ' = AX B (NV b5 b6 b7 b8 D l k0 (.slice none 0 0) 0 qo no d (lp r0 .ready none)) ∧ YH b5 b6 b7 b8 D l B ∧ Ext σ B ∧ AS .i64 (σ.new B) qo no d out ∧ out = dd [] (YU.take j) ∧ no < k0 ∧ mz c5v H6 k m cd cq ms ((σ.new B).del qo))
   (S := fun σ' => ∃ B qo d, σ' = AX B (NV b5 b6 b7 b8 D l k0 (.slice qo k0 d) 0 qo k0 d (lp r0 .done (some .ret))) ∧ YH b5 b6 b7 b8 D l B ∧ Ext σ B ∧ AS .i64 (σ.new B) qo k0 d ((round ms hash).take k0) ∧ k0 ≤ (round ms hash).length) hm zY hk R8 hhi ?_ ?_ ?_ ?_ ?_
 · rintro j _ ⟨B, qo, no, d, out, rfl, zZ, gx, ho, Fc, Be, hC⟩
   have hC := hC.mono (((Ext.GR (σ.new B) qo).trans (Ext.Af σ B)).trans (VX (.slice none 0 0) 0 qo no d (lp r0 .ready none) zZ))
   exact ⟨by simp [Hp.ld, hC.1], by simp [Hp.ld, hC.2.1], hC.2.2⟩
 · rintro j _ s ⟨B, qo, no, d, out, rfl, zZ, gx, ho, Fc, Be, hC⟩ hs
   have AMy : YU[j]? = some s.2 := by simp [YU, hs]
   have OK := sX AMy
   have hol : out.length = no := ho.rd.1
   refine hy _ _ s.2 (B7 (i := 0) nA rfl) (aj nA zZ gx ho Be (by omega) (fun q' n' d' B' Ke Ff PU Ag T6 Cc EN jK => .inl ⟨rfl, B', q', n', d', Ke, rfl, T6, Cc, EN, ?_, Ag, hC.mono jK⟩) fun q' d' B' Ke Ff PU T6 Cc EN => .inr ⟨rfl, B', q', d', rfl, T6, Cc, ?_, ?_⟩)
   · rw [Ff, OK, Fc]
   all_goals
     have AF9 : Ke = dd [] (YU.take (j + 1)) := by rw [Ff, OK, Fc]
     obtain ⟨E, hE⟩ := ad (YU.drop (j + 1)) Ke
     have UU : round ms hash = Ke ++ E := by
       rw [← hE, AF9, ← ae, List.take_append_drop]; rfl
   · have ht : (round ms hash).take k0 = Ke := by rw [UU, PU, List.take_left]
     rw [ht]; exact EN
   · rw [UU, PU]; simp
 · rintro _ ⟨B, qo, no, d, out, rfl, zZ, gx, ho, Fc, Be, hC⟩
   rw [List.take_of_length_le (by omega)] at Fc
   have hol : out.length = no := ho.rd.1
   have hfew : (CE ms).length < k0 := by rw [← dJ]; show (dd [] YU).length < k0; rw [← Fc]; omega
   refine ⟨_, .ready, none, rfl, B7 (i := 0) nA rfl, by decide, .inl ⟨rfl, ?_⟩⟩
   rw [Kd]
   refine AJ.B4 (i := 4) (c := #[.slice none 0 0]) Py nA rfl rfl rfl rfl rfl ?_
   refine AJ.B4 (i := 3) (c := #[.int .i64 0]) ai nA rfl rfl rfl rfl rfl ?_
   obtain ⟨e1, e2, e3⟩ := dq (B := B) (rf := k0) (o7 := 133) (o6 := .slice none 0 0) (q := qo) (n := no) (d := d) (lo := lp r0 .exhausted none) nA zZ
   exact ⟨none, 0, 0, 133, B7 (i := 1) nA rfl, e1, e2, .mk (gx.trans e3) (h.vU Au (by omega) (by omega) (by omega))⟩
 · rintro _ ⟨B, qo, d, rfl, zZ, gx, ho, hle⟩
   refine ⟨_, .done, some .ret, rfl, B7 (i := 0) nA rfl, by decide, .inr ⟨rfl, ?_⟩⟩
   rw [Kd]
   obtain ⟨e1, e2, e3⟩ := dq (B := B) (rf := k0) (o7 := 0) (o6 := .slice qo k0 d) (q := qo) (n := k0) (d := d) (lo := lp r0 .exhausted (some .ret)) nA zZ
   exact ⟨qo, k0, d, 0, B7 (i := 1) nA rfl, e1, e2, .mk e3 (h.ok Au (by omega) (by omega) k0 rfl (by omega) qo d B ho gx)⟩
 · exact ⟨B0, none, 0, 0, [], rfl, AF8, AMw, AS.nil, by simp [dd], by omega, zX⟩
end TwW
end
section
namespace TwW
open Go Tw Go.Proofs.Tryz
def un (x : Int) : Nat := (IntKind.u64.wrap x).toNat
theorem Bs (x : Int) : IntKind.u64.wrap x = ((un x : Nat) : Int) ∧ un x < 18446744073709551616 := by
 unfold un
 simp [IntKind.wrap, IntKind.bits, IntKind.signed]; omega
theorem NH {x : Int} (h0 : 0 ≤ x) (h1 : x < 18446744073709551616) : un x = x.toNat := by
 unfold un
 simp [IntKind.wrap, IntKind.bits, IntKind.signed]; omega
def LW (ts : List Int) : List Int := ts.flatMap fun t => uv (un t)
def I5 (m : Mem) : List Int := uv (un m.id) ++ uv (un m.state) ++ uv (un m.B8.length) ++ LW m.B8
def enc (e : Nat) (ms : List Mem) : List Int := uv e ++ uv (un ms.length) ++ ms.flatMap I5
theorem NI (x : Int) : (uv (un x)).length ≤ 10 := BF (Bs x).2
theorem YV : ∀ ts : List Int, (LW ts).length ≤ 10 * ts.length
 | [] => by simp [LW]
 | t :: ts => by
   have := YV ts
   have h2 := NI t
   simp only [LW, List.flatMap_cons, List.length_append, List.length_cons] at *
   omega
theorem nB {m : Mem} (h : m.B8.length ≤ 64) : (I5 m).length ≤ 670 := by
 have h1 := YV m.B8
 have h2 := NI m.id
 have h3 := NI m.state
 have h4 := NI m.B8.length
 simp only [I5, List.length_append]; omega
theorem UC : ∀ ms : List Mem, (∀ m ∈ ms, m.B8.length ≤ 64) → (ms.flatMap I5).length ≤ 670 * ms.length
 | [], _ => by simp
 | m :: ms, h => by
   have h1 := UC ms (fun x hx => h x (List.mem_cons_of_mem _ hx))
   have h2 := nB (h m (List.mem_cons_self ..))
   simp only [List.flatMap_cons, List.length_append, List.length_cons]; omega
theorem gy {ts : List Int} {k : Nat} {t : Int} (h : ts[k]? = some t) : LW (ts.take (k + 1)) = LW (ts.take k) ++ uv (un t) := by
 simp [LW, AR h]
theorem bC {ms : List Mem} {i : Nat} {m : Mem} (h : ms[i]? = some m) : (ms.take (i + 1)).flatMap I5 = (ms.take i).flatMap I5 ++ I5 m := by
 rw [show ms.take (i + 1) = ms.take i ++ [m] by simp [List.take_add_one, h]]; simp
section
variable {R : Rr} {σ0 σ : Hp} {p : Option Addr} {n c : Nat} {xs : List Int}
theorem hJ (h0 : Ext σ0 σ) (ho : AS .u8 (σ0.new σ) p n c xs) (hn : n ≤ 1000000) {y : Int} {x : Nat} (hy : y = (x : Nat)) (hx : x < 18446744073709551616)
   (h : ∀ p' n' c' σ', AS .u8 (σ0.new σ') p' n' c' (xs ++ uv x) → n' ≤ n + 10 → Ext σ0 σ' → Ext σ σ' → R (.returned (.slice p' n' c')) σ') : Spec prog 99 #[.slice p n c, .int .u64 y] σ R := by
 subst hy
 refine Ce (ho.rd.mono (Ext.Af _ _)) (by omega) hx fun p' n' c' σ' EN Cc => h p' n' c' σ' (Own.mono (Ext.CW h0) EN) ?_ (h0.trans Cc) Cc
 have h1 := EN.rd.1
 have h2 := ho.rd.1
 have := BF hx
 rw [List.length_append] at h1; omega
end
structure AMz (e : Nat) (ms : List Mem) (σ : Hp) (Φ : Option Addr → Nat → Nat → Int → Hp → Prop) : Prop where
 bad : ¬ LV ms → Φ none 0 0 130 σ
 ok : LV ms → ∀ p n c σ', AS .u8 (σ.new σ') p n c (enc e ms) → Ext σ σ' → Φ p n c 0 σ'
theorem O5 {R : Rr} {σ : Hp} {e : Nat} {p : Option Addr} {n c : Nat} {ms : List Mem} (hr : Pa σ p n ms) (hs : Small ms) (he : e < 18446744073709551616)
   (h : AMz e ms σ fun p' n' c' code σ' => R (.returned (.tuple #[.slice p' n' c', .int .i64 code])) σ') : Spec prog 44 #[GL e p n c] σ R := by
 have hn : ms.length = n := hr.1
 refine Bc.start fun _ => MM hr hs ⟨_, rfl, fun Ad => ?_, fun heq Po sK => ?_⟩
 · have : ¬ LV ms := fun Au => Ad (by simp [PT, Au])
   have hb := h.bad this
   simpa [PT, this] using hb
 have Au : LV ms := Decidable.byContradiction fun hn => heq (by simp [PT, hn])
 have hlen := Au.len
 have h64 : ∀ m ∈ ms, m.B8.length ≤ 64 := fun m hm => (Au.1 m hm).2.2.2.2.2.1
 have AM0 : Po = ((un ms.length : Nat) : Int) := by rw [sK, ← hn]; exact (Bs _).1
 refine hJ (.refl σ) (AS.nil (k := .u8)) (by omega) rfl he fun p1 n1 c1 σ1 Ff PU BH _ => ⟨_, _, _, rfl, ?_⟩
 refine hJ BH Ff (by omega) AM0 (Bs _).2 fun p2 n2 c2 σ2 B1 NT An _ => ⟨_, _, _, rfl, ?_⟩
 suffices H : ∀ g i : Nat, ∀ q j d τ, n - i = g → i ≤ n → Ext σ τ → j ≤ 20 + 670 * i → AS .u8 (σ.new τ) q j d (uv e ++ uv (un ms.length) ++ (ms.take i).flatMap I5) → Bc.JL R q j d p n c n i τ from
   H n 0 p2 n2 c2 σ2 rfl (by omega) An (by omega) (by simpa using B1)
 intro g
 induction g with
 | zero =>
   intro i q j d τ hg hi hx hj ho
   refine Bc.Gm ⟨fun Ag => by omega, fun _ => ?_⟩
   rw [List.take_of_length_le (by omega)] at ho
   exact h.ok Au q j d τ ho hx
 | succ g ih =>
   intro i q j d τ hg hi hx hj ho
   obtain ⟨m, hm⟩ := hr.ex (k := i) (by omega)
   obtain ⟨b, o, q1, j1, d1, rfl, hl, ht⟩ := hr.at' hm
   have gp := Au.1 m (List.mem_of_getElem? hm)
   have AT5 := h64 m (List.mem_of_getElem? hm)
   have UR : m.B8.length = j1 := ht.1
   refine Bc.Gm ⟨fun _ => ⟨b, o, rfl, by omega, m.id, m.state, q1, j1, d1, by simpa using hl.mono hx, fun _ Ny AM1 => ?_⟩, fun F8 => by omega⟩
   have AGA : Ext τ (τ.set Ny (.cells #[.int .i64 m.id, .int .i64 m.state, .int .i64 (j1 : Nat)] 3 (0, 0))) := .set AM1
   dsimp only
   generalize hX : τ.set Ny (.cells #[.int .i64 m.id, .int .i64 m.state, .int .i64 (j1 : Nat)] 3 (0, 0)) = τ3 at *
   have g0 : Hp.ld τ3 ⟨Ny, 0 + Int.toNat 0 * 1, none⟩ = some (.int .i64 m.id) := by rw [← hX]; exact Ac rfl
   have g1 : Hp.ld τ3 ⟨Ny, 0 + Int.toNat (0 + 1) * 1, none⟩ = some (.int .i64 m.state) := by rw [← hX]; exact Ac rfl
   have g2 : Hp.ld τ3 ⟨Ny, 0 + Int.toNat (0 + 1 + 1) * 1, none⟩ = some (.int .i64 (j1 : Nat)) := by rw [← hX]; exact Ac rfl
   have Dl : AS .u8 (σ.new τ3) q j d _ := Own.mono (Ext.BV AGA) ho
   refine Bc.JO ⟨fun _ => ⟨Ny, 0, rfl, by omega, _, g0, fun SJ hY => ?_⟩, fun F8 => by omega⟩
   refine hJ (hx.trans AGA) Dl (by omega) (hY.trans (Bs _).1) (Bs _).2 fun q2 j2 d2 τ4 Pv oA Kt AGB => ⟨_, _, _, rfl, by unfold AO; omega, ?_⟩
   refine Bc.JO ⟨fun _ => ⟨Ny, 0, rfl, by omega, _, AGB.ld g1, fun SJ hY => ?_⟩, fun F8 => by omega⟩
   refine hJ Kt Pv (by omega) (hY.trans (Bs _).1) (Bs _).2 fun q3 j3 d3 τ5 ix hj3 SU AM2 => ⟨_, _, _, rfl, by unfold AO; omega, ?_⟩
   refine Bc.JO ⟨fun _ => ⟨Ny, 0, rfl, by omega, _, (AGB.trans AM2).ld g2, fun SJ hY => ?_⟩, fun F8 => by omega⟩
   refine hJ SU ix (by omega) (hY.trans (Bs _).1) (Bs _).2 fun q4 j4 d4 τ6 ho6 hj4 LU AT6 => ⟨_, _, _, rfl, by unfold AO; omega, ?_⟩
   refine Bc.JO ⟨fun Ag => by omega, fun _ => ?_⟩
   suffices H2 : ∀ g2 k : Nat, ∀ q j d τ, j1 - k = g2 → k ≤ j1 → Ext σ τ → j ≤ 20 + 670 * i + 30 + 10 * k → AS .u8 (σ.new τ) q j d (uv e ++ uv (un ms.length) ++ (ms.take i).flatMap I5 ++ uv (un m.id) ++ uv (un m.state) ++ uv (un (j1 : Nat)) ++ LW (m.B8.take k)) →
       Bc.qa R q j d (some ⟨b, o, none⟩) n c n i q1 j1 d1 j1 k τ from H2 j1 0 q4 j4 d4 τ6 rfl (by omega) LU (by omega) (by simpa [LW] using ho6)
   intro g2
   induction g2 with
   | zero =>
     intro k q j d τ hg2 hk hx hj ho
     refine Bc.cn ⟨fun Ag => by omega, fun _ => ⟨by unfold AO; omega, ih (i + 1) q j d τ (by omega) (by omega) hx (by omega) ?_⟩⟩
     rw [List.take_of_length_le (show m.B8.length ≤ k by omega)] at ho
     rw [bC hm, I5, UR]
     simpa using ho
   | succ g2 sL =>
     intro k q j d τ hg2 hk hx hj ho
     obtain ⟨t, M8⟩ := ht.ex (k := k) (by omega)
     obtain ⟨b2, o2, rfl, SX⟩ := ht.at M8
     refine Bc.cn ⟨fun _ => ⟨b2, o2, rfl, by omega, t, by simpa using hx.ld SX, fun pe AM3 => ?_⟩, fun F8 => by omega⟩
     refine hJ hx ho (by omega) (AM3.trans (Bs _).1) (Bs _).2 fun q' j' d' τ' EN UQ Cc _ => ⟨_, _, _, rfl, Ah (by omega) ht.big, sL (k + 1) q' j' d' τ' (by omega) (by omega) Cc (by omega) ?_⟩
     rw [gy M8]
     simpa using EN
end TwW
end
section
namespace TwW
open Go Tw Go.Proofs.Tryz
theorem AM4 {x y : Int} (hx : 0 ≤ x ∧ x < 256) (hy : 0 ≤ y ∧ y < 256) (h : UInt8.ofNat x.toNat = UInt8.ofNat y.toNat) : x = y := by
 have := congrArg UInt8.toNat h
 simp at this
 omega
theorem AGC : ∀ (xs ys : List Int), E8 xs → E8 ys → xs.map (fun n => UInt8.ofNat n.toNat) = ys.map (fun n => UInt8.ofNat n.toNat) → xs = ys
 | [], [], _, _, _ => rfl
 | [], y :: ys, _, _, h => by simp at h
 | x :: xs, [], _, _, h => by simp at h
 | x :: xs, y :: ys, hx, hy, h => by
   simp only [List.map_cons, List.cons.injEq] at h
   rw [AM4 (hx x (List.mem_cons_self ..)) (hy y (List.mem_cons_self ..)) h.1, AGC xs ys (fun a ha => hx a (List.mem_cons_of_mem _ ha)) (fun a ha => hy a (List.mem_cons_of_mem _ ha)) h.2]
theorem za {xs ys : List Int} (hx : E8 xs) (hy : E8 ys) : ((strOfNums xs).toList == (strOfNums ys).toList) = decide (xs = ys) := by
 rw [ByteArray.toList_eq, ByteArray.toList_eq, strOfNums_data, strOfNums_data]
 by_cases h : xs = ys
 · subst h; simp
 · rw [decide_eq_false h]
   have : xs.map (fun n => UInt8.ofNat n.toNat) ≠ ys.map (fun n => UInt8.ofNat n.toNat) := fun e => h (AGC xs ys hx hy e)
   simpa using this
theorem Pb {R : Rr} {σ : Hp} {p q : Option Addr} {n c m d : Nat} {xs ys : List Int} (hr : CA .u8 σ p n xs) (hs : CA .u8 σ q m ys) (hx : E8 xs) (hy : E8 ys) (h : R (.returned (.bool (decide (xs = ys)))) σ) :
   Spec prog 196 #[.slice p n c, .slice q m d] σ R :=
 bytes_Equal.start (GK hr ⟨_, rfl, GK hs ⟨_, rfl, by dsimp only; rw [za hx hy]; exact h⟩⟩)
theorem UD {x : Nat} (h : x < 18446744073709551616) : E8 (uv x) := KT 9 x (by omega)
theorem YW {α : Type} {f : α → List Int} : ∀ (l : List α), (∀ x ∈ l, E8 (f x)) → E8 (l.flatMap f) := fun l h a ha => by
 obtain ⟨x, hx, zN⟩ := List.mem_flatMap.1 ha
 exact h x hx a zN
theorem P0 {e : Nat} {ms : List Mem} (he : e < 18446744073709551616) : E8 (enc e ms) :=
 BO (BO (UD he) (UD (Bs _).2)) (YW ms fun m _ => BO (BO (BO (UD (Bs _).2) (UD (Bs _).2)) (UD (Bs _).2)) (YW m.B8 fun t _ => UD (Bs _).2))
def Tr (bs : List Int) (e : Nat) (ms : List Mem) : Prop := bs = enc e ms ∧ LV ms ∧ (∀ m ∈ ms, ∀ t ∈ m.B8, oh t) ∧ e < 18446744073709551616
structure AM5 (bs : List Int) (σ : Hp) (Φ : Int → Option Addr → Nat → Nat → Int → Hp → Prop) : Prop where
 bad : (∀ e ms, ¬ Tr bs e ms) → Φ 0 none 0 0 130 σ
 ok : ∀ (e : Nat) ms p n c σ', Tr bs e ms → (∀ e0 E3, Tr bs e0 E3 → e = e0 ∧ ms = E3) → Pa (σ.new σ') p n ms → Ext σ σ' → Φ e p n c 0 σ'
abbrev Pc (b1 b4 b5 : Nat) (p : Option Addr) (n c : Nat) (i : Nat) (bad : Bool) : List (Nat × Obj) :=
 [(b5, .cells #[.bool bad] 4 (0, 0)), (b4, .cells #[.int .i64 i] 3 (0, 0)), (b1, .cells #[.slice p n c] 84 (0, 0))]
def N3 (b1 b4 b5 : Nat) : Prop := [b5, b4, b1].Nodup
def O3 (b1 b4 b5 : Nat) (τ : Hp) : Prop := ∀ b ∈ [b5, b4, b1], τ b = none
theorem Ls.Y7 {bs : List Int} {n i : Nat} {Φ : Int → Int → Int → Prop} (fY : bs.length = n) (h1 : (∀ w, ¬ Iu bs i w) → ∀ code : Int, code ≠ 0 → Φ 0 0 code)
   (h2 : ∀ v t : Nat, i < t → t ≤ n → v < 18446744073709551616 → (∀ w, Iu bs i w → v = w ∧ t = i + (uv w).length) → Φ v t 0) : Ls bs i Φ := ⟨h1, fun v hv => by
 refine h2 v (i + (uv v).length) (by have := N8 v; omega) ?_ hv.1 fun w hw => ?_
 · obtain ⟨_, rest, hd⟩ := hv
   have := N8 v
   have h3 := congrArg List.length hd
   simp only [List.length_drop, List.length_append] at h3
   omega
 · obtain rfl := hv.uniq hw
   exact ⟨rfl, rfl⟩⟩
theorem VY {R : Rr} {τ : Hp} {b1 b4 b5 n c i : Nat} {p : Option Addr} {bad : Bool} {bs : List Int} {Pd : Nat} (hn : N3 b1 b4 b5) (ho : O3 b1 b4 b5 τ) (hr : CA .u8 τ p n bs) (h8 : E8 bs) (hi : i ≤ n)
   (h : ∀ (x j : Nat) (SQ : Bool), j ≤ n → x ≤ Pd → x < 18446744073709551616 → (∀ w, Iu bs i w → bad = false → w ≤ Pd → x = w ∧ j = i + (uv w).length ∧ SQ = false) → R (.returned (.int .u64 x)) (AX τ (Pc b1 b4 b5 p n c j SQ))) :
   Spec prog 195 #[.int .u64 Pd, .pointer (some ⟨b1, 0, none⟩), .pointer (some ⟨b4, 0, none⟩), .pointer (some ⟨b5, 0, none⟩)] (AX τ (Pc b1 b4 b5 p n c i bad)) R := by
 have hx : Ext τ (AX τ (Pc b1 b4 b5 p n c i bad)) := Hf.ext (L := Pc b1 b4 b5 p n c i bad) hn ho
 have KU : ∀ j : Int, ((∀ w, Iu bs i w → bad = false → w ≤ Pd → False)) → AJ prog (Instr.storeAt 4 (.pointer (some ⟨b5, 0, none⟩)) (.bool true)) (AX τ (Pc b1 b4 b5 p n c i bad)) (fun _ Bb => ∃ t26 : Bool, Hp.ld Bb ⟨b5, 0, none⟩ = some (.bool t26) ∧ (t26 = true → R (.returned (.int .u64 0)) Bb) ∧ (t26 = false → AJ prog (Instr.storeAt 3 (.pointer (some ⟨b4, 0, none⟩)) (.int .i64 j)) Bb (fun _ BE => R (.returned (.int .u64 0)) BE))) := fun j Be => by
   refine AJ.B4 (i := 0) (c := #[.bool bad]) Jk hn rfl rfl rfl rfl rfl ?_
   exact ⟨true, IJ (L := Pc b1 b4 b5 p n c i true) (i := 0) hn rfl rfl, fun _ => h 0 i true hi (by omega) (by omega) (fun w h1 h2 h3 => (Be w h1 h2 h3).elim), fun hf => by cases hf⟩
 refine Ln.start ⟨p, n, c, IJ (i := 2) hn rfl rfl, i, IJ (i := 1) hn rfl rfl, Gy (hr.mono hx) h8 hi (Ls.Y7 hr.1 (fun Be code hc => ⟨0, 0, code, rfl, bad, IJ (i := 0) hn rfl rfl, fun _ => KU 0 (fun w h1 _ _ => Be w h1), fun _ => ⟨fun _ => KU 0 (fun w h1 _ _ => Be w h1), fun h0 => absurd hc h0⟩⟩) fun v tt Ag hle hv hu => ⟨v, tt, 0, rfl, bad, IJ (i := 0) hn rfl rfl, fun hb => ?_, fun hb => ⟨fun h0 => absurd rfl h0, fun _ => ?_⟩⟩)⟩
 · refine AJ.B4 (i := 0) (c := #[.bool bad]) Jk hn rfl rfl rfl rfl rfl ?_
   exact ⟨true, IJ (L := Pc b1 b4 b5 p n c i true) (i := 0) hn rfl rfl, fun _ => h 0 i true hi (by omega) (by omega) (fun w h1 h2 h3 => by rw [hb] at h2; cases h2), fun hf => by cases hf⟩
 · refine AJ.B4 (i := 0) (c := #[.bool bad]) (c' := #[.bool (decide (((Pd : Nat) : Int) < ((v : Nat) : Int)))]) Jk hn rfl rfl rfl rfl rfl ?_
   refine ⟨decide (((Pd : Nat) : Int) < ((v : Nat) : Int)), IJ (L := Pc b1 b4 b5 p n c i _) (i := 0) hn rfl rfl, fun ht => ?_, fun hf => ?_⟩
   · exact h 0 i _ hi (by omega) (by omega) (fun w h1 h2 h3 => by
       have := (hu w h1).1
       simp at ht; omega)
   · refine AJ.B4 (L := Pc b1 b4 b5 p n c i (decide (((Pd : Nat) : Int) < ((v : Nat) : Int)))) (i := 1) (c := #[.int .i64 i]) (c' := #[.int .i64 tt]) X8 hn rfl rfl rfl rfl rfl ?_
     have hvm : v ≤ Pd := by simp at hf; omega
     exact h v tt _ hle hvm hv (fun w h1 h2 h3 => ⟨(hu w h1).1, (hu w h1).2, hf⟩)
end TwW
end
section
namespace TwW
open Go Tw Go.Proofs.Tryz
theorem VZ : Enters prog 195 := fun args w => Go.Proofs.Tryz.call195 args w
theorem w64 {x : Nat} (h : x < 9223372036854775808) {y : Int} (hy : y = IntKind.i64.wrap (x : Int)) : y = (x : Int) := by
 rw [hy]; simp [IntKind.wrap, IntKind.bits, IntKind.signed]; omega
theorem cJ (x : Nat) {y : Int} (hy : y = IntKind.u32.wrap (x : Int)) : oh y ∧ (x < 4294967296 → y = (x : Int)) := by
 rw [hy]; unfold oh; simp [IntKind.wrap, IntKind.bits, IntKind.signed]; omega
theorem va {x : Nat} (h : 0 < x) (h2 : x < 18446744073709551616) {y : Int} (hy : y = IntKind.u64.wrap ((x : Int) - 1)) : y = ((x - 1 : Nat) : Int) := by
 rw [hy]; simp [IntKind.wrap, IntKind.bits, IntKind.signed]; omega
theorem nC {x : Nat} (h : x < 18446744073709551616) : un (x : Int) = x := by rw [NH (by omega) (by omega)]; rfl
theorem hZ {ms : List Mem} {i : Nat} {m : Mem} (h : ms[i]? = some m) : (ms.drop i).flatMap I5 = I5 m ++ (ms.drop (i + 1)).flatMap I5 := by
 obtain ⟨Ag, heq⟩ := List.getElem?_eq_some_iff.1 h
 rw [List.drop_eq_getElem_cons Ag, heq]; simp
theorem iA {ts : List Int} {k : Nat} {t : Int} (h : ts[k]? = some t) : LW (ts.drop k) = uv (un t) ++ LW (ts.drop (k + 1)) := by
 obtain ⟨Ag, heq⟩ := List.getElem?_eq_some_iff.1 h
 rw [List.drop_eq_getElem_cons Ag, heq]; simp [LW]
theorem AM6 {bs rest : List Int} {j w : Nat} (hw : w < 18446744073709551616) (h : bs.drop j = uv w ++ rest) : Iu bs j w ∧ bs.drop (j + (uv w).length) = rest :=
 ⟨⟨hw, rest, h⟩, by rw [← List.drop_drop, h, List.drop_left]⟩
theorem nE {a b : Mem} (h1 : a.id = b.id) (h2 : a.state = b.state) (h3 : a.B8 = b.B8) : a = b := by cases a; cases b; simp_all
instance : DecidableEq Mem := fun a b => if h : a.id = b.id ∧ a.state = b.state ∧ a.B8 = b.B8 then .isTrue (nE h.1 h.2.1 h.2.2) else .isFalse fun e => h (by subst e; exact ⟨rfl, rfl, rfl⟩)
theorem iB {R : Rr} {τ : Hp} {b1 b4 b5 n c i : Nat} {p : Option Addr} {bad : Bool} {bs : List Int} (Pd : Nat) {mi : Int} (uq : mi = (Pd : Nat)) (hn : N3 b1 b4 b5) (ho : O3 b1 b4 b5 τ) (hr : CA .u8 τ p n bs) (h8 : E8 bs) (hi : i ≤ n)
   (h : ∀ (x j : Nat) (SQ : Bool), j ≤ n → x ≤ Pd → x < 18446744073709551616 → (∀ w rest, bs.drop i = uv w ++ rest → w < 18446744073709551616 → bad = false → w ≤ Pd → x = w ∧ SQ = false ∧ bs.drop j = rest) → R (.returned (.int .u64 x)) (AX τ (Pc b1 b4 b5 p n c j SQ))) :
   Spec prog 195 #[.int .u64 mi, .pointer (some ⟨b1, 0, none⟩), .pointer (some ⟨b4, 0, none⟩), .pointer (some ⟨b5, 0, none⟩)] (AX τ (Pc b1 b4 b5 p n c i bad)) R := by
 subst uq
 exact VY hn ho hr h8 hi fun x j SQ h1 h2 h3 h4 => h x j SQ h1 h2 h3 fun w rest h5 h6 h7 h8 => by
   obtain ⟨g1, g2⟩ := AM6 h6 h5
   obtain ⟨rfl, rfl, rfl⟩ := h4 w g1 h7 h8
   exact ⟨rfl, rfl, g2⟩
theorem YX {R : Rr} {σ : Hp} {p : Option Addr} {n c : Nat} {bs : List Int} (hr : CA .u8 σ p n bs) (h8 : E8 bs)
   (h : AM5 bs σ fun e p' n' c' code σ' => R (.returned (.tuple #[GL e p' n' c', .int .i64 code])) σ') : Spec prog 108 #[.slice p n c] σ R := by
 refine Spec.drop (Cb.start fun b1 PR _ b4 fh b5 XT => ?_)
 obtain ⟨n41, zB⟩ := Hp.AL fh
 obtain ⟨n54, AM7⟩ := Hp.AL XT
 obtain ⟨n51, AGD⟩ := Hp.AL AM7
 have hN : N3 b1 b4 b5 := by unfold N3; simp; omega
 have hO : O3 b1 b4 b5 σ := fun b hb => by
   simp at hb
   rcases hb with rfl | rfl | rfl
   · exact AGD
   · exact zB
   · exact PR
 have VX : ∀ {τ : Hp} (j : Nat) (bad : Bool), O3 b1 b4 b5 τ → Ext τ (AX τ (Pc b1 b4 b5 p n c j bad)) := fun j bad ho => Hf.ext (L := Pc b1 b4 b5 p n c j bad) hN ho
 have fY : bs.length = n := hr.1
 show AJ prog (Instr.storeAt 3 (.pointer (some ⟨b4, 0, none⟩)) (.int .i64 0)) (AX σ (Pc b1 b4 b5 p n c 0 false)) _
 refine AJ.B4 (i := 1) (c := #[.int .i64 (0 : Nat)]) X8 hN rfl rfl rfl rfl rfl ?_
 refine AJ.B4 (i := 0) (c := #[.bool false]) Jk hN rfl rfl rfl rfl rfl ?_
 show Spec prog 195 _ (AX σ (Pc b1 b4 b5 p n c 0 false)) _
 refine iB 18446744073709551615 rfl hN hO hr h8 (Nat.zero_le n) fun e1 j1 AT8 UR _ sM zE => ⟨_, rfl, fun _ => ?_⟩
 refine iB 16 rfl hN hO hr h8 UR fun cnt j2 AM8 oA GJ _ ht2 => ⟨_, rfl, ?_⟩
 have fin : ∀ (τ : Hp) (pm : Option Addr) (nm cm j : Nat) (bad : Bool) (ms : List Mem), O3 b1 b4 b5 τ → Ext σ τ → J0 (σ.new τ) pm nm cm ms → nm ≤ 16 → (∀ m ∈ ms, m.B8.length ≤ 64 ∧ ∀ t ∈ m.B8, oh t) →
     (∀ e0 E3, Tr bs e0 E3 → bad = false ∧ e1 = e0 ∧ ms = E3) →
     Spec prog 44 #[GL e1 pm nm cm] (AX τ (Pc b1 b4 b5 p n c j bad)) (AB (Drop R) (fun v σ1 => ∃ XI : Option Addr, ∃ XJ : Nat, ∃ XK : Nat, ∃ Uz : Int, v = (.tuple #[(.slice XI XJ XK), (.int .i64 Uz)]) ∧ ∃ t63 : Bool, Hp.ld σ1 ⟨b5, 0, none⟩ = some (.bool t63) ∧ (t63 = true → Drop R (.returned (.tuple #[(.agg #[(.int .u64 0), (.slice none 0 0)]), (.int .i64 130)])) σ1) ∧ (t63 = false → ((Uz : Int) ≠ 0 → Drop R (.returned (.tuple #[(.agg #[(.int .u64 0), (.slice none 0 0)]), (.int .i64 130)])) σ1) ∧ (¬ ((Uz : Int) ≠ 0) → ∃ oH : Option Addr, ∃ oI : Nat, ∃ c70 : Nat, Hp.ld σ1 ⟨b1, 0, none⟩ = some (.slice oH oI c70) ∧ Spec prog 196 #[(.slice XI XJ XK), (.slice oH oI c70)] σ1 (AB (Drop R) (fun cK Bb => ∃ t71 : Bool, cK = (.bool t71) ∧ (t71 = false → Drop R (.returned (.tuple #[(.agg #[(.int .u64 0), (.slice none 0 0)]), (.int .i64 130)])) Bb) ∧ (t71 = true → Drop R (.returned (.tuple #[(.agg #[(.int .u64 e1), (.slice pm nm cm)]), (.int .i64 0)])) Bb))))))) := by
   intro τ pm nm cm j bad ms ho hx Aa Jm bD hT
   have MP : Pa (σ.new τ) pm nm ms := A9.rd FP.mono Aa
   have hrm : Pa τ pm nm ms := MP.RH (Ext.Af σ τ)
   have MR : Small ms := ⟨by rw [hrm.1]; omega, fun m hm => by have := (bD m hm).1; omega⟩
   have no : ¬ LV ms → ∀ e0 E3, ¬ Tr bs e0 E3 := fun Be e0 E3 ht => Be ((hT e0 E3 ht).2.2 ▸ ht.2.1)
   refine Spec.CH (L := Pc b1 b4 b5 p n c j bad) hN ho (O5 hrm MR sM ⟨fun Be FA => ⟨_, _, _, _, rfl, bad, IJ (i := 0) hN rfl rfl, fun hb => ?_, fun hb => ⟨fun _ => ?_, fun h0 => absurd (by decide) h0⟩⟩, fun Au p3 n3 c3 τ' Dl DR FA => ⟨_, _, _, _, rfl, bad, IJ (i := 0) hN rfl rfl, fun hb => ?_, fun hb => ⟨fun h0 => absurd rfl h0, fun _ => ⟨p, n, c, IJ (i := 2) hN rfl rfl, ?_⟩⟩⟩⟩)
   · exact .mk (hx.trans (VX j bad ho)) (h.bad (no Be))
   · exact .mk (hx.trans (VX j bad ho)) (h.bad (no Be))
   · exact .mk ((hx.trans DR).trans (VX j bad FA)) (h.bad fun e0 E3 ht => by have := (hT e0 E3 ht).1; rw [hb] at this; cases this)
   · refine Pb (Dl.rd.mono ((Ext.Af _ _).trans (VX j bad FA))) (hr.mono ((hx.trans DR).trans (VX j bad FA))) (P0 sM) h8 ⟨_, rfl, fun hf => ?_, fun ht => ?_⟩
     · refine .mk ((hx.trans DR).trans (VX j bad FA)) (h.bad fun e0 E3 ht => ?_)
       obtain ⟨_, rfl, rfl⟩ := hT e0 E3 ht
       simp [← ht.1] at hf
     · have oa : enc e1 ms = bs := by simpa using ht
       refine .mk (VX j bad FA) (h.ok e1 ms pm nm cm τ' ⟨oa.symm, Au, fun m hm => (bD m hm).2, sM⟩ (fun e0 E3 ht => (hT e0 E3 ht).2) (MP.RH (Ext.BV DR)) (hx.trans DR))
 have hv6 : ∀ x : Value, (#[] ++ #[x] ++ #[.pointer (some ⟨b1, 0, none⟩), .pointer (some ⟨b4, 0, none⟩), .pointer (some ⟨b5, 0, none⟩)] : Array Value) = #[x, .pointer (some ⟨b1, 0, none⟩), .pointer (some ⟨b4, 0, none⟩), .pointer (some ⟨b5, 0, none⟩)] := fun x => rfl
 suffices H : ∀ g : Nat, ∀ (τ : Hp) (pm : Option Addr) (nm cm cnt j : Nat) (bad : Bool) (ms : List Mem), cnt = g → nm + cnt ≤ 16 → O3 b1 b4 b5 τ → Ext σ τ → J0 (σ.new τ) pm nm cm ms → (∀ m ∈ ms, m.B8.length ≤ 64 ∧ ∀ t ∈ m.B8, oh t) → j ≤ n →
     (∀ e0 E3, Tr bs e0 E3 → bad = false ∧ e1 = e0 ∧ ms = E3.take nm ∧ nm + cnt = E3.length ∧ bs.drop j = (E3.drop nm).flatMap I5) →
     Cb.LJ (Drop R) b1 0 none 0 0 b5 (.func (.func 195) #[] #[.pointer (some ⟨b1, 0, none⟩), .pointer (some ⟨b4, 0, none⟩), .pointer (some ⟨b5, 0, none⟩)]) e1 pm nm cm cnt (AX τ (Pc b1 b4 b5 p n c j bad)) from by
   refine H cnt σ none 0 0 cnt j2 AM8 [] rfl (by omega) hO (.refl σ) A9.nil (by simp) oA fun e0 E3 ht => ?_
   have hd : bs.drop 0 = uv e0 ++ (uv (un E3.length) ++ E3.flatMap I5) := by rw [ht.1]; simp [enc]
   obtain ⟨rfl, PR, Pu⟩ := zE e0 _ hd ht.2.2.2 rfl (by have := ht.2.2.2; omega)
   have hlen := ht.2.1.len
   have Sp : un (E3.length : Nat) = E3.length := nC (by omega)
   obtain ⟨UW, HV, PN⟩ := ht2 (un E3.length) _ Pu (Bs _).2 PR (by omega)
   exact ⟨HV, rfl, by simp, by omega, by simpa using PN⟩
 intro g
 induction g with
 | zero =>
   intro τ pm nm cm cnt j bad ms hg hle ho hx Aa bD hj hT
   subst hg
   refine Cb.Hk ⟨fun Ag => by omega, fun _ => fin τ pm nm cm j bad ms ho hx Aa (by omega) bD fun e0 E3 ht => ?_⟩
   obtain ⟨f1, f2, f3, f4, _⟩ := hT e0 E3 ht
   exact ⟨f1, f2, by rw [f3, List.take_of_length_le (by omega)]⟩
 | succ g ih =>
   intro τ pm nm cm cnt j bad ms hg hle ho hx Aa bD hj hT
   refine Cb.Hk ⟨fun Ag => ⟨bad, IJ (i := 0) hN rfl rfl, fun hb => ?_, fun hb => fin τ pm nm cm j bad ms ho hx Aa (by omega) bD fun e0 E3 ht => by have := (hT e0 E3 ht).1; rw [hb] at this; cases this⟩, fun F8 => by omega⟩
   have hrx := hr.mono hx
   have eK : ∀ e0 E3, Tr bs e0 E3 → ∃ m, E3[nm]? = some m := fun e0 E3 ht => ⟨_, List.getElem?_eq_getElem (by have := (hT e0 E3 ht).2.2.2.1; omega)⟩
   refine ⟨195, #[], _, rfl, VZ, ?_⟩
   rw [hv6]
   refine iB 16 rfl hN ho hrx h8 hj fun G9 j3 AUA hj3 RP _ ht3 => ⟨_, rfl, fun MG AM9 => ⟨195, #[], _, rfl, VZ, ?_⟩⟩
   rw [hv6]
   refine iB 3 rfl hN ho hrx h8 hj3 fun Hm j4 AUB hj4 AUC _ ht4 => ⟨_, rfl, fun uS ANA _ => ⟨195, #[], _, rfl, VZ, ?_⟩⟩
   rw [hv6]
   refine iB 64 rfl hN ho hrx h8 hj4 fun Zt j5 AGE hj5 AUE _ ht5 => ⟨_, rfl, ?_⟩
   have e29 := w64 (by omega) AM9
   have e32 := w64 (by omega) ANA
   subst e29 e32
   have hT5 : ∀ e0 E3, Tr bs e0 E3 → ∃ m, E3[nm]? = some m ∧ m.id = (G9 : Int) ∧ m.state = (Hm : Int) ∧ Zt = m.B8.length ∧ AGE = false ∧ bs.drop j5 = LW m.B8 ++ (E3.drop (nm + 1)).flatMap I5 := fun e0 E3 ht => by
     obtain ⟨m, hm⟩ := eK e0 E3 ht
     obtain ⟨f1, f2, f3, f4, f5⟩ := hT e0 E3 ht
     have Au := ht.2.1.1 m (List.mem_of_getElem? hm)
     obtain ⟨k1, k2, k3, k4, k5, k6, _⟩ := Au
     rw [hZ hm] at f5
     have u1 : un m.id = m.id.toNat := NH k1 (by omega)
     have u2 : un m.state = m.state.toNat := NH (by omega) (by omega)
     have u3 : un (m.B8.length : Nat) = m.B8.length := nC (by omega)
     obtain ⟨g1, g2, g3⟩ := ht3 (un m.id) (uv (un m.state) ++ (uv (un m.B8.length) ++ (LW m.B8 ++ (E3.drop (nm + 1)).flatMap I5))) (by rw [f5]; simp [I5]) (Bs _).2 f1 (by omega)
     obtain ⟨g4, g5, g6⟩ := ht4 (un m.state) _ g3 (Bs _).2 g2 (by omega)
     obtain ⟨g7, g8, g9⟩ := ht5 (un m.B8.length) _ g6 (Bs _).2 g5 (by omega)
     exact ⟨m, hm, by omega, by omega, by omega, g8, g9⟩
   suffices H2 : ∀ g2 : Nat, ∀ (τ' : Hp) (pt : Option Addr) (k ct left j : Nat) (bad : Bool) (ts : List Int), left = g2 → k + left ≤ 64 → O3 b1 b4 b5 τ' → Ext τ τ' → AS .u32 (τ.new τ') pt k ct ts → (∀ t ∈ ts, oh t) → j ≤ n →
       (∀ e0 E3, Tr bs e0 E3 → ∃ m, E3[nm]? = some m ∧ m.id = (G9 : Int) ∧ m.state = (Hm : Int) ∧ bad = false ∧ ts = m.B8.take k ∧ k + left = m.B8.length ∧ bs.drop j = LW (m.B8.drop k) ++ (E3.drop (nm + 1)).flatMap I5) →
       Cb.Me (Drop R) b1 0 none 0 0 b5 (.func (.func 195) #[] #[.pointer (some ⟨b1, 0, none⟩), .pointer (some ⟨b4, 0, none⟩), .pointer (some ⟨b5, 0, none⟩)]) e1 pm nm cm cnt G9 Hm pt k ct left (AX τ' (Pc b1 b4 b5 p n c j bad)) from by
     refine H2 Zt τ none 0 0 Zt j5 AGE [] rfl (by omega) ho (.refl τ) AS.nil (by simp) hj5 fun e0 E3 ht => ?_
     obtain ⟨m, q1, q2, q3, q4, q5, q6⟩ := hT5 e0 E3 ht
     exact ⟨m, q1, q2, q3, q5, by simp, by omega, by simpa using q6⟩
   have done : ∀ (τ' : Hp) (pt : Option Addr) (k ct j : Nat) (bad : Bool) (ts : List Int), k ≤ 64 → O3 b1 b4 b5 τ' → Ext τ τ' → AS .u32 (τ.new τ') pt k ct ts → (∀ t ∈ ts, oh t) → j ≤ n →
       (∀ e0 E3, Tr bs e0 E3 → ∃ m, E3[nm]? = some m ∧ m.id = (G9 : Int) ∧ m.state = (Hm : Int) ∧ bad = false ∧ ts = m.B8 ∧ bs.drop j = (E3.drop (nm + 1)).flatMap I5) →
       ∀ Vi : Nat, (AX τ' (Pc b1 b4 b5 p n c j bad)) Vi = none → AJ prog (Builtin.append_ #[39, 39] 39 #[(.slice pm nm cm), (.slice (some ⟨Vi, 0, none⟩) 1 1)]) (Hp.set (AX τ' (Pc b1 b4 b5 p n c j bad)) Vi (.cells #[(.int .i64 G9), (.int .i64 Hm), (.slice pt k ct)] 196 (0, 0))) (fun v σ1 => ∃ p56 : Option Addr, ∃ n56 : Nat, ∃ c56 : Nat, v = (.slice p56 n56 c56) ∧ ∀ IK : Int, IK = IntKind.u64.wrap ((cnt : Int) - 1) → Cb.LJ (Drop R) b1 0 none 0 0 b5 (.func (.func 195) #[] #[.pointer (some ⟨b1, 0, none⟩), .pointer (some ⟨b4, 0, none⟩), .pointer (some ⟨b5, 0, none⟩)]) e1 p56 n56 c56 IK σ1) := by
     intro τ' pt k ct j bad ts hk EN Cc sY mB hj Ru Vi ANB
     obtain ⟨MV, hB⟩ := B3 ANB
     rw [DE MV]
     have mU : J0 (σ.new τ') pm nm cm ms := Aa.mono FP.mono (Ext.BV Cc)
     have de : ∀ a, pm = some a → τ a.block ≠ none := fun a ha => by
       have := Aa.block a ha
       cases hh : (σ.new τ) a.block with
       | none => exact absurd hh this
       | some oo => rw [(AQ.1 hh).2]; simp
     have C9 : Ext (τ.new τ') ((σ.new τ').del pm) := Ext.IS hx de
     have AGF : CA .u32 (τ.new τ') pt k ts := AS.rd sY
     have SD : ts.length = k := AGF.1
     refine AJ.CH (L := Pc b1 b4 b5 p n c j bad) hN (Hf.set (L := Pc b1 b4 b5 p n c j bad) EN MV) (A9.JF FP.mono (vs := [.int .i64 G9, .int .i64 Hm, .slice pt k ct]) (x := ⟨G9, Hm, ts⟩) (hx.trans Cc) mU rfl RI (FP.mk (AGF.mono C9)) (by omega) (fun p' c2 τ2 B1 An nF => ⟨p', nm + 1, c2, rfl, fun IK sZ => ?_⟩) hB)
     have e26 := va (by omega) (by omega) sZ
     subst e26
     refine ih τ2 p' (nm + 1) c2 (cnt - 1) j bad _ (by omega) (by omega) nF An B1 (fun m hm => ?_) hj fun e0 E3 ht => ?_
     · rcases List.mem_append.1 hm with hm | hm
       · exact bD m hm
       · simp at hm; subst hm
         exact ⟨by show ts.length ≤ 64; omega, mB⟩
     · obtain ⟨m, q1, q2, q3, q4, q5, q6⟩ := Ru e0 E3 ht
       obtain ⟨f1, f2, f3, f4, f5⟩ := hT e0 E3 ht
       refine ⟨q4, f2, ?_, by omega, q6⟩
       rw [List.take_add_one, q1, f3]
       simp [nE (a := ⟨G9, Hm, ts⟩) (b := m) q2.symm q3.symm q5]
   intro g2
   induction g2 with
   | zero =>
     intro τ' pt k ct left j bad ts hg2 AF4 EN Cc sY mB hj Ru
     subst hg2
     refine Cb.JM ⟨fun Ag => by omega, fun _ => done τ' pt k ct j bad ts (by omega) EN Cc sY mB hj fun e0 E3 ht => ?_⟩
     obtain ⟨m, q1, q2, q3, q4, q5, q6, q7⟩ := Ru e0 E3 ht
     refine ⟨m, q1, q2, q3, q4, by rw [q5, List.take_of_length_le (by omega)], ?_⟩
     rw [q7, List.drop_eq_nil_of_le (by omega)]; simp [LW]
   | succ g2 sL =>
     intro τ' pt k ct left j bad ts hg2 AF4 EN Cc sY mB hj Ru
     refine Cb.JM ⟨fun Ag => ⟨bad, IJ (i := 0) hN rfl rfl, fun hb => ?_, fun hb => done τ' pt k ct j bad ts (by omega) EN Cc sY mB hj fun e0 E3 ht => by obtain ⟨m, _, _, _, q4, _⟩ := Ru e0 E3 ht; rw [hb] at q4; cases q4⟩, fun F8 => by omega⟩
     refine ⟨195, #[], _, rfl, VZ, ?_⟩
     rw [hv6]
     refine iB 4294967295 rfl hN EN (hrx.mono Cc) h8 hj fun SJ j6 zb hj6 hY _ ht6 => ⟨_, rfl, fun JZ yn NR zV => ?_⟩
     obtain ⟨ANC, AND⟩ := cJ SJ yn
     obtain ⟨MV, hB⟩ := B3 zV
     rw [DE MV]
     refine AJ.CH (L := Pc b1 b4 b5 p n c j6 zb) hN (Hf.set (L := Pc b1 b4 b5 p n c j6 zb) EN MV) (AS.JF Cc sY (by omega) (fun p' c' τ2 B1 An _ nF => ⟨p', k + 1, c', rfl, fun yC ANE => ?_⟩) hB)
     have e43 := va (by omega) (by omega) ANE
     subst e43
     refine sL τ2 p' (k + 1) c' (left - 1) j6 zb _ (by omega) (by omega) nF An B1 (fun t ht => ?_) hj6 fun e0 E3 ht => ?_
     · rcases List.mem_append.1 ht with ht | ht
       · exact mB t ht
       · simp at ht; subst ht; exact ANC
     · obtain ⟨m, q1, q2, q3, q4, q5, q6, q7⟩ := Ru e0 E3 ht
       obtain ⟨t, M8⟩ : ∃ t, m.B8[k]? = some t := ⟨_, List.getElem?_eq_getElem (by omega)⟩
       have hwt := ht.2.2.1 m (List.mem_of_getElem? q1) t (List.mem_of_getElem? M8)
       unfold oh at hwt
       have ut : un t = t.toNat := NH hwt.1 (by omega)
       rw [iA M8, List.append_assoc] at q7
       obtain ⟨r1, r2, r3⟩ := ht6 (un t) _ q7 (Bs _).2 q4 (by omega)
       refine ⟨m, q1, q2, q3, r2, ?_, by omega, r3⟩
       rw [AR M8, q5, AND (by omega)]
       congr 2; omega
end TwW
end
section
namespace TwW
open Go Tw Go.RowKit Go.Proofs.Tryz
section
variable {σ σ' τ : Hp} {R : Rr}
theorem E4 {τ τ' : Hp} (h : Ext τ τ') : ∀ L : List (Nat × Obj), Ext (AX τ L) (AX τ' L)
 | [] => h
 | (b, o) :: L => fun k u hk => by
   simp only [AX] at hk ⊢
   by_cases e : k = b
   · subst e; rw [Hp.AA] at hk ⊢; exact hk
   · rw [Hp.AF e] at hk ⊢; exact E4 h L k u hk
def nG (v : Int) : Bool := FloatKind.f64.format.order v.toNat v.toNat != some .eq
def YY (v : Int) : Int := if v ≠ 9218868437227405314 ∧ nG v = true then 9221120237041090560 else v
theorem AGG {x : Int} : YN prog 198 #[.int .u64 x] σ (.float .f64 x.toNat) := fun w _ => by
 rw [run_callFunc_extern Go.Proofs.Tryz.func198 (by kernel_rfl) (by kernel_rfl) (by kernel_rfl) (e := Extern.MathFloatBits.float64frombits) (by kernel_rfl)]
 rfl
theorem bE {x : Int} (h : R (.returned (.bool (nG x))) σ) : Spec prog 197 #[.float .f64 x.toNat] σ R :=
 Qm.start ⟨_, fun w _ => by simp [eqGuard, binOp, Op.floatCmp, nG], h⟩
theorem YZ {x : Int} (h : R (.returned (.int .u64 (YY x))) σ) : Spec prog 109 #[.int .u64 x] σ R := by
 unfold YY at h
 refine Lj.start ⟨fun h1 => ⟨_, AGG, _, rfl, bE ⟨_, rfl, fun h2 => ?_, fun h2 => ?_⟩⟩, fun h1 => ?_⟩
 · rw [if_pos ⟨h1, h2⟩] at h; exact h
 · rw [if_neg (by simp [h2])] at h; exact h
 · rw [if_neg (by simp [Decidable.not_not.1 h1])] at h; exact h
def D1 (rf fo re : Int) (ha : Bool) (md : Nat) : Obj := .cells #[.int .i64 0, .int .i64 rf, .int .i64 0, .int .i64 0, .int .i64 fo, .int .i64 re, .int .i64 0, .int .i64 100, .int .i64 16, .int .i64 100, .bool ha, .map (some md)] 103 (0, 0)
def Bf (ten cl rep : ByteArray) (p : Option Addr) (n c : Nat) (now : Int) (q : Option Addr) : Obj := .cells #[.string ten, .string cl, .string rep, .slice p n c, .int .i64 now, .pointer q] 120 (0, 0)
def NJ (e : Nat) (Q : Int) (p : Option Addr) (n c : Nat) : Obj := .cells #[.int .u64 e, .int .i64 Q, .slice p n c] 126 (0, 0)
def D3 : ByteArray := ⟨#[114, 105, 110, 103]⟩
theorem Ya : Dg D3 = true := by decide
structure NK (τ : Hp) (b3 b4 b5 BA bd : Nat) (qk : Option Addr) : Prop where
 e3 : τ b3 = some (.cells #[.pointer (some ⟨bd, 0, none⟩)] 33 (0, 0))
 e4 : τ b4 = some (.cells #[.pointer (some ⟨BA, 0, none⟩)] 118 (0, 0))
 e5 : τ b5 = some (.cells #[.pointer qk] 35 (0, 0))
theorem NK.mono {b3 b4 b5 BA bd : Nat} {qk : Option Addr} (h : NK τ b3 b4 b5 BA bd qk) (hx : Ext τ σ) : NK σ b3 b4 b5 BA bd qk := ⟨hx _ _ h.e3, hx _ _ h.e4, hx _ _ h.e5⟩
variable {b3 b4 b5 BA bd md : Nat} {qk : Option Addr} {rf fo re now : Int} {ha : Bool} {ten cl rep : ByteArray} {p : Option Addr} {n c : Nat} {ss : List Sm}
def Yb (e : Int) : Int := if e = 0 then 0 else if e = 151 then 4 else 3
theorem iC (h5 : NK τ b3 b4 b5 BA bd qk) (hd : τ bd = some (D1 rf fo re ha md)) (hb : τ BA = none) (hs : IC τ p n ss) (hR : R (.returned (.int .i64 (Yb (I4 ten 16 100 ss)))) (τ.set BA (Bf ten cl rep p n c now none))) :
   Spec prog 103 #[.pointer (some ⟨b4, 0, none⟩), .pointer (some ⟨b3, 0, none⟩)] (τ.set BA (Bf ten cl rep p n c now none)) R := by
 have hx : Ext τ (τ.set BA (Bf ten cl rep p n c now none)) := .set hb
 have h5' := h5.mono hx
 refine C0.start ⟨_, AD h5'.e4 rfl, BA, 0, rfl, ten, Ac rfl, _, AD h5'.e4 rfl, BA, 0, rfl, p, n, c, Ac rfl, _, AD h5'.e3 rfl, bd, 0, rfl, 100, 16, 100, ha, ⟨AD (hx _ _ hd) rfl, AD (hx _ _ hd) rfl, AD (hx _ _ hd) rfl, AD (hx _ _ hd) rfl, trivial⟩, ?_⟩
 refine OA (hs.mono ML.mono hx) fun i => ⟨_, _, rfl, fun h0 => ?_, fun h0 => ⟨fun h1 => ?_, fun h1 => ?_⟩⟩
 · rw [Yb, if_pos h0] at hR; exact hR
 · rw [Yb, if_neg h0, if_pos h1] at hR; exact hR
 · rw [Yb, if_neg h0, if_neg h1] at hR; exact hR
theorem bF (h5 : NK τ b3 b4 b5 BA bd qk) (hd : τ bd = some (D1 rf fo re false md)) (hb : τ BA = none) {o : Obj} (hR : R (.returned (.int .i64 0)) (τ.set BA o)) :
   Spec prog 105 #[.pointer (some ⟨b3, 0, none⟩), .pointer (some ⟨b4, 0, none⟩)] (τ.set BA o) R := by
 have hx : Ext τ (τ.set BA o) := .set hb
 exact Bi.start ⟨_, AD (hx _ _ h5.e3) rfl, bd, 0, rfl, false, AD (hx _ _ hd) rfl, fun _ => hR, fun h => by cases h⟩
def partOf (ms : List Mem) (k : Nat) (s : Sm) : Part := ⟨⟨s.ls, s.t, YY s.v⟩, (round ms (FO s.ls)).take k⟩
theorem Dz.one (σ : Hp) (vs : List Value) (x : Part × Nat) (h : Dz σ vs x) : CU vs := by
 obtain ⟨p, n, c, q, m, d, rfl, _⟩ := h
 intro u hu
 simp only [List.mem_cons, List.not_mem_nil, or_false] at hu
 rcases hu with rfl | rfl | rfl | rfl | rfl <;> rfl
theorem nH : ∀ w, (Go.sizeOf 43).run prog w = .ok 1 w := fun w => sizeOf43 w
theorem nI : ∀ w, (Go.sizeOf 124).run prog w = .ok 1 w := fun w => sizeOf124 w
theorem iD {dk bb bk : Nat} {D : Dk} {W : Wl} {rows : List CO} {κ : Hp} {e : Nat} {ms : List Mem} {rk : Nat} (h5 : NK τ b3 b4 b5 BA bd (some ⟨bk, 0, none⟩)) (hd : τ bd = some (D1 rf fo re ha md)) (hb : τ BA = none) (hk : IF τ dk bb bk D W rows κ) (hu : D.up = true)
   (ht : Tr (Cr rows D3).1 e ms) (aV : 1 ≤ rf) (zc : rf ≤ 5) (vb : rf = rk) (Va : rk ≤ (CE ms).length) (hs : IC τ p n ss) (MR : ∀ s ∈ ss, HO s.ls) (hn : ss.length ≤ 256)
   (hR : ∀ (pb : Nat) (τ' : Hp) (mv : List Nat) q m d, Ext τ τ' → τ' BA = none → τ' pb = none → pb ≠ BA → Cj (τ.new (AX τ' [(pb, NJ e (rf / 2 + 1) q m d), (BA, Bf ten cl rep p n c now (some ⟨pb, 0, none⟩))])) pb e (rf / 2 + 1) (ss.map (partOf ms rk)) mv (ss.map fun _ => []) (fun _ => none) →
     R (.returned (.int .i64 0)) (AX τ' [(pb, NJ e (rf / 2 + 1) q m d), (BA, Bf ten cl rep p n c now (some ⟨pb, 0, none⟩))])) :
   Spec prog 107 #[.pointer (some ⟨b5, 0, none⟩), .pointer (some ⟨b3, 0, none⟩), .pointer (some ⟨b4, 0, none⟩)] (τ.set BA (Bf ten cl rep p n c now none)) R := by
 have dV : ss.length = n := hs.1
 have aI : Ext τ (τ.set BA (Bf ten cl rep p n c now none)) := .set hb
 refine Az.start ⟨_, AD (aI _ _ h5.e5) rfl, fun h => by simp at h, fun _ => ⟨_, AD (aI _ _ h5.e5) rfl, ?_⟩⟩
 show Spec prog 39 #[_, .string D3] (AX τ [(BA, Bf ten cl rep p n c now none)]) _
 have hN1 : (names [(BA, Bf ten cl rep p n c now none)]).Nodup := by simp [names]
 have hO1 : ∀ {ρ : Hp}, ρ BA = none → Hf [(BA, Bf ten cl rep p n c now none)] ρ := fun h k hk => by simp [names] at hk; rw [hk]; exact h
 refine Spec.CH hN1 (hO1 hb) (NG hk hu (fun h => by rw [Ya] at h; cases h) fun _ p1 n1 c1 τ1 Ff BH iE => ⟨_, _, _, _, _, rfl, ?_⟩)
 have zd : CA .u8 τ1 p1 n1 (Cr rows D3).1 := AS.rd (Own.mono (Ext.Af _ _) Ff)
 refine Spec.CH hN1 iE (YX zd (by rw [ht.1]; exact P0 ht.2.2.2) ⟨fun Be _ => (Be e ms ht).elim, fun e' EZ p2 n2 c2 τ2 jD dM HM An Sj => ?_⟩)
 obtain ⟨rfl, rfl⟩ := dM e ms ht
 have Au : LV EZ := ht.2.1
 have AFW : Pa τ2 p2 n2 EZ := HM.mono FP.mono (Ext.Af _ _)
 have bG : Ext τ τ2 := BH.trans An
 have nJ := h5.mono bG
 have PN := bG _ _ hd
 have vN : Ext τ2 (AX τ2 [(BA, Bf ten cl rep p n c now none)]) := Hf.ext hN1 Sj
 have HV : τ2 BA = none := Sj BA (by simp [names])
 refine ⟨e', p2, n2, c2, 0, rfl, fun _ => ⟨fun h => absurd rfl h, fun _ => ⟨fun h => absurd rfl h, fun _ => ⟨_, AD (vN _ _ nJ.e4) rfl, _, AD (vN _ _ nJ.e3) rfl, bd, 0, rfl, rf, AD (vN _ _ PN) rfl, by decide, fun Pp h40 => ?_⟩⟩⟩⟩
 have e40 : Pp = rf / 2 := by
   rw [h40, Int.tdiv_eq_ediv_of_nonneg (by omega)]
   simp [IntKind.wrap, IntKind.bits, IntKind.signed]; omega
 subst e40
 refine ⟨by unfold AO; omega, fun GQ ANH => ⟨BA, 0, rfl, ?_⟩⟩
 obtain ⟨ANI, vf⟩ := B3 ANH
 have Ad : GQ ≠ BA := by simpa [names] using ANI
 show AJ prog (Instr.storeAt 43 (.pointer (some ⟨BA, 5, none⟩)) (.pointer (some ⟨GQ, 0, none⟩))) (AX τ2 [(GQ, NJ e' (rf / 2 + 1) none 0 0), (BA, Bf ten cl rep p n c now none)]) _
 let L2 : Option Addr → Nat → Nat → List (Nat × Obj) := fun q m d => [(GQ, NJ e' (rf / 2 + 1) q m d), (BA, Bf ten cl rep p n c now (some ⟨GQ, 0, none⟩))]
 have oq : ∀ {q m d}, (names (L2 q m d)).Nodup := by simp [L2, names, Ad]
 have hO2 : ∀ {q m d} {ρ : Hp}, ρ GQ = none → ρ BA = none → Hf (L2 q m d) ρ := fun h1 h2 k hk => by
   simp [L2, names] at hk
   rcases hk with rfl | rfl
   · exact h1
   · exact h2
 have HS : ∀ {q m d}, names (L2 q m d) = [GQ, BA] := by simp [L2, names]
 refine AJ.B4 (i := 1) (c := #[.string ten, .string cl, .string rep, .slice p n c, .int .i64 now, .pointer none]) (c' := #[.string ten, .string cl, .string rep, .slice p n c, .int .i64 now, .pointer (some ⟨GQ, 0, none⟩)]) nH (by simp [names, Ad]) rfl rfl rfl rfl rfl ?_
 show LQ (AX τ2 (L2 none 0 0)) b4 0 _
 have Vs : ∀ {q m d} {ρ : Hp}, ρ GQ = none → ρ BA = none → Ext ρ (AX ρ (L2 q m d)) := fun h1 h2 => Hf.ext oq (hO2 h1 h2)
 have ldo : ∀ {q m d} {ρ : Hp} {o : Nat} {v : Value}, (#[.string ten, .string cl, .string rep, .slice p n c, .int .i64 now, .pointer (some ⟨GQ, 0, none⟩)] : Array Value)[o]? = some v → Hp.ld (AX ρ (L2 q m d)) ⟨BA, o, none⟩ = some v := fun h => IJ (i := 1) oq rfl h
 refine ⟨_, AD (Vs vf HV _ _ nJ.e4) rfl, BA, 0, rfl, p, n, c, ldo rfl, ?_⟩
 have Jt : ∀ (σ0 τ6 : Hp) (mv : List Nat) q m d, m = n → A9 5 Dz (σ0.new τ6) q m d ((ss.map (partOf EZ rk)).zip mv) → Ext τ2 σ0 → Ext σ0 τ6 → mv.length = n → mv.Nodup → (∀ v ∈ mv, σ0 v = some (.map #[] 0) ∧ τ2 v = none) → τ6 GQ = none → τ6 BA = none → R (.returned (.int .i64 0)) (AX τ6 (L2 q m d)) := by
   intro σ0 τ6 mv q m d hm ho VA LU vY Z7 nK lZ iw
   have N7 := Vs (q := q) (m := m) (d := d) lZ iw
   have ANL : ∀ v ∈ mv, v ≠ GQ ∧ v ≠ BA := fun v hv => ⟨fun e => (by have := LU _ _ (nK v hv).1; rw [e, lZ] at this; cases this), fun e => (by have := LU _ _ (nK v hv).1; rw [e, iw] at this; cases this)⟩
   have Ha : Ext τ σ0 := bG.trans VA
   have FA : Ext (σ0.new τ6) ((τ.new (AX τ6 (L2 q m d))).off mv) := fun k o hk => Hp.AH.2 ⟨fun Dh => (by
     have h1 := (AQ.1 hk).1
     rw [(nK k Dh).1] at h1; cases h1), AQ.2 ⟨A4 Ha (AQ.1 hk).1, N7 _ _ (AQ.1 hk).2⟩⟩
   refine hR GQ τ6 mv q m d (Ha.trans LU) iw lZ Ad ⟨⟨⟨q, m, d, Hp.AH.2 ⟨fun h => (ANL _ h).1 rfl, AQ.2 ⟨A4 (Ha.trans LU) lZ, B7 (i := 0) oq rfl⟩⟩, (ho.rd Dz.mono).mono Dz.mono FA⟩, by simp [vY, dV], by simpa using hn, fun x hx => ?_, fun x hx => ?_⟩, Z7, by simp [vY, dV], fun i v f hv hf => ?_, fun k o hk => by cases hk⟩
   · obtain ⟨s, II, rfl⟩ := List.mem_map.1 hx
     exact MR s II
   · obtain ⟨s, II, rfl⟩ := List.mem_map.1 hx
     show ((round EZ (FO s.ls)).take rk).length ≤ 5
     rw [List.length_take]; omega
   · obtain ⟨s, II, rfl⟩ := List.mem_map.1 (List.mem_of_getElem? hf)
     have ox := (nK v (List.mem_of_getElem? hv)).1
     exact ⟨[], 0, rfl, AQ.2 ⟨A4 bG (nK v (List.mem_of_getElem? hv)).2, N7 _ _ (LU _ _ ox)⟩, MapKept.stamped_empty 0, by simp⟩
 suffices H : ∀ g i : Nat, ∀ (σ0 τ6 : Hp) (mv : List Nat) q m d, n - i = g → i ≤ n → m = i → A9 5 Dz (σ0.new τ6) q m d (((ss.take i).map (partOf EZ rk)).zip mv) → Ext τ2 σ0 → Ext σ0 τ6 → mv.length = i → mv.Nodup → (∀ v ∈ mv, σ0 v = some (.map #[] 0) ∧ τ2 v = none) → τ6 GQ = none → τ6 BA = none →
     Az.Me R b3 b4 e' p2 n2 c2 p n c n i (AX τ6 (L2 q m d)) from H n 0 τ2 τ2 [] none 0 0 rfl (Nat.zero_le _) rfl A9.nil (.refl _) (.refl _) rfl List.nodup_nil (by simp) vf HV
 intro g
 induction g with
 | zero =>
   intro i σ0 τ6 mv q m d hg hi hm ho VA LU vY Z7 nK lZ iw
   have C9 : i = n := by omega
   subst C9
   rw [List.take_of_length_le (by omega)] at ho
   exact Az.JM ⟨fun Ag => by omega, fun _ => Jt σ0 τ6 mv q m d hm ho VA LU vY Z7 nK lZ iw⟩
 | succ g ih =>
   intro i σ0 τ6 mv q m d hg hi hm ho VA LU vY Z7 nK lZ iw
   have Jl : i < n := by omega
   subst hm
   obtain ⟨s, hsi⟩ := hs.ex Jl
   obtain ⟨b, o, qs, ks, cs, rfl, hl, hls⟩ := IC.at hs hsi
   have sa := MR s (List.mem_of_getElem? hsi)
   have fv := sa.1
   have AUO : s.ls.length = ks := hls.1
   have sZ : Ext τ2 τ6 := VA.trans LU
   have AGH : Ext τ τ6 := bG.trans sZ
   have N7 := Vs (q := q) (m := m) (d := d) lZ iw
   refine Az.JM ⟨fun _ => ⟨b, o, rfl, by omega, qs, ks, cs, s.t, s.v, by simpa using hl.mono (AGH.trans N7), fun _ => ?_⟩, fun hh => by omega⟩
   refine Spec.CH oq (hO2 lZ iw) (X2 (hls.mono Ka.mono AGH) (by omega) fun q7 c7 τ7 ho7 Ov ze => ⟨q7, ks, c7, s.t, s.v, rfl, ?_⟩)
   refine YZ ⟨_, rfl, ?_⟩
   have g43 : τ7 GQ = none := ze GQ (by rw [HS]; simp)
   have g20 : τ7 BA = none := ze BA (by rw [HS]; simp)
   have sd : Ext τ2 τ7 := sZ.trans Ov
   have zf := Vs (q := q) (m := m) (d := d) g43 g20
   refine ⟨_, AD (zf _ _ (sd _ _ nJ.e3)) rfl, bd, 0, rfl, rf, AD (zf _ _ (sd _ _ PN)) rfl, ?_⟩
   have Yq : SA (τ6.new τ7) q7 ks s.ls := ho7.rd Ka.mono
   refine Tt (Yq.mono Ka.mono ((Ext.Af _ _).trans zf)) sa ⟨_, rfl, Kp.CG (.refl _), ?_⟩
   refine Spec.CH oq ze (Si (AFW.RH sd) Au.small ⟨fun hb => (hb ⟨Au, aV, zc⟩).elim, fun _ _ _ hb => by omega, fun _ _ _ k hk hka q8 d8 τ8 zT Qy zh => ?_⟩)
   have RZ : k = rk := by omega
   subst RZ
   have k43 : τ8 GQ = none := zh GQ (by rw [HS]; simp)
   have k20 : τ8 BA = none := zh BA (by rw [HS]; simp)
   have RP : Ext τ2 τ8 := sd.trans Qy
   have AGI := Vs (q := q) (m := m) (d := d) k43 k20
   refine ⟨q8, k, d8, 0, rfl, fun h => absurd rfl h, fun _ => ⟨_, AD (AGI _ _ (RP _ _ nJ.e4)) rfl, BA, 0, rfl, _, ldo rfl, _, AD (AGI _ _ (RP _ _ nJ.e4)) rfl, BA, 0, rfl, _, ldo rfl, GQ, 0, rfl, q, m, d, IJ (i := 0) oq rfl rfl, ?_⟩⟩
   refine AJ.CH oq zh (Hg fun mm gn AGJ => ⟨mm, rfl, Kp.CG (E4 (.set gn) _), fun b91 ANM => ?_⟩)
   have ANN : Ext σ0 (τ8.set mm (.map #[] 0)) := (LU.trans (Ov.trans Qy)).trans (.set gn)
   generalize AGK : τ8.set mm (.map #[] 0) = τ9 at *
   have hm9 : τ9 mm = some (.map #[] 0) := by rw [← AGK, Hp.AA]
   have AGL : Ext τ8 τ9 := by rw [← AGK]; exact .set gn
   have AGM : σ0 mm = none := A4 (LU.trans (Ov.trans Qy)) gn
   have l43 : τ9 GQ = none := AGJ GQ (by rw [HS]; simp)
   have l20 : τ9 BA = none := AGJ BA (by rw [HS]; simp)
   obtain ⟨aT, vg⟩ := B3 ANM
   dsimp only
   rw [DE aT]
   have RG : Ext σ0 (σ0.set mm (.map #[] 0)) := .set AGM
   have ANO : Ext (σ0.set mm (.map #[] 0)) τ9 := fun k o hk => by
     by_cases e : k = mm
     · subst e; rw [Hp.AA] at hk; rw [hm9]; exact hk
     · rw [Hp.AF e] at hk; exact ANN k o hk
   have C8 : ∀ {ρ : Hp}, Ext ρ τ8 → Ext (σ0.new ρ) ((σ0.set mm (.map #[] 0)).new τ9) := fun hρ k o hk => by
     obtain ⟨h1, h2⟩ := AQ.1 hk
     have h3 := hρ _ _ h2
     have yt : k ≠ mm := fun e => by rw [e, gn] at h3; cases h3
     exact AQ.2 ⟨by rw [Hp.AF yt]; exact h1, AGL _ _ h3⟩
   have AGN : A9 5 Dz ((σ0.set mm (.map #[] 0)).new τ9) q m d (((ss.take m).map (partOf EZ k)).zip mv) := ho.mono Dz.mono (C8 (Ov.trans Qy))
   have de : ∀ a, q = some a → τ6 a.block ≠ none := fun a hqa => by
     have := ho.block a hqa
     cases hh : (σ0.new τ6) a.block with
     | none => exact absurd hh this
     | some oo => rw [(AQ.1 hh).2]; simp
   have l6 : ∀ {ρ : Hp}, Ext τ6 ρ → Ext ρ τ8 → Ext (τ6.new ρ) (((σ0.set mm (.map #[] 0)).new τ9).del q) := fun AUS hρ k o hk => by
     obtain ⟨h1, h2⟩ := AQ.1 hk
     refine A6.2 ⟨fun a hqa e => de a hqa (by rw [← e]; exact h1), C8 hρ k o (AQ.2 ⟨A4 LU h1, h2⟩)⟩
   have hE : Dz (((σ0.set mm (.map #[] 0)).new τ9).del q) [.slice q7 ks c7, .int .i64 s.t, .int .u64 (YY s.v), .slice q8 k d8, .map (some mm)] (partOf EZ k s, mm) := ⟨q7, ks, c7, q8, k, d8, rfl, Yq.mono Ka.mono (l6 Ov Qy), (AS.rd zT).mono (fun k' o' Dh => by
     obtain ⟨h1, h2⟩ := AQ.1 Dh
     exact l6 (Ov.trans Qy) (.refl _) k' o' (AQ.2 ⟨A4 Ov h1, h2⟩))⟩
   refine AJ.CH oq (Hf.set (hO2 l43 l20) (by rw [HS] at aT ⊢; exact aT)) (A9.JF Dz.mono ANO AGN rfl (Dz.one _ _ _ hE) hE (by omega) (fun p' c' se ANQ AGO vh => ⟨p', m + 1, c', rfl, ?_⟩) vg)
   have m43 : se GQ = none := vh GQ (by rw [HS]; simp)
   have m20 : se BA = none := vh BA (by rw [HS]; simp)
   have ANR := Vs (q := q) (m := m) (d := d) m43 m20
   have AGP : Ext τ2 se := (VA.trans RG).trans AGO
   refine ⟨fun k' Dh o' EN => ?_, GQ, 0, rfl, ?_⟩
   · simp only [List.mem_cons, List.not_mem_nil, or_false] at Dh
     rcases Dh with rfl | rfl
     · rw [B7 (i := 1) oq rfl] at EN ⊢; exact EN
     · have e1 : (AX (τ9.set b91 (.cells [.slice q7 ks c7, .int .i64 s.t, .int .u64 (YY s.v), .slice q8 k d8, .map (some mm)].toArray 129 (0, 0))) (L2 q m d)) k' = some (.cells #[.pointer (some ⟨BA, 0, none⟩)] 118 (0, 0)) := Vs (by rw [Hp.AF (fun e => aT (by rw [HS, ← e]; simp))]; exact l43) (by rw [Hp.AF (fun e => aT (by rw [HS, ← e]; simp))]; exact l20) _ _ ((Ext.set vg) _ _ (AGL _ _ (RP _ _ nJ.e4)))
       have e2 : some o' = some (Obj.cells #[.pointer (some ⟨BA, 0, none⟩)] 118 (0, 0)) := EN.symm.trans e1
       rw [e2]
       exact ANR _ _ (AGP _ _ nJ.e4)
   · refine AJ.B4 (i := 0) (c := #[.int .u64 e', .int .i64 (rf / 2 + 1), .slice q m d]) (c' := #[.int .u64 e', .int .i64 (rf / 2 + 1), .slice p' (m + 1) c']) nI oq rfl rfl rfl rfl rfl ?_
     refine ⟨Ah Jl hs.big, ?_⟩
     have ANS : ((ss.take (m + 1)).map (partOf EZ k)).zip (mv ++ [mm]) = ((ss.take m).map (partOf EZ k)).zip mv ++ [(partOf EZ k s, mm)] := by
       rw [AR hsi, List.map_append, List.zip_append (by simp [vY]; omega)]; rfl
     refine ih (m + 1) (σ0.set mm (.map #[] 0)) se (mv ++ [mm]) p' (m + 1) c' (by omega) (by omega) rfl (by rw [ANS]; exact ANQ) (VA.trans RG) AGO (by simp [vY]) ?_ (fun v hv => ?_) m43 m20
     · rw [List.nodup_append]
       refine ⟨Z7, by simp, fun a hav b' Js => ?_⟩
       simp only [List.mem_singleton] at Js
       subst Js
       exact fun e => by have := (nK a hav).1; rw [e, AGM] at this; cases this
     · rcases List.mem_append.1 hv with hv | hv
       · exact ⟨RG _ _ (nK v hv).1, (nK v hv).2⟩
       · simp only [List.mem_singleton] at hv
         subst hv
         exact ⟨Hp.AA _ _ _, A4 RP gn⟩
end
end TwW
end
section
namespace TwW
open Go Tw Go.RowKit Go.Proofs.Tryz
theorem sf {x : Nat} (hx : x < 18446744073709551616) : Go.bits .and .u64 (x : Int) 127 = ((x % 128 : Nat) : Int) := by
 have := bits_and_u64_nat x 127 hx (by decide)
 rw [show ((127 : Nat) : Int) = 127 from rfl] at this
 rw [this, Nat.and_two_pow_sub_one_eq_mod x 7]
theorem si {x : Nat} : Go.bits .or .u64 ((x % 128 : Nat) : Int) 128 = ((x % 128 + 128 : Nat) : Int) := by
 have hm := Nat.mod_lt x (show 128 > 0 by decide)
 have := bits_or_u64_nat (x % 128) 128 (by omega) (by decide)
 rw [show ((128 : Nat) : Int) = 128 from rfl] at this
 rw [this, yj ⟨x % 128, hm⟩]
theorem Ga {R : Rr} {σ : Hp} {p : Option Addr} {n c x : Nat} {xs : List Int} (hr : CA .u8 σ p n xs) (hn : n ≤ 70368744177664) (hx : x < 18446744073709551616)
   (h : ∀ p' n' c' σ', AS .u8 (σ.new σ') p' n' c' (xs ++ uv x) → Ext σ σ' → R (.returned (.slice p' n' c')) σ') : Spec prog 143 #[.slice p n c, .int .u64 x] σ R := by
 refine FH.start fun b hb => ?_
 refine Ec Own.empty ((Gi.of_map hr).mono (.set hb)) CU.Cs (by omega) fun p' c' σ' Aa EU => ?_
 have hq : ∀ a : Addr, (some (⟨b, 0, none⟩ : Addr)) = some a → σ a.block = none := fun a ha => by cases ha; exact hb
 have ho := Own.CV Aa (B2 hq EU (.set hb))
 have he := CX hq EU (.set hb)
 refine ⟨p', 0 + n, c', rfl, ?_⟩
 rw [Nat.zero_add] at ho ⊢
 have hlen := hr.1
 suffices H : ∀ (k x n' : Nat) p' c' σ' ys, x < 128 ^ (k + 1) → x < 18446744073709551616 → n' + k ≤ n + 9 → AS .u8 (σ.new σ') p' n' c' ys → Ext σ σ' → (∀ p' n' c' σ', AS .u8 (σ.new σ') p' n' c' (ys ++ uv x) → Ext σ σ' → R (.returned (.slice p' n' c')) σ') → FH.La R x p' n' c' σ' from
   H 9 x n p' c' σ' xs (by omega) hx (by omega) ho he h
 intro k
 induction k with
 | zero =>
   intro x n' p' c' σ' ys hx _ J1 ho he h
   refine FH.DF ⟨fun Ag => by omega, fun _ Hj U9 b2 HV => ?_⟩
   have N7 : Hj = (x : Int) := by rw [U9]; simp [IntKind.wrap, IntKind.bits, IntKind.signed]; omega
   subst N7
   refine AS.JF he ho (by omega) (fun p2 c2 σ2 B1 Xc _ => ⟨p2, n' + 1, c2, rfl, h _ _ _ _ ?_ Xc⟩) HV
   rw [Cd (by omega)]; exact B1
 | succ k ih =>
   intro x n' p' c' σ' ys hx ANT J1 ho he h
   refine FH.DF ⟨fun Ag FU sj E7 nL Nv fu b2 HV => ?_, fun F8 Hj U9 b2 HV => ?_⟩
   · rw [sf ANT] at sj
     subst sj
     rw [si] at nL
     subst nL
     have fv : Nv = ((x % 128 + 128 : Nat) : Int) := by
       rw [fu]; simp [IntKind.wrap, IntKind.bits, IntKind.signed]; omega
     subst fv
     refine AS.JF he ho (by omega) (fun p2 c2 σ2 B1 Xc _ => ⟨p2, n' + 1, c2, rfl, by simp [IntKind.bits], fun Du aE => ?_⟩) HV
     have h12 : Du = ((x / 128 : Nat) : Int) := by rw [aE]; simp
     subst h12
     refine ih (x / 128) (n' + 1) p2 c2 σ2 _ (by rw [Nat.div_lt_iff_lt_mul (by decide)]; rw [Nat.pow_succ] at hx; exact hx) (by omega) (by omega) B1 Xc fun p3 n3 c3 σ3 Dl he3 => h p3 n3 c3 σ3 ?_ he3
     rw [HL (by omega)]
     simpa using Dl
   · have N7 : Hj = (x : Int) := by rw [U9]; simp [IntKind.wrap, IntKind.bits, IntKind.signed]; omega
     subst N7
     refine AS.JF he ho (by omega) (fun p2 c2 σ2 B1 Xc _ => ⟨p2, n' + 1, c2, rfl, h _ _ _ _ ?_ Xc⟩) HV
     rw [Cd (by omega)]; exact B1
section
variable {σ σ' τ : Hp} {R : Rr}
theorem Jr {p : Option Addr} {n c : Nat} {xs : List Int} {s : ByteArray} (hr : CA .u8 σ p n xs) (hn : n ≤ 1048576) (hs : s.size ≤ 1048576)
   (h : ∀ p' n' c' σ', AS .u8 (σ.new σ') p' n' c' (xs ++ uv s.size ++ NU s) → Ext σ σ' → R (.returned (.slice p' n' c')) σ') : Spec prog 142 #[.slice p n c, .string s] σ R := by
 refine Ms.start fun x8 h8 => ?_
 have e8 : x8 = (s.size : Int) := by rw [h8]; simp [IntKind.wrap, IntKind.bits, IntKind.signed]; omega
 subst e8
 refine Ga hr (by omega) (by omega) fun p' n' c' σ1 ho BH => ⟨p', n', c', rfl, ?_⟩
 have hq := ho.Dp
 have hl : (xs ++ uv s.size).length = n' := by have := ho.1; simpa using this
 have mC := BF (x := s.size) (by omega)
 have Vq : xs.length = n := hr.1
 rw [List.length_append] at hl
 refine dZ underlying9 (Own.mono (Ext.Af _ _) ho) rfl Xy (by omega) fun p2 c2 σ2 B1 An _ => ⟨p2, _, c2, rfl, ?_⟩
 have HV := B2 hq An BH
 refine h p2 _ c2 σ2 ?_ (CX hq An BH)
 have := Own.CV B1 HV
 simpa [AS] using this
theorem Rf {k : ByteArray} {p : Option Addr} {n c v : Nat} {d : List Int} (hr : CA .u8 σ p n d) (h8 : E8 d) (hk : k.size ≤ 262144) (hd : n ≤ 262144) (hv : v < 18446744073709551616)
   (h : ∀ p' n' c' σ', AS .u8 (σ.new σ') p' n' c' (Co k d v) → Ext σ σ' → R (.returned (.slice p' n' c')) σ') : Spec prog 70 #[.agg #[.string k, .slice p n c, .int .u64 v]] σ R := by
 have hdl : d.length = n := hr.1
 have AL8 := BF (x := k.size) (by omega)
 have rq := BF (x := v) hv
 have fst : ∀ {R2 : Rr} {τ : Hp}, (∀ p' n' c' σ', AS .u8 (τ.new σ') p' n' c' (uv k.size ++ NU k) → n' ≤ 262154 → Ext τ σ' → R2 (.returned (.slice p' n' c')) σ') → Spec prog 142 #[.slice none 0 0, .string k] τ R2 := fun hh =>
   Jr (xs := []) GS.nil (by omega) (by omega) fun p6 n6 c6 σ1 Ff BH => hh p6 n6 c6 σ1 (by simpa using Ff) (by have := Ci Ff; simp [Cg] at this; omega) BH
 have snd : ∀ {R2 : Rr} {τ τ1 : Hp} {p6 : Option Addr} {n6 c6 : Nat}, Ext τ τ1 → AS .u8 (τ.new τ1) p6 n6 c6 (uv k.size ++ NU k) → n6 ≤ 262154 → (∀ p' n' c' σ', AS .u8 (τ.new σ') p' n' c' (uv k.size ++ NU k ++ uv v) → n' ≤ 262164 → Ext τ σ' → R2 (.returned (.slice p' n' c')) σ') → Spec prog 143 #[.slice p6 n6 c6, .int .u64 v] τ1 R2 := fun BH Ff vi hh =>
   Ga (AS.rd (Own.mono (Ext.Af _ _) Ff)) (by omega) hv fun p9 n9 c9 σ2 B1 An => hh p9 n9 c9 σ2 (Own.mono (Ext.CW BH) B1) (by have := Ci B1; have h2 := Ci Ff; rw [List.length_append] at this; omega) (BH.trans An)
 have thd : ∀ {τ1 : Hp} {p9 : Option Addr} {n9 c9 : Nat}, Ext σ τ1 → AS .u8 (σ.new τ1) p9 n9 c9 (uv k.size ++ NU k ++ uv v) → n9 ≤ 262164 → Spec prog 142 #[.slice p9 n9 c9, .string (strOfNums d)] τ1 (AB R (CS fun J6 n12 c12 Ay => R (.returned (.slice J6 n12 c12)) Ay)) := fun An B1 hn9 =>
   Jr (AS.rd (Own.mono (Ext.Af _ _) B1)) (by omega) (by rw [CM]; omega) fun p3 n3 c3 σ3 Dl DR => ⟨_, _, _, rfl, by
     rw [CM, Kv h8] at Dl
     exact h p3 n3 c3 σ3 (Own.mono (Ext.CW An) Dl) (An.trans DR)⟩
 refine Mi.start fun _ => ⟨fst fun p6 n6 c6 σ1 Ff vi BH => ⟨_, _, _, rfl, ?_, ?_⟩, ?_⟩
 · exact snd BH Ff vi fun p9 n9 c9 σ2 B1 hn9 An => ⟨_, _, _, rfl, GK (hr.mono An) ⟨_, rfl, thd An B1 hn9⟩⟩
 · exact GK (hr.mono BH) ⟨_, rfl, snd BH Ff vi fun p9 n9 c9 σ2 B1 hn9 An => ⟨_, _, _, rfl, thd An B1 hn9⟩⟩
 · exact GK hr ⟨_, rfl, fst fun p6 n6 c6 σ1 Ff vi BH => ⟨_, _, _, rfl, snd BH Ff vi fun p9 n9 c9 σ2 B1 hn9 An => ⟨_, _, _, rfl, thd An B1 hn9⟩⟩⟩
theorem bH {p : Option Addr} {n c : Nat} {xs : List Int} (hr : CA .u8 σ p n xs) (h : ∀ x, R (.returned (.int .u32 x)) σ) : Spec prog 235 #[.slice p n c] σ R := by
 refine ET.start ?_
 suffices H : ∀ d k : Nat, ∀ x : Int, n - k = d → k ≤ n → ET.CF R p n c x k σ from H n 0 _ rfl (Nat.zero_le _)
 intro d
 induction d with
 | zero => intro k x hd hk; exact ET.BX ⟨fun Ag => by omega, fun _ uI _ => h uI⟩
 | succ d ih =>
   intro k x hd hk
   have Dh : k < n := by omega
   obtain ⟨y, hy⟩ := hr.ex Dh
   obtain ⟨b, o, rfl, hl⟩ := hr.at hy
   refine ET.BX ⟨fun _ => ⟨b, o, rfl, by omega, y, by simpa using hl, fun _ _ MS _ => ?_⟩, fun hh => by omega⟩
   suffices H2 : ∀ g j : Nat, ∀ z : Int, 8 - j = g → j ≤ 8 → ET.MD R (aD b o) n c z k j σ from H2 8 0 MS rfl (by omega)
   intro g
   induction g with
   | zero => intro j z hg hj; exact ET.Hl ⟨fun Ag => by omega, fun _ => ⟨Ah Dh hr.big, ih (k + 1) z (by omega) (by omega)⟩⟩
   | succ g ihg =>
     intro j z hg hj
     have nx : ∀ w : Int, ET.rQ R (aD b o) n c w k j σ := fun w => ET.rR ⟨by unfold AO; omega, ihg (j + 1) w (by omega) (by omega)⟩
     exact ET.Hl ⟨fun _ _ _ => ⟨by simp [IntKind.bits], fun _ _ => ⟨fun _ Hm _ => nx Hm, fun _ => nx _⟩⟩, fun hh => by omega⟩
theorem Vb {p : Option Addr} {n c : Nat} {xs : List Int} (hr : CA .u8 σ p n xs) (h0 : R (.returned (.tuple #[.slice none 0 0, .int .i64 23])) σ) (h : ∀ p' n' c' σ' ys, AS .u8 (σ.new σ') p' n' c' ys → n' ≤ 65560 → Ext σ σ' → R (.returned (.tuple #[.slice p' n' c', .int .i64 0])) σ') :
   Spec prog 139 #[.slice p n c] σ R := by
 have Vq : xs.length = n := hr.1
 refine Qj.start ⟨fun _ => h0, fun hn x9 h9 => ?_⟩
 have e9 : x9 = (n : Int) := by rw [h9]; simp [IntKind.wrap, IntKind.bits, IntKind.signed]; omega
 subst e9
 have mC := BF (x := n) (by omega)
 refine Ga GS.nil (by omega) (by omega) fun p1 n1 c1 σ1 Ff BH => ⟨_, _, _, rfl, ?_⟩
 have NM := Ci Ff
 rw [List.nil_append] at NM
 refine bH (hr.mono BH) fun Du => ⟨_, rfl, ?_⟩
 refine TS.start ⟨by simp [IntKind.bits], fun x4 _ x5 _ => ⟨by simp [IntKind.bits], fun x7 _ x8 _ => ⟨by simp [IntKind.bits], fun Di _ Eg _ FU _ LG ANV => ⟨_, _, _, rfl, ?_⟩⟩⟩⟩
 have An : Ext σ1 (σ1.set LG (.cells #[.int .u8 x5, .int .u8 x8, .int .u8 Eg, .int .u8 FU] 5 (0, 0))) := .set ANV
 refine D6 (σ0 := σ) (ys := [x5, x8, Eg, FU].map (Value.int .u8)) (BH.trans An) (Own.mono (Ext.BV An) Ff) ⟨rfl, by omega, .inr ⟨LG, 0, rfl, EF.of fun j v hj => ?_⟩⟩ CU.Cs (by omega) fun p3 c3 σ3 Dl DR _ => ⟨_, _, _, rfl, ?_⟩
 · refine AD (Hp.AA _ _ _) ?_
   rw [Nat.zero_add, ← Array.getElem?_toList]
   exact hj
 refine D6 DR Dl ((Gi.of_map hr).mono DR) CU.Cs (by omega) fun p4 c4 σ4 Pv Kt _ => ⟨_, _, _, rfl, h p4 _ c4 σ4 ([] ++ uv n ++ [x5, x8, Eg, FU] ++ xs) ?_ (by omega) Kt⟩
 simpa [AS] using Pv
theorem bI {x : Int} (h : ∀ s σ', s.size = 8 → Ext σ σ' → R (.returned (.string s)) σ') : Spec prog 147 #[.int .i64 x] σ R := by
 refine GC.start ?_
 suffices H : ∀ d k : Nat, ∀ (x : Int) (s : ByteArray) (σ' : Hp), 8 - k = d → k ≤ 8 → s.size = k → Ext σ σ' → GC.CF R x s k σ' from H 8 0 x _ σ rfl (by omega) rfl (.refl _)
 intro d
 induction d with
 | zero => intro k x s σ' hd hk hs hx; exact GC.BX ⟨fun Ag => by omega, fun _ => h s σ' (by omega) hx⟩
 | succ d ih =>
   intro k x s σ' hd hk hs hx
   refine GC.BX ⟨fun _ => ⟨by decide, fun Di mC => ⟨?_, fun Du _ H7 fZ => ?_⟩⟩, fun hh => by omega⟩
   · have h1 := Int.tmod_lt_of_pos x (b := 10) (by decide)
     have h2 : -10 < Int.tmod x 10 := by
       have := Int.tmod_lt_of_pos (-x) (b := 10) (by decide)
       rw [Int.neg_tmod] at this
       omega
     unfold AO; omega
   have hr : CA .u8 (σ'.set H7 (.cells #[.int .u8 Du] 5 (0, 0))) (some ⟨H7, 0, none⟩) 1 [Du] := CA.Lz ⟨rfl, by omega, .inr ⟨H7, 0, rfl, ⟨AD (Hp.AA _ _ _) rfl, trivial⟩⟩⟩
   have Ee : (strOfNums [Du]).size = 1 := CM
   refine GK hr ⟨_, rfl, by rw [Ee, hs]; omega, by decide, fun FT _ => ⟨by unfold AO; omega, ?_⟩⟩
   exact ih (k + 1) FT _ _ (by omega) (by omega) (by rw [ByteArray.size_append, Ee, hs]; omega) (hx.trans (.set fZ))
def rch (u : UInt8) : Bool := decide ((97 ≤ u.toNat ∧ u.toNat ≤ 122) ∨ (48 ≤ u.toNat ∧ u.toNat ≤ 57) ∨ u.toNat = 47 ∨ u.toNat = 46 ∨ u.toNat = 45)
def bJ (s : ByteArray) : Bool := decide (0 < s.size) && decide (s.size ≤ 64) && s.data.toList.all rch
theorem MN {s : ByteArray} (h : R (.returned (.bool (bJ s))) σ) : Spec prog 178 #[.string s] σ R := by
 refine Iq.start ⟨fun h0 => ?_, fun h0 => ⟨fun h1 => ?_, fun h1 => ?_⟩⟩
 · have : ¬ 0 < s.size := by omega
   simpa [bJ, this] using h
 · have : ¬ s.size ≤ 64 := by omega
   simpa [bJ, this] using h
 · refine VL (s := s) (pt := fun k => Iq.Ap R s k σ) (ok := rch) (G := fun t => R (.returned (.bool t)) σ) (fun g => Iq.BI ⟨fun Ag => by omega, fun _ => g⟩) (fun k u hk hu hi good bad => ?_) ?_ (by omega)
   · simp only [rch, decide_eq_true_eq, decide_eq_false_iff_not] at good bad
     refine Iq.BI ⟨fun Ag => ⟨u, by omega, hu, ?_⟩, fun F8 => by omega⟩
     clear h
     generalize u.toNat = n at good bad
     repeat' (first | refine ⟨fun _ => ?_, fun _ => ?_⟩ | exact ⟨hi, good (by omega)⟩ | exact bad (by omega))
   · have e : bJ s = s.data.toList.all rch := by simp [bJ, show 0 < s.size by omega, show s.size ≤ 64 by omega]
     rwa [e] at h
def Bd (q : Option Addr) (n c : Nat) (num : Int) : Obj := .cells #[.slice q n c, .bool false, .bool false, .int .i64 0, .int .i64 0, .int .u64 num] 113 (0, 0)
def slt (a b : ByteArray) : Bool := Op.bytesLess a.toList b.toList
theorem zi {x y : Operand} {a b : ByteArray} {T : TypeId} : YF prog (do eqGuard .lss T x y (.string a) (.string b); binOp .lss T (.string a) (.string b)) σ (.bool (slt a b)) := fun w _ => by
 simp [eqGuard, binOp, Op.stringOp, slt]
variable {q : Option Addr} {c db : Nat} {num : Int} {s f : ByteArray}
theorem Rg (h : σ db = some (Bd q 0 c num)) (hR : R (.returned (.tuple #[.int .i64 0, .bool false])) σ) : Spec prog 237 #[.pointer (some ⟨db, 0, none⟩), .string s] σ R :=
 Cz.start (Cz.DF ⟨db, 0, rfl, q, 0, c, AD h rfl, fun Ag => absurd Ag (by decide), fun _ => ⟨q, 0, c, AD h rfl, fun Ag => absurd Ag (by decide), fun _ => hR⟩⟩)
theorem nM {b o : Nat} (h : σ db = some (Bd (some ⟨b, o, none⟩) 1 c num)) (hl : Hp.ld σ ⟨b, o, none⟩ = some (.string f)) (h1 : slt f s = true → R (.returned (.tuple #[.int .i64 1, .bool false])) σ) (h0 : slt f s = false → R (.returned (.tuple #[.int .i64 0, .bool (decide (f = s))])) σ) :
   Spec prog 237 #[.pointer (some ⟨db, 0, none⟩), .string s] σ R := by
 refine Cz.start (Cz.DF ⟨db, 0, rfl, _, 1, c, AD h rfl, fun _ => ⟨_, 1, c, AD h rfl, b, o, rfl, by omega, f, by simpa using hl, _, zi, fun ht => ⟨by unfold AO; omega, ?_⟩, fun hf => ⟨_, 1, c, AD h rfl, fun _ => ⟨_, 1, c, AD h rfl, b, o, rfl, by omega, f, by simpa using hl, by dsimp only; rw [Xz]; exact h0 hf⟩, fun hh => absurd (by decide) hh⟩⟩, fun hh => absurd (by decide) hh⟩)
 exact Cz.DF ⟨db, 0, rfl, _, 1, c, AD h rfl, fun hh => absurd hh (by decide), fun _ => ⟨_, 1, c, AD h rfl, fun hh => absurd hh (by decide), fun _ => h1 ht⟩⟩
theorem bK (h : σ db = some (Bd q 0 c num)) (hR : R (.returned (.slice none 0 0)) σ) : Spec prog 149 #[.pointer (some ⟨db, 0, none⟩), .string s] σ R :=
 HJ.start (HJ.BX ⟨db, 0, rfl, q, 0, c, AD h rfl, fun Ag => absurd Ag (by decide), fun _ => hR⟩)
theorem sk (h : σ db = some (Bd q 0 c num)) (h0 : bJ s = true → R (.returned (.int .i64 0)) σ) (h1 : ∀ e : Int, e ≠ 0 → R (.returned (.int .i64 e)) σ) : Spec prog 236 #[.pointer (some ⟨db, 0, none⟩), .string s, .bool false] σ R :=
 GX.start ⟨db, 0, rfl, false, AD h rfl, fun hh => (by cases hh), fun _ => MN ⟨_, rfl, fun _ => h1 61 (by decide), fun hn => Rg h ⟨_, _, rfl, fun hh => (by cases hh), fun _ => h0 hn⟩⟩⟩
theorem sn {b o : Nat} (h : σ db = some (Bd (some ⟨b, o, none⟩) 1 c num)) (hl : Hp.ld σ ⟨b, o, none⟩ = some (.string f)) (h0 : slt f s = false → R (.returned (.int .i64 0)) σ) (h1 : ∀ e : Int, e ≠ 0 → R (.returned (.int .i64 e)) σ) : Spec prog 236 #[.pointer (some ⟨db, 0, none⟩), .string s, .bool true] σ R :=
 GX.start ⟨db, 0, rfl, false, AD h rfl, fun hh => (by cases hh), fun _ => MN ⟨_, rfl, fun _ => h1 61 (by decide), fun hn => nM h hl (fun _ => ⟨_, _, rfl, fun _ => ⟨fun _ => h1 62 (by decide), fun hh => (by cases hh)⟩, fun hh => (by cases hh)⟩) fun Ag => ⟨_, _, rfl, fun _ => ⟨fun _ => h1 62 (by decide), fun _ => h0 Ag⟩, fun hh => (by cases hh)⟩⟩⟩
theorem vj {n : Nat} (hR : ∀ Sk, R (.returned (.bool false)) (τ.set db (Bd q n c Sk))) : Spec prog 238 #[.pointer (some ⟨db, 0, none⟩)] (τ.set db (Bd q n c num)) R := by
 refine KR.start ⟨db, 0, rfl, num, Ac rfl, fun x7 _ => ?_⟩
 refine AJ.store Z6 (Hp.AA _ _ _) rfl (by simp) (by simp [Value.cells, Value.oneCell']) ?_
 rw [Hp.set_set]
 have e : (Obj.cells (DX #[.slice q n c, .bool false, .bool false, .int .i64 0, .int .i64 0, .int .u64 num] (0 + 5) (Value.int .u64 x7).cells.toList) 113 (0, 0)) = Bd q n c x7 := by simp [DX, Value.cells, Bd]
 rw [e]
 exact ⟨false, Ac rfl, fun _ => hR x7, fun hh => by cases hh⟩
end
end TwW
end
section
namespace TwW
open Go Tw Go.RowKit Go.Proofs.Tryz
section
variable {τ0 τ : Hp} {R : Rr} {db : Nat} {q p : Option Addr} {n c cc : Nat} {num : Int} {s f : ByteArray}
theorem Gi.zero {k : Nat} {σ : Hp} {p : Option Addr} : Gi k σ p 0 [] := ⟨by simp, by omega, .inl rfl⟩
theorem so : ∀ w, (Go.sizeOf 111).run prog w = .ok 1 w := sizeOf111
theorem sq : ∀ w, (Go.sizeOf 148).run prog w = .ok 1 w := sizeOf148
abbrev I6 (f : ByteArray) (qd : Option Addr) (m d : Nat) (y : Int) : List Value := [.string f, .slice qd m d, .int .i64 y]
theorem iF {f : ByteArray} {qd : Option Addr} {m d : Nat} {y : Int} : CU (I6 f qd m d y) := fun u hu => by
 simp only [I6, List.mem_cons, List.not_mem_nil, or_false] at hu
 rcases hu with rfl | rfl | rfl <;> rfl
theorem dr {T Et : TypeId} [J2 prog T Et 3 48] {vs : List Value} (h3 : vs.length = 3) (h1 : CU vs) {JA : Nat} {o : Obj} {Vj p35 : Option Addr} {Wt c35 : Nat} {Φ : Option Addr → Nat → Nat → Hp → Prop} (hx : Ext τ0 τ) (UE : τ db = none) (ho : Own 3 (τ0.new τ) Vj 0 Wt []) (hl : τ JA = some (.cells vs.toArray Et (0, 0)))
   (hΦ : ∀ q' c' τ', Ext τ0 τ' → τ' db = none → Own 3 (τ0.new τ') q' 1 c' vs → Φ q' 1 c' (τ'.set db o)) :
   AJ prog (Builtin.append_ #[T, T] T #[.slice Vj 0 Wt, .slice (some ⟨JA, 0, none⟩) 1 1]) (τ.set db o) (CS fun yE n47 yF y4 => AJ prog (Builtin.append_ #[T, T] T #[.slice yE n47 yF, .slice p35 0 c35]) y4 (CS Φ)) := by
 refine AJ.BW UE (D6 (ys := vs) hx ho ⟨by omega, by omega, .inr ⟨JA, 0, rfl, EF.of fun j v hj => AD hl (by rw [Nat.zero_add, ← Array.getElem?_toList]; exact hj)⟩⟩ h1 (by omega) fun p4 c4 τ4 Pv Kt _ Y9 => ⟨_, _, _, rfl, ?_⟩)
 refine AJ.BW Y9 (D6 (ys := []) Kt Pv Gi.zero (fun u hu => by cases hu) (by omega) fun p5 c5 τ5 ix SU _ hn5 => ⟨_, _, _, rfl, ?_⟩)
 exact hΦ p5 c5 τ5 SU hn5 (by simpa using ix)
theorem AGQ {qd : Option Addr} {m d : Nat} {y : Int} (hx : Ext τ0 τ) (UE : τ db = none) (hR : ∀ q' c' τ', Ext τ0 τ' → τ' db = none → Own 3 (τ0.new τ') q' 1 c' (I6 f qd m d y) → R (.returned (.tuple #[])) (τ'.set db (Bd q' 1 c' num))) :
   Spec prog 239 #[.pointer (some ⟨db, 0, none⟩), .agg #[.string f, .slice qd m d, .int .i64 y]] (τ.set db (Bd q 0 c num)) R := by
 refine IA.start fun _ => Rg (Hp.AA _ _ _) ⟨_, _, rfl, fun hh => (by cases hh), fun _ => IA.BX (Rg (Hp.AA _ _ _) ⟨_, _, rfl, fun Qh mL => ?_⟩)⟩
 obtain ⟨n28, Yc⟩ := Hp.AL mL
 have cm : ∀ {ρ : Hp} {b : Nat} {o u : Obj}, b ≠ db → (ρ.set db u).set b o = (ρ.set b o).set db u := fun h => Hp.KA (Ne.symm h)
 refine ⟨db, 0, rfl, q, 0, c, by rw [cm n28]; exact Ac rfl, ⟨by omega, by omega⟩, ?_⟩
 rw [cm n28]
 have RP : Ext τ (τ.set Qh (.cells #[] 305 (0, 0))) := .set Yc
 refine AJ.BW (Hp.BD (Ne.symm n28) UE) (D6 (σ0 := τ0) (cs := []) (ys := []) (hx.trans RP) ?_ Gi.zero (fun u hu => by cases hu) (by omega) fun p35 c35 τ1 Ff BH _ PU => ⟨_, _, _, rfl, ?_⟩)
 · exact Own.CV Own.empty fun a ha => by cases ha; exact A4 hx Yc
 refine ⟨q, 0, c, Ac rfl, ⟨by omega, by omega⟩, ?_⟩
 have fin : ∀ (τ2 : Hp) q' c', Ext τ0 τ2 → τ2 db = none → Own 3 (τ0.new τ2) q' 1 c' (I6 f qd m d y) → AJ prog (Instr.storeAt 111 (.pointer (aD db 0)) (.slice q' 1 c')) (τ2.set db (Bd q 0 c num)) (fun _ Ge => R (.returned (.tuple #[])) Ge) := fun τ2 q' c' An NT B1 => by
   refine AJ.store so (Hp.AA _ _ _) rfl (by simp) (by simp [Value.cells, Value.oneCell']) ?_
   rw [Hp.set_set]
   have e : (Obj.cells (DX #[.slice q 0 c, .bool false, .bool false, .int .i64 0, .int .i64 0, .int .u64 num] 0 (Value.slice q' 1 c').cells.toList) 113 (0, 0)) = Bd q' 1 c' num := by simp [DX, Value.cells, Bd]
   rw [e]
   exact hR q' c' τ2 An NT B1
 have tl : ∀ (τ2 : Hp) (Vj : Option Addr) (Wt JA : Nat), Ext τ0 τ2 → τ2 db = none → Own 3 (τ0.new τ2) Vj 0 Wt [] → τ2 JA = some (.cells (I6 f qd m d y).toArray 305 (0, 0)) → _ := fun τ2 Vj Wt JA An NT B1 SX =>
   dr (T := 111) (Et := 305) (db := db) (o := Bd q 0 c num) (p35 := p35) (c35 := c35) (Φ := fun q' n' c' y5 => AJ prog (Instr.storeAt 111 (.pointer (aD db 0)) (.slice q' n' c')) y5 (fun _ Ge => R (.returned (.tuple #[])) Ge)) rfl iF An NT B1 SX fun q' c' τ' h1 h2 h3 => fin τ' q' c' h1 h2 h3
 have C8 : ∀ {ρ : Hp} {b : Nat} {o : Obj}, Ext τ0 ρ → ρ b = none → Ext τ0 (ρ.set b o) := fun h hb => h.trans (.set hb)
 have em : ∀ (τ2 : Hp) (Hn : Nat), Ext τ0 τ2 → τ2 db = none → τ0 Hn = none → Own 3 τ2 (some ⟨Hn, 0, none⟩) 0 0 [] → ∀ {Φ : Value → Hp → Prop}, (∀ p' c' τ', Ext τ0 τ' → Ext (τ2.del (some ⟨Hn, 0, none⟩)) (τ'.del p') → Own 3 (τ0.new τ') p' 0 c' [] → τ' db = none → Φ (.slice p' 0 c') (τ'.set db (Bd q 0 c num))) →
     AJ prog (Builtin.append_ #[111, 111] 111 #[.slice (some ⟨Hn, 0, none⟩) 0 0, .slice q 0 c]) (τ2.set db (Bd q 0 c num)) Φ := fun τ2 Hn An NT hb B1 Φ hΦ => by
   refine AJ.BW NT (Ec (ys := []) B1 Gi.zero (fun u hu => by cases hu) (by omega) fun p' c' τ' EN Cc J1 => hΦ p' c' τ' ?_ Cc ?_ J1)
   · exact CX (fun a ha => by cases ha; exact hb) Cc An
   · exact Own.CV (by simpa using EN) (B2 (fun a ha => by cases ha; exact hb) Cc An)
 refine ⟨fun Hn Rh => ⟨?_, fun JA OC => ?_⟩, fun JA OC Hn Rh => ?_⟩
 · obtain ⟨n37, GN⟩ := Hp.AL Rh
   rw [cm n37]
   refine em _ Hn (C8 BH GN) (Hp.BD (Ne.symm n37) PU) (A4 BH GN) Own.empty fun p' c' τ' h1 _ h3 h4 => ⟨_, _, _, rfl, fun JA OC => ?_⟩
   obtain ⟨n46, GO⟩ := Hp.AL OC
   rw [cm n46]
   exact tl _ _ _ JA (C8 h1 GO) (Hp.BD (Ne.symm n46) h4) (Own.mono (Ext.BV (.set GO)) h3) (Hp.AA _ _ _)
 · obtain ⟨n37, GN⟩ := Hp.AL Rh
   rw [cm n37] at OC ⊢
   obtain ⟨n46, GO⟩ := Hp.AL OC
   rw [cm n46]
   obtain ⟨nN, zj⟩ := Hp.AL GO
   refine em _ Hn (C8 (C8 BH GN) GO) (Hp.BD (Ne.symm n46) (Hp.BD (Ne.symm n37) PU)) (A4 BH GN) (Own.mono (.set GO) Own.empty) fun p' c' τ' h1 h2 h3 h4 => ⟨_, _, _, rfl, ?_⟩
   refine tl _ _ _ JA h1 h4 h3 ?_
   exact (A6.1 (h2 JA _ (A6.2 ⟨fun a ha => (by cases ha; exact nN), Hp.AA _ _ _⟩))).2
 · obtain ⟨n46, GO⟩ := Hp.AL OC
   rw [cm n46] at Rh ⊢
   obtain ⟨n37, GN⟩ := Hp.AL Rh
   rw [cm n37]
   obtain ⟨Ye, bL⟩ := Hp.AL GN
   refine em _ Hn (C8 (C8 BH GO) GN) (Hp.BD (Ne.symm n37) (Hp.BD (Ne.symm n46) PU)) (A4 BH bL) Own.empty fun p' c' τ' h1 h2 h3 h4 => ⟨_, _, _, rfl, ?_⟩
   refine tl _ _ _ JA h1 h4 h3 ?_
   exact (A6.1 (h2 JA _ (A6.2 ⟨fun a ha => (by cases ha; exact Ne.symm Ye), by rw [Hp.AF (Ne.symm Ye), Hp.AA]⟩))).2
theorem nO {xs : List Int} (hx : Ext τ0 τ) (UE : τ db = none) (hr : CA .u8 τ p n xs) (hn : n ≤ 65560) (h1 : ∀ e : Int, e ≠ 0 → R (.returned (.int .i64 e)) (τ.set db (Bd q 0 c num)))
   (hR : ∀ q' c' τ' Sk qd m d y, Ext τ0 τ' → τ' db = none → Own 3 (τ0.new τ') q' 1 c' (I6 s qd m d y) → R (.returned (.int .i64 0)) (τ'.set db (Bd q' 1 c' Sk))) :
   Spec prog 140 #[.pointer (some ⟨db, 0, none⟩), .string s, .slice p n cc] (τ.set db (Bd q 0 c num)) R := by
 have Vq : xs.length = n := hr.1
 refine Fq.start (sk (Hp.AA _ _ _) (fun _ => ⟨_, rfl, fun hh => absurd rfl hh, fun _ => ?_⟩) fun e he => ⟨_, rfl, fun _ => h1 e he, fun hh => absurd he hh⟩)
 refine Rg (Hp.AA _ _ _) ⟨_, _, rfl, fun _ => ⟨fun hh => (by cases hh), fun _ => ?_⟩⟩
 refine Fq.F4 ⟨fun hh => by omega, fun _ => ⟨by unfold AO; omega, fun hh => by omega, fun _ => ⟨fun _ => ⟨db, 0, rfl, q, 0, c, Ac rfl, fun hh => absurd hh (by decide), fun _ => ?_⟩, fun hh => (by cases hh)⟩⟩⟩
 refine vj fun Sk => ⟨_, rfl, fun R5 zk => ?_⟩
 obtain ⟨n60, dt⟩ := Hp.AL zk
 rw [Hp.KA (Ne.symm n60)]
 have ANW : Ext τ (τ.set R5 (.cells #[] 5 (0, 0))) := .set dt
 refine AJ.BW (Hp.BD (Ne.symm n60) UE) (D6 (σ0 := τ) (cs := []) (ys := []) ANW (Own.CV Own.empty fun a ha => by cases ha; exact dt) Gi.zero (fun u hu => by cases hu) (by omega) fun p63 c63 τ1 Ff BH _ PU => ⟨_, _, _, rfl, ?_⟩)
 refine AJ.BW PU (D6 BH Ff ((Gi.of_map hr).mono BH) CU.Cs (by omega) fun p65 c65 τ2 B1 An _ NT => ⟨_, _, _, rfl, ?_⟩)
 exact AGQ (hx.trans An) NT fun q' c' τ' h1 h2 h3 => ⟨rfl, fun hh => (by cases hh), fun _ => hR q' c' τ' _ _ _ _ _ h1 h2 h3⟩
theorem zl {qd : Option Addr} {m d : Nat} {y : Int} (hx : Ext τ0 τ) (UE : τ db = none) (ho : Own 3 (τ0.new τ) q 1 c (I6 f qd m d y)) (hR : ∀ (e : Int) τ' o, Ext τ0 τ' → τ' db = none → R (.returned (.int .i64 e)) (τ'.set db o)) :
   Spec prog 144 #[.pointer (some ⟨db, 0, none⟩), .string s] (τ.set db (Bd q 1 c num)) R := by
 obtain ⟨b, o, arr, T, rfl, hb, fy, Ee, IP⟩ : ∃ b o arr T, q = some ⟨b, o, none⟩ ∧ (τ0.new τ) b = some (.cells arr T (0, 0)) ∧ 1 ≤ c ∧ o + c * 3 ≤ arr.size ∧ (arr.toList.drop o).take (1 * 3) = I6 f qd m d y := by
   rcases ho.2.2 with ⟨_, h2, _⟩ | h
   · exact absurd h2 (by decide)
   · exact h
 obtain ⟨hb0, zm⟩ := AQ.1 hb
 have Ad : b ≠ db := fun e => by rw [e, UE] at zm; cases zm
 have jK : ∀ {u : Obj}, Ext τ (τ.set db u) := .set UE
 have HM := (Own.rd ho)
 obtain ⟨b', o', hp, hl⟩ : ∃ b' o', (some (⟨b, o, none⟩ : Addr)) = some ⟨b', o', none⟩ ∧ EF (τ0.new τ) b' o' (I6 f qd m d y) := by
   rcases HM.2.2 with h | ⟨b', o', hp, hl⟩
   · simp [I6] at h
   · exact ⟨b', o', hp, hl⟩
 cases hp
 have AGR : EF τ b o (I6 f qd m d y) := hl.mono (Ext.Af _ _)
 have lf : ∀ {u : Obj}, Hp.ld (τ.set db u) ⟨b, o, none⟩ = some (.string f) := fun {u} => jK.ld AGR.1
 have ls : ∀ {u : Obj}, Hp.ld (τ.set db u) ⟨b, o + 1, none⟩ = some (.slice qd m d) := fun {u} => jK.ld AGR.2.1
 refine KK.start (sn (Hp.AA _ _ _) lf (fun Ag => ⟨_, rfl, fun hh => absurd rfl hh, fun _ => ?_⟩) fun e he => ⟨_, rfl, fun _ => hR e τ _ hx UE, fun hh => absurd he hh⟩)
 refine vj fun Sk => ⟨_, rfl, fun hh => (by cases hh), fun _ => nM (Hp.AA _ _ _) lf (fun hh => (by rw [Ag] at hh; cases hh)) fun _ => ⟨_, _, rfl, db, 0, rfl, _, 1, c, Ac rfl, _, 1, c, Ac rfl, b, o, rfl, by omega, qd, m, d, by simpa using ls, b, o, rfl, by omega, ?_⟩⟩
 refine AJ.BW UE (AJ.store Hr zm rfl (by simp [Value.cells]; omega) (by simp [Value.cells, Value.oneCell']) fun hn => hR 0 _ _ (fun k u hk => ?_) hn)
 have DD : k ≠ b := fun e => by rw [e, hb0] at hk; cases hk
 rw [Hp.AF DD]; exact hx k u hk
def vk : ByteArray := ⟨#[107, 118]⟩
def Hb (db : Nat) (op sz : Int) : Obj := .cells #[.pointer (some ⟨db, 0, none⟩), .string vk, .int .i64 op, .int .i64 sz, .int .i64 0, .int .i64 0] 146 (0, 0)
variable {wb sb : Nat} {op sz : Int}
theorem Yf {L : List (Nat × Obj)} {i : Nat} {x : Int} (hN : (names L).Nodup) (hO : Hf L τ) (hi : L[i]? = some (wb, Hb db op sz)) (hR : ∀ s τ', Ext τ τ' → Hf L τ' → R (.returned (.string s)) (AX τ' L)) : Spec prog 141 #[.pointer (some ⟨wb, 0, none⟩), .int .i64 x] (AX τ L) R :=
 Ik.start ⟨wb, 0, rfl, vk, IJ hN hi rfl, by decide, Spec.CH hN hO (bI fun s σ' hs hx yZ => ⟨_, rfl, Kp.CG (E4 hx L), by rw [hs]; decide, hR _ σ' hx yZ⟩)⟩
theorem nP {wb db : Nat} {W D : Obj} : Hf [(wb, W), (db, D)] τ ↔ τ wb = none ∧ τ db = none := by simp [Hf, names]
theorem nQ {wb db : Nat} {W D : Obj} (h : wb ≠ db) : (names [(wb, W), (db, D)]).Nodup := by simp [names, h]
theorem AGS {xs : List Int} (hx : Ext τ0 τ) (UE : τ db = none) (hwb : τ wb = none) (Ad : wb ≠ db) (hr : CA .u8 τ p n xs) (h1 : ∀ (e : Int) τ', e ≠ 0 → Ext τ0 τ' → R (.returned (.int .i64 e)) (AX τ' [(wb, Hb db op (-1)), (db, Bd q 0 c num)]))
   (hR : ∀ q' c' τ' Sk s qd m d y zn, 0 ≤ zn → Ext τ0 τ' → τ' db = none → τ' wb = none → Own 3 (τ0.new τ') q' 1 c' (I6 s qd m d y) → R (.returned (.int .i64 0)) (AX τ' [(wb, Hb db op zn), (db, Bd q' 1 c' Sk)])) :
   Spec prog 69 #[.pointer (some ⟨wb, 0, none⟩), .slice p n cc] (AX τ [(wb, Hb db op (-1)), (db, Bd q 0 c num)]) R := by
 refine GV.start (Spec.CH (nQ Ad) (nP.2 ⟨hwb, UE⟩) (Vb hr (fun _ => ⟨_, _, _, _, rfl, fun _ => h1 70 τ (by decide) hx, fun hh => absurd (by decide) hh⟩) fun p1 n1 c1 τ1 ys Ff PU BH yZ => ?_))
 refine ⟨_, _, _, _, rfl, fun hh => absurd rfl hh, fun _ => ⟨wb, 0, rfl, -1, IJ (i := 0) (nQ Ad) rfl rfl, fun hh => absurd hh (by decide), fun _ => GV.Pm ⟨wb, 0, rfl, _, IJ (i := 0) (nQ Ad) rfl rfl, op, IJ (i := 0) (nQ Ad) rfl rfl, ?_⟩⟩⟩
 refine Yf (i := 0) (nQ Ad) yZ rfl fun s τ2 An Sj => ⟨_, rfl, Kp.CG (E4 An _), ?_⟩
 obtain ⟨hw2, PN⟩ := nP.1 Sj
 show Spec prog 140 _ ((τ2.set db (Bd q 0 c num)).set wb (Hb db op (-1))) _
 refine Spec.BW (Hp.BD Ad hw2) (nO ((hx.trans BH).trans An) PN ((AS.rd (Own.mono (Ext.Af _ _) Ff)).mono An) PU (fun e he _ => ⟨_, rfl, fun _ => h1 e τ2 he ((hx.trans BH).trans An), fun hh => absurd he hh⟩) fun q' c' τ' Sk qd m d y DR iq Dl hw3 => ⟨_, rfl, fun hh => absurd rfl hh, fun _ => ⟨-1, Ac rfl, by unfold AO; simp; omega, ?_⟩⟩)
 obtain ⟨_, zo⟩ := Hp.AL hw3
 refine AJ.store Hr (Hp.AA _ _ _) rfl (by simp) (by simp [Value.cells, Value.oneCell']) ?_
 rw [Hp.set_set]
 have e : (Obj.cells (DX #[.pointer (some ⟨db, 0, none⟩), .string vk, .int .i64 op, .int .i64 (-1), .int .i64 0, .int .i64 0] (0 + 3) (Value.int .i64 ((if (-1 : Int) < 0 then 0 else (-1)) + (n1 : Int))).cells.toList) 146 (0, 0)) = Hb db op n1 := by simp [DX, Value.cells, Hb]
 rw [e]
 exact hR q' c' τ' Sk s qd m d y n1 (by omega) DR iq zo Dl
theorem zp {qd : Option Addr} {m d : Nat} {y : Int} (Ee : 0 ≤ sz) (hx : Ext τ0 τ) (UE : τ db = none) (hwb : τ wb = none) (Ad : wb ≠ db) (ho : Own 3 (τ0.new τ) q 1 c (I6 f qd m d y)) (hR : ∀ (e : Int) τ' o, Ext τ0 τ' → τ' db = none → τ' wb = none → R (.returned (.int .i64 e)) (AX τ' [(wb, Hb db op sz), (db, o)])) :
   Spec prog 71 #[.pointer (some ⟨wb, 0, none⟩)] (AX τ [(wb, Hb db op sz), (db, Bd q 1 c num)]) R := by
 refine Li.start ⟨wb, 0, rfl, sz, IJ (i := 0) (nQ Ad) rfl rfl, fun hh => by omega, fun _ => ⟨_, IJ (i := 0) (nQ Ad) rfl rfl, op, IJ (i := 0) (nQ Ad) rfl rfl, ?_⟩⟩
 refine Yf (i := 0) (nQ Ad) (nP.2 ⟨hwb, UE⟩) rfl fun s τ2 An Sj => ⟨_, rfl, Kp.CG (E4 An _), ?_⟩
 obtain ⟨hw2, PN⟩ := nP.1 Sj
 show Spec prog 144 _ ((τ2.set db (Bd q 1 c num)).set wb (Hb db op sz)) _
 refine Spec.BW (Hp.BD Ad hw2) (zl (hx.trans An) PN (Own.mono (Ext.BV An) ho) fun e τ' o h1 h2 hw3 => ⟨_, rfl, ?_⟩)
 obtain ⟨_, zo⟩ := Hp.AL hw3
 exact hR e τ' o h1 h2 zo
def FR (wb : Nat) (q : Option Addr) (n c : Nat) : Obj := .cells #[.pointer (some ⟨wb, 0, none⟩), .slice q n c] 150 (0, 0)
theorem zq : bJ vk = true := by decide
theorem AGV (UE : τ db = none) (hR : ∀ wb τ', Ext τ τ' → τ' db = none → τ' wb = none → wb ≠ db → R (.returned (.tuple #[.pointer (some ⟨wb, 0, none⟩), .slice none 0 0, .int .i64 0])) (AX τ' [(wb, Hb db 1 (-1)), (db, Bd q 0 c num)])) :
   Spec prog 97 #[.pointer (some ⟨db, 0, none⟩), .string vk] (τ.set db (Bd q 0 c num)) R := by
 have h0 : (τ.set db (Bd q 0 c num)) db = some (Bd q 0 c num) := Hp.AA _ _ _
 refine Gx.start ⟨fun hh => absurd hh (by decide), fun _ => MN ⟨_, rfl, fun hh => (by rw [zq] at hh; cases hh), fun _ => ⟨db, 0, rfl, false, Ac rfl, fun hh => (by cases hh), fun _ => ?_⟩⟩⟩
 refine Io.start ⟨by decide, bK h0 ⟨_, _, _, rfl, Io.rG ⟨fun hh => absurd hh (by decide), fun _ => ⟨by decide, Rg h0 ⟨_, _, rfl, fun hh => (by cases hh), fun _ => Io.JN (Io.rH ⟨fun hh => absurd hh (by decide), fun _ => ?_⟩)⟩⟩⟩⟩⟩
 refine ⟨_, _, rfl, fun hh => absurd rfl hh, fun _ => ⟨fun hh => absurd hh (by decide), fun _ => Gx.Ur ⟨by decide, bK h0 ⟨_, _, _, rfl, Gx.qg ⟨fun hh => absurd hh (by decide), fun _ => Gx.qh ⟨fun hh => absurd hh (by decide), fun _ => Gx.qi fun wb hwb => ?_⟩⟩⟩⟩⟩⟩
 obtain ⟨Ad, ANX⟩ := Hp.AL hwb
 have hM : ∀ {u : Obj}, ((τ.set db (Bd q 0 c num)).set wb u) db = some (Bd q 0 c num) := fun {u} => by rw [Hp.AF (Ne.symm Ad)]; exact h0
 refine HF.start ⟨wb, 0, rfl, _, Ac rfl, vk, Ac rfl, by decide, bK hM ⟨_, _, _, rfl, ?_⟩⟩
 refine AJ.store Hr (Hp.AA _ _ _) rfl (by simp) (by simp [Value.cells, Value.oneCell']) ?_
 rw [Hp.set_set]
 refine AJ.store Hr (Hp.AA _ _ _) rfl (by simp [Dm]) (by simp [Value.cells, Value.oneCell']) ?_
 rw [Hp.set_set]
 refine AJ.store Hr (Hp.AA _ _ _) rfl (by simp [Dm]) (by simp [Value.cells, Value.oneCell']) ?_
 rw [Hp.set_set]
 refine AJ.store Hr (Hp.AA _ _ _) rfl (by simp [Dm]) (by simp [Value.cells, Value.oneCell']) ?_
 rw [Hp.set_set]
 have e : (Obj.cells (DX (DX (DX (DX #[.pointer (some ⟨db, 0, none⟩), .string vk, .int .i64 0, .int .i64 0, .int .i64 0, .int .i64 0] (0 + 4) (Value.int .i64 0).cells.toList) (0 + 2) (Value.int .i64 0).cells.toList) (0 + 3) (Value.int .i64 (-1)).cells.toList) (0 + 5) (Value.int .i64 0).cells.toList) 146 (0, 0)) = Hb db 0 (-1) := by simp [DX, Value.cells, Hb]
 rw [e]
 refine HF.BI ⟨fun hh => absurd hh (by decide), fun _ => ⟨wb, 0, rfl, -1, Ac rfl, fun _ => ⟨0, Ac rfl, by unfold AO; decide, ?_⟩, fun hh => absurd (by decide) hh⟩⟩
 refine AJ.store Hr (Hp.AA _ _ _) rfl (by simp) (by simp [Value.cells, Value.oneCell']) ?_
 rw [Hp.set_set]
 have e2 : (Obj.cells (DX #[.pointer (some ⟨db, 0, none⟩), .string vk, .int .i64 0, .int .i64 (-1), .int .i64 0, .int .i64 0] (0 + 2) (Value.int .i64 ((if (0 : Int) < 0 then 0 else 0) + 1)).cells.toList) 146 (0, 0)) = Hb db 1 (-1) := by simp [DX, Value.cells, Hb]
 rw [e2]
 exact ⟨rfl, hR wb τ (.refl _) UE ANX Ad⟩
theorem VI {sb wb db : Nat} {S W D : Obj} : Hf [(sb, S), (wb, W), (db, D)] τ ↔ τ sb = none ∧ τ wb = none ∧ τ db = none := by simp [Hf, names]
theorem nd3 {sb wb db : Nat} {S W D : Obj} (h : wb ≠ db) (h1 : sb ≠ wb) (h2 : sb ≠ db) : (names [(sb, S), (wb, W), (db, D)]).Nodup := by simp [names, h, h1, h2]
def vm (σ : Hp) (sb : Nat) (τ : Hp) : Prop := ∃ wb db q c num ρ, σ = AX ρ [(sb, FR wb none 0 0), (wb, Hb db 1 (-1)), (db, Bd q 0 c num)] ∧ ρ sb = none ∧ ρ wb = none ∧ ρ db = none ∧ wb ≠ db ∧ sb ≠ wb ∧ sb ≠ db ∧ Ext τ ρ
theorem Vc (UE : τ db = none) (hR : ∀ sb σ', vm σ' sb τ → R (.returned (.tuple #[.pointer (some ⟨sb, 0, none⟩), .int .i64 0])) σ') : Spec prog 43 #[.pointer (some ⟨db, 0, none⟩)] (τ.set db (Bd q 0 c num)) R := by
 refine MB.start (AGV UE fun wb τ' hx hd hw Ad => ⟨_, _, _, _, _, rfl, fun hh => absurd rfl hh, fun _ sb hsb => MB.Uo ⟨fun hh => absurd hh (by decide), fun _ => ?_⟩⟩)
 obtain ⟨hn, ANY⟩ := B3 hsb
 simp [names] at hn
 exact hR sb _ ⟨wb, db, q, c, num, τ', rfl, ANY, hw, hd, Ad, hn.1, hn.2, hx⟩
end
end TwW
end
