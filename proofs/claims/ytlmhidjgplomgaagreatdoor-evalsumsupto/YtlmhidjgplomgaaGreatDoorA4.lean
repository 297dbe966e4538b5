/-
  Part 4 of the proof that the law EvalSumsUptoCardSaid of the given program answers true for every input of the given statement; the input reads behind the call as it did. (The texts: packed from 29 texts. Names are shortened by the packing program, for the bound on size.)
-/
import Derived.Test.YtlmhidjgplomgaaGreatDoorA3
import Derived.Shelf.Strings.Search3
import Derived.Shelf.Strings.Split
import Derived.Test.YtlmhidjgplomgaaGreatDoorProg
import Derived.Lib.IndexMore
import Derived.Shelf.SlSortCmp.NoneTotal
import Derived.Shelf.SlGeneric
import Derived.Ground.SlsfProg
set_option linter.all false
section
namespace TwW
open Go Tw Go.RowKit Go.Proofs.Tryz
section
variable [Ey] {σ : Hp} {R : Rr}
def T5 (op a b : Int) : Bool := fCm op a.toNat b.toNat
theorem JC {op a b : Int} (h : R (.returned (.tuple #[.bool (T5 op a b),.bool (decide (5 ≤ op ∧ op ≤ 10))])) σ) : Spec prog 204 #[.int .i64 op,.int .u64 a,.int .u64 b] σ R := by
 have fin : ∀ {k : Int} {t : Bool},op = k → 5 ≤ k → k ≤ 10 → fCm k a.toNat b.toNat = t → R (.returned (.tuple #[.bool t,.bool true])) σ := fun hk h5 Sk ht => by
   subst hk
   rw [show T5 op a b = fCm op a.toNat b.toNat from rfl,ht,show decide (5 ≤ op ∧ op ≤ 10) = true from decide_eq_true ⟨h5,Sk⟩] at h
   exact h
 refine Nb.start (GV ⟨_,rfl,GV ⟨_,rfl,
   fun h1 => ⟨_,fun w _ => rfl,fin h1 (by decide) (by decide) rfl⟩,fun h1 =>
   ⟨fun h2 => ⟨_,fun w _ => rfl,fin h2 (by decide) (by decide) rfl⟩,fun h2 =>
   ⟨fun h3 => ⟨_,fun w _ => rfl,fin h3 (by decide) (by decide) rfl⟩,fun h3 =>
   ⟨fun h4 => ⟨_,fun w _ => rfl,fin h4 (by decide) (by decide) rfl⟩,fun h4 =>
   ⟨fun h5 => ⟨_,fun w _ => rfl,fin h5 (by decide) (by decide) rfl⟩,fun h5 =>
   ⟨fun h6 => ⟨_,fun w _ => rfl,fin h6 (by decide) (by decide) rfl⟩,fun h6 => ?_⟩⟩⟩⟩⟩⟩⟩)
 rw [show decide (5 ≤ op ∧ op ≤ 10) = false from decide_eq_false (by omega),show T5 op a b = false by unfold T5 fCm; simp only [h1,h2,h3,h4,h5,h6,if_false]] at h
 exact h
def br (x : Int) : Int := (toF (Go.bits .andNot .u64 x 9223372036854775808).toNat : Nat)
theorem oa {x : Int} (hx : 0 ≤ x) (h : R (.returned (.int .u64 (br x))) σ) : Spec prog 144 #[.int .u64 x] σ R := by
 refine NZ.start (GV ⟨_,rfl,Xp.start (.y No ⟨_,rfl,fun x5 h5 => .y Oo ⟨_,rfl,_,rfl,GX ⟨_,rfl,?_⟩⟩⟩)⟩)
 rw [show br x = (toF x5.toNat : Nat) by unfold br; rw [h5,Int.toNat_of_nonneg hx]] at h
 exact h
def Mp (x : Nat) : Nat := match Ieee.double.read x with
 | .nan _ _ => 9221120237041090560
 | d => toF (Ieee.double.write (d.integral .down))
def WH (x : Int) : Int := (Mp x.toNat : Nat)
theorem Ot (x : Nat) : Jg x = (Ieee.double.read x).isNaN := by
 show (!((Ieee.double.read x).order (Ieee.double.read x) == some .eq)) = _
 rw [Sv]
 cases (Ieee.double.read x).isNaN <;> rfl
theorem bu (s : Bool) (t : Nat) : Jg (Ieee.double.write (.nan s (Ieee.double.quiet t))) = true := by
 rw [Nn]
 have e1 : Ieee.double.signWeight = 9223372036854775808 := by decide
 have e2 : Ieee.double.binade = 4503599627370496 := by decide
 have e3 : Ieee.double.infRung = 9218868437227405312 := by decide
 have hp : (Ieee.double.quiet t % 4503599627370496).testBit 51 = true := by
   rw [show 4503599627370496 = 2 ^ 52 from rfl,Nat.testBit_mod_two_pow]
   show (decide (51 < 52) && (t ||| 2 ^ 51).testBit 51) = true
   rw [Nat.testBit_or,Nat.testBit_two_pow_self]
   simp
 have hp0 : 0 < Ieee.double.quiet t % 4503599627370496 := by
   apply Nat.pos_of_ne_zero
   intro h0
   rw [h0] at hp
   simp at hp
 have An := Nat.mod_lt (Ieee.double.quiet t) (show 0 < 4503599627370496 by decide)
 show 9218868437227405312 < Ieee.double.word s (Ieee.double.infRung + Ieee.double.quiet t % Ieee.double.binade) % 9223372036854775808
 unfold Ieee.Format.word
 rw [e1,e2,e3]
 generalize Ieee.double.quiet t % 4503599627370496 = p at *
 cases s
 · rw [if_neg (by decide)]; omega
 · rw [if_pos rfl]; omega
def flo (x : Nat) : Sem Value := match Ieee.double.read x with
 | .nan s t => if Ieee.double.quiet t = t then pure (.float .f64 x) else do
   let kept ← choose (.extern "math.Floor,Ceil,Trunc,RoundToEven.signallingNaN kept" 2)
   pure (.float .f64 (if kept == 1 then x else Ieee.double.write (.nan s (Ieee.double.quiet t))))
 | d => pure (.float .f64 (Ieee.double.write (d.integral .down)))
theorem od {x : Nat} {Φ : Value → Hp → Prop} (h : ∀ y : Nat,toF y = Mp x → Φ (.float .f64 y) σ) : EN prog 222 #[.float .f64 x] σ Φ := by
 have Cg : ∀ w,(callFunc 222 #[.float .f64 x]).run prog w = ((flo x).run prog w).andThen fun v w' => .ok (.value v) w' := fun w => by
   rw [run_callFunc_extern Go.Proofs.Tryz.func222 (by kernel_rfl) (by kernel_rfl) (by kernel_rfl) (e := Extern.MathFloor.toIntegral "math.archFloor" .down) (by kernel_rfl)]
   rfl
 have same : ∀ y,flo x = pure (.float .f64 y) → toF y = Mp x → EN prog 222 #[.float .f64 x] σ Φ := fun y hy hf => .y (v := .float .f64 y) (fun w _ => by rw [Cg,hy]; rfl) (h y hf)
 cases hd : Ieee.double.read x with
 | number s m i => exact same _ (by unfold flo; rw [hd]) (by unfold Mp; rw [hd])
 | infinity s => exact same _ (by unfold flo; rw [hd]) (by unfold Mp; rw [hd])
 | nan s t =>
   have hx : Jg x = true := by rw [Ot,hd]; rfl
   have hn : Mp x = 9221120237041090560 := by unfold Mp; rw [hd]
   have e1 : toF x = 9221120237041090560 := by unfold toF; rw [hx]; rfl
   by_cases hq : Ieee.double.quiet t = t
   · exact same x (by unfold flo; rw [hd]; simp only [hq,if_true]) (by rw [e1,hn])
   · intro w F hs hF
     refine ⟨.float .f64 (if (Question.cut (.extern "math.Floor,Ceil,Trunc,RoundToEven.signallingNaN kept" 2) (w.tape w.drawn (.extern "math.Floor,Ceil,Trunc,RoundToEven.signallingNaN kept" 2))) == 1 then x else Ieee.double.write (.nan s (Ieee.double.quiet t))),{ w with drawn := w.drawn + 1 },σ,?_,?_,⟨fun b o hb => hs b o hb,fun b hb => ⟨(hF b hb).2,rfl⟩,(Cf.same rfl rfl rfl).drew,rfl,Nat.le_refl _⟩⟩
     · rw [Cg]
       unfold flo
       rw [hd]
       simp only [hq,if_false]
       rfl
     · refine h _ ?_
       rw [hn]
       split
       · exact e1
       · unfold toF; rw [bu]; rfl
theorem bw {x : Int} (h : R (.returned (.int .u64 (WH x))) σ) : Spec prog 145 #[.int .u64 x] σ R :=
 I6.start (GV ⟨_,rfl,Sf.start (od fun y hy => ⟨_,rfl,_,rfl,GX ⟨_,rfl,by rw [hy]; exact h⟩⟩)⟩)
def BX (n : Int) : Int := (FloatKind.f64.nearest n : Nat)
theorem JD {n : Int} (h : R (.returned (.int .u64 (BX n))) σ) : Spec prog 143 #[.int .i64 n] σ R :=
 Se.start (IP (v := .float .f64 (FloatKind.f64.nearest n)) (fun w => by kernel_rfl) ⟨_,rfl,.y No ⟨_,rfl,h⟩⟩)
theorem bz {b : Bool} (h : R (.returned (.int .u64 (if b then BX 1 else BX 0))) σ) : Spec prog 205 #[.bool b] σ R :=
 SS.start ⟨fun ht => JD ⟨_,rfl,by rw [ht] at h; exact h⟩,fun hf => JD ⟨_,rfl,by rw [hf] at h; exact h⟩⟩
theorem Y8 {a b : Int} (h : R (.returned (.int .u64 (Oq 1 a b))) σ) : Spec prog 201 #[.int .u64 a,.int .u64 b] σ R := eval_add.start (JB ⟨_,_,rfl,h⟩)
theorem Y9 {a b : Int} (h : R (.returned (.int .u64 (Oq 2 a b))) σ) : Spec prog 190 #[.int .u64 a,.int .u64 b] σ R := Yb.start (JB ⟨_,_,rfl,h⟩)
theorem ZA {a b : Int} (h : R (.returned (.int .u64 (Oq 4 a b))) σ) : Spec prog 194 #[.int .u64 a,.int .u64 b] σ R := Xz.start (JB ⟨_,_,rfl,h⟩)
theorem oe {a : Int} (h : R (.returned (.bool (decide (nrm a = 9221120237041090560)))) σ) : Spec prog 229 #[.int .u64 a] σ R := X0.start (Fu ⟨_,rfl,h⟩)
def xi (x : Int) : Int := nrm (Go.bits .xor .u64 x 9223372036854775808)
theorem Pg {x : Int} (h : R (.returned (.int .u64 (xi x))) σ) : Spec prog 162 #[.int .u64 x] σ R := PY.start fun x4 h4 => Fu ⟨_,rfl,by rw [h4]; exact h⟩
end
end TwW
end
section
namespace TwW
open Go Tw Go.RowKit Go.Proofs.Tryz
section
variable [Ey] {σ : Hp} {R : Rr}
def QG : List Int → Int
 | [] => 0
 | v :: l => l.foldl (Oq 1) (nrm v)
theorem Sx {p : Option Addr} {n c : Nat} {vs : List Int} (hr : E7 .u64 σ p n vs) (h0 : 0 < n) (hc : n ≤ c) (h : R (.returned (.int .u64 (QG vs))) σ) : Spec prog 151 #[.slice p n c] σ R := by
 have hl : vs.length = n := hr.1
 obtain ⟨v,hv⟩ := hr.ex h0
 obtain ⟨b,o,rfl,ES⟩ := E7.at hr hv
 refine Fp.start ⟨b,o,rfl,by omega,v,by simpa using ES,Fu ⟨_,rfl,by omega,?_⟩⟩
 have hs : E7 .u64 σ (Ic (aD b o) 1 c 1) (n - 1) ((vs.drop 1).take (n - 1)) := Ad.sub hr (by decide) (by omega) hc
 have hd : (vs.drop 1).take (n - 1) = vs.tail := by rw [List.drop_one,List.take_of_length_le (by rw [List.length_tail]; omega)]
 rw [hd] at hs
 have dq : vs = v :: vs.tail := by
   cases vs with
   | nil => cases hv
   | cons a l => simp only [List.getElem?_cons_zero,Option.some.injEq] at hv; rw [hv]; rfl
 rw [dq] at h
 change R (.returned (.int .u64 (vs.tail.foldl (Oq 1) (nrm v)))) σ at h
 generalize Ic (aD b o) 1 c 1 = q at *
 suffices H : ∀ g k : Nat,∀ (q' : Option Addr) (a : Int),(0 < n - 1 → q' = q) → n - 1 - k = g → k ≤ n - 1 → vs.tail.foldl (Oq 1) (nrm v) = (vs.tail.drop k).foldl (Oq 1) a → Fp.A8 R a q (n - 1) (c - 1) ((n - 1 : Nat) : Int) k σ from H (n - 1) 0 q (nrm v) (fun _ => rfl) (by omega) (by omega) rfl
 intro g
 induction g with
 | zero =>
   intro k q' a _ hg hk he
   refine Fp.Aa ⟨fun An => by omega,fun _ => ?_⟩
   rw [List.drop_eq_nil_of_le (by rw [List.length_tail]; omega)] at he
   rw [he] at h; exact h
 | succ g ih =>
   intro k q' a hq hg hk he
   obtain ⟨x,hx⟩ := hs.ex (k := k) (by omega)
   obtain ⟨b',o',rfl,Z4⟩ := E7.at hs hx
   rw [BC hx] at he
   refine Fp.Aa ⟨fun _ => ⟨b',o',rfl,by omega,x,by simpa using Z4,Y8 ⟨_,rfl,AK (by omega : k < n - 1) hs.big,ih (k + 1) _ _ (fun _ => rfl) (by omega) (by omega) he⟩⟩,fun hh => by omega⟩
theorem Mq {p : Option Addr} {n c : Nat} (h : R (.returned (.int .u64 (BX n))) σ) : Spec prog 155 #[.slice p n c] σ R :=
 Gw.start (JD ⟨_,rfl,h⟩)
theorem Nq {p : Option Addr} {n c : Nat} {vs : List Int} (hr : E7 .u64 σ p n vs) (h0 : 0 < n) (hc : n ≤ c) (h : R (.returned (.int .u64 (Oq 4 (QG vs) (BX n)))) σ) : Spec prog 154 #[.slice p n c] σ R :=
 Ei.start (Sx hr h0 hc ⟨_,rfl,Mq ⟨_,rfl,ZA ⟨_,rfl,h⟩⟩⟩)
def QH (op : Int) (out v : Int) : Int := if T5 op v out = true ∨ nrm out = 9221120237041090560 then v else out
def Jc (op : Int) : List Int → Int
 | [] => 0
 | v :: l => nrm (l.foldl (QH op) v)
theorem U2 {op : Int} {p : Option Addr} {n c : Nat} {vs : List Int} (hr : E7 .u64 σ p n vs) (h0 : 0 < n) (hc : n ≤ c) (h : R (.returned (.int .u64 (Jc op vs))) σ) : Spec prog 202 #[.int .i64 op,.slice p n c] σ R := by
 have hl : vs.length = n := hr.1
 obtain ⟨v,hv⟩ := hr.ex h0
 obtain ⟨b,o,rfl,ES⟩ := E7.at hr hv
 refine FK.start ⟨b,o,rfl,by omega,v,by simpa using ES,by omega,?_⟩
 have hs : E7 .u64 σ (Ic (aD b o) 1 c 1) (n - 1) ((vs.drop 1).take (n - 1)) := Ad.sub hr (by decide) (by omega) hc
 have hd : (vs.drop 1).take (n - 1) = vs.tail := by rw [List.drop_one,List.take_of_length_le (by rw [List.length_tail]; omega)]
 rw [hd] at hs
 have dq : vs = v :: vs.tail := by
   cases vs with
   | nil => cases hv
   | cons a l => simp only [List.getElem?_cons_zero,Option.some.injEq] at hv; rw [hv]; rfl
 rw [dq] at h
 change R (.returned (.int .u64 (nrm (vs.tail.foldl (QH op) v)))) σ at h
 generalize Ic (aD b o) 1 c 1 = q at *
 suffices H : ∀ g k : Nat,∀ (a : Int),n - 1 - k = g → k ≤ n - 1 → vs.tail.foldl (QH op) v = (vs.tail.drop k).foldl (QH op) a → FK.A8 R op a q (n - 1) (c - 1) ((n - 1 : Nat) : Int) k σ from H (n - 1) 0 v (by omega) (by omega) rfl
 intro g
 induction g with
 | zero =>
   intro k a hg hk he
   refine FK.Aa ⟨fun An => by omega,fun _ => Fu ⟨_,rfl,?_⟩⟩
   rw [List.drop_eq_nil_of_le (by rw [List.length_tail]; omega)] at he
   rw [he] at h; exact h
 | succ g ih =>
   intro k a hg hk he
   obtain ⟨x,hx⟩ := hs.ex (k := k) (by omega)
   obtain ⟨b',o',rfl,Z4⟩ := E7.at hs hx
   rw [BC hx,List.foldl_cons] at he
   have go : ∀ y,QH op a x = y → FK.lR R op y (aD b' o') (n - 1) (c - 1) ((n - 1 : Nat) : Int) k σ := fun y hy => FK.tC ⟨AK (by omega : k < n - 1) hs.big,ih (k + 1) y (by omega) (by omega) (by rw [← hy]; exact he)⟩
   refine FK.Aa ⟨fun _ => ⟨b',o',rfl,by omega,x,by simpa using Z4,JC ⟨_,_,rfl,fun ht => go x (by unfold QH; rw [if_pos (.inl ht)]),fun hf => oe ⟨_,rfl,fun ht => go x ?_,fun hn => go a ?_⟩⟩⟩,fun hh => by omega⟩
   · unfold QH; rw [if_pos (.inr (of_decide_eq_true ht))]
   · unfold QH; rw [if_neg (by
                                 rintro (h1 | h1)
                                 · rw [h1] at hf; cases hf
                                 · exact absurd h1 (of_decide_eq_false hn))]
theorem Sz {p : Option Addr} {n c : Nat} {vs : List Int} (hr : E7 .u64 σ p n vs) (h0 : 0 < n) (hc : n ≤ c) (h : R (.returned (.int .u64 (Jc 7 vs))) σ) : Spec prog 152 #[.slice p n c] σ R := G0.start (U2 hr h0 hc ⟨_,rfl,h⟩)
theorem MT {p : Option Addr} {n c : Nat} {vs : List Int} (hr : E7 .u64 σ p n vs) (h0 : 0 < n) (hc : n ≤ c) (h : R (.returned (.int .u64 (Jc 9 vs))) σ) : Spec prog 153 #[.slice p n c] σ R := Dl.start (U2 hr h0 hc ⟨_,rfl,h⟩)
def Nr (out : Int) (p : Int × Int) : Int := if T5 7 p.2 p.1 = true then Oq 1 out p.1 else out
def Ns (vs : List Int) : Int := (vs.zip vs.tail).foldl Nr (Oq 2 (vs.getLast?.getD 0) (vs.head?.getD 0))
theorem S0 {p : Option Addr} {n c : Nat} {vs : List Int} (hr : E7 .u64 σ p n vs) (h0 : 0 < n) (h : R (.returned (.int .u64 (Ns vs))) σ) : Spec prog 192 #[.slice p n c] σ R := by
 have hl : vs.length = n := hr.1
 have Ho := hr.big
 obtain ⟨v,hv⟩ := hr.ex h0
 obtain ⟨z,hz⟩ := hr.ex (k := n - 1) (by omega)
 obtain ⟨b,o,rfl,ES⟩ := E7.at hr hv
 obtain ⟨_,_,he,xj⟩ := E7.at hr hz
 cases he
 have e1 : Int.toNat ((n : Int) - 1) = n - 1 := by omega
 refine EA.start ⟨by unfold AN; omega,b,o,rfl,by omega,z,by rw [e1]; exact xj,by omega,v,by simpa using ES,Y9 ⟨_,rfl,?_⟩⟩
 have AHZ : Ns vs = (vs.zip vs.tail).foldl Nr (Oq 2 z v) := by
   unfold Ns
   rw [List.getLast?_eq_getElem?,hl,hz,List.head?_eq_getElem?,hv]; rfl
 rw [AHZ] at h
 suffices H : ∀ g k : Nat,∀ a : Int,n - 1 - k = g → k ≤ n - 1 → (vs.zip vs.tail).foldl Nr (Oq 2 z v) = ((vs.zip vs.tail).drop k).foldl Nr a → EA.Bk R (aD b o) n c a ((k + 1 : Nat) : Int) σ from H (n - 1) 0 _ (by omega) (by omega) rfl
 have hlen : (vs.zip vs.tail).length = n - 1 := by rw [List.length_zip,List.length_tail]; omega
 intro g
 induction g with
 | zero =>
   intro k a hg hk he
   refine EA.A5 ⟨fun An => by omega,fun _ => ?_⟩
   rw [List.drop_eq_nil_of_le (by omega)] at he
   rw [he] at h; exact h
 | succ g ih =>
   intro k a hg hk he
   obtain ⟨x,hx⟩ := hr.ex (k := k) (by omega)
   obtain ⟨y,hy⟩ := hr.ex (k := k + 1) (by omega)
   obtain ⟨_,_,h1,Z4⟩ := E7.at hr hx
   obtain ⟨_,_,h2,bo⟩ := E7.at hr hy
   cases h1; cases h2
   have ANR : (vs.zip vs.tail)[k]? = some (x,y) := by
     rw [List.getElem?_zip_eq_some]
     exact ⟨hx,by rw [List.getElem?_tail]; exact hy⟩
   rw [BC ANR,List.foldl_cons] at he
   have e2 : Int.toNat (((k + 1 : Nat) : Int) - 1) = k := by omega
   have e3 : Int.toNat ((k + 1 : Nat) : Int) = k + 1 := by omega
   have go : ∀ w,Nr a (x,y) = w → EA.Xm R (aD b o) n c w ((k + 1 : Nat) : Int) σ := fun w hw => EA.QZ ⟨AK (by omega : k + 1 < n) hr.big,ih (k + 1) w (by omega) (by omega) (by rw [← hw]; exact he)⟩
   refine EA.A5 ⟨fun _ => ⟨b,o,rfl,by omega,y,by rw [e3]; exact bo,by unfold AN; omega,by omega,x,by rw [e2]; exact Z4,JC ⟨_,_,rfl,fun ht => ⟨by unfold AN; omega,by omega,x,by rw [e2]; exact Z4,Y8 ⟨_,rfl,go _ ?_⟩⟩,fun hf => go _ ?_⟩⟩,fun hh => by omega⟩
   · unfold Nr; rw [if_pos ht]
   · unfold Nr; rw [if_neg (by rw [hf]; decide)]
end
end TwW
end
section
namespace TwW
open Go Tw Go.RowKit Go.Proofs.Tryz
theorem ZB {x : Nat} (h : Jg x = true) : ∃ s t,Ieee.double.read x = .nan s t := by
 rw [Ot] at h
 cases hd : Ieee.double.read x with
 | nan s t => exact ⟨s,t,rfl⟩
 | number => rw [hd] at h; cases h
 | infinity => rw [hd] at h; cases h
theorem xk {op : Int} {a b : Nat} (h : Jg a = true) : fAr op a b = none := by
 obtain ⟨s,t,hr⟩ := ZB h
 unfold fAr Ieee.Format.add Ieee.Format.sub Ieee.Format.mul Ieee.Format.div
 rw [hr]
 simp [Ieee.Datum.sum,Ieee.Datum.product,Ieee.Datum.quotient]
theorem xl {op : Int} {a b : Nat} (h : Jg b = true) : fAr op a b = none := by
 obtain ⟨s,t,hr⟩ := ZB h
 unfold fAr Ieee.Format.add Ieee.Format.sub Ieee.Format.mul Ieee.Format.div
 rw [hr]
 cases Ieee.double.read a <;> simp [Ieee.Datum.sum,Ieee.Datum.product,Ieee.Datum.quotient,Ieee.Datum.opposite]
theorem S1 (op : Int) (a b : Nat) : Wv op (toF a) (toF b) = Wv op a b := by
 unfold Wv
 by_cases ha : Jg a = true
 · rw [xk ha,show toF a = 9221120237041090560 by unfold toF; rw [ha]; rfl,xk Y7]
 · rw [show toF a = a by unfold toF; rw [if_neg ha]]
   by_cases hb : Jg b = true
   · rw [xl hb,show toF b = 9221120237041090560 by unfold toF; rw [hb]; rfl,xl Y7]
   · rw [show toF b = b by unfold toF; rw [if_neg hb]]
abbrev cN : Nat := 4604544271217802189
abbrev dN : Nat := 13827916308072577997
abbrev AHa : Nat := 4607182418800017408
abbrev AHb : Nat := 13830554455654793216
def cA : List (Nat × Nat) := [(AHa,0),(cN,dN),(0,AHb),(dN,dN),(AHb,0),(dN,cN),(0,AHa),(cN,cN)]
def S2 (j n : Nat) : List Int → Nat → Nat × Nat → Nat × Nat
 | [],_,a => a
 | x :: l,k,a =>
   let w := cA.getD ((j * k % n) * (8 / n)) (0,0)
   S2 j n l (k + 1) (Wv 1 a.1 (Wv 3 x.toNat w.1),Wv 1 a.2 (Wv 3 x.toNat w.2))
def uD (vs : List Int) : Nat :=
 let l := S2 (1 % vs.length) vs.length vs 0 (0,0)
 Wv 1 (Wv 3 l.1 l.1) (Wv 3 l.2 l.2)
section
variable [Ey] {σ : Hp} {R : Rr}
theorem WI {x y : Nat} (h : x ^^^ 9223372036854775808 = y) : YF prog (Op.unary .neg (.float .f64 x)) σ (.float .f64 y) := fun w _ => by subst h; rfl
theorem T6 (h : ∀ b T σ',σ b = none → σ' = σ.set b (.cells (cA.map fun p => .complex .f64 p.1 p.2).toArray T (0,0)) → R (.returned (.slice (aD b 0) 8 8)) σ') : Spec prog 263 #[] σ R := by
 refine ML.start (GV ⟨_,rfl,dN,WI (by decide),_,_,fun w _ => rfl,dN,WI (by decide),dN,WI (by decide),_,_,fun w _ => rfl,dN,WI (by decide),_,_,fun w _ => rfl,_,_,fun w _ => rfl,fun b hb => ?_⟩)
 exact h b _ _ hb rfl
theorem iP {j : Nat} (hj : j ≤ 1) {p : Option Addr} {n c : Nat} {vs : List Int} (hr : E7 .u64 σ p n vs) (hn : n = 1 ∨ n = 2 ∨ n = 4 ∨ n = 8)
   (h : ∀ re im σ',Ext σ σ' → toF re = (S2 j n vs 0 (0,0)).1 → toF im = (S2 j n vs 0 (0,0)).2 → R (.returned (.complex .f64 re im)) σ') : Spec prog 241 #[.slice p n c,.int .i64 j] σ R := by
 have hl : vs.length = n := hr.1
 have z0 : toF 0 = 0 := by
   unfold toF
   rw [if_neg]
   rw [Nn]; decide
 refine II.start (T6 fun b T σ1 hb Je => ⟨_,_,_,rfl,?_⟩)
 have CH : Ext σ σ1 := by rw [Je]; exact .set hb
 have hlb : ∀ k,k < 8 → ∀ re im,cA[k]? = some (re,im) → σ1.ld ⟨b,0 + k * 1,none⟩ = some (.complex .f64 re im) := fun k hk re im hw => by
   rw [Je]
   unfold Hp.ld
   simp only [Hp.AB]
   have : (cA.map fun p => Value.complex .f64 p.1 p.2)[k]? = some (.complex .f64 re im) := by rw [List.getElem?_map,hw]; rfl
   simpa using this
 clear Je
 suffices H : ∀ g k : Nat,∀ re im,∀ a : Nat × Nat,n - k = g → k ≤ n → toF re = a.1 → toF im = a.2 → S2 j n vs 0 (0,0) = S2 j n (vs.drop k) k a → II.tg R p n c j (aD b 0) 8 8 (.complex .f64 re im) k σ1 from H n 0 0 0 (0,0) rfl (Nat.zero_le _) z0 z0 rfl
 intro g
 induction g with
 | zero =>
   intro k re im a hg hk h1 h2 he
   have dW : k = n := by omega
   subst dW
   rw [List.drop_eq_nil_of_le (by omega)] at he
   refine II.ec ⟨fun _ => ?_,fun hh => by omega⟩
   rw [he] at h
   exact h re im σ1 CH h1 h2
 | succ g ih =>
   intro k re im a hg hk h1 h2 he
   have dW : k < n := by omega
   obtain ⟨x,hx⟩ := hr.ex dW
   obtain ⟨b',o',rfl,ES⟩ := E7.at hr hx
   rw [BC hx] at he
   have ht : (j : Int) * k = ((j * k : Nat) : Int) := by push_cast; rfl
   have rn : j * k ≤ 8 := by
     rcases Nat.le_one_iff_eq_zero_or_eq_one.1 hj with h | h <;> subst h <;> omega
   refine II.ec ⟨fun hh => by omega,fun _ => ⟨b',o',rfl,by omega,x,by simpa using CH.ld ES,by unfold AN; omega,by omega,fun JU h27 => ⟨by omega,fun Ul h30 => ?_⟩⟩⟩
   have e27 : JU = ((j * k % n : Nat) : Int) := by rw [h27,ht,Int.tmod_eq_emod_of_nonneg (by omega)]; omega
   have e30 : Ul = ((8 / n : Nat) : Int) := by rw [h30]; rcases hn with h | h | h | h <;> subst h <;> rfl
   have hm : (j * k % n) * (8 / n) < 8 := by
     have := Nat.mod_lt (j * k) (show 0 < n by omega)
     rcases hn with h | h | h | h <;> subst h <;> simp at * <;> omega
   have ep : JU * Ul = (((j * k % n) * (8 / n) : Nat) : Int) := by rw [e27,e30]; push_cast; rfl
   dsimp only
   rw [ep]
   generalize hq : (j * k % n) * (8 / n) = q at *
   obtain ⟨⟨wr,wi⟩,hw⟩ : ∃ w,cA[q]? = some w := ⟨_,List.getElem?_eq_getElem (show q < cA.length from hm)⟩
   have hgd : cA.getD q (0,0) = (wr,wi) := by rw [List.getD_eq_getElem?_getD,hw]; rfl
   rw [S2,hq,hgd] at he
   refine ⟨by unfold AN; omega,b,0,rfl,by omega,wr,wi,by simpa using hlb q hm wr wi hw,GV ⟨_,rfl,fun _ _ _ h => h,re,fun w _ => rfl,wr,fun w _ => rfl,Np fun y hy => ⟨_,rfl,Qg fun z hz => ⟨_,rfl,im,fun w _ => rfl,wi,fun w _ => rfl,Np fun y' hy' => ⟨_,rfl,Qg fun z' hz' => ⟨_,rfl,z,z',fun w _ => rfl,AK dW hr.big,?_⟩⟩⟩⟩⟩⟩
   refine ih (k + 1) z z' _ (by omega) (by omega) ?_ ?_ he
   · rw [hz,← S1,h1,hy]
   · rw [hz',← S1,h2,hy']
theorem cB {p : Option Addr} {n c : Nat} {vs : List Int} (hr : E7 .u64 σ p n vs) (hn : n = 1 ∨ n = 2 ∨ n = 4 ∨ n = 8)
   (h : ∀ σ',Ext σ σ' → R (.returned (.tuple #[.int .u64 (uD vs : Nat),.int .i64 0])) σ') : Spec prog 225 #[.slice p n c] σ R := by
 have hl : vs.length = n := hr.1
 have Hr : ∀ {t : Bool} {Q : Rr},Q (.returned (.bool true)) σ → Spec prog 240 #[.int .i64 n] σ Q := fun hq => Uq.start ⟨fun _ => hq,fun h1 => ⟨fun _ => hq,fun h2 => ⟨fun _ => hq,fun h4 => by rw [show decide ((n : Int) = 8) = true from decide_eq_true (by omega)]; exact hq⟩⟩⟩
 refine SU.start (Hr (t := true) ?_)
 refine ⟨true,rfl,fun hf => (by cases hf),fun _ => ⟨by omega,fun x12 Wu => ?_⟩⟩
 have e12 : x12 = ((1 % n : Nat) : Int) := by rw [Wu,Int.tmod_eq_emod_of_nonneg (by omega)]; exact (Int.natCast_emod 1 n).symm
 rw [e12]
 refine iP (Nat.mod_le 1 n) hr hn fun re im σ1 hx h1 h2 => ⟨_,_,rfl,re,fun w _ => rfl,re,fun w _ => rfl,Np fun y hy => ⟨_,rfl,im,fun w _ => rfl,im,fun w _ => rfl,Np fun z hz => ⟨_,rfl,Qg fun u hu => ⟨_,rfl,GX ⟨_,rfl,?_⟩⟩⟩⟩⟩
 have e : toF u = uD vs := by
   rw [hu,← S1,hy,hz]
   unfold uD
   rw [hl]
   dsimp only
   rw [← h1,← h2,S1,S1]
 rw [e]
 exact h σ1 hx
def U3 (n : Nat) : Nat := if 8 ≤ n then 8 else if 4 ≤ n then 4 else if 2 ≤ n then 2 else 1
def Qh (vs : List Int) : Int := (uD (vs.drop (vs.length - U3 vs.length)) : Nat)
theorem T7 {p : Option Addr} {n c : Nat} {vs : List Int} (hr : E7 .u64 σ p n vs) (h0 : 0 < n) (hc : n ≤ c)
   (h : ∀ σ',Ext σ σ' → R (.returned (.int .u64 (Qh vs))) σ') : Spec prog 187 #[.slice p n c] σ R := by
 have hl : vs.length = n := hr.1
 have Ho := hr.big
 have last : ∀ m : Nat,U3 n = m → m ≤ n → (m = 1 ∨ m = 2 ∨ m = 4 ∨ m = 8) → AN ((n : Int) - m) ∧ ((0 : Int) ≤ ((n : Int) - m) ∧ ((n : Int) - m) ≤ (n : Int)) ∧ Spec prog 225 #[(.slice (Ic p (Int.toNat ((n : Int) - m)) c 1) (n - Int.toNat ((n : Int) - m)) (c - Int.toNat ((n : Int) - m)))] σ (AA R (fun z y => ∃ Jx Oc,z = (.tuple #[.int .u64 Jx,.int .i64 Oc]) ∧ R (.returned (.int .u64 Jx)) y)) := fun m hm hmn hk => by
   have e : Int.toNat ((n : Int) - m) = n - m := by omega
   rw [e]
   refine ⟨by unfold AN; omega,by omega,?_⟩
   have hs := Ad.sub (i := n - m) (m := m) hr (by decide) (by omega) hc
   rw [List.take_of_length_le (by rw [List.length_drop]; omega)] at hs
   rw [show n - (n - m) = m by omega]
   refine cB hs hk fun σ' hx => ⟨_,_,rfl,?_⟩
   have := h σ' hx
   unfold Qh at this
   rw [hl,hm] at this
   exact this
 have two : ∀ m x : Int,x = IntKind.i64.wrap (Int.tdiv m 2) → (m = 8 ∨ m = 4 ∨ m = 2) → x = m / 2 := fun m x hx hm => by
   rw [hx]; rcases hm with h | h | h <;> subst h <;> rfl
 refine BQ.start (BQ.BA ⟨fun h8 => ⟨by decide,fun x1 e1 => ?_⟩,fun h8 => last 8 (by unfold U3; rw [if_pos (by omega)]) (by omega) (by omega)⟩)
 have e1 := two _ _ e1 (.inl rfl)
 subst e1
 refine BQ.BA ⟨fun h4 => ⟨by decide,fun x2 e2 => ?_⟩,fun h4 => last 4 (by unfold U3; rw [if_neg (by omega),if_pos (by omega)]) (by omega) (by omega)⟩
 have e2 := two _ _ e2 (.inr (.inl (by decide)))
 subst e2
 refine BQ.BA ⟨fun h2 => ⟨by decide,fun x3 e3 => ?_⟩,fun h2 => last 2 (by unfold U3; rw [if_neg (by omega),if_neg (by omega),if_pos (by omega)]) (by omega) (by omega)⟩
 have e3 := two _ _ e3 (.inr (.inr (by decide)))
 subst e3
 exact BQ.BA ⟨fun h1 => by omega,fun h1 => last 1 (by unfold U3; rw [if_neg (by omega),if_neg (by omega),if_neg (by omega)]) (by omega) (by omega)⟩
end
end TwW
end
section
namespace TwW
open Go Tw Go.RowKit Go.Proofs.Tryz
def GY (ps : List Pt) (x : Int) : Nat := ps.countP fun q => decide (q.1 ≤ x)
theorem fG {ps : List Pt} {x : Int} {i : Nat} (hi : i ≤ ps.length) (h1 : ∀ k q,k < i → ps[k]? = some q → q.1 ≤ x) (h2 : ∀ k q,i ≤ k → ps[k]? = some q → x < q.1) : GY ps x = i := by
 unfold GY
 rw [← List.take_append_drop i ps,List.countP_append]
 have e1 : (ps.take i).countP (fun q => decide (q.1 ≤ x)) = (ps.take i).length := List.countP_eq_length.2 fun q hq => by
   obtain ⟨k,hk⟩ := List.mem_iff_getElem?.1 hq
   rw [List.getElem?_take] at hk
   split at hk
   · rename_i hki; exact decide_eq_true (h1 k q hki hk)
   · cases hk
 have e2 : (ps.drop i).countP (fun q => decide (q.1 ≤ x)) = 0 := List.countP_eq_zero.2 fun q hq => by
   obtain ⟨k,hk⟩ := List.mem_iff_getElem?.1 hq
   rw [List.getElem?_drop] at hk
   have := h2 _ q (Nat.le_add_right i k) hk
   simp; omega
 rw [e1,e2,List.length_take]; omega
def ZC (ps : List Pt) : Prop := ps.Pairwise fun a b => a.1 < b.1
theorem iQ {ps : List Pt} (h : Nk ps = true) : ZC ps := by
 have hh := ((Nl ps).1 h).2
 unfold ZC
 rw [List.pairwise_iff_getElem]
 intro i j hi hj OM
 induction j with
 | zero => omega
 | succ j ih =>
   have hs := hh j ps[j] ps[j + 1] (List.getElem?_eq_getElem _) (List.getElem?_eq_getElem _)
   by_cases h : i = j
   · subst h; exact hs
   · exact Int.lt_trans (ih (by omega) (by omega)) hs
theorem fH {ps : List Pt} (h : ZC ps) {i j : Nat} {a b : Pt} (OM : i < j) (ha : ps[i]? = some a) (hb : ps[j]? = some b) : a.1 < b.1 := by
 obtain ⟨h1,rfl⟩ := List.getElem?_eq_some_iff.1 ha
 obtain ⟨h2,rfl⟩ := List.getElem?_eq_some_iff.1 hb
 exact List.pairwise_iff_getElem.1 h i j h1 h2 OM
theorem AHe {x : Int} (h0 : 0 ≤ x) (h1 : x < 18446744073709551616) : IntKind.u64.wrap x = x := by simp [IntKind.wrap,IntKind.bits,IntKind.signed]; omega
theorem AHf {x : Int} (h0 : 0 ≤ x) (h1 : x < 9223372036854775808) : IntKind.i64.wrap x = x := by simp [IntKind.wrap,IntKind.bits,IntKind.signed]; omega
section
variable [Ey] {σ : Hp} {R : Rr}
theorem fI {f : Nat} (hf : Enters prog f) (uE : ∀ a b x σ' R',R' (.returned (.int .i64 (if a ≤ x then -1 else 1))) σ' → Spec prog f #[.agg #[.int .i64 a,.int .u64 b],.int .i64 x] σ' R') {p : Option Addr} {n c : Nat} {ps : List Pt} {x : Int} (hr : Ad 2 HL σ p n ps) (hs : ZC ps)
   (h : ∀ t,R (.returned (.tuple #[.int .i64 (GY ps x),.bool t])) σ) : Spec prog 175 #[.slice p n c,.int .i64 x,.func (.func f) #[] #[]] σ R := by
 have hl : ps.length = n := hr.1
 have Ho := hr.big
 refine Aw.start ?_
 suffices H : ∀ g i j : Nat,j - i = g → i ≤ j → j ≤ n → (∀ k q,k < i → ps[k]? = some q → q.1 ≤ x) → (∀ k q,j ≤ k → ps[k]? = some q → x < q.1) → Aw.Bk R p n c x (.func (.func f) #[] #[]) n i j σ from
   H n 0 n rfl (Nat.zero_le _) (Nat.le_refl _) (fun k q hk => by omega) (fun k q hk hq => by have := (List.getElem?_eq_some_iff.1 hq).1; omega)
 intro g
 induction g using Nat.strongRecOn with
 | _ g ih =>
   intro i j hg OM hj h1 h2
   refine Aw.A5 ⟨fun An => ⟨by unfold AN; omega,fun bR e21 => ⟨by decide,fun JX e22 D9 e23 => ?_⟩⟩,fun iF => ⟨fun Th => ?_,fun Th => ?_⟩⟩
   · rw [AHe (by omega) (by omega)] at e21
     have ANU : JX = ((i + j) / 2 : Nat) := by rw [e22,e21]; show ((i : Int) + j) / 2 ^ 1 = _; omega
     rw [ANU,AHf (by omega) (by omega)] at e23
     generalize hm : (i + j) / 2 = m at *
     have him : i ≤ m ∧ m < j := by omega
     obtain ⟨q,hq⟩ := hr.ex (k := m) (by omega)
     obtain ⟨b,o,rfl,ES⟩ := HL.at hr hq
     rw [e23]
     refine ⟨b,o,rfl,by omega,q.1,q.2,by simpa using ES,f,#[],#[],rfl,hf,uE _ _ _ _ _ ⟨_,rfl,fun ABN => ⟨by unfold AN; omega,?_⟩,fun Qw => ?_⟩⟩
     · have rf : q.1 ≤ x := by
         by_cases hh : q.1 ≤ x
         · exact hh
         · rw [if_neg hh] at ABN; omega
       refine ih (j - (m + 1)) (by omega) (m + 1) j rfl (by omega) hj (fun k r hk rh => ?_) h2
       by_cases xh : k = m
       · rw [xh,hq] at rh; cases rh; exact rf
       · have := fH hs (by omega : k < m) rh hq; omega
     · have rf : x < q.1 := by
         by_cases hh : q.1 ≤ x
         · rw [if_pos hh] at Qw; omega
         · omega
       refine ih (m - i) (by omega) i m rfl (by omega) (by omega) h1 (fun k r hk rh => ?_)
       by_cases xh : k = m
       · rw [xh,hq] at rh; cases rh; exact rf
       · have := fH hs (by omega : m < k) hq rh; omega
   · have e : i = j := by omega
     subst e
     have hc := fG (by omega) h1 h2
     obtain ⟨q,hq⟩ := hr.ex (k := i) (by omega)
     obtain ⟨b,o,rfl,ES⟩ := HL.at hr hq
     refine ⟨b,o,rfl,by omega,q.1,q.2,by simpa using ES,f,#[],#[],rfl,hf,uE _ _ _ _ _ ⟨_,rfl,?_⟩⟩
     have := h (decide ((if q.1 ≤ x then (-1 : Int) else 1) = 0))
     rw [hc] at this; exact this
   · have e : i = j := by omega
     subst e
     have hc := fG (by omega) h1 h2
     have := h false
     rw [hc] at this; exact this
omit [Ey] in
theorem IQ {x : Int} : ∀ {ps : List Pt},ZC ps → GY ps x ≤ ps.length ∧ (∀ k q,k < GY ps x → ps[k]? = some q → q.1 ≤ x) ∧ (∀ k q,GY ps x ≤ k → ps[k]? = some q → x < q.1)
 | [],_ => ⟨Nat.le_refl _,fun k q hk => by simp [GY] at hk,fun k q _ hq => by simp at hq⟩
 | a :: l,h => by
   have hl := List.pairwise_cons.1 h
   obtain ⟨h1,h2,h3⟩ := IQ (x := x) (ps := l) hl.2
   by_cases ha : a.1 ≤ x
   · have e : GY (a :: l) x = GY l x + 1 := by unfold GY; rw [List.countP_cons_of_pos (by simpa using ha)]
     rw [e]
     refine ⟨by simp; exact h1,fun k q hk hq => ?_,fun k q hk hq => ?_⟩
     · cases k with
       | zero => simp at hq; subst hq; exact ha
       | succ k => exact h2 k q (by omega) (by simpa using hq)
     · cases k with
       | zero => omega
       | succ k => exact h3 k q (by omega) (by simpa using hq)
   · have e : GY (a :: l) x = 0 := by
       unfold GY
       rw [List.countP_eq_zero]
       intro q hq
       rcases List.mem_cons.1 hq with rfl | hq
       · simpa using ha
       · have := hl.1 q hq
         simp; omega
     rw [e]
     refine ⟨Nat.zero_le _,fun k q hk => by omega,fun k q _ hq => ?_⟩
     cases k with
     | zero => simp at hq; subst hq; omega
     | succ k =>
       have := hl.1 q (List.mem_of_getElem? (by simpa using hq))
       omega
omit [Ey] in
theorem uF {ps : List Pt} (hs : ZC ps) (Dy G6 : Int) {i m : Nat} (hi : i = min (GY ps Dy) (GY ps G6)) (hm : m = GY ps G6 - i) : (ps.drop i).take m = GF ps Dy G6 := by
 obtain ⟨a1,a2,a3⟩ := IQ (x := Dy) hs
 obtain ⟨m1,m2,m3⟩ := IQ (x := G6) hs
 have e : ps = ps.take i ++ ((ps.drop i).take m ++ (ps.drop i).drop m) := by rw [List.take_append_drop,List.take_append_drop]
 have hf : GF ps Dy G6 = GF (ps.take i) Dy G6 ++ (GF ((ps.drop i).take m) Dy G6 ++ GF ((ps.drop i).drop m) Dy G6) := by
   conv => lhs; rw [e]
   unfold GF
   rw [List.filter_append,List.filter_append]
 rw [hf]
 have f1 : GF (ps.take i) Dy G6 = [] := List.filter_eq_nil_iff.2 fun q hq => by
   obtain ⟨k,hk⟩ := List.mem_iff_getElem?.1 hq
   rw [List.getElem?_take] at hk
   split at hk
   · have := a2 k q (by omega) hk; simp; omega
   · cases hk
 have f2 : GF ((ps.drop i).take m) Dy G6 = (ps.drop i).take m := List.filter_eq_self.2 fun q hq => by
   obtain ⟨k,hk⟩ := List.mem_iff_getElem?.1 hq
   rw [List.getElem?_take] at hk
   split at hk
   · rename_i xh
     rw [List.getElem?_drop] at hk
     have g1 := m2 _ q (by omega) hk
     have g2 := a3 _ q (by omega) hk
     simp; omega
   · cases hk
 have f3 : GF ((ps.drop i).drop m) Dy G6 = [] := List.filter_eq_nil_iff.2 fun q hq => by
   obtain ⟨k,hk⟩ := List.mem_iff_getElem?.1 hq
   rw [List.getElem?_drop,List.getElem?_drop] at hk
   have := m3 _ q (by omega) hk
   simp; omega
 rw [f1,f2,f3]; simp
theorem Ph {p : Option Addr} {n c : Nat} {ps : List Pt} {Dy G6 : Int} (hr : Ad 2 HL σ p n ps) (hc : n ≤ c) (hs : ZC ps)
   (h : ∀ q m d,Ad 2 HL σ q m (GF ps Dy G6) → m ≤ d → R (.returned (.slice q m d)) σ) : Spec prog 141 #[.slice p n c,.int .i64 Dy,.int .i64 G6] σ R := by
 have hl : ps.length = n := hr.1
 have c1 : ∀ a b x σ' R',R' (.returned (.int .i64 (if a ≤ x then -1 else 1))) σ' → Spec prog 176 #[.agg #[.int .i64 a,.int .u64 b],.int .i64 x] σ' R' := fun a b x σ' R' hh => MO.start fun _ => ⟨fun hle => by rw [if_pos hle] at hh; exact hh,fun hle => by rw [if_neg hle] at hh; exact hh⟩
 have c2 : ∀ a b x σ' R',R' (.returned (.int .i64 (if a ≤ x then -1 else 1))) σ' → Spec prog 177 #[.agg #[.int .i64 a,.int .u64 b],.int .i64 x] σ' R' := fun a b x σ' R' hh => MK.start fun _ => ⟨fun hle => by rw [if_pos hle] at hh; exact hh,fun hle => by rw [if_neg hle] at hh; exact hh⟩
 have ha := (IQ (x := Dy) hs).1
 have hm := (IQ (x := G6) hs).1
 refine PQ.start (fI (fun args w => call176 args w) c1 hr hs fun t => ⟨_,_,rfl,fI (fun args w => call177 args w) c2 hr hs fun t' => ⟨_,_,rfl,?_⟩⟩)
 have e : (if ((GY ps G6 : Nat) : Int) < (GY ps Dy : Nat) then ((GY ps G6 : Nat) : Int) else (GY ps Dy : Nat)) = ((min (GY ps Dy) (GY ps G6) : Nat) : Int) := by split <;> omega
 rw [e]
 generalize hi : min (GY ps Dy) (GY ps G6) = i
 have WJ := Ad.sub (i := i) (m := GY ps G6 - i) hr (by decide) (by omega) hc
 rw [uF hs Dy G6 hi.symm rfl] at WJ
 refine ⟨by omega,?_⟩
 have := h _ _ (c - i) WJ (by omega)
 simpa using this
end
end TwW
end
section
namespace TwW
open Go Tw Go.RowKit Go.Proofs.Tryz
theorem IS {α : Type} {P : α → Bool} : ∀ {l : List α} {k : Nat},k ≤ l.length → (∀ j u,j < k → l[j]? = some u → P u = true) → (∀ u,l[k]? = some u → P u = false) → (l.takeWhile P).length = k
 | [],k,hk,_,_ => by simp at hk; subst hk; rfl
 | a :: l,0,_,_,h2 => by simp [List.takeWhile,h2 a rfl]
 | a :: l,k + 1,hk,h1,h2 => by
   have ha : P a = true := h1 0 a (by omega) rfl
   simp only [List.takeWhile,ha,List.length_cons]
   rw [IS (k := k) (by simp at hk; omega) (fun j u hj hu => h1 (j + 1) u (by omega) (by simpa using hu)) (fun u hu => h2 u (by simpa using hu))]
def AM (s : ByteArray) : Nat := (s.data.toList.takeWhile Bq).length
theorem Lj (s : ByteArray) : AM s ≤ s.size := by
 unfold AM
 exact Nat.le_trans (List.Sublist.length_le (List.takeWhile_sublist _)) (Nat.le_of_eq (Array.length_toList (xs := s.data)))
section
variable [Ey] {σ : Hp} {R : Rr}
omit [Ey] in
theorem U4 {s : ByteArray} {h : Nat} (hh : h ≤ s.size) : YF prog (Instr.sliceAt 9 (.string s) none (some (.int .i64 (h : Int))) none) σ (.string (s.extract 0 h)) := fun w _ => by
 rw [run_sliceAt_string (h := underlying9)]
 have h1 : (h : Int) ≤ s.size := by omega
 simp [Instr.slice,run_underlying underlying9,Instr.sliceBounds,run_sliceBound,h1,Result.andThen]
omit [Ey] in
theorem Nt {s : ByteArray} {l : Nat} (hl : l ≤ s.size) : YF prog (Instr.sliceAt 9 (.string s) (some (.int .i64 (l : Int))) none none) σ (.string (s.extract l s.size)) := fun w _ => by
 rw [run_sliceAt_string (h := underlying9)]
 have h1 : (l : Int) ≤ s.size := by omega
 simp [Instr.slice,run_underlying underlying9,Instr.sliceBounds,run_sliceBound,h1,Result.andThen]
omit [Ey] in
theorem byte_at {s : ByteArray} {k : Nat} (hk : k < s.size) : ∃ u,s.data[k]? = some u ∧ s.data.toList[k]? = some u := ⟨s.data[k]'hk,by rw [Array.getElem?_eq_getElem],by rw [Array.getElem?_toList,Array.getElem?_eq_getElem]⟩
theorem G9 {s : ByteArray} (hb : s.size ≤ 4611686018427387904) (h : R (.returned (.int .i64 (AM s))) σ) : Spec prog 131 #[.string s] σ R := by
 have hlen : s.data.toList.length = s.size := Array.length_toList (xs := s.data)
 refine Gy.start ?_
 suffices H : ∀ g k : Nat,s.size - k = g → k ≤ s.size → (∀ j u,j < k → s.data.toList[j]? = some u → Bq u = true) → Gy.Gf R s k σ from H s.size 0 rfl (Nat.zero_le _) (fun j u hj => by omega)
 intro g
 induction g with
 | zero =>
   intro k hg hk h1
   have e : AM s = k := IS (by omega) h1 (fun u hu => by have := (List.getElem?_eq_some_iff.1 hu).1; omega)
   rw [e] at h
   exact Gy.BA ⟨fun An => by omega,fun _ => h⟩
 | succ g ih =>
   intro k hg hk h1
   obtain ⟨u,hu,Ct⟩ := byte_at (show k < s.size by omega)
   have stop : Bq u = false → R (.returned (.int .i64 k)) σ := fun hd => by
     have e : AM s = k := IS (by omega) h1 (fun v hv => by rw [Ct] at hv; cases hv; exact hd)
     rw [e] at h; exact h
   refine Gy.BA ⟨fun _ => ⟨u,by omega,by simpa using hu,Oj.start ⟨fun ZD => ⟨_,rfl,fun ht => ?_,fun hf => stop ?_⟩,fun ZD => ⟨false,rfl,⟨fun ht => (by cases ht),fun _ => stop ?_⟩⟩⟩⟩,fun hh => by omega⟩
   · refine ⟨AK (by omega : k < s.size) hb,ih (k + 1) (by omega) (by omega) fun j v hj hv => ?_⟩
     by_cases rn : j = k
     · rw [rn,Ct] at hv; cases hv
       have := of_decide_eq_true ht
       exact decide_eq_true (by omega)
     · exact h1 j v (by omega) hv
   · have := of_decide_eq_false hf
     exact decide_eq_false (by omega)
   · exact decide_eq_false (by omega)
end
end TwW
end
section
namespace TwW
open Go Tw Go.RowKit Go.Proofs.Tryz
abbrev Ly (n : Nd) (p : Option Addr) (k c : Nat) (q : Option Addr) (m d : Nat) : Value := .agg #[.int .i64 n.kind,.int .i64 n.op,.string n.text,.slice p k c,.int .i64 n.width,.int .i64 n.back,.int .i64 n.EO,.slice q m d,.bool n.bool,.int .i64 n.parts]
def BJ (n : Nd) : Nd :=
 if n.kind = 1 then ⟨n.kind,0,n.text,[],0,0,0,[],false,0⟩
 else if n.kind = 2 then ⟨n.kind,0,ByteArray.mk #[],[],0,n.back,0,[],false,0⟩
 else if n.kind = 3 then ⟨n.kind,0,ByteArray.mk #[],[],n.width,n.back,0,[],false,0⟩
 else if n.kind = 4 then ⟨n.kind,n.op,ByteArray.mk #[],[],0,0,0,[],false,n.parts⟩
 else if n.kind = 5 then ⟨n.kind,n.op,ByteArray.mk #[],[],0,0,n.EO,[],false,n.parts⟩
 else if n.kind = 6 then ⟨n.kind,n.op,ByteArray.mk #[],[],0,0,n.EO,[],n.bool,n.parts⟩
 else ⟨n.kind,0,ByteArray.mk #[],[],0,0,0,[],false,n.parts⟩
theorem og : ∀ w,(Go.sizeOf 2).run prog w = .ok 1 w := fun w => by kernel_rfl
theorem IT : ∀ w,(Go.sizeOf 3).run prog w = .ok 1 w := fun w => by kernel_rfl
theorem xn : ∀ w,(Go.sizeOf 4).run prog w = .ok 1 w := fun w => by kernel_rfl
theorem AHg : ∀ w,(Go.sizeOf 9).run prog w = .ok 1 w := fun w => by kernel_rfl
theorem oh : ∀ w,(Go.sizeOf 36).run prog w = .ok 10 w := fun w => by kernel_rfl
theorem S3 {c : Array Value} {l : List Value} (h : l.length = c.size) : M0 c 0 l = l.toArray := by
 apply Array.ext_getElem?
 intro j
 rw [QQ l c 0 j (by omega)]
 split
 · simp
 · rename_i hj
   rw [Array.getElem?_eq_none (by omega),List.getElem?_toArray,List.getElem?_eq_none (by omega)]
section
variable [Ey] {σ : Hp} {R : Rr}
omit [Ey] in
theorem ot {τ : Hp} {b T : Nat} : ∀ {l : List Value} {c : Array Value} {o : Nat},τ b = some (.cells c T (0,0)) → (∀ j v,l[j]? = some v → c[o + j]? = some v) → Au τ b o l
 | [],_,_,_,_ => trivial
 | v :: l,c,o,hb,h => ⟨by unfold Hp.ld; rw [hb]; simpa using h 0 v rfl,ot hb fun j u hu => by have := h (j + 1) u (by simpa using hu); rwa [show o + (j + 1) = o + 1 + j by omega] at this⟩
omit [Ey] in
theorem fJ {τ : Hp} {b : Nat} {o : Obj} (hb : σ b = none) (h : Ext σ τ) : Ext σ (τ.set b o) := fun k u hk => by
 rw [Hp.AI (fun e => by rw [e,hb] at hk; cases hk)]; exact h k u hk
set_option maxHeartbeats 4000000 in
theorem iR {n : Nd} {p q : Option Addr} {k c m d : Nat} (h : ∀ σ',Ext σ σ' → R (.returned (Ly (BJ n) none 0 0 none 0 0)) σ') : Spec prog 121 #[Ly n p k c q m d] σ R := by
 refine Sd.start fun _ _ b hb => ?_
 have fin : ∀ (τ : Hp) (c : Array Value) (T : Nat),τ b = some (.cells c T (0,0)) → Ext σ τ → c = #[.int .i64 (BJ n).kind,.int .i64 (BJ n).op,.string (BJ n).text,.slice none 0 0,.int .i64 (BJ n).width,.int .i64 (BJ n).back,.int .i64 (BJ n).EO,.slice none 0 0,.bool (BJ n).bool,.int .i64 (BJ n).parts] →
     ∃ YQ bV bW nw nz oA oB oC oD oE oF oG oH oI,Au τ b 0 [.int .i64 YQ,.int .i64 bV,.string bW,.slice nw nz oA,.int .i64 oB,.int .i64 oC,.int .i64 oD,.slice oE oF oG,.bool oH,.int .i64 oI] ∧ R (.returned (.agg #[.int .i64 YQ,.int .i64 bV,.string bW,.slice nw nz oA,.int .i64 oB,.int .i64 oC,.int .i64 oD,.slice oE oF oG,.bool oH,.int .i64 oI])) τ := fun τ c T hτ hx hc =>
   ⟨_,_,_,_,_,_,_,_,_,_,_,_,_,_,ot hτ fun j v hv => by rw [hc,Nat.zero_add]; simpa using hv,h τ hx⟩
 have st : ∀ {τ : Hp} {c : Array Value} {T U o : Nat} {v : Value} {Φ : Unit → Hp → Prop},(∀ w,(Go.sizeOf U).run prog w = .ok 1 w) → τ b = some (.cells c T (0,0)) → Ext σ τ → o + 1 ≤ c.size → v.cells = #[v] → v.oneCell' = true →
     (∀ (τ' : Hp) (c' : Array Value),c' = M0 c o [v] → c'.size = c.size → τ' b = some (.cells c' T (0,0)) → Ext σ τ' → Φ () τ') → AJ prog (Instr.storeAt U (.pointer (aD b o)) v) τ Φ := fun {τ c T U o v Φ} hz hτ hx ho h1 h2 hk => by
   refine AJ.store hz hτ (by rw [h1]; rfl) (by simpa using ho) (fun u hu => by rw [h1] at hu; simp at hu; rw [hu]; exact h2) ?_
   rw [h1]
   exact hk _ _ rfl (H5 _ _ _) (Hp.AB _ _ _) (fJ hb hx)
 have st0 : ∀ {Φ : Unit → Hp → Prop},(∀ (τ : Hp) (c : Array Value),c = #[.int .i64 n.kind,.int .i64 0,(.string (ByteArray.mk #[])),.slice none 0 0,.int .i64 0,.int .i64 0,.int .i64 0,.slice none 0 0,.bool false,.int .i64 0] → c.size = 10 → τ b = some (.cells c 36 (0,0)) → Ext σ τ → Φ () τ) →
     AJ prog (Instr.storeAt 36 (.pointer (aD b 0)) (.agg #[.int .i64 n.kind,.int .i64 0,(.string (ByteArray.mk #[])),.slice none 0 0,.int .i64 0,.int .i64 0,.int .i64 0,.slice none 0 0,.bool false,.int .i64 0])) (Hp.set σ b (.cells #[.int .i64 0,.int .i64 0,(.string (ByteArray.mk #[])),.slice none 0 0,.int .i64 0,.int .i64 0,.int .i64 0,.slice none 0 0,.bool false,.int .i64 0] 36 (0,0))) Φ := fun {Φ} hk => by
   refine AJ.store oh (Hp.AB _ _ _) rfl (by simp) (by simp [Value.cells,Value.oneCell']) ?_
   exact hk _ _ (S3 rfl) (by rw [H5]; rfl) (Hp.AB _ _ _) (fJ hb (Ext.set hb))
 refine st0 fun τ c0 e0 z0 g0 x0 => ?_
 refine ⟨fun h1 => ?_,fun h1 => ⟨fun h2 => ?_,fun h2 => ⟨fun h3 => ?_,fun h3 => ⟨fun h4 => ?_,fun h4 => ⟨fun h5 => ?_,fun h5 => ⟨fun h6 => ?_,fun h6 => ?_⟩⟩⟩⟩⟩⟩
 · refine st AHg g0 x0 (by omega) rfl rfl fun τ1 c1 e1 z1 g1 x1 => fin τ1 c1 _ g1 x1 ?_
   subst e0 e1; unfold BJ; simp only [h1,if_true]; rfl
 · refine st og g0 x0 (by omega) rfl rfl fun τ1 c1 e1 z1 g1 x1 => fin τ1 c1 _ g1 x1 ?_
   subst e0 e1; unfold BJ; simp only [h2,if_true]; rfl
 · refine st og g0 x0 (by omega) rfl rfl fun τ1 c1 e1 z1 g1 x1 => ?_
   refine st og g1 x1 (by omega) rfl rfl fun τ2 c2 e2 z2 g2 x2 => fin τ2 c2 _ g2 x2 ?_
   subst e0 e1 e2; unfold BJ; simp only [h3,if_true]; rfl
 · refine st IT g0 x0 (by omega) rfl rfl fun τ1 c1 e1 z1 g1 x1 => ?_
   refine st IT g1 x1 (by omega) rfl rfl fun τ2 c2 e2 z2 g2 x2 => fin τ2 c2 _ g2 x2 ?_
   subst e0 e1 e2; unfold BJ; simp only [h4,if_true]; rfl
 · refine st IT g0 x0 (by omega) rfl rfl fun τ1 c1 e1 z1 g1 x1 => ?_
   refine st IT g1 x1 (by omega) rfl rfl fun τ2 c2 e2 z2 g2 x2 => ?_
   refine st IT g2 x2 (by omega) rfl rfl fun τ3 c3 e3 z3 g3 x3 => fin τ3 c3 _ g3 x3 ?_
   subst e0 e1 e2 e3; unfold BJ; simp only [h5,if_true]; rfl
 · refine st IT g0 x0 (by omega) rfl rfl fun τ1 c1 e1 z1 g1 x1 => ?_
   refine st IT g1 x1 (by omega) rfl rfl fun τ2 c2 e2 z2 g2 x2 => ?_
   refine st xn g2 x2 (by omega) rfl rfl fun τ3 c3 e3 z3 g3 x3 => ?_
   refine st IT g3 x3 (by omega) rfl rfl fun τ4 c4 e4 z4 g4 x4 => fin τ4 c4 _ g4 x4 ?_
   subst e0 e1 e2 e3 e4; unfold BJ; simp only [h6,if_true]; rfl
 · refine st IT g0 x0 (by omega) rfl rfl fun τ1 c1 e1 z1 g1 x1 => fin τ1 c1 _ g1 x1 ?_
   subst e0 e1; unfold BJ; simp only [h1,h2,h3,h4,h5,h6,if_false]; rfl
end
end TwW
end
section
namespace TwW
open Go Tw Go.RowKit Go.Proofs.Tryz
section
variable {σ : Hp} {R : Rr}
theorem Cc {k : Int} (h : R (.returned (.bool (Ft k))) σ) : Spec prog 124 #[.int .i64 k] σ R := by
 refine Jv.start ⟨fun h1 => ?_,fun h1 => ?_⟩
 · rw [show Ft k = decide (k ≤ 10) by unfold Ft; rw [decide_eq_true h1]; rfl] at h; exact h
 · rw [show Ft k = false by unfold Ft; rw [decide_eq_false h1]; rfl] at h; exact h
theorem Pj {k : Int} (h : R (.returned (.bool (decide (11 ≤ k ∧ k ≤ 13)))) σ) : Spec prog 128 #[.int .i64 k] σ R := by
 refine SQ.start ⟨fun h1 => ?_,fun h1 => ?_⟩
 · rw [show decide (11 ≤ k ∧ k ≤ 13) = decide (k ≤ 13) from decide_eq_decide.2 ⟨fun h => h.2,fun h => ⟨h1,h⟩⟩] at h; exact h
 · rw [show decide (11 ≤ k ∧ k ≤ 13) = false from decide_eq_false (fun hh => h1 hh.1)] at h; exact h
theorem Ou {v l : Int} (h : R (.returned (.bool (MR v l))) σ) : Spec prog 123 #[.int .i64 v,.int .i64 l] σ R := by
 refine SZ.start ⟨fun h1 => ?_,fun h1 => ?_⟩
 · rw [show MR v l = decide (v < 2147483648) by unfold MR; rw [decide_eq_true h1]; rfl] at h; exact h
 · rw [show MR v l = false by unfold MR; rw [decide_eq_false h1]; rfl] at h; exact h
theorem U5 {k : Int} (h : R (.returned (.bool (decide (1 ≤ k ∧ k ≤ 4)))) σ) : Spec prog 125 #[.int .i64 k] σ R := by
 refine RV.start ⟨fun h1 => ?_,fun h1 => ?_⟩
 · rw [show decide (1 ≤ k ∧ k ≤ 4) = decide (k ≤ 4) from decide_eq_decide.2 ⟨fun h => h.2,fun h => ⟨h1,h⟩⟩] at h; exact h
 · rw [show decide (1 ≤ k ∧ k ≤ 4) = false from decide_eq_false (fun hh => h1 hh.1)] at h; exact h
theorem Ov {s : ByteArray} (h : R (.returned (.bool (DZ s))) σ) : Spec prog 126 #[.string s] σ R := by
 refine Sa.start (Ky ?_)
 exact ⟨_,rfl,h⟩
theorem OD.at {p : Option Addr} {n i : Nat} {ms : List Mt} {x : Mt} (hr : Ad 3 OD σ p n ms) (hx : ms[i]? = some x) : ∃ b o,p = some ⟨b,o,none⟩ ∧ Au σ b (o + i * 3) [.int .i64 x.kind,.string x.name,.string x.val] := by
 obtain ⟨b,o,vs,hp,rfl,hl⟩ := Ad.idx hr hx
 exact ⟨b,o,hp,hl⟩
def cE (m : Mt) : Bool := decide (1 ≤ m.kind ∧ m.kind ≤ 4) && DZ m.name && decide (m.val.size ≤ 256)
theorem Pk {p : Option Addr} {n c : Nat} {ms : List Mt} (hr : Ad 3 OD σ p n ms) (h : R (.returned (.int .i64 (G8 DZ ms))) σ) : Spec prog 80 #[.slice p n c] σ R := by
 have hl : ms.length = n := hr.1
 refine Fi.start ⟨fun h8 => ?_,fun h8 => ?_⟩
 · rw [show G8 DZ ms = 41 by unfold G8; rw [if_pos (by omega)]] at h; exact h
 have hm : G8 DZ ms = if ms.all cE then 0 else 40 := by unfold G8; rw [if_neg (by omega)]; rfl
 rw [hm] at h
 suffices H : ∀ g k : Nat,n - k = g → k ≤ n → ms.all cE = (ms.drop k).all cE → Fi.Lq R p n c n k σ from H n 0 rfl (Nat.zero_le _) rfl
 intro g
 induction g with
 | zero =>
   intro k hg hk he
   rw [List.drop_eq_nil_of_le (by omega)] at he
   rw [he] at h
   exact Fi.Ip ⟨fun An => by omega,fun _ => h⟩
 | succ g ih =>
   intro k hg hk he
   have Hn : k < n := by omega
   obtain ⟨x,hx⟩ := hr.ex Hn
   obtain ⟨b,o,rfl,ES⟩ := OD.at hr hx
   rw [BC hx,List.all_cons] at he
   have bad : cE x = false → R (.returned (.int .i64 40)) σ := fun hf => by
     rw [hf] at he
     rw [he] at h; exact h
   refine Fi.Ip ⟨fun _ => ⟨b,o,rfl,by omega,x.kind,x.name,x.val,by simpa using ES,fun _ => U5 ⟨_,rfl,fun hf => bad ?_,fun ht => Ov ⟨_,rfl,fun hf => bad ?_,fun hn => ⟨fun hv => bad ?_,fun hv => ⟨AK Hn hr.big,ih (k + 1) (by omega) (by omega) ?_⟩⟩⟩⟩⟩,fun hh => by omega⟩
   · unfold cE; rw [hf]; rfl
   · unfold cE; rw [hf]; simp
   · unfold cE; rw [show decide (x.val.size ≤ 256) = false from decide_eq_false (by omega)]; simp
   · rw [he,show cE x = true by unfold cE; rw [ht,hn,show decide (x.val.size ≤ 256) = true from decide_eq_true (by omega)]; rfl,Bool.true_and]
end
end TwW
end
section
namespace TwW
open Go Tw Go.RowKit Go.Proofs.Tryz
section
variable {σ : Hp} {R : Rr}
theorem cG {n : Nd} {p q : Option Addr} {k c m d : Nat} (hr : Ez 1 σ q m (n.names.map .string)) (h : R (.returned (.bool (On DZ n))) σ) : Spec prog 122 #[Ly n p k c q m d] σ R := by
 have hl : n.names.length = m := by have := hr.1; simpa using this
 refine Fo.start fun _ => ?_
 suffices H : ∀ g i : Nat,m - i = g → i ≤ m → n.names.all DZ = (n.names.drop i).all DZ → Fo.Hs R n.kind n.op n.text p k c n.width n.back n.EO q m d n.bool n.parts q m d m i σ from H m 0 rfl (Nat.zero_le _) rfl
 have Ho : m ≤ 4611686018427387904 := hr.2.1
 intro g
 induction g with
 | zero =>
   intro i hg hi he
   rw [List.drop_eq_nil_of_le (by omega)] at he
   have e : On DZ n = (decide (m = 0) || decide (n.EO ≠ 0)) := by unfold On; rw [he,hl]; rfl
   rw [e] at h
   refine Fo.Bg ⟨fun An => by omega,fun _ => ⟨fun h0 => ?_,fun h0 => ?_⟩⟩
   · rw [decide_eq_true (show m = 0 by omega)] at h; exact h
   · rw [decide_eq_false (show ¬ m = 0 by omega)] at h; exact h
 | succ g ih =>
   intro i hg hi he
   have BN : i < m := by omega
   obtain ⟨x,hx⟩ : ∃ x,n.names[i]? = some x := ⟨_,List.getElem?_eq_getElem (by omega)⟩
   obtain ⟨b,o,rfl,ES⟩ := Ez.at1 hr (k := i) (v := .string x) (by rw [List.getElem?_map,hx]; rfl)
   rw [BC hx,List.all_cons] at he
   refine Fo.Bg ⟨fun _ => ⟨b,o,rfl,by omega,x,by simpa using ES,Ov ⟨_,rfl,fun hf => ?_,fun ht => ⟨AK BN Ho,ih (i + 1) (by omega) (by omega) ?_⟩⟩⟩,fun hh => by omega⟩
   · have e : On DZ n = false := by unfold On; rw [he,hf]; rfl
     rw [e] at h; exact h
   · rw [he,ht,Bool.true_and]
theorem ou {a b : ByteArray} : (ByteArray.toList a == ByteArray.toList b) = decide (a.data.toList = b.data.toList) := by
 rw [ByteArray.toList_eq,ByteArray.toList_eq]
 by_cases h : a.data.toList = b.data.toList
 · simp [h]
 · rw [decide_eq_false h]; exact beq_eq_false_iff_ne.2 h
theorem AHh {a b : ByteArray} : (ByteArray.toList a == ByteArray.toList b) = decide (a = b) := by
 rw [ou]
 exact decide_eq_decide.2 ⟨fun h => ByteArray.ext (Array.toList_inj.1 h),fun h => by rw [h]⟩
def GH (a b : Nd) : Bool := decide (a.kind = b.kind ∧ a.op = b.op ∧ a.text = b.text ∧ a.width = b.width ∧ a.back = b.back ∧ a.EO = b.EO ∧ a.bool = b.bool ∧ a.parts = b.parts)
theorem cH {a b : Nd} {p p' q q' : Option Addr} {k c k' c' m d m' d' : Nat} (h : R (.returned (.bool (GH a b))) σ) : Spec prog 120 #[Ly a p k c q m d,Ly b p' k' c' q' m' d'] σ R := by
 have no : ¬ (a.kind = b.kind ∧ a.op = b.op ∧ a.text = b.text ∧ a.width = b.width ∧ a.back = b.back ∧ a.EO = b.EO ∧ a.bool = b.bool ∧ a.parts = b.parts) → R (.returned (.bool false)) σ := fun hn => by
   rw [show GH a b = false from decide_eq_false hn] at h; exact h
 have last : a.kind = b.kind ∧ a.op = b.op ∧ a.text = b.text ∧ a.width = b.width ∧ a.back = b.back ∧ a.EO = b.EO ∧ a.bool = b.bool → R (.returned (.bool (decide (a.parts = b.parts)))) σ := fun hh => by
   rw [show GH a b = decide (a.parts = b.parts) from decide_eq_decide.2 ⟨fun g => g.2.2.2.2.2.2.2,fun g => ⟨hh.1,hh.2.1,hh.2.2.1,hh.2.2.2.1,hh.2.2.2.2.1,hh.2.2.2.2.2.1,hh.2.2.2.2.2.2,g⟩⟩] at h; exact h
 refine PO.start fun _ _ => ⟨fun h1 => ⟨fun h2 => ⟨fun h3 => ?_,fun h3 => no ?_⟩,fun h2 => no fun g => h2 g.2.1⟩,fun h1 => no fun g => h1 g.1⟩
 · rw [AHh] at h3
   have h3 := of_decide_eq_true h3
   refine ⟨fun h4 => ⟨fun h5 => ⟨fun h6 => ⟨fun t1 => ⟨fun t2 => last ⟨h1,h2,h3,h4,h5,h6,t1.trans t2.symm⟩,fun t2 => no fun g => ?_⟩,fun t1 => ⟨fun t2 => no fun g => ?_,fun t2 => last ⟨h1,h2,h3,h4,h5,h6,t1.trans t2.symm⟩⟩⟩,fun h6 => no fun g => h6 g.2.2.2.2.2.1⟩,fun h5 => no fun g => h5 g.2.2.2.2.1⟩,fun h4 => no fun g => h4 g.2.2.2.1⟩
   · have := g.2.2.2.2.2.2.1; rw [t1,t2] at this; cases this
   · have := g.2.2.2.2.2.2.1; rw [t1,t2] at this; cases this
 · rw [AHh] at h3
   exact fun g => of_decide_eq_false h3 g.2.2.1
end
end TwW
end
section
namespace TwW
open Go Tw Go.RowKit Go.Proofs.Tryz
def Fv (s : ByteArray) : Bool :=
 if AM s = 0 then false else if 1 < AM s ∧ s.data[0]? = some 48 then false else if AM s = s.size then decide (AM s ≤ 15)
 else decide (s.data[AM s]? = some 46 ∧ 0 < AM (s.extract (AM s + 1) s.size) ∧ AM s + 1 + AM (s.extract (AM s + 1) s.size) = s.size ∧ AM s + AM (s.extract (AM s + 1) s.size) ≤ 15)
theorem JE {u : UInt8} {k : Nat} (hk : k < 256) : ((u.toNat : Nat) : Int) = k ↔ u = UInt8.ofNat k := by
 constructor
 · intro h
   apply UInt8.toNat_inj.1
   rw [UInt8.toNat_ofNat']
   omega
 · rintro rfl
   rw [UInt8.toNat_ofNat']
   omega
section
variable {σ : Hp} {R : Rr}
theorem LA {s : ByteArray} (hb : s.size ≤ 4611686018427387904) (h : R (.returned (.bool (Fv s))) σ) : Spec prog 94 #[.string s] σ R := by
 have hle := Lj s
 refine Sc.start (G9 hb ⟨_,rfl,fun h0 => ?_,fun h0 => ⟨_,U4 hle,?_⟩⟩)
 · rw [show Fv s = false by unfold Fv; rw [if_pos (by omega)]] at h; exact h
 have Hr : (s.extract 0 (AM s)).size = AM s := by rw [ByteArray.size_extract]; omega
 have tail : ¬ (1 < AM s ∧ s.data[0]? = some 48) → Br ((AM s : Int) = ((ByteArray.size s : Nat) : Int)) (R (.returned (.bool (decide ((AM s : Int) ≤ 15)))) σ) (AN ((AM s : Int) + 1) ∧ ∃ s24,YF prog (Instr.sliceAt 9 (.string s) (some (.int .i64 ((AM s : Int) + 1))) none none) σ (.string s24) ∧ Spec prog 131 #[.string s24] σ (AA R (CI .i64 fun Te AH => ∃ u28 : UInt8,0 ≤ (AM s : Int) ∧ (ByteArray.data s)[Int.toNat (AM s : Int)]? = some u28 ∧ Br ((((UInt8.toNat u28 : Nat) : Int) : Int) = 46) (Br (0 < Te) (AN ((AM s : Int) + 1) ∧ AN (((AM s : Int) + 1) + Te) ∧ Br (((((AM s : Int) + 1) + Te) : Int) = ((ByteArray.size s : Nat) : Int)) (AN ((AM s : Int) + Te) ∧ R (.returned (.bool (decide ((((AM s : Int) + Te) : Int) ≤ 15)))) AH) (R (.returned (.bool false)) AH)) (R (.returned (.bool false)) AH)) (R (.returned (.bool false)) AH)))) := fun hn => by
   refine ⟨fun he => ?_,fun he => ⟨by unfold AN; omega,s.extract (AM s + 1) s.size,Nt (l := AM s + 1) (by omega),?_⟩⟩
   · rw [show Fv s = decide ((AM s : Int) ≤ 15) by unfold Fv; rw [if_neg (by omega),if_neg hn,if_pos (by omega)]; exact decide_eq_decide.2 (by omega)] at h; exact h
   have ANV : (s.extract (AM s + 1) s.size).size = s.size - (AM s + 1) := by rw [ByteArray.size_extract]; omega
   have hm := Lj (s.extract (AM s + 1) s.size)
   refine G9 (by omega) ?_
   obtain ⟨u,hu,_⟩ := byte_at (show AM s < s.size by omega)
   have hO : Fv s = decide (s.data[AM s]? = some 46 ∧ 0 < AM (s.extract (AM s + 1) s.size) ∧ AM s + 1 + AM (s.extract (AM s + 1) s.size) = s.size ∧ AM s + AM (s.extract (AM s + 1) s.size) ≤ 15) := by unfold Fv; rw [if_neg (by omega),if_neg hn,if_neg (by omega)]
   rw [hO,hu] at h
   generalize AM (s.extract (AM s + 1) s.size) = m at *
   have b46 := JE (u := u) (k := 46) (by decide)
   have no : ¬ (u = 46 ∧ 0 < m ∧ AM s + 1 + m = s.size ∧ AM s + m ≤ 15) → R (.returned (.bool false)) σ := fun hh => by
     rw [decide_eq_false (by rw [Option.some.injEq]; exact hh)] at h; exact h
   refine ⟨_,rfl,u,by omega,by simpa using hu,fun U6 => ⟨fun h0m => ⟨by unfold AN; omega,by unfold AN; omega,fun hs => ⟨by unfold AN; omega,?_⟩,fun hs => no fun g => hs (by omega)⟩,fun h0m => no fun g => h0m (by omega)⟩,fun U6 => no fun g => U6 (b46.2 g.1)⟩
   rw [show decide (some u = some 46 ∧ 0 < m ∧ AM s + 1 + m = s.size ∧ AM s + m ≤ 15) = decide (((AM s : Int) + m) ≤ 15) from decide_eq_decide.2 ⟨fun g => by omega,fun g => ⟨by rw [b46.1 U6]; rfl,by omega,by omega,by omega⟩⟩] at h
   exact h
 refine NN.start ⟨fun h1 => ?_,fun h1 => ⟨false,rfl,fun ht => (by cases ht),fun _ => tail (by omega)⟩⟩
 obtain ⟨u,hu,_⟩ := byte_at (show 0 < s.size by omega)
 have P6 := JE (u := u) (k := 48) (by decide)
 have Ct : (s.extract 0 (AM s)).data[0]? = some u := by
   rw [ByteArray.data_extract,Array.getElem?_extract]
   rw [if_pos (by have : s.data.size = s.size := rfl; omega)]
   simpa using hu
 refine ⟨u,by omega,by simpa using Ct,_,rfl,fun ht => ?_,fun hf => tail ?_⟩
 · have := P6.1 (of_decide_eq_true ht)
   rw [show Fv s = false by unfold Fv; rw [if_neg (by omega),if_pos ⟨by omega,by rw [hu,this]; rfl⟩]] at h; exact h
 · rintro ⟨_,g⟩
   rw [hu,Option.some.injEq] at g
   exact of_decide_eq_false hf (P6.2 g)
end
end TwW
end
section
namespace TwW
open Go Tw Go.RowKit Go.Proofs.Tryz
def Fy (n : Nd) : Bool :=
 if n.kind = 1 then Fv n.text else if n.kind = 2 then MR n.back 0 else if n.kind = 3 then MR n.width 1 && MR n.back 0
 else if n.kind = 4 then decide (n.parts = 1 ∧ 1 ≤ n.op ∧ n.op ≤ 12)
 else if n.kind = 5 then decide (n.parts = 1 ∧ 1 ≤ n.op ∧ n.op ≤ 5 ∧ (n.EO = 0 ∨ n.EO = 1 ∨ n.EO = 2))
 else if n.kind = 6 then decide (n.parts = 2 ∧ 1 ≤ n.op ∧ n.op ≤ 13 ∧ (n.EO = 0 ∨ n.EO = 3 ∨ n.EO = 4)) && (!n.bool || Ft n.op)
 else decide (n.kind = 7 ∧ n.parts = 1)
def FA (n : Nd) : Bool := GH n (BJ n) && On DZ n && !(decide (0 < n.mt.length) && decide (n.kind ≠ 2) && decide (n.kind ≠ 3)) && Fy n
section
variable {σ : Hp} {R : Rr}
theorem iS {n : Nd} {p q : Option Addr} {k c m d : Nat} (hk : n.mt.length = k) (hr : Ez 1 σ q m (n.names.map .string)) (hb : n.text.size ≤ 4611686018427387904) (h : ∀ σ',Ext σ σ' → R (.returned (.bool (FA n))) σ') : Spec prog 79 #[Ly n p k c q m d] σ R := by
 refine RS.start fun _ => iR fun σ1 hx => ⟨_,_,_,_,_,_,_,_,_,_,_,_,_,_,rfl,cH ⟨_,rfl,fun hf => ?_,fun ht => cG (hr.mono hx) ⟨_,rfl,fun hf => ?_,fun hn => ?_⟩⟩⟩
 · have := h σ1 hx; rw [show FA n = false by unfold FA; rw [hf]; rfl] at this; exact this
 · have := h σ1 hx; rw [show FA n = false by unfold FA; rw [ht,hf]; rfl] at this; exact this
 have hh := h σ1 hx
 have e : FA n = (!(decide (0 < n.mt.length) && decide (n.kind ≠ 2) && decide (n.kind ≠ 3)) && Fy n) := by unfold FA; rw [ht,hn]; rfl
 rw [e] at hh
 clear e h
 have fin : ¬ (0 < n.mt.length ∧ n.kind ≠ 2 ∧ n.kind ≠ 3) → ∀ t,Fy n = t → R (.returned (.bool t)) σ1 := fun D2 t ht => by
   have e2 : (!(decide (0 < n.mt.length) && decide (n.kind ≠ 2) && decide (n.kind ≠ 3))) = true := by
     rw [Bool.not_eq_true',Bool.eq_false_iff]
     intro hc
     simp only [Bool.and_eq_true,decide_eq_true_eq] at hc
     exact D2 ⟨hc.1.1,hc.1.2,hc.2⟩
   rw [e2,Bool.true_and,ht] at hh; exact hh
 refine ⟨fun hm => ⟨fun h2 => ⟨fun h3 => ?_,fun h3 => ?_⟩,fun h2 => ?_⟩,fun hm => ?_⟩
 · rw [show (!(decide (0 < n.mt.length) && decide (n.kind ≠ 2) && decide (n.kind ≠ 3))) = false by rw [decide_eq_true (show 0 < n.mt.length by omega),decide_eq_true h2,decide_eq_true h3]; rfl,Bool.false_and] at hh
   exact hh
 all_goals
   have fin := fin (by omega)
   clear hh ht hn
   refine ⟨fun k1 => LA hb ⟨_,rfl,?_⟩,fun k1 => ⟨fun k2 => Ou ⟨_,rfl,?_⟩,fun k2 => ⟨fun k3 => Ou ⟨_,rfl,fun ht => Ou ⟨_,rfl,?_⟩,fun hf => ?_⟩,fun k3 => ⟨fun k4 => ⟨fun hp => ⟨fun ho => ?_,fun ho => ?_⟩,fun hp => ?_⟩,fun k4 => ⟨fun k5 => ⟨fun hp => ⟨fun ho => ⟨fun Be => ⟨fun g0 => ?_,fun g0 => ⟨fun g1 => ?_,fun g1 => ?_⟩⟩,fun Be => ?_⟩,fun ho => ?_⟩,fun hp => ?_⟩,fun k5 => ⟨fun k6 => ⟨fun hp => ⟨fun ho => ⟨fun Be => ⟨fun g0 => ⟨fun bf => ?_,fun bt => Cc ⟨_,rfl,?_⟩⟩,fun g0 => ⟨fun g3 => ⟨fun bf => ?_,fun bt => Cc ⟨_,rfl,?_⟩⟩,fun g3 => ⟨fun g4 => ⟨fun bf => ?_,fun bt => Cc ⟨_,rfl,?_⟩⟩,fun g4 => ?_⟩⟩⟩,fun Be => ?_⟩,fun ho => ?_⟩,fun hp => ?_⟩,fun k6 => ⟨fun k7 => ?_,fun k7 => ?_⟩⟩⟩⟩⟩⟩⟩ <;> (refine fin _ ?_; clear fin; unfold Fy; simp [*])
end
end TwW
end
section
namespace TwW
open Go Tw Go.RowKit Go.Proofs.Tryz
section
variable {σ : Hp} {R : Rr}
abbrev tyV (x : Int × Int) : Value := .tuple #[.int .i64 x.1,.int .i64 x.2]
def ZE (n : Nd) (a : Int) : Int × Int := if a = (if n.op = 11 ∨ n.op = 12 then 2 else 3) then (2,0) else (0,191)
def fK (a : Int) : Int × Int := if a = 2 then (2,0) else (0,191)
def ov (a : Int) : Int × Int := if a = 3 then (0,191) else (a,0)
theorem cI {w : Option Addr} {n : Nd} {p q r : Option Addr} {k c m d s t : Nat} {l : List Int} {a : Int} (hr : E7 .i64 σ r s l) (ha : l[0]? = some a) (h : R (.returned (tyV (ZE n a))) σ) : Spec prog 82 #[.pointer w,Ly n p k c q m d,.slice r s t] σ R := by
 have hs : l.length = s := hr.1
 have h0 := (List.getElem?_eq_some_iff.1 ha).1
 obtain ⟨b,o,rfl,ES⟩ := E7.at hr ha
 have go : ∀ z : Int,(if n.op = 11 ∨ n.op = 12 then 2 else 3) = z → Bh.E6 R (some ⟨b,o,none⟩) s t z σ := fun z hz => by
   unfold ZE at h
   rw [hz] at h
   refine Bh.FY ⟨b,o,rfl,by omega,a,by simpa using ES,fun Az => ?_,fun heq => ?_⟩
   · rw [if_neg Az] at h; exact h
   · rw [if_pos (Decidable.not_not.1 heq)] at h; exact h
 exact Bh.start fun _ => ⟨fun h1 => go 2 (if_pos (.inl h1)),fun h1 => ⟨fun h2 => go 2 (if_pos (.inr h2)),fun h2 => go 3 (if_neg (by omega))⟩⟩
theorem iT {w : Option Addr} {n : Nd} {p q r : Option Addr} {k c m d s t : Nat} {l : List Int} {a : Int} (hr : E7 .i64 σ r s l) (ha : l[0]? = some a) (h : R (.returned (tyV (fK a))) σ) : Spec prog 83 #[.pointer w,Ly n p k c q m d,.slice r s t] σ R := by
 have hs : l.length = s := hr.1
 have h0 := (List.getElem?_eq_some_iff.1 ha).1
 obtain ⟨b,o,rfl,ES⟩ := E7.at hr ha
 unfold fK at h
 refine EY.start fun _ => ⟨b,o,rfl,by omega,a,by simpa using ES,fun Az => ?_,fun heq => ?_⟩
 · rw [if_neg Az] at h; exact h
 · rw [if_pos (Decidable.not_not.1 heq)] at h; exact h
theorem iU {w : Option Addr} {n : Nd} {p q r : Option Addr} {k c m d s t : Nat} {l : List Int} {a : Int} (hr : E7 .i64 σ r s l) (ha : l[0]? = some a) (h : R (.returned (tyV (ov a))) σ) : Spec prog 85 #[.pointer w,Ly n p k c q m d,.slice r s t] σ R := by
 have hs : l.length = s := hr.1
 have h0 := (List.getElem?_eq_some_iff.1 ha).1
 obtain ⟨b,o,rfl,ES⟩ := E7.at hr ha
 unfold ov at h
 refine En.start fun _ => ⟨b,o,rfl,by omega,a,by simpa using ES,fun heq => ?_,fun Az => ⟨by omega,a,by simpa using ES,?_⟩⟩
 · rw [if_pos heq] at h; exact h
 · rw [if_neg Az] at h; exact h
end
end TwW
end
section
namespace TwW
open Go Tw Go.RowKit Go.Proofs.Tryz
section
variable {σ : Hp} {R : Rr}
def iV (n : Nd) (a b : Int) : Int × Int := if a = 3 ∨ b = 3 ∨ ((11 ≤ n.op ∧ n.op ≤ 13 ∨ n.EO ≠ 0) ∧ ¬ (a = 2 ∧ b = 2)) ∨ (a = 1 ∧ b = 1 ∧ Ft n.op = true ∧ n.bool = false) then (0,192) else (if a < b then b else a,0)
theorem iW {w : Option Addr} {n : Nd} {p q r : Option Addr} {k c m d s t : Nat} {l : List Int} {a b : Int} (hr : E7 .i64 σ r s l) (ha : l[0]? = some a) (hb : l[1]? = some b) (h : R (.returned (tyV (iV n a b))) σ) : Spec prog 84 #[.pointer w,Ly n p k c q m d,.slice r s t] σ R := by
 have hs : l.length = s := hr.1
 have h1 := (List.getElem?_eq_some_iff.1 hb).1
 obtain ⟨b1,o,rfl,ES⟩ := E7.at hr ha
 obtain ⟨_,_,he,ANW⟩ := E7.at hr hb
 cases he
 have bad : a = 3 ∨ b = 3 ∨ ((11 ≤ n.op ∧ n.op ≤ 13 ∨ n.EO ≠ 0) ∧ ¬ (a = 2 ∧ b = 2)) ∨ (a = 1 ∧ b = 1 ∧ Ft n.op = true ∧ n.bool = false) → R (.returned (.tuple #[.int .i64 0,.int .i64 192])) σ := fun hh => by
   unfold iV at h; rw [if_pos hh] at h; exact h
 have good : ¬ (a = 3 ∨ b = 3 ∨ ((11 ≤ n.op ∧ n.op ≤ 13 ∨ n.EO ≠ 0) ∧ ¬ (a = 2 ∧ b = 2)) ∨ (a = 1 ∧ b = 1 ∧ Ft n.op = true ∧ n.bool = false)) → R (.returned (.tuple #[.int .i64 (if a < b then b else a),.int .i64 0])) σ := fun hh => by
   unfold iV at h; rw [if_neg hh] at h; exact h
 clear h
 refine Eg.start fun _ => ⟨b1,o,rfl,by omega,a,by simpa using ES,by omega,b,by simpa using ANW,?_⟩
 repeat' first
   | (apply Pj; refine Exists.intro _ (And.intro rfl ?_))
   | (apply Cc; refine Exists.intro _ (And.intro rfl ?_))
   | (apply And.intro <;> intro _)
 all_goals first
   | (refine bad ?_; simp_all; done)
   | (refine good ?_; simp_all; done)
   | (refine bad ?_; simp_all; omega)
   | (refine good ?_; simp_all; omega)
end
end TwW
end
section
namespace TwW
open Go Tw Go.RowKit Go.Proofs.Tryz
theorem DD.en : Enters prog 96 := fun args w => call96 args w
theorem Dl.en : Enters prog 153 := fun args w => call153 args w
theorem DE.en : Enters prog 159 := fun args w => call159 args w
theorem BU.en : Enters prog 230 := fun args w => call230 args w
theorem BO.en : Enters prog 294 := fun args w => call294 args w
theorem EY.en : Enters prog 83 := fun args w => call83 args w
theorem Gw.en : Enters prog 155 := fun args w => call155 args w
theorem BQ.en : Enters prog 187 := fun args w => call187 args w
theorem I4.en : Enters prog 226 := fun args w => call226 args w
theorem I6.en : Enters prog 145 := fun args w => call145 args w
theorem Bh.en : Enters prog 82 := fun args w => call82 args w
theorem C4.en : Enters prog 105 := fun args w => call105 args w
theorem DG.en : Enters prog 139 := fun args w => call139 args w
theorem DH.en : Enters prog 185 := fun args w => call185 args w
theorem DI.en : Enters prog 189 := fun args w => call189 args w
theorem FZ.en : Enters prog 224 := fun args w => call224 args w
theorem AU.en : Enters prog 103 := fun args w => call103 args w
theorem BH.en : Enters prog 106 := fun args w => call106 args w
theorem DJ.en : Enters prog 158 := fun args w => call158 args w
theorem DK.en : Enters prog 171 := fun args w => call171 args w
theorem DL.en : Enters prog 191 := fun args w => call191 args w
theorem Ef.en : Enters prog 217 := fun args w => call217 args w
theorem Eg.en : Enters prog 84 := fun args w => call84 args w
theorem Bp.en : Enters prog 100 := fun args w => call100 args w
theorem Ei.en : Enters prog 154 := fun args w => call154 args w
theorem GU.en : Enters prog 198 := fun args w => call198 args w
theorem Cp.en : Enters prog 212 := fun args w => call212 args w
theorem Ek.en : Enters prog 218 := fun args w => call218 args w
theorem Af.en : Enters prog 101 := fun args w => call101 args w
theorem AQ.en : Enters prog 102 := fun args w => call102 args w
theorem DN.en : Enters prog 127 := fun args w => call127 args w
theorem NZ.en : Enters prog 144 := fun args w => call144 args w
theorem Fp.en : Enters prog 151 := fun args w => call151 args w
theorem G0.en : Enters prog 152 := fun args w => call152 args w
theorem D4.en : Enters prog 220 := fun args w => call220 args w
theorem CF.en : Enters prog 71 := fun args w => call71 args w
theorem En.en : Enters prog 85 := fun args w => call85 args w
theorem AO.en : Enters prog 104 := fun args w => call104 args w
theorem DP.en : Enters prog 193 := fun args w => call193 args w
theorem D5.en : Enters prog 219 := fun args w => call219 args w
instance : oJ prog 99 9 3 := ⟨underlying99,underlying9⟩
instance : oM.rW prog 150 3 148 := ⟨underlying150,underlying3⟩
instance : oM.rW prog 191 3 190 := ⟨underlying191,underlying3⟩
instance : oJ prog 197 9 200 := ⟨underlying197,underlying9⟩
instance : oM.rW prog 202 3 201 := ⟨underlying202,underlying3⟩
instance : oJ prog 243 9 71 := ⟨underlying243,underlying9⟩
end TwW
end
section
namespace TwW
open Go Go.MapKept Tw Go.RowKit Go.Proofs.Tryz
section
variable {P : Program} {σ σ' : Hp} {R : Rr}
def cJ (x : Int × Value) (n : Nat) : MapEntry := { key := .int .i64 x.1,val := x.2,born := n }
def MI (σ : Hp) (m : Nat) (l : List (Int × Value)) : Prop := ∃ (bs : List Nat) (clock : Nat),bs.length = l.length ∧ oM.BR σ m (List.zipWith cJ l bs) clock
theorem MI.loc {m : Nat} {l : List (Int × Value)} (h : MI σ m l) (hx : σ' m = σ m) : MI σ' m l := let ⟨bs,c,h1,h2⟩ := h; ⟨bs,c,h1,h2.loc hx⟩
theorem MI.known {m : Nat} {l : List (Int × Value)} (h : MI σ m l) : σ m ≠ none := let ⟨bs,c,h1,h2⟩ := h; by rw [h2.1]; simp
theorem MI.fresh {m : Nat} : MI (σ.set m (.map #[] 0)) m [] := ⟨[],0,rfl,oM.BR.fresh⟩
theorem MI.put {T K V : TypeId} [oM.rW P T K V] {m : Nat} {l : List (Int × Value)} {x : Int} {v : Value} {Φ : Unit → Hp → Prop} (h : MI σ m l) (hn : ∀ a ∈ l,a.1 ≠ x)
   (hΦ : ∀ o,MI (σ.set m o) m (l ++ [(x,v)]) → Φ () (σ.set m o)) : AJ P (Instr.mapUpdate T (.map (some m)) (.int .i64 x) v) σ Φ := by
 obtain ⟨bs,clock,hb,hm⟩ := h
 refine oM.Hm hm (fun D2 σ' hσ hm' => ?_) fun l1 e l2 hl he σ' hσ hm' => ?_
 · subst hσ
   refine hΦ _ ⟨bs ++ [clock],clock + 1,by simp [hb],?_⟩
   rw [List.zipWith_append hb.symm]
   exact hm'
 · have ow : e ∈ List.zipWith cJ l bs := by rw [hl]; simp
   obtain ⟨i,hi⟩ := List.mem_iff_getElem?.1 ow
   rw [List.getElem?_zipWith] at hi
   cases uG : l[i]? with
   | none => rw [uG] at hi; cases hi
   | some a =>
     cases hbi : bs[i]? with
     | none => rw [uG,hbi] at hi; cases hi
     | some b =>
       rw [uG,hbi] at hi
       simp only [Option.some.injEq] at hi
       subst hi
       have := hn a (List.mem_of_getElem? uG)
       simp only [cJ,Value.int.injEq,true_and] at he
       exact absurd he this
theorem MI.look {T K V : TypeId} [oM.rW P T K V] {m : Nat} {l : List (Int × Value)} {x : Int} {z : Value} {Φ : Value → Hp → Prop} (h : MI σ m l) (hz : ∀ w,(zeroValue V).run P w = .ok z w)
   (h0 : (∀ a ∈ l,a.1 ≠ x) → Φ z σ) (h1 : ∀ v,(x,v) ∈ l → Φ v σ) : AJ P (Instr.lookup T (.map (some m)) (.int .i64 x) false) σ Φ := by
 obtain ⟨bs,clock,hb,hm⟩ := h
 refine oM.Ml hm hz (fun D2 => h0 fun a ha hax => ?_) fun l1 e l2 hl he => ?_
 · obtain ⟨i,hi⟩ := List.mem_iff_getElem?.1 ha
   have An := (List.getElem?_eq_some_iff.1 hi).1
   have hm : cJ a (bs[i]'(by omega)) ∈ List.zipWith cJ l bs := List.mem_iff_getElem?.2 ⟨i,by rw [List.getElem?_zipWith,hi,List.getElem?_eq_getElem (by omega)]⟩
   exact D2 _ hm (by rw [← hax]; rfl)
 · have ow : e ∈ List.zipWith cJ l bs := by rw [hl]; simp
   obtain ⟨i,hi⟩ := List.mem_iff_getElem?.1 ow
   rw [List.getElem?_zipWith] at hi
   cases uG : l[i]? with
   | none => rw [uG] at hi; cases hi
   | some a =>
     cases hbi : bs[i]? with
     | none => rw [uG,hbi] at hi; cases hi
     | some b =>
       rw [uG,hbi] at hi
       simp only [Option.some.injEq] at hi
       subst hi
       simp only [cJ,Value.int.injEq,true_and] at he
       subst he
       exact h1 a.2 (List.mem_of_getElem? uG)
def ox (τ σ : Hp) (m : Nat) (l : List (Int × Value)) : Prop := Ext τ σ ∧ τ m = none ∧ MI σ m l
theorem ox.fresh {τ : Hp} {m : Nat} (h : τ m = none) : ox τ (τ.set m (.map #[] 0)) m [] := ⟨.set h,h,MI.fresh⟩
theorem ox.alloc {τ : Hp} {m b : Nat} {l : List (Int × Value)} {o : Obj} (h : ox τ σ m l) (hb : σ b = none) : ox (τ.set b o) (σ.set b o) m l := by
 have Az : m ≠ b := fun e => h.2.2.known (by rw [e]; exact hb)
 refine ⟨fun k u hk => ?_,by rw [Hp.AI Az]; exact h.2.1,h.2.2.loc (Hp.AI Az)⟩
 by_cases HQ : k = b
 · subst HQ; rw [Hp.AB] at hk ⊢; exact hk
 · rw [Hp.AI HQ] at hk ⊢; exact h.1 _ _ hk
theorem ox.put {τ : Hp} {T K V : TypeId} [oM.rW P T K V] {m : Nat} {l : List (Int × Value)} {x : Int} {v : Value} {Φ : Unit → Hp → Prop} (h : ox τ σ m l) (hn : ∀ a ∈ l,a.1 ≠ x)
   (hΦ : ∀ σ',ox τ σ' m (l ++ [(x,v)]) → Φ () σ') : AJ P (Instr.mapUpdate T (.map (some m)) (.int .i64 x) v) σ Φ :=
 h.2.2.put hn fun o ho => hΦ _ ⟨fun k u hk => by rw [Hp.AI (fun e => by rw [e,h.2.1] at hk; cases hk)]; exact h.1 _ _ hk,h.2.1,ho⟩
section
variable {α : Type}
theorem S4 {l : List (ByteArray × α)} {k : ByteArray} (h : ∀ a ∈ l,a.1 ≠ k) : DU l k = none := by
 induction l with
 | nil => rfl
 | cons a l ih => rw [DU,if_neg (h a (by simp))]; exact ih fun b hb => h b (List.mem_cons_of_mem _ hb)
theorem U7 {l m : List (ByteArray × α)} {k : ByteArray} {y : α} (h : ∀ a ∈ l,a.1 ≠ k) : DU (l ++ (k,y) :: m) k = some y := by
 induction l with
 | nil => simp [DU]
 | cons a l ih => rw [List.cons_append,DU,if_neg (h a (by simp))]; exact ih fun b hb => h b (List.mem_cons_of_mem _ hb)
theorem Ow {l : List (ByteArray × α)} {k : ByteArray} {y : α} (h : ∀ a ∈ l,a.1 ≠ k) : WC l k y = l ++ [(k,y)] := by
 induction l with
 | nil => rfl
 | cons a l ih => rw [WC,if_neg (h a (by simp)),ih fun b hb => h b (List.mem_cons_of_mem _ hb)]; rfl
theorem ZF {l m : List (ByteArray × α)} {k : ByteArray} {y z : α} (h : ∀ a ∈ l,a.1 ≠ k) : WC (l ++ (k,z) :: m) k y = l ++ (k,y) :: m := by
 induction l with
 | nil => simp [WC]
 | cons a l ih => rw [List.cons_append,WC,if_neg (h a (by simp)),ih fun b hb => h b (List.mem_cons_of_mem _ hb)]; rfl
def MS (E : Value → α → Prop) (σ : Hp) (m : Nat) (L : List (ByteArray × α)) : Prop :=
 ∃ (l : List MapEntry) (clock : Nat),BR σ m l clock ∧ l.length = L.length ∧ ∀ (i : Nat) (e : MapEntry) (x : ByteArray × α),l[i]? = some e → L[i]? = some x → e.key = .string x.1 ∧ E e.val x.2
theorem MS.mono {E : Value → α → Prop} {m : Nat} {L : List (ByteArray × α)} (h : MS E σ m L) (hx : Ext σ σ') : MS E σ' m L := let ⟨l,c,h1,h2⟩ := h; ⟨l,c,h1.mono hx,h2⟩
theorem MS.loc {E : Value → α → Prop} {m : Nat} {L : List (ByteArray × α)} (h : MS E σ m L) (hx : σ' m = σ m) : MS E σ' m L := let ⟨l,c,h1,h2⟩ := h; ⟨l,c,h1.loc hx,h2⟩
theorem MS.imp {E E' : Value → α → Prop} {m : Nat} {L : List (ByteArray × α)} (h : MS E σ m L) (hE : ∀ v x,E v x → E' v x) : MS E' σ m L := let ⟨l,c,h1,h2,h3⟩ := h; ⟨l,c,h1,h2,fun i e x he hx => ⟨(h3 i e x he hx).1,hE _ _ (h3 i e x he hx).2⟩⟩
theorem MS.known {E : Value → α → Prop} {m : Nat} {L : List (ByteArray × α)} (h : MS E σ m L) : σ m ≠ none := let ⟨l,c,h1,h2⟩ := h; by rw [h1.1]; simp
theorem MS.fresh {E : Value → α → Prop} {m : Nat} : MS E (σ.set m (.map #[] 0)) m [] := ⟨[],0,BR.fresh,rfl,fun i e x he => by simp at he⟩
theorem MS.len {E : Value → α → Prop} {T K V ty : TypeId} [oJ P T K V] {m : Nat} {L : List (ByteArray × α)} (h : MS E σ m L) : YF P (Builtin.len_ #[T] ty #[.map (some m)]) σ (.int .i64 L.length) := by
 obtain ⟨l,c,h1,h2,h3⟩ := h
 rw [← h2]; exact oK h1
theorem S5 {E : Value → α → Prop} {l l1 l2 : List MapEntry} {e : MapEntry} {L : List (ByteArray × α)} {s : ByteArray} (hn : (l.map (·.key)).Nodup) (h2 : l.length = L.length) (h3 : ∀ (i : Nat) (e : MapEntry) (x : ByteArray × α),l[i]? = some e → L[i]? = some x → e.key = .string x.1 ∧ E e.val x.2) (hl : l = l1 ++ e :: l2) (he : e.key = .string s) :
   ∃ L1 x L2,L = L1 ++ (s,x) :: L2 ∧ L1.length = l1.length ∧ (∀ a ∈ L1,a.1 ≠ s) ∧ E e.val x := by
 subst hl
 have An : l1.length < L.length := by rw [← h2]; simp
 have Mr : L = L.take l1.length ++ L[l1.length] :: L.drop (l1.length + 1) := by rw [List.getElem_cons_drop,List.take_append_drop]
 have hx := h3 l1.length e L[l1.length] (by simp) (List.getElem?_eq_getElem _)
 rw [he] at hx
 have hk : L[l1.length].1 = s := by simpa using hx.1.symm
 refine ⟨L.take l1.length,L[l1.length].2,L.drop (l1.length + 1),?_,by rw [List.length_take]; omega,fun a ha has => ?_,hx.2⟩
 · rw [← hk]; exact Mr
 · obtain ⟨i,hi⟩ := List.mem_iff_getElem?.1 ha
   rw [List.getElem?_take] at hi
   split at hi
   · rename_i iX
     have hle : (l1 ++ e :: l2)[i]? = some (l1[i]'iX) := by rw [List.getElem?_append_left iX,List.getElem?_eq_getElem iX]
     have h4 := (h3 i _ a hle hi).1
     rw [List.map_append,List.map_cons,List.nodup_append] at hn
     exact hn.2.2 _ (List.mem_map.2 ⟨l1[i]'iX,List.getElem_mem iX,rfl⟩) _ (by simp; exact .inl rfl) (by rw [h4,he,has])
   · cases hi
theorem MS.uH {E : Value → α → Prop} {l : List MapEntry} {L : List (ByteArray × α)} {s : ByteArray} (h2 : l.length = L.length) (h3 : ∀ (i : Nat) (e : MapEntry) (x : ByteArray × α),l[i]? = some e → L[i]? = some x → e.key = .string x.1 ∧ E e.val x.2) (D2 : ∀ e ∈ l,e.key ≠ .string s) : ∀ a ∈ L,a.1 ≠ s := fun a ha has => by
 obtain ⟨i,hi⟩ := List.mem_iff_getElem?.1 ha
 have An := (List.getElem?_eq_some_iff.1 hi).1
 have := (h3 i (l[i]'(by omega)) a (List.getElem?_eq_getElem _) hi).1
 exact D2 _ (List.getElem_mem _) (by rw [this,has])
theorem MS.look {E : Value → α → Prop} {T K V : TypeId} [oJ P T K V] {m : Nat} {L : List (ByteArray × α)} {s : ByteArray} {z : Value} {Φ : Value → Hp → Prop} (h : MS E σ m L) (hz : ∀ w,(zeroValue V).run P w = .ok z w)
   (h0 : DU L s = none → Φ z σ) (h1 : ∀ v x,DU L s = some x → E v x → Φ v σ) : AJ P (Instr.lookup T (.map (some m)) (.string s) false) σ Φ := by
 obtain ⟨l,c,hm,h2,h3⟩ := h
 refine Ml hm hz (fun D2 => h0 (S4 (MS.uH h2 h3 D2))) fun l1 e l2 hl he => ?_
 obtain ⟨L1,x,L2,rfl,_,D2,hE⟩ := S5 hm.nodup h2 h3 hl he
 exact h1 e.val x (U7 D2) hE
theorem MS.ZG {E : Value → α → Prop} {T K V : TypeId} [t : oJ P T K V] {m : Nat} {L : List (ByteArray × α)} {s : ByteArray} {z : Value} {Φ : Value → Hp → Prop} (h : MS E σ m L) (hz : ∀ w,(zeroValue V).run P w = .ok z w)
   (h0 : DU L s = none → Φ (.tuple #[z,.bool false]) σ) (h1 : ∀ v x,DU L s = some x → E v x → Φ (.tuple #[v,.bool true]) σ) : AJ P (Instr.lookup T (.map (some m)) (.string s) true) σ Φ := by
 obtain ⟨l,c,hm,h2,h3⟩ := h
 rcases FN (s := s) hm.2.2 with ⟨hf,D2⟩ | ⟨l1,e,l2,hl,he,hf⟩
 · refine AJ.pu (fun w hs => ?_) (h0 (S4 (MS.uH h2 h3 D2)))
   have := hs _ _ hm.1
   simp [Instr.lookup,run_underlying t.dX,run_getObj_map this,run_checkKey t.key (k := .string s) trivial,run_findKey t.key hf,hz,Result.andThen]
 · obtain ⟨L1,x,L2,rfl,_,D2,hE⟩ := S5 hm.nodup h2 h3 hl he
   refine AJ.pu (fun w hs => ?_) (h1 e.val x (U7 D2) hE)
   have := hs _ _ hm.1
   simp [Instr.lookup,run_underlying t.dX,run_getObj_map this,run_checkKey t.key (k := .string s) trivial,run_findKey t.key hf,Result.andThen]
theorem MS.put {E : Value → α → Prop} {T K V : TypeId} [oJ P T K V] {m : Nat} {L : List (ByteArray × α)} {s : ByteArray} {v : Value} {x : α} {Φ : Unit → Hp → Prop} (h : MS E σ m L) (hv : E v x)
   (hΦ : ∀ o,MS E (σ.set m o) m (WC L s x) → Φ () (σ.set m o)) : AJ P (Instr.mapUpdate T (.map (some m)) (.string s) v) σ Φ := by
 obtain ⟨l,c,hm,h2,h3⟩ := h
 refine Hm hm (fun D2 σ' hσ hm' => ?_) fun l1 e l2 hl he σ' hσ hm' => ?_
 · subst hσ
   refine hΦ _ ⟨_,_,hm',?_,fun i e y hi hy => ?_⟩
   · rw [Ow (MS.uH h2 h3 D2)]; simp [h2]
   · rw [Ow (MS.uH h2 h3 D2)] at hy
     rw [List.getElem?_append] at hi hy
     split at hi
     · rename_i An
       rw [if_pos (by omega)] at hy
       exact h3 i e y hi hy
     · rename_i An
       rw [if_neg (by omega)] at hy
       rw [← h2] at hy
       cases hj : i - l.length with
       | zero =>
         rw [hj] at hi hy
         simp only [List.getElem?_cons_zero,Option.some.injEq] at hi hy
         subst hi; subst hy
         exact ⟨rfl,hv⟩
       | succ j => rw [hj] at hi; simp at hi
 · obtain ⟨L1,y,L2,rfl,hlen,D2,hE⟩ := S5 hm.nodup h2 h3 hl he
   subst hσ
   subst hl
   refine hΦ _ ⟨_,_,hm',?_,fun i e' z hi hz => ?_⟩
   · rw [ZF D2]; simp at h2 ⊢; omega
   · rw [ZF D2] at hz
     by_cases iX : i = l1.length
     · subst iX
       rw [← hlen] at hz
       simp at hi hz
       subst hi; subst hz
       exact ⟨rfl,hv⟩
     · have e1 : (l1 ++ Tw.NB s v e.born :: l2)[i]? = (l1 ++ e :: l2)[i]? := by
         rcases Nat.lt_or_ge i l1.length with h | h
         · rw [List.getElem?_append_left h,List.getElem?_append_left h]
         · obtain ⟨k,rfl⟩ : ∃ k,i = l1.length + (k + 1) := ⟨i - l1.length - 1,by omega⟩
           simp [List.getElem?_append_right]
       have e2 : (L1 ++ (s,x) :: L2)[i]? = (L1 ++ (s,y) :: L2)[i]? := by
         rcases Nat.lt_or_ge i L1.length with h | h
         · rw [List.getElem?_append_left h,List.getElem?_append_left h]
         · obtain ⟨k,rfl⟩ : ∃ k,i = L1.length + (k + 1) := ⟨i - L1.length - 1,by omega⟩
           simp [List.getElem?_append_right]
       exact h3 i e' z (by rw [← e1]; exact hi) (by rw [← e2]; exact hz)
end
end
end TwW
end
section
namespace TwW
open Go Tw Go.RowKit Go.Proofs.Tryz
def OE (n : Nd) (l : List Int) : Int × Int :=
 if n.kind = 1 then (1,0) else if n.kind = 2 then (2,0) else if n.kind = 3 then (3,0) else if n.kind = 4 then ZE n (l[0]?.getD 0) else if n.kind = 5 then fK (l[0]?.getD 0)
 else if n.kind = 6 then iV n (l[0]?.getD 0) (l[1]?.getD 0) else ov (l[0]?.getD 0)
def BP (n : Nd) (st : List Int) : Int × List Int :=
 if FA n = false ∨ (st.length : Int) < n.parts then (190,st) else if G8 DZ n.mt ≠ 0 then (193,st) else
   ((OE n (st.drop (st.length - n.parts.toNat))).2,st.take (st.length - n.parts.toNat) ++ [(OE n (st.drop (st.length - n.parts.toNat))).1])
theorem IU {n : Nd} (h : FA n = true) : Fy n = true := by
 unfold FA at h
 simp only [Bool.and_eq_true] at h
 exact h.2
theorem Ox {n : Nd} (h : FA n = true) : GH n (BJ n) = true := by
 unfold FA at h
 simp only [Bool.and_eq_true] at h
 exact h.1.1.1
theorem A9.AI {s b : Nat} {o : Obj} {σ : Hp} {p : Option Addr} {n c : Nat} {cs : List Value} (ho : A9 s σ p n c cs) (h : ∀ a,p = some a → a.block ≠ b) : A9 s (σ.set b o) p n c cs :=
 ⟨ho.1,ho.2.1,ho.2.2.imp id fun ⟨b',o',arr,T,hp,hb,r⟩ => ⟨b',o',arr,T,hp,by rw [Hp.AI (h _ hp)]; exact hb,r⟩⟩
theorem uI : ∀ w,(zeroValue 148).run prog w = .ok .nilFunc w := fun w => by
 have h : prog.info? 148 = some t148 := by kernel_rfl
 simp [zeroValue,typeInfo,h]
 rfl
structure cK (σ0 σ : Hp) (wb : Nat) (p : Option Addr) (n c : Nat) (st : List Int) : Prop where
 cell : σ wb = some (.cells #[.slice p n c] 110 (0,0))
 own : Di .i64 σ p n c st
 off : ∀ a,p = some a → a.block ≠ wb ∧ σ0 a.block = none
 new : σ0 wb = none
 ext : Ext σ0 σ
section
variable {σ σ' σ0 : Hp} {R : Rr}
theorem cK.mono {wb : Nat} {p : Option Addr} {n c : Nat} {st : List Int} (h : cK σ0 σ wb p n c st) (hx : Ext σ σ') : cK σ0 σ' wb p n c st := ⟨hx _ _ h.cell,h.own.mono hx,h.off,h.new,h.ext.trans hx⟩
theorem Oy {k : Int} (h : ∀ b,σ b = none → R (.returned (.func (.func 127) #[] #[.pointer (aD b 0)])) (σ.set b (.cells #[.int .i64 k] 3 (0,0)))) : Spec prog 81 #[.int .i64 k] σ R := SP.start h
theorem Ms {n : Nd} {p q r : Option Addr} {k c m d s t b : Nat} {v : Int} (hb : σ b = some (.cells #[.int .i64 v] 3 (0,0))) (h : R (.returned (tyV (v,0))) σ) : Spec prog 127 #[Ly n p k c q m d,.slice r s t,.pointer (aD b 0)] σ R :=
 DN.start fun _ => ⟨v,Ag hb rfl,h⟩
theorem uJ : ∀ w,(Go.sizeOf 108).run prog w = .ok 1 w := fun w => by kernel_rfl
theorem iY {wb : Nat} {p q r : Option Addr} {k c m d j e : Nat} {st : List Int} {n : Nd} (hW : cK σ0 σ wb r j e st) (hm : Ad 3 OD σ0 p k n.mt) (hr : Ez 1 σ0 q m (n.names.map .string)) (hb : n.text.size ≤ 4611686018427387904) (hj : j ≤ 1000000000000)
   (h : ∀ r' j' e' σ',(BP n st).1 = 0 → cK σ0 σ' wb r' j' e' (BP n st).2 → R (.returned (.int .i64 0)) σ') (h' : ∀ σ',(BP n st).1 ≠ 0 → Ext σ0 σ' → R (.returned (.int .i64 (BP n st).1)) σ') :
   Spec prog 53 #[.pointer (some ⟨wb,0,none⟩),Ly n p k c q m d] σ R := by
 have hk : n.mt.length = k := hm.1
 have hsl : st.length = j := by have := hW.own.1; simpa using this
 refine JR.start fun _ => iS hk (hr.mono hW.ext) hb fun σ1 CH => ⟨_,rfl,fun hf => ?_,fun ht => ?_⟩
 · have e1 : BP n st = (190,st) := by unfold BP; rw [if_pos (.inl hf)]
   rw [e1] at h'
   exact h' σ1 (by dsimp only; decide) (hW.ext.trans CH)
 have hW1 := hW.mono CH
 refine ⟨wb,0,rfl,r,j,e,Ag hW1.cell rfl,fun An => ?_,fun iF => Pk (hm.mono OD.mono hW1.ext) ⟨_,rfl,fun Az => ?_,fun h0 => ?_⟩⟩
 · have e1 : BP n st = (190,st) := by unfold BP; rw [if_pos (.inr (by omega))]
   rw [e1] at h'
   exact h' σ1 (by dsimp only; decide) hW1.ext
 · have e1 : BP n st = (193,st) := by unfold BP; rw [if_neg (by rw [ht]; simp; omega),if_pos Az]
   rw [e1] at h'
   exact h' σ1 (by dsimp only; decide) hW1.ext
 have fE := Decidable.not_not.1 h0
 have eS : BP n st = ((OE n (st.drop (st.length - n.parts.toNat))).2,st.take (st.length - n.parts.toNat) ++ [(OE n (st.drop (st.length - n.parts.toNat))).1]) := by
   unfold BP; rw [if_neg (by rw [ht]; simp; omega),if_neg h0]
 rw [eS] at h h'
 dsimp only at h h'
 have Cs := IU ht
 have ANY : 0 ≤ n.parts := by
   unfold Fy at Cs
   have hp := Ox ht
   by_cases h1 : n.kind = 1
   · unfold GH BJ at hp; simp [h1] at hp; omega
   by_cases h2 : n.kind = 2
   · unfold GH BJ at hp; simp [h2] at hp; omega
   by_cases h3 : n.kind = 3
   · unfold GH BJ at hp; simp [h3] at hp; omega
   rw [if_neg h1,if_neg h2,if_neg h3] at Cs
   split at Cs
   · simp at Cs; omega
   · split at Cs
     · simp at Cs; omega
     · split at Cs
       · simp at Cs; omega
       · simp at Cs; omega
 obtain ⟨t,hpt⟩ : ∃ t : Nat,n.parts = t := ⟨n.parts.toNat,by omega⟩
 have htj : t ≤ j := by omega
 have htn : n.parts.toNat = t := by omega
 rw [htn,hsl] at h h'
 refine EI fun mb oy => ⟨mb,rfl,?_⟩
 have s0 := ox.fresh oy
 refine Oy fun b1 T8 => ⟨_,_,_,rfl,?_⟩
 have s1 := s0.alloc (o := .cells #[.int .i64 1] 3 (0,0)) T8
 refine s1.put (by simp) fun σ2 s2 => Oy fun b2 Pw => ⟨_,_,_,rfl,?_⟩
 have s3 := s2.alloc (o := .cells #[.int .i64 2] 3 (0,0)) Pw
 refine s3.put (by simp) fun σ4 s4 => Oy fun b3 Z3 => ⟨_,_,_,rfl,?_⟩
 have s5 := s4.alloc (o := .cells #[.int .i64 3] 3 (0,0)) Z3
 refine s5.put (by simp) fun σ6 s6 => s6.put (by simp) fun σ7 s7 => s7.put (by simp) fun σ8 s8 => s8.put (by simp) fun σ9 s9 => s9.put (by simp) fun σA sA => ?_
 clear s0 s1 s3 s5 s6 s7 s8 s9
 have n1 : σ1 b1 = none := (Hp.AW T8).2
 have n2 : (σ1.set b1 (.cells #[.int .i64 1] 3 (0,0))) b2 = none := A2 s2.1 Pw
 have n3 : ((σ1.set b1 (.cells #[.int .i64 1] 3 (0,0))).set b2 (.cells #[.int .i64 2] 3 (0,0))) b3 = none := A2 s4.1 Z3
 have x1 : Ext σ1 σA := (Ext.set n1).trans ((Ext.set n2).trans ((Ext.set n3).trans sA.1))
 have c3 := sA.1 b3 _ (Hp.AB _ _ _)
 have c2 := sA.1 b2 _ ((Ext.set n3) _ _ (Hp.AB _ _ _))
 have c1 := sA.1 b1 _ ((Ext.set n3) _ _ ((Ext.set n2) _ _ (Hp.AB _ _ _)))
 have iZ := hW1.mono x1
 have hlA := sA.2.2
 clear s2 s4 sA n1 n2 n3 T8 Pw Z3
 simp only [List.nil_append,List.cons_append] at hlA
 have e1 : Int.toNat ((j : Int) - n.parts) = j - t := by omega
 refine ⟨r,j,e,Ag iZ.cell rfl,by unfold AN; omega,r,j,e,Ag iZ.cell rfl,by omega,?_⟩
 have hce : j ≤ e := A9.cap iZ.own
 have WJ : E7 .i64 σA (Ic r (j - t) e 1) (j - (j - t)) (st.drop (j - t)) := by
   have := Ad.sub (i := j - t) (m := j - (j - t)) (Di.rd iZ.own) (by decide) (by omega) hce
   rwa [List.take_of_length_le (by rw [List.length_drop]; omega)] at this
 have WJ : E7 .i64 σA (Ic r (Int.toNat ((j : Int) - n.parts)) e 1) (j - Int.toNat ((j : Int) - n.parts)) (st.drop (j - t)) := by rw [e1]; exact WJ
 have fin : ∀ x : Int × Int,x = OE n (st.drop (j - t)) → AA R (fun z bN => ∃ Vo Hl,z = (.tuple #[.int .i64 Vo,.int .i64 Hl]) ∧ LS bN wb 0 fun rJ lP eM => ((0 : Int) ≤ ((j : Int) - n.parts) ∧ ((j : Int) - n.parts) ≤ (eM : Int)) ∧ Al bN fun Vg => AJ prog (Builtin.append_ #[108,108] 108 #[(.slice rJ (Int.toNat ((j : Int) - n.parts)) eM),(.slice (aD Vg 0) 1 1)]) (Hp.set bN Vg (.cells #[.int .i64 Vo] 113 (0,0))) (CS fun p72 n72 c72 zo => AJ prog (Instr.storeAt 108 (.pointer (aD wb 0)) (.slice p72 n72 c72)) zo (fun _ zp => R (.returned (.int .i64 Hl)) zp))) (.returned (tyV x)) σA := fun x hx => by
   rw [← hx] at h h'
   refine ⟨x.1,x.2,rfl,r,j,e,Ag iZ.cell rfl,by omega,fun Vg oz => ?_⟩
   rw [e1]
   have Bb := (A9.take (m := j - t) iZ.own (by omega)).mono (Ext.set (o := .cells #[.int .i64 x.1] 113 (0,0)) oz)
   refine DA Bb (WB (f := .int .i64) (x := x.1) (Hp.AB _ _ _)) GO.QR (by omega) fun p' c' σB hoB xo => ⟨_,_,_,rfl,?_⟩
   have hwb : ∀ a,r = some a → wb ≠ a.block := fun a ha => Ne.symm (iZ.off a ha).1
   have OF : wb ≠ Vg := fun e => by rw [← e,iZ.cell] at oz; cases oz
   obtain ⟨g1,g2⟩ := AR.1 (xo wb _ (AR.2 ⟨hwb,(Ext.set oz) _ _ iZ.cell⟩))
   have hE0 : Ext σ0 (σB.del p') := fun k u hk => xo k u (AR.2 ⟨fun a ha jy => (by rw [jy,(iZ.off a ha).2] at hk; cases hk),(Ext.set oz) _ _ (iZ.ext _ _ hk)⟩)
   refine AJ.store uJ g2 rfl (by simp) (by simp [Value.cells,Value.oneCell']) ?_
   have uK : cK σ0 (σB.set wb (.cells (M0 #[.slice r j e] 0 (Value.slice p' (j - t + 1) c').cells.toList) 110 (0,0))) wb p' (j - t + 1) c' (st.take (j - t) ++ [x.1]) := by
     refine ⟨by rw [Hp.AB]; simp [M0,Value.cells],?_,fun a ha => ⟨fun e => g1 a ha e.symm,?_⟩,iZ.new,fun k u hk => ?_⟩
     · have := A9.AI (b := wb) (o := .cells (M0 #[.slice r j e] 0 (Value.slice p' (j - t + 1) c').cells.toList) 110 (0,0)) hoB (fun a ha e => g1 a ha e.symm)
       unfold Di
       rw [List.map_append,List.map_take]
       simpa using this
     · cases hh : σ0 a.block with
       | none => rfl
       | some u => exact absurd rfl ((AR.1 (hE0 _ _ hh)).1 a ha)
     · rw [Hp.AI (fun e => by rw [e,iZ.new] at hk; cases hk)]
       exact (AR.1 (hE0 _ _ hk)).2
   by_cases hz : x.2 = 0
   · rw [hz]; exact h _ _ _ _ hz uK
   · exact h' _ hz uK.ext
 have part : ∀ i,i < t → ∃ v,(st.drop (j - t))[i]? = some v := fun i hi => ⟨_,List.getElem?_eq_getElem (by rw [List.length_drop]; omega)⟩
 refine hlA.look uI (fun D2 => ?_) fun v hv => ⟨v,rfl,Kp.FE (.refl _),?_⟩
 · exfalso
   unfold Fy at Cs
   have g := fun i => D2 i
   simp only [List.mem_cons,List.not_mem_nil,or_false,forall_eq_or_imp,forall_eq] at D2
   obtain ⟨a1,a2,a3,a4,a5,a6,a7⟩ := D2
   rw [if_neg (Ne.symm a1),if_neg (Ne.symm a2),if_neg (Ne.symm a3),if_neg (Ne.symm a4),if_neg (Ne.symm a5),if_neg (Ne.symm a6)] at Cs
   exact a7 (of_decide_eq_true Cs).1.symm
 simp only [List.mem_cons,List.not_mem_nil,or_false,Prod.mk.injEq] at hv
 rcases hv with ⟨hn,rfl⟩ | ⟨hn,rfl⟩ | ⟨hn,rfl⟩ | ⟨hn,rfl⟩ | ⟨hn,rfl⟩ | ⟨hn,rfl⟩ | ⟨hn,rfl⟩
 · exact ⟨127,_,_,rfl,DN.en,Ms c1 (fin _ (by unfold OE; rw [if_pos hn]))⟩
 · exact ⟨127,_,_,rfl,DN.en,Ms c2 (fin _ (by unfold OE; rw [if_neg (by omega),if_pos hn]))⟩
 · exact ⟨127,_,_,rfl,DN.en,Ms c3 (fin _ (by unfold OE; rw [if_neg (by omega),if_neg (by omega),if_pos hn]))⟩
 · have ht1 : t = 1 := by unfold Fy at Cs; simp [hn] at Cs; omega
   obtain ⟨v,hv⟩ := part 0 (by omega)
   exact ⟨82,_,_,rfl,Bh.en,cI WJ hv (fin _ (by unfold OE; rw [if_neg (by omega),if_neg (by omega),if_neg (by omega),if_pos hn,hv]; rfl))⟩
 · have ht1 : t = 1 := by unfold Fy at Cs; simp [hn] at Cs; omega
   obtain ⟨v,hv⟩ := part 0 (by omega)
   exact ⟨83,_,_,rfl,EY.en,iT WJ hv (fin _ (by unfold OE; rw [if_neg (by omega),if_neg (by omega),if_neg (by omega),if_neg (by omega),if_pos hn,hv]; rfl))⟩
 · have ht1 : t = 2 := by unfold Fy at Cs; simp [hn] at Cs; omega
   obtain ⟨v,hv⟩ := part 0 (by omega)
   obtain ⟨u,hu⟩ := part 1 (by omega)
   exact ⟨84,_,_,rfl,Eg.en,iW WJ hv hu (fin _ (by unfold OE; rw [if_neg (by omega),if_neg (by omega),if_neg (by omega),if_neg (by omega),if_neg (by omega),if_pos hn,hv,hu]; rfl))⟩
 · have ht1 : t = 1 := by unfold Fy at Cs; simp [hn] at Cs; omega
   obtain ⟨v,hv⟩ := part 0 (by omega)
   exact ⟨85,_,_,rfl,En.en,iU WJ hv (fin _ (by unfold OE; rw [if_neg (by omega),if_neg (by omega),if_neg (by omega),if_neg (by omega),if_neg (by omega),if_neg (by omega),hv]; rfl))⟩
def C6 : List Nd → List Int → Option (List Int)
 | [],st => some st
 | n :: t,st => if (BP n st).1 = 0 then C6 t (BP n st).2 else none
def xp (t : List Nd) : Option (List Int) → Option Int
 | some [k] => if t.length ≤ 4096 then some k else none
 | _ => none
def IV (t : List Nd) : Option Int := xp t (C6 t [])
theorem Mn.at {p : Option Addr} {n i : Nat} {t : List Nd} {x : Nd} (hr : Ad 10 Mn σ p n t) (hx : t[i]? = some x) : ∃ b o p1 k c q m d,p = some ⟨b,o,none⟩ ∧ Au σ b (o + i * 10) [.int .i64 x.kind,.int .i64 x.op,.string x.text,.slice p1 k c,.int .i64 x.width,.int .i64 x.back,.int .i64 x.EO,.slice q m d,.bool x.bool,.int .i64 x.parts] ∧ Ad 3 OD σ p1 k x.mt ∧ Ez 1 σ q m (x.names.map .string) := by
 obtain ⟨b,o,vs,hp,⟨p1,k,c,q,m,d,rfl,h1,h2⟩,hl⟩ := Ad.idx hr hx
 exact ⟨b,o,p1,k,c,q,m,d,hp,hl,h1,h2⟩
theorem o0 {n : Nd} {st : List Int} : (BP n st).2.length ≤ st.length + 1 := by
 unfold BP
 split
 · exact Nat.le_succ _
 · split
   · exact Nat.le_succ _
   · simp only [List.length_append,List.length_take,List.length_singleton]; omega
theorem S6 {p : Option Addr} {n c : Nat} {t : List Nd} (hr : Ad 10 Mn σ p n t) (hn : n ≤ 1000000000) (hb : ∀ x ∈ t,x.text.size ≤ 4611686018427387904)
   (h : ∀ k σ',IV t = some k → Ext σ σ' → R (.returned (.tuple #[.int .i64 k,.int .i64 0,.int .i64 0])) σ') (h' : ∀ k j e σ',IV t = none → e ≠ 0 → Ext σ σ' → R (.returned (.tuple #[.int .i64 k,.int .i64 j,.int .i64 e])) σ') :
   Spec prog 37 #[.slice p n c] σ R := by
 have hl : t.length = n := hr.1
 refine Fe.start fun wb hwb => ?_
 suffices H : ∀ g k : Nat,∀ r j e st σ',n - k = g → k ≤ n → j ≤ k → cK σ σ' wb r j e st → C6 t [] = C6 (t.drop k) st → Fe.A8 R p n c (aD wb 0) p n c n k σ' from
   H n 0 none 0 0 [] _ rfl (Nat.zero_le _) (Nat.le_refl _) ⟨Hp.AB _ _ _,Di.nil,fun a ha => (by cases ha),hwb,.set hwb⟩ rfl
 intro g
 induction g with
 | zero =>
   intro k r j e st σ' hg hk hj hW he
   rw [List.drop_eq_nil_of_le (by omega)] at he
   have Ca : st.length = j := by have := hW.own.1; simpa using this
   have ht : IV t = xp t (some st) := by unfold IV; rw [he]; rfl
   refine Fe.Aa ⟨fun An => by omega,fun _ => ⟨wb,0,rfl,r,j,e,Ag hW.cell rfl,fun h1 => h' _ _ _ σ' ?_ (by decide) hW.ext,fun h1 => ⟨fun Ho => h' _ _ _ σ' ?_ (by decide) hW.ext,fun jh => ?_⟩⟩⟩
   · rw [ht]
     match st,Ca with
     | [],_ => rfl
     | [_],Ca => simp at Ca; omega
     | _ :: _ :: _,_ => rfl
   · rw [ht]
     match st,Ca with
     | [],_ => rfl
     | [_],Ca => exact if_neg (by omega)
     | _ :: _ :: _,_ => rfl
   · have yU : j = 1 := by omega
     subst yU
     match st,Ca with
     | [x],_ =>
       obtain ⟨b,o,rfl,ES⟩ := E7.at (Di.rd hW.own) (i := 0) (x := x) rfl
       exact ⟨_,1,e,Ag hW.cell rfl,b,o,rfl,by omega,x,by simpa using ES,h x σ' (by rw [ht]; exact if_pos (by omega)) hW.ext⟩
 | succ g ih =>
   intro k r j e st σ' hg hk hj hW he
   have Hn : k < n := by omega
   obtain ⟨x,hx⟩ := hr.ex Hn
   obtain ⟨b,o,p1,k1,c1,q1,m1,d1,rfl,ES,h1,h2⟩ := Mn.at hr hx
   rw [BC hx,C6] at he
   refine Fe.Aa ⟨fun _ => ⟨b,o,rfl,by omega,_,_,_,_,_,_,_,_,_,_,_,_,_,_,by simpa using ES.mono hW.ext,fun _ => ?_⟩,fun hh => by omega⟩
   refine iY hW h1 h2 (hb x (List.mem_of_getElem? hx)) (by omega) (fun r' j' e' σ2 h0 hW2 => ⟨0,rfl,fun hh => absurd rfl hh,fun _ => ⟨AK Hn hr.big,ih (k + 1) r' j' e' _ σ2 (by omega) (by omega) ?_ hW2 ?_⟩⟩) fun σ2 h0 A7 => ⟨_,rfl,fun _ => h' _ _ _ σ2 ?_ h0 A7,fun hh => absurd h0 hh⟩
   · have h3 := o0 (n := x) (st := st)
     have h4 : (BP x st).2.length = j' := by have := hW2.own.1; simpa using this
     have h5 : st.length = j := by have := hW.own.1; simpa using this
     omega
   · rw [he,if_pos h0]
   · unfold IV; rw [he,if_neg h0]; rfl
end
end TwW
end
section
namespace Go.Proofs
open Go.Shelf
def Tryz.ZH : Go.Shelf.Ren := ⟨fun | 143 => 260 | 219 => 290 | 217 => 169 | 225 => 318 | 224 => 319 | 267 => 320 | 266 => 209 | 314 => 329 | n => n,fun | 9 => 9 | 3 => 3 | 4 => 4 | 5 => 5 | 46 => 141 | 146 => 355 | 51 => 168 | n => n,fun | 1 => 1 | n => n⟩
theorem Tryz.uL : Go.Proofs.Lays.n143 Tryz.prog Tryz.ZH := {
 mixed := by kernel_rfl
 f143 := Tryz.func260.trans (congrArg some (by kernel_rfl))
 f217 := Tryz.func169.trans (congrArg some (by kernel_rfl))
 f219 := Tryz.func290.trans (congrArg some (by kernel_rfl))
 f224 := Tryz.func319.trans (congrArg some (by kernel_rfl))
 f225 := Tryz.func318.trans (congrArg some (by kernel_rfl))
 f266 := Tryz.func209.trans (congrArg some (by kernel_rfl))
 f267 := Tryz.func320.trans (congrArg some (by kernel_rfl))
 f314 := Tryz.func329.trans (congrArg some (by kernel_rfl))
 t3 := Tryz.underlying3
 a3 := Tryz.isAgg3
 z3 := Tryz.sizeOf3
 v3 := Tryz.zeroValue3
 t4 := Tryz.underlying4
 a4 := Tryz.isAgg4
 z4 := Tryz.sizeOf4
 v4 := Tryz.zeroValue4
 t5 := Tryz.underlying5
 a5 := Tryz.isAgg5
 z5 := Tryz.sizeOf5
 v5 := Tryz.zeroValue5
 t9 := Tryz.underlying9
 a9 := Tryz.isAgg9
 z9 := Tryz.sizeOf9
 v9 := Tryz.zeroValue9
 t46 := Tryz.underlying141
 a46 := Tryz.isAgg141
 z46 := Tryz.sizeOf141
 v46 := Tryz.zeroValue141
 t51 := Tryz.underlying168
 a51 := Tryz.isAgg168
 z51 := Tryz.sizeOf168
 v51 := Tryz.zeroValue168
 t146 := Tryz.underlying355
 a146 := Tryz.isAgg355
 z146 := Tryz.sizeOf355
 v146 := Tryz.zeroValue355
 g1 := by kernel_rfl }
open Go.RowKit Go.Lib in
theorem Tryz.strings_Index (s sub : ByteArray) (m : Int) (w : World) (hs : s.size < 4294967281) (hm : w.cell? ⟨1,0,none⟩ = some (.int .i64 m)) :
   Calls Tryz.prog 260 #[.string s,.string sub] w fun e w' => e = .returned (.int .i64 (Lib.index s.data.toList sub.data.toList)) ∧ w' = w := Any.strings_Index Tryz.uL s sub m w hs hm
def Tryz.ZI : Go.Shelf.Ren := ⟨fun | 146 => 221 | 221 => 237 | 268 => 258 | 138 => 259 | 143 => 260 | 195 => 287 | 197 => 288 | 218 => 289 | 219 => 290 | 260 => 317 | 217 => 169 | 225 => 318 | 224 => 319 | 267 => 320 | 266 => 209 | 314 => 329 | n => n,fun | 9 => 9 | 31 => 34 | 3 => 3 | 4 => 4 | 0 => 0 | 105 => 318 | 21 => 21 | 5 => 5 | 46 => 141 | 119 => 351 | 139 => 354 | 138 => 353 | 146 => 355 | 51 => 168 | n => n,fun | 1 => 1 | 3 => 11 | 4 => 12 | n => n⟩
theorem Tryz.uM : Go.Proofs.Lays.n146 Tryz.prog Tryz.ZI := {
 mixed := by kernel_rfl
 f138 := Tryz.func259.trans (congrArg some (by kernel_rfl))
 f143 := Tryz.func260.trans (congrArg some (by kernel_rfl))
 f146 := Tryz.func221.trans (congrArg some (by kernel_rfl))
 f195 := Tryz.func287.trans (congrArg some (by kernel_rfl))
 f197 := Tryz.func288.trans (congrArg some (by kernel_rfl))
 f217 := Tryz.func169.trans (congrArg some (by kernel_rfl))
 f218 := Tryz.func289.trans (congrArg some (by kernel_rfl))
 f219 := Tryz.func290.trans (congrArg some (by kernel_rfl))
 f221 := Tryz.func237.trans (congrArg some (by kernel_rfl))
 f224 := Tryz.func319.trans (congrArg some (by kernel_rfl))
 f225 := Tryz.func318.trans (congrArg some (by kernel_rfl))
 f260 := Tryz.func317.trans (congrArg some (by kernel_rfl))
 f266 := Tryz.func209.trans (congrArg some (by kernel_rfl))
 f267 := Tryz.func320.trans (congrArg some (by kernel_rfl))
 f268 := Tryz.func258.trans (congrArg some (by kernel_rfl))
 f314 := Tryz.func329.trans (congrArg some (by kernel_rfl))
 t0 := Tryz.underlying0
 a0 := Tryz.isAgg0
 z0 := Tryz.sizeOf0
 v0 := Tryz.zeroValue0
 t3 := Tryz.underlying3
 a3 := Tryz.isAgg3
 z3 := Tryz.sizeOf3
 v3 := Tryz.zeroValue3
 t4 := Tryz.underlying4
 a4 := Tryz.isAgg4
 z4 := Tryz.sizeOf4
 v4 := Tryz.zeroValue4
 t5 := Tryz.underlying5
 a5 := Tryz.isAgg5
 z5 := Tryz.sizeOf5
 v5 := Tryz.zeroValue5
 t9 := Tryz.underlying9
 a9 := Tryz.isAgg9
 z9 := Tryz.sizeOf9
 v9 := Tryz.zeroValue9
 t21 := Tryz.underlying21
 a21 := Tryz.isAgg21
 z21 := Tryz.sizeOf21
 v21 := Tryz.zeroValue21
 t31 := Tryz.underlying34
 a31 := Tryz.isAgg34
 z31 := Tryz.sizeOf34
 v31 := Tryz.zeroValue34
 t46 := Tryz.underlying141
 a46 := Tryz.isAgg141
 z46 := Tryz.sizeOf141
 v46 := Tryz.zeroValue141
 t51 := Tryz.underlying168
 a51 := Tryz.isAgg168
 z51 := Tryz.sizeOf168
 v51 := Tryz.zeroValue168
 t105 := Tryz.underlying318
 a105 := Tryz.isAgg318
 z105 := Tryz.sizeOf318
 v105 := Tryz.zeroValue318
 t119 := Tryz.underlying351
 a119 := Tryz.isAgg351
 z119 := Tryz.sizeOf351
 t138 := Tryz.underlying353
 a138 := Tryz.isAgg353
 z138 := Tryz.sizeOf353
 v138 := Tryz.zeroValue353
 t139 := Tryz.underlying354
 a139 := Tryz.isAgg354
 z139 := Tryz.sizeOf354
 v139 := Tryz.zeroValue354
 t146 := Tryz.underlying355
 a146 := Tryz.isAgg355
 z146 := Tryz.sizeOf355
 v146 := Tryz.zeroValue355
 g1 := by kernel_rfl
 g3 := by kernel_rfl
 g4 := by kernel_rfl }
open Go.RowKit Go.Lib in
theorem Tryz.strings_Split (s sep : ByteArray) (m : Int) (w : World) (hs : s.size < 4294967281) (hm : w.cell? ⟨1,0,none⟩ = some (.int .i64 m)) (h1 : 1 ≤ sep.size) :
   Calls Tryz.prog 221 #[.string s,.string sep] w fun e w' =>
     e = .returned (.slice (some ⟨w.heap.size,0,none⟩) (Lib.countB s sep + 1) (Lib.countB s sep + 1)) ∧ w' = w.alloc (.cells ((Lib.splitB sep 0 (Lib.countB s sep) s).map Value.string).toArray 9) := Any.strings_Split Tryz.uM (by kernel_rfl) s sep m w hs hm h1
end Go.Proofs
end
section
namespace TwW
open Go Tw Go.RowKit Go.Proofs.Tryz
section
variable {P : Program} {f : FuncId} {args : Array Value} {σ σ' : Hp} {R : Rr}
theorem Spec.below {v : Value} (h : ∀ w,Sat σ w → Calls P f args w fun e w' => e = .returned v ∧ Below w.heap.size w w') (hR : R (.returned v) σ) : Spec P f args σ R := fun w F hs hF =>
 (h w hs).mono fun e w' ⟨he,hb⟩ => ⟨σ,he ▸ hR,fun b o ho => by
   have h1 := hs b o ho
   rw [hb.block b (Array.getElem?_eq_some_iff.1 h1).1]; exact h1,fun b hFb => ⟨(hF b hFb).2,hb.block b (hF b hFb).1⟩,⟨hb.os,hb.tape,fun h => h.elim⟩,hb.output,hb.size⟩
theorem Spec.same {v : Value} (h : ∀ w,Sat σ w → Calls P f args w fun e w' => e = .returned v ∧ w' = w) (hR : R (.returned v) σ) : Spec P f args σ R :=
 Spec.below (fun w hs => (h w hs).mono fun e w' ⟨he,hw⟩ => ⟨he,hw ▸ Below.refl _ _⟩) hR
theorem Spec.ABP {o : Obj} {v : Nat → Value} (h : ∀ w,Sat σ w → Calls P f args w fun e w' => e = .returned (v w.heap.size) ∧ w' = w.alloc o) (hR : ∀ b,σ b = none → R (.returned (v b)) (σ.set b o)) : Spec P f args σ R := fun w F hs hF =>
 (h w hs).mono fun e w' ⟨he,hw⟩ => ⟨σ.set w.heap.size o,he ▸ hR _ (Fb hs),by subst hw; exact Fin.alloc hs hF _ rfl (.same rfl rfl rfl) rfl⟩
theorem cell_of {w : World} {b o : Nat} {v : Value} (hs : Sat σ w) (h : σ.ld ⟨b,o,none⟩ = some v) : w.cell? ⟨b,o,none⟩ = some v := by
 have := UE (ys := [v]) hs ⟨h,trivial⟩ 0 v rfl
 simpa [Bi] using this
end
def S7 : List Nat := [4607182418800017408,4621819117588971520,4636737291354636288,4652007308841189376,4666723172467343360,4681608360884174848,4696837146684686336,4711630319722168320,4726483295884279808,4741671816366391296,4756540486875873280,4771362005757984768,4786511204640096256,4801453603149578240,4816244402031689728,4831355200913801216]
structure Gl (σ : Hp) : Prop where
 len : ∃ m : Int,σ.ld ⟨1,0,none⟩ = some (.int .i64 m)
 opt : σ.ld ⟨5,0,none⟩ = some (.bool true)
 bits : σ.ld ⟨6,0,none⟩ = some (.int .u64 52)
 pow : ∃ b o n c,σ.ld ⟨9,0,none⟩ = some (.slice (some ⟨b,o,none⟩) n c) ∧ 16 ≤ n ∧ ∀ i v,S7[i]? = some v → σ.ld ⟨b,o + i * 1,none⟩ = some (.float .f64 v)
theorem Gl.mono {σ σ' : Hp} (h : Gl σ) (hx : Ext σ σ') : Gl σ' := ⟨h.len.imp fun _ => hx.ld,hx.ld h.opt,hx.ld h.bits,let ⟨b,o,n,c,h1,h2,h3⟩ := h.pow; ⟨b,o,n,c,hx.ld h1,h2,fun i v hv => hx.ld (h3 i v hv)⟩⟩
section
variable {σ σ' : Hp} {R : Rr}
theorem index_spec {s t : ByteArray} (hg : Gl σ) (hs : s.size < 4294967281) (h : R (.returned (.int .i64 (Lib.index s.data.toList t.data.toList))) σ) : Spec prog 260 #[.string s,.string t] σ R := by
 obtain ⟨m,hm⟩ := hg.len
 exact Spec.same (fun w hw => Go.Proofs.Tryz.strings_Index s t m w hs (cell_of hw hm)) h
theorem S8 {s : ByteArray} {c : UInt8} (hg : Gl σ) (hs : s.size < 4294967281) (h : ∀ b T,σ b = none → R (.returned (.slice (aD b 0) (EM c s).length (EM c s).length)) (σ.set b (.cells ((EM c s).map Value.string).toArray T (0,0)))) : Spec prog 221 #[.string s,.string ⟨#[c]⟩] σ R := by
 obtain ⟨m,hm⟩ := hg.len
 have hl : (EM c s).length = Lib.countB s ⟨#[c]⟩ + 1 := Lib.splitB_all ⟨#[c]⟩ (Nat.le_refl 1) 0 _ s rfl
 have h' := fun b => h b 9
 rw [hl] at h'
 exact Spec.ABP (v := fun b => .slice (aD b 0) _ _) (fun w hw => Go.Proofs.Tryz.strings_Split s ⟨#[c]⟩ m w hs (cell_of hw hm) (Nat.le_refl 1)) h'
theorem cL {s : ByteArray} {l h : Nat} (hl : l ≤ h) (hh : h ≤ s.size) : YF prog (Instr.sliceAt 9 (.string s) (some (.int .i64 (l : Int))) (some (.int .i64 (h : Int))) none) σ (.string (s.extract l h)) := fun w _ => by
 rw [run_sliceAt_string (h := underlying9)]
 have h1 : (h : Int) ≤ s.size := by omega
 have h2 : (l : Int) ≤ h := by omega
 simp [Instr.slice,run_underlying underlying9,Instr.sliceBounds,run_sliceBound,h1,h2,Result.andThen]
theorem ZJ {s t : ByteArray} (h : R (.returned (.bool (decide (t.size ≤ s.size ∧ s.extract 0 t.size = t)))) σ) : Spec prog 285 #[.string s,.string t] σ R := by
 refine HT.start (CE.start ⟨fun hle => ⟨_,U4 (by omega),_,rfl,?_⟩,fun hgt => ⟨_,rfl,?_⟩⟩)
 · rw [Sl,show decide (s.extract 0 t.size = t) = decide (t.size ≤ s.size ∧ s.extract 0 t.size = t) from decide_eq_decide.2 ⟨fun h => ⟨by omega,h⟩,fun h => h.2⟩]; exact h
 · rw [show false = decide (t.size ≤ s.size ∧ s.extract 0 t.size = t) from (decide_eq_false fun hh => hgt (by omega)).symm]; exact h
theorem ZK {s t : ByteArray} (hs : s.size ≤ 4611686018427387904) (h : R (.returned (.bool (decide (t.size ≤ s.size ∧ s.extract (s.size - t.size) s.size = t)))) σ) : Spec prog 286 #[.string s,.string t] σ R := by
 refine HW.start (CA.start ⟨fun hle => ⟨by unfold AN; omega,s.extract (s.size - t.size) s.size,?_,_,rfl,?_⟩,fun hgt => ⟨_,rfl,?_⟩⟩)
 · rw [show ((s.size : Nat) : Int) - ((t.size : Nat) : Int) = ((s.size - t.size : Nat) : Int) by omega]; exact Nt (by omega)
 · rw [Sl,show decide (s.extract (s.size - t.size) s.size = t) = decide (t.size ≤ s.size ∧ s.extract (s.size - t.size) s.size = t) from decide_eq_decide.2 ⟨fun h => ⟨by omega,h⟩,fun h => h.2⟩]; exact h
 · rw [show false = decide (t.size ≤ s.size ∧ s.extract (s.size - t.size) s.size = t) from (decide_eq_false fun hh => hgt (by omega)).symm]; exact h
def ETx (_ : Hp) (vs : List Value) (x : ByteArray) : Prop := vs = [.string x]
theorem ETx.mono : Gs ETx := fun _ _ _ _ _ h => h
abbrev fL := Ad 1 ETx
theorem fL.at {p : Option Addr} {n i : Nat} {ls : List ByteArray} {x : ByteArray} (hr : fL σ p n ls) (hx : ls[i]? = some x) : ∃ b o,p = some ⟨b,o,none⟩ ∧ σ.ld ⟨b,o + i * 1,none⟩ = some (.string x) := by
 obtain ⟨b,o,vs,hp,rfl,hl⟩ := Ad.idx hr hx
 exact ⟨b,o,hp,hl.1⟩
theorem fL.pA {b : Nat} {T : TypeId} {L : List ByteArray} (h : σ b = some (.cells (L.map Value.string).toArray T (0,0))) (hb : L.length ≤ 4611686018427387904) : fL σ (aD b 0) L.length L := by
 refine ⟨rfl,L.map .string,⟨by simp,hb,.inr ⟨b,0,rfl,Au.of fun j v hj => ?_⟩⟩,by simp,fun i x hx => ?_⟩
 · rw [Nat.zero_add]; exact Ag h (by simpa using hj)
 · have h1 : (L.map Value.string)[i]? = some (.string x) := by rw [List.getElem?_map,hx]; rfl
   rw [Nat.mul_one,BC h1]; rfl
theorem uN {p : Option Addr} {n c : Nat} {l : List ByteArray} {s : ByteArray} (hg : Gl σ) (hr : fL σ p n l) (h0 : 0 < n) (hc : n ≤ c) (hs : s.size < 4294967281) (hl : ∀ x ∈ l,x.size ≤ 4294967296) (h : R (.returned (.bool (isK l s))) σ) :
   Spec prog 257 #[.agg #[.slice p n c],.string s] σ R := by
 have hn : l.length = n := hr.1
 have Ho := hr.big
 obtain ⟨a,ha⟩ := hr.ex h0
 obtain ⟨z,hz⟩ := hr.ex (k := n - 1) (by omega)
 obtain ⟨b,o,rfl,hla⟩ := fL.at hr ha
 obtain ⟨_,_,he,xj⟩ := fL.at hr hz
 cases he
 have ea : l.head?.getD ⟨#[]⟩ = a := by rw [List.head?_eq_getElem?,ha]; rfl
 have ez : l.getLast?.getD ⟨#[]⟩ = z := by rw [List.getLast?_eq_getElem?,hn,hz]; rfl
 have e1 : Int.toNat ((n : Int) - 1) = n - 1 := by omega
 have hsa := hl a (List.mem_of_getElem? ha)
 have Hr := hl z (List.mem_of_getElem? hz)
 have eK : isK l s = if n = 1 then decide (s = a) else if s.size < a.size + z.size ∨ s.extract 0 a.size ≠ a ∨ s.extract (s.size - z.size) s.size ≠ z then false else iN l.tail.dropLast (s.extract a.size (s.size - z.size)) := by
   unfold isK; rw [ea,ez,hn]
 rw [eK] at h
 refine C3.start fun _ => ⟨b,o,rfl,by omega,a,by simpa using hla,by unfold AN; omega,by omega,z,by rw [e1]; exact xj,fun h1 => ?_,fun h1 => ?_⟩
 · rw [if_pos (by omega)] at h; rw [Sl]; exact h
 rw [if_neg (by omega)] at h
 refine ⟨by unfold AN; omega,fun An => ?_,fun iF => ZJ ⟨_,rfl,fun hp => ?_,fun hp => ZK (by omega) ⟨_,rfl,fun hq => ?_,fun hq => ?_⟩⟩⟩
 · rw [if_pos (.inl (by omega))] at h; exact h
 · have := of_decide_eq_false hp
   rw [if_pos (.inr (.inl fun e => this ⟨by omega,e⟩))] at h; exact h
 · have := of_decide_eq_false hq
   rw [if_pos (.inr (.inr fun e => this ⟨by omega,e⟩))] at h; exact h
 have hp' := of_decide_eq_true hp
 have hq' := of_decide_eq_true hq
 rw [if_neg (by
                rintro (h3 | h3 | h3)
                · omega
                · exact h3 hp'.2
                · exact h3 hq'.2)] at h
 have uO : fL σ (Ic (aD b o) 1 c 1) (n - 2) (l.tail.dropLast) := by
   have := Ad.sub (i := 1) (m := n - 2) hr (by decide) (by omega) hc
   rwa [List.drop_one,show n - 2 = l.tail.length - 1 by rw [List.length_tail]; omega,← List.dropLast_eq_take,List.length_tail,show l.length - 1 - 1 = n - 2 by omega] at this
 refine ⟨by unfold AN; omega,s.extract a.size (s.size - z.size),?_,by unfold AN; omega,by omega,?_⟩
 · rw [show ((s.size : Nat) : Int) - ((z.size : Nat) : Int) = ((s.size - z.size : Nat) : Int) by omega]; exact cL (by omega) (by omega)
 rw [e1,show n - 1 - 1 = n - 2 by omega]
 generalize hu : s.extract a.size (s.size - z.size) = u at *
 have hus : u.size < 4294967281 := by rw [← hu,ByteArray.size_extract]; omega
 generalize Ic (aD b o) 1 c 1 = q at *
 generalize l.tail.dropLast = ms at *
 clear hu hla xj ha hz ea ez eK
 suffices H : ∀ g k : Nat,∀ (q' : Option Addr) (v : ByteArray),(0 < n - 2 → q' = q) → n - 2 - k = g → k ≤ n - 2 → v.size < 4294967281 → iN ms u = iN (ms.drop k) v → C3.Ls R v q' (n - 2) (c - 1) ((n - 2 : Nat) : Int) k σ from H (n - 2) 0 q u (fun _ => rfl) rfl (Nat.zero_le _) hus rfl
 have hml : ms.length = n - 2 := uO.1
 intro g
 induction g with
 | zero =>
   intro k q' v hq hgk hk hv he
   rw [List.drop_eq_nil_of_le (by omega)] at he
   rw [he] at h
   exact C3.I5 ⟨fun An => by omega,fun _ => h⟩
 | succ g ih =>
   intro k q' v hq hgk hk hv he
   have Hn : k < n - 2 := by omega
   obtain ⟨t,ht⟩ := uO.ex Hn
   obtain ⟨b2,o2,hq2,An⟩ := fL.at uO ht
   rw [hq (by omega),hq2]
   rw [BC ht,iN] at he
   refine C3.I5 ⟨fun _ => ⟨b2,o2,rfl,by omega,t,by simpa using An,index_spec hg hv ⟨_,rfl,fun ABN => ?_,fun Qw => ?_⟩⟩,fun hh => by omega⟩
   · rw [if_pos ABN] at he; rw [he] at h; exact h
   · rw [if_neg Qw] at he
     have HP := Lib.index_room v.data.toList t.data.toList (by omega)
     have hv1 : v.data.toList.length = v.size := Array.length_toList (xs := v.data)
     have ht1 : t.data.toList.length = t.size := Array.length_toList (xs := t.data)
     generalize hi : Lib.index v.data.toList t.data.toList = i at *
     refine ⟨by unfold AN; omega,v.extract (i.toNat + t.size) v.size,?_,AK Hn uO.big,ih (k + 1) _ _ (fun _ => hq2.symm) (by omega) (by omega) (by rw [ByteArray.size_extract]; omega) he⟩
     rw [show i + ((t.size : Nat) : Int) = ((i.toNat + t.size : Nat) : Int) by omega]; exact Nt (by omega)
def pB (σ : Hp) (vs : List Value) (l : List ByteArray) : Prop := ∃ p n c,vs = [.slice p n c] ∧ fL σ p n l ∧ 0 < n ∧ n ≤ c
theorem pB.mono : Gs pB := fun _ _ _ _ hx ⟨p,n,c,hv,h1,h2⟩ => ⟨p,n,c,hv,h1.mono ETx.mono hx,h2⟩
theorem ia {p : Option Addr} {n c : Nat} {L : List (List ByteArray)} {s : ByteArray} (hg : Gl σ) (hr : Ad 1 pB σ p n L) (hs : s.size < 4294967281) (hl : ∀ l ∈ L,∀ x ∈ l,x.size ≤ 4294967296) (h : R (.returned (.bool (L.any fun l => isK l s))) σ) :
   Spec prog 236 #[.agg #[.slice p n c],.string s] σ R := by
 have hn : L.length = n := hr.1
 refine BV.start fun _ => ?_
 suffices H : ∀ g k : Nat,n - k = g → k ≤ n → (L.any fun l => isK l s) = ((L.drop k).any fun l => isK l s) → BV.Hs R s p n c n k σ from H n 0 rfl (Nat.zero_le _) rfl
 intro g
 induction g with
 | zero =>
   intro k ri hk he
   rw [List.drop_eq_nil_of_le (by omega)] at he
   rw [he] at h
   exact BV.Bg ⟨fun An => by omega,fun _ => h⟩
 | succ g ih =>
   intro k ri hk he
   have Hn : k < n := by omega
   obtain ⟨l,hx⟩ := hr.ex Hn
   obtain ⟨b,o,vs,rfl,⟨p1,n1,c1,rfl,h1,h2,h3⟩,ES⟩ := Ad.idx hr hx
   rw [BC hx,List.any_cons] at he
   refine BV.Bg ⟨fun _ => ⟨b,o,rfl,by omega,p1,n1,c1,by simpa using ES,fun _ => uN hg h1 h2 h3 hs (hl l (List.mem_of_getElem? hx)) ⟨_,rfl,fun ht => ?_,fun hf => ⟨AK Hn hr.big,ih (k + 1) (by omega) (by omega) ?_⟩⟩⟩,fun hh => by omega⟩
   · rw [ht] at he; rw [he] at h; exact h
   · rw [hf] at he; exact he
theorem Oz {c : UInt8} {s : ByteArray} : ∀ x ∈ EM c s,x.size ≤ s.size := by
 unfold EM
 generalize Lib.countB s ⟨#[c]⟩ = k
 induction k generalizing s with
 | zero => intro x hx; rw [Lib.splitB_zero,List.mem_singleton] at hx; rw [hx]; exact Nat.le_refl _
 | succ k ih =>
   intro x hx
   unfold Lib.splitB at hx
   split at hx
   · rw [List.mem_singleton] at hx; rw [hx]; exact Nat.le_refl _
   · rcases List.mem_cons.1 hx with rfl | hx
     · rw [ByteArray.size_extract]; omega
     · have := ih x hx
       rw [ByteArray.size_extract] at this; omega
theorem ZL {c : UInt8} {s : ByteArray} : (EM c s).length ≤ s.size + 1 ∧ 0 < (EM c s).length := by
 have h1 := Lib.splitB_all ⟨#[c]⟩ (Nat.le_refl 1) 0 _ s rfl
 have h2 := Lib.countB_le ⟨#[c]⟩ (Nat.le_refl 1) s.size s (Nat.le_refl _)
 unfold EM
 omega
theorem WK {s : ByteArray} (hg : Gl σ) (hs : s.size ≤ 1000000) (h : ∀ p n c σ',Ad 1 pB σ' p n ((EM 124 s).map (EM 42)) → Ext σ σ' → R (.returned (.agg #[.slice p n c])) σ') : Spec prog 179 #[.string s] σ R := by
 refine Dr.start fun _ _ => S8 hg (by omega) fun b T hb => ⟨_,_,_,rfl,?_⟩
 have CH : Ext σ (σ.set b (.cells ((EM 124 s).map Value.string).toArray T (0,0))) := .set hb
 obtain ⟨hlen,_⟩ := ZL (c := 124) (s := s)
 have hr : fL (σ.set b (.cells ((EM 124 s).map Value.string).toArray T (0,0))) (aD b 0) (EM 124 s).length (EM 124 s) := fL.pA (Hp.AB _ _ _) (by omega)
 generalize ANZ : σ.set b (.cells ((EM 124 s).map Value.string).toArray T (0,0)) = σ1 at *
 have Hr := Oz (c := 124) (s := s)
 generalize EM 124 s = L at *
 suffices H : ∀ g k : Nat,∀ p3 n3 c3 σ',L.length - k = g → k ≤ L.length → F3 1 pB (σ1.new σ') p3 n3 c3 ((L.take k).map (EM 42)) → Ext σ1 σ' → Dr.A8 R none 0 0 p3 n3 c3 (aD b 0) L.length L.length L.length k σ' from H L.length 0 none 0 0 σ1 rfl (Nat.zero_le _) F3.nil (.refl _)
 intro g
 induction g with
 | zero =>
   intro k p3 n3 c3 σ' ri hk ho hx
   rw [List.take_of_length_le (by omega)] at ho
   exact Dr.Aa ⟨fun An => by omega,fun _ => h p3 n3 c3 σ' ((ho.rd pB.mono).mono pB.mono (Ext.B8 _ _)) (CH.trans hx)⟩
 | succ g ih =>
   intro k p3 n3 c3 σ' ri hk ho hx
   have Hn : k < L.length := by omega
   obtain ⟨x,iI⟩ := hr.ex Hn
   obtain ⟨b2,o2,he,Z4⟩ := fL.at hr iI
   cases he
   have hxs := Hr x (List.mem_of_getElem? iI)
   have ib : n3 = k := by have := ho.1; rw [List.length_map,List.length_take] at this; omega
   refine Dr.Aa ⟨fun _ => ⟨b,0,rfl,by omega,x,by simpa using hx.ld Z4,S8 (hg.mono (CH.trans hx)) (by omega) fun b4 T4 hb4 => ⟨_,_,_,rfl,fun Uh ANa => ?_⟩⟩,fun hh => by omega⟩
   obtain ⟨AQ1,AHm⟩ := ZL (c := 42) (s := x)
   have MP : Ext σ' (σ'.set b4 (.cells ((EM 42 x).map Value.string).toArray T4 (0,0))) := .set hb4
   have hp3 : ∀ a,p3 = some a → σ' a.block ≠ none := fun a ha => by
     have := ho.block a ha
     cases hh : (σ1.new σ') a.block with
     | none => exact absurd hh this
     | some oo => rw [(AS.1 hh).2]; simp
   have ANb : (σ1.new (σ'.set b4 (.cells ((EM 42 x).map Value.string).toArray T4 (0,0))) |>.del p3) b4 = some (.cells ((EM 42 x).map Value.string).toArray T4 (0,0)) := AR.2 ⟨fun a ha e => hp3 a ha (by rw [← e]; exact hb4),AS.2 ⟨A2 hx hb4,Hp.AB _ _ _⟩⟩
   refine F3.Jn pB.mono (vs := [.slice (aD b4 0) (EM 42 x).length (EM 42 x).length]) (x := EM 42 x) (hx.trans MP) (ho.mono pB.mono (Ext.Jl MP)) rfl (fun u hu => by rw [List.mem_singleton] at hu; subst hu; rfl) ⟨_,_,_,rfl,fL.pA ANb (by omega),AHm,Nat.le_refl _⟩ (by omega) (fun p' c' σ2 Be A7 => ⟨_,_,_,rfl,AK Hn hr.big,ih (k + 1) _ _ _ _ (by omega) (by omega) ?_ A7⟩) ANa
   rw [AZ iI,List.map_append]; exact Be
theorem U8 {p q : Option Addr} {n c m d : Nat} {ms : List Mt} {ls : List Lb} (hg : Gl σ) (hr : Ad 3 OD σ p n ms) (hq : E9 σ q m ls) (hm : ∀ x ∈ ms,x.val.size ≤ 1000000) (U1 : ∀ x ∈ ls,x.2.size ≤ 1000000) (hk : ∀ x ∈ ms,1 ≤ x.kind ∧ x.kind ≤ 4) (h : ∀ σ',Ext σ σ' → R (.returned (.bool (Jb ms ls))) σ') :
   Spec prog 142 #[.slice p n c,.slice q m d] σ R := by
 have hl : ms.length = n := hr.1
 refine D8.start (PR.start fun kb HQ => ⟨_,_,_,rfl,?_⟩)
 have CH := Ext.set (o := .cells #[.nilFunc,(.func (.func 217) #[] #[]),(.func (.func 218) #[] #[]),(.func (.func 219) #[] #[]),(.func (.func 220) #[] #[])] 221 (0,0)) HQ
 have hc := Hp.AB σ kb (.cells #[.nilFunc,(.func (.func 217) #[] #[]),(.func (.func 218) #[] #[]),(.func (.func 219) #[] #[]),(.func (.func 220) #[] #[])] 221 (0,0))
 generalize ANZ : σ.set kb (.cells #[.nilFunc,(.func (.func 217) #[] #[]),(.func (.func 218) #[] #[]),(.func (.func 219) #[] #[]),(.func (.func 220) #[] #[])] 221 (0,0)) = σ1 at *
 have hgs : ∀ k : ByteArray,(Dk ls k).size ≤ 1000000 := fun k => by
   clear hq h
   induction ls with
   | nil => unfold Dk; decide
   | cons a l ih =>
     unfold Dk
     split
     · exact U1 a (by simp)
     · exact ih fun x hx => U1 x (List.mem_cons_of_mem _ hx)
 suffices H : ∀ g k : Nat,∀ σ',n - k = g → k ≤ n → Ext σ1 σ' → Jb ms ls = Jb (ms.drop k) ls → D8.A8 R q m d (aD kb 0) 5 5 p n c n k σ' from H n 0 σ1 rfl (Nat.zero_le _) (.refl _) rfl
 intro g
 induction g with
 | zero =>
   intro k σ' ri Hn hx he
   have := h σ' (CH.trans hx)
   rw [he,List.drop_eq_nil_of_le (by omega)] at this
   exact D8.Aa ⟨fun An => by omega,fun _ => this⟩
 | succ g ih =>
   intro k σ' ri dW hx he
   have Hn : k < n := by omega
   obtain ⟨x,iI⟩ := hr.ex Hn
   obtain ⟨b,o,rfl,ES⟩ := OD.at hr iI
   have ic := List.mem_of_getElem? iI
   have hk4 := hk x ic
   have Wt : Jb ms ls = (Nj x ls && Jb (ms.drop (k + 1)) ls) := by rw [he,BC iI]; rfl
   have step : ∀ (t : Bool) (σ2 : Hp),t = Nj x ls → Ext σ1 σ2 → AA R (CB fun t35 Ab => Bn t35 (R (.returned (.bool false)) Ab) (AN ((k : Int) + 1) ∧ D8.A8 R q m d (aD kb 0) 5 5 (aD b o) n c n ((k : Int) + 1) Ab)) (.returned (.bool t)) σ2 := fun t σ2 ht A7 => by
     refine ⟨t,rfl,fun hf => ?_,fun htt => ⟨AK Hn hr.big,ih (k + 1) σ2 (by omega) (by omega) A7 ?_⟩⟩
     · have := h σ2 (CH.trans A7)
       rw [Wt,← ht,hf] at this; exact this
     · rw [Wt,← ht,htt]; rfl
   refine D8.Aa ⟨fun _ => ⟨b,o,rfl,by omega,x.kind,x.name,x.val,by simpa using (ES.mono (CH.trans hx)),fun _ => U5 ⟨_,rfl,fun hf => ?_,fun ht => ⟨kb,0,rfl,by omega,?_⟩⟩⟩,fun hh => by omega⟩
   · exact absurd hk4 (of_decide_eq_false hf)
   have H4 : ∀ σ2 p1 n1 c1,Ad 1 pB σ2 p1 n1 ((EM 124 x.val).map (EM 42)) → Ext σ1 σ2 → ∀ R2 : Rr,R2 (.returned (.bool (Y4 x.val (Dk ls x.name)))) σ2 → Spec prog 236 #[.agg #[.slice p1 n1 c1],.string (Dk ls x.name)] σ2 R2 := fun σ2 p1 n1 c1 bG A7 R2 uP => by
     refine ia (hg.mono (CH.trans A7)) bG (by have := hgs x.name; omega) (fun l hl y hy => ?_) ?_
     · obtain ⟨z,hz,rfl⟩ := List.mem_map.1 hl
       have h1 := Oz y hy
       have h2 := Oz z hz
       have h3 := hm x ic
       omega
     · rw [List.any_map]; exact uP
   have row : ∀ (i : Nat) (f : FuncId) (t : Bool),x.kind = i → (#[.nilFunc,(.func (.func 217) #[] #[]),(.func (.func 218) #[] #[]),(.func (.func 219) #[] #[]),(.func (.func 220) #[] #[])] : Array Value)[i]? = some (.func (.func f) #[] #[]) → Enters prog f → t = Nj x ls →
       (∀ p1 n1 c1 σ2 (R2 : Rr),Ad 1 pB σ2 p1 n1 ((EM 124 x.val).map (EM 42)) → Ext σ1 σ2 → R2 (.returned (.bool t)) σ2 → Spec prog f #[.agg #[.slice p1 n1 c1,.string x.val],.string (Dk ls x.name)] σ2 R2) →
       ∃ v24,Hp.ld σ' ⟨kb,(0 + Int.toNat x.kind * 1),none⟩ = some v24 ∧ Spec prog 179 #[.string x.val] σ' (AA R (fun z AF => ∃ Mh Lu Mi,z = (.agg #[.slice Mh Lu Mi]) ∧ Kp [kb] σ' AF ∧ Spec prog 180 #[.slice q m d,.string x.name] AF (AA R (CT fun s34 AH => Kp [kb] AF AH ∧ ∃ (f35 : Nat) (YR YS : Array Value),v24 = .func (.func f35) YR YS ∧ Enters prog f35 ∧ Spec prog f35 (YR ++ #[.agg #[.slice Mh Lu Mi,.string x.val],.string s34] ++ YS) AH (AA R (CB fun t35 Ab => Bn t35 (R (.returned (.bool false)) Ab) (AN ((k : Int) + 1) ∧ D8.A8 R q m d (aD kb 0) 5 5 (aD b o) n c n ((k : Int) + 1) Ab)))))) ) := fun i f t hi hv OJ ht hf => by
     refine ⟨.func (.func f) #[] #[],?_,?_⟩
     rotate_left
     · refine WK (hg.mono (CH.trans hx)) (hm x ic) fun p1 n1 c1 σ2 bG A7 => ⟨p1,n1,c1,rfl,Kp.FE A7,Tz (hq.mono Bz.mono (CH.trans (hx.trans A7))) ⟨_,rfl,Kp.FE (.refl _),f,#[],#[],rfl,OJ,hf p1 n1 c1 σ2 _ bG (hx.trans A7) (step t σ2 ht (hx.trans A7))⟩⟩
     rw [hi]
     exact Ag (hx _ _ hc) (by simpa using hv)
   have pE : x.kind = 1 ∨ x.kind = 2 ∨ x.kind = 3 ∨ x.kind = 4 := by omega
   rcases pE with h1 | h1 | h1 | h1
   · exact row 1 217 (decide (Dk ls x.name = x.val)) h1 rfl Ef.en (by unfold Nj; rw [if_pos h1]) fun p1 n1 c1 σ2 R2 _ _ uP => Ef.start fun _ => by rw [Sl]; exact uP
   · exact row 2 218 (!decide (Dk ls x.name = x.val)) h1 rfl Ek.en (by unfold Nj; rw [if_neg (by omega),if_pos h1]; simp) fun p1 n1 c1 σ2 R2 _ _ uP => Ek.start fun _ => by rw [Sl]; exact uP
   · exact row 3 219 (Y4 x.val (Dk ls x.name)) h1 rfl D5.en (by unfold Nj; rw [if_neg (by omega),if_neg (by omega),if_pos h1]) fun p1 n1 c1 σ2 R2 bG A7 uP => D5.start fun _ => H4 σ2 p1 n1 c1 bG A7 _ ⟨_,rfl,uP⟩
   · exact row 4 220 (!Y4 x.val (Dk ls x.name)) h1 rfl D4.en (by unfold Nj; rw [if_neg (by omega),if_neg (by omega),if_neg (by omega),if_pos h1]) fun p1 n1 c1 σ2 R2 bG A7 uP => D4.start fun _ => H4 σ2 p1 n1 c1 bG A7 _ ⟨_,rfl,uP⟩
end
end TwW
end
section
namespace TwW
open Go Tw Go.RowKit Go.Proofs.Tryz
structure Rs where
 m : Nat
 dot : Bool
 nd : Nat
 dp : Int
def Cr (st : Rs) (u : UInt8) : Rs := if u = 46 then { st with dot := true,dp := st.nd } else if u = 48 ∧ st.nd = 0 then { st with dp := st.dp - 1 } else { st with m := st.m * 10 + (u.toNat - 48),nd := st.nd + 1 }
def Ha (s : ByteArray) : Rs := s.data.toList.foldl Cr ⟨0,false,0,0⟩
def S9 (r : Rs) : Int := if r.m = 0 then 0 else (if r.dot then r.dp else r.nd) - r.nd
def ig (s : ByteArray) : Int :=
 let r := Ha s
 if r.m = 0 then (toF 0 : Nat) else if S9 r = 0 then (toF (FloatKind.f64.nearest r.m) : Nat) else (Wv 4 (FloatKind.f64.nearest r.m) (S7.getD (-S9 r).toNat 0) : Nat)
section
variable {σ σ' : Hp} {R : Rr}
theorem Nu {s : ByteArray} (hb : s.size ≤ 4611686018427387904) (h : R (.returned (.int .i64 (AM s))) σ) : Spec prog 213 #[.string s] σ R := by
 have hlen : s.data.toList.length = s.size := Array.length_toList (xs := s.data)
 refine Fq.start ?_
 suffices H : ∀ g k : Nat,s.size - k = g → k ≤ s.size → (∀ j u,j < k → s.data.toList[j]? = some u → Bq u = true) → Fq.Gf R s k σ from H s.size 0 rfl (Nat.zero_le _) (fun j u hj => by omega)
 intro g
 induction g with
 | zero =>
   intro k hg hk h1
   have e : AM s = k := IS (by omega) h1 (fun u hu => by have := (List.getElem?_eq_some_iff.1 hu).1; omega)
   rw [e] at h
   exact Fq.BA ⟨fun An => by omega,fun _ => h⟩
 | succ g ih =>
   intro k hg hk h1
   obtain ⟨u,hu,Ct⟩ := byte_at (show k < s.size by omega)
   have stop : Bq u = false → R (.returned (.int .i64 k)) σ := fun hd => by
     have e : AM s = k := IS (by omega) h1 (fun v hv => by rw [Ct] at hv; cases hv; exact hd)
     rw [e] at h; exact h
   refine Fq.BA ⟨fun _ => ⟨u,by omega,by simpa using hu,fun ZD => ⟨u,by omega,by simpa using hu,fun h57 => ?_,fun h57 => stop ?_⟩,fun ZD => stop ?_⟩,fun hh => by omega⟩
   · refine ⟨AK (by omega : k < s.size) hb,ih (k + 1) (by omega) (by omega) fun j v hj hv => ?_⟩
     by_cases rn : j = k
     · rw [rn,Ct] at hv; cases hv
       exact decide_eq_true (by omega)
     · exact h1 j v (by omega) hv
   · exact decide_eq_false (by omega)
   · exact decide_eq_false (by omega)
theorem WL {s : ByteArray} (hb : s.size ≤ 4611686018427387904) (ht : Fv s = true) (h : R (.returned (.bool true)) σ) : Spec prog 172 #[.string s] σ R := by
 have hle := Lj s
 have h0 : AM s ≠ 0 := fun e => by unfold Fv at ht; rw [if_pos e] at ht; cases ht
 have h1 : ¬ (1 < AM s ∧ s.data[0]? = some 48) := fun e => by unfold Fv at ht; rw [if_neg h0,if_pos e] at ht; cases ht
 obtain ⟨u0,hu0,_⟩ := byte_at (show 0 < s.size by omega)
 have P6 := JE (u := u0) (k := 48) (by decide)
 have tail : Br ((AM s : Int) = ((ByteArray.size s : Nat) : Int)) (R (.returned (.bool (decide ((AM s : Int) ≤ 15)))) σ) (AN ((AM s : Int) + 1) ∧ ∃ vw,YF prog (Instr.sliceAt 9 (.string s) (some (.int .i64 ((AM s : Int) + 1))) none none) σ (.string vw) ∧ Spec prog 213 #[.string vw] σ (AA R (CI .i64 fun Xl AF => ∃ vx : UInt8,0 ≤ (AM s : Int) ∧ (ByteArray.data s)[Int.toNat (AM s : Int)]? = some vx ∧ Br ((((UInt8.toNat vx : Nat) : Int) : Int) = 46) (Br (0 < Xl) (AN ((AM s : Int) + 1) ∧ AN (((AM s : Int) + 1) + Xl) ∧ Br (((((AM s : Int) + 1) + Xl) : Int) = ((ByteArray.size s : Nat) : Int)) (AN ((AM s : Int) + Xl) ∧ R (.returned (.bool (decide ((((AM s : Int) + Xl) : Int) ≤ 15)))) AF) (R (.returned (.bool false)) AF)) (R (.returned (.bool false)) AF)) (R (.returned (.bool false)) AF)))) := by
   unfold Fv at ht
   rw [if_neg h0,if_neg h1] at ht
   refine ⟨fun he => ?_,fun he => ⟨by unfold AN; omega,s.extract (AM s + 1) s.size,Nt (l := AM s + 1) (by omega),?_⟩⟩
   · rw [if_pos (by omega)] at ht
     rw [decide_eq_true (by have := of_decide_eq_true ht; omega)]; exact h
   · rw [if_neg (by omega)] at ht
     have ht := of_decide_eq_true ht
     have ANV : (s.extract (AM s + 1) s.size).size = s.size - (AM s + 1) := by rw [ByteArray.size_extract]; omega
     have hm := Lj (s.extract (AM s + 1) s.size)
     refine Nu (by omega) ?_
     obtain ⟨u,hu,_⟩ := byte_at (show AM s < s.size by omega)
     rw [hu] at ht
     have b46 := JE (u := u) (k := 46) (by decide)
     generalize AM (s.extract (AM s + 1) s.size) = m at *
     refine ⟨_,rfl,u,by omega,by simpa using hu,fun U6 => ⟨fun h0m => ⟨by unfold AN; omega,by unfold AN; omega,fun hs => ⟨by unfold AN; omega,?_⟩,fun hs => absurd (by omega) hs⟩,fun h0m => absurd (by omega) h0m⟩,fun U6 => absurd (b46.2 (by have := ht.1; simpa using this)) U6⟩
     rw [decide_eq_true (by omega)]; exact h
 refine PL.start (Nu hb ⟨_,rfl,fun hh => absurd hh (by omega),fun _ => ⟨fun h1n => ⟨u0,by omega,by simpa using hu0,fun ZD => ?_,fun _ => tail⟩,fun _ => tail⟩⟩)
 exact absurd ⟨by omega,by rw [hu0,P6.1 ZD]; rfl⟩ h1
theorem cP {α : Type} {p : α → Bool} : ∀ {l : List α} {u : α},u ∈ l.takeWhile p → p u = true
 | [],u,h => by cases h
 | a :: l,u,h => by
   unfold List.takeWhile at h
   split at h
   · rename_i ha
     rcases List.mem_cons.1 h with rfl | h
     · exact ha
     · exact cP h
   · cases h
theorem Lk {s : ByteArray} (h : Fv s = true) : 0 < s.size ∧ s.size ≤ 16 ∧ (∃ u,s.data.toList[0]? = some u ∧ Bq u = true) ∧ (∀ u ∈ s.data.toList,Bq u = true ∨ u = 46) ∧ (s.data.toList.filter Bq).length ≤ 15 ∧ (∀ j k : Nat,s.data.toList[j]? = some 46 → s.data.toList[k]? = some 46 → j = k) := by
 have hlen : s.data.toList.length = s.size := Array.length_toList (xs := s.data)
 have hle := Lj s
 have h0 : AM s ≠ 0 := fun e => by unfold Fv at h; rw [if_pos e] at h; cases h
 have h1 : ¬ (1 < AM s ∧ s.data[0]? = some 48) := fun e => by unfold Fv at h; rw [if_neg h0,if_pos e] at h; cases h
 unfold Fv at h
 rw [if_neg h0,if_neg h1] at h
 have hT : s.data.toList.takeWhile Bq = s.data.toList.take (AM s) := by
   unfold AM
   exact (List.prefix_iff_eq_take.1 (List.takeWhile_prefix _))
 have WM : ∀ u ∈ s.data.toList.take (AM s),Bq u = true := fun u hu => by rw [← hT] at hu; exact cP hu
 have d46 : Bq 46 = false := by decide
 have ex0 : ∃ u,s.data.toList[0]? = some u ∧ Bq u = true := by
   obtain ⟨u,_,Ct⟩ := byte_at (show 0 < s.size by omega)
   refine ⟨u,Ct,WM u (List.mem_of_getElem? (i := 0) ?_)⟩
   rw [List.getElem?_take,if_pos (by omega)]; exact Ct
 by_cases he : AM s = s.size
 · rw [if_pos he] at h
   have h15 := of_decide_eq_true h
   have H4 : ∀ u ∈ s.data.toList,Bq u = true := fun u hu => WM u (by rw [List.take_of_length_le (by omega)]; exact hu)
   refine ⟨by omega,by omega,ex0,fun u hu => .inl (H4 u hu),by have := List.length_filter_le Bq s.data.toList; omega,fun j k hj _ => ?_⟩
   have := H4 46 (List.mem_of_getElem? hj)
   rw [d46] at this; cases this
 · rw [if_neg he] at h
   have hh := of_decide_eq_true h
   generalize hm : AM (s.extract (AM s + 1) s.size) = m at hh
   have hm2 : m ≤ 15 := by omega
   have Mr : s.data.toList = s.data.toList.take (AM s) ++ 46 :: s.data.toList.drop (AM s + 1) := by
     obtain ⟨u,hu,Ct⟩ := byte_at (show AM s < s.size by omega)
     have e46 : u = 46 := by have := hh.1; rw [hu] at this; simpa using this
     rw [← e46,← BC Ct,List.take_append_drop]
   have I8 : (s.extract (AM s + 1) s.size).data.toList = s.data.toList.drop (AM s + 1) := by
     rw [ByteArray.data_extract,Array.toList_extract,List.extract_eq_take_drop]
     rw [List.take_of_length_le (by rw [List.length_drop]; omega)]
   have xq : ∀ u ∈ s.data.toList.drop (AM s + 1),Bq u = true := fun u hu => by
     rw [← I8] at hu
     have hp := List.takeWhile_prefix (p := Bq) (l := (s.extract (AM s + 1) s.size).data.toList)
     have hl : ((s.extract (AM s + 1) s.size).data.toList.takeWhile Bq).length = (s.extract (AM s + 1) s.size).data.toList.length := by
       rw [show ((s.extract (AM s + 1) s.size).data.toList.takeWhile Bq).length = AM (s.extract (AM s + 1) s.size) from rfl,hm,I8,List.length_drop]; omega
     have := hp.eq_of_length hl
     rw [← this] at hu
     exact cP hu
   refine ⟨by omega,by omega,ex0,fun u hu => ?_,?_,fun j k hj hk => ?_⟩
   · rw [Mr] at hu
     rcases List.mem_append.1 hu with hu | hu
     · exact .inl (WM u hu)
     · rcases List.mem_cons.1 hu with rfl | hu
       · exact .inr rfl
       · exact .inl (xq u hu)
   · rw [Mr,List.filter_append,List.filter_cons,d46]
     have a1 := List.length_filter_le Bq (s.data.toList.take (AM s))
     have a2 := List.length_filter_le Bq (s.data.toList.drop (AM s + 1))
     rw [List.length_take] at a1
     rw [List.length_drop] at a2
     simp only [List.length_append]
     simp
     omega
   · have only : ∀ i : Nat,s.data.toList[i]? = some 46 → i = AM s := fun i hi => by
       rw [Mr] at hi
       have dV : (s.data.toList.take (AM s)).length = AM s := by rw [List.length_take]; omega
       rcases Nat.lt_trichotomy i (AM s) with An | An | An
       · rw [List.getElem?_append_left (by omega)] at hi
         have := WM 46 (List.mem_of_getElem? hi)
         rw [d46] at this; cases this
       · exact An
       · rw [List.getElem?_append_right (by omega),dV] at hi
         obtain ⟨d,hd⟩ : ∃ d,i - AM s = d + 1 := ⟨i - AM s - 1,by omega⟩
         rw [hd,List.getElem?_cons_succ] at hi
         have := xq 46 (List.mem_of_getElem? hi)
         rw [d46] at this; cases this
     rw [only j hj,only k hk]
def cQ (s : ByteArray) (k : Nat) : Nat := ((s.data.toList.take k).filter Bq).length
structure ROk (s : ByteArray) (k : Nat) (r : Rs) : Prop where
 is : r = (s.data.toList.take k).foldl Cr ⟨0,false,0,0⟩
 nd : r.nd ≤ cQ s k
 m : r.m < 10 ^ r.nd
 lo : (r.nd : Int) - r.dp ≤ cQ s k
 hi : r.dp ≤ r.nd
 sw : r.dot = true → ∃ j,j < k ∧ s.data.toList[j]? = some 46
theorem Gm {u : UInt8} (h : Bq u = true) : 48 ≤ u.toNat ∧ u.toNat ≤ 57 := of_decide_eq_true h
theorem ROk.zero {s : ByteArray} : ROk s 0 ⟨0,false,0,0⟩ := ⟨rfl,Nat.zero_le _,by decide,by simp,by simp,fun h => by cases h⟩
theorem ij {s : ByteArray} {k : Nat} {u : UInt8} (hu : s.data.toList[k]? = some u) : cQ s (k + 1) = cQ s k + if Bq u then 1 else 0 := by
 unfold cQ
 rw [AZ hu,List.filter_append,List.length_append]
 congr 1
 by_cases h : Bq u = true <;> simp [h]
theorem ROk.step {s : ByteArray} {k : Nat} {r : Rs} {u : UInt8} (h : ROk s k r) (hu : s.data.toList[k]? = some u) (hd : Bq u = true ∨ u = 46) : ROk s (k + 1) (Cr r u) := by
 have hc := ij hu
 have his : Cr r u = (s.data.toList.take (k + 1)).foldl Cr ⟨0,false,0,0⟩ := by rw [AZ hu,List.foldl_append,← h.is]; rfl
 have h1 := h.nd
 have h2 := h.m
 have h3 := h.lo
 have h4 := h.hi
 by_cases U6 : u = 46
 · subst U6
   have e : Cr r 46 = { r with dot := true,dp := r.nd } := by unfold Cr; rw [if_pos rfl]
   rw [show Bq 46 = false from by decide] at hc
   simp only [Bool.false_eq_true,if_false,Nat.add_zero] at hc
   rw [e] at his ⊢
   exact ⟨his,by rw [hc]; exact h1,h2,by dsimp only; omega,Int.le_refl _,fun _ => ⟨k,by omega,hu⟩⟩
 have hdg := hd.resolve_right U6
 have hn := Gm hdg
 rw [hdg] at hc
 simp only [if_true] at hc
 by_cases ZD : u = 48 ∧ r.nd = 0
 · have e : Cr r u = { r with dp := r.dp - 1 } := by unfold Cr; rw [if_neg U6,if_pos ZD]
   rw [e] at his ⊢
   exact ⟨his,by dsimp only; omega,h2,by dsimp only; omega,by dsimp only; omega,fun hh => let ⟨j,h5,h6⟩ := h.sw hh; ⟨j,by omega,h6⟩⟩
 · have e : Cr r u = { r with m := r.m * 10 + (u.toNat - 48),nd := r.nd + 1 } := by unfold Cr; rw [if_neg U6,if_neg ZD]
   rw [e] at his ⊢
   exact ⟨his,by dsimp only; omega,by dsimp only; rw [Nat.pow_succ]; omega,by dsimp only; omega,by dsimp only; omega,fun hh => let ⟨j,h5,h6⟩ := h.sw hh; ⟨j,by omega,h6⟩⟩
theorem pF {x : Int} (h0 : 0 ≤ x) (h1 : x < 18446744073709551616) : IntKind.u64.wrap x = x := by simp [IntKind.wrap,IntKind.bits,IntKind.signed]; omega
theorem AHo {x : Int} (h0 : 0 ≤ x) (h1 : x < 256) : IntKind.u8.wrap x = x := by simp [IntKind.wrap,IntKind.bits,IntKind.signed]; omega
theorem ZM {n : Nat} (h : n ≤ 15) : 10 ^ n ≤ 1000000000000000 := Nat.le_trans (Nat.pow_le_pow_right (by decide) h) (by decide)
theorem ik {s : ByteArray} (ht : Fv s = true) (h : R (.returned (.tuple #[.int .u64 ((Ha s).m : Nat),.int .i64 (S9 (Ha s)),.bool false,.bool false,.bool false,.int .i64 (s.size : Nat),.bool true])) σ) : Spec prog 272 #[.string s] σ R := by
 obtain ⟨hs0,ABS,⟨u0,hu0,fM⟩,jz,uQ,AHp⟩ := Lk ht
 have hlen : s.data.toList.length = s.size := Array.length_toList (xs := s.data)
 have hn0 := Gm fM
 have hg0 : s.data[0]? = some u0 := by rw [← Array.getElem?_toList]; exact hu0
 have AHq : ∀ k,cQ s k ≤ 15 := fun k => Nat.le_trans (List.Sublist.length_le ((List.take_sublist _ _).filter _)) uQ
 have WN : AE.mr R s 0 0 false false false 0 false false 10 19 101 false false 0 0 0 σ := by
   suffices H : ∀ g k : Nat,∀ r : Rs,s.size - k = g → k ≤ s.size → ROk s k r → AE.mr R s (r.m : Nat) 0 false false false (k : Nat) false false 10 19 101 r.dot (decide (0 < k)) (r.nd : Nat) (r.nd : Nat) r.dp σ from H s.size 0 ⟨0,false,0,0⟩ rfl (Nat.zero_le _) .zero
   intro g
   induction g with
   | zero =>
     intro k r hg hk hr
     have dW : k = s.size := by omega
     have er : r = Ha s := by rw [hr.is,List.take_of_length_le (by omega)]; rfl
     have hc := AHq k
     have h1 := hr.nd
     have h3 := hr.lo
     have h4 := hr.hi
     refine AE.eh ⟨fun An => by omega,fun _ => ?_⟩
     rw [show decide (0 < k) = true from decide_eq_true (by omega)]
     have fin : ∀ x17 : Int,(r.m ≠ 0 → x17 - r.nd = S9 r) → -100 ≤ x17 → x17 ≤ 100 → AE.ed R s (r.m : Nat) 0 false false false (k : Nat) false false 10 101 (r.nd : Nat) x17 σ := fun x17 hx hlo hhi => by
       refine AE.nF ⟨fun hh => absurd hh (by decide),fun _ => AE.nG ⟨fun An => by omega,fun _ => ⟨fun hh => absurd hh (by decide),fun _ => AE.nH ⟨fun hm => ⟨by unfold AN; omega,AE.Yr ⟨fun hh => (by cases hh),fun _ => ?_⟩⟩,fun hm => AE.Yr ⟨fun hh => (by cases hh),fun _ => ?_⟩⟩⟩⟩⟩
       · rw [hx (by omega),dW,er]; exact h
       · have hm0 : r.m = 0 := by omega
         have : S9 (Ha s) = 0 := by rw [← er]; unfold S9; rw [if_pos hm0]
         rw [this,← dW,← er] at h; exact h
     refine AE.nE ⟨fun hh => (by cases hh),fun _ => ⟨fun hf => fin _ (fun hm => ?_) (by omega) (by omega),fun hf => fin _ (fun hm => ?_) (by omega) (by omega)⟩⟩
     · unfold S9; rw [if_neg hm,hf]; rfl
     · unfold S9; rw [if_neg hm,hf]; rfl
   | succ g ih =>
     intro k r hg hk hr
     obtain ⟨u,hu,Ct⟩ := byte_at (show k < s.size by omega)
     have bB := jz u (List.mem_of_getElem? Ct)
     have Ca := hr.step Ct bB
     have Pm := fun h64 => AE.nI (R := R) (σ := σ) (s0 := s) (x2 := ((Cr r u).m : Nat)) (x3 := 0) (t4 := false) (t5 := false) (t6 := false) (x7 := (k : Nat)) (t8 := false) (t9 := false) (x10 := 10) (x11 := 19) (x12 := 101) (t13 := (Cr r u).dot) (t14 := true) (x15 := ((Cr r u).nd : Nat)) (x16 := ((Cr r u).nd : Nat)) (x17 := (Cr r u).dp) ⟨h64,by
       have := ih (k + 1) (Cr r u) (by omega) (by omega) Ca
       rw [show decide (0 < k + 1) = true from decide_eq_true (by omega)] at this
       exact_mod_cast this⟩
     have Pm := Pm (by unfold AN; omega)
     have hc := AHq k
     have h1 := hr.nd
     have h3 := hr.lo
     have h4 := hr.hi
     refine AE.eh ⟨fun _ => ⟨u,by omega,by simpa using hu,fun h95 => ?_,fun h95 => ⟨fun U6 => ⟨fun AHs => ?_,fun AHs => ?_⟩,fun U6 => ?_⟩⟩,fun hh => by omega⟩
     · exfalso
       rcases bB with hd | rfl
       · have := Gm hd; omega
       · exact absurd h95 (by decide)
     · exfalso
       obtain ⟨j,hj,Qv⟩ := hr.sw AHs
       have e : u = 46 := (JE (k := 46) (by decide)).1 U6
       rw [e] at Ct
       have := AHp j k Qv Ct
       omega
     · have e : u = 46 := (JE (k := 46) (by decide)).1 U6
       have hk0 : 0 < k := by
         rcases Nat.eq_zero_or_pos k with h0 | h0
         · subst h0
           rw [hu0] at Ct; cases Ct
           rw [e] at fM; exact absurd fM (by decide)
         · exact h0
       rw [show decide (0 < k) = true from decide_eq_true hk0]
       rw [show Cr r u = { r with dot := true,dp := r.nd } by unfold Cr; rw [if_pos e]] at Pm
       exact Pm
     have hd := bB.resolve_right fun e => U6 ((JE (k := 46) (by decide)).2 e)
     have hn := Gm hd
     have xr : u ≠ 46 := fun e => U6 ((JE (k := 46) (by decide)).2 e)
     have P6 := JE (u := u) (k := 48) (by decide)
     refine ⟨fun _ => ⟨fun _ => ?_,fun hh => by omega⟩,fun hh => by omega⟩
     have ATz := Nat.lt_of_lt_of_le hr.m (ZM (show r.nd ≤ 15 by omega))
     have digit : ¬ (u = 48 ∧ r.nd = 0) → AN ((r.nd : Int) + 1) ∧ Br ((r.nd : Int) < 19) (Df (IntKind.u64.wrap ((r.m : Int) * 10)) fun x99 => Df (IntKind.u8.wrap (((UInt8.toNat u : Nat) : Int) - 48)) fun iC => Df (IntKind.u64.wrap iC) fun iD => Df (IntKind.u64.wrap (x99 + iD)) fun ba => AN ((r.nd : Int) + 1) ∧ AE.Fs R s ba 0 false false false (k : Nat) false false 10 19 101 r.dot true ((r.nd : Int) + 1) ((r.nd : Int) + 1) r.dp σ) (Br ((((UInt8.toNat u : Nat) : Int) : Int) ≠ 48) (AE.Fs R s (r.m : Nat) 0 false true false (k : Nat) false false 10 19 101 r.dot true ((r.nd : Int) + 1) (r.nd : Nat) r.dp σ) (AE.Fs R s (r.m : Nat) 0 false false false (k : Nat) false false 10 19 101 r.dot true ((r.nd : Int) + 1) (r.nd : Nat) r.dp σ)) := fun D2 => by
       refine ⟨by unfold AN; omega,fun _ => fun x99 e99 iC ANd iD ANe ba ANf => ⟨by unfold AN; omega,?_⟩,fun hh => absurd (by omega) hh⟩
       rw [pF (by omega) (by omega)] at e99
       rw [AHo (by omega) (by omega)] at ANd
       rw [pF (by omega) (by omega)] at ANe
       rw [pF (by omega) (by omega)] at ANf
       rw [show Cr r u = { r with m := r.m * 10 + (u.toNat - 48),nd := r.nd + 1 } by unfold Cr; rw [if_neg xr,if_neg D2]] at Pm
       have : ba = ((r.m * 10 + (u.toNat - 48) : Nat) : Int) := by omega
       rw [this]
       exact_mod_cast Pm
     refine ⟨fun ZD => ⟨fun hz => ⟨by unfold AN; omega,?_⟩,fun hz => digit fun hh => hz (by omega)⟩,fun ZD => digit fun hh => ZD (P6.2 hh.1)⟩
     rw [show Cr r u = { r with dp := r.dp - 1 } by unfold Cr; rw [if_neg xr,if_pos ⟨P6.1 ZD,by omega⟩]] at Pm
     exact Pm
 have ANg : AE.Tv R s 0 0 false false false 0 false false σ := by
   refine AE.Qe ⟨by unfold AN; omega,fun An => ⟨u0,by omega,by simpa using hg0,fun ZD => ⟨by unfold AN; omega,?_⟩,fun _ => AE.I7 WN⟩,fun _ => AE.I7 WN⟩
   obtain ⟨u1,iH,ANh⟩ := byte_at (show 1 < s.size by omega)
   refine ⟨u1,by decide,by simpa using iH,Ee.start fun x4 e4 => ⟨_,rfl,fun ANi => ?_,fun _ => AE.I7 WN⟩⟩
   exfalso
   have low : ∀ i : Fin 12,Go.bits .or .u8 (((46 + i.1 : Nat)) : Int) 32 ≠ 120 := by decide
   have GI : 46 ≤ u1.toNat ∧ u1.toNat < 58 := by
     rcases jz u1 (List.mem_of_getElem? ANh) with hd | rfl
     · have := Gm hd; omega
     · decide
   have := low ⟨u1.toNat - 46,by omega⟩
   rw [show 46 + (u1.toNat - 46) = u1.toNat by omega] at this
   exact this (by rw [← e4]; exact ANi)
 refine AE.start ⟨fun hh => by omega,fun _ => ⟨u0,by decide,by simpa using hg0,fun hh => by omega,fun _ => ⟨fun hh => by omega,fun _ => ANg⟩⟩⟩
theorem WO {s : ByteArray} (ht : Fv s = true) (h : R (.returned (.tuple #[.float .f64 0,.int .i64 0,.bool false])) σ) : Spec prog 271 #[.string s] σ R := by
 obtain ⟨hs0,ABS,⟨u0,hu0,fM⟩,jz,uQ,AHp⟩ := Lk ht
 have hn0 := Gm fM
 have hg0 : s.data[0]? = some u0 := by rw [← Array.getElem?_toList]; exact hu0
 refine Ai.start ⟨fun hh => by omega,fun _ => ⟨u0,by decide,by simpa using hg0,fun hh => by omega,fun _ => Ai.Vq ⟨fun hh => ?_,fun _ => ⟨fun hh => by omega,fun _ => Ai.tE ⟨fun hh => ?_,fun _ => ⟨fun hh => by omega,fun _ => Ai.Vr ⟨fun hh => ?_,fun _ => Ai.tF h⟩⟩⟩⟩⟩⟩⟩
 · have := of_decide_eq_true hh; omega
 · have := of_decide_eq_true hh; omega
 · have := of_decide_eq_true hh; omega
theorem uR {x : Int} : YN prog 281 #[.int .u64 x] σ (.float .f64 x.toNat) := fun w _ => by
 rw [run_callFunc_extern Go.Proofs.Tryz.func281 (by kernel_rfl) (by kernel_rfl) (by kernel_rfl) (e := Extern.MathFloatBits.float64frombits) (by kernel_rfl)]
 rfl
theorem uS {s : ByteArray} (ht : Fv s = true) : -15 ≤ S9 (Ha s) ∧ S9 (Ha s) ≤ 0 ∧ (Ha s).m < 1000000000000000 := by
 obtain ⟨hs0,ABS,_,jz,uQ,_⟩ := Lk ht
 have hlen : s.data.toList.length = s.size := Array.length_toList (xs := s.data)
 have H : ∀ k,k ≤ s.size → ROk s k ((s.data.toList.take k).foldl Cr ⟨0,false,0,0⟩) := fun k => by
   induction k with
   | zero => intro _; exact .zero
   | succ k ih =>
     intro hk
     obtain ⟨u,hu,Ct⟩ := byte_at (show k < s.size by omega)
     have := (ih (by omega)).step Ct (jz u (List.mem_of_getElem? Ct))
     rwa [AZ Ct,List.foldl_append]
 have hr := H s.size (Nat.le_refl _)
 rw [List.take_of_length_le (by omega)] at hr
 have hc : cQ s s.size ≤ 15 := Nat.le_trans (List.Sublist.length_le ((List.take_sublist _ _).filter _)) uQ
 have h1 := hr.nd
 have h3 := hr.lo
 have h4 := hr.hi
 have hm := Nat.lt_of_lt_of_le hr.m (ZM (show _ ≤ 15 by omega))
 change (Ha s).m < _ at hm
 change (Ha s).nd ≤ _ at h1
 change ((Ha s).nd : Int) - (Ha s).dp ≤ _ at h3
 change (Ha s).dp ≤ (Ha s).nd at h4
 unfold S9
 split
 · exact ⟨by decide,by decide,hm⟩
 · split <;> omega
theorem cR {m : Nat} {e : Int} (hg : Gl σ) (hm : m < 1000000000000000) (h1 : -15 ≤ e) (h2 : e ≤ 0) (h : ∀ x : Nat,(toF x : Nat) = (if e = 0 then toF (FloatKind.f64.nearest m) else Wv 4 (FloatKind.f64.nearest m) (S7.getD (-e).toNat 0)) → R (.returned (.tuple #[.float .f64 x,.bool true])) σ) :
   Spec prog 282 #[.int .u64 (m : Nat),.int .i64 e,.bool false] σ R := by
 refine BI.start ⟨52,hg.bits,by decide,fun x11 e11 => ⟨fun hh => ?_,fun _ => ?_⟩⟩
 · exfalso
   apply hh
   rw [e11]
   exact Int.ediv_eq_zero_of_lt (by omega) (by show (m : Int) < 4503599627370496; omega)
 refine IP (v := .float .f64 (FloatKind.f64.nearest m)) (fun w => by kernel_rfl) ⟨_,rfl,fun hh => (by cases hh),fun _ => BI.Qd ⟨fun h0 => h _ (by rw [if_pos h0]),fun h0 => ⟨fun hh => by omega,fun _ => ⟨fun _ => ⟨fun _ => ?_,fun hh => absurd (by omega) hh⟩,fun hh => absurd (by omega) hh⟩⟩⟩⟩
 obtain ⟨b,o,n,c,hp,hn,hl⟩ := hg.pow
 refine ⟨_,n,c,hp,fun tP e60 => ?_⟩
 have ANj : tP = -e := by rw [e60]; simp [IntKind.wrap,IntKind.bits,IntKind.signed]; omega
 have An : (-e).toNat < S7.length := by show _ < 16; omega
 refine ⟨b,o,rfl,by omega,S7.getD (-e).toNat 0,?_,fF fun y hy => ⟨_,rfl,h y (by rw [if_neg h0]; exact hy)⟩⟩
 rw [ANj]
 exact hl _ _ (by rw [List.getD_eq_getElem?_getD,List.getElem?_eq_getElem An]; rfl)
theorem il {s : ByteArray} (hg : Gl σ) (ht : Fv s = true) (h : ∀ x : Nat,((toF x : Nat) : Int) = ig s → R (.returned (.tuple #[.float .f64 x,.int .i64 (s.size : Nat),.nilIface])) σ) : Spec prog 253 #[.string s] σ R := by
 obtain ⟨h1,h2,hm⟩ := uS ht
 refine EG.start (WO ht ⟨_,_,_,rfl,fun hh => (by cases hh),fun _ => ik ht ⟨_,_,_,_,_,_,_,rfl,fun hh => (by cases hh),fun _ => ⟨fun hh => (by cases hh),fun _ => ⟨true,hg.opt,fun _ => CM.start ⟨fun hh => (by cases hh),fun _ => ⟨_,rfl,by decide,fun bQ e67 => ?_⟩⟩,fun hh => (by cases hh)⟩⟩⟩⟩)
 have ANk : bQ = 0 := by rw [e67]; rfl
 subst ANk
 refine ⟨fun h0 => fun x71 e71 => .y uR ⟨_,rfl,h _ ?_⟩,fun h0 => ⟨fun hh => by omega,fun _ => ⟨fun hh => by omega,fun _ => ⟨fun _ => cR hg hm h1 h2 fun x hx => ⟨_,_,rfl,fun _ => h x ?_,fun hh => (by cases hh)⟩,fun hh => (by cases hh)⟩⟩⟩⟩
 · have : x71 = 0 := by rw [e71]; decide
   rw [this]
   unfold ig
   rw [if_pos (by omega)]; rfl
 · unfold ig
   dsimp only
   rw [if_neg (by omega),hx]
   split <;> rfl
theorem ZN {s : ByteArray} (hg : Gl σ) (ht : Fv s = true) (h : R (.returned (.tuple #[.int .u64 (ig s),.bool true])) σ) : Spec prog 140 #[.string s] σ R := by
 obtain ⟨_,ABS,_⟩ := Lk ht
 refine PK.start (WL (by omega) ht ⟨_,rfl,fun hh => (by cases hh),fun _ => G1.start (Co.start (Bd.start ⟨fun hh => absurd hh (by decide),fun _ => il hg ht fun x hx => ⟨_,_,_,rfl,_,_,_,rfl,fun hh => absurd rfl hh,fun _ => ⟨_,_,rfl,false,fun w _ => by kernel_rfl,fun hh => (by cases hh),fun _ => ⟨_,_,rfl,GX ⟨_,rfl,by rw [hx]; exact h⟩⟩⟩⟩⟩))⟩)
end
end TwW
end
section
namespace TwW
open Go Tw Go.RowKit Go.Proofs.Tryz
def AY {α : Type} (s : Nat) (E : Hp → List Value → α → Prop) (σ0 σ : Hp) (p : Option Addr) (n c : Nat) (xs : List α) : Prop := F3 s E σ p n c xs ∧ Ext σ0 (σ.del p)
section
variable {α : Type} {s bs : Nat} {E : Hp → List Value → α → Prop} {σ0 σ σ' : Hp} {p : Option Addr} {n c : Nat} {xs : List α}
theorem AY.nil (hx : Ext σ0 σ) : AY s E σ0 σ none 0 0 [] := ⟨F3.nil,hx⟩
theorem AY.mono (hE : Gs E) (h : AY s E σ0 σ p n c xs) (hx : Ext σ σ') : AY s E σ0 σ' p n c xs := ⟨h.1.mono hE hx,h.2.trans (hx.del p)⟩
theorem AY.up (h : AY s E σ0 σ p n c xs) : Ext σ0 σ := h.2.trans (Ext.Ij _ _)
theorem AY.rd (hE : Gs E) (h : AY s E σ0 σ p n c xs) : Ad s E σ p n xs := h.1.rd hE
theorem AY.new (h : AY s E σ0 σ p n c xs) (hx : Ext σ σ') : Ext (σ.new σ') (σ'.del p) := Ext.ry (fun a ha => h.1.block a ha)
theorem AY.Jn {P : Program} {T Et ty : TypeId} {vs : List Value} {x : α} {Φ : Value → Hp → Prop} (hE : Gs E) [Jm P T Et s bs] (h : AY s E σ0 σ p n c xs) (hl : vs.length = s) (h1 : GO vs) (hx : E (σ.del p) vs x) (hb : (n + 1) * bs ≤ 140737488355328)
   (hΦ : ∀ p' c' σ',AY s E σ0 σ' p' (n + 1) c' (xs ++ [x]) → Ext (σ.del p) (σ'.del p') → Φ (.slice p' (n + 1) c') σ') {b : Nat} (hn : σ b = none) :
   AJ P (Builtin.append_ #[T,T] ty #[.slice p n c,.slice (some ⟨b,0,none⟩) 1 1]) (σ.set b (.cells vs.toArray Et (0,0))) Φ := by
 obtain ⟨⟨hlen,cs,ho,hc⟩,iq⟩ := h
 refine DA (ho.mono (.set hn)) ⟨by rw [hl,Nat.one_mul],by omega,.inr ⟨b,0,rfl,Au.of fun j v hj => ?_⟩⟩ h1 hb fun p' c' σ' M7 T3 => ?_
 · simp [Hp.ld,Hp.AB,hj]
 · have e : Ext (σ.del p) (σ'.del p') := ((Ext.set hn).del p).trans T3
   exact hΦ p' c' σ' ⟨⟨by simp [hlen],_,M7,(hc.snoc hl hx).mono hE e⟩,iq.trans e⟩ e
end
theorem Bt.one (σ : Hp) (vs : List Value) (x : El) (h : Bt σ vs x) : GO vs := by
 obtain ⟨p,n,c,rfl,_⟩ := h
 intro u hu
 simp only [List.mem_cons,List.not_mem_nil,or_false] at hu
 rcases hu with rfl | rfl <;> rfl
theorem Bt.at {σ : Hp} {p : Option Addr} {n i : Nat} {l : List El} {x : El} (hr : Ad 2 Bt σ p n l) (hx : l[i]? = some x) : ∃ b o q m d,p = some ⟨b,o,none⟩ ∧ Au σ b (o + i * 2) [.slice q m d,.int .u64 x.v] ∧ E9 σ q m x.ls := by
 obtain ⟨b,o,vs,hp,⟨q,m,d,rfl,h⟩,hl⟩ := Ad.idx hr hx
 exact ⟨b,o,q,m,d,hp,hl,h⟩
section
variable {σ σ' σ0 : Hp} {R : Rr}
theorem pG {p : Option Addr} {n c : Nat} {xs : List Int} {Φ : Value → Hp → Prop} (hr : E7 .u8 σ p n xs) (h : Φ (.string (strOfNums xs)) σ) : AJ prog (convert 90 9 (.slice p n c)) σ Φ := by
 refine AJ.pu (fun w hs => ?_) h
 have h1 := underlying90
 have h2 := underlying9
 by_cases hn : n = 0
 · subst hn
   have hx : xs = [] := List.eq_nil_of_length_eq_zero hr.1
   subst hx
   rw [run_convert_bytes_string w 90 9 _ p 0 c h1 underlying5 h2]
   cases p <;> simp [Conv.bytesToString,loadCells] <;> rfl
 · obtain ⟨x0,iq⟩ := hr.ex (k := 0) (by omega)
   obtain ⟨b,o,rfl,_⟩ := hr.at iq
   refine run_convert_bytes_arg w 90 _ h1 underlying5 b o n c xs hr.1 (fun i hi => ?_) 9 h2
   obtain ⟨x,hx⟩ := hr.ex hi
   obtain ⟨b',o',he,hl⟩ := hr.at hx
   cases he
   have := cell_of hs hl
   simpa [Bi,hx] using this
theorem FO {p : Option Addr} {n c : Nat} {ls : List Lb} (hr : E9 σ p n ls) (hs : Aq ls) (h : ∀ σ',Ext σ σ' → R (.returned (.string (Db ls))) σ') : Spec prog 49 #[.slice p n c] σ R :=
 Xn.start (WA hr hs fun p' n' c' σ' ho hx => ⟨_,_,_,rfl,pG (Di.rd (A9.mono (Ext.B8 _ _) ho)) ⟨_,rfl,h σ' hx⟩⟩)
theorem FP {p : Option Addr} {n c : Nat} {ls : List Lb} (hr : E9 σ p n ls) (hn : n ≤ 1000000) (h : ∀ p' n' c' σ',E9 (σ.new σ') p' n' (Dx ls) → Ext σ σ' → R (.returned (.slice p' n' c')) σ') : Spec prog 146 #[.slice p n c] σ R := by
 refine Um.start fun b hb => ?_
 have hx := Ext.set (o := .cells #[(.string (ByteArray.mk #[95,95,110,97,109,101,95,95]))] 9 (0,0)) hb
 refine I9 (ns := [DT]) (hr.mono Bz.mono hx) hn (WB (Hp.AB _ _ _)) fun p' n' c' σ' ho T3 => ⟨_,_,_,rfl,h p' n' c' σ' ((ho.rd Bz.mono).mono Bz.mono (Ext.C9 hx)) (hx.trans T3)⟩
theorem U9 {p q : Option Addr} {n c m d : Nat} {ls : List Lb} {ns : List ByteArray} (hr : E9 σ p n ls) (hn : n ≤ 1000000) (hs : Ez 1 σ q m (ns.map .string))
   (h : ∀ p' n' c' σ',E9 (σ.new σ') p' n' (Yz ns ls) → Ext σ σ' → R (.returned (.slice p' n' c')) σ') : Spec prog 149 #[.slice p n c,.slice q m d] σ R := by
 refine RP.start fun b3 Z3 => ?_
 have Du : Ext σ (σ.set b3 (.cells #[.slice q m d] 34 (0,0))) := .set Z3
 refine Pd (f := 198) (g := fun x => Da x.1 ns) GU.en (hr.mono Bz.mono Du) hn (fun σ' x R' hx Lg => ?_) fun p' n' c' σ' ho hx => ⟨_,_,_,rfl,h p' n' c' σ' ?_ (Du.trans hx)⟩
 · refine GU.start fun _ => ⟨q,m,d,Ag (hx _ _ (Hp.AB _ _ _)) rfl,Kz (hs.mono (Du.trans hx)) ⟨_,rfl,Lg⟩⟩
 · exact (ho.rd Bz.mono).mono Bz.mono (Ext.C9 Du)
theorem iu {p q : Option Addr} {n c m d : Nat} {ls : List Lb} {ns : List ByteArray} (hr : E9 σ p n ls) (hn : n ≤ 1000000) (hs : Ez 1 σ q m (ns.map .string))
   (h : ∀ p' n' c' σ',E9 (σ.new σ') p' n' (Dx (Y0 ns ls)) → Ext σ σ' → R (.returned (.slice p' n' c')) σ') {R' : Rr} (hR : ∀ p' n' c' σ',R (.returned (.slice p' n' c')) σ' → R' (.returned (.slice p' n' c')) σ') :
   Spec prog 150 #[.slice p n c,.slice q m d] σ (AA R' (CS fun eO n15 Xq y => Spec prog 146 #[.slice eO n15 Xq] y (AA R' (CS fun Wl n16 To AF => R' (.returned (.slice Wl n16 To)) AF)))) := by
 refine I9 hr hn hs fun p' n' c' σ1 ho hx => ⟨_,_,_,rfl,?_⟩
 have hl : n' ≤ n := by
   have h1 := ho.1
   have h2 := List.length_filter_le (fun x : Lb => !Da x.1 ns) ls
   have h3 : ls.length = n := hr.1
   omega
 refine FP ((ho.rd Bz.mono).mono Bz.mono (Ext.B8 _ _)) (by omega) fun p2 n2 c2 σ2 HC A7 => ⟨_,_,_,rfl,hR _ _ _ _ (h p2 n2 c2 σ2 (HC.mono Bz.mono (Ext.C9 hx)) (hx.trans A7))⟩
theorem Qi {n : Nd} {p q r : Option Addr} {k c m d j e : Nat} {ls : List Lb} (hr : E9 σ r j ls) (hj : j ≤ 1000000) (hs : Ez 1 σ q m (n.names.map .string))
   (h : ∀ p' n' c' σ',E9 (σ.new σ') p' n' (OC n ls) → Ext σ σ' → R (.returned (.slice p' n' c')) σ') : Spec prog 207 #[Ly n p k c q m d,.slice r j e] σ R := by
 refine eU.start fun _ => ⟨fun h3 => U9 hr hj hs fun p' n' c' σ' W1 hx => ⟨_,_,_,rfl,h p' n' c' σ' ?_ hx⟩,fun h3 => iu hr hj hs (fun p' n' c' σ' W1 hx => h p' n' c' σ' ?_ hx) fun _ _ _ _ hh => hh⟩
 · unfold OC; rw [if_pos h3]; exact W1
 · unfold OC; rw [if_neg h3]; exact W1
theorem Aq.filter {ls : List Lb} (g : Lb → Bool) (h : Aq ls) : Aq (ls.filter g) := ⟨Nat.le_trans (List.length_filter_le _ _) h.1,fun x hx => h.2 x (List.mem_filter.1 hx).1⟩
theorem Aq.bare {ls : List Lb} (h : Aq ls) : Aq (Dx ls) := h.filter _
theorem Aq.OC {n : Nd} {ls : List Lb} (h : Aq ls) : Aq (TwW.OC n ls) := by
 unfold TwW.OC Yz Dx Y0
 split
 · exact h.filter _
 · exact (h.filter _).filter _
structure IW (R : Rr) (σ : Hp) (X : Option Vv) : Prop where
 ok : ∀ x σ' p n c q m d,X = some x → Ext σ σ' → Ad 2 Bt σ' p n x.vec → Ad 2 Su σ' q m x.OT → n ≤ c → m ≤ d → R (.returned (.tuple #[.agg #[.int .i64 x.kind,.int .u64 x.v,.slice p n c,.slice q m d],.int .i64 0])) σ'
 no : X = none → ∀ σ',Ext σ σ' → R (.returned (.tuple #[.agg #[.int .i64 0,.int .u64 0,.slice none 0 0,.slice none 0 0],.int .i64 223])) σ'
theorem IW.iw {X : Option Vv} (h : IW R σ X) (hx : Ext σ σ') : IW R σ' X := ⟨fun x σ2 p n c q m d h0 h1 h2 h3 => h.ok x σ2 p n c q m d h0 (hx.trans h1) h2 h3,fun h0 σ2 h1 => h.no h0 σ2 (hx.trans h1)⟩
theorem IW.T9 {X : Option Vv} (h : IW R σ X) : IW (AA R (fun z y => ∃ Xr Xs Xt Xu Xv Xw Xx Xy lQ,z = (.tuple #[.agg #[.int .i64 Xr,.int .u64 Xs,.slice Xt Xu Xv,.slice Xw Xx Xy],.int .i64 lQ]) ∧ R (.returned (.tuple #[.agg #[.int .i64 Xr,.int .u64 Xs,.slice Xt Xu Xv,.slice Xw Xx Xy],.int .i64 lQ])) y)) σ X :=
 ⟨fun x σ' p n c q m d h0 h1 h2 h3 h4 h5 => ⟨_,_,_,_,_,_,_,_,_,rfl,h.ok x σ' p n c q m d h0 h1 h2 h3 h4 h5⟩,fun h0 σ' h1 => ⟨_,_,_,_,_,_,_,_,_,rfl,h.no h0 σ' h1⟩⟩
theorem ix [Ey] {p q : Option Addr} {n c m d : Nat} {v u : Int} {ls ms : List Lb} (hr : E9 σ p n ls) (hs : E9 σ q m ms) (h : ∀ σ',Ext σ σ' → R (.returned (.int .i64 (CY ls ms))) σ') : Spec prog 196 #[.agg #[.slice p n c,.int .u64 v],.agg #[.slice q m d,.int .u64 u]] σ R :=
 MH.start fun _ _ => Lh hr hs fun σ' hx => ⟨_,rfl,h σ' hx⟩
end
end TwW
end
section
namespace TwW
open Go Tw Go.RowKit Go.Proofs.Tryz
def Nv (op : Int) (vs : List Int) (w : Int) : Option Int :=
 if op = 4 then some (QG vs) else if op = 5 then some (Oq 4 (QG vs) (BX vs.length)) else if op = 6 then some (Jc 7 vs) else if op = 7 then some (Jc 9 vs) else if op = 8 then some (BX vs.length)
 else if op = 9 then some (nrm (vs.getLast?.getD 0)) else if op = 10 then some (Qh vs) else if vs.length < 2 then none
 else if op = 3 then some (Oq 2 (vs.getLast?.getD 0) (vs.head?.getD 0)) else if op = 2 then some (Ns vs) else some (Oq 4 (Ns vs) w)
def foldI (op : Int) (vs : List Int) : Int := if op = 1 then QG vs else if op = 2 then Jc 7 vs else if op = 3 then Jc 9 vs else if op = 4 then Oq 4 (QG vs) (BX vs.length) else BX vs.length
def LC (op a b : Int) : Int × Bool := if 1 ≤ op ∧ op ≤ 4 then (Oq op a b,true) else (if T5 op a b then BX 1 else BX 0,T5 op a b)
def FF : Fl := { num := ig,abs := br,floor := WH,whole := BX,oU := xi,over := Nv,fold := foldI,QF := LC,iJ := Jb,cmpL := CY }
structure Pn (σ : Hp) (ab : Nat) (ss : List Sr) (t : Int) : Prop where
 ser : ∃ p n c,σ.ld ⟨ab,0,none⟩ = some (.slice p n c) ∧ Ad 2 Cq σ p n ss
 at_ : σ.ld ⟨ab,1,none⟩ = some (.int .i64 t)
theorem Pn.mono {σ σ' : Hp} {ab : Nat} {ss : List Sr} {t : Int} (h : Pn σ ab ss t) (hx : Ext σ σ') : Pn σ' ab ss t := ⟨let ⟨p,n,c,h1,h2⟩ := h.ser; ⟨p,n,c,hx.ld h1,h2.mono Cq.mono hx⟩,hx.ld h.at_⟩
structure uT (ss : List Sr) : Prop where
 ris : ∀ s ∈ ss,ZC s.ps
 sm : ∀ s ∈ ss,Aq s.ls
 len : ss.length ≤ 10000000
structure ABU (n : Nd) : Prop where
 mki : ∀ x ∈ n.mt,1 ≤ x.kind ∧ x.kind ≤ 4
 mv : ∀ x ∈ n.mt,x.val.size ≤ 1000000
 back : 0 ≤ n.back ∧ n.back < 2147483648
 width : 0 ≤ n.width ∧ n.width < 2147483648
section
variable {σ σ' σ0 : Hp} {R : Rr}
theorem Nw {n : Nd} {a p q l : Option Addr} {k c m d j e : Nat} (hg : Gl σ) (ht : Fv n.text = true) (h : IW R σ (some ⟨1,ig n.text,[],[]⟩)) : Spec prog 100 #[.pointer a,Ly n p k c q m d,.slice l j e] σ R :=
 Bp.start fun _ _ => ZN hg ht ⟨_,_,rfl,h.ok _ σ none 0 0 none 0 0 rfl (.refl _) Ad.nil Ad.nil (Nat.le_refl _) (Nat.le_refl _)⟩
theorem Hb {n : Nd} {p q : Option Addr} {k c m d : Nat} {a b : Int} (h : R (.returned (.tuple #[.int .u64 (LC n.op a b).1,.bool (LC n.op a b).2])) σ) : Spec prog 156 #[Ly n p k c q m d,.int .u64 a,.int .u64 b] σ R := by
 refine PW.start fun _ => JB ?_
 unfold LC at h
 by_cases h1 : 1 ≤ n.op ∧ n.op ≤ 4
 · rw [if_pos h1] at h ⊢
   exact ⟨_,_,rfl,fun _ => h,fun hh => (by cases hh)⟩
 · rw [if_neg h1] at h ⊢
   exact ⟨_,_,rfl,fun hh => (by cases hh),fun _ => JC ⟨_,_,rfl,bz ⟨_,rfl,h⟩⟩⟩
theorem Gn {α β : Type} {f : α → Option β} {xs : List α} {k : Nat} {x : α} (hx : xs[k]? = some x) : (xs.take (k + 1)).filterMap f = (xs.take k).filterMap f ++ (f x).toList := by
 rw [AZ hx,List.filterMap_append]
 cases h : f x <;> simp [List.filterMap_cons,h]
theorem ZO {n : Nd} {p q l : Option Addr} {k c m d j e ab : Nat} {ss : List Sr} {t : Int} (hA : Pn σ ab ss t) (hg : Gl σ) (hm : Ad 3 OD σ p k n.mt) (hS : uT ss) (hN : ABU n) (ht : -4611686018427387904 ≤ t ∧ t ≤ 4611686018427387904)
   (h : IW R σ (some ⟨2,0,BZ FF n ss t,[]⟩)) : Spec prog 101 #[.pointer (some ⟨ab,0,none⟩),Ly n p k c q m d,.slice l j e] σ R := by
 obtain ⟨pss,QI,uU,ES,hr⟩ := hA.ser
 have hl : ss.length = QI := hr.1
 have hlen := hS.len
 have hb := hN.back
 let f : Sr → Option El := fun s => match (GF s.ps (t - n.back - 300) (t - n.back)).getLast? with
   | none => none
   | some p => if p.2 = Ja ∨ FF.iJ n.mt s.ls = false then none else some ⟨s.ls,p.2⟩
 have hf : BZ FF n ss t = ss.filterMap f := rfl
 rw [hf] at h
 refine Af.start fun _ _ _ => ⟨ab,0,rfl,pss,QI,uU,ES,?_⟩
 suffices H : ∀ g i : Nat,∀ p8 n8 c8 σ',QI - i = g → i ≤ QI → AY 2 Bt σ σ' p8 n8 c8 ((ss.take i).filterMap f) → Af.A8 R (aD ab 0) n.kind n.op n.text p k c n.width n.back n.EO q m d n.bool n.parts 0 0 none 0 0 none 0 0 2 0 p8 n8 c8 none 0 0 pss QI uU QI i σ' from H QI 0 none 0 0 σ rfl (Nat.zero_le _) (AY.nil (.refl _))
 intro g
 induction g with
 | zero =>
   intro i p8 n8 c8 σ' hgi hi ho
   rw [List.take_of_length_le (by omega)] at ho
   exact Af.Aa ⟨fun An => by omega,fun _ => h.ok _ σ' p8 n8 c8 none 0 0 rfl ho.up (ho.rd Bt.mono) Ad.nil (by obtain ⟨cs,Ww,_⟩ := ho.1.2; exact A9.cap Ww) (Nat.le_refl _)⟩
 | succ g ih =>
   intro i p8 n8 c8 σ' hgi hi ho
   have BN : i < QI := by omega
   obtain ⟨s,hs⟩ := hr.ex BN
   obtain ⟨b,o,p1,n1,c1,q1,m1,d1,rfl,U1,h1,h2,h3⟩ := Cq.at hr hs
   have jh := hS.sm s (List.mem_of_getElem? hs)
   have ABW := hS.ris s (List.mem_of_getElem? hs)
   have hx := ho.up
   have Po : n8 ≤ i := by
     have := ho.1.1
     have h9 := List.length_filterMap_le f (ss.take i)
     rw [List.length_take] at h9
     omega
   have next : ∀ p9 n9 c9 σ2,AY 2 Bt σ σ2 p9 n9 c9 ((ss.take i).filterMap f ++ (f s).toList) → Af.Ls R (aD ab 0) n.kind n.op n.text p k c n.width n.back n.EO q m d n.bool n.parts 0 0 none 0 0 none 0 0 2 0 p9 n9 c9 none 0 0 (aD b o) QI uU QI i σ2 := fun p9 n9 c9 σ2 Be =>
     Af.I5 ⟨AK BN hr.big,ih (i + 1) _ _ _ _ (by omega) (by omega) (by rw [Gn hs]; exact Be)⟩
   refine Af.Aa ⟨fun _ => ⟨b,o,rfl,by omega,p1,n1,c1,q1,m1,d1,by simpa using U1.mono hx,fun _ => ⟨ab,0,rfl,t,hx.ld hA.at_,by unfold AN; omega,by unfold AN; omega,t,hx.ld hA.at_,by unfold AN; omega,Ph (h2.mono HL.mono hx) h3 ABW fun q2 m2 d2 HC uV => ⟨q2,m2,d2,rfl,fun h0 => ?_,fun h0 => ?_⟩⟩⟩,fun hh => by omega⟩
   · refine next _ _ _ _ ?_
     have e : f s = none := by
       show (match (GF s.ps (t - n.back - 300) (t - n.back)).getLast? with | none => none | some p => _) = none
       have ZP : (GF s.ps (t - n.back - 300) (t - n.back)).length = m2 := HC.1
       rw [List.length_eq_zero_iff.1 (show (GF s.ps (t - n.back - 300) (t - n.back)).length = 0 by omega)]; rfl
     rw [e]; simpa using ho
   have ZP : (GF s.ps (t - n.back - 300) (t - n.back)).length = m2 := HC.1
   obtain ⟨y,hy⟩ := HC.ex (k := m2 - 1) (by omega)
   obtain ⟨b2,o2,rfl,bo⟩ := HL.at HC hy
   have e1 : Int.toNat ((m2 : Int) - 1) = m2 - 1 := by omega
   have Ho := HC.big
   have AHu : (GF s.ps (t - n.back - 300) (t - n.back)).getLast? = some y := by rw [List.getLast?_eq_getElem?,ZP,hy]
   have ef : f s = if y.2 = Ja ∨ Jb n.mt s.ls = false then none else some ⟨s.ls,y.2⟩ := by
     show (match (GF s.ps (t - n.back - 300) (t - n.back)).getLast? with | none => none | some p => _) = _
     rw [AHu]; rfl
   refine ⟨by unfold AN; omega,b2,o2,rfl,by omega,y.2,by rw [e1]; exact bo.2.1,fun Ca => ?_,fun Ca => U8 ((hg.mono hx)) (hm.mono OD.mono hx) (h1.mono Bz.mono hx) hN.mv (fun x hx => by have := (jh.2 x hx).2; omega) hN.mki fun σ2 A7 => ⟨_,rfl,fun hf => ?_,fun htr => ?_⟩⟩
   · refine next _ _ _ _ ?_
     rw [ef,if_pos (.inl Ca)]; simpa using ho
   · refine next _ _ _ _ ?_
     rw [ef,if_pos (.inr hf)]
     simpa using ho.mono Bt.mono A7
   · refine ⟨by unfold AN; omega,by omega,y.2,by rw [e1]; exact A7.ld bo.2.1,fun b73 ABX => ?_⟩
     have Be := ho.mono Bt.mono A7
     have he : Bt (σ2.del p8) [.slice p1 n1 c1,.int .u64 y.2] ⟨s.ls,y.2⟩ := ⟨p1,n1,c1,rfl,h1.mono Bz.mono Be.2⟩
     refine AY.Jn Bt.mono Be rfl (Bt.one _ _ _ he) he (by omega) (fun p' c' σ3 FV _ => ⟨_,_,_,rfl,next _ _ _ _ ?_⟩) ABX
     rw [ef,if_neg (by
                        rintro (h5 | h5)
                        · exact Ca h5
                        · rw [htr] at h5; cases h5)]
     exact FV
theorem A9.pH {s : Nat} {p q : Option Addr} {n c : Nat} {cs : List Value} (ho : A9 s σ q n c cs) (h : ∀ a,q = some a → ∀ a',p = some a' → a.block ≠ a'.block) : A9 s (σ.del p) q n c cs :=
 ⟨ho.1,ho.2.1,ho.2.2.imp id fun ⟨b',o',arr,T,hp,hb,r⟩ => ⟨b',o',arr,T,hp,AR.2 ⟨fun a' Nx => h _ hp a' Nx,hb⟩,r⟩⟩
theorem AY.sep {α : Type} {s : Nat} {E : Hp → List Value → α → Prop} {p q : Option Addr} {n c m d : Nat} {xs : List α} {ys : List Int} (h : AY s E σ0 σ p n c xs) (g : AY 1 (Pv .u64) σ σ' q m d ys) : E7 .u64 (σ'.del p) q m ys ∧ m ≤ d := by
 obtain ⟨⟨_,cs,ho,hc⟩,hx⟩ := g
 have hp := h.1.block
 refine ⟨?_,A9.cap ho⟩
 have M1 := aJ.1 hc
 subst M1
 refine E7.kG (A9.rd (A9.pH ho fun a ha a' Nx e => ?_))
 cases hh : σ a'.block with
 | none => exact hp a' Nx hh
 | some u => exact (AR.1 (hx _ _ hh)).1 a ha e.symm
theorem Su.one (σ : Hp) (vs : List Value) (x : Rg) (h : Su σ vs x) : GO vs := by
 obtain ⟨p,n,c,q,m,d,rfl,_⟩ := h
 intro u hu
 simp only [List.mem_cons,List.not_mem_nil,or_false] at hu
 rcases hu with rfl | rfl <;> rfl
theorem cS {n : Nd} {p q l : Option Addr} {k c m d j e ab : Nat} {ss : List Sr} {t : Int} (hA : Pn σ ab ss t) (hg : Gl σ) (hm : Ad 3 OD σ p k n.mt) (hS : uT ss) (hN : ABU n) (ht : -4611686018427387904 ≤ t ∧ t ≤ 4611686018427387904) (hpl : ∀ s ∈ ss,s.ps.length ≤ 1000000000)
   (h : IW R σ (some ⟨3,BX n.width,[],bj FF n ss t⟩)) : Spec prog 102 #[.pointer (some ⟨ab,0,none⟩),Ly n p k c q m d,.slice l j e] σ R := by
 obtain ⟨pss,QI,uU,ES,hr⟩ := hA.ser
 have hl : ss.length = QI := hr.1
 have hlen := hS.len
 have hb := hN.back
 have hw := hN.width
 let fv : Sr → List Int := fun s => ((GF s.ps (t - n.back - n.width) (t - n.back)).filter fun p => decide (p.2 ≠ Ja)).map Prod.snd
 let f : Sr → Option Rg := fun s => bif !(fv s).isEmpty && FF.iJ n.mt s.ls then some ⟨s.ls,fv s⟩ else none
 have hf : bj FF n ss t = ss.filterMap f := rfl
 rw [hf] at h
 refine AQ.start fun _ _ => JD ⟨_,rfl,fun _ => ⟨ab,0,rfl,pss,QI,uU,ES,?_⟩⟩
 suffices H : ∀ g i : Nat,∀ p8 n8 c8 σ',QI - i = g → i ≤ QI → AY 2 Su σ σ' p8 n8 c8 ((ss.take i).filterMap f) → AQ.A8 R (aD ab 0) n.kind n.op n.text p k c n.width n.back n.EO q m d n.bool n.parts 0 0 none 0 0 none 0 0 3 (BX n.width) none 0 0 p8 n8 c8 pss QI uU QI i σ' from H QI 0 none 0 0 σ rfl (Nat.zero_le _) (AY.nil (.refl _))
 intro g
 induction g with
 | zero =>
   intro i p8 n8 c8 σ' hgi hi ho
   rw [List.take_of_length_le (by omega)] at ho
   exact AQ.Aa ⟨fun An => by omega,fun _ => h.ok _ σ' none 0 0 p8 n8 c8 rfl ho.up Ad.nil (ho.rd Su.mono) (Nat.le_refl _) (by obtain ⟨cs,Ww,_⟩ := ho.1.2; exact A9.cap Ww)⟩
 | succ g ih =>
   intro i p8 n8 c8 σ' hgi hi ho
   have BN : i < QI := by omega
   obtain ⟨s,hs⟩ := hr.ex BN
   obtain ⟨b,o,p1,n1,c1,q1,m1,d1,rfl,U1,h1,h2,h3⟩ := Cq.at hr hs
   have jh := hS.sm s (List.mem_of_getElem? hs)
   have ABW := hS.ris s (List.mem_of_getElem? hs)
   have AT4 := hpl s (List.mem_of_getElem? hs)
   have hx := ho.up
   have Po : n8 ≤ i := by
     have := ho.1.1
     have h9 := List.length_filterMap_le f (ss.take i)
     rw [List.length_take] at h9
     omega
   have next : ∀ p9 n9 c9 σ2,AY 2 Su σ σ2 p9 n9 c9 ((ss.take i).filterMap f ++ (f s).toList) → AQ.Lw R (aD ab 0) n.kind n.op n.text p k c n.width n.back n.EO q m d n.bool n.parts 0 0 none 0 0 none 0 0 3 (BX n.width) none 0 0 p9 n9 c9 (aD b o) QI uU QI i σ2 := fun p9 n9 c9 σ2 Be =>
     AQ.I7 ⟨AK BN hr.big,ih (i + 1) _ _ _ _ (by omega) (by omega) (by rw [Gn hs]; exact Be)⟩
   refine AQ.Aa ⟨fun _ => ⟨b,o,rfl,by omega,p1,n1,c1,q1,m1,d1,by simpa using U1.mono hx,fun _ => ⟨ab,0,rfl,t,hx.ld hA.at_,by unfold AN; omega,by unfold AN; omega,t,hx.ld hA.at_,by unfold AN; omega,Ph (h2.mono HL.mono hx) h3 ABW fun q2 m2 d2 HC uV => ⟨q2,m2,d2,rfl,?_⟩⟩⟩,fun hh => by omega⟩
   have ZP : (GF s.ps (t - n.back - n.width) (t - n.back)).length = m2 := HC.1
   have hm2 : m2 ≤ 1000000000 := by
     have := List.length_filter_le (fun p : Int × Int => decide (t - n.back - n.width < p.1) && decide (p.1 ≤ t - n.back)) s.ps
     rw [← ZP]; unfold GF; omega
   have hfv : fv s = ((GF s.ps (t - n.back - n.width) (t - n.back)).filter fun p => decide (p.2 ≠ Ja)).map Prod.snd := rfl
   generalize GF s.ps (t - n.back - n.width) (t - n.back) = ps at *
   let gv : Pt → Option Int := fun p => if p.2 ≠ Ja then some p.2 else none
   have hgv : ∀ l : List Pt,((l.filter fun p => decide (p.2 ≠ Ja)).map Prod.snd) = l.filterMap gv := fun l => by
     induction l with
     | nil => rfl
     | cons a l ih =>
       by_cases ha : a.2 ≠ Ja
       · rw [List.filter_cons_of_pos (by simpa using ha),List.map_cons,ih,List.filterMap_cons_some (by show (if a.2 ≠ Ja then some a.2 else none) = some a.2; rw [if_pos ha])]
       · rw [List.filter_cons_of_neg (by simpa using ha),ih,List.filterMap_cons_none (by show (if a.2 ≠ Ja then some a.2 else none) = none; rw [if_neg ha])]
   rw [hgv] at hfv
   suffices H2 : ∀ g2 i2 : Nat,∀ q2' La n11 Lc σ2,(0 < m2 → q2' = q2) → m2 - i2 = g2 → i2 ≤ m2 → AY 1 (Pv .u64) σ' σ2 La n11 Lc ((ps.take i2).filterMap gv) → AQ.Tv R (aD ab 0) n.kind n.op n.text p k c n.width n.back n.EO q m d n.bool n.parts 0 0 none 0 0 none 0 0 3 (BX n.width) none 0 0 p8 n8 c8 p1 n1 c1 q1 m1 d1 La n11 Lc (aD b o) QI uU QI i q2' m2 d2 m2 i2 σ2 from H2 m2 0 q2 none 0 0 σ' (fun _ => rfl) rfl (Nat.zero_le _) (AY.nil (.refl _))
   intro g2
   induction g2 with
   | zero =>
     intro i2 q2' La n11 Lc σ2 hq cU hi2 Be
     rw [List.take_of_length_le (by omega),← hfv] at Be
     have hlv : (fv s).length = n11 := Be.1.1
     have Ww := ho.mono Su.mono Be.up
     refine AQ.Qe ⟨fun An => by omega,fun _ => ⟨fun Qw => U8 (hg.mono (hx.trans Be.up)) (hm.mono OD.mono (hx.trans Be.up)) (h1.mono Bz.mono (hx.trans Be.up)) hN.mv (fun x hx => by have := (jh.2 x hx).2; omega) hN.mki fun σ3 Du => ⟨_,rfl,fun htr => ?_,fun hfa => ?_⟩,fun Qw => ?_⟩⟩
     · intro b77 ANn
       obtain ⟨hv1,hv2⟩ := ho.sep (Be.mono (Pv.mono _) Du)
       have FV := Ww.mono Su.mono Du
       have he : Su (σ3.del p8) [.slice p1 n1 c1,.slice La n11 Lc] ⟨s.ls,fv s⟩ := ⟨p1,n1,c1,La,n11,Lc,rfl,h1.mono Bz.mono FV.2,hv1,hv2⟩
       refine AY.Jn Su.mono FV rfl (Su.one _ _ _ he) he (by omega) (fun p' c' σ4 Mm _ => ⟨_,_,_,rfl,next _ _ _ _ ?_⟩) ANn
       have ef : f s = some ⟨s.ls,fv s⟩ := by
         show (bif !(fv s).isEmpty && Jb n.mt s.ls then some _ else none) = _
         rw [htr]
         cases hfe : fv s with
         | nil => rw [hfe] at hlv; simp at hlv; omega
         | cons a l => rfl
       rw [ef]; exact Mm
     · refine next _ _ _ _ ?_
       have ef : f s = none := by
         show (bif !(fv s).isEmpty && Jb n.mt s.ls then some _ else none) = _
         rw [hfa,Bool.and_false]; rfl
       rw [ef]; simpa using Ww.mono Su.mono Du
     · refine next _ _ _ _ ?_
       have ef : f s = none := by
         show (bif !(fv s).isEmpty && Jb n.mt s.ls then some _ else none) = _
         rw [List.length_eq_zero_iff.1 (show (fv s).length = 0 by omega)]; rfl
       rw [ef]; simpa using Ww
   | succ g2 ih2 =>
     intro i2 q2' La n11 Lc σ2 hq cU hi2 Be
     have AHx : i2 < m2 := by omega
     obtain ⟨y,hy⟩ := HC.ex AHx
     obtain ⟨b2,o2,rZ,bo⟩ := HL.at HC hy
     have uW : n11 ≤ i2 := by
       have := Be.1.1
       have h9 := List.length_filterMap_le gv (ps.take i2)
       rw [List.length_take] at h9
       omega
     rw [hq (by omega),rZ]
     have nx : ∀ p9 n9 c9 σ3,AY 1 (Pv .u64) σ' σ3 p9 n9 c9 ((ps.take i2).filterMap gv ++ (gv y).toList) → AQ.te R (aD ab 0) n.kind n.op n.text p k c n.width n.back n.EO q m d n.bool n.parts 0 0 none 0 0 none 0 0 3 (BX n.width) none 0 0 p8 n8 c8 p1 n1 c1 q1 m1 d1 p9 n9 c9 (aD b o) QI uU QI i (aD b2 o2) m2 d2 m2 i2 σ3 := fun p9 n9 c9 σ3 FV =>
       AQ.tf ⟨AK AHx HC.big,ih2 (i2 + 1) _ _ _ _ _ (fun _ => rZ.symm) (by omega) (by omega) (by rw [Gn hy]; exact FV)⟩
     refine AQ.Qe ⟨fun _ => ⟨b2,o2,rfl,by omega,y.1,y.2,by simpa using bo.mono Be.up,fun _ => ⟨fun Az => fun b58 ANp => ?_,fun heq => nx _ _ _ _ ?_⟩⟩,fun hh => by omega⟩
     · refine AY.Jn (Pv.mono _) Be (vs := [.int .u64 y.2]) (x := y.2) rfl (fun u hu => by rw [List.mem_singleton] at hu; subst hu; rfl) rfl (by omega) (fun p' c' σ4 Mm _ => ⟨_,_,_,rfl,nx _ _ _ _ ?_⟩) ANp
       rw [show gv y = some y.2 from if_pos Az]; exact Mm
     · rw [show gv y = none from if_neg (by simpa using heq)]; simpa using Be
end
end TwW
end
section
namespace TwW
open Go Tw Go.RowKit Go.Proofs.Tryz
def fnT : List (Nat × Nat) := [(226,193),(226,191),(226,189),(224,151),(224,154),(224,152),(224,153),(224,155),(224,185),(224,187)]
def TA (σ : Hp) (fb : Nat) : Prop := ∀ i g f,fnT[i]? = some (g,f) → ∃ b T,σ.ld ⟨fb,i + 1,none⟩ = some (.func (.func g) #[] #[.pointer (aD b 0)]) ∧ σ b = some (.cells #[.func (.func f) #[] #[]] T (0,0))
theorem TA.mono {σ σ' : Hp} {fb : Nat} (h : TA σ fb) (hx : Ext σ σ') : TA σ' fb := fun i g f hi => let ⟨b,T,h1,h2⟩ := h i g f hi; ⟨b,T,hx.ld h1,hx _ _ h2⟩
section
variable {σ σ' σ0 : Hp} {R : Rr}
theorem TB (h : ∀ fb σ',TA (σ.new σ') fb → Ext σ σ' → R (.returned (.slice (aD fb 0) 11 11)) σ') : Spec prog 147 #[] σ R := by
 refine Kw.start ?_
 refine CL.start fun b1 h1 => ⟨_,_,_,rfl,?_⟩
 refine CL.start fun b2 h2 => ⟨_,_,_,rfl,?_⟩
 refine CL.start fun b3 h3 => ⟨_,_,_,rfl,?_⟩
 refine CL.start fun b4 h4 => ⟨_,_,_,rfl,?_⟩
 refine CL.start fun b5 h5 => ⟨_,_,_,rfl,?_⟩
 refine CL.start fun b6 h6 => ⟨_,_,_,rfl,?_⟩
 refine CL.start fun b7 h7 => ⟨_,_,_,rfl,?_⟩
 refine NH.start fun b8 h8 => ⟨_,_,_,rfl,?_⟩
 refine NH.start fun b9 h9 => ⟨_,_,_,rfl,?_⟩
 refine NH.start fun Cb Sk => ⟨_,_,_,rfl,?_⟩
 intro fb hfb
 have x10 := Ext.set (o := .cells #[.nilFunc,.func (.func 226) #[] #[.pointer (aD Cb 0)],.func (.func 226) #[] #[.pointer (aD b9 0)],.func (.func 226) #[] #[.pointer (aD b8 0)],.func (.func 224) #[] #[.pointer (aD b1 0)],.func (.func 224) #[] #[.pointer (aD b2 0)],.func (.func 224) #[] #[.pointer (aD b3 0)],.func (.func 224) #[] #[.pointer (aD b4 0)],.func (.func 224) #[] #[.pointer (aD b5 0)],.func (.func 224) #[] #[.pointer (aD b6 0)],.func (.func 224) #[] #[.pointer (aD b7 0)]] 195 (0,0)) hfb
 have Tu := x10 _ _ (Hp.AB _ Cb _)
 have x9 := (Ext.set Sk).trans x10
 have c9 := x9 _ _ (Hp.AB _ b9 _)
 have x8 := (Ext.set h9).trans x9
 have c8 := x8 _ _ (Hp.AB _ b8 _)
 have x7 := (Ext.set h8).trans x8
 have c7 := x7 _ _ (Hp.AB _ b7 _)
 have x6 := (Ext.set h7).trans x7
 have c6 := x6 _ _ (Hp.AB _ b6 _)
 have x5 := (Ext.set h6).trans x6
 have c5 := x5 _ _ (Hp.AB _ b5 _)
 have x4 := (Ext.set h5).trans x5
 have c4 := x4 _ _ (Hp.AB _ b4 _)
 have x3 := (Ext.set h4).trans x4
 have c3 := x3 _ _ (Hp.AB _ b3 _)
 have x2 := (Ext.set h3).trans x3
 have c2 := x2 _ _ (Hp.AB _ b2 _)
 have x1 := (Ext.set h2).trans x2
 have c1 := x1 _ _ (Hp.AB _ b1 _)
 have x0 := (Ext.set h1).trans x1
 have n1 : σ b1 = none := h1
 have z1 := Ext.set (o := .cells #[.func (.func 151) #[] #[]] 201 (0,0)) h1
 have n2 : σ b2 = none := A2 z1 h2
 have z2 := z1.trans (Ext.set (o := .cells #[.func (.func 154) #[] #[]] 201 (0,0)) h2)
 have n3 : σ b3 = none := A2 z2 h3
 have z3 := z2.trans (Ext.set (o := .cells #[.func (.func 152) #[] #[]] 201 (0,0)) h3)
 have n4 : σ b4 = none := A2 z3 h4
 have z4 := z3.trans (Ext.set (o := .cells #[.func (.func 153) #[] #[]] 201 (0,0)) h4)
 have n5 : σ b5 = none := A2 z4 h5
 have z5 := z4.trans (Ext.set (o := .cells #[.func (.func 155) #[] #[]] 201 (0,0)) h5)
 have n6 : σ b6 = none := A2 z5 h6
 have z6 := z5.trans (Ext.set (o := .cells #[.func (.func 185) #[] #[]] 201 (0,0)) h6)
 have n7 : σ b7 = none := A2 z6 h7
 have z7 := z6.trans (Ext.set (o := .cells #[.func (.func 187) #[] #[]] 201 (0,0)) h7)
 have n8 : σ b8 = none := A2 z7 h8
 have z8 := z7.trans (Ext.set (o := .cells #[.func (.func 189) #[] #[]] 232 (0,0)) h8)
 have n9 : σ b9 = none := A2 z8 h9
 have z9 := z8.trans (Ext.set (o := .cells #[.func (.func 191) #[] #[]] 232 (0,0)) h9)
 have n10 : σ Cb = none := A2 z9 Sk
 have z10 := z9.trans (Ext.set (o := .cells #[.func (.func 193) #[] #[]] 232 (0,0)) Sk)
 have nf : σ fb = none := A2 z10 hfb
 refine h fb _ (fun i g f hi => ?_) x0
 clear x0 x1 x2 x3 x4 x5 x6 x7 x8 x9 x10 z1 z2 z3 z4 z5 z6 z7 z8 z9 z10
 match i,hi with
 | 0,hi => cases hi; exact ⟨Cb,_,Ag (AS.2 ⟨nf,Hp.AB _ _ _⟩) rfl,AS.2 ⟨n10,Tu⟩⟩
 | 1,hi => cases hi; exact ⟨b9,_,Ag (AS.2 ⟨nf,Hp.AB _ _ _⟩) rfl,AS.2 ⟨n9,c9⟩⟩
 | 2,hi => cases hi; exact ⟨b8,_,Ag (AS.2 ⟨nf,Hp.AB _ _ _⟩) rfl,AS.2 ⟨n8,c8⟩⟩
 | 3,hi => cases hi; exact ⟨b1,_,Ag (AS.2 ⟨nf,Hp.AB _ _ _⟩) rfl,AS.2 ⟨n1,c1⟩⟩
 | 4,hi => cases hi; exact ⟨b2,_,Ag (AS.2 ⟨nf,Hp.AB _ _ _⟩) rfl,AS.2 ⟨n2,c2⟩⟩
 | 5,hi => cases hi; exact ⟨b3,_,Ag (AS.2 ⟨nf,Hp.AB _ _ _⟩) rfl,AS.2 ⟨n3,c3⟩⟩
 | 6,hi => cases hi; exact ⟨b4,_,Ag (AS.2 ⟨nf,Hp.AB _ _ _⟩) rfl,AS.2 ⟨n4,c4⟩⟩
 | 7,hi => cases hi; exact ⟨b5,_,Ag (AS.2 ⟨nf,Hp.AB _ _ _⟩) rfl,AS.2 ⟨n5,c5⟩⟩
 | 8,hi => cases hi; exact ⟨b6,_,Ag (AS.2 ⟨nf,Hp.AB _ _ _⟩) rfl,AS.2 ⟨n6,c6⟩⟩
 | 9,hi => cases hi; exact ⟨b7,_,Ag (AS.2 ⟨nf,Hp.AB _ _ _⟩) rfl,AS.2 ⟨n7,c7⟩⟩
theorem pI {p : Option Addr} {m c : Nat} {vs : List Int} (hr : E7 .u64 σ p m vs) (h0 : 0 < m) (h : R (.returned (.int .u64 (nrm (vs.getLast?.getD 0)))) σ) : Spec prog 185 #[.slice p m c] σ R := by
 have hl : vs.length = m := hr.1
 have Ho := hr.big
 obtain ⟨z,hz⟩ := hr.ex (k := m - 1) (by omega)
 obtain ⟨b,o,rfl,xj⟩ := E7.at hr hz
 rw [List.getLast?_eq_getElem?,hl,hz] at h
 exact DH.start ⟨by unfold AN; omega,b,o,rfl,by omega,z,by rw [show Int.toNat ((m : Int) - 1) = m - 1 by omega]; exact xj,Fu ⟨_,rfl,h⟩⟩
theorem pJ {p q : Option Addr} {m c j e : Nat} {vs : List Int} (hr : E7 .u64 σ p m vs) (h0 : 0 < m) (h : R (.returned (.int .u64 (Oq 2 (vs.getLast?.getD 0) (vs.head?.getD 0)))) σ) : Spec prog 189 #[.slice p m c,.slice q j e] σ R := by
 have hl : vs.length = m := hr.1
 have Ho := hr.big
 obtain ⟨z,hz⟩ := hr.ex (k := m - 1) (by omega)
 obtain ⟨y,hy⟩ := hr.ex (k := 0) (by omega)
 obtain ⟨b,o,rfl,xj⟩ := E7.at hr hz
 obtain ⟨_,_,he,bo⟩ := E7.at hr hy
 cases he
 rw [List.getLast?_eq_getElem?,hl,hz,List.head?_eq_getElem?,hy] at h
 exact DI.start ⟨by unfold AN; omega,b,o,rfl,by omega,z,by rw [show Int.toNat ((m : Int) - 1) = m - 1 by omega]; exact xj,by omega,y,by simpa using bo,Y9 ⟨_,rfl,h⟩⟩
theorem iy {n : Nd} {p q r : Option Addr} {k c m d lb lo j e fb u v : Nat} {vs : List Int} {w : Int} (ho : 1 ≤ n.op ∧ n.op ≤ 10) (hF : TA σ fb) (hr : E7 .u64 σ r u vs) (h0 : 0 < u) (hc : u ≤ v) (hj : 0 < j) (hw : σ.ld ⟨lb,lo + 1,none⟩ = some (.int .u64 w))
   (h : ∀ x ok σ',(Nv n.op vs w = some x ∧ ok = true ∨ Nv n.op vs w = none ∧ ok = false) → Ext σ σ' → R (.returned (.tuple #[.int .u64 x,.bool ok])) σ') :
   ∃ v58,Hp.ld σ ⟨fb,(0 + Int.toNat n.op * 1),none⟩ = some v58 ∧ ∃ (f63 : Nat) (Kt Ku : Array Value),v58 = .func (.func f63) Kt Ku ∧ Enters prog f63 ∧ Spec prog f63 (Kt ++ #[.slice r u v,Ly n p k c q m d,.slice (some ⟨lb,lo,none⟩) j e] ++ Ku) σ R := by
 have hl : vs.length = u := hr.1
 have always : ∀ (i f : Nat) (x : Int),n.op = i + 1 → fnT[i]? = some (224,f) → Nv n.op vs w = some x → Enters prog f → (∀ R' : Rr,(∀ σ',Ext σ σ' → R' (.returned (.int .u64 x)) σ') → Spec prog f #[.slice r u v] σ R') →
     ∃ v58,Hp.ld σ ⟨fb,(0 + Int.toNat n.op * 1),none⟩ = some v58 ∧ ∃ (f63 : Nat) (Kt Ku : Array Value),v58 = .func (.func f63) Kt Ku ∧ Enters prog f63 ∧ Spec prog f63 (Kt ++ #[.slice r u v,Ly n p k c q m d,.slice (some ⟨lb,lo,none⟩) j e] ++ Ku) σ R := fun i f x hi hf hx OJ hs => by
   obtain ⟨b,T,h1,h2⟩ := hF i _ _ hf
   refine ⟨_,by rw [show 0 + Int.toNat n.op * 1 = i + 1 by omega]; exact h1,224,#[],#[.pointer (aD b 0)],rfl,FZ.en,FZ.start fun _ => ⟨_,Ag h2 rfl,f,#[],#[],rfl,OJ,hs _ fun σ' T3 => ⟨_,rfl,h x true σ' (.inl ⟨hx,rfl⟩) T3⟩⟩⟩
 have two : ∀ (i f : Nat) (x : Int),n.op = i + 1 → fnT[i]? = some (226,f) → (Nv n.op vs w = if vs.length < 2 then none else some x) → Enters prog f → (2 ≤ u → ∀ R' : Rr,R' (.returned (.int .u64 x)) σ → Spec prog f #[.slice r u v,.slice (some ⟨lb,lo,none⟩) j e] σ R') →
     ∃ v58,Hp.ld σ ⟨fb,(0 + Int.toNat n.op * 1),none⟩ = some v58 ∧ ∃ (f63 : Nat) (Kt Ku : Array Value),v58 = .func (.func f63) Kt Ku ∧ Enters prog f63 ∧ Spec prog f63 (Kt ++ #[.slice r u v,Ly n p k c q m d,.slice (some ⟨lb,lo,none⟩) j e] ++ Ku) σ R := fun i f x hi hf hx OJ hs => by
   obtain ⟨b,T,h1,h2⟩ := hF i _ _ hf
   refine ⟨_,by rw [show 0 + Int.toNat n.op * 1 = i + 1 by omega]; exact h1,226,#[],#[.pointer (aD b 0)],rfl,I4.en,I4.start fun _ => ⟨fun An => h 0 false σ (.inr ⟨by rw [hx,if_pos (by omega)],rfl⟩) (.refl _),fun iF => ⟨_,Ag h2 rfl,f,#[],#[],rfl,OJ,hs (by omega) _ ⟨_,rfl,h x true σ (.inl ⟨by rw [hx,if_neg (by omega)],rfl⟩) (.refl _)⟩⟩⟩⟩
 have pE : n.op = 1 ∨ n.op = 2 ∨ n.op = 3 ∨ n.op = 4 ∨ n.op = 5 ∨ n.op = 6 ∨ n.op = 7 ∨ n.op = 8 ∨ n.op = 9 ∨ n.op = 10 := by omega
 rcases pE with e1 | e1 | e1 | e1 | e1 | e1 | e1 | e1 | e1 | e1
 · exact two 0 _ (Oq 4 (Ns vs) w) e1 rfl (by rw [e1]; rfl) DP.en fun h2 R' Lg => DP.start ⟨lb,lo,rfl,by omega,w,hw,S0 hr h0 ⟨_,rfl,Kp.FE (.refl _),ZA ⟨_,rfl,Lg⟩⟩⟩
 · exact two 1 _ (Ns vs) e1 rfl (by rw [e1]; rfl) DL.en fun h2 R' Lg => DL.start (S0 hr h0 ⟨_,rfl,Lg⟩)
 · exact two 2 _ (Oq 2 (vs.getLast?.getD 0) (vs.head?.getD 0)) e1 rfl (by rw [e1]; rfl) DI.en fun h2 R' Lg => pJ hr h0 Lg
 · exact always 3 _ (QG vs) e1 rfl (by rw [e1]; rfl) Fp.en fun R' Lg => Sx hr h0 hc (Lg σ (.refl _))
 · exact always 4 _ (Oq 4 (QG vs) (BX vs.length)) e1 rfl (by rw [e1]; rfl) Ei.en fun R' Lg => Nq hr h0 hc (by rw [← hl]; exact Lg σ (.refl _))
 · exact always 5 _ (Jc 7 vs) e1 rfl (by rw [e1]; rfl) G0.en fun R' Lg => Sz hr h0 hc (Lg σ (.refl _))
 · exact always 6 _ (Jc 9 vs) e1 rfl (by rw [e1]; rfl) Dl.en fun R' Lg => MT hr h0 hc (Lg σ (.refl _))
 · exact always 7 _ (BX vs.length) e1 rfl (by rw [e1]; rfl) Gw.en fun R' Lg => Mq (by rw [← hl]; exact Lg σ (.refl _))
 · exact always 8 _ (nrm (vs.getLast?.getD 0)) e1 rfl (by rw [e1]; rfl) DH.en fun R' Lg => pI hr h0 (Lg σ (.refl _))
 · exact always 9 _ (Qh vs) e1 rfl (by rw [e1]; rfl) BQ.en fun R' Lg => T7 hr h0 hc Lg
end
end TwW
end
section
namespace TwW
open Go Tw Go.RowKit Go.Proofs.Tryz
theorem Spec.pK {P : Program} {f : FuncId} {args : Array Value} {R : Ending → Prop} {σ0 : Hp} (h : @Spec ⟨True⟩ P f args σ0 (fun e σ' => R e ∧ Ext σ0 σ')) {w : World} (hs : Sat σ0 w) :
   Calls P f args w (fun e w' => R e ∧ ∃ q os,w' = { w with heap := w.heap ++ os,drawn := w.drawn + q }) := by
 refine (h w (fun b => b < w.heap.size ∧ σ0 b = none) hs (fun b hb => hb)).mono ?_
 rintro e w' ⟨σ,⟨hr,hx⟩,hf⟩
 refine ⟨hr,?_⟩
 obtain ⟨h1,h2,h30⟩ := @Fin.os ⟨True⟩ _ _ _ _ hf
 have hfp := @Fin.Ba ⟨True⟩ _ _ _ _ hf
 have hfs := @Fin.sat ⟨True⟩ _ _ _ _ hf
 have hfg := @Fin.grow ⟨True⟩ _ _ _ _ hf
 have hfo := @Fin.out ⟨True⟩ _ _ _ _ hf
 obtain ⟨q,h3⟩ := h30 trivial
 refine ⟨q,w'.heap.extract w.heap.size w'.heap.size,?_⟩
 have hh : w'.heap = w.heap ++ w'.heap.extract w.heap.size w'.heap.size := by
   apply Array.ext_getElem?
   intro i
   rw [Array.getElem?_append]
   split
   · rename_i hi
     cases hσ : σ0 i with
     | none => exact (hfp i ⟨hi,hσ⟩).2
     | some o => exact (hfs i o (hx i o hσ)).trans (hs i o hσ).symm
   · rename_i hi
     rw [Array.getElem?_extract]
     have := hfg
     split
     · congr 1; omega
     · rename_i h2
       exact Array.getElem?_eq_none (by omega)
 cases w with
 | mk heap tape drawn os output =>
   cases w' with
   | mk ARA ARB ANr os' AJv =>
     have h4 := hfo
     simp only at h1 h2 h3 h4 hh ⊢
     subst h1 h2 h3 h4
     rw [← hh]
theorem TC {α : Type} {enc : α → List Value} {k : Nat} (hk : ∀ x,(enc x).length = k) (h0 : 0 < k) : ∀ (xs : List α) (j : Nat),(xs.flatMap enc)[j]? = (xs[j / k]?).bind fun x => (enc x)[j % k]?
 | [],j => by simp
 | x :: xs,j => by
   rw [List.flatMap_cons,List.getElem?_append,hk]
   by_cases hj : j < k
   · rw [if_pos hj,Nat.div_eq_of_lt hj,Nat.mod_eq_of_lt hj]; simp
   · rw [if_neg hj,TC hk h0 xs,show j / k = (j - k) / k + 1 by rw [← Nat.add_div_right _ h0]; congr 1; omega,show (j - k) % k = j % k by rw [Nat.mod_eq_sub_mod (by omega : j ≥ k)]]
     simp
theorem O0 {α : Type} {enc : α → List Value} {k : Nat} (hk : ∀ x,(enc x).length = k) : ∀ (xs : List α),(xs.flatMap enc).length = xs.length * k
 | [] => by simp
 | x :: xs => by rw [List.flatMap_cons,List.length_append,O0 hk xs,hk,List.length_cons,Nat.add_mul]; omega
theorem VA {α : Type} [Inhabited α] {enc : α → List Value} (hk : ∀ x,(enc x).length = 2) (d : List α) (j : Nat) (hj : j < d.length * 2) : (d.flatMap enc)[j]? = some (Sort.flatK enc 2 d.toArray)[j]! := by
 rw [TC (k := 2) hk (by decide),Sort.get_flatK _ _ _ _ (by simpa using hj)]
 have An : j / 2 < d.length := by omega
 rw [List.getElem?_eq_getElem An]
 have h2 : j % 2 < (enc d[j / 2]).length := by rw [hk]; exact Nat.mod_lt _ (by decide)
 simp only [Option.bind_some]
 rw [List.getElem?_eq_getElem h2]
 have e1 : d.toArray[j / 2]! = d[j / 2] := by simp [An]
 rw [e1,getElem!_pos (enc d[j / 2]) (j % 2) h2]
theorem WQ (F arr : Array Value) (o j : Nat) : (Sort.putCells id o F arr)[j]? = if o ≤ j ∧ j < o + F.size then (arr[j]?).map fun _ => F[j - o]! else arr[j]? := by
 simp only [Sort.putCells,Array.getElem?_mapIdx,id]
 by_cases h : o ≤ j ∧ j < o + F.size
 · rw [if_pos h]; simp [h]
 · rw [if_neg h]
   cases arr[j]? with
   | none => rfl
   | some v => simp only [Option.map_some]; rw [if_neg h]
section
variable {σ : Hp} {R : Rr}
theorem fN {ρ : Go.Shelf.Ren} (L : Go.Proofs.SlLaysF0.n6 prog ρ) (aE : ∀ w,(isAgg (ρ.t 24)).run prog w = .ok true w) (zE : ∀ w,(Go.sizeOf (ρ.t 24)).run prog w = .ok 2 w) {α : Type} [Inhabited α] {enc : α → List Value} (hk : ∀ x,(enc x).length = 2) (h1 : ∀ x,∀ v ∈ enc x,v.oneCell' = true) {cf : α → α → Int} (hO : Sort.SWO (Proofs.ltOf cf)) {g : Nat}
   (eg : ∀ args w,(callFunc g args).run prog w = .ok (.enter g args) w) {b o m d : Nat} {ds : List α} (ho : A9 2 σ (some ⟨b,o,none⟩) m d (ds.flatMap enc)) (hm : ds.length = m) (hm0 : m ≠ 0) (Hr : m < 4611686018427387904)
   (uE : ∀ w,Sat (σ.del (some ⟨b,o,none⟩)) w → ∀ x y,Calls prog g #[.agg (enc x).toArray,.agg (enc y).toArray] w fun e w' => e = .returned (.int .i64 (cf x y)) ∧ ∃ n os,w' = Sort.grow (w.drewN n) os)
   (h : ∀ (σ' : Hp) (ds' : List α),ds'.Perm ds → ds'.Pairwise (fun x y => Proofs.ltOf cf y x = false) → A9 2 σ' (some ⟨b,o,none⟩) m d (ds'.flatMap enc) → Ext (σ.del (some ⟨b,o,none⟩)) (σ'.del (some ⟨b,o,none⟩)) → R (.returned (.tuple #[])) σ') :
   Spec prog (ρ.f 6) #[.slice (some ⟨b,o,none⟩) m d,.func (.func g) #[] #[]] σ R := by
 intro w F hs hF
 obtain ⟨arr,T,hb,hw,uV,rq,M1⟩ : ∃ arr T,σ b = some (.cells arr T (0,0)) ∧ w.heap[b]? = some (.cells arr T (0,0)) ∧ m ≤ d ∧ o + d * 2 ≤ arr.size ∧ (arr.toList.drop o).take (m * 2) = ds.flatMap enc := by
   rcases ho.2.2 with ⟨h1,h2,_⟩ | ⟨b',o',arr,T,hp,hb,uV,Hr,M1⟩
   · exact absurd h2 hm0
   · cases hp
     exact ⟨arr,T,hb,hs _ _ hb,uV,Hr,M1⟩
 have AHy : ∀ j,j < m * 2 → arr[o + j]? = some (Sort.flatK enc 2 ds.toArray)[j]! := fun j hj => by
   rw [← VA hk ds j (by omega),← M1,List.getElem?_take,if_pos hj,List.getElem?_drop,Array.getElem?_toList]
 have hH : Sort.HoldsK enc 2 w b o ds.toArray := fun j hj => by
   have Qv : j < m * 2 := by simpa [hm] using hj
   refine ⟨?_,by simp [World.frozen?,hw]⟩
   simp only [World.cell?,hw,id]
   simpa using AHy j Qv
 have hblk : b < w.heap.size := (Array.getElem?_eq_some_iff.1 hw).1
 have M5 : ∀ (n : Nat) (dk : Array α) (os : Array Obj) k,(Proofs.sortWorldK enc 2 w b o n dk os).heap[k]? = if k < w.heap.size then (if b = k then (w.heap[k]?).map (Sort.onCells (Sort.putCells id o (Sort.flatK enc 2 dk))) else w.heap[k]?) else os[k - w.heap.size]? := fun n dk os k => by
   simp only [Proofs.sortWorldK,Sort.grow,Sort.putRowK,Sort.putRow,Sort.mapBlock,Sort.ahead,Array.getElem?_append,Array.size_modify,Array.getElem?_modify]
 have hcm : Proofs.CmpLays prog g #[] enc 2 cf b o ds.toArray.size w := fun n os dk _ x y => uE _ (fun k u hk => by
   obtain ⟨HQ,hku⟩ := AR.1 hk
   have ANt : b ≠ k := fun e => HQ _ rfl e.symm
   have := hs k u hku
   rw [M5,if_pos (Array.getElem?_eq_some_iff.1 this).1,if_neg ANt]; exact this) x y
 have AHz := Proofs.AnyQ.slices_SortFunc L 2 aE zE enc hk h1 cf hO g #[] b o d ds.toArray w eg hcm hH hblk (by simpa [hm] using Hr)
 rw [show ds.toArray.size = m by simpa using hm] at AHz
 refine AHz.mono ?_
 rintro e w' ⟨rfl,d',n,os,AH0,AH1,rfl⟩
 obtain ⟨hp1,_,hp3⟩ := AH0
 have hd' : d'.size = m := by rw [hp1]; simpa using hm
 have hP : d'.toList.Perm ds := by
   rw [show m = d'.size from hd'.symm] at hp3
   rw [Array.extract_size] at hp3
   rw [show d'.size = ds.toArray.size from hp1,Array.extract_size] at hp3
   exact hp3
 have Wk : d'.toList.length = m := by simpa using hd'
 have hF2 : (Sort.flatK enc 2 d').size = m * 2 := by simp [hd']
 have ra : d'.toList.Pairwise (fun x y => Proofs.ltOf cf y x = false) := List.pairwise_iff_getElem.2 fun i j hi hj OM => by
   have Qv : j < d'.size := by simpa using hj
   have BN : i < d'.size := by simpa using hi
   have := AH1 i j (Nat.zero_le _) OM (by omega)
   rw [getElem!_pos d' j Qv,getElem!_pos d' i BN] at this
   simpa using this
 have bB : ((Sort.putCells id o (Sort.flatK enc 2 d') arr).toList.drop o).take (m * 2) = d'.toList.flatMap enc := by
   refine List.ext_getElem? fun j => ?_
   rw [List.getElem?_take]
   by_cases hj : j < m * 2
   · have := VA hk d'.toList j (by omega)
     rw [if_pos hj,List.getElem?_drop,Array.getElem?_toList,WQ,if_pos (by omega),this,AHy j hj]
     simp
   · rw [if_neg hj,List.getElem?_eq_none (by rw [O0 (k := 2) hk,Wk]; omega)]
 refine ⟨σ.set b (.cells (Sort.putCells id o (Sort.flatK enc 2 d') arr) T (0,0)),h _ d'.toList hP ra ⟨by rw [O0 (k := 2) hk,Wk],by have := ho.2.1; omega,.inr ⟨b,o,_,T,rfl,Hp.AB _ _ _,uV,by simpa [Sort.putCells] using rq,bB⟩⟩ (by rw [Hp.Ik]; exact Ext.refl _),?_⟩
 · refine ⟨fun k u hk => ?_,fun k hk => ?_,⟨rfl,rfl,fun _ => ⟨n,rfl⟩⟩,rfl,by simp [Proofs.sortWorldK,Sort.grow,Sort.putRowK,Sort.putRow,Sort.mapBlock,Sort.ahead]⟩
   · rw [M5]
     by_cases HQ : k = b
     · subst HQ
       rw [Hp.AB] at hk; cases hk
       rw [if_pos hblk,if_pos rfl,hw]; rfl
     · rw [Hp.AI HQ] at hk
       have := hs k u hk
       rw [if_pos (Array.getElem?_eq_some_iff.1 this).1,if_neg (Ne.symm HQ)]; exact this
   · have HQ : k ≠ b := fun e => by have := (hF k hk).2; rw [e,hb] at this; cases this
     refine ⟨by rw [Hp.AI HQ]; exact (hF k hk).2,?_⟩
     rw [M5,if_pos (hF k hk).1,if_neg (Ne.symm HQ)]
end
end TwW
end
section
namespace Go.Proofs
open Go.Shelf
def Tryz.TD : Go.Shelf.Ren := ⟨fun | 6 => 195 | 15 => 74 | 14 => 227 | 28 => 117 | 29 => 118 | 20 => 242 | 21 => 243 | 22 => 244 | 23 => 245 | 24 => 246 | 25 => 247 | 26 => 248 | 27 => 249 | 46 => 264 | 47 => 164 | 48 => 165 | 49 => 265 | 50 => 266 | 57 => 293 | n => n,fun | 22 => 67 | 24 => 71 | 25 => 234 | 3 => 3 | 39 => 141 | 0 => 0 | 53 => 168 | 55 => 48 | 4 => 4 | 46 => 162 | 45 => 161 | 50 => 102 | 5 => 5 | 9 => 9 | 66 => 207 | 70 => 211 | 76 => 248 | 77 => 249 | n => n,fun | n => n⟩
theorem Tryz.pL : Go.Proofs.SlLaysF0.n6 Tryz.prog Tryz.TD := {
 mixed := by kernel_rfl
 f6 := ⟨Tryz.f195.name,by decide,Tryz.func195.trans (congrArg some (by kernel_rfl))⟩
 f14 := ⟨Tryz.f227.name,by decide,Tryz.func227.trans (congrArg some (by kernel_rfl))⟩
 f15 := Tryz.func74.trans (congrArg some (by kernel_rfl))
 f20 := ⟨Tryz.f242.name,by decide,Tryz.func242.trans (congrArg some (by kernel_rfl))⟩
 f21 := ⟨Tryz.f243.name,by decide,Tryz.func243.trans (congrArg some (by kernel_rfl))⟩
 f22 := ⟨Tryz.f244.name,by decide,Tryz.func244.trans (congrArg some (by kernel_rfl))⟩
 f23 := ⟨Tryz.f245.name,by decide,Tryz.func245.trans (congrArg some (by kernel_rfl))⟩
 f24 := ⟨Tryz.f246.name,by decide,Tryz.func246.trans (congrArg some (by kernel_rfl))⟩
 f25 := ⟨Tryz.f247.name,by decide,Tryz.func247.trans (congrArg some (by kernel_rfl))⟩
 f26 := ⟨Tryz.f248.name,by decide,Tryz.func248.trans (congrArg some (by kernel_rfl))⟩
 f27 := ⟨Tryz.f249.name,by decide,Tryz.func249.trans (congrArg some (by kernel_rfl))⟩
 f28 := Tryz.func117.trans (congrArg some (by kernel_rfl))
 f29 := Tryz.func118.trans (congrArg some (by kernel_rfl))
 f46 := ⟨Tryz.f264.name,by decide,Tryz.func264.trans (congrArg some (by kernel_rfl))⟩
 f47 := Tryz.func164.trans (congrArg some (by kernel_rfl))
 f48 := Tryz.func165.trans (congrArg some (by kernel_rfl))
 f49 := ⟨Tryz.f265.name,by decide,Tryz.func265.trans (congrArg some (by kernel_rfl))⟩
 f50 := ⟨Tryz.f266.name,by decide,Tryz.func266.trans (congrArg some (by kernel_rfl))⟩
 f57 := ⟨Tryz.f293.name,by decide,Tryz.func293.trans (congrArg some (by kernel_rfl))⟩
 t0 := Tryz.underlying0
 a0 := Tryz.isAgg0
 z0 := Tryz.sizeOf0
 v0 := Tryz.zeroValue0
 t3 := Tryz.underlying3
 a3 := Tryz.isAgg3
 z3 := Tryz.sizeOf3
 v3 := Tryz.zeroValue3
 t4 := Tryz.underlying4
 a4 := Tryz.isAgg4
 z4 := Tryz.sizeOf4
 v4 := Tryz.zeroValue4
 t5 := Tryz.underlying5
 a5 := Tryz.isAgg5
 z5 := Tryz.sizeOf5
 v5 := Tryz.zeroValue5
 t9 := Tryz.underlying9
 a9 := Tryz.isAgg9
 z9 := Tryz.sizeOf9
 v9 := Tryz.zeroValue9
 t22 := Tryz.underlying67
 a22 := Tryz.isAgg67
 z22 := Tryz.sizeOf67
 v22 := Tryz.zeroValue67
 t25 := Tryz.underlying234
 a25 := Tryz.isAgg234
 z25 := Tryz.sizeOf234
 v25 := Tryz.zeroValue234
 t39 := Tryz.underlying141
 a39 := Tryz.isAgg141
 z39 := Tryz.sizeOf141
 v39 := Tryz.zeroValue141
 t45 := Tryz.underlying161
 a45 := Tryz.isAgg161
 z45 := Tryz.sizeOf161
 v45 := Tryz.zeroValue161
 t46 := Tryz.underlying162
 a46 := Tryz.isAgg162
 z46 := Tryz.sizeOf162
 v46 := Tryz.zeroValue162
 t50 := Tryz.underlying102
 a50 := Tryz.isAgg102
 z50 := Tryz.sizeOf102
 v50 := Tryz.zeroValue102
 t53 := Tryz.underlying168
 a53 := Tryz.isAgg168
 z53 := Tryz.sizeOf168
 v53 := Tryz.zeroValue168
 t55 := Tryz.underlying48
 a55 := Tryz.isAgg48
 z55 := Tryz.sizeOf48
 v55 := Tryz.zeroValue48
 t66 := Tryz.underlying207
 a66 := Tryz.isAgg207
 z66 := Tryz.sizeOf207
 v66 := Tryz.zeroValue207
 t70 := Tryz.underlying211
 a70 := Tryz.isAgg211
 z70 := Tryz.sizeOf211
 v70 := Tryz.zeroValue211
 t76 := Tryz.underlying248
 a76 := Tryz.isAgg248
 z76 := Tryz.sizeOf248
 v76 := Tryz.zeroValue248
 t77 := Tryz.underlying249
 a77 := Tryz.isAgg249
 z77 := Tryz.sizeOf249
 v77 := Tryz.zeroValue249 }
def Tryz.TE : Go.Shelf.Ren := ⟨fun | 6 => 50 | 15 => 74 | 14 => 73 | 28 => 117 | 29 => 118 | 20 => 109 | 21 => 110 | 22 => 111 | 23 => 112 | 24 => 113 | 25 => 114 | 26 => 115 | 27 => 116 | 46 => 163 | 47 => 164 | 48 => 165 | 49 => 166 | 50 => 167 | 57 => 208 | n => n,fun | 22 => 23 | 24 => 40 | 25 => 106 | 3 => 3 | 39 => 141 | 0 => 0 | 53 => 168 | 55 => 48 | 4 => 4 | 46 => 162 | 45 => 161 | 50 => 102 | 5 => 5 | 9 => 9 | 66 => 207 | 70 => 211 | 76 => 248 | 77 => 249 | n => n,fun | n => n⟩
theorem Tryz.ABY : Go.Proofs.SlLaysF0.n6 Tryz.prog Tryz.TE := {
 mixed := by kernel_rfl
 f6 := ⟨Tryz.f50.name,by decide,Tryz.func50.trans (congrArg some (by kernel_rfl))⟩
 f14 := ⟨Tryz.f73.name,by decide,Tryz.func73.trans (congrArg some (by kernel_rfl))⟩
 f15 := Tryz.func74.trans (congrArg some (by kernel_rfl))
 f20 := ⟨Tryz.f109.name,by decide,Tryz.func109.trans (congrArg some (by kernel_rfl))⟩
 f21 := ⟨Tryz.f110.name,by decide,Tryz.func110.trans (congrArg some (by kernel_rfl))⟩
 f22 := ⟨Tryz.f111.name,by decide,Tryz.func111.trans (congrArg some (by kernel_rfl))⟩
 f23 := ⟨Tryz.f112.name,by decide,Tryz.func112.trans (congrArg some (by kernel_rfl))⟩
 f24 := ⟨Tryz.f113.name,by decide,Tryz.func113.trans (congrArg some (by kernel_rfl))⟩
 f25 := ⟨Tryz.f114.name,by decide,Tryz.func114.trans (congrArg some (by kernel_rfl))⟩
 f26 := ⟨Tryz.f115.name,by decide,Tryz.func115.trans (congrArg some (by kernel_rfl))⟩
 f27 := ⟨Tryz.f116.name,by decide,Tryz.func116.trans (congrArg some (by kernel_rfl))⟩
 f28 := Tryz.func117.trans (congrArg some (by kernel_rfl))
 f29 := Tryz.func118.trans (congrArg some (by kernel_rfl))
 f46 := ⟨Tryz.f163.name,by decide,Tryz.func163.trans (congrArg some (by kernel_rfl))⟩
 f47 := Tryz.func164.trans (congrArg some (by kernel_rfl))
 f48 := Tryz.func165.trans (congrArg some (by kernel_rfl))
 f49 := ⟨Tryz.f166.name,by decide,Tryz.func166.trans (congrArg some (by kernel_rfl))⟩
 f50 := ⟨Tryz.f167.name,by decide,Tryz.func167.trans (congrArg some (by kernel_rfl))⟩
 f57 := ⟨Tryz.f208.name,by decide,Tryz.func208.trans (congrArg some (by kernel_rfl))⟩
 t0 := Tryz.underlying0
 a0 := Tryz.isAgg0
 z0 := Tryz.sizeOf0
 v0 := Tryz.zeroValue0
 t3 := Tryz.underlying3
 a3 := Tryz.isAgg3
 z3 := Tryz.sizeOf3
 v3 := Tryz.zeroValue3
 t4 := Tryz.underlying4
 a4 := Tryz.isAgg4
 z4 := Tryz.sizeOf4
 v4 := Tryz.zeroValue4
 t5 := Tryz.underlying5
 a5 := Tryz.isAgg5
 z5 := Tryz.sizeOf5
 v5 := Tryz.zeroValue5
 t9 := Tryz.underlying9
 a9 := Tryz.isAgg9
 z9 := Tryz.sizeOf9
 v9 := Tryz.zeroValue9
 t22 := Tryz.underlying23
 a22 := Tryz.isAgg23
 z22 := Tryz.sizeOf23
 v22 := Tryz.zeroValue23
 t25 := Tryz.underlying106
 a25 := Tryz.isAgg106
 z25 := Tryz.sizeOf106
 v25 := Tryz.zeroValue106
 t39 := Tryz.underlying141
 a39 := Tryz.isAgg141
 z39 := Tryz.sizeOf141
 v39 := Tryz.zeroValue141
 t45 := Tryz.underlying161
 a45 := Tryz.isAgg161
 z45 := Tryz.sizeOf161
 v45 := Tryz.zeroValue161
 t46 := Tryz.underlying162
 a46 := Tryz.isAgg162
 z46 := Tryz.sizeOf162
 v46 := Tryz.zeroValue162
 t50 := Tryz.underlying102
 a50 := Tryz.isAgg102
 z50 := Tryz.sizeOf102
 v50 := Tryz.zeroValue102
 t53 := Tryz.underlying168
 a53 := Tryz.isAgg168
 z53 := Tryz.sizeOf168
 v53 := Tryz.zeroValue168
 t55 := Tryz.underlying48
 a55 := Tryz.isAgg48
 z55 := Tryz.sizeOf48
 v55 := Tryz.zeroValue48
 t66 := Tryz.underlying207
 a66 := Tryz.isAgg207
 z66 := Tryz.sizeOf207
 v66 := Tryz.zeroValue207
 t70 := Tryz.underlying211
 a70 := Tryz.isAgg211
 z70 := Tryz.sizeOf211
 v70 := Tryz.zeroValue211
 t76 := Tryz.underlying248
 a76 := Tryz.isAgg248
 z76 := Tryz.sizeOf248
 v76 := Tryz.zeroValue248
 t77 := Tryz.underlying249
 a77 := Tryz.isAgg249
 z77 := Tryz.sizeOf249
 v77 := Tryz.zeroValue249 }
end Go.Proofs
end
section
namespace TwW
open Go Tw Go.RowKit Go.Proofs.Tryz
section
variable {σ σ' σ0 : Hp} {R : Rr}
theorem ANu {α : Type} {f : α → List Lb} : Sort.SWO (Proofs.ltOf fun x y => CY (f x) (f y)) where
 irrefl x := by
   have h1 : CY (f x) (f x) = 0 := (A4.eq _ _).2 rfl
   exact decide_eq_false (by show ¬ CY (f x) (f x) < 0; omega)
 trans x y z h1 h2 := by
   unfold Proofs.ltOf at *
   exact decide_eq_true (A4.trans _ _ _ (of_decide_eq_true h1) (of_decide_eq_true h2))
 ntrans x y z h1 h2 := by
   unfold Proofs.ltOf at *
   have h1 := of_decide_eq_false h1
   have h2 := of_decide_eq_false h2
   dsimp only at h1 h2
   refine decide_eq_false fun h3 => ?_
   dsimp only at h3
   rcases Int.lt_trichotomy (CY (f x) (f y)) 0 with h | h | h
   · exact h1 h
   · rw [(A4.eq _ _).1 h] at h3; exact h2 h3
   · have h4 := (A4.WE _ _).2 h
     exact h2 (A4.trans _ _ _ h4 h3)
theorem pP {cs : List Value} {m : Nat} (h : cs.length = m * 2) : (List.finRange m).flatMap (fun i => (cs.drop (i.1 * 2)).take 2) = cs := by
 have hk : ∀ i : Fin m,((cs.drop (i.1 * 2)).take 2).length = 2 := fun i => by
   have := i.2
   rw [List.length_take,List.length_drop]; omega
 refine List.ext_getElem? fun j => ?_
 rw [TC hk (by decide)]
 by_cases hj : j < m * 2
 · have An : j / 2 < m := by omega
   rw [List.getElem?_eq_getElem (by rw [List.length_finRange]; exact An)]
   simp only [List.getElem_finRange,Option.bind_some,Fin.val_cast]
   rw [List.getElem?_take,if_pos (Nat.mod_lt _ (by decide)),List.getElem?_drop]
   congr 1
   omega
 · rw [List.getElem?_eq_none (by rw [List.length_finRange]; omega),List.getElem?_eq_none (by omega)]; rfl
theorem fO {α : Type} {enc : α → List Value} (hk : ∀ x,(enc x).length = 2) : ∀ (xs : List α) (i : Nat) (x : α),xs[i]? = some x → ((xs.flatMap enc).drop (i * 2)).take 2 = enc x
 | [],i,x,h => by simp at h
 | a :: xs,0,x,h => by
   simp only [List.getElem?_cons_zero,Option.some.injEq] at h
   subst h
   rw [List.flatMap_cons,Nat.zero_mul,List.drop_zero,← hk a,List.take_left]
 | a :: xs,i + 1,x,h => by
   rw [List.flatMap_cons,show (i + 1) * 2 = (enc a).length + i * 2 by rw [hk]; omega,List.drop_append]
   simp only [Nat.add_sub_cancel_left,List.drop_eq_nil_of_le (Nat.le_add_right _ _),List.nil_append]
   exact fO hk xs i x (by simpa using h)
theorem uX {α : Type} (l : List α) {n : Nat} (hn : l.length = n) : (List.finRange n).map (fun i => l[i.1]'(by rw [hn]; exact i.2)) = l := by
 subst hn
 refine List.ext_getElem (by simp) fun i h1 h2 => ?_
 simp
theorem iz {l : List El} (h : ∀ i a b,l[i]? = some a → l[i + 1]? = some b → CY a.ls b.ls < 0) : l.Pairwise fun a b => CY a.ls b.ls < 0 := by
 rw [List.pairwise_iff_getElem]
 intro i j hi hj OM
 induction j with
 | zero => omega
 | succ j ih =>
   have hs := h j l[j] l[j + 1] (List.getElem?_eq_getElem _) (List.getElem?_eq_getElem _)
   by_cases he : i = j
   · subst he; exact hs
   · exact A4.trans _ _ _ (ih (by omega) (by omega)) hs
theorem pQ : Bu FF [] = some [] := by unfold Bu; rw [if_pos List.Pairwise.nil]; rfl
theorem EJ {p : Option Addr} {n c : Nat} {l : List El} (ho : AY 2 Bt σ0 σ p n c l) (hn : n ≤ 1000000000000) (h : IW R σ0 ((Bu FF l).map fun l => ⟨2,0,l,[]⟩)) : Spec prog 148 #[.slice p n c] σ R := by
 have iq := ho.up
 obtain ⟨⟨hl,cs,Ww,hc⟩,hx⟩ := ho
 refine EH.start fun _ => ?_
 by_cases h0 : n = 0
 · subst h0
   have tw : l = [] := List.length_eq_zero_iff.1 hl
   subst tw
   rw [pQ] at h
   refine Spec.same (v := .tuple #[]) (fun w _ => Go.Proofs.AnyF.slices_SortFunc_none Go.Proofs.Tryz.pL p c _ w) ⟨rfl,EH.A5 ⟨fun An => by omega,fun _ => ?_⟩⟩
   exact h.ok _ σ p 0 c none 0 0 rfl iq Ad.nil Ad.nil (Nat.zero_le _) (Nat.le_refl _)
 obtain ⟨b,o,rfl⟩ : ∃ b o,p = some ⟨b,o,none⟩ := by
   rcases Ww.2.2 with ⟨_,h2,_⟩ | ⟨b,o,_,_,hp,_⟩
   · exact absurd h2 h0
   · exact ⟨b,o,hp⟩
 have bB : cs.length = n * 2 := Ww.1
 let enc : Fin n → List Value := fun i => (cs.drop (i.1 * 2)).take 2
 let at_ : Fin n → El := fun i => l[i.1]'(by rw [hl]; exact i.2)
 have hE : ∀ i : Fin n,Bt (σ.del (some ⟨b,o,none⟩)) (enc i) (at_ i) := fun i => hc.2 i.1 (at_ i) (List.getElem?_eq_getElem _)
 have hk : ∀ i,(enc i).length = 2 := fun i => by
   have := i.2
   show ((cs.drop (i.1 * 2)).take 2).length = 2
   rw [List.length_take,List.length_drop]; omega
 have xt : (List.finRange n).flatMap enc = cs := pP bB
 haveI : Inhabited (Fin n) := ⟨⟨0,by omega⟩⟩
 refine fN (ρ := Go.Proofs.Tryz.TD) Go.Proofs.Tryz.pL (fun w => by kernel_rfl) (fun w => by kernel_rfl) (α := Fin n) (enc := enc) hk (fun i => Bt.one _ _ _ (hE i)) (cf := fun i j => CY (at_ i).ls (at_ j).ls) ANu (g := 196) (fun args w => call196 args w) (b := b) (o := o) (ds := List.finRange n) (by rw [xt]; exact Ww) List.length_finRange h0 (by omega) (fun w hw i j => ?_) fun σ1 ds hp ra Bb I8 => ⟨rfl,?_⟩
 · obtain ⟨q1,m1,d1,hv1,GI⟩ := hE i
   obtain ⟨q2,m2,d2,hv2,HC⟩ := hE j
   rw [hv1,hv2]
   exact Spec.pK (R := fun e => e = .returned (.int .i64 (CY (at_ i).ls (at_ j).ls))) (@ix _ _ ⟨True⟩ _ _ _ _ _ _ _ _ _ _ GI HC fun σ' T3 => ⟨rfl,T3⟩) hw
 let l2 : List El := ds.map at_
 have hp2 : l2.Perm l := by
   have := hp.map at_
   rwa [uX l hl] at this
 have ZP : l2.length = n := hp2.length_eq.trans hl
 have hdl : ds.length = n := by have h9 : (ds.map at_).length = n := ZP; rwa [List.length_map] at h9
 have hO : AY 2 Bt σ0 σ1 (some ⟨b,o,none⟩) n c l2 := by
   refine ⟨⟨ZP,_,Bb,?_,fun i x hi => ?_⟩,hx.trans I8⟩
   · rw [Bb.1,ZP]
   · have BN : (ds.map at_)[i]? = some x := hi
     rw [List.getElem?_map] at BN
     cases hd : ds[i]? with
     | none => rw [hd] at BN; cases BN
     | some k =>
       rw [hd] at BN
       simp only [Option.map_some,Option.some.injEq] at BN
       rw [fO hk ds i k hd,← BN]
       exact Bt.mono _ _ _ _ I8 (hE k)
 have hle : ∀ i a b',l2[i]? = some a → l2[i + 1]? = some b' → ¬ CY b'.ls a.ls < 0 := fun i a b' ha hb => by
   have hq : l2.Pairwise (fun a b' => ¬ CY b'.ls a.ls < 0) := by
     refine List.pairwise_map.2 (ra.imp fun {x y} Y3 => ?_)
     exact of_decide_eq_false Y3
   obtain ⟨h1,rfl⟩ := List.getElem?_eq_some_iff.1 ha
   obtain ⟨h2,rfl⟩ := List.getElem?_eq_some_iff.1 hb
   exact List.pairwise_iff_getElem.1 hq i (i + 1) h1 h2 (by omega)
 clear_value l2
 clear Bb ra hp xt hE hk hdl
 suffices H : ∀ g k : Nat,∀ σ',n - k = g → 1 ≤ k → k ≤ n → AY 2 Bt σ0 σ' (some ⟨b,o,none⟩) n c l2 → (∀ i a b',i + 1 < k → l2[i]? = some a → l2[i + 1]? = some b' → CY a.ls b'.ls < 0) → EH.Bk R (some ⟨b,o,none⟩) n c 0 0 none 0 0 none 0 0 k σ' from H (n - 1) 1 σ1 rfl (Nat.le_refl _) (by omega) hO (fun i a b' hi => by omega)
 intro g
 induction g with
 | zero =>
   intro k σ' hg h1 dW hO' An
   have hr : Bu FF l = some l2 := iL rfl hp2 (iz fun i a b' ha hb => An i a b' (by have := (List.getElem?_eq_some_iff.1 hb).1; omega) ha hb)
   rw [hr] at h
   exact EH.A5 ⟨fun An => by omega,fun _ => h.ok _ σ' _ n c none 0 0 rfl hO'.up (hO'.rd Bt.mono) Ad.nil (by obtain ⟨cs',ANv,_⟩ := hO'.1.2; exact A9.cap ANv) (Nat.le_refl _)⟩
 | succ g ih =>
   intro k σ' hg h1 dW hO' An
   have hr := hO'.rd Bt.mono
   obtain ⟨y,hy⟩ := hr.ex (k := k) (by omega)
   obtain ⟨x,T3⟩ := hr.ex (k := k - 1) (by omega)
   obtain ⟨_,_,q1,m1,d1,Wx,Pu,GI⟩ := Bt.at hr T3
   cases Wx
   obtain ⟨_,_,q2,m2,d2,rZ,ABa,HC⟩ := Bt.at hr hy
   cases rZ
   have e1 : Int.toNat ((k : Int) - 1) = k - 1 := by omega
   refine EH.A5 ⟨fun _ => ⟨by unfold AN; omega,b,o,rfl,by omega,q1,m1,d1,by rw [e1]; exact Pu.1,by omega,q2,m2,d2,by simpa using ABa.1,Lh GI HC fun σ2 A7 => ⟨_,rfl,fun hz => ?_,fun hnz => ⟨by unfold AN; omega,?_⟩⟩⟩,fun hh => by omega⟩
   · refine h.no ?_ σ2 (hO'.up.trans A7)
     have : Bu FF l = none := iM rfl hp2 fun ra => by
       obtain ⟨h3,rfl⟩ := List.getElem?_eq_some_iff.1 T3
       obtain ⟨h4,rfl⟩ := List.getElem?_eq_some_iff.1 hy
       exact List.pairwise_iff_getElem.1 ra (k - 1) k h3 h4 (by omega) hz
     rw [this]; rfl
   · have := ih (k + 1) σ2 (by omega) (by omega) (by omega) (hO'.mono Bt.mono A7) fun i a b' hi ha hb => by
       by_cases hik : i + 1 = k
       · rw [hik,hy] at hb; cases hb
         rw [show i = k - 1 by omega,T3] at ha; cases ha
         have h5 := hle (k - 1) _ _ T3 (by rw [show k - 1 + 1 = k by omega]; exact hy)
         have h6 := (A4.WE x.ls y.ls)
         have h7 := (A4.WE y.ls x.ls)
         omega
       · exact An i a b' (by omega) ha hb
     exact_mod_cast this
end
end TwW
end
section
namespace TwW
open Go Tw Go.RowKit Go.Proofs.Tryz
structure jA (x : Vv) : Prop where
 el : ∀ e ∈ x.vec,Aq e.ls ∧ 0 ≤ e.v
 rg : ∀ r ∈ x.OT,Aq r.ls ∧ 0 < r.vs.length
 len : x.vec.length + x.OT.length ≤ 100000000000
theorem Aq.rd {σ : Hp} {p : Option Addr} {n : Nat} {ls : List Lb} (h : Aq ls) (hr : E9 σ p n ls) : n ≤ 1000000 := by
 have h1 := h.1
 have h2 : ls.length = n := hr.1
 omega
theorem uY : ∀ w,(zeroValue 190).run prog w = .ok .nilFunc w := fun w => by
 have h : prog.info? 190 = some t190 := by kernel_rfl
 simp [zeroValue,typeInfo,h]
 rfl
section
variable {σ σ' σ0 : Hp} {R : Rr}
theorem Mo.at {p2 : Option Addr} {n2 i : Nat} {l : List Vv} {x : Vv} (hr : Ad 4 Mo σ p2 n2 l) (hx : l[i]? = some x) : ∃ b o p n c q m d,p2 = some ⟨b,o,none⟩ ∧ σ.ld ⟨b,o + i * 4,none⟩ = some (.int .i64 x.kind) ∧ σ.ld ⟨b,o + i * 4 + 1,none⟩ = some (.int .u64 x.v) ∧ σ.ld ⟨b,o + i * 4 + 2,none⟩ = some (.slice p n c) ∧ σ.ld ⟨b,o + i * 4 + 3,none⟩ = some (.slice q m d) ∧ Ad 2 Bt σ p n x.vec ∧ Ad 2 Su σ q m x.OT := by
 obtain ⟨b,o,vs,hp,⟨p,n,c,q,m,d,rfl,h1,h2⟩,hl⟩ := Ad.idx hr hx
 exact ⟨b,o,p,n,c,q,m,d,hp,hl.1,hl.2.1,hl.2.2.1,hl.2.2.2.1,h1,h2⟩
theorem Su.at {p : Option Addr} {n i : Nat} {l : List Rg} {x : Rg} (hr : Ad 2 Su σ p n l) (hx : l[i]? = some x) : ∃ b o q m d q2 m2 d2,p = some ⟨b,o,none⟩ ∧ Au σ b (o + i * 2) [.slice q m d,.slice q2 m2 d2] ∧ E9 σ q m x.ls ∧ E7 .u64 σ q2 m2 x.vs ∧ m2 ≤ d2 := by
 obtain ⟨b,o,vs,hp,⟨q,m,d,q2,m2,d2,rfl,h1,h2,h3⟩,hl⟩ := Ad.idx hr hx
 exact ⟨b,o,q,m,d,q2,m2,d2,hp,hl,h1,h2,h3⟩
theorem AY.el {p : Option Addr} {n c : Nat} {xs : List El} {q : Option Addr} {m d : Nat} {ls : List Lb} {v : Int} {ty : TypeId} {Φ : Value → Hp → Prop} (ho : AY 2 Bt σ0 σ p n c xs) (hr : E9 (σ.del p) q m ls) (hn : n ≤ 1000000000000)
   (hΦ : ∀ p' c' σ',AY 2 Bt σ0 σ' p' (n + 1) c' (xs ++ [⟨ls,v⟩]) → Ext (σ.del p) (σ'.del p') → Φ (.slice p' (n + 1) c') σ') {b : Nat} (hb : σ b = none) :
   AJ prog (Builtin.append_ #[67,67] ty #[.slice p n c,.slice (some ⟨b,0,none⟩) 1 1]) (σ.set b (.cells #[.slice q m d,.int .u64 v] 71 (0,0))) Φ := by
 have he : Bt (σ.del p) [.slice q m d,.int .u64 v] ⟨ls,v⟩ := ⟨q,m,d,rfl,hr⟩
 exact AY.Jn Bt.mono ho rfl (Bt.one _ _ _ he) he (by omega) hΦ hb
theorem pR {n : Nd} {p q a l : Option Addr} {k c m d j e : Nat} {L : List Vv} {x : Vv} (hr : Ad 4 Mo σ l j L) (hx : L[0]? = some x) (hV : jA x) (h : IW R σ (oV FF x)) : Spec prog 106 #[.pointer a,Ly n p k c q m d,.slice l j e] σ R := by
 have hj : 0 < j := by have h1 : L.length = j := hr.1; have := (List.getElem?_eq_some_iff.1 hx).1; omega
 obtain ⟨b,o,pv,nv,cv,qv,mv,dv,rfl,h1,h2,h3,h4,h5,h6⟩ := Mo.at hr hx
 simp only [Nat.zero_mul,Nat.add_zero] at h1 h2 h3 h4
 refine BH.start fun _ _ => ⟨b,o,rfl,by omega,x.kind,h1,fun hk => ⟨by omega,x.v,h2,Pg ⟨_,rfl,?_⟩⟩,fun hk => ⟨by omega,pv,nv,cv,h3,?_⟩⟩
 · unfold oV at h; rw [if_pos hk] at h
   exact h.ok _ σ none 0 0 none 0 0 rfl (.refl _) Ad.nil Ad.nil (Nat.le_refl _) (Nat.le_refl _)
 unfold oV at h
 rw [if_neg hk] at h
 have hl : x.vec.length = nv := h5.1
 have hlen := hV.len
 suffices H : ∀ g i : Nat,∀ p8 n8 c8 σ',nv - i = g → i ≤ nv → AY 2 Bt σ σ' p8 n8 c8 ((x.vec.take i).map fun x => ⟨Dx x.ls,FF.oU x.v⟩) → BH.tR R 0 0 none 0 0 none 0 0 p8 n8 c8 pv nv cv nv i σ' from H nv 0 none 0 0 σ rfl (Nat.zero_le _) (AY.nil (.refl _))
 intro g
 induction g with
 | zero =>
   intro i p8 n8 c8 σ' hg hi ho
   rw [List.take_of_length_le (by omega)] at ho
   have Po := ho.1.1
   rw [List.length_map] at Po
   exact BH.eV ⟨fun An => by omega,fun _ => EJ ho (by omega) h.T9⟩
 | succ g ih =>
   intro i p8 n8 c8 σ' hg hi ho
   have BN : i < nv := by omega
   obtain ⟨y,hy⟩ := h5.ex BN
   obtain ⟨b1,o1,q1,m1,d1,rfl,Pu,GI⟩ := Bt.at h5 hy
   have Je := hV.el y (List.mem_of_getElem? hy)
   have Po := ho.1.1
   rw [List.length_map,List.length_take] at Po
   refine BH.eV ⟨fun _ => ⟨b1,o1,rfl,by omega,q1,m1,d1,y.v,by simpa using Pu.mono ho.up,fun _ => FP (GI.mono Bz.mono ho.up) (Je.1.rd GI) fun p' n' c' σ2 HC A7 => ⟨_,_,_,rfl,Pg ⟨_,rfl,fun rR ANw => ?_⟩⟩⟩,fun hh => by omega⟩
   refine AY.el (ho.mono Bt.mono A7) (HC.mono Bz.mono (ho.new A7)) (by omega) (fun p9 c9 σ3 FV _ => ⟨_,_,_,rfl,AK BN h5.big,ih (i + 1) _ _ _ _ (by omega) (by omega) ?_⟩) ANw
   rw [AZ hy,List.map_append]; exact FV
theorem jB {n : Nd} {p q a l : Option Addr} {k c m d j e : Nat} {L : List Vv} {x : Vv} (hr : Ad 4 Mo σ l j L) (hx : L[0]? = some x) (hV : jA x) (hv : x.vec ≠ [] → n.op = 11 ∨ n.op = 12) (hw : x.OT ≠ [] → 1 ≤ n.op ∧ n.op ≤ 10)
   (h : IW R σ ((Bu FF (Ux FF n x)).map fun l => ⟨2,0,l,[]⟩)) : Spec prog 103 #[.pointer a,Ly n p k c q m d,.slice l j e] σ R := by
 have hj : 0 < j := by have h1 : L.length = j := hr.1; have := (List.getElem?_eq_some_iff.1 hx).1; omega
 obtain ⟨b,o,pv,nv,cv,qv,mv,dv,rfl,h1,h2,h3,h4,h5,h6⟩ := Mo.at hr hx
 simp only [Nat.zero_mul,Nat.add_zero] at h1 h2 h3 h4
 have hl : x.vec.length = nv := h5.1
 have hlr : x.OT.length = mv := h6.1
 have hlen := hV.len
 refine AU.start fun _ _ => EI fun mb oy => ⟨mb,rfl,?_⟩
 have s0 := ox.fresh oy
 refine s0.put (by simp) fun σ1 s1 => s1.put (by simp) fun σ2 s2 => ?_
 have A7 := s2.1
 have hml := s2.2.2
 have cont : ∀ v21,(n.op = 11 → v21 = .func (.func 144) #[] #[]) → (n.op = 12 → v21 = .func (.func 145) #[] #[]) → ∃ v,v = v21 ∧ Pq (some ⟨b,o,none⟩) fun OB eF => In 0 (j : Int) ∧ LS σ2 OB (eF + 2) fun gy n25 hJ => AU.E6 R (aD OB eF) j e n.kind n.op n.text p k c n.width n.back n.EO q m d n.bool n.parts 0 0 none 0 0 none 0 0 none 0 0 v gy n25 hJ (n25 : Int) 0 σ2 := fun v21 ha hf => by
   refine ⟨v21,rfl,b,o,rfl,by omega,pv,nv,cv,A7.ld h3,?_⟩
   let g1 : El → El := fun x => ⟨Dx x.ls,if n.op = 11 then FF.abs x.v else FF.floor x.v⟩
   let g2 : Rg → Option El := fun s => (FF.over n.op s.vs x.v).map fun v => ⟨Dx s.ls,v⟩
   have hc : Ux FF n x = x.vec.map g1 ++ x.OT.filterMap g2 := rfl
   rw [hc] at h
   have second : ∀ g i : Nat,∀ fb p8 n8 c8 σ',mv - i = g → i ≤ mv → TA (σ'.del p8) fb → AY 2 Bt σ σ' p8 n8 c8 (x.vec.map g1 ++ (x.OT.take i).filterMap g2) → AU.FJ R (aD b o) j e n.kind n.op n.text p k c n.width n.back n.EO q m d n.bool n.parts 0 0 none 0 0 none 0 0 p8 n8 c8 (aD fb 0) 11 11 qv mv dv mv i σ' := by
     intro g
     induction g with
     | zero =>
       intro i fb p8 n8 c8 σ' hg hi hF ho
       rw [List.take_of_length_le (by omega)] at ho
       have Po := ho.1.1
       rw [List.length_append,List.length_map] at Po
       have h9 := List.length_filterMap_le g2 x.OT
       exact AU.FX ⟨fun An => by omega,fun _ => EJ ho (by omega) h.T9⟩
     | succ g ih =>
       intro i fb p8 n8 c8 σ' hg hi hF ho
       have BN : i < mv := by omega
       obtain ⟨y,hy⟩ := h6.ex BN
       obtain ⟨b1,o1,q1,m1,d1,q2,m2,d2,rfl,Pu,GI,HC,uV⟩ := Su.at h6 hy
       have Je := hV.rg y (List.mem_of_getElem? hy)
       have FU := hw fun e => by rw [e] at hlr; simp at hlr; omega
       have hlv : y.vs.length = m2 := HC.1
       have Po := ho.1.1
       rw [List.length_append,List.length_map] at Po
       have h9 := List.length_filterMap_le g2 (x.OT.take i)
       rw [List.length_take] at h9
       have next : ∀ p9 n9 c9 σ3,TA (σ3.del p9) fb → AY 2 Bt σ σ3 p9 n9 c9 (x.vec.map g1 ++ (x.OT.take i).filterMap g2 ++ (g2 y).toList) → AU.Lw R (aD b o) j e n.kind n.op n.text p k c n.width n.back n.EO q m d n.bool n.parts 0 0 none 0 0 none 0 0 p9 n9 c9 (aD fb 0) 11 11 (aD b1 o1) mv dv mv i σ3 := fun p9 n9 c9 σ3 hF3 FV =>
         AU.I7 ⟨AK BN h6.big,ih (i + 1) _ _ _ _ _ (by omega) (by omega) hF3 (by rw [Gn hy,← List.append_assoc]; exact FV)⟩
       refine AU.FX ⟨fun _ => ⟨b1,o1,rfl,by omega,q1,m1,d1,q2,m2,d2,by simpa using Pu.mono ho.up,fun _ => ⟨fb,0,rfl,by omega,iy (w := x.v) FU (hF.mono (Ext.Ij _ _)) (HC.mono ho.up) (by omega) uV hj (ho.up.ld h2) fun z ok σ3 hz Du => ⟨z,ok,rfl,fun D1 => ?_,fun D1 => next _ _ _ _ (hF.mono (Du.del _)) ?_⟩⟩⟩,fun hh => by omega⟩
       · have hz' : FF.over n.op y.vs x.v = some z := by
           rcases hz with ⟨h7,_⟩ | ⟨_,h8⟩
           · exact h7
           · rw [D1] at h8; cases h8
         refine FP (GI.mono Bz.mono (ho.up.trans Du)) (Je.1.rd GI) fun p' n' c' σ4 hr4 MP => ⟨_,_,_,rfl,fun b73 ABX => ?_⟩
         have FV := ho.mono Bt.mono Du
         refine AY.el (FV.mono Bt.mono MP) (hr4.mono Bz.mono (FV.new MP)) (by omega) (fun p9 c9 σ5 Pc Sn => ⟨_,_,_,rfl,next _ _ _ _ (hF.mono (((Du.trans MP).del _).trans Sn)) ?_⟩) ABX
         rw [show g2 y = some ⟨Dx y.ls,z⟩ by show (FF.over n.op y.vs x.v).map _ = _; rw [hz']; rfl]; exact Pc
       · have hz' : FF.over n.op y.vs x.v = none := by
           rcases hz with ⟨_,h8⟩ | ⟨h7,_⟩
           · rw [D1] at h8; cases h8
           · exact h7
         rw [show g2 y = none by show (FF.over n.op y.vs x.v).map _ = _; rw [hz']; rfl]
         simpa using ho.mono Bt.mono Du
   suffices H : ∀ g i : Nat,∀ p8 n8 c8 σ',nv - i = g → i ≤ nv → AY 2 Bt σ σ' p8 n8 c8 ((x.vec.take i).map g1) → AU.E6 R (aD b o) j e n.kind n.op n.text p k c n.width n.back n.EO q m d n.bool n.parts 0 0 none 0 0 none 0 0 p8 n8 c8 v21 pv nv cv nv i σ' from H nv 0 none 0 0 σ2 rfl (Nat.zero_le _) (AY.nil A7)
   intro g
   induction g with
   | zero =>
     intro i p8 n8 c8 σ' hg hi ho
     rw [List.take_of_length_le (by omega)] at ho
     refine AU.FY ⟨fun An => by omega,fun _ => TB fun fb σ3 hF Du => ⟨_,_,_,rfl,b,o,rfl,by omega,qv,mv,dv,(ho.up.trans Du).ld h4,second mv 0 fb p8 n8 c8 σ3 rfl (Nat.zero_le _) (hF.mono (ho.new Du)) (by simpa using ho.mono Bt.mono Du)⟩⟩
   | succ g ih =>
     intro i p8 n8 c8 σ' hg hi ho
     have BN : i < nv := by omega
     obtain ⟨y,hy⟩ := h5.ex BN
     obtain ⟨b1,o1,q1,m1,d1,rfl,Pu,GI⟩ := Bt.at h5 hy
     have Je := hV.el y (List.mem_of_getElem? hy)
     have Po := ho.1.1
     rw [List.length_map,List.length_take] at Po
     have FU := hv fun e => by rw [e] at hl; simp at hl; omega
     refine AU.FY ⟨fun _ => ⟨b1,o1,rfl,by omega,q1,m1,d1,y.v,by simpa using Pu.mono ho.up,fun _ => FP (GI.mono Bz.mono ho.up) (Je.1.rd GI) fun p' n' c' σ3 ZQ Du => ⟨_,_,_,rfl,?_⟩⟩,fun hh => by omega⟩
     have app : ∀ z,(g1 y).v = z → AA R (CI .u64 fun wv AF => Al AF fun Wo => AJ prog (Builtin.append_ #[67,67] 67 #[.slice p8 n8 c8,(.slice (aD Wo 0) 1 1)]) (Hp.set AF Wo (.cells #[.slice p' n' c',.int .u64 wv] 71 (0,0))) (CS fun v7 n41 jr AH => AN ((i : Int) + 1) ∧ AU.E6 R (aD b o) j e n.kind n.op n.text p k c n.width n.back n.EO q m d n.bool n.parts 0 0 none 0 0 none 0 0 v7 n41 jr v21 (aD b1 o1) nv cv nv ((i : Int) + 1) AH)) (.returned (.int .u64 z)) σ3 := fun z hz => by
       refine ⟨z,rfl,fun Wo jC => AY.el (ho.mono Bt.mono Du) (ZQ.mono Bz.mono (ho.new Du)) (by omega) (fun p9 c9 σ5 Pc Sn => ⟨_,_,_,rfl,AK BN h5.big,ih (i + 1) _ _ _ _ (by omega) (by omega) ?_⟩) jC⟩
       rw [AZ hy,List.map_append]
       have : g1 y = ⟨Dx y.ls,z⟩ := by rw [← hz]
       simpa [this] using Pc
     rcases FU with FU | FU
     · exact ⟨144,#[],#[],ha FU,NZ.en,oa Je.2 (app _ (by show (if n.op = 11 then br y.v else _) = _; rw [if_pos FU]))⟩
     · exact ⟨145,#[],#[],hf FU,I6.en,bw (app _ (by show (if n.op = 11 then br y.v else WH y.v) = _; rw [if_neg (by omega)]))⟩
 refine hml.look uY (fun D2 => cont _ (fun h9 => ?_) fun h9 => ?_) fun v hv => ?_
 · exact absurd h9.symm (D2 (11,.func (.func 144) #[] #[]) (by simp))
 · exact absurd h9.symm (D2 (12,.func (.func 145) #[] #[]) (by simp))
 · simp only [List.nil_append,List.cons_append,List.mem_cons,List.not_mem_nil,or_false,Prod.mk.injEq] at hv
   rcases hv with ⟨h9,rfl⟩ | ⟨h9,rfl⟩
   · exact cont _ (fun _ => rfl) fun h8 => by omega
   · exact cont _ (fun h8 => by omega) fun _ => rfl
end
end TwW
end
section
namespace TwW
open Go Tw Go.RowKit Go.Proofs.Tryz
theorem cV : ∀ w,(zeroValue 71).run prog w = .ok (.agg #[.slice none 0 0,.int .u64 0]) w := fun w => by
 have h : prog.info? 71 = some t71 := by kernel_rfl
 simp [zeroValue,typeInfo,h]
 rfl
def E0 (σ0 : Hp) (v : Value) (x : El) : Prop := ∃ p n c,v = .agg #[.slice p n c,.int .u64 x.v] ∧ E9 σ0 p n x.ls
theorem VB {α : Type} {f : α → Bool} {xs : List α} {k : Nat} {x : α} (hx : xs[k]? = some x) : (xs.take (k + 1)).filter f = (xs.take k).filter f ++ if f x then [x] else [] := by
 rw [AZ hx,List.filter_append]
 by_cases h : f x = true <;> simp [h]
section
variable {σ σ' σ0 : Hp} {R : Rr}
theorem Ext.put {m : Nat} {o : Obj} (hx : Ext σ0 σ) (hm : σ0 m = none) : Ext σ0 (σ.set m o) := fun k u hk => by rw [Hp.AI (fun e => by rw [e,hm] at hk; cases hk)]; exact hx _ _ hk
theorem JF {n : Nd} {p q pv : Option Addr} {k c m d nv cv : Nat} {vec : List El} (hs : Ez 1 σ q m (n.names.map .string)) (hr : Ad 2 Bt σ pv nv vec) (jh : ∀ e ∈ vec,Aq e.ls)
   (h : ∀ mb σ',MS (E0 σ) σ' mb (WD n vec) → Ext σ σ' → R (.returned (.tuple #[.map (some mb),.bool (iK n vec)])) σ') : Spec prog 206 #[Ly n p k c q m d,.slice pv nv cv] σ R := by
 have hl : vec.length = nv := hr.1
 refine G4.start fun _ => EI fun mb oy => ⟨mb,rfl,?_⟩
 let st : List (ByteArray × El) → El → List (ByteArray × El) := fun m x => WC m (Db (OC n x.ls)) x
 have hk : WD n vec = vec.foldl st [] := rfl
 suffices H : ∀ g i : Nat,∀ σ',nv - i = g → i ≤ nv → MS (E0 σ) σ' mb ((vec.take i).foldl st []) → Ext σ σ' → G4.A8 R pv nv cv n.kind n.op n.text p k c n.width n.back n.EO q m d n.bool n.parts (some mb) pv nv cv nv i σ' from H nv 0 _ rfl (Nat.zero_le _) MS.fresh (.set oy)
 intro g
 induction g with
 | zero =>
   intro i σ' hg hi hM hx
   rw [List.take_of_length_le (by omega)] at hM
   refine G4.Aa ⟨fun An => by omega,fun _ => ⟨_,hM.len,?_⟩⟩
   have := h mb σ' hM hx
   unfold iK at this
   rw [hk,hl] at this
   rw [show decide ((((vec.foldl st []).length : Nat) : Int) = (nv : Int)) = decide ((vec.foldl st []).length = nv) from decide_eq_decide.2 (by omega)]
   exact this
 | succ g ih =>
   intro i σ' hg hi hM hx
   have BN : i < nv := by omega
   obtain ⟨y,hy⟩ := hr.ex BN
   obtain ⟨b1,o1,q1,m1,d1,rfl,Pu,GI⟩ := Bt.at hr hy
   have Je := jh y (List.mem_of_getElem? hy)
   refine G4.Aa ⟨fun _ => ⟨b1,o1,rfl,by omega,q1,m1,d1,y.v,by simpa using Pu.mono hx,fun _ => Qi (GI.mono Bz.mono hx) (Je.rd GI) (hs.mono hx) fun p' n' c' σ2 HC A7 => ⟨_,_,_,rfl,FO (HC.mono Bz.mono (Ext.B8 _ _)) Je.OC fun σ3 Du => ⟨_,rfl,?_⟩⟩⟩,fun hh => by omega⟩
   refine (hM.mono (A7.trans Du)).put (x := y) ⟨q1,m1,d1,rfl,GI⟩ fun o hM' => ⟨AK BN hr.big,ih (i + 1) _ (by omega) (by omega) ?_ (Ext.put (hx.trans (A7.trans Du)) oy)⟩
   rw [AZ hy,List.foldl_append]; exact hM'
theorem jD {n : Nd} {p q a px py : Option Addr} {k c m d nx cx ny cy : Nat} {x y : List El} (hs : Ez 1 σ q m (n.names.map .string)) (WR : Ad 2 Bt σ px nx x) (xu : Ad 2 Bt σ py ny y) (pS : ∀ e ∈ x,Aq e.ls) (jw : ∀ e ∈ y,Aq e.ls) (hlen : x.length + y.length ≤ 1000000000000)
   (h : IW R σ ((Bu FF (Sp n x y)).map fun l => ⟨2,0,l,[]⟩)) : Spec prog 160 #[.pointer a,Ly n p k c q m d,.slice px nx cx,.slice py ny cy] σ R := by
 have Z4 : x.length = nx := WR.1
 have bo : y.length = ny := xu.1
 refine AX.start fun _ _ => JF hs WR pS fun mx σ1 hM1 CH => ⟨_,_,rfl,JF (hs.mono CH) (xu.mono Bt.mono CH) jw fun my σ2 xv A7 => ⟨_,_,rfl,?_⟩⟩
 have hX := CH.trans A7
 have hMx := hM1.mono A7
 replace h := h.iw hX
 let f1 : El → Bool := fun e => decide (n.op = 12) || ((Uy n y (OC n e.ls)).isSome == decide (n.op = 11))
 let f2 : El → Bool := fun e => (Uy n x (OC n e.ls)).isNone && decide (n.op = 12)
 have hf : Sp n x y = x.filter f1 ++ y.filter f2 := rfl
 rw [hf] at h
 have second : ∀ g i : Nat,∀ p8 n8 c8 σ',ny - i = g → i ≤ ny → AY 2 Bt σ2 σ' p8 n8 c8 (x.filter f1 ++ (y.take i).filter f2) → AX.Js R n.kind n.op n.text p k c n.width n.back n.EO q m d n.bool n.parts 0 0 none 0 0 none 0 0 (some mx) p8 n8 c8 py ny cy ny i σ' := by
   intro g
   induction g with
   | zero =>
     intro i p8 n8 c8 σ' hg hi ho
     rw [List.take_of_length_le (by omega)] at ho
     have Po := ho.1.1
     rw [List.length_append] at Po
     have h9 := List.length_filter_le f1 x
     have Sk := List.length_filter_le f2 y
     exact AX.LY ⟨fun An => by omega,fun _ => EJ ho (by omega) h.T9⟩
   | succ g ih =>
     intro i p8 n8 c8 σ' hg hi ho
     have BN : i < ny := by omega
     obtain ⟨z,hz⟩ := xu.ex BN
     obtain ⟨b1,o1,q1,m1,d1,rfl,Pu,GI⟩ := Bt.at xu hz
     have Je := jw z (List.mem_of_getElem? hz)
     have Po := ho.1.1
     rw [List.length_append] at Po
     have h9 := List.length_filter_le f1 x
     have Sk := List.length_filter_le f2 (y.take i)
     rw [List.length_take] at Sk
     have next : ∀ p9 n9 c9 σ3,AY 2 Bt σ2 σ3 p9 n9 c9 (x.filter f1 ++ (y.take i).filter f2 ++ if f2 z then [z] else []) → AX.NK R n.kind n.op n.text p k c n.width n.back n.EO q m d n.bool n.parts 0 0 none 0 0 none 0 0 (some mx) p9 n9 c9 (aD b1 o1) ny cy ny i σ3 := fun p9 n9 c9 σ3 FV =>
       AX.Vn ⟨AK BN xu.big,ih (i + 1) _ _ _ _ (by omega) (by omega) (by rw [VB hz,← List.append_assoc]; exact FV)⟩
     have bg := hX.trans ho.up
     refine AX.LY ⟨fun _ => ⟨b1,o1,rfl,by omega,q1,m1,d1,z.v,by simpa using Pu.mono bg,fun _ => Qi (GI.mono Bz.mono bg) (Je.rd GI) (hs.mono bg) fun p' n' c' σ3 ZQ Du => ⟨_,_,_,rfl,FO (ZQ.mono Bz.mono (Ext.B8 _ _)) Je.OC fun σ4 MP => ⟨_,rfl,?_⟩⟩⟩,fun hh => by omega⟩
     have Mm := ho.mono Bt.mono (Du.trans MP)
     refine MS.ZG (hMx.mono (ho.up.trans (Du.trans MP))) cV (fun GM => ⟨_,_,_,_,_,rfl,fun _ => ⟨fun _ => ⟨fun Wu => fun jm ANy => ?_,fun Wu => next _ _ _ _ ?_⟩,fun hh => (by cases hh)⟩⟩) fun v e he hE => ?_
     · refine AY.el Mm (GI.mono Bz.mono (hX.trans Mm.2)) (by omega) (fun p9 c9 σ5 Pc _ => ⟨_,_,_,rfl,next _ _ _ _ ?_⟩) ANy
       have : f2 z = true := by
         show ((DU (WD n x) (Db (OC n z.ls))).isNone && decide (n.op = 12)) = true
         rw [GM,decide_eq_true Wu]; rfl
       rw [this]; exact Pc
     · have : f2 z = false := by
         show ((DU (WD n x) (Db (OC n z.ls))).isNone && decide (n.op = 12)) = false
         rw [decide_eq_false Wu,Bool.and_false]
       rw [this]; simpa using Mm
     · obtain ⟨p5,n5,c5,rfl,_⟩ := hE
       refine ⟨_,_,_,_,_,rfl,fun _ => ⟨fun hh => (by cases hh),fun _ => next _ _ _ _ ?_⟩⟩
       have : f2 z = false := by
         show ((DU (WD n x) (Db (OC n z.ls))).isNone && decide (n.op = 12)) = false
         rw [he]; rfl
       rw [this]; simpa using Mm
 suffices H : ∀ g i : Nat,∀ p8 n8 c8 σ',nx - i = g → i ≤ nx → AY 2 Bt σ2 σ' p8 n8 c8 ((x.take i).filter f1) → AX.tY R py ny cy n.kind n.op n.text p k c n.width n.back n.EO q m d n.bool n.parts 0 0 none 0 0 none 0 0 (some mx) (some my) p8 n8 c8 px nx cx nx i σ' from H nx 0 none 0 0 σ2 rfl (Nat.zero_le _) (AY.nil (.refl _))
 intro g
 induction g with
 | zero =>
   intro i p8 n8 c8 σ' hg hi ho
   rw [List.take_of_length_le (by omega)] at ho
   exact AX.eZ ⟨fun An => by omega,fun _ => second ny 0 p8 n8 c8 σ' rfl (Nat.zero_le _) (by simpa using ho)⟩
 | succ g ih =>
   intro i p8 n8 c8 σ' hg hi ho
   have BN : i < nx := by omega
   obtain ⟨z,hz⟩ := WR.ex BN
   obtain ⟨b1,o1,q1,m1,d1,rfl,Pu,GI⟩ := Bt.at WR hz
   have Je := pS z (List.mem_of_getElem? hz)
   have Po := ho.1.1
   have h9 := List.length_filter_le f1 (x.take i)
   rw [List.length_take] at h9
   have next : ∀ p9 n9 c9 σ3,AY 2 Bt σ2 σ3 p9 n9 c9 ((x.take i).filter f1 ++ if f1 z then [z] else []) → AX.V9 R py ny cy n.kind n.op n.text p k c n.width n.back n.EO q m d n.bool n.parts 0 0 none 0 0 none 0 0 (some mx) (some my) p9 n9 c9 (aD b1 o1) nx cx nx i σ3 := fun p9 n9 c9 σ3 FV =>
     AX.tc ⟨AK BN WR.big,ih (i + 1) _ _ _ _ (by omega) (by omega) (by rw [VB hz]; exact FV)⟩
   have bg := hX.trans ho.up
   refine AX.eZ ⟨fun _ => ⟨b1,o1,rfl,by omega,q1,m1,d1,z.v,by simpa using Pu.mono bg,fun _ => Qi (GI.mono Bz.mono bg) (Je.rd GI) (hs.mono bg) fun p' n' c' σ3 ZQ Du => ⟨_,_,_,rfl,FO (ZQ.mono Bz.mono (Ext.B8 _ _)) Je.OC fun σ4 MP => ⟨_,rfl,?_⟩⟩⟩,fun hh => by omega⟩
   have Mm := ho.mono Bt.mono (Du.trans MP)
   have app : f1 z = true → ∀ iA,σ4 iA = none → AJ prog (Builtin.append_ #[67,67] 67 #[.slice p8 n8 c8,(.slice (aD iA 0) 1 1)]) (Hp.set σ4 iA (.cells #[.slice q1 m1 d1,.int .u64 z.v] 71 (0,0))) (CS fun js gn lJ Ab => AX.V9 R py ny cy n.kind n.op n.text p k c n.width n.back n.EO q m d n.bool n.parts 0 0 none 0 0 none 0 0 (some mx) (some my) js gn lJ (aD b1 o1) nx cx nx i Ab) := fun ht iA ANz => by
     refine AY.el Mm (GI.mono Bz.mono (hX.trans Mm.2)) (by omega) (fun p9 c9 σ5 Pc _ => ⟨_,_,_,rfl,next _ _ _ _ ?_⟩) ANz
     rw [ht]; exact Pc
   have skip : f1 z = false → AX.V9 R py ny cy n.kind n.op n.text p k c n.width n.back n.EO q m d n.bool n.parts 0 0 none 0 0 none 0 0 (some mx) (some my) p8 n8 c8 (aD b1 o1) nx cx nx i σ4 := fun ht => next _ _ _ _ (by rw [ht]; simpa using Mm)
   have e1 : f1 z = (decide (n.op = 12) || ((DU (WD n y) (Db (OC n z.ls))).isSome == decide (n.op = 11))) := rfl
   refine MS.ZG ((xv.imp fun v x hE => hE).mono (ho.up.trans (Du.trans MP))) cV (fun GM => ⟨_,_,_,_,_,rfl,fun _ => ⟨fun Wu => app ?_,fun Wu => ⟨fun hh => (by cases hh),fun _ => ⟨fun fP => skip ?_,fun fP => app ?_⟩⟩⟩⟩) fun v e he hE => ?_
   · rw [e1,decide_eq_true Wu]; rfl
   · rw [e1,decide_eq_false Wu,GM,decide_eq_true fP]; rfl
   · rw [e1,decide_eq_false Wu,GM,decide_eq_false fP]; rfl
   · obtain ⟨p5,n5,c5,rfl,_⟩ := hE
     refine ⟨_,_,_,_,_,rfl,fun _ => ⟨fun Wu => app ?_,fun Wu => ⟨fun _ => ⟨fun fP => app ?_,fun fP => skip ?_⟩,fun hh => (by cases hh)⟩⟩⟩
     · rw [e1,decide_eq_true Wu]; rfl
     · rw [e1,decide_eq_false Wu,he,decide_eq_true fP]; rfl
     · rw [e1,decide_eq_false Wu,he,decide_eq_false fP]; rfl
end
end TwW
end
section
namespace TwW
open Go Tw Go.RowKit Go.Proofs.Tryz
section
variable {σ σ' σ0 : Hp} {R : Rr}
theorem TF {n : Nd} {p q a px : Option Addr} {k c m d nx cx f : Nat} {cap : Array Value} {x : List El} {g : Int → Int × Bool} (WR : Ad 2 Bt σ px nx x) (pS : ∀ e ∈ x,Aq e.ls) (hlen : x.length ≤ 1000000000000) (OJ : Enters prog f)
   (hC : ∀ (σ2 : Hp) (v : Int) (R' : Rr),Ext σ σ2 → R' (.returned (.tuple #[.int .u64 (g v).1,.bool (g v).2])) σ2 → Spec prog f (#[] ++ #[.int .u64 v] ++ cap) σ2 R')
   (h : IW R σ ((Bu FF (Y2 n x g)).map fun l => ⟨2,0,l,[]⟩)) : Spec prog 157 #[.pointer a,Ly n p k c q m d,.slice px nx cx,.func (.func f) #[] cap] σ R := by
 have Z4 : x.length = nx := WR.1
 let f1 : El → Option El := fun x => if Ft n.op = false ∨ n.bool = true then some ⟨Dx x.ls,(g x.v).1⟩ else if (g x.v).2 then some x else none
 have hf : Y2 n x g = x.filterMap f1 := rfl
 rw [hf] at h
 refine A3.start fun _ _ => ?_
 suffices H : ∀ gg i : Nat,∀ p8 n8 c8 σ',nx - i = gg → i ≤ nx → AY 2 Bt σ σ' p8 n8 c8 ((x.take i).filterMap f1) → A3.A8 R (.func (.func f) #[] cap) n.kind n.op n.text p k c n.width n.back n.EO q m d n.bool n.parts 0 0 none 0 0 none 0 0 p8 n8 c8 px nx cx nx i σ' from H nx 0 none 0 0 σ rfl (Nat.zero_le _) (AY.nil (.refl _))
 intro gg
 induction gg with
 | zero =>
   intro i p8 n8 c8 σ' hg hi ho
   rw [List.take_of_length_le (by omega)] at ho
   have Po := ho.1.1
   have h9 := List.length_filterMap_le f1 x
   exact A3.Aa ⟨fun An => by omega,fun _ => EJ ho (by omega) h.T9⟩
 | succ gg ih =>
   intro i p8 n8 c8 σ' hg hi ho
   have BN : i < nx := by omega
   obtain ⟨z,hz⟩ := WR.ex BN
   obtain ⟨b1,o1,q1,m1,d1,rfl,Pu,GI⟩ := Bt.at WR hz
   have Je := pS z (List.mem_of_getElem? hz)
   have Po := ho.1.1
   have h9 := List.length_filterMap_le f1 (x.take i)
   rw [List.length_take] at h9
   have next : ∀ tb p9 n9 c9 σ3,tb = n.bool → AY 2 Bt σ σ3 p9 n9 c9 ((x.take i).filterMap f1 ++ (f1 z).toList) → A3.FJ R (.func (.func f) #[] cap) n.kind n.op n.text p k c n.width n.back n.EO q m d tb n.parts 0 0 none 0 0 none 0 0 p9 n9 c9 (aD b1 o1) nx cx nx i σ3 := fun tb p9 n9 c9 σ3 r9 FV => by
     subst r9
     exact A3.FX ⟨AK BN WR.big,ih (i + 1) _ _ _ _ (by omega) (by omega) (by rw [Gn hz]; exact FV)⟩
   have e1 : f1 z = if Ft n.op = false ∨ n.bool = true then some ⟨Dx z.ls,(g z.v).1⟩ else if (g z.v).2 then some z else none := rfl
   refine A3.Aa ⟨fun _ => ⟨b1,o1,rfl,by omega,q1,m1,d1,z.v,by simpa using Pu.mono ho.up,fun _ => ⟨f,#[],cap,rfl,OJ,hC σ' z.v _ ho.up ⟨_,_,rfl,Cc ⟨_,rfl,?_⟩⟩⟩⟩,fun hh => by omega⟩
   have bare : (Ft n.op = false ∨ n.bool = true) → ∀ tb,tb = n.bool → Spec prog 146 #[.slice q1 m1 d1] σ' (AA R (CS fun zr n40 zt AH => Al AH fun eE => AJ prog (Builtin.append_ #[67,67] 67 #[.slice p8 n8 c8,(.slice (aD eE 0) 1 1)]) (Hp.set AH eE (.cells #[.slice zr n40 zt,.int .u64 (g z.v).1] 71 (0,0))) (CS fun zu n44 zv Ab => A3.FJ R (.func (.func f) #[] cap) n.kind n.op n.text p k c n.width n.back n.EO q m d tb n.parts 0 0 none 0 0 none 0 0 zu n44 zv (aD b1 o1) nx cx nx i Ab))) := fun hc tb r9 =>
     FP (GI.mono Bz.mono ho.up) (Je.rd GI) fun p' n' c' σ3 ZQ Du => ⟨_,_,_,rfl,fun eE ABb => AY.el (ho.mono Bt.mono Du) (ZQ.mono Bz.mono (ho.new Du)) (by omega) (fun p9 c9 σ5 Pc _ => ⟨_,_,_,rfl,next _ _ _ _ _ r9 (by rw [e1,if_pos hc]; exact Pc)⟩) ABb⟩
   refine ⟨fun hcf => bare (.inl hcf) _ rfl,fun hct => ⟨fun hb => bare (.inr hb) _ hb.symm,fun hb => ⟨fun cU => fun Ui pT => ?_,fun cU => next _ _ _ _ _ hb.symm ?_⟩⟩⟩
   · refine AY.el ho (GI.mono Bz.mono ho.2) (by omega) (fun p9 c9 σ5 Pc _ => ⟨_,_,_,rfl,next _ _ _ _ _ hb.symm ?_⟩) pT
     rw [e1,if_neg (by rw [hct,hb]; simp),if_pos cU]; exact Pc
   · rw [e1,if_neg (by rw [hct,hb]; simp),if_neg (by rw [cU]; simp)]; simpa using ho
theorem WS {n : Nd} {p q a px py : Option Addr} {k c m d nx cx ny cy : Nat} {x y : List El} (hs : Ez 1 σ q m (n.names.map .string)) (WR : Ad 2 Bt σ px nx x) (xu : Ad 2 Bt σ py ny y) (pS : ∀ e ∈ x,Aq e.ls) (jw : ∀ e ∈ y,Aq e.ls) (hlen : x.length + y.length ≤ 1000000000000)
   (h : IW R σ (((Uz FF n x y).bind (Bu FF)).map fun l => ⟨2,0,l,[]⟩)) : Spec prog 161 #[.pointer a,Ly n p k c q m d,.slice px nx cx,.slice py ny cy] σ R := by
 have Z4 : x.length = nx := WR.1
 have bo : y.length = ny := xu.1
 let f1 : El → Option El := fun e => match Uy n y (OC n e.ls) with
   | none => none
   | some o => if Ft n.op = false ∨ n.bool = true then some ⟨OC n e.ls,(FF.QF n.op e.v o.v).1⟩ else if (FF.QF n.op e.v o.v).2 then some e else none
 have hf : Uz FF n x y = if iK n x && iK n y then some (x.filterMap f1) else none := rfl
 rw [hf] at h
 refine Ap.start fun _ _ => JF hs WR pS fun mx σ1 hM1 CH => ⟨_,_,rfl,JF (hs.mono CH) (xu.mono Bt.mono CH) jw fun my σ2 xv A7 => ⟨_,_,rfl,fun h1 => ?_,fun h1 => ⟨fun h2 => ?_,fun h2 => ?_⟩⟩⟩
 · rw [h1] at h; exact h.no rfl _ (CH.trans A7)
 · rw [h2,Bool.and_false] at h; exact h.no rfl _ (CH.trans A7)
 rw [h1,h2] at h
 have hX := CH.trans A7
 replace h : IW R σ2 ((Bu FF (x.filterMap f1)).map fun l => ⟨2,0,l,[]⟩) := h.iw hX
 suffices H : ∀ gg i : Nat,∀ p8 n8 c8 σ',nx - i = gg → i ≤ nx → AY 2 Bt σ2 σ' p8 n8 c8 ((x.take i).filterMap f1) → Ap.Vm R n.kind n.op n.text p k c n.width n.back n.EO q m d n.bool n.parts 0 0 none 0 0 none 0 0 (some my) p8 n8 c8 px nx cx nx i σ' from H nx 0 none 0 0 σ2 rfl (Nat.zero_le _) (AY.nil (.refl _))
 intro gg
 induction gg with
 | zero =>
   intro i p8 n8 c8 σ' hg hi ho
   rw [List.take_of_length_le (by omega)] at ho
   have Po := ho.1.1
   have h9 := List.length_filterMap_le f1 x
   exact Ap.Qb ⟨fun An => by omega,fun _ => EJ ho (by omega) h.T9⟩
 | succ gg ih =>
   intro i p8 n8 c8 σ' hg hi ho
   have BN : i < nx := by omega
   obtain ⟨z,hz⟩ := WR.ex BN
   obtain ⟨b1,o1,q1,m1,d1,rfl,Pu,GI⟩ := Bt.at WR hz
   have Je := pS z (List.mem_of_getElem? hz)
   have Po := ho.1.1
   have h9 := List.length_filterMap_le f1 (x.take i)
   rw [List.length_take] at h9
   have next : ∀ tb p9 n9 c9 σ3,tb = n.bool → AY 2 Bt σ2 σ3 p9 n9 c9 ((x.take i).filterMap f1 ++ (f1 z).toList) → Ap.NK R n.kind n.op n.text p k c n.width n.back n.EO q m d tb n.parts 0 0 none 0 0 none 0 0 (some my) p9 n9 c9 (aD b1 o1) nx cx nx i σ3 := fun tb p9 n9 c9 σ3 r9 FV => by
     subst r9
     exact Ap.Vn ⟨AK BN WR.big,ih (i + 1) _ _ _ _ (by omega) (by omega) (by rw [Gn hz]; exact FV)⟩
   have bg := hX.trans ho.up
   refine Ap.Qb ⟨fun _ => ⟨b1,o1,rfl,by omega,q1,m1,d1,z.v,by simpa using Pu.mono bg,fun _ => Qi (GI.mono Bz.mono bg) (Je.rd GI) (hs.mono bg) fun p' n' c' σ3 ZQ Du => ⟨_,_,_,rfl,FO (ZQ.mono Bz.mono (Ext.B8 _ _)) Je.OC fun σ4 MP => ⟨_,rfl,?_⟩⟩⟩,fun hh => by omega⟩
   have Mm := ho.mono Bt.mono (Du.trans MP)
   have hrk : E9 (σ4.del p8) p' n' (OC n z.ls) := ZQ.mono Bz.mono ((Ext.Jl MP).trans (ho.new (Du.trans MP)))
   have e1 : f1 z = match DU (WD n y) (Db (OC n z.ls)) with
     | none => none
     | some o => if Ft n.op = false ∨ n.bool = true then some ⟨OC n z.ls,(LC n.op z.v o.v).1⟩ else if (LC n.op z.v o.v).2 then some z else none := rfl
   refine MS.ZG (xv.mono (ho.up.trans (Du.trans MP))) cV (fun GM => ⟨_,_,_,_,_,rfl,fun _ => ⟨fun _ => next _ _ _ _ _ rfl ?_,fun hh => (by cases hh)⟩⟩) fun v e he hE => ?_
   · rw [e1,GM]; simpa using Mm
   obtain ⟨p5,n5,c5,rfl,_⟩ := hE
   rw [he] at e1
   dsimp only at e1
   refine ⟨_,_,_,_,_,rfl,fun _ => ⟨fun hh => (by cases hh),fun _ => Hb ⟨_,_,rfl,Cc ⟨_,rfl,?_⟩⟩⟩⟩
   have bare : (Ft n.op = false ∨ n.bool = true) → ∀ tb,tb = n.bool → Al σ4 fun wD => AJ prog (Builtin.append_ #[67,67] 67 #[.slice p8 n8 c8,(.slice (aD wD 0) 1 1)]) (Hp.set σ4 wD (.cells #[.slice p' n' c',.int .u64 (LC n.op z.v e.v).1] 71 (0,0))) (CS fun sY Xi sZ Ex => Ap.NK R n.kind n.op n.text p k c n.width n.back n.EO q m d tb n.parts 0 0 none 0 0 none 0 0 (some my) sY Xi sZ (aD b1 o1) nx cx nx i Ex) := fun hc tb r9 =>
     fun eE ABb => AY.el Mm hrk (by omega) (fun p9 c9 σ5 Pc _ => ⟨_,_,_,rfl,next _ _ _ _ _ r9 (by rw [e1,if_pos hc]; exact Pc)⟩) ABb
   refine ⟨fun hcf => bare (.inl hcf) _ rfl,fun hct => ⟨fun hb => bare (.inr hb) _ hb.symm,fun hb => ⟨fun cU => fun Ui pT => ?_,fun cU => next _ _ _ _ _ hb.symm ?_⟩⟩⟩
   · refine AY.el Mm (GI.mono Bz.mono (hX.trans Mm.2)) (by omega) (fun p9 c9 σ5 Pc _ => ⟨_,_,_,rfl,next _ _ _ _ _ hb.symm ?_⟩) pT
     rw [e1,if_neg (by rw [hct,hb]; simp),if_pos cU]; exact Pc
   · rw [e1,if_neg (by rw [hct,hb]; simp),if_neg (by rw [cU]; simp)]; simpa using Mm
end
end TwW
end
section
namespace TwW
open Go Tw Go.RowKit Go.Proofs.Tryz
theorem ABc : ∀ w,(Go.sizeOf 93).run prog w = .ok 4 w := fun w => by kernel_rfl
abbrev Wy (x : Vv) (p : Option Addr) (n c : Nat) (q : Option Addr) (m d : Nat) : Array Value := #[.int .i64 x.kind,.int .u64 x.v,.slice p n c,.slice q m d]
abbrev ndC (n : Nd) (p : Option Addr) (k c : Nat) (q : Option Addr) (m d : Nat) : Array Value := #[.int .i64 n.kind,.int .i64 n.op,.string n.text,.slice p k c,.int .i64 n.width,.int .i64 n.back,.int .i64 n.EO,.slice q m d,.bool n.bool,.int .i64 n.parts]
section
variable {σ σ' σ0 : Hp} {R : Rr}
theorem TG {b : Nat} {c : Array Value} {v0 v1 v2 v3 : Value} {Φ : Unit → Hp → Prop} (hc : c.size = 4) (hb : σ b = some (.cells c 93 (0,0))) (h1 : ∀ u ∈ [v0,v1,v2,v3],u.oneCell' = true) (hv : (Value.agg #[v0,v1,v2,v3]).cells = #[v0,v1,v2,v3])
   (h : Φ () (σ.set b (.cells #[v0,v1,v2,v3] 93 (0,0)))) : AJ prog (Instr.storeAt 93 (.pointer (some ⟨b,0,none⟩)) (.agg #[v0,v1,v2,v3])) σ Φ := by
 refine AJ.store ABc hb (by rw [hv]; rfl) (by omega) (by rw [hv]; simpa using h1) ?_
 rw [hv,S3 (by rw [hc]; rfl)]
 exact h
theorem Au.Er {b : Nat} {c : List Value} {T : TypeId} (h : σ b = some (.cells c.toArray T (0,0))) : Au σ b 0 c := Au.of fun j v hj => by
 rw [Nat.zero_add]; exact Ag h (by simpa using hj)
theorem pU {n : Nd} {p q a l : Option Addr} {k c m d j e : Nat} {L : List Vv} {x y : Vv} (hs : Ez 1 σ q m (n.names.map .string)) (hr : Ad 4 Mo σ l j L) (hx : L[0]? = some x) (hy : L[1]? = some y) (hVx : jA x) (hVy : jA y) (h : IW R σ (uA FF n x y)) :
   Spec prog 105 #[.pointer a,Ly n p k c q m d,.slice l j e] σ R := by
 have hj : 1 < j := by have h1 : L.length = j := hr.1; have := (List.getElem?_eq_some_iff.1 hy).1; omega
 obtain ⟨b,o,px,nx,cx,qx,mx,dx,rfl,h1,h2,h3,h4,h5,h6⟩ := Mo.at hr hx
 obtain ⟨_,_,py,ny,cy,qy,my,dy,he,g1,g2,g3,g4,g5,g6⟩ := Mo.at hr hy
 cases he
 simp only [Nat.zero_mul,Nat.add_zero,Nat.one_mul] at h1 h2 h3 h4 g1 g2 g3 g4
 have Z4 := hVx.len
 have bo := hVy.len
 have pS := fun z hz => (hVx.el z hz).1
 have jw := fun z hz => (hVy.el z hz).1
 refine C4.start fun b4 hb4 _ => ?_
 have x4 := Ext.set (o := .cells (ndC n p k c q m d) 36 (0,0)) hb4
 have c4 := Hp.AB σ b4 (.cells (ndC n p k c q m d) 36 (0,0))
 generalize ABd : σ.set b4 (.cells (ndC n p k c q m d) 36 (0,0)) = σ4 at *
 refine ⟨b,o,rfl,by omega,x.kind,x.v,px,nx,cx,qx,mx,dx,⟨x4.ld h1,x4.ld h2,x4.ld h3,x4.ld h4,trivial⟩,by omega,y.kind,y.v,py,ny,cy,qy,my,dy,⟨x4.ld g1,x4.ld g2,x4.ld g3,x4.ld g4,trivial⟩,fun b8 hb8 b9 hb9 => ?_,fun b9 hb9 b8 hb8 => ?_⟩
 focus
   have n8 : b8 ≠ b9 := fun e => by rw [e,Hp.AB] at hb9; cases hb9
   have n9 := (Hp.AW hb9).2
   have nb : ∀ k o,σ4 k = some o → k ≠ b8 ∧ k ≠ b9 := fun k o hk => ⟨fun e => (by rw [e,hb8] at hk; cases hk),fun e => (by rw [e,n9] at hk; cases hk)⟩
   refine TG rfl (by rw [Hp.AI n8]; exact Hp.AB _ _ _) (by simp [Value.oneCell']) rfl ?_
   refine ⟨fun kb HQ u hu => ?_,TG rfl (by rw [Hp.AI (Ne.symm n8)]; exact Hp.AB _ _ _) (by simp [Value.oneCell']) rfl ?_⟩
   · rw [List.mem_singleton] at HQ
     subst HQ
     have Z9 : ∃ u,σ4 kb = some u := by
       have := x4.ld h1
       unfold Hp.ld at this
       cases hq : σ4 kb with
       | none => rw [hq] at this; cases this
       | some u => exact ⟨u,rfl⟩
     obtain ⟨u',Ct⟩ := Z9
     rw [Hp.AI (nb _ _ Ct).1]; exact hu
   have F8 : ((((σ4.set b8 (.cells #[.int .i64 0,.int .u64 0,.slice none 0 0,.slice none 0 0] 93 (0,0))).set b9 (.cells #[.int .i64 0,.int .u64 0,.slice none 0 0,.slice none 0 0] 93 (0,0))).set b8 (.cells (Wy x px nx cx qx mx dx) 93 (0,0))).set b9 (.cells (Wy y py ny cy qy my dy) 93 (0,0))) b8 = some (.cells (Wy x px nx cx qx mx dx) 93 (0,0)) := by rw [Hp.AI n8,Hp.AB]
   have F9 := Hp.AB (((σ4.set b8 (.cells #[.int .i64 0,.int .u64 0,.slice none 0 0,.slice none 0 0] 93 (0,0))).set b9 (.cells #[.int .i64 0,.int .u64 0,.slice none 0 0,.slice none 0 0] 93 (0,0))).set b8 (.cells (Wy x px nx cx qx mx dx) 93 (0,0))) b9 (.cells (Wy y py ny cy qy my dy) 93 (0,0))
   have X2 : Ext σ4 ((((σ4.set b8 (.cells #[.int .i64 0,.int .u64 0,.slice none 0 0,.slice none 0 0] 93 (0,0))).set b9 (.cells #[.int .i64 0,.int .u64 0,.slice none 0 0,.slice none 0 0] 93 (0,0))).set b8 (.cells (Wy x px nx cx qx mx dx) 93 (0,0))).set b9 (.cells (Wy y py ny cy qy my dy) 93 (0,0))) := fun k o hk => by
     obtain ⟨a1,a2⟩ := nb k o hk
     rw [Hp.AI a2,Hp.AI a1,Hp.AI a2,Hp.AI a1]; exact hk
   generalize ((((σ4.set b8 (.cells #[.int .i64 0,.int .u64 0,.slice none 0 0,.slice none 0 0] 93 (0,0))).set b9 (.cells #[.int .i64 0,.int .u64 0,.slice none 0 0,.slice none 0 0] 93 (0,0))).set b8 (.cells (Wy x px nx cx qx mx dx) 93 (0,0))).set b9 (.cells (Wy y py ny cy qy my dy) 93 (0,0))) = y2 at *
 rotate_left
 focus
   have n8 : b9 ≠ b8 := fun e => by rw [e,Hp.AB] at hb8; cases hb8
   have n9 := (Hp.AW hb8).2
   have nb : ∀ k o,σ4 k = some o → k ≠ b8 ∧ k ≠ b9 := fun k o hk => ⟨fun e => (by rw [e,n9] at hk; cases hk),fun e => (by rw [e,hb9] at hk; cases hk)⟩
   refine TG rfl (Hp.AB _ _ _) (by simp [Value.oneCell']) rfl ?_
   refine ⟨fun kb HQ u hu => ?_,TG rfl (by rw [Hp.AI n8,Hp.AI n8]; exact Hp.AB _ _ _) (by simp [Value.oneCell']) rfl ?_⟩
   · rw [List.mem_singleton] at HQ
     subst HQ
     have Z9 : ∃ u,σ4 kb = some u := by
       have := x4.ld h1
       unfold Hp.ld at this
       cases hq : σ4 kb with
       | none => rw [hq] at this; cases this
       | some u => exact ⟨u,rfl⟩
     obtain ⟨u',Ct⟩ := Z9
     rw [Hp.AI (nb _ _ Ct).1]; exact hu
   have F8 : ((((σ4.set b9 (.cells #[.int .i64 0,.int .u64 0,.slice none 0 0,.slice none 0 0] 93 (0,0))).set b8 (.cells #[.int .i64 0,.int .u64 0,.slice none 0 0,.slice none 0 0] 93 (0,0))).set b8 (.cells (Wy x px nx cx qx mx dx) 93 (0,0))).set b9 (.cells (Wy y py ny cy qy my dy) 93 (0,0))) b8 = some (.cells (Wy x px nx cx qx mx dx) 93 (0,0)) := by rw [Hp.AI (Ne.symm n8),Hp.AB]
   have F9 := Hp.AB (((σ4.set b9 (.cells #[.int .i64 0,.int .u64 0,.slice none 0 0,.slice none 0 0] 93 (0,0))).set b8 (.cells #[.int .i64 0,.int .u64 0,.slice none 0 0,.slice none 0 0] 93 (0,0))).set b8 (.cells (Wy x px nx cx qx mx dx) 93 (0,0))) b9 (.cells (Wy y py ny cy qy my dy) 93 (0,0))
   have X2 : Ext σ4 ((((σ4.set b9 (.cells #[.int .i64 0,.int .u64 0,.slice none 0 0,.slice none 0 0] 93 (0,0))).set b8 (.cells #[.int .i64 0,.int .u64 0,.slice none 0 0,.slice none 0 0] 93 (0,0))).set b8 (.cells (Wy x px nx cx qx mx dx) 93 (0,0))).set b9 (.cells (Wy y py ny cy qy my dy) 93 (0,0))) := fun k o hk => by
     obtain ⟨a1,a2⟩ := nb k o hk
     rw [Hp.AI a2,Hp.AI a1,Hp.AI a1,Hp.AI a2]; exact hk
   generalize ((((σ4.set b9 (.cells #[.int .i64 0,.int .u64 0,.slice none 0 0,.slice none 0 0] 93 (0,0))).set b8 (.cells #[.int .i64 0,.int .u64 0,.slice none 0 0,.slice none 0 0] 93 (0,0))).set b8 (.cells (Wy x px nx cx qx mx dx) 93 (0,0))).set b9 (.cells (Wy y py ny cy qy my dy) 93 (0,0))) = y2 at *
 all_goals
   have F4 := X2 _ _ c4
   have X := x4.trans X2
   have F4' := Au.Er (c := [.int .i64 n.kind,.int .i64 n.op,.string n.text,.slice p k c,.int .i64 n.width,.int .i64 n.back,.int .i64 n.EO,.slice q m d,.bool n.bool,.int .i64 n.parts]) F4
   have hn := h.iw X
   unfold uA at hn
   refine ⟨x.kind,Ag F8 rfl,fun pV => ⟨y.kind,Ag F9 rfl,fun xw => ?_,fun xw => ?_⟩,fun pV => ?_⟩
   · rw [if_pos ⟨pV,xw⟩] at hn
     exact ⟨_,_,_,_,_,_,_,_,_,_,_,_,_,_,F4',x.v,Ag F8 rfl,y.v,Ag F9 rfl,Hb ⟨_,_,rfl,hn.ok _ y2 none 0 0 none 0 0 rfl (.refl _) Ad.nil Ad.nil (Nat.le_refl _) (Nat.le_refl _)⟩⟩
   · rw [if_neg (fun hh => xw hh.2),if_pos pV] at hn
     refine ⟨x.kind,Ag F8 rfl,fun _ => ⟨_,_,_,_,_,_,_,_,_,_,_,_,_,_,F4',py,ny,cy,Ag F9 rfl,TF (g := fun v => LC n.op x.v v) (g5.mono Bt.mono X) jw (by omega) DJ.en (fun σ2 v R' A7 Lg => ?_) hn.T9⟩,fun hh => absurd pV hh⟩
     exact DJ.start ⟨_,_,_,_,_,_,_,_,_,_,_,_,_,_,F4'.mono A7,x.v,Ag (A7 _ _ F8) rfl,Hb ⟨_,_,rfl,Lg⟩⟩
   · rw [if_neg (fun hh => pV hh.1),if_neg pV] at hn
     refine ⟨x.kind,Ag F8 rfl,fun hh => absurd hh pV,fun _ => ⟨y.kind,Ag F9 rfl,fun xw => ?_,fun xw => ⟨n.op,Ag F4 rfl,Pj ⟨_,rfl,fun Ca => ?_,fun Ca => ?_⟩⟩⟩⟩
     · rw [if_pos xw] at hn
       refine ⟨_,_,_,_,_,_,_,_,_,_,_,_,_,_,F4',px,nx,cx,Ag F8 rfl,TF (g := fun v => LC n.op v y.v) (h5.mono Bt.mono X) pS (by omega) DE.en (fun σ2 v R' A7 Lg => ?_) hn.T9⟩
       exact DE.start ⟨_,_,_,_,_,_,_,_,_,_,_,_,_,_,F4'.mono A7,y.v,Ag (A7 _ _ F9) rfl,Hb ⟨_,_,rfl,Lg⟩⟩
     · rw [if_neg xw,if_pos (of_decide_eq_true Ca)] at hn
       exact ⟨_,_,_,_,_,_,_,_,_,_,_,_,_,_,F4',px,nx,cx,Ag F8 rfl,py,ny,cy,Ag F9 rfl,jD (hs.mono X) (h5.mono Bt.mono X) (g5.mono Bt.mono X) pS jw (by omega) hn.T9⟩
     · rw [if_neg xw,if_neg (of_decide_eq_false Ca)] at hn
       exact ⟨_,_,_,_,_,_,_,_,_,_,_,_,_,_,F4',px,nx,cx,Ag F8 rfl,py,ny,cy,Ag F9 rfl,WS (hs.mono X) (h5.mono Bt.mono X) (g5.mono Bt.mono X) pS jw (by omega) hn.T9⟩
end
end TwW
end
section
namespace TwW
open Go Tw Go.RowKit Go.Proofs.Tryz
structure GR where
 b : Nat
 lp : Option Addr
 ln : Nat
 lc : Nat
 vp : Option Addr
 vn : Nat
 vc : Nat
def GR.cl (r : GR) : List Nat := r.b :: Q1 r.vp
def GR.cell (r : GR) : Obj := .cells #[.slice r.lp r.ln r.lc,.slice r.vp r.vn r.vc] 189 (0,0)
def FB : List Rg → List GR → List (ByteArray × Nat)
 | g :: gs,r :: rs => (Db g.ls,r.b) :: FB gs rs
 | _,_ => []
structure GS (τ σ : Hp) (m : Nat) (op : Option Addr) (on oc : Nat) (rs : List GR) (gs : List Rg) : Prop where
 len : rs.length = gs.length
 map : MS (fun v b => v = .pointer (aD b 0)) σ m (FB gs rs)
 ord : A9 1 σ op on oc (rs.map fun r => .pointer (aD r.b 0))
 box : ∀ (i : Nat) (r : GR) (g : Rg),rs[i]? = some r → gs[i]? = some g → σ r.b = some r.cell ∧ E9 τ r.lp r.ln g.ls ∧ Di .u64 σ r.vp r.vn r.vc g.vs
 om : ∀ a,op = some a → a.block ≠ m ∧ τ a.block = none
 dm : ∀ (i : Nat) (r : GR),rs[i]? = some r → ∀ k ∈ r.cl,k ≠ m ∧ (∀ a,op = some a → k ≠ a.block) ∧ τ k = none
 vb : ∀ (i : Nat) (r : GR),rs[i]? = some r → ∀ a,r.vp = some a → a.block ≠ r.b
 dr : ∀ (i j : Nat) (r r' : GR),i ≠ j → rs[i]? = some r → rs[j]? = some r' → ∀ k ∈ r.cl,k ∉ r'.cl
 tm : τ m = none
 ext : Ext τ σ
theorem uZ : ∀ w,(Go.sizeOf 187).run prog w = .ok 1 w := fun w => by kernel_rfl
theorem ua {p : Option Addr} {k : Nat} : k ∈ Q1 p ↔ ∃ a,p = some a ∧ k = a.block := by
 cases p with
 | none => simp [Q1]
 | some a => simp [Q1]
theorem JG {r : GR} {k : Nat} : k ∈ r.cl ↔ k = r.b ∨ ∃ a,r.vp = some a ∧ k = a.block := by
 unfold GR.cl
 rw [List.mem_cons,ua]
theorem A9.of_eq {s : Nat} {σ σ' : Hp} {p : Option Addr} {n c : Nat} {cs : List Value} (ho : A9 s σ p n c cs) (h : ∀ a,p = some a → σ' a.block = σ a.block) : A9 s σ' p n c cs :=
 ⟨ho.1,ho.2.1,ho.2.2.imp id fun ⟨b',o',arr,T,hp,hb,r⟩ => ⟨b',o',arr,T,hp,by rw [h _ hp]; exact hb,r⟩⟩
theorem VC : ∀ {gs : List Rg} {rs : List GR} {i : Nat} {g g' : Rg} {r r' : GR},gs[i]? = some g → rs[i]? = some r → g'.ls = g.ls → r'.b = r.b → FB (gs.set i g') (rs.set i r') = FB gs rs
 | [],_,i,_,_,_,_,hg,_,_,_ => by simp at hg
 | _ :: _,[],i,_,_,_,_,_,hr,_,_ => by simp at hr
 | a :: gs,b :: rs,0,g,g',r,r',hg,hr,h1,h2 => by
   simp only [List.getElem?_cons_zero,Option.some.injEq] at hg hr
   subst hg; subst hr
   simp only [List.set_cons_zero,FB,h1,h2]
 | a :: gs,b :: rs,i + 1,g,g',r,r',hg,hr,h1,h2 => by
   simp only [List.set_cons_succ,FB]
   rw [VC (by simpa using hg) (by simpa using hr) h1 h2]
theorem VD : ∀ {gs : List Rg} {rs : List GR} {g : Rg} {r : GR},rs.length = gs.length → FB (gs ++ [g]) (rs ++ [r]) = FB gs rs ++ [(Db g.ls,r.b)]
 | [],[],g,r,_ => rfl
 | [],_ :: _,g,r,h => by simp at h
 | _ :: _,[],g,r,h => by simp at h
 | a :: gs,b :: rs,g,r,h => by
   simp only [List.cons_append,FB]
   rw [VD (by simpa using h)]
theorem TH : ∀ {gs : List Rg} {rs : List GR} {ls : List Lb} {v : Int} {b : Nat},rs.length = gs.length → DU (FB gs rs) (Db ls) = some b → ∃ (i : Nat) (g : Rg) (r : GR),gs[i]? = some g ∧ rs[i]? = some r ∧ r.b = b ∧ GG ls v gs = gs.set i ⟨g.ls,g.vs ++ [v]⟩
 | [],_,ls,v,b,_,h => by simp [FB,DU] at h
 | _ :: _,[],ls,v,b,hl,h => by simp at hl
 | g :: gs,r :: rs,ls,v,b,hl,h => by
   unfold FB DU at h
   by_cases hk : Db g.ls = Db ls
   · rw [if_pos hk] at h
     exact ⟨0,g,r,rfl,rfl,by simpa using h,by unfold GG; rw [if_pos hk]; rfl⟩
   · rw [if_neg hk] at h
     obtain ⟨i,g',r',h1,h2,h3,h4⟩ := TH (v := v) (by simpa using hl) h
     exact ⟨i + 1,g',r',by simpa using h1,by simpa using h2,h3,by unfold GG; rw [if_neg hk,h4]; rfl⟩
theorem TI : ∀ {gs : List Rg} {rs : List GR} {ls : List Lb} {v : Int},rs.length = gs.length → DU (FB gs rs) (Db ls) = none → GG ls v gs = gs ++ [⟨ls,[v]⟩] ∧ ∀ a ∈ FB gs rs,a.1 ≠ Db ls
 | [],_,ls,v,_,h => ⟨rfl,fun a ha => by simp [FB] at ha⟩
 | _ :: _,[],ls,v,hl,h => by simp at hl
 | g :: gs,r :: rs,ls,v,hl,h => by
   unfold FB DU at h
   by_cases hk : Db g.ls = Db ls
   · rw [if_pos hk] at h; cases h
   · rw [if_neg hk] at h
     obtain ⟨h1,h2⟩ := TI (v := v) (by simpa using hl) h
     refine ⟨by unfold GG; rw [if_neg hk,h1]; rfl,fun a ha => ?_⟩
     unfold FB at ha
     rcases List.mem_cons.1 ha with rfl | ha
     · exact hk
     · exact h2 a ha
section
variable {τ σ σ' σ0 : Hp} {R : Rr} {m on oc : Nat} {op : Option Addr} {rs : List GR} {gs : List Rg}
theorem GS.known (h : GS τ σ m op on oc rs gs) {i : Nat} {r : GR} (hr : rs[i]? = some r) : ∀ k ∈ r.cl,∃ u,σ k = some u := fun k hk => by
 have An := (List.getElem?_eq_some_iff.1 hr).1
 obtain ⟨g,hg⟩ : ∃ g,gs[i]? = some g := ⟨_,List.getElem?_eq_getElem (by rw [← h.len]; exact An)⟩
 obtain ⟨h1,_,h3⟩ := h.box i r g hr hg
 rcases JG.1 hk with rfl | ⟨a,ha,rfl⟩
 · exact ⟨_,h1⟩
 · have := A9.block h3 a ha
   cases hh : σ a.block with
   | none => exact absurd hh this
   | some u => exact ⟨u,rfl⟩
theorem GS.grow (h : GS τ σ m op on oc rs gs) (hx : Ext σ σ') : ∃ τ',GS τ' σ' m op on oc rs gs ∧ Ext τ τ' ∧ Ext (σ.new σ') τ' := by
 have ht : Ext τ (τ.or (σ.new σ')) := Ext.oP _ _
 have kn : ∀ k,(∃ u,σ k = some u) → τ k = none → (τ.or (σ.new σ')) k = none := fun k ⟨u,hu⟩ hk => by
   rw [Hp.Ty hk]
   cases hh : (σ.new σ') k with
   | none => rfl
   | some v => rw [(AS.1 hh).1] at hu; cases hu
 have ne : ∀ k,σ k ≠ none → ∃ u,σ k = some u := fun k hk => by
   cases hh : σ k with
   | none => exact absurd hh hk
   | some u => exact ⟨u,rfl⟩
 refine ⟨τ.or (σ.new σ'),⟨h.len,h.map.mono hx,h.ord.mono hx,fun i r g hr hg => ?_,fun a ha => ⟨(h.om a ha).1,kn _ (ne _ (h.ord.block a ha)) (h.om a ha).2⟩,fun i r hr k hk => ?_,h.vb,h.dr,kn _ (ne _ h.map.known) h.tm,?_⟩,ht,?_⟩
 · obtain ⟨h1,h2,h3⟩ := h.box i r g hr hg
   exact ⟨hx _ _ h1,h2.mono Bz.mono ht,h3.mono hx⟩
 · obtain ⟨h1,h2,h3⟩ := h.dm i r hr k hk
   exact ⟨h1,h2,kn k (h.known hr k hk) h3⟩
 · exact Ext.ew (h.ext.trans hx) (Ext.B8 _ _)
 · refine Ext.Ty fun k hk => ?_
   cases hh : τ k with
   | none => rfl
   | some u =>
     have h1 := h.ext _ _ hh
     cases h2 : (σ.new σ') k with
     | none => exact absurd h2 hk
     | some v => rw [(AS.1 h2).1] at h1; cases h1
theorem GS.push {i : Nat} {r : GR} {g : Rg} {v : Int} (h : GS τ σ m op on oc rs gs) (hr : rs[i]? = some r) (hg : gs[i]? = some g) (hb : r.vn ≤ 1000000000000) {Φ : Hp → Prop}
   (hΦ : ∀ σ' r',GS τ σ' m op on oc (rs.set i r') (gs.set i ⟨g.ls,g.vs ++ [v]⟩) → Φ σ') :
   Al σ fun b69 => AJ prog (Builtin.append_ #[187,187] 187 #[.slice r.vp r.vn r.vc,(.slice (aD b69 0) 1 1)]) (Hp.set σ b69 (.cells #[.int .u64 v] 48 (0,0))) (CS fun p70 n70 c70 y => AJ prog (Instr.storeAt 187 (.pointer (aD r.b 1)) (.slice p70 n70 c70)) y (fun _ AF => Φ AF)) := fun b69 AN2 => by
 obtain ⟨h1,h2,h3⟩ := h.box i r g hr hg
 have iX := (List.getElem?_eq_some_iff.1 hr).1
 have hig := (List.getElem?_eq_some_iff.1 hg).1
 have x1 := Ext.set (o := .cells #[.int .u64 v] 48 (0,0)) AN2
 refine DA (A9.mono x1 h3) (WB (f := .int .u64) (x := v) (Hp.AB _ _ _)) GO.QR (by omega) fun vp' vc' σ2 Be A7 => ⟨_,_,_,rfl,?_⟩
 have hvb := h.vb i r hr
 have Tg : ∀ k u,σ k = some u → (∀ a,r.vp = some a → k ≠ a.block) → σ2 k = some u ∧ ∀ a,vp' = some a → k ≠ a.block := fun k u hk Az => by
   obtain ⟨a1,a2⟩ := AR.1 (A7 k u (AR.2 ⟨Az,x1 _ _ hk⟩))
   exact ⟨a2,a1⟩
 obtain ⟨c1,c2⟩ := Tg r.b _ h1 fun a ha e => hvb a ha e.symm
 refine AJ.store uZ c1 rfl (by simp) (by simp [Value.cells,Value.oneCell']) ?_
 let r' : GR := ⟨r.b,r.lp,r.ln,r.lc,vp',r.vn + 1,vc'⟩
 have UD : (Obj.cells (M0 #[.slice r.lp r.ln r.lc,.slice r.vp r.vn r.vc] 1 (Value.slice vp' (r.vn + 1) vc').cells.toList) 189 (0,0)) = r'.cell := by simp [M0,Value.cells,GR.cell,r']
 rw [UD]
 have T : ∀ k u,σ k = some u → k ∉ r.cl → (σ2.set r.b r'.cell) k = some u ∧ k ∉ r'.cl := fun k u hk jg => by
   have OF : k ≠ r.b := fun e => jg (JG.2 (.inl e))
   obtain ⟨a1,a2⟩ := Tg k u hk fun a ha e => jg (JG.2 (.inr ⟨a,ha,e⟩))
   exact ⟨by rw [Hp.AI OF]; exact a1,fun hc => by
     rcases JG.1 hc with e | ⟨a,ha,e⟩
     · exact OF e
     · exact a2 a ha e⟩
 have TK : ∀ k,(∃ u,σ k = some u) → k ∉ r.cl → (σ2.set r.b r'.cell) k = σ k ∧ k ∉ r'.cl := fun k ⟨u,hu⟩ jg => ⟨by rw [(T k u hu jg).1,hu],(T k u hu jg).2⟩
 have ne : ∀ k,σ k ≠ none → ∃ u,σ k = some u := fun k hk => by
   cases hh : σ k with
   | none => exact absurd hh hk
   | some u => exact ⟨u,rfl⟩
 have mk := TK m (ne _ h.map.known) fun hc => (h.dm i r hr m hc).1 rfl
 have ok : ∀ a,op = some a → (σ2.set r.b r'.cell) a.block = σ a.block ∧ a.block ∉ r'.cl := fun a ha => TK _ (ne _ (h.ord.block a ha)) fun hc => (h.dm i r hr _ hc).2.1 a ha rfl
 have jk : ∀ j s,j ≠ i → rs[j]? = some s → ∀ k ∈ s.cl,(σ2.set r.b r'.cell) k = σ k ∧ k ∉ r'.cl := fun j s hj hs k hk => TK k (h.known hs k hk) (h.dr j i s r hj hs hr k hk)
 have Wz : ∀ j s,(rs.set i r')[j]? = some s → (j = i ∧ s = r') ∨ (j ≠ i ∧ rs[j]? = some s) := fun j s hs => by
   by_cases hj : j = i
   · subst hj
     rw [List.getElem?_set_self iX] at hs
     exact .inl ⟨rfl,by simpa using hs.symm⟩
   · rw [List.getElem?_set_ne (Ne.symm hj)] at hs
     exact .inr ⟨hj,hs⟩
 refine hΦ _ r' ⟨by simp [h.len],?_,?_,fun j s t hs ht => ?_,fun a ha => h.om a ha,fun j s hs k hk => ?_,fun j s hs a ha => ?_,fun j l s s' hjl hs Tk k hk => ?_,h.tm,fun k u hk => ?_⟩
 · rw [VC (g' := ⟨g.ls,g.vs ++ [v]⟩) (r' := r') hg hr rfl rfl]; exact h.map.loc mk.1
 · have : (rs.set i r').map (fun r => Value.pointer (aD r.b 0)) = rs.map fun r => Value.pointer (aD r.b 0) := by
     rw [List.map_set]
     obtain ⟨_,e⟩ := List.getElem?_eq_some_iff.1 hr
     have : Value.pointer (aD r'.b 0) = (rs.map fun r => Value.pointer (aD r.b 0))[i]'(by simpa using iX) := by simp [e,r']
     rw [this,List.set_getElem_self]
   rw [this]; exact A9.of_eq h.ord fun a ha => (ok a ha).1
 · rcases Wz j s hs with ⟨rfl,rfl⟩ | ⟨hj,Tk⟩
   · rw [List.getElem?_set_self hig] at ht
     cases ht
     refine ⟨Hp.AB _ _ _,h2,?_⟩
     have := A9.AI (b := r.b) (o := r'.cell) Be (fun a ha e => c2 a ha e.symm)
     unfold Di
     rw [List.map_append]; exact this
   · rw [List.getElem?_set_ne (Ne.symm hj)] at ht
     obtain ⟨a1,a2,a3⟩ := h.box j s t Tk ht
     refine ⟨?_,a2,A9.of_eq a3 fun a ha => (jk j s hj Tk _ (JG.2 (.inr ⟨a,ha,rfl⟩))).1⟩
     rw [(jk j s hj Tk _ (JG.2 (.inl rfl))).1]; exact a1
 · rcases Wz j s hs with ⟨rfl,rfl⟩ | ⟨hj,Tk⟩
   · refine ⟨fun e => mk.2 (e ▸ hk),fun a ha e => (ok a ha).2 (e ▸ hk),?_⟩
     cases hq : τ k with
     | none => rfl
     | some u => exact absurd hk (T k u (h.ext _ _ hq) fun hc => by rw [(h.dm j r hr k hc).2.2] at hq; cases hq).2
   · exact h.dm j s Tk k hk
 · rcases Wz j s hs with ⟨rfl,rfl⟩ | ⟨hj,Tk⟩
   · exact fun e => c2 a ha e.symm
   · exact h.vb j s Tk a ha
 · rcases Wz j s hs with ⟨rfl,rfl⟩ | ⟨hj,Je⟩
   · rcases Wz l s' Tk with ⟨rfl,rfl⟩ | ⟨hl,hs2⟩
     · exact absurd rfl hjl
     · exact fun hc => (jk l s' hl hs2 k hc).2 hk
   · rcases Wz l s' Tk with ⟨rfl,rfl⟩ | ⟨hl,hs2⟩
     · exact (jk j s hj Je k hk).2
     · exact h.dr j l s s' hjl Je hs2 k hk
 · exact (T k u (h.ext _ _ hk) fun hc => by rw [(h.dm i r hr k hc).2.2] at hk; cases hk).1
end
end TwW
end
