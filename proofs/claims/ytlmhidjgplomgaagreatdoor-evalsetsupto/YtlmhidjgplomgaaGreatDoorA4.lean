/-
  Part 4 of the proof that the law EvalSetsUptoCardSaid of the given program answers true for every input of the given statement; the input reads behind the call as it did. (The texts: packed from 29 texts. Names are shortened by the packing program, for the bound on size.)
-/
import Derived.Test.YtlmhidjgplomgaaGreatDoorA3
import Derived.Shelf.Strings.Search3
import Derived.Shelf.Strings.Split
import Derived.Test.YtlmhidjgplomgaaGreatDoorProg
import Derived.Lib.IndexMore
import Derived.Shelf.SlSortCmp.NoneTotal
import Derived.Shelf.SlGeneric
import Derived.Ground.SlsfProg
set_option linter.all false
section
namespace TwW
open Go Tw Go.RowKit Go.Proofs.Tryz
def IZ (x : Nat) : Bool := !(FloatKind.f64.format.order x x == some .eq)
def toF (x : Nat) : Nat := if IZ x then 9221120237041090560 else x
theorem TV (d : Ieee.Datum) : d.order d = if d.isNaN then none else some .eq := by
 cases d with
 | nan => rfl
 | infinity s => cases s <;> rfl
 | number s m i => simp [Ieee.Datum.order,Ieee.Datum.isNaN,Std.ReflCmp.compare_self]
theorem LV (x : Nat) : IZ x = true ↔ 9218868437227405312 < x % 9223372036854775808 := by
 have h1 : IZ x = (Ieee.double.read x).isNaN := by
   show (!((Ieee.double.read x).order (Ieee.double.read x) == some .eq)) = _
   rw [TV]
   cases (Ieee.double.read x).isNaN <;> rfl
 rw [h1]
 have e1 : Ieee.double.signWeight = 9223372036854775808 := by decide
 have e2 : Ieee.double.binade = 4503599627370496 := by decide
 have e3 : Ieee.double.infRung = 9218868437227405312 := by decide
 unfold Ieee.Format.read
 simp only [e1,e2,e3]
 split
 · simp [Ieee.Datum.isNaN]; omega
 · split
   · simp [Ieee.Datum.isNaN]; omega
   · split
     · simp [Ieee.Datum.isNaN]; omega
     · simp [Ieee.Datum.isNaN]; omega
theorem ZR : IZ 9221120237041090560 = true := (LV _).2 (by decide)
theorem dD (a b t : Nat) : IZ (Question.cut (.nanBits .f64 a b) t) = true := by
 rw [LV]
 show 9218868437227405312 < ((t % 2) * 9223372036854775808 + 9218868437227405312 + 1 + (t / 2) % 4503599627370495) % 9223372036854775808
 have h1 := Nat.mod_lt (t / 2) (show 0 < 4503599627370495 by decide)
 generalize (t / 2) % 4503599627370495 = r at *
 rcases Nat.mod_two_eq_zero_or_one t with h | h <;> rw [h] <;> omega
theorem toF_drawn (a b t : Nat) : toF (Question.cut (.nanBits .f64 a b) t) = 9221120237041090560 := by unfold toF; rw [dD]; rfl
def fAr (op : Int) (a b : Nat) : Option Nat := if op = 1 then Ieee.double.add a b else if op = 2 then Ieee.double.sub a b else if op = 3 then Ieee.double.mul a b else Ieee.double.div a b
def AHj : Option Nat → Nat
 | some r => toF r
 | none => 9221120237041090560
def ANI (a b : Nat) : Option Nat → Sem Value
 | some r => pure (.float .f64 r)
 | none => do pure (.float .f64 (← choose (.nanBits .f64 a b)))
def Wp (op : Int) (a b : Nat) : Nat := AHj (fAr op a b)
def fCm (op : Int) (a b : Nat) : Bool :=
 let c := Ieee.double.order a b
 if op = 5 then c == some .eq else if op = 6 then c != some .eq else if op = 7 then c == some .lt else if op = 8 then c == some .lt || c == some .eq else if op = 9 then c == some .gt else if op = 10 then c == some .gt || c == some .eq else false
section
variable [FB] {σ : Hp} {R : Rr}
theorem OB {b : Nat} : YN prog 45 #[.float .f64 b] σ (.int .u64 b) := fun w _ => by
 rw [run_callFunc_extern Go.Proofs.Tryz.func45 (by kernel_rfl) (by kernel_rfl) (by kernel_rfl) (e := Extern.MathFloatBits.float64bits) (by kernel_rfl)]
 rfl
theorem pE {x : Int} : YN prog 22 #[.int .u64 x] σ (.float .f64 x.toNat) := fun w _ => by
 rw [run_callFunc_extern Go.Proofs.Tryz.func22 (by kernel_rfl) (by kernel_rfl) (by kernel_rfl) (e := Extern.MathFloatBits.float64frombits) (by kernel_rfl)]
 rfl
theorem dE {x : Nat} (h : R (.returned (.bool (IZ x))) σ) : Spec prog 216 #[.float .f64 x] σ R :=
 R9.start ⟨IZ x,fun w _ => rfl,h⟩
theorem Gh {x : Int} (h : R (.returned (.float .f64 x.toNat)) σ) : Spec prog 182 #[.int .u64 x] σ R :=
 fP.start (.y pE ⟨_,rfl,h⟩)
theorem Gi {x : Nat} (h : R (.returned (.int .u64 (toF x : Nat))) σ) : Spec prog 174 #[.float .f64 x] σ R := by
 refine fi.start (dE ⟨_,rfl,fun ht => ?_,fun hf => .y OB ⟨_,rfl,?_⟩⟩)
 · rw [show toF x = 9221120237041090560 by unfold toF; rw [ht]; rfl] at h; exact h
 · rw [show toF x = x by unfold toF; rw [hf]; rfl] at h; exact h
def dF (x : Int) : Int := (toF x.toNat : Nat)
theorem F7 {x : Int} (h : R (.returned (.int .u64 (dF x))) σ) : Spec prog 186 #[.int .u64 x] σ R :=
 Pz.start (Gh ⟨_,rfl,Gi ⟨_,rfl,h⟩⟩)
theorem pF {m : Sem Value} {q : Question} {f : Nat → Value} {Φ : Value → Hp → Prop} (hm : ∀ w,m.run prog w = .ok (f (q.cut (w.tape w.drawn q))) { w with drawn := w.drawn + 1 }) (h : ∀ t,Φ (f (q.cut t)) σ) : AK prog m σ Φ := fun w F hs hF =>
 ⟨_,_,σ,hm w,h _,⟨fun b o hb => hs b o hb,fun b hb => ⟨(hF b hb).2,rfl⟩,(Cq.same rfl rfl rfl).drew,rfl,Nat.le_refl _⟩⟩
theorem TW {m : Sem Value} {v : Value} {Φ : Value → Hp → Prop} (hm : ∀ w,m.run prog w = .ok v w) (h : Φ v σ) : AK prog m σ Φ := fun w F hs hF =>
 ⟨_,_,σ,hm w,h,⟨hs,fun b hb => ⟨(hF b hb).2,rfl⟩,.same rfl rfl rfl,rfl,Nat.le_refl _⟩⟩
theorem MF {op : BinOp} {a b : Nat} {Φ : Value → Hp → Prop} (r : Option Nat) (hr : ∀ w,(Go.binOp op 51 (.float .f64 a) (.float .f64 b)).run prog w = (ANI a b r).run prog w)
   (h : ∀ x : Nat,toF x = AHj r → Φ (.float .f64 x) σ) : AK prog (Go.binOp op 51 (.float .f64 a) (.float .f64 b)) σ Φ := by
 cases r with
 | some r => exact TW (v := .float .f64 r) (fun w => (hr w).trans rfl) (h r rfl)
 | none => exact pF (q := .nanBits .f64 a b) (f := fun x => .float .f64 x) (fun w => (hr w).trans rfl) (fun t => h _ (toF_drawn a b t))
theorem RE {a b : Nat} {Φ : Value → Hp → Prop} (h : ∀ x : Nat,toF x = Wp 1 a b → Φ (.float .f64 x) σ) : AK prog (Go.binOp .add 51 (.float .f64 a) (.float .f64 b)) σ Φ :=
 MF (Ieee.double.add a b) (fun w => by refine (show _ = (Op.floatArith .add .f64 a b).run prog w from rfl).trans ?_; unfold Op.floatArith; simp only [FloatKind.format]; cases Ieee.double.add a b <;> rfl) h
theorem uI {a b : Nat} {Φ : Value → Hp → Prop} (h : ∀ x : Nat,toF x = Wp 2 a b → Φ (.float .f64 x) σ) : AK prog (Go.binOp .sub 51 (.float .f64 a) (.float .f64 b)) σ Φ :=
 MF (Ieee.double.sub a b) (fun w => by refine (show _ = (Op.floatArith .sub .f64 a b).run prog w from rfl).trans ?_; unfold Op.floatArith; simp only [FloatKind.format]; cases Ieee.double.sub a b <;> rfl) h
theorem OC {a b : Nat} {Φ : Value → Hp → Prop} (h : ∀ x : Nat,toF x = Wp 3 a b → Φ (.float .f64 x) σ) : AK prog (Go.binOp .mul 51 (.float .f64 a) (.float .f64 b)) σ Φ :=
 MF (Ieee.double.mul a b) (fun w => by refine (show _ = (Op.floatArith .mul .f64 a b).run prog w from rfl).trans ?_; unfold Op.floatArith; simp only [FloatKind.format]; cases Ieee.double.mul a b <;> rfl) h
theorem fz {a b : Nat} {Φ : Value → Hp → Prop} (h : ∀ x : Nat,toF x = Wp 4 a b → Φ (.float .f64 x) σ) : AK prog (Go.binOp .quo 51 (.float .f64 a) (.float .f64 b)) σ Φ :=
 MF (Ieee.double.div a b) (fun w => by refine (show _ = (Op.floatArith .quo .f64 a b).run prog w from rfl).trans ?_; unfold Op.floatArith; simp only [FloatKind.format]; cases Ieee.double.div a b <;> rfl) h
def RF (op a b : Int) : Int := (Wp op a.toNat b.toNat : Nat)
theorem JT {op a b : Int} (h : R (.returned (if 1 ≤ op ∧ op ≤ 4 then .tuple #[.int .u64 (RF op a b),.bool true] else .tuple #[.int .u64 0,.bool false])) σ) : Spec prog 203 #[.int .i64 op,.int .u64 a,.int .u64 b] σ R := by
 refine S8.start (Gh ⟨_,rfl,Gh ⟨_,rfl,fun h1 => RE fun x hx => ⟨_,rfl,Gi ⟨_,rfl,?_⟩⟩,fun h1 => ⟨fun h2 => uI fun x hx => ⟨_,rfl,Gi ⟨_,rfl,?_⟩⟩,fun h2 => ⟨fun h3 => OC fun x hx => ⟨_,rfl,Gi ⟨_,rfl,?_⟩⟩,fun h3 => ⟨fun h4 => fz fun x hx => ⟨_,rfl,Gi ⟨_,rfl,?_⟩⟩,fun h4 => ?_⟩⟩⟩⟩⟩)
 · subst h1; rw [hx]; exact h
 · subst h2; rw [hx]; exact h
 · subst h3; rw [hx]; exact h
 · subst h4; rw [hx]; exact h
 · rw [if_neg (by omega)] at h; exact h
end
end TwW
end
section
namespace TwW
open Go Tw Go.RowKit Go.Proofs.Tryz
section
variable [FB] {σ : Hp} {R : Rr}
def ZS (op a b : Int) : Bool := fCm op a.toNat b.toNat
theorem JU {op a b : Int} (h : R (.returned (.tuple #[.bool (ZS op a b),.bool (decide (5 ≤ op ∧ op ≤ 10))])) σ) : Spec prog 204 #[.int .i64 op,.int .u64 a,.int .u64 b] σ R := by
 have fin : ∀ {k : Int} {t : Bool},op = k → 5 ≤ k → k ≤ 10 → fCm k a.toNat b.toNat = t → R (.returned (.tuple #[.bool t,.bool true])) σ := fun hk h5 TP ht => by
   subst hk
   rw [show ZS op a b = fCm op a.toNat b.toNat from rfl,ht,show decide (5 ≤ op ∧ op ≤ 10) = true from decide_eq_true ⟨h5,TP⟩] at h
   exact h
 refine N3.start (Gh ⟨_,rfl,Gh ⟨_,rfl,
   fun h1 => ⟨_,fun w _ => rfl,fin h1 (by decide) (by decide) rfl⟩,fun h1 =>
   ⟨fun h2 => ⟨_,fun w _ => rfl,fin h2 (by decide) (by decide) rfl⟩,fun h2 =>
   ⟨fun h3 => ⟨_,fun w _ => rfl,fin h3 (by decide) (by decide) rfl⟩,fun h3 =>
   ⟨fun h4 => ⟨_,fun w _ => rfl,fin h4 (by decide) (by decide) rfl⟩,fun h4 =>
   ⟨fun h5 => ⟨_,fun w _ => rfl,fin h5 (by decide) (by decide) rfl⟩,fun h5 =>
   ⟨fun h6 => ⟨_,fun w _ => rfl,fin h6 (by decide) (by decide) rfl⟩,fun h6 => ?_⟩⟩⟩⟩⟩⟩⟩)
 rw [show decide (5 ≤ op ∧ op ≤ 10) = false from decide_eq_false (by omega),show ZS op a b = false by unfold ZS fCm; simp only [h1,h2,h3,h4,h5,h6,if_false]] at h
 exact h
def Wq (x : Int) : Int := (toF (Go.bits .andNot .u64 x 9223372036854775808).toNat : Nat)
theorem pG {x : Int} (hx : 0 ≤ x) (h : R (.returned (.int .u64 (Wq x))) σ) : Spec prog 144 #[.int .u64 x] σ R := by
 refine N1.start (Gh ⟨_,rfl,YL.start (.y OB ⟨_,rfl,fun x5 h5 => .y pE ⟨_,rfl,_,rfl,Gi ⟨_,rfl,?_⟩⟩⟩)⟩)
 rw [show Wq x = (toF x5.toNat : Nat) by unfold Wq; rw [h5,Int.toNat_of_nonneg hx]] at h
 exact h
def LX (x : Nat) : Nat := match Ieee.double.read x with
 | .nan _ _ => 9221120237041090560
 | d => toF (Ieee.double.write (d.integral .down))
def NI (x : Int) : Int := (LX x.toNat : Nat)
theorem VU (x : Nat) : IZ x = (Ieee.double.read x).isNaN := by
 show (!((Ieee.double.read x).order (Ieee.double.read x) == some .eq)) = _
 rw [TV]
 cases (Ieee.double.read x).isNaN <;> rfl
theorem dG (s : Bool) (t : Nat) : IZ (Ieee.double.write (.nan s (Ieee.double.quiet t))) = true := by
 rw [LV]
 have e1 : Ieee.double.signWeight = 9223372036854775808 := by decide
 have e2 : Ieee.double.binade = 4503599627370496 := by decide
 have e3 : Ieee.double.infRung = 9218868437227405312 := by decide
 have hp : (Ieee.double.quiet t % 4503599627370496).testBit 51 = true := by
   rw [show 4503599627370496 = 2 ^ 52 from rfl,Nat.testBit_mod_two_pow]
   show (decide (51 < 52) && (t ||| 2 ^ 51).testBit 51) = true
   rw [Nat.testBit_or,Nat.testBit_two_pow_self]
   simp
 have hp0 : 0 < Ieee.double.quiet t % 4503599627370496 := by
   apply Nat.pos_of_ne_zero
   intro h0
   rw [h0] at hp
   simp at hp
 have Aq := Nat.mod_lt (Ieee.double.quiet t) (show 0 < 4503599627370496 by decide)
 show 9218868437227405312 < Ieee.double.word s (Ieee.double.infRung + Ieee.double.quiet t % Ieee.double.binade) % 9223372036854775808
 unfold Ieee.Format.word
 rw [e1,e2,e3]
 generalize Ieee.double.quiet t % 4503599627370496 = p at *
 cases s
 · rw [if_neg (by decide)]; omega
 · rw [if_pos rfl]; omega
def flo (x : Nat) : Sem Value := match Ieee.double.read x with
 | .nan s t => if Ieee.double.quiet t = t then pure (.float .f64 x) else do
   let kept ← choose (.extern "math.Floor,Ceil,Trunc,RoundToEven.signallingNaN kept" 2)
   pure (.float .f64 (if kept == 1 then x else Ieee.double.write (.nan s (Ieee.double.quiet t))))
 | d => pure (.float .f64 (Ieee.double.write (d.integral .down)))
theorem pH {x : Nat} {Φ : Value → Hp → Prop} (h : ∀ y : Nat,toF y = LX x → Φ (.float .f64 y) σ) : EN prog 222 #[.float .f64 x] σ Φ := by
 have Cr : ∀ w,(callFunc 222 #[.float .f64 x]).run prog w = ((flo x).run prog w).andThen fun v w' => .ok (.value v) w' := fun w => by
   rw [run_callFunc_extern Go.Proofs.Tryz.func222 (by kernel_rfl) (by kernel_rfl) (by kernel_rfl) (e := Extern.MathFloor.toIntegral "math.archFloor" .down) (by kernel_rfl)]
   rfl
 have same : ∀ y,flo x = pure (.float .f64 y) → toF y = LX x → EN prog 222 #[.float .f64 x] σ Φ := fun y hy hf => .y (v := .float .f64 y) (fun w _ => by rw [Cr,hy]; rfl) (h y hf)
 cases hd : Ieee.double.read x with
 | number s m i => exact same _ (by unfold flo; rw [hd]) (by unfold LX; rw [hd])
 | infinity s => exact same _ (by unfold flo; rw [hd]) (by unfold LX; rw [hd])
 | nan s t =>
   have hx : IZ x = true := by rw [VU,hd]; rfl
   have hn : LX x = 9221120237041090560 := by unfold LX; rw [hd]
   have e1 : toF x = 9221120237041090560 := by unfold toF; rw [hx]; rfl
   by_cases hq : Ieee.double.quiet t = t
   · exact same x (by unfold flo; rw [hd]; simp only [hq,if_true]) (by rw [e1,hn])
   · intro w F hs hF
     refine ⟨.float .f64 (if (Question.cut (.extern "math.Floor,Ceil,Trunc,RoundToEven.signallingNaN kept" 2) (w.tape w.drawn (.extern "math.Floor,Ceil,Trunc,RoundToEven.signallingNaN kept" 2))) == 1 then x else Ieee.double.write (.nan s (Ieee.double.quiet t))),{ w with drawn := w.drawn + 1 },σ,?_,?_,⟨fun b o hb => hs b o hb,fun b hb => ⟨(hF b hb).2,rfl⟩,(Cq.same rfl rfl rfl).drew,rfl,Nat.le_refl _⟩⟩
     · rw [Cr]
       unfold flo
       rw [hd]
       simp only [hq,if_false]
       rfl
     · refine h _ ?_
       rw [hn]
       split
       · exact e1
       · unfold toF; rw [dG]; rfl
theorem dH {x : Int} (h : R (.returned (.int .u64 (NI x))) σ) : Spec prog 145 #[.int .u64 x] σ R :=
 JL.start (Gh ⟨_,rfl,TJ.start (pH fun y hy => ⟨_,rfl,_,rfl,Gi ⟨_,rfl,by rw [hy]; exact h⟩⟩)⟩)
def BN (n : Int) : Int := (FloatKind.f64.nearest n : Nat)
theorem JV {n : Int} (h : R (.returned (.int .u64 (BN n))) σ) : Spec prog 143 #[.int .i64 n] σ R :=
 TI.start (TW (v := .float .f64 (FloatKind.f64.nearest n)) (fun w => by kernel_rfl) ⟨_,rfl,.y OB ⟨_,rfl,h⟩⟩)
theorem dI {b : Bool} (h : R (.returned (.int .u64 (if b then BN 1 else BN 0))) σ) : Spec prog 205 #[.bool b] σ R :=
 S9.start ⟨fun ht => JV ⟨_,rfl,by rw [ht] at h; exact h⟩,fun hf => JV ⟨_,rfl,by rw [hf] at h; exact h⟩⟩
theorem ZT {a b : Int} (h : R (.returned (.int .u64 (RF 1 a b))) σ) : Spec prog 201 #[.int .u64 a,.int .u64 b] σ R := eval_add.start (JT ⟨_,_,rfl,h⟩)
theorem ZU {a b : Int} (h : R (.returned (.int .u64 (RF 2 a b))) σ) : Spec prog 190 #[.int .u64 a,.int .u64 b] σ R := Y0.start (JT ⟨_,_,rfl,h⟩)
theorem ZV {a b : Int} (h : R (.returned (.int .u64 (RF 4 a b))) σ) : Spec prog 194 #[.int .u64 a,.int .u64 b] σ R := YX.start (JT ⟨_,_,rfl,h⟩)
theorem pI {a : Int} (h : R (.returned (.bool (decide (dF a = 9221120237041090560)))) σ) : Spec prog 229 #[.int .u64 a] σ R := YY.start (F7 ⟨_,rfl,h⟩)
def pJ (x : Int) : Int := dF (Go.bits .xor .u64 x 9223372036854775808)
theorem QA {x : Int} (h : R (.returned (.int .u64 (pJ x))) σ) : Spec prog 162 #[.int .u64 x] σ R := P4.start fun x4 h4 => F7 ⟨_,rfl,by rw [h4]; exact h⟩
end
end TwW
end
section
namespace TwW
open Go Tw Go.RowKit Go.Proofs.Tryz
section
variable [FB] {σ : Hp} {R : Rr}
def Uf : List Int → Int
 | [] => 0
 | v :: l => l.foldl (RF 1) (dF v)
theorem TX {p : Option Addr} {n c : Nat} {vs : List Int} (hr : FJ .u64 σ p n vs) (h0 : 0 < n) (hc : n ≤ c) (h : R (.returned (.int .u64 (Uf vs))) σ) : Spec prog 151 #[.slice p n c] σ R := by
 have hl : vs.length = n := hr.1
 obtain ⟨v,hv⟩ := hr.ex h0
 obtain ⟨b,o,rfl,Eb⟩ := FJ.at hr hv
 refine F0.start ⟨b,o,rfl,by omega,v,by simpa using Eb,F7 ⟨_,rfl,by omega,?_⟩⟩
 have hs : FJ .u64 σ (Ir (aD b o) 1 c 1) (n - 1) ((vs.drop 1).take (n - 1)) := Ab.sub hr (by decide) (by omega) hc
 have hd : (vs.drop 1).take (n - 1) = vs.tail := by rw [List.drop_one,List.take_of_length_le (by rw [List.length_tail]; omega)]
 rw [hd] at hs
 have fB : vs = v :: vs.tail := by
   cases vs with
   | nil => cases hv
   | cons a l => simp only [List.getElem?_cons_zero,Option.some.injEq] at hv; rw [hv]; rfl
 rw [fB] at h
 change R (.returned (.int .u64 (vs.tail.foldl (RF 1) (dF v)))) σ at h
 generalize Ir (aD b o) 1 c 1 = q at *
 suffices H : ∀ g k : Nat,∀ (q' : Option Addr) (a : Int),(0 < n - 1 → q' = q) → n - 1 - k = g → k ≤ n - 1 → vs.tail.foldl (RF 1) (dF v) = (vs.tail.drop k).foldl (RF 1) a → F0.BA R a q (n - 1) (c - 1) ((n - 1 : Nat) : Int) k σ from H (n - 1) 0 q (dF v) (fun _ => rfl) (by omega) (by omega) rfl
 intro g
 induction g with
 | zero =>
   intro k q' a _ hg hk he
   refine F0.AZ ⟨fun Aq => by omega,fun _ => ?_⟩
   rw [List.drop_eq_nil_of_le (by rw [List.length_tail]; omega)] at he
   rw [he] at h; exact h
 | succ g ih =>
   intro k q' a hq hg hk he
   obtain ⟨x,hx⟩ := hs.ex (k := k) (by omega)
   obtain ⟨b',o',rfl,Qk⟩ := FJ.at hs hx
   rw [BD hx] at he
   refine F0.AZ ⟨fun _ => ⟨b',o',rfl,by omega,x,by simpa using Qk,ZT ⟨_,rfl,AL (by omega : k < n - 1) hs.big,ih (k + 1) _ _ (fun _ => rfl) (by omega) (by omega) he⟩⟩,fun hh => by omega⟩
theorem NJ {p : Option Addr} {n c : Nat} (h : R (.returned (.int .u64 (BN n))) σ) : Spec prog 155 #[.slice p n c] σ R :=
 G5.start (JV ⟨_,rfl,h⟩)
theorem OD {p : Option Addr} {n c : Nat} {vs : List Int} (hr : FJ .u64 σ p n vs) (h0 : 0 < n) (hc : n ≤ c) (h : R (.returned (.int .u64 (RF 4 (Uf vs) (BN n)))) σ) : Spec prog 154 #[.slice p n c] σ R :=
 Ex.start (TX hr h0 hc ⟨_,rfl,NJ ⟨_,rfl,ZV ⟨_,rfl,h⟩⟩⟩)
def ZW (op : Int) (out v : Int) : Int := if ZS op v out = true ∨ dF out = 9221120237041090560 then v else out
def LY (op : Int) : List Int → Int
 | [] => 0
 | v :: l => dF (l.foldl (ZW op) v)
theorem VV {op : Int} {p : Option Addr} {n c : Nat} {vs : List Int} (hr : FJ .u64 σ p n vs) (h0 : 0 < n) (hc : n ≤ c) (h : R (.returned (.int .u64 (LY op vs))) σ) : Spec prog 202 #[.int .i64 op,.slice p n c] σ R := by
 have hl : vs.length = n := hr.1
 obtain ⟨v,hv⟩ := hr.ex h0
 obtain ⟨b,o,rfl,Eb⟩ := FJ.at hr hv
 refine FU.start ⟨b,o,rfl,by omega,v,by simpa using Eb,by omega,?_⟩
 have hs : FJ .u64 σ (Ir (aD b o) 1 c 1) (n - 1) ((vs.drop 1).take (n - 1)) := Ab.sub hr (by decide) (by omega) hc
 have hd : (vs.drop 1).take (n - 1) = vs.tail := by rw [List.drop_one,List.take_of_length_le (by rw [List.length_tail]; omega)]
 rw [hd] at hs
 have fB : vs = v :: vs.tail := by
   cases vs with
   | nil => cases hv
   | cons a l => simp only [List.getElem?_cons_zero,Option.some.injEq] at hv; rw [hv]; rfl
 rw [fB] at h
 change R (.returned (.int .u64 (dF (vs.tail.foldl (ZW op) v)))) σ at h
 generalize Ir (aD b o) 1 c 1 = q at *
 suffices H : ∀ g k : Nat,∀ (a : Int),n - 1 - k = g → k ≤ n - 1 → vs.tail.foldl (ZW op) v = (vs.tail.drop k).foldl (ZW op) a → FU.BA R op a q (n - 1) (c - 1) ((n - 1 : Nat) : Int) k σ from H (n - 1) 0 v (by omega) (by omega) rfl
 intro g
 induction g with
 | zero =>
   intro k a hg hk he
   refine FU.AZ ⟨fun Aq => by omega,fun _ => F7 ⟨_,rfl,?_⟩⟩
   rw [List.drop_eq_nil_of_le (by rw [List.length_tail]; omega)] at he
   rw [he] at h; exact h
 | succ g ih =>
   intro k a hg hk he
   obtain ⟨x,hx⟩ := hs.ex (k := k) (by omega)
   obtain ⟨b',o',rfl,Qk⟩ := FJ.at hs hx
   rw [BD hx,List.foldl_cons] at he
   have go : ∀ y,ZW op a x = y → FU.mB R op y (aD b' o') (n - 1) (c - 1) ((n - 1 : Nat) : Int) k σ := fun y hy => FU.tM ⟨AL (by omega : k < n - 1) hs.big,ih (k + 1) y (by omega) (by omega) (by rw [← hy]; exact he)⟩
   refine FU.AZ ⟨fun _ => ⟨b',o',rfl,by omega,x,by simpa using Qk,JU ⟨_,_,rfl,fun ht => go x (by unfold ZW; rw [if_pos (.inl ht)]),fun hf => pI ⟨_,rfl,fun ht => go x ?_,fun hn => go a ?_⟩⟩⟩,fun hh => by omega⟩
   · unfold ZW; rw [if_pos (.inr (of_decide_eq_true ht))]
   · unfold ZW; rw [if_neg (by
                                 rintro (h1 | h1)
                                 · rw [h1] at hf; cases hf
                                 · exact absurd h1 (of_decide_eq_false hn))]
theorem TY {p : Option Addr} {n c : Nat} {vs : List Int} (hr : FJ .u64 σ p n vs) (h0 : 0 < n) (hc : n ≤ c) (h : R (.returned (.int .u64 (LY 7 vs))) σ) : Spec prog 152 #[.slice p n c] σ R := HB.start (VV hr h0 hc ⟨_,rfl,h⟩)
theorem Mq {p : Option Addr} {n c : Nat} {vs : List Int} (hr : FJ .u64 σ p n vs) (h0 : 0 < n) (hc : n ≤ c) (h : R (.returned (.int .u64 (LY 9 vs))) σ) : Spec prog 153 #[.slice p n c] σ R := D2.start (VV hr h0 hc ⟨_,rfl,h⟩)
def LZ (out : Int) (p : Int × Int) : Int := if ZS 7 p.2 p.1 = true then RF 1 out p.1 else out
def La (vs : List Int) : Int := (vs.zip vs.tail).foldl LZ (RF 2 (vs.getLast?.getD 0) (vs.head?.getD 0))
theorem TZ {p : Option Addr} {n c : Nat} {vs : List Int} (hr : FJ .u64 σ p n vs) (h0 : 0 < n) (h : R (.returned (.int .u64 (La vs))) σ) : Spec prog 192 #[.slice p n c] σ R := by
 have hl : vs.length = n := hr.1
 have NF := hr.big
 obtain ⟨v,hv⟩ := hr.ex h0
 obtain ⟨z,hz⟩ := hr.ex (k := n - 1) (by omega)
 obtain ⟨b,o,rfl,Eb⟩ := FJ.at hr hv
 obtain ⟨_,_,he,xq⟩ := FJ.at hr hz
 cases he
 have e1 : Int.toNat ((n : Int) - 1) = n - 1 := by omega
 refine EK.start ⟨by unfold AJ; omega,b,o,rfl,by omega,z,by rw [e1]; exact xq,by omega,v,by simpa using Eb,ZU ⟨_,rfl,?_⟩⟩
 have AHk : La vs = (vs.zip vs.tail).foldl LZ (RF 2 z v) := by
   unfold La
   rw [List.getLast?_eq_getElem?,hl,hz,List.head?_eq_getElem?,hv]; rfl
 rw [AHk] at h
 suffices H : ∀ g k : Nat,∀ a : Int,n - 1 - k = g → k ≤ n - 1 → (vs.zip vs.tail).foldl LZ (RF 2 z v) = ((vs.zip vs.tail).drop k).foldl LZ a → EK.Bh R (aD b o) n c a ((k + 1 : Nat) : Int) σ from H (n - 1) 0 _ (by omega) (by omega) rfl
 have hlen : (vs.zip vs.tail).length = n - 1 := by rw [List.length_zip,List.length_tail]; omega
 intro g
 induction g with
 | zero =>
   intro k a hg hk he
   refine EK.A3 ⟨fun Aq => by omega,fun _ => ?_⟩
   rw [List.drop_eq_nil_of_le (by omega)] at he
   rw [he] at h; exact h
 | succ g ih =>
   intro k a hg hk he
   obtain ⟨x,hx⟩ := hr.ex (k := k) (by omega)
   obtain ⟨y,hy⟩ := hr.ex (k := k + 1) (by omega)
   obtain ⟨_,_,h1,Qk⟩ := FJ.at hr hx
   obtain ⟨_,_,h2,UL⟩ := FJ.at hr hy
   cases h1; cases h2
   have ANJ : (vs.zip vs.tail)[k]? = some (x,y) := by
     rw [List.getElem?_zip_eq_some]
     exact ⟨hx,by rw [List.getElem?_tail]; exact hy⟩
   rw [BD ANJ,List.foldl_cons] at he
   have e2 : Int.toNat (((k + 1 : Nat) : Int) - 1) = k := by omega
   have e3 : Int.toNat ((k + 1 : Nat) : Int) = k + 1 := by omega
   have go : ∀ w,LZ a (x,y) = w → EK.QT R (aD b o) n c w ((k + 1 : Nat) : Int) σ := fun w hw => EK.MA ⟨AL (by omega : k + 1 < n) hr.big,ih (k + 1) w (by omega) (by omega) (by rw [← hw]; exact he)⟩
   refine EK.A3 ⟨fun _ => ⟨b,o,rfl,by omega,y,by rw [e3]; exact UL,by unfold AJ; omega,by omega,x,by rw [e2]; exact Qk,JU ⟨_,_,rfl,fun ht => ⟨by unfold AJ; omega,by omega,x,by rw [e2]; exact Qk,ZT ⟨_,rfl,go _ ?_⟩⟩,fun hf => go _ ?_⟩⟩,fun hh => by omega⟩
   · unfold LZ; rw [if_pos ht]
   · unfold LZ; rw [if_neg (by rw [hf]; decide)]
end
end TwW
end
section
namespace TwW
open Go Tw Go.RowKit Go.Proofs.Tryz
theorem ZX {x : Nat} (h : IZ x = true) : ∃ s t,Ieee.double.read x = .nan s t := by
 rw [VU] at h
 cases hd : Ieee.double.read x with
 | nan s t => exact ⟨s,t,rfl⟩
 | number => rw [hd] at h; cases h
 | infinity => rw [hd] at h; cases h
theorem xr {op : Int} {a b : Nat} (h : IZ a = true) : fAr op a b = none := by
 obtain ⟨s,t,hr⟩ := ZX h
 unfold fAr Ieee.Format.add Ieee.Format.sub Ieee.Format.mul Ieee.Format.div
 rw [hr]
 simp [Ieee.Datum.sum,Ieee.Datum.product,Ieee.Datum.quotient]
theorem xt {op : Int} {a b : Nat} (h : IZ b = true) : fAr op a b = none := by
 obtain ⟨s,t,hr⟩ := ZX h
 unfold fAr Ieee.Format.add Ieee.Format.sub Ieee.Format.mul Ieee.Format.div
 rw [hr]
 cases Ieee.double.read a <;> simp [Ieee.Datum.sum,Ieee.Datum.product,Ieee.Datum.quotient,Ieee.Datum.opposite]
theorem Ta (op : Int) (a b : Nat) : Wp op (toF a) (toF b) = Wp op a b := by
 unfold Wp
 by_cases ha : IZ a = true
 · rw [xr ha,show toF a = 9221120237041090560 by unfold toF; rw [ha]; rfl,xr ZR]
 · rw [show toF a = a by unfold toF; rw [if_neg ha]]
   by_cases hb : IZ b = true
   · rw [xt hb,show toF b = 9221120237041090560 by unfold toF; rw [hb]; rfl,xt ZR]
   · rw [show toF b = b by unfold toF; rw [if_neg hb]]
abbrev cN : Nat := 4604544271217802189
abbrev dN : Nat := 13827916308072577997
abbrev AHl : Nat := 4607182418800017408
abbrev AHm : Nat := 13830554455654793216
def dJ : List (Nat × Nat) := [(AHl,0),(cN,dN),(0,AHm),(dN,dN),(AHm,0),(dN,cN),(0,AHl),(cN,cN)]
def Tc (j n : Nat) : List Int → Nat → Nat × Nat → Nat × Nat
 | [],_,a => a
 | x :: l,k,a =>
   let w := dJ.getD ((j * k % n) * (8 / n)) (0,0)
   Tc j n l (k + 1) (Wp 1 a.1 (Wp 3 x.toNat w.1),Wp 1 a.2 (Wp 3 x.toNat w.2))
def uJ (vs : List Int) : Nat :=
 let l := Tc (1 % vs.length) vs.length vs 0 (0,0)
 Wp 1 (Wp 3 l.1 l.1) (Wp 3 l.2 l.2)
section
variable [FB] {σ : Hp} {R : Rr}
theorem Wr {x y : Nat} (h : x ^^^ 9223372036854775808 = y) : YF prog (Op.unary .neg (.float .f64 x)) σ (.float .f64 y) := fun w _ => by subst h; rfl
theorem Ug (h : ∀ b T σ',σ b = none → σ' = σ.set b (.cells (dJ.map fun p => .complex .f64 p.1 p.2).toArray T (0,0)) → R (.returned (.slice (aD b 0) 8 8)) σ') : Spec prog 263 #[] σ R := by
 refine Mj.start (Gh ⟨_,rfl,dN,Wr (by decide),_,_,fun w _ => rfl,dN,Wr (by decide),dN,Wr (by decide),_,_,fun w _ => rfl,dN,Wr (by decide),_,_,fun w _ => rfl,_,_,fun w _ => rfl,fun b hb => ?_⟩)
 exact h b _ _ hb rfl
theorem jI {j : Nat} (hj : j ≤ 1) {p : Option Addr} {n c : Nat} {vs : List Int} (hr : FJ .u64 σ p n vs) (hn : n = 1 ∨ n = 2 ∨ n = 4 ∨ n = 8)
   (h : ∀ re im σ',Ext σ σ' → toF re = (Tc j n vs 0 (0,0)).1 → toF im = (Tc j n vs 0 (0,0)).2 → R (.returned (.complex .f64 re im)) σ') : Spec prog 241 #[.slice p n c,.int .i64 j] σ R := by
 have hl : vs.length = n := hr.1
 have z0 : toF 0 = 0 := by
   unfold toF
   rw [if_neg]
   rw [LV]; decide
 refine IQ.start (Ug fun b T σ1 hb JN => ⟨_,_,_,rfl,?_⟩)
 have CO : Ext σ σ1 := by rw [JN]; exact .set hb
 have xu : ∀ k,k < 8 → ∀ re im,dJ[k]? = some (re,im) → σ1.ld ⟨b,0 + k * 1,none⟩ = some (.complex .f64 re im) := fun k hk re im hw => by
   rw [JN]
   unfold Hp.ld
   simp only [Hp.AB]
   have : (dJ.map fun p => Value.complex .f64 p.1 p.2)[k]? = some (.complex .f64 re im) := by rw [List.getElem?_map,hw]; rfl
   simpa using this
 clear JN
 suffices H : ∀ g k : Nat,∀ re im,∀ a : Nat × Nat,n - k = g → k ≤ n → toF re = a.1 → toF im = a.2 → Tc j n vs 0 (0,0) = Tc j n (vs.drop k) k a → IQ.tw R p n c j (aD b 0) 8 8 (.complex .f64 re im) k σ1 from H n 0 0 0 (0,0) rfl (Nat.zero_le _) z0 z0 rfl
 intro g
 induction g with
 | zero =>
   intro k re im a hg hk h1 h2 he
   have XF : k = n := by omega
   subst XF
   rw [List.drop_eq_nil_of_le (by omega)] at he
   refine IQ.fj ⟨fun _ => ?_,fun hh => by omega⟩
   rw [he] at h
   exact h re im σ1 CO h1 h2
 | succ g ih =>
   intro k re im a hg hk h1 h2 he
   have XF : k < n := by omega
   obtain ⟨x,hx⟩ := hr.ex XF
   obtain ⟨b',o',rfl,Eb⟩ := FJ.at hr hx
   rw [BD hx] at he
   have ht : (j : Int) * k = ((j * k : Nat) : Int) := by push_cast; rfl
   have r9 : j * k ≤ 8 := by
     rcases Nat.le_one_iff_eq_zero_or_eq_one.1 hj with h | h <;> subst h <;> omega
   refine IQ.fj ⟨fun hh => by omega,fun _ => ⟨b',o',rfl,by omega,x,by simpa using CO.ld Eb,by unfold AJ; omega,by omega,fun Jz h27 => ⟨by omega,fun SF h30 => ?_⟩⟩⟩
   have e27 : Jz = ((j * k % n : Nat) : Int) := by rw [h27,ht,Int.tmod_eq_emod_of_nonneg (by omega)]; omega
   have e30 : SF = ((8 / n : Nat) : Int) := by rw [h30]; rcases hn with h | h | h | h <;> subst h <;> rfl
   have hm : (j * k % n) * (8 / n) < 8 := by
     have := Nat.mod_lt (j * k) (show 0 < n by omega)
     rcases hn with h | h | h | h <;> subst h <;> simp at * <;> omega
   have ep : Jz * SF = (((j * k % n) * (8 / n) : Nat) : Int) := by rw [e27,e30]; push_cast; rfl
   dsimp only
   rw [ep]
   generalize hq : (j * k % n) * (8 / n) = q at *
   obtain ⟨⟨wr,wi⟩,hw⟩ : ∃ w,dJ[q]? = some w := ⟨_,List.getElem?_eq_getElem (show q < dJ.length from hm)⟩
   have hgd : dJ.getD q (0,0) = (wr,wi) := by rw [List.getD_eq_getElem?_getD,hw]; rfl
   rw [Tc,hq,hgd] at he
   refine ⟨by unfold AJ; omega,b,0,rfl,by omega,wr,wi,by simpa using xu q hm wr wi hw,Gh ⟨_,rfl,fun _ _ _ h => h,re,fun w _ => rfl,wr,fun w _ => rfl,OC fun y hy => ⟨_,rfl,RE fun z hz => ⟨_,rfl,im,fun w _ => rfl,wi,fun w _ => rfl,OC fun y' hy' => ⟨_,rfl,RE fun z' hz' => ⟨_,rfl,z,z',fun w _ => rfl,AL XF hr.big,?_⟩⟩⟩⟩⟩⟩
   refine ih (k + 1) z z' _ (by omega) (by omega) ?_ ?_ he
   · rw [hz,← Ta,h1,hy]
   · rw [hz',← Ta,h2,hy']
theorem dK {p : Option Addr} {n c : Nat} {vs : List Int} (hr : FJ .u64 σ p n vs) (hn : n = 1 ∨ n = 2 ∨ n = 4 ∨ n = 8)
   (h : ∀ σ',Ext σ σ' → R (.returned (.tuple #[.int .u64 (uJ vs : Nat),.int .i64 0])) σ') : Spec prog 225 #[.slice p n c] σ R := by
 have hl : vs.length = n := hr.1
 have GX : ∀ {t : Bool} {Q : Rr},Q (.returned (.bool true)) σ → Spec prog 240 #[.int .i64 n] σ Q := fun hq => VL.start ⟨fun _ => hq,fun h1 => ⟨fun _ => hq,fun h2 => ⟨fun _ => hq,fun h4 => by rw [show decide ((n : Int) = 8) = true from decide_eq_true (by omega)]; exact hq⟩⟩⟩
 refine TA.start (GX (t := true) ?_)
 refine ⟨true,rfl,fun hf => (by cases hf),fun _ => ⟨by omega,fun x12 XL => ?_⟩⟩
 have e12 : x12 = ((1 % n : Nat) : Int) := by rw [XL,Int.tmod_eq_emod_of_nonneg (by omega)]; exact (Int.natCast_emod 1 n).symm
 rw [e12]
 refine jI (Nat.mod_le 1 n) hr hn fun re im σ1 hx h1 h2 => ⟨_,_,rfl,re,fun w _ => rfl,re,fun w _ => rfl,OC fun y hy => ⟨_,rfl,im,fun w _ => rfl,im,fun w _ => rfl,OC fun z hz => ⟨_,rfl,RE fun u hu => ⟨_,rfl,Gi ⟨_,rfl,?_⟩⟩⟩⟩⟩
 have e : toF u = uJ vs := by
   rw [hu,← Ta,hy,hz]
   unfold uJ
   rw [hl]
   dsimp only
   rw [← h1,← h2,Ta,Ta]
 rw [e]
 exact h σ1 hx
def VW (n : Nat) : Nat := if 8 ≤ n then 8 else if 4 ≤ n then 4 else if 2 ≤ n then 2 else 1
def RG (vs : List Int) : Int := (uJ (vs.drop (vs.length - VW vs.length)) : Nat)
theorem Uh {p : Option Addr} {n c : Nat} {vs : List Int} (hr : FJ .u64 σ p n vs) (h0 : 0 < n) (hc : n ≤ c)
   (h : ∀ σ',Ext σ σ' → R (.returned (.int .u64 (RG vs))) σ') : Spec prog 187 #[.slice p n c] σ R := by
 have hl : vs.length = n := hr.1
 have NF := hr.big
 have last : ∀ m : Nat,VW n = m → m ≤ n → (m = 1 ∨ m = 2 ∨ m = 4 ∨ m = 8) → AJ ((n : Int) - m) ∧ ((0 : Int) ≤ ((n : Int) - m) ∧ ((n : Int) - m) ≤ (n : Int)) ∧ Spec prog 225 #[(.slice (Ir p (Int.toNat ((n : Int) - m)) c 1) (n - Int.toNat ((n : Int) - m)) (c - Int.toNat ((n : Int) - m)))] σ (AA R (fun z y => ∃ KC O6,z = (.tuple #[.int .u64 KC,.int .i64 O6]) ∧ R (.returned (.int .u64 KC)) y)) := fun m hm hmn hk => by
   have e : Int.toNat ((n : Int) - m) = n - m := by omega
   rw [e]
   refine ⟨by unfold AJ; omega,by omega,?_⟩
   have hs := Ab.sub (i := n - m) (m := m) hr (by decide) (by omega) hc
   rw [List.take_of_length_le (by rw [List.length_drop]; omega)] at hs
   rw [show n - (n - m) = m by omega]
   refine dK hs hk fun σ' hx => ⟨_,_,rfl,?_⟩
   have := h σ' hx
   unfold RG at this
   rw [hl,hm] at this
   exact this
 have two : ∀ m x : Int,x = IntKind.i64.wrap (Int.tdiv m 2) → (m = 8 ∨ m = 4 ∨ m = 2) → x = m / 2 := fun m x hx hm => by
   rw [hx]; rcases hm with h | h | h <;> subst h <;> rfl
 refine BU.start (BU.Af ⟨fun h8 => ⟨by decide,fun x1 e1 => ?_⟩,fun h8 => last 8 (by unfold VW; rw [if_pos (by omega)]) (by omega) (by omega)⟩)
 have e1 := two _ _ e1 (.inl rfl)
 subst e1
 refine BU.Af ⟨fun h4 => ⟨by decide,fun x2 e2 => ?_⟩,fun h4 => last 4 (by unfold VW; rw [if_neg (by omega),if_pos (by omega)]) (by omega) (by omega)⟩
 have e2 := two _ _ e2 (.inr (.inl (by decide)))
 subst e2
 refine BU.Af ⟨fun h2 => ⟨by decide,fun x3 e3 => ?_⟩,fun h2 => last 2 (by unfold VW; rw [if_neg (by omega),if_neg (by omega),if_pos (by omega)]) (by omega) (by omega)⟩
 have e3 := two _ _ e3 (.inr (.inr (by decide)))
 subst e3
 exact BU.Af ⟨fun h1 => by omega,fun h1 => last 1 (by unfold VW; rw [if_neg (by omega),if_neg (by omega),if_neg (by omega)]) (by omega) (by omega)⟩
end
end TwW
end
section
namespace TwW
open Go Tw Go.RowKit Go.Proofs.Tryz
def Gj (ps : List Pt) (x : Int) : Nat := ps.countP fun q => decide (q.1 ≤ x)
theorem gA {ps : List Pt} {x : Int} {i : Nat} (hi : i ≤ ps.length) (h1 : ∀ k q,k < i → ps[k]? = some q → q.1 ≤ x) (h2 : ∀ k q,i ≤ k → ps[k]? = some q → x < q.1) : Gj ps x = i := by
 unfold Gj
 rw [← List.take_append_drop i ps,List.countP_append]
 have e1 : (ps.take i).countP (fun q => decide (q.1 ≤ x)) = (ps.take i).length := List.countP_eq_length.2 fun q hq => by
   obtain ⟨k,hk⟩ := List.mem_iff_getElem?.1 hq
   rw [List.getElem?_take] at hk
   split at hk
   · rename_i hki; exact decide_eq_true (h1 k q hki hk)
   · cases hk
 have e2 : (ps.drop i).countP (fun q => decide (q.1 ≤ x)) = 0 := List.countP_eq_zero.2 fun q hq => by
   obtain ⟨k,hk⟩ := List.mem_iff_getElem?.1 hq
   rw [List.getElem?_drop] at hk
   have := h2 _ q (Nat.le_add_right i k) hk
   simp; omega
 rw [e1,e2,List.length_take]; omega
def ZY (ps : List Pt) : Prop := ps.Pairwise fun a b => a.1 < b.1
theorem jJ {ps : List Pt} (h : OA ps = true) : ZY ps := by
 have hh := ((LU ps).1 h).2
 unfold ZY
 rw [List.pairwise_iff_getElem]
 intro i j hi hj eZ
 induction j with
 | zero => omega
 | succ j ih =>
   have hs := hh j ps[j] ps[j + 1] (List.getElem?_eq_getElem _) (List.getElem?_eq_getElem _)
   by_cases h : i = j
   · subst h; exact hs
   · exact Int.lt_trans (ih (by omega) (by omega)) hs
theorem gB {ps : List Pt} (h : ZY ps) {i j : Nat} {a b : Pt} (eZ : i < j) (ha : ps[i]? = some a) (hb : ps[j]? = some b) : a.1 < b.1 := by
 obtain ⟨h1,rfl⟩ := List.getElem?_eq_some_iff.1 ha
 obtain ⟨h2,rfl⟩ := List.getElem?_eq_some_iff.1 hb
 exact List.pairwise_iff_getElem.1 h i j h1 h2 eZ
theorem AHp {x : Int} (h0 : 0 ≤ x) (h1 : x < 18446744073709551616) : IntKind.u64.wrap x = x := by simp [IntKind.wrap,IntKind.bits,IntKind.signed]; omega
theorem AHq {x : Int} (h0 : 0 ≤ x) (h1 : x < 9223372036854775808) : IntKind.i64.wrap x = x := by simp [IntKind.wrap,IntKind.bits,IntKind.signed]; omega
section
variable [FB] {σ : Hp} {R : Rr}
theorem gC {f : Nat} (hf : Enters prog f) (uK : ∀ a b x σ' R',R' (.returned (.int .i64 (if a ≤ x then -1 else 1))) σ' → Spec prog f #[.agg #[.int .i64 a,.int .u64 b],.int .i64 x] σ' R') {p : Option Addr} {n c : Nat} {ps : List Pt} {x : Int} (hr : Ab 2 GK σ p n ps) (hs : ZY ps)
   (h : ∀ t,R (.returned (.tuple #[.int .i64 (Gj ps x),.bool t])) σ) : Spec prog 175 #[.slice p n c,.int .i64 x,.func (.func f) #[] #[]] σ R := by
 have hl : ps.length = n := hr.1
 have NF := hr.big
 refine Az.start ?_
 suffices H : ∀ g i j : Nat,j - i = g → i ≤ j → j ≤ n → (∀ k q,k < i → ps[k]? = some q → q.1 ≤ x) → (∀ k q,j ≤ k → ps[k]? = some q → x < q.1) → Az.Bh R p n c x (.func (.func f) #[] #[]) n i j σ from
   H n 0 n rfl (Nat.zero_le _) (Nat.le_refl _) (fun k q hk => by omega) (fun k q hk hq => by have := (List.getElem?_eq_some_iff.1 hq).1; omega)
 intro g
 induction g using Nat.strongRecOn with
 | _ g ih =>
   intro i j hg eZ hj h1 h2
   refine Az.A3 ⟨fun Aq => ⟨by unfold AJ; omega,fun cS e21 => ⟨by decide,fun Is e22 EJ e23 => ?_⟩⟩,fun ck => ⟨fun RO => ?_,fun RO => ?_⟩⟩
   · rw [AHp (by omega) (by omega)] at e21
     have ANM : Is = ((i + j) / 2 : Nat) := by rw [e22,e21]; show ((i : Int) + j) / 2 ^ 1 = _; omega
     rw [ANM,AHq (by omega) (by omega)] at e23
     generalize hm : (i + j) / 2 = m at *
     have him : i ≤ m ∧ m < j := by omega
     obtain ⟨q,hq⟩ := hr.ex (k := m) (by omega)
     obtain ⟨b,o,rfl,Eb⟩ := GK.at hr hq
     rw [e23]
     refine ⟨b,o,rfl,by omega,q.1,q.2,by simpa using Eb,f,#[],#[],rfl,hf,uK _ _ _ _ _ ⟨_,rfl,fun AA6 => ⟨by unfold AJ; omega,?_⟩,fun Oj => ?_⟩⟩
     · have hq1 : q.1 ≤ x := by
         by_cases hh : q.1 ≤ x
         · exact hh
         · rw [if_neg hh] at AA6; omega
       refine ih (j - (m + 1)) (by omega) (m + 1) j rfl (by omega) hj (fun k r hk rm => ?_) h2
       by_cases fx : k = m
       · rw [fx,hq] at rm; cases rm; exact hq1
       · have := gB hs (by omega : k < m) rm hq; omega
     · have hq1 : x < q.1 := by
         by_cases hh : q.1 ≤ x
         · rw [if_pos hh] at Oj; omega
         · omega
       refine ih (m - i) (by omega) i m rfl (by omega) (by omega) h1 (fun k r hk rm => ?_)
       by_cases fx : k = m
       · rw [fx,hq] at rm; cases rm; exact hq1
       · have := gB hs (by omega : m < k) hq rm; omega
   · have e : i = j := by omega
     subst e
     have hc := gA (by omega) h1 h2
     obtain ⟨q,hq⟩ := hr.ex (k := i) (by omega)
     obtain ⟨b,o,rfl,Eb⟩ := GK.at hr hq
     refine ⟨b,o,rfl,by omega,q.1,q.2,by simpa using Eb,f,#[],#[],rfl,hf,uK _ _ _ _ _ ⟨_,rfl,?_⟩⟩
     have := h (decide ((if q.1 ≤ x then (-1 : Int) else 1) = 0))
     rw [hc] at this; exact this
   · have e : i = j := by omega
     subst e
     have hc := gA (by omega) h1 h2
     have := h false
     rw [hc] at this; exact this
omit [FB] in
theorem Ia {x : Int} : ∀ {ps : List Pt},ZY ps → Gj ps x ≤ ps.length ∧ (∀ k q,k < Gj ps x → ps[k]? = some q → q.1 ≤ x) ∧ (∀ k q,Gj ps x ≤ k → ps[k]? = some q → x < q.1)
 | [],_ => ⟨Nat.le_refl _,fun k q hk => by simp [Gj] at hk,fun k q _ hq => by simp at hq⟩
 | a :: l,h => by
   have hl := List.pairwise_cons.1 h
   obtain ⟨h1,h2,h3⟩ := Ia (x := x) (ps := l) hl.2
   by_cases ha : a.1 ≤ x
   · have e : Gj (a :: l) x = Gj l x + 1 := by unfold Gj; rw [List.countP_cons_of_pos (by simpa using ha)]
     rw [e]
     refine ⟨by simp; exact h1,fun k q hk hq => ?_,fun k q hk hq => ?_⟩
     · cases k with
       | zero => simp at hq; subst hq; exact ha
       | succ k => exact h2 k q (by omega) (by simpa using hq)
     · cases k with
       | zero => omega
       | succ k => exact h3 k q (by omega) (by simpa using hq)
   · have e : Gj (a :: l) x = 0 := by
       unfold Gj
       rw [List.countP_eq_zero]
       intro q hq
       rcases List.mem_cons.1 hq with rfl | hq
       · simpa using ha
       · have := hl.1 q hq
         simp; omega
     rw [e]
     refine ⟨Nat.zero_le _,fun k q hk => by omega,fun k q _ hq => ?_⟩
     cases k with
     | zero => simp at hq; subst hq; omega
     | succ k =>
       have := hl.1 q (List.mem_of_getElem? (by simpa using hq))
       omega
omit [FB] in
theorem uL {ps : List Pt} (hs : ZY ps) (D9 HH : Int) {i m : Nat} (hi : i = min (Gj ps D9) (Gj ps HH)) (hm : m = Gj ps HH - i) : (ps.drop i).take m = F5 ps D9 HH := by
 obtain ⟨a1,a2,a3⟩ := Ia (x := D9) hs
 obtain ⟨m1,m2,m3⟩ := Ia (x := HH) hs
 have e : ps = ps.take i ++ ((ps.drop i).take m ++ (ps.drop i).drop m) := by rw [List.take_append_drop,List.take_append_drop]
 have hf : F5 ps D9 HH = F5 (ps.take i) D9 HH ++ (F5 ((ps.drop i).take m) D9 HH ++ F5 ((ps.drop i).drop m) D9 HH) := by
   conv => lhs; rw [e]
   unfold F5
   rw [List.filter_append,List.filter_append]
 rw [hf]
 have f1 : F5 (ps.take i) D9 HH = [] := List.filter_eq_nil_iff.2 fun q hq => by
   obtain ⟨k,hk⟩ := List.mem_iff_getElem?.1 hq
   rw [List.getElem?_take] at hk
   split at hk
   · have := a2 k q (by omega) hk; simp; omega
   · cases hk
 have f2 : F5 ((ps.drop i).take m) D9 HH = (ps.drop i).take m := List.filter_eq_self.2 fun q hq => by
   obtain ⟨k,hk⟩ := List.mem_iff_getElem?.1 hq
   rw [List.getElem?_take] at hk
   split at hk
   · rename_i fx
     rw [List.getElem?_drop] at hk
     have g1 := m2 _ q (by omega) hk
     have g2 := a3 _ q (by omega) hk
     simp; omega
   · cases hk
 have f3 : F5 ((ps.drop i).drop m) D9 HH = [] := List.filter_eq_nil_iff.2 fun q hq => by
   obtain ⟨k,hk⟩ := List.mem_iff_getElem?.1 hq
   rw [List.getElem?_drop,List.getElem?_drop] at hk
   have := m3 _ q (by omega) hk
   simp; omega
 rw [f1,f2,f3]; simp
theorem QB {p : Option Addr} {n c : Nat} {ps : List Pt} {D9 HH : Int} (hr : Ab 2 GK σ p n ps) (hc : n ≤ c) (hs : ZY ps)
   (h : ∀ q m d,Ab 2 GK σ q m (F5 ps D9 HH) → m ≤ d → R (.returned (.slice q m d)) σ) : Spec prog 141 #[.slice p n c,.int .i64 D9,.int .i64 HH] σ R := by
 have hl : ps.length = n := hr.1
 have c1 : ∀ a b x σ' R',R' (.returned (.int .i64 (if a ≤ x then -1 else 1))) σ' → Spec prog 176 #[.agg #[.int .i64 a,.int .u64 b],.int .i64 x] σ' R' := fun a b x σ' R' hh => Ml.start fun _ => ⟨fun hle => by rw [if_pos hle] at hh; exact hh,fun hle => by rw [if_neg hle] at hh; exact hh⟩
 have c2 : ∀ a b x σ' R',R' (.returned (.int .i64 (if a ≤ x then -1 else 1))) σ' → Spec prog 177 #[.agg #[.int .i64 a,.int .u64 b],.int .i64 x] σ' R' := fun a b x σ' R' hh => Mi.start fun _ => ⟨fun hle => by rw [if_pos hle] at hh; exact hh,fun hle => by rw [if_neg hle] at hh; exact hh⟩
 have ha := (Ia (x := D9) hs).1
 have hm := (Ia (x := HH) hs).1
 refine Px.start (gC (fun args w => call176 args w) c1 hr hs fun t => ⟨_,_,rfl,gC (fun args w => call177 args w) c2 hr hs fun t' => ⟨_,_,rfl,?_⟩⟩)
 have e : (if ((Gj ps HH : Nat) : Int) < (Gj ps D9 : Nat) then ((Gj ps HH : Nat) : Int) else (Gj ps D9 : Nat)) = ((min (Gj ps D9) (Gj ps HH) : Nat) : Int) := by split <;> omega
 rw [e]
 generalize hi : min (Gj ps D9) (Gj ps HH) = i
 have Td := Ab.sub (i := i) (m := Gj ps HH - i) hr (by decide) (by omega) hc
 rw [uL hs D9 HH hi.symm rfl] at Td
 refine ⟨by omega,?_⟩
 have := h _ _ (c - i) Td (by omega)
 simpa using this
end
end TwW
end
section
namespace TwW
open Go Tw Go.RowKit Go.Proofs.Tryz
theorem Ib {α : Type} {P : α → Bool} : ∀ {l : List α} {k : Nat},k ≤ l.length → (∀ j u,j < k → l[j]? = some u → P u = true) → (∀ u,l[k]? = some u → P u = false) → (l.takeWhile P).length = k
 | [],k,hk,_,_ => by simp at hk; subst hk; rfl
 | a :: l,0,_,_,h2 => by simp [List.takeWhile,h2 a rfl]
 | a :: l,k + 1,hk,h1,h2 => by
   have ha : P a = true := h1 0 a (by omega) rfl
   simp only [List.takeWhile,ha,List.length_cons]
   rw [Ib (k := k) (by simp at hk; omega) (fun j u hj hu => h1 (j + 1) u (by omega) (by simpa using hu)) (fun u hu => h2 u (by simpa using hu))]
def AN (s : ByteArray) : Nat := (s.data.toList.takeWhile B8).length
theorem MG (s : ByteArray) : AN s ≤ s.size := by
 unfold AN
 exact Nat.le_trans (List.Sublist.length_le (List.takeWhile_sublist _)) (Nat.le_of_eq (Array.length_toList (xs := s.data)))
section
variable [FB] {σ : Hp} {R : Rr}
omit [FB] in
theorem VX {s : ByteArray} {h : Nat} (hh : h ≤ s.size) : YF prog (Instr.sliceAt 9 (.string s) none (some (.int .i64 (h : Int))) none) σ (.string (s.extract 0 h)) := fun w _ => by
 rw [run_sliceAt_string (h := underlying9)]
 have h1 : (h : Int) ≤ s.size := by omega
 simp [Instr.slice,run_underlying underlying9,Instr.sliceBounds,run_sliceBound,h1,Result.andThen]
omit [FB] in
theorem OE {s : ByteArray} {l : Nat} (hl : l ≤ s.size) : YF prog (Instr.sliceAt 9 (.string s) (some (.int .i64 (l : Int))) none none) σ (.string (s.extract l s.size)) := fun w _ => by
 rw [run_sliceAt_string (h := underlying9)]
 have h1 : (l : Int) ≤ s.size := by omega
 simp [Instr.slice,run_underlying underlying9,Instr.sliceBounds,run_sliceBound,h1,Result.andThen]
omit [FB] in
theorem byte_at {s : ByteArray} {k : Nat} (hk : k < s.size) : ∃ u,s.data[k]? = some u ∧ s.data.toList[k]? = some u := ⟨s.data[k]'hk,by rw [Array.getElem?_eq_getElem],by rw [Array.getElem?_toList,Array.getElem?_eq_getElem]⟩
theorem HK {s : ByteArray} (hb : s.size ≤ 4611686018427387904) (h : R (.returned (.int .i64 (AN s))) σ) : Spec prog 131 #[.string s] σ R := by
 have hlen : s.data.toList.length = s.size := Array.length_toList (xs := s.data)
 refine G8.start ?_
 suffices H : ∀ g k : Nat,s.size - k = g → k ≤ s.size → (∀ j u,j < k → s.data.toList[j]? = some u → B8 u = true) → G8.ES R s k σ from H s.size 0 rfl (Nat.zero_le _) (fun j u hj => by omega)
 intro g
 induction g with
 | zero =>
   intro k hg hk h1
   have e : AN s = k := Ib (by omega) h1 (fun u hu => by have := (List.getElem?_eq_some_iff.1 hu).1; omega)
   rw [e] at h
   exact G8.Af ⟨fun Aq => by omega,fun _ => h⟩
 | succ g ih =>
   intro k hg hk h1
   obtain ⟨u,hu,CP⟩ := byte_at (show k < s.size by omega)
   have stop : B8 u = false → R (.returned (.int .i64 k)) σ := fun hd => by
     have e : AN s = k := Ib (by omega) h1 (fun v hv => by rw [CP] at hv; cases hv; exact hd)
     rw [e] at h; exact h
   refine G8.Af ⟨fun _ => ⟨u,by omega,by simpa using hu,PE.start ⟨fun ZZ => ⟨_,rfl,fun ht => ?_,fun hf => stop ?_⟩,fun ZZ => ⟨false,rfl,⟨fun ht => (by cases ht),fun _ => stop ?_⟩⟩⟩⟩,fun hh => by omega⟩
   · refine ⟨AL (by omega : k < s.size) hb,ih (k + 1) (by omega) (by omega) fun j v hj hv => ?_⟩
     by_cases r9 : j = k
     · rw [r9,CP] at hv; cases hv
       have := of_decide_eq_true ht
       exact decide_eq_true (by omega)
     · exact h1 j v (by omega) hv
   · have := of_decide_eq_false hf
     exact decide_eq_false (by omega)
   · exact decide_eq_false (by omega)
end
end TwW
end
section
namespace TwW
open Go Tw Go.RowKit Go.Proofs.Tryz
abbrev MZ (n : Nd) (p : Option Addr) (k c : Nat) (q : Option Addr) (m d : Nat) : Value := .agg #[.int .i64 n.kind,.int .i64 n.op,.string n.text,.slice p k c,.int .i64 n.width,.int .i64 n.back,.int .i64 n.Ec,.slice q m d,.bool n.bool,.int .i64 n.parts]
def BO (n : Nd) : Nd :=
 if n.kind = 1 then ⟨n.kind,0,n.text,[],0,0,0,[],false,0⟩
 else if n.kind = 2 then ⟨n.kind,0,ByteArray.mk #[],[],0,n.back,0,[],false,0⟩
 else if n.kind = 3 then ⟨n.kind,0,ByteArray.mk #[],[],n.width,n.back,0,[],false,0⟩
 else if n.kind = 4 then ⟨n.kind,n.op,ByteArray.mk #[],[],0,0,0,[],false,n.parts⟩
 else if n.kind = 5 then ⟨n.kind,n.op,ByteArray.mk #[],[],0,0,n.Ec,[],false,n.parts⟩
 else if n.kind = 6 then ⟨n.kind,n.op,ByteArray.mk #[],[],0,0,n.Ec,[],n.bool,n.parts⟩
 else ⟨n.kind,0,ByteArray.mk #[],[],0,0,0,[],false,n.parts⟩
theorem pK : ∀ w,(Go.sizeOf 2).run prog w = .ok 1 w := fun w => by kernel_rfl
theorem Ic : ∀ w,(Go.sizeOf 3).run prog w = .ok 1 w := fun w => by kernel_rfl
theorem xv : ∀ w,(Go.sizeOf 4).run prog w = .ok 1 w := fun w => by kernel_rfl
theorem AHr : ∀ w,(Go.sizeOf 9).run prog w = .ok 1 w := fun w => by kernel_rfl
theorem pL : ∀ w,(Go.sizeOf 36).run prog w = .ok 10 w := fun w => by kernel_rfl
theorem Te {c : Array Value} {l : List Value} (h : l.length = c.size) : NT c 0 l = l.toArray := by
 apply Array.ext_getElem?
 intro j
 rw [Qv l c 0 j (by omega)]
 split
 · simp
 · rename_i hj
   rw [Array.getElem?_eq_none (by omega),List.getElem?_toArray,List.getElem?_eq_none (by omega)]
section
variable [FB] {σ : Hp} {R : Rr}
omit [FB] in
theorem pM {τ : Hp} {b T : Nat} : ∀ {l : List Value} {c : Array Value} {o : Nat},τ b = some (.cells c T (0,0)) → (∀ j v,l[j]? = some v → c[o + j]? = some v) → Ay τ b o l
 | [],_,_,_,_ => trivial
 | v :: l,c,o,hb,h => ⟨by unfold Hp.ld; rw [hb]; simpa using h 0 v rfl,pM hb fun j u hu => by have := h (j + 1) u (by simpa using hu); rwa [show o + (j + 1) = o + 1 + j by omega] at this⟩
omit [FB] in
theorem gD {τ : Hp} {b : Nat} {o : Obj} (hb : σ b = none) (h : Ext σ τ) : Ext σ (τ.set b o) := fun k u hk => by
 rw [Hp.AI (fun e => by rw [e,hb] at hk; cases hk)]; exact h k u hk
set_option maxHeartbeats 4000000 in
theorem jK {n : Nd} {p q : Option Addr} {k c m d : Nat} (h : ∀ σ',Ext σ σ' → R (.returned (MZ (BO n) none 0 0 none 0 0)) σ') : Spec prog 121 #[MZ n p k c q m d] σ R := by
 refine TH.start fun _ _ b hb => ?_
 have fin : ∀ (τ : Hp) (c : Array Value) (T : Nat),τ b = some (.cells c T (0,0)) → Ext σ τ → c = #[.int .i64 (BO n).kind,.int .i64 (BO n).op,.string (BO n).text,.slice none 0 0,.int .i64 (BO n).width,.int .i64 (BO n).back,.int .i64 (BO n).Ec,.slice none 0 0,.bool (BO n).bool,.int .i64 (BO n).parts] →
     ∃ Yo cY cZ oQ oR oS oT oU oV oW oX oY oZ od,Ay τ b 0 [.int .i64 Yo,.int .i64 cY,.string cZ,.slice oQ oR oS,.int .i64 oT,.int .i64 oU,.int .i64 oV,.slice oW oX oY,.bool oZ,.int .i64 od] ∧ R (.returned (.agg #[.int .i64 Yo,.int .i64 cY,.string cZ,.slice oQ oR oS,.int .i64 oT,.int .i64 oU,.int .i64 oV,.slice oW oX oY,.bool oZ,.int .i64 od])) τ := fun τ c T hτ hx hc =>
   ⟨_,_,_,_,_,_,_,_,_,_,_,_,_,_,pM hτ fun j v hv => by rw [hc,Nat.zero_add]; simpa using hv,h τ hx⟩
 have st : ∀ {τ : Hp} {c : Array Value} {T U o : Nat} {v : Value} {Φ : Unit → Hp → Prop},(∀ w,(Go.sizeOf U).run prog w = .ok 1 w) → τ b = some (.cells c T (0,0)) → Ext σ τ → o + 1 ≤ c.size → v.cells = #[v] → v.oneCell' = true →
     (∀ (τ' : Hp) (c' : Array Value),c' = NT c o [v] → c'.size = c.size → τ' b = some (.cells c' T (0,0)) → Ext σ τ' → Φ () τ') → AK prog (Instr.storeAt U (.pointer (aD b o)) v) τ Φ := fun {τ c T U o v Φ} hz hτ hx ho h1 h2 hk => by
   refine AK.store hz hτ (by rw [h1]; rfl) (by simpa using ho) (fun u hu => by rw [h1] at hu; simp at hu; rw [hu]; exact h2) ?_
   rw [h1]
   exact hk _ _ rfl (IB _ _ _) (Hp.AB _ _ _) (gD hb hx)
 have st0 : ∀ {Φ : Unit → Hp → Prop},(∀ (τ : Hp) (c : Array Value),c = #[.int .i64 n.kind,.int .i64 0,(.string (ByteArray.mk #[])),.slice none 0 0,.int .i64 0,.int .i64 0,.int .i64 0,.slice none 0 0,.bool false,.int .i64 0] → c.size = 10 → τ b = some (.cells c 36 (0,0)) → Ext σ τ → Φ () τ) →
     AK prog (Instr.storeAt 36 (.pointer (aD b 0)) (.agg #[.int .i64 n.kind,.int .i64 0,(.string (ByteArray.mk #[])),.slice none 0 0,.int .i64 0,.int .i64 0,.int .i64 0,.slice none 0 0,.bool false,.int .i64 0])) (Hp.set σ b (.cells #[.int .i64 0,.int .i64 0,(.string (ByteArray.mk #[])),.slice none 0 0,.int .i64 0,.int .i64 0,.int .i64 0,.slice none 0 0,.bool false,.int .i64 0] 36 (0,0))) Φ := fun {Φ} hk => by
   refine AK.store pL (Hp.AB _ _ _) rfl (by simp) (by simp [Value.cells,Value.oneCell']) ?_
   exact hk _ _ (Te rfl) (by rw [IB]; rfl) (Hp.AB _ _ _) (gD hb (Ext.set hb))
 refine st0 fun τ c0 e0 z0 g0 x0 => ?_
 refine ⟨fun h1 => ?_,fun h1 => ⟨fun h2 => ?_,fun h2 => ⟨fun h3 => ?_,fun h3 => ⟨fun h4 => ?_,fun h4 => ⟨fun h5 => ?_,fun h5 => ⟨fun h6 => ?_,fun h6 => ?_⟩⟩⟩⟩⟩⟩
 · refine st AHr g0 x0 (by omega) rfl rfl fun τ1 c1 e1 z1 g1 x1 => fin τ1 c1 _ g1 x1 ?_
   subst e0 e1; unfold BO; simp only [h1,if_true]; rfl
 · refine st pK g0 x0 (by omega) rfl rfl fun τ1 c1 e1 z1 g1 x1 => fin τ1 c1 _ g1 x1 ?_
   subst e0 e1; unfold BO; simp only [h2,if_true]; rfl
 · refine st pK g0 x0 (by omega) rfl rfl fun τ1 c1 e1 z1 g1 x1 => ?_
   refine st pK g1 x1 (by omega) rfl rfl fun τ2 c2 e2 z2 g2 x2 => fin τ2 c2 _ g2 x2 ?_
   subst e0 e1 e2; unfold BO; simp only [h3,if_true]; rfl
 · refine st Ic g0 x0 (by omega) rfl rfl fun τ1 c1 e1 z1 g1 x1 => ?_
   refine st Ic g1 x1 (by omega) rfl rfl fun τ2 c2 e2 z2 g2 x2 => fin τ2 c2 _ g2 x2 ?_
   subst e0 e1 e2; unfold BO; simp only [h4,if_true]; rfl
 · refine st Ic g0 x0 (by omega) rfl rfl fun τ1 c1 e1 z1 g1 x1 => ?_
   refine st Ic g1 x1 (by omega) rfl rfl fun τ2 c2 e2 z2 g2 x2 => ?_
   refine st Ic g2 x2 (by omega) rfl rfl fun τ3 c3 e3 z3 g3 x3 => fin τ3 c3 _ g3 x3 ?_
   subst e0 e1 e2 e3; unfold BO; simp only [h5,if_true]; rfl
 · refine st Ic g0 x0 (by omega) rfl rfl fun τ1 c1 e1 z1 g1 x1 => ?_
   refine st Ic g1 x1 (by omega) rfl rfl fun τ2 c2 e2 z2 g2 x2 => ?_
   refine st xv g2 x2 (by omega) rfl rfl fun τ3 c3 e3 z3 g3 x3 => ?_
   refine st Ic g3 x3 (by omega) rfl rfl fun τ4 c4 e4 z4 g4 x4 => fin τ4 c4 _ g4 x4 ?_
   subst e0 e1 e2 e3 e4; unfold BO; simp only [h6,if_true]; rfl
 · refine st Ic g0 x0 (by omega) rfl rfl fun τ1 c1 e1 z1 g1 x1 => fin τ1 c1 _ g1 x1 ?_
   subst e0 e1; unfold BO; simp only [h1,h2,h3,h4,h5,h6,if_false]; rfl
end
end TwW
end
section
namespace TwW
open Go Tw Go.RowKit Go.Proofs.Tryz
section
variable {σ : Hp} {R : Rr}
theorem Co {k : Int} (h : R (.returned (.bool (F6 k))) σ) : Spec prog 124 #[.int .i64 k] σ R := by
 refine J9.start ⟨fun h1 => ?_,fun h1 => ?_⟩
 · rw [show F6 k = decide (k ≤ 10) by unfold F6; rw [decide_eq_true h1]; rfl] at h; exact h
 · rw [show F6 k = false by unfold F6; rw [decide_eq_false h1]; rfl] at h; exact h
theorem QC {k : Int} (h : R (.returned (.bool (decide (11 ≤ k ∧ k ≤ 13)))) σ) : Spec prog 128 #[.int .i64 k] σ R := by
 refine S7.start ⟨fun h1 => ?_,fun h1 => ?_⟩
 · rw [show decide (11 ≤ k ∧ k ≤ 13) = decide (k ≤ 13) from decide_eq_decide.2 ⟨fun h => h.2,fun h => ⟨h1,h⟩⟩] at h; exact h
 · rw [show decide (11 ≤ k ∧ k ≤ 13) = false from decide_eq_false (fun hh => h1 hh.1)] at h; exact h
theorem PJ {v l : Int} (h : R (.returned (.bool (Mp v l))) σ) : Spec prog 123 #[.int .i64 v,.int .i64 l] σ R := by
 refine TD.start ⟨fun h1 => ?_,fun h1 => ?_⟩
 · rw [show Mp v l = decide (v < 2147483648) by unfold Mp; rw [decide_eq_true h1]; rfl] at h; exact h
 · rw [show Mp v l = false by unfold Mp; rw [decide_eq_false h1]; rfl] at h; exact h
theorem VY {k : Int} (h : R (.returned (.bool (decide (1 ≤ k ∧ k ≤ 4)))) σ) : Spec prog 125 #[.int .i64 k] σ R := by
 refine R7.start ⟨fun h1 => ?_,fun h1 => ?_⟩
 · rw [show decide (1 ≤ k ∧ k ≤ 4) = decide (k ≤ 4) from decide_eq_decide.2 ⟨fun h => h.2,fun h => ⟨h1,h⟩⟩] at h; exact h
 · rw [show decide (1 ≤ k ∧ k ≤ 4) = false from decide_eq_false (fun hh => h1 hh.1)] at h; exact h
theorem PK {s : ByteArray} (h : R (.returned (.bool (CD s))) σ) : Spec prog 126 #[.string s] σ R := by
 refine TE.start (LP ?_)
 exact ⟨_,rfl,h⟩
theorem OZ.at {p : Option Addr} {n i : Nat} {ms : List Mt} {x : Mt} (hr : Ab 3 OZ σ p n ms) (hx : ms[i]? = some x) : ∃ b o,p = some ⟨b,o,none⟩ ∧ Ay σ b (o + i * 3) [.int .i64 x.kind,.string x.name,.string x.val] := by
 obtain ⟨b,o,vs,hp,rfl,hl⟩ := Ab.idx hr hx
 exact ⟨b,o,hp,hl⟩
def dL (m : Mt) : Bool := decide (1 ≤ m.kind ∧ m.kind ≤ 4) && CD m.name && decide (m.val.size ≤ 256)
theorem QD {p : Option Addr} {n c : Nat} {ms : List Mt} (hr : Ab 3 OZ σ p n ms) (h : R (.returned (.int .i64 (HJ CD ms))) σ) : Spec prog 80 #[.slice p n c] σ R := by
 have hl : ms.length = n := hr.1
 refine Ft.start ⟨fun h8 => ?_,fun h8 => ?_⟩
 · rw [show HJ CD ms = 41 by unfold HJ; rw [if_pos (by omega)]] at h; exact h
 have hm : HJ CD ms = if ms.all dL then 0 else 40 := by unfold HJ; rw [if_neg (by omega)]; rfl
 rw [hm] at h
 suffices H : ∀ g k : Nat,n - k = g → k ≤ n → ms.all dL = (ms.drop k).all dL → Ft.MT R p n c n k σ from H n 0 rfl (Nat.zero_le _) rfl
 intro g
 induction g with
 | zero =>
   intro k hg hk he
   rw [List.drop_eq_nil_of_le (by omega)] at he
   rw [he] at h
   exact Ft.I4 ⟨fun Aq => by omega,fun _ => h⟩
 | succ g ih =>
   intro k hg hk he
   have HM : k < n := by omega
   obtain ⟨x,hx⟩ := hr.ex HM
   obtain ⟨b,o,rfl,Eb⟩ := OZ.at hr hx
   rw [BD hx,List.all_cons] at he
   have bad : dL x = false → R (.returned (.int .i64 40)) σ := fun hf => by
     rw [hf] at he
     rw [he] at h; exact h
   refine Ft.I4 ⟨fun _ => ⟨b,o,rfl,by omega,x.kind,x.name,x.val,by simpa using Eb,fun _ => VY ⟨_,rfl,fun hf => bad ?_,fun ht => PK ⟨_,rfl,fun hf => bad ?_,fun hn => ⟨fun hv => bad ?_,fun hv => ⟨AL HM hr.big,ih (k + 1) (by omega) (by omega) ?_⟩⟩⟩⟩⟩,fun hh => by omega⟩
   · unfold dL; rw [hf]; rfl
   · unfold dL; rw [hf]; simp
   · unfold dL; rw [show decide (x.val.size ≤ 256) = false from decide_eq_false (by omega)]; simp
   · rw [he,show dL x = true by unfold dL; rw [ht,hn,show decide (x.val.size ≤ 256) = true from decide_eq_true (by omega)]; rfl,Bool.true_and]
end
end TwW
end
section
namespace TwW
open Go Tw Go.RowKit Go.Proofs.Tryz
section
variable {σ : Hp} {R : Rr}
theorem dM {n : Nd} {p q : Option Addr} {k c m d : Nat} (hr : FC 1 σ q m (n.names.map .string)) (h : R (.returned (.bool (PI CD n))) σ) : Spec prog 122 #[MZ n p k c q m d] σ R := by
 have hl : n.names.length = m := by have := hr.1; simpa using this
 refine Fz.start fun _ => ?_
 suffices H : ∀ g i : Nat,m - i = g → i ≤ m → n.names.all CD = (n.names.drop i).all CD → Fz.Hz R n.kind n.op n.text p k c n.width n.back n.Ec q m d n.bool n.parts q m d m i σ from H m 0 rfl (Nat.zero_le _) rfl
 have NF : m ≤ 4611686018427387904 := hr.2.1
 intro g
 induction g with
 | zero =>
   intro i hg hi he
   rw [List.drop_eq_nil_of_le (by omega)] at he
   have e : PI CD n = (decide (m = 0) || decide (n.Ec ≠ 0)) := by unfold PI; rw [he,hl]; rfl
   rw [e] at h
   refine Fz.Bl ⟨fun Aq => by omega,fun _ => ⟨fun h0 => ?_,fun h0 => ?_⟩⟩
   · rw [decide_eq_true (show m = 0 by omega)] at h; exact h
   · rw [decide_eq_false (show ¬ m = 0 by omega)] at h; exact h
 | succ g ih =>
   intro i hg hi he
   have B9 : i < m := by omega
   obtain ⟨x,hx⟩ : ∃ x,n.names[i]? = some x := ⟨_,List.getElem?_eq_getElem (by omega)⟩
   obtain ⟨b,o,rfl,Eb⟩ := FC.at1 hr (k := i) (v := .string x) (by rw [List.getElem?_map,hx]; rfl)
   rw [BD hx,List.all_cons] at he
   refine Fz.Bl ⟨fun _ => ⟨b,o,rfl,by omega,x,by simpa using Eb,PK ⟨_,rfl,fun hf => ?_,fun ht => ⟨AL B9 NF,ih (i + 1) (by omega) (by omega) ?_⟩⟩⟩,fun hh => by omega⟩
   · have e : PI CD n = false := by unfold PI; rw [he,hf]; rfl
     rw [e] at h; exact h
   · rw [he,ht,Bool.true_and]
theorem pN {a b : ByteArray} : (ByteArray.toList a == ByteArray.toList b) = decide (a.data.toList = b.data.toList) := by
 rw [ByteArray.toList_eq,ByteArray.toList_eq]
 by_cases h : a.data.toList = b.data.toList
 · simp [h]
 · rw [decide_eq_false h]; exact beq_eq_false_iff_ne.2 h
theorem AHs {a b : ByteArray} : (ByteArray.toList a == ByteArray.toList b) = decide (a = b) := by
 rw [pN]
 exact decide_eq_decide.2 ⟨fun h => ByteArray.ext (Array.toList_inj.1 h),fun h => by rw [h]⟩
def GU (a b : Nd) : Bool := decide (a.kind = b.kind ∧ a.op = b.op ∧ a.text = b.text ∧ a.width = b.width ∧ a.back = b.back ∧ a.Ec = b.Ec ∧ a.bool = b.bool ∧ a.parts = b.parts)
theorem dO {a b : Nd} {p p' q q' : Option Addr} {k c k' c' m d m' d' : Nat} (h : R (.returned (.bool (GU a b))) σ) : Spec prog 120 #[MZ a p k c q m d,MZ b p' k' c' q' m' d'] σ R := by
 have no : ¬ (a.kind = b.kind ∧ a.op = b.op ∧ a.text = b.text ∧ a.width = b.width ∧ a.back = b.back ∧ a.Ec = b.Ec ∧ a.bool = b.bool ∧ a.parts = b.parts) → R (.returned (.bool false)) σ := fun hn => by
   rw [show GU a b = false from decide_eq_false hn] at h; exact h
 have last : a.kind = b.kind ∧ a.op = b.op ∧ a.text = b.text ∧ a.width = b.width ∧ a.back = b.back ∧ a.Ec = b.Ec ∧ a.bool = b.bool → R (.returned (.bool (decide (a.parts = b.parts)))) σ := fun hh => by
   rw [show GU a b = decide (a.parts = b.parts) from decide_eq_decide.2 ⟨fun g => g.2.2.2.2.2.2.2,fun g => ⟨hh.1,hh.2.1,hh.2.2.1,hh.2.2.2.1,hh.2.2.2.2.1,hh.2.2.2.2.2.1,hh.2.2.2.2.2.2,g⟩⟩] at h; exact h
 refine Pv.start fun _ _ => ⟨fun h1 => ⟨fun h2 => ⟨fun h3 => ?_,fun h3 => no ?_⟩,fun h2 => no fun g => h2 g.2.1⟩,fun h1 => no fun g => h1 g.1⟩
 · rw [AHs] at h3
   have h3 := of_decide_eq_true h3
   refine ⟨fun h4 => ⟨fun h5 => ⟨fun h6 => ⟨fun t1 => ⟨fun t2 => last ⟨h1,h2,h3,h4,h5,h6,t1.trans t2.symm⟩,fun t2 => no fun g => ?_⟩,fun t1 => ⟨fun t2 => no fun g => ?_,fun t2 => last ⟨h1,h2,h3,h4,h5,h6,t1.trans t2.symm⟩⟩⟩,fun h6 => no fun g => h6 g.2.2.2.2.2.1⟩,fun h5 => no fun g => h5 g.2.2.2.2.1⟩,fun h4 => no fun g => h4 g.2.2.2.1⟩
   · have := g.2.2.2.2.2.2.1; rw [t1,t2] at this; cases this
   · have := g.2.2.2.2.2.2.1; rw [t1,t2] at this; cases this
 · rw [AHs] at h3
   exact fun g => of_decide_eq_false h3 g.2.2.1
end
end TwW
end
section
namespace TwW
open Go Tw Go.RowKit Go.Proofs.Tryz
def GA (s : ByteArray) : Bool :=
 if AN s = 0 then false else if 1 < AN s ∧ s.data[0]? = some 48 then false else if AN s = s.size then decide (AN s ≤ 15)
 else decide (s.data[AN s]? = some 46 ∧ 0 < AN (s.extract (AN s + 1) s.size) ∧ AN s + 1 + AN (s.extract (AN s + 1) s.size) = s.size ∧ AN s + AN (s.extract (AN s + 1) s.size) ≤ 15)
theorem JW {u : UInt8} {k : Nat} (hk : k < 256) : ((u.toNat : Nat) : Int) = k ↔ u = UInt8.ofNat k := by
 constructor
 · intro h
   apply UInt8.toNat_inj.1
   rw [UInt8.toNat_ofNat']
   omega
 · rintro rfl
   rw [UInt8.toNat_ofNat']
   omega
section
variable {σ : Hp} {R : Rr}
theorem Lc {s : ByteArray} (hb : s.size ≤ 4611686018427387904) (h : R (.returned (.bool (GA s))) σ) : Spec prog 94 #[.string s] σ R := by
 have hle := MG s
 refine TG.start (HK hb ⟨_,rfl,fun h0 => ?_,fun h0 => ⟨_,VX hle,?_⟩⟩)
 · rw [show GA s = false by unfold GA; rw [if_pos (by omega)]] at h; exact h
 have GX : (s.extract 0 (AN s)).size = AN s := by rw [ByteArray.size_extract]; omega
 have tail : ¬ (1 < AN s ∧ s.data[0]? = some 48) → Br ((AN s : Int) = ((ByteArray.size s : Nat) : Int)) (R (.returned (.bool (decide ((AN s : Int) ≤ 15)))) σ) (AJ ((AN s : Int) + 1) ∧ ∃ s24,YF prog (Instr.sliceAt 9 (.string s) (some (.int .i64 ((AN s : Int) + 1))) none none) σ (.string s24) ∧ Spec prog 131 #[.string s24] σ (AA R (CI .i64 fun P1 AH => ∃ u28 : UInt8,0 ≤ (AN s : Int) ∧ (ByteArray.data s)[Int.toNat (AN s : Int)]? = some u28 ∧ Br ((((UInt8.toNat u28 : Nat) : Int) : Int) = 46) (Br (0 < P1) (AJ ((AN s : Int) + 1) ∧ AJ (((AN s : Int) + 1) + P1) ∧ Br (((((AN s : Int) + 1) + P1) : Int) = ((ByteArray.size s : Nat) : Int)) (AJ ((AN s : Int) + P1) ∧ R (.returned (.bool (decide ((((AN s : Int) + P1) : Int) ≤ 15)))) AH) (R (.returned (.bool false)) AH)) (R (.returned (.bool false)) AH)) (R (.returned (.bool false)) AH)))) := fun hn => by
   refine ⟨fun he => ?_,fun he => ⟨by unfold AJ; omega,s.extract (AN s + 1) s.size,OE (l := AN s + 1) (by omega),?_⟩⟩
   · rw [show GA s = decide ((AN s : Int) ≤ 15) by unfold GA; rw [if_neg (by omega),if_neg hn,if_pos (by omega)]; exact decide_eq_decide.2 (by omega)] at h; exact h
   have ANO : (s.extract (AN s + 1) s.size).size = s.size - (AN s + 1) := by rw [ByteArray.size_extract]; omega
   have hm := MG (s.extract (AN s + 1) s.size)
   refine HK (by omega) ?_
   obtain ⟨u,hu,_⟩ := byte_at (show AN s < s.size by omega)
   have hO : GA s = decide (s.data[AN s]? = some 46 ∧ 0 < AN (s.extract (AN s + 1) s.size) ∧ AN s + 1 + AN (s.extract (AN s + 1) s.size) = s.size ∧ AN s + AN (s.extract (AN s + 1) s.size) ≤ 15) := by unfold GA; rw [if_neg (by omega),if_neg hn,if_neg (by omega)]
   rw [hO,hu] at h
   generalize AN (s.extract (AN s + 1) s.size) = m at *
   have b46 := JW (u := u) (k := 46) (by decide)
   have no : ¬ (u = 46 ∧ 0 < m ∧ AN s + 1 + m = s.size ∧ AN s + m ≤ 15) → R (.returned (.bool false)) σ := fun hh => by
     rw [decide_eq_false (by rw [Option.some.injEq]; exact hh)] at h; exact h
   refine ⟨_,rfl,u,by omega,by simpa using hu,fun VZ => ⟨fun h0m => ⟨by unfold AJ; omega,by unfold AJ; omega,fun hs => ⟨by unfold AJ; omega,?_⟩,fun hs => no fun g => hs (by omega)⟩,fun h0m => no fun g => h0m (by omega)⟩,fun VZ => no fun g => VZ (b46.2 g.1)⟩
   rw [show decide (some u = some 46 ∧ 0 < m ∧ AN s + 1 + m = s.size ∧ AN s + m ≤ 15) = decide (((AN s : Int) + m) ≤ 15) from decide_eq_decide.2 ⟨fun g => by omega,fun g => ⟨by rw [b46.1 VZ]; rfl,by omega,by omega,by omega⟩⟩] at h
   exact h
 refine Np.start ⟨fun h1 => ?_,fun h1 => ⟨false,rfl,fun ht => (by cases ht),fun _ => tail (by omega)⟩⟩
 obtain ⟨u,hu,_⟩ := byte_at (show 0 < s.size by omega)
 have QZ := JW (u := u) (k := 48) (by decide)
 have CP : (s.extract 0 (AN s)).data[0]? = some u := by
   rw [ByteArray.data_extract,Array.getElem?_extract]
   rw [if_pos (by have : s.data.size = s.size := rfl; omega)]
   simpa using hu
 refine ⟨u,by omega,by simpa using CP,_,rfl,fun ht => ?_,fun hf => tail ?_⟩
 · have := QZ.1 (of_decide_eq_true ht)
   rw [show GA s = false by unfold GA; rw [if_neg (by omega),if_pos ⟨by omega,by rw [hu,this]; rfl⟩]] at h; exact h
 · rintro ⟨_,g⟩
   rw [hu,Option.some.injEq] at g
   exact of_decide_eq_false hf (QZ.2 g)
end
end TwW
end
section
namespace TwW
open Go Tw Go.RowKit Go.Proofs.Tryz
def GB (n : Nd) : Bool :=
 if n.kind = 1 then GA n.text else if n.kind = 2 then Mp n.back 0 else if n.kind = 3 then Mp n.width 1 && Mp n.back 0
 else if n.kind = 4 then decide (n.parts = 1 ∧ 1 ≤ n.op ∧ n.op ≤ 12)
 else if n.kind = 5 then decide (n.parts = 1 ∧ 1 ≤ n.op ∧ n.op ≤ 5 ∧ (n.Ec = 0 ∨ n.Ec = 1 ∨ n.Ec = 2))
 else if n.kind = 6 then decide (n.parts = 2 ∧ 1 ≤ n.op ∧ n.op ≤ 13 ∧ (n.Ec = 0 ∨ n.Ec = 3 ∨ n.Ec = 4)) && (!n.bool || F6 n.op)
 else decide (n.kind = 7 ∧ n.parts = 1)
def FL (n : Nd) : Bool := GU n (BO n) && PI CD n && !(decide (0 < n.mt.length) && decide (n.kind ≠ 2) && decide (n.kind ≠ 3)) && GB n
section
variable {σ : Hp} {R : Rr}
theorem jL {n : Nd} {p q : Option Addr} {k c m d : Nat} (hk : n.mt.length = k) (hr : FC 1 σ q m (n.names.map .string)) (hb : n.text.size ≤ 4611686018427387904) (h : ∀ σ',Ext σ σ' → R (.returned (.bool (FL n))) σ') : Spec prog 79 #[MZ n p k c q m d] σ R := by
 refine R4.start fun _ => jK fun σ1 hx => ⟨_,_,_,_,_,_,_,_,_,_,_,_,_,_,rfl,dO ⟨_,rfl,fun hf => ?_,fun ht => dM (hr.mono hx) ⟨_,rfl,fun hf => ?_,fun hn => ?_⟩⟩⟩
 · have := h σ1 hx; rw [show FL n = false by unfold FL; rw [hf]; rfl] at this; exact this
 · have := h σ1 hx; rw [show FL n = false by unfold FL; rw [ht,hf]; rfl] at this; exact this
 have hh := h σ1 hx
 have e : FL n = (!(decide (0 < n.mt.length) && decide (n.kind ≠ 2) && decide (n.kind ≠ 3)) && GB n) := by unfold FL; rw [ht,hn]; rfl
 rw [e] at hh
 clear e h
 have fin : ¬ (0 < n.mt.length ∧ n.kind ≠ 2 ∧ n.kind ≠ 3) → ∀ t,GB n = t → R (.returned (.bool t)) σ1 := fun EA t ht => by
   have e2 : (!(decide (0 < n.mt.length) && decide (n.kind ≠ 2) && decide (n.kind ≠ 3))) = true := by
     rw [Bool.not_eq_true',Bool.eq_false_iff]
     intro hc
     simp only [Bool.and_eq_true,decide_eq_true_eq] at hc
     exact EA ⟨hc.1.1,hc.1.2,hc.2⟩
   rw [e2,Bool.true_and,ht] at hh; exact hh
 refine ⟨fun hm => ⟨fun h2 => ⟨fun h3 => ?_,fun h3 => ?_⟩,fun h2 => ?_⟩,fun hm => ?_⟩
 · rw [show (!(decide (0 < n.mt.length) && decide (n.kind ≠ 2) && decide (n.kind ≠ 3))) = false by rw [decide_eq_true (show 0 < n.mt.length by omega),decide_eq_true h2,decide_eq_true h3]; rfl,Bool.false_and] at hh
   exact hh
 all_goals
   have fin := fin (by omega)
   clear hh ht hn
   refine ⟨fun k1 => Lc hb ⟨_,rfl,?_⟩,fun k1 => ⟨fun k2 => PJ ⟨_,rfl,?_⟩,fun k2 => ⟨fun k3 => PJ ⟨_,rfl,fun ht => PJ ⟨_,rfl,?_⟩,fun hf => ?_⟩,fun k3 => ⟨fun k4 => ⟨fun hp => ⟨fun ho => ?_,fun ho => ?_⟩,fun hp => ?_⟩,fun k4 => ⟨fun k5 => ⟨fun hp => ⟨fun ho => ⟨fun Ba => ⟨fun g0 => ?_,fun g0 => ⟨fun g1 => ?_,fun g1 => ?_⟩⟩,fun Ba => ?_⟩,fun ho => ?_⟩,fun hp => ?_⟩,fun k5 => ⟨fun k6 => ⟨fun hp => ⟨fun ho => ⟨fun Ba => ⟨fun g0 => ⟨fun bf => ?_,fun bt => Co ⟨_,rfl,?_⟩⟩,fun g0 => ⟨fun g3 => ⟨fun bf => ?_,fun bt => Co ⟨_,rfl,?_⟩⟩,fun g3 => ⟨fun g4 => ⟨fun bf => ?_,fun bt => Co ⟨_,rfl,?_⟩⟩,fun g4 => ?_⟩⟩⟩,fun Ba => ?_⟩,fun ho => ?_⟩,fun hp => ?_⟩,fun k6 => ⟨fun k7 => ?_,fun k7 => ?_⟩⟩⟩⟩⟩⟩⟩ <;> (refine fin _ ?_; clear fin; unfold GB; simp [*])
end
end TwW
end
section
namespace TwW
open Go Tw Go.RowKit Go.Proofs.Tryz
section
variable {σ : Hp} {R : Rr}
abbrev tyV (x : Int × Int) : Value := .tuple #[.int .i64 x.1,.int .i64 x.2]
def Za (n : Nd) (a : Int) : Int × Int := if a = (if n.op = 11 ∨ n.op = 12 then 2 else 3) then (2,0) else (0,191)
def gE (a : Int) : Int × Int := if a = 2 then (2,0) else (0,191)
def pP (a : Int) : Int × Int := if a = 3 then (0,191) else (a,0)
theorem dP {w : Option Addr} {n : Nd} {p q r : Option Addr} {k c m d s t : Nat} {l : List Int} {a : Int} (hr : FJ .i64 σ r s l) (ha : l[0]? = some a) (h : R (.returned (tyV (Za n a))) σ) : Spec prog 82 #[.pointer w,MZ n p k c q m d,.slice r s t] σ R := by
 have hs : l.length = s := hr.1
 have h0 := (List.getElem?_eq_some_iff.1 ha).1
 obtain ⟨b,o,rfl,Eb⟩ := FJ.at hr ha
 have go : ∀ z : Int,(if n.op = 11 ∨ n.op = 12 then 2 else 3) = z → Bq.FI R (some ⟨b,o,none⟩) s t z σ := fun z hz => by
   unfold Za at h
   rw [hz] at h
   refine Bq.Fg ⟨b,o,rfl,by omega,a,by simpa using Eb,fun A5 => ?_,fun heq => ?_⟩
   · rw [if_neg A5] at h; exact h
   · rw [if_pos (Decidable.not_not.1 heq)] at h; exact h
 exact Bq.start fun _ => ⟨fun h1 => go 2 (if_pos (.inl h1)),fun h1 => ⟨fun h2 => go 2 (if_pos (.inr h2)),fun h2 => go 3 (if_neg (by omega))⟩⟩
theorem jM {w : Option Addr} {n : Nd} {p q r : Option Addr} {k c m d s t : Nat} {l : List Int} {a : Int} (hr : FJ .i64 σ r s l) (ha : l[0]? = some a) (h : R (.returned (tyV (gE a))) σ) : Spec prog 83 #[.pointer w,MZ n p k c q m d,.slice r s t] σ R := by
 have hs : l.length = s := hr.1
 have h0 := (List.getElem?_eq_some_iff.1 ha).1
 obtain ⟨b,o,rfl,Eb⟩ := FJ.at hr ha
 unfold gE at h
 refine Ek.start fun _ => ⟨b,o,rfl,by omega,a,by simpa using Eb,fun A5 => ?_,fun heq => ?_⟩
 · rw [if_neg A5] at h; exact h
 · rw [if_pos (Decidable.not_not.1 heq)] at h; exact h
theorem jN {w : Option Addr} {n : Nd} {p q r : Option Addr} {k c m d s t : Nat} {l : List Int} {a : Int} (hr : FJ .i64 σ r s l) (ha : l[0]? = some a) (h : R (.returned (tyV (pP a))) σ) : Spec prog 85 #[.pointer w,MZ n p k c q m d,.slice r s t] σ R := by
 have hs : l.length = s := hr.1
 have h0 := (List.getElem?_eq_some_iff.1 ha).1
 obtain ⟨b,o,rfl,Eb⟩ := FJ.at hr ha
 unfold pP at h
 refine E2.start fun _ => ⟨b,o,rfl,by omega,a,by simpa using Eb,fun heq => ?_,fun A5 => ⟨by omega,a,by simpa using Eb,?_⟩⟩
 · rw [if_pos heq] at h; exact h
 · rw [if_neg A5] at h; exact h
end
end TwW
end
section
namespace TwW
open Go Tw Go.RowKit Go.Proofs.Tryz
section
variable {σ : Hp} {R : Rr}
def jO (n : Nd) (a b : Int) : Int × Int := if a = 3 ∨ b = 3 ∨ ((11 ≤ n.op ∧ n.op ≤ 13 ∨ n.Ec ≠ 0) ∧ ¬ (a = 2 ∧ b = 2)) ∨ (a = 1 ∧ b = 1 ∧ F6 n.op = true ∧ n.bool = false) then (0,192) else (if a < b then b else a,0)
theorem jP {w : Option Addr} {n : Nd} {p q r : Option Addr} {k c m d s t : Nat} {l : List Int} {a b : Int} (hr : FJ .i64 σ r s l) (ha : l[0]? = some a) (hb : l[1]? = some b) (h : R (.returned (tyV (jO n a b))) σ) : Spec prog 84 #[.pointer w,MZ n p k c q m d,.slice r s t] σ R := by
 have hs : l.length = s := hr.1
 have h1 := (List.getElem?_eq_some_iff.1 hb).1
 obtain ⟨b1,o,rfl,Eb⟩ := FJ.at hr ha
 obtain ⟨_,_,he,ANP⟩ := FJ.at hr hb
 cases he
 have bad : a = 3 ∨ b = 3 ∨ ((11 ≤ n.op ∧ n.op ≤ 13 ∨ n.Ec ≠ 0) ∧ ¬ (a = 2 ∧ b = 2)) ∨ (a = 1 ∧ b = 1 ∧ F6 n.op = true ∧ n.bool = false) → R (.returned (.tuple #[.int .i64 0,.int .i64 192])) σ := fun hh => by
   unfold jO at h; rw [if_pos hh] at h; exact h
 have good : ¬ (a = 3 ∨ b = 3 ∨ ((11 ≤ n.op ∧ n.op ≤ 13 ∨ n.Ec ≠ 0) ∧ ¬ (a = 2 ∧ b = 2)) ∨ (a = 1 ∧ b = 1 ∧ F6 n.op = true ∧ n.bool = false)) → R (.returned (.tuple #[.int .i64 (if a < b then b else a),.int .i64 0])) σ := fun hh => by
   unfold jO at h; rw [if_neg hh] at h; exact h
 clear h
 refine Ev.start fun _ => ⟨b1,o,rfl,by omega,a,by simpa using Eb,by omega,b,by simpa using ANP,?_⟩
 repeat' first
   | (apply QC; refine Exists.intro _ (And.intro rfl ?_))
   | (apply Co; refine Exists.intro _ (And.intro rfl ?_))
   | (apply And.intro <;> intro _)
 all_goals first
   | (refine bad ?_; simp_all; done)
   | (refine good ?_; simp_all; done)
   | (refine bad ?_; simp_all; omega)
   | (refine good ?_; simp_all; omega)
end
end TwW
end
section
namespace TwW
open Go Tw Go.RowKit Go.Proofs.Tryz
theorem DS.en : Enters prog 96 := fun args w => call96 args w
theorem D2.en : Enters prog 153 := fun args w => call153 args w
theorem DT.en : Enters prog 159 := fun args w => call159 args w
theorem Bc.en : Enters prog 230 := fun args w => call230 args w
theorem BR.en : Enters prog 294 := fun args w => call294 args w
theorem Ek.en : Enters prog 83 := fun args w => call83 args w
theorem G5.en : Enters prog 155 := fun args w => call155 args w
theorem BU.en : Enters prog 187 := fun args w => call187 args w
theorem JJ.en : Enters prog 226 := fun args w => call226 args w
theorem JL.en : Enters prog 145 := fun args w => call145 args w
theorem Bq.en : Enters prog 82 := fun args w => call82 args w
theorem DM.en : Enters prog 105 := fun args w => call105 args w
theorem DX.en : Enters prog 139 := fun args w => call139 args w
theorem DY.en : Enters prog 185 := fun args w => call185 args w
theorem DZ.en : Enters prog 189 := fun args w => call189 args w
theorem Fh.en : Enters prog 224 := fun args w => call224 args w
theorem AU.en : Enters prog 103 := fun args w => call103 args w
theorem BJ.en : Enters prog 106 := fun args w => call106 args w
theorem Da.en : Enters prog 158 := fun args w => call158 args w
theorem Db.en : Enters prog 171 := fun args w => call171 args w
theorem Dc.en : Enters prog 191 := fun args w => call191 args w
theorem Eu.en : Enters prog 217 := fun args w => call217 args w
theorem Ev.en : Enters prog 84 := fun args w => call84 args w
theorem B4.en : Enters prog 100 := fun args w => call100 args w
theorem Ex.en : Enters prog 154 := fun args w => call154 args w
theorem Gg.en : Enters prog 198 := fun args w => call198 args w
theorem C3.en : Enters prog 212 := fun args w => call212 args w
theorem Ez.en : Enters prog 218 := fun args w => call218 args w
theorem Ae.en : Enters prog 101 := fun args w => call101 args w
theorem AQ.en : Enters prog 102 := fun args w => call102 args w
theorem De.en : Enters prog 127 := fun args w => call127 args w
theorem N1.en : Enters prog 144 := fun args w => call144 args w
theorem F0.en : Enters prog 151 := fun args w => call151 args w
theorem HB.en : Enters prog 152 := fun args w => call152 args w
theorem EC.en : Enters prog 220 := fun args w => call220 args w
theorem CM.en : Enters prog 71 := fun args w => call71 args w
theorem E2.en : Enters prog 85 := fun args w => call85 args w
theorem AO.en : Enters prog 104 := fun args w => call104 args w
theorem Di.en : Enters prog 193 := fun args w => call193 args w
theorem ED.en : Enters prog 219 := fun args w => call219 args w
instance : oe prog 99 9 3 := ⟨underlying99,underlying9⟩
instance : ot.rk prog 150 3 148 := ⟨underlying150,underlying3⟩
instance : ot.rk prog 191 3 190 := ⟨underlying191,underlying3⟩
instance : oe prog 197 9 200 := ⟨underlying197,underlying9⟩
instance : ot.rk prog 202 3 201 := ⟨underlying202,underlying3⟩
instance : oe prog 243 9 71 := ⟨underlying243,underlying9⟩
end TwW
end
section
namespace TwW
open Go Go.MapKept Tw Go.RowKit Go.Proofs.Tryz
section
variable {P : Program} {σ σ' : Hp} {R : Rr}
def dQ (x : Int × Value) (n : Nat) : MapEntry := { key := .int .i64 x.1,val := x.2,born := n }
def MI (σ : Hp) (m : Nat) (l : List (Int × Value)) : Prop := ∃ (bs : List Nat) (clock : Nat),bs.length = l.length ∧ ot.BV σ m (List.zipWith dQ l bs) clock
theorem MI.loc {m : Nat} {l : List (Int × Value)} (h : MI σ m l) (hx : σ' m = σ m) : MI σ' m l := let ⟨bs,c,h1,h2⟩ := h; ⟨bs,c,h1,h2.loc hx⟩
theorem MI.known {m : Nat} {l : List (Int × Value)} (h : MI σ m l) : σ m ≠ none := let ⟨bs,c,h1,h2⟩ := h; by rw [h2.1]; simp
theorem MI.fresh {m : Nat} : MI (σ.set m (.map #[] 0)) m [] := ⟨[],0,rfl,ot.BV.fresh⟩
theorem MI.put {T K V : TypeId} [ot.rk P T K V] {m : Nat} {l : List (Int × Value)} {x : Int} {v : Value} {Φ : Unit → Hp → Prop} (h : MI σ m l) (hn : ∀ a ∈ l,a.1 ≠ x)
   (hΦ : ∀ o,MI (σ.set m o) m (l ++ [(x,v)]) → Φ () (σ.set m o)) : AK P (Instr.mapUpdate T (.map (some m)) (.int .i64 x) v) σ Φ := by
 obtain ⟨bs,clock,hb,hm⟩ := h
 refine ot.Hx hm (fun EA σ' hσ xw => ?_) fun l1 e l2 hl he σ' hσ xw => ?_
 · subst hσ
   refine hΦ _ ⟨bs ++ [clock],clock + 1,by simp [hb],?_⟩
   rw [List.zipWith_append hb.symm]
   exact xw
 · have pQ : e ∈ List.zipWith dQ l bs := by rw [hl]; simp
   obtain ⟨i,hi⟩ := List.mem_iff_getElem?.1 pQ
   rw [List.getElem?_zipWith] at hi
   cases uM : l[i]? with
   | none => rw [uM] at hi; cases hi
   | some a =>
     cases hbi : bs[i]? with
     | none => rw [uM,hbi] at hi; cases hi
     | some b =>
       rw [uM,hbi] at hi
       simp only [Option.some.injEq] at hi
       subst hi
       have := hn a (List.mem_of_getElem? uM)
       simp only [dQ,Value.int.injEq,true_and] at he
       exact absurd he this
theorem MI.look {T K V : TypeId} [ot.rk P T K V] {m : Nat} {l : List (Int × Value)} {x : Int} {z : Value} {Φ : Value → Hp → Prop} (h : MI σ m l) (hz : ∀ w,(zeroValue V).run P w = .ok z w)
   (h0 : (∀ a ∈ l,a.1 ≠ x) → Φ z σ) (h1 : ∀ v,(x,v) ∈ l → Φ v σ) : AK P (Instr.lookup T (.map (some m)) (.int .i64 x) false) σ Φ := by
 obtain ⟨bs,clock,hb,hm⟩ := h
 refine ot.NB hm hz (fun EA => h0 fun a ha hax => ?_) fun l1 e l2 hl he => ?_
 · obtain ⟨i,hi⟩ := List.mem_iff_getElem?.1 ha
   have Aq := (List.getElem?_eq_some_iff.1 hi).1
   have hm : dQ a (bs[i]'(by omega)) ∈ List.zipWith dQ l bs := List.mem_iff_getElem?.2 ⟨i,by rw [List.getElem?_zipWith,hi,List.getElem?_eq_getElem (by omega)]⟩
   exact EA _ hm (by rw [← hax]; rfl)
 · have pQ : e ∈ List.zipWith dQ l bs := by rw [hl]; simp
   obtain ⟨i,hi⟩ := List.mem_iff_getElem?.1 pQ
   rw [List.getElem?_zipWith] at hi
   cases uM : l[i]? with
   | none => rw [uM] at hi; cases hi
   | some a =>
     cases hbi : bs[i]? with
     | none => rw [uM,hbi] at hi; cases hi
     | some b =>
       rw [uM,hbi] at hi
       simp only [Option.some.injEq] at hi
       subst hi
       simp only [dQ,Value.int.injEq,true_and] at he
       subst he
       exact h1 a.2 (List.mem_of_getElem? uM)
def pR (τ σ : Hp) (m : Nat) (l : List (Int × Value)) : Prop := Ext τ σ ∧ τ m = none ∧ MI σ m l
theorem pR.fresh {τ : Hp} {m : Nat} (h : τ m = none) : pR τ (τ.set m (.map #[] 0)) m [] := ⟨.set h,h,MI.fresh⟩
theorem pR.alloc {τ : Hp} {m b : Nat} {l : List (Int × Value)} {o : Obj} (h : pR τ σ m l) (hb : σ b = none) : pR (τ.set b o) (σ.set b o) m l := by
 have A5 : m ≠ b := fun e => h.2.2.known (by rw [e]; exact hb)
 refine ⟨fun k u hk => ?_,by rw [Hp.AI A5]; exact h.2.1,h.2.2.loc (Hp.AI A5)⟩
 by_cases HZ : k = b
 · subst HZ; rw [Hp.AB] at hk ⊢; exact hk
 · rw [Hp.AI HZ] at hk ⊢; exact h.1 _ _ hk
theorem pR.put {τ : Hp} {T K V : TypeId} [ot.rk P T K V] {m : Nat} {l : List (Int × Value)} {x : Int} {v : Value} {Φ : Unit → Hp → Prop} (h : pR τ σ m l) (hn : ∀ a ∈ l,a.1 ≠ x)
   (hΦ : ∀ σ',pR τ σ' m (l ++ [(x,v)]) → Φ () σ') : AK P (Instr.mapUpdate T (.map (some m)) (.int .i64 x) v) σ Φ :=
 h.2.2.put hn fun o ho => hΦ _ ⟨fun k u hk => by rw [Hp.AI (fun e => by rw [e,h.2.1] at hk; cases hk)]; exact h.1 _ _ hk,h.2.1,ho⟩
section
variable {α : Type}
theorem Tf {l : List (ByteArray × α)} {k : ByteArray} (h : ∀ a ∈ l,a.1 ≠ k) : C6 l k = none := by
 induction l with
 | nil => rfl
 | cons a l ih => rw [C6,if_neg (h a (by simp))]; exact ih fun b hb => h b (List.mem_cons_of_mem _ hb)
theorem Va {l m : List (ByteArray × α)} {k : ByteArray} {y : α} (h : ∀ a ∈ l,a.1 ≠ k) : C6 (l ++ (k,y) :: m) k = some y := by
 induction l with
 | nil => simp [C6]
 | cons a l ih => rw [List.cons_append,C6,if_neg (h a (by simp))]; exact ih fun b hb => h b (List.mem_cons_of_mem _ hb)
theorem PL {l : List (ByteArray × α)} {k : ByteArray} {y : α} (h : ∀ a ∈ l,a.1 ≠ k) : Qi l k y = l ++ [(k,y)] := by
 induction l with
 | nil => rfl
 | cons a l ih => rw [Qi,if_neg (h a (by simp)),ih fun b hb => h b (List.mem_cons_of_mem _ hb)]; rfl
theorem Zb {l m : List (ByteArray × α)} {k : ByteArray} {y z : α} (h : ∀ a ∈ l,a.1 ≠ k) : Qi (l ++ (k,z) :: m) k y = l ++ (k,y) :: m := by
 induction l with
 | nil => simp [Qi]
 | cons a l ih => rw [List.cons_append,Qi,if_neg (h a (by simp)),ih fun b hb => h b (List.mem_cons_of_mem _ hb)]; rfl
def MS (E : Value → α → Prop) (σ : Hp) (m : Nat) (L : List (ByteArray × α)) : Prop :=
 ∃ (l : List MapEntry) (clock : Nat),BV σ m l clock ∧ l.length = L.length ∧ ∀ (i : Nat) (e : MapEntry) (x : ByteArray × α),l[i]? = some e → L[i]? = some x → e.key = .string x.1 ∧ E e.val x.2
theorem MS.mono {E : Value → α → Prop} {m : Nat} {L : List (ByteArray × α)} (h : MS E σ m L) (hx : Ext σ σ') : MS E σ' m L := let ⟨l,c,h1,h2⟩ := h; ⟨l,c,h1.mono hx,h2⟩
theorem MS.loc {E : Value → α → Prop} {m : Nat} {L : List (ByteArray × α)} (h : MS E σ m L) (hx : σ' m = σ m) : MS E σ' m L := let ⟨l,c,h1,h2⟩ := h; ⟨l,c,h1.loc hx,h2⟩
theorem MS.imp {E E' : Value → α → Prop} {m : Nat} {L : List (ByteArray × α)} (h : MS E σ m L) (hE : ∀ v x,E v x → E' v x) : MS E' σ m L := let ⟨l,c,h1,h2,h3⟩ := h; ⟨l,c,h1,h2,fun i e x he hx => ⟨(h3 i e x he hx).1,hE _ _ (h3 i e x he hx).2⟩⟩
theorem MS.known {E : Value → α → Prop} {m : Nat} {L : List (ByteArray × α)} (h : MS E σ m L) : σ m ≠ none := let ⟨l,c,h1,h2⟩ := h; by rw [h1.1]; simp
theorem MS.fresh {E : Value → α → Prop} {m : Nat} : MS E (σ.set m (.map #[] 0)) m [] := ⟨[],0,BV.fresh,rfl,fun i e x he => by simp at he⟩
theorem MS.len {E : Value → α → Prop} {T K V ty : TypeId} [oe P T K V] {m : Nat} {L : List (ByteArray × α)} (h : MS E σ m L) : YF P (Builtin.len_ #[T] ty #[.map (some m)]) σ (.int .i64 L.length) := by
 obtain ⟨l,c,h1,h2,h3⟩ := h
 rw [← h2]; exact og h1
theorem Tg {E : Value → α → Prop} {l l1 l2 : List MapEntry} {e : MapEntry} {L : List (ByteArray × α)} {s : ByteArray} (hn : (l.map (·.key)).Nodup) (h2 : l.length = L.length) (h3 : ∀ (i : Nat) (e : MapEntry) (x : ByteArray × α),l[i]? = some e → L[i]? = some x → e.key = .string x.1 ∧ E e.val x.2) (hl : l = l1 ++ e :: l2) (he : e.key = .string s) :
   ∃ L1 x L2,L = L1 ++ (s,x) :: L2 ∧ L1.length = l1.length ∧ (∀ a ∈ L1,a.1 ≠ s) ∧ E e.val x := by
 subst hl
 have Aq : l1.length < L.length := by rw [← h2]; simp
 have NK : L = L.take l1.length ++ L[l1.length] :: L.drop (l1.length + 1) := by rw [List.getElem_cons_drop,List.take_append_drop]
 have hx := h3 l1.length e L[l1.length] (by simp) (List.getElem?_eq_getElem _)
 rw [he] at hx
 have hk : L[l1.length].1 = s := by simpa using hx.1.symm
 refine ⟨L.take l1.length,L[l1.length].2,L.drop (l1.length + 1),?_,by rw [List.length_take]; omega,fun a ha has => ?_,hx.2⟩
 · rw [← hk]; exact NK
 · obtain ⟨i,hi⟩ := List.mem_iff_getElem?.1 ha
   rw [List.getElem?_take] at hi
   split at hi
   · rename_i xx
     have hle : (l1 ++ e :: l2)[i]? = some (l1[i]'xx) := by rw [List.getElem?_append_left xx,List.getElem?_eq_getElem xx]
     have h4 := (h3 i _ a hle hi).1
     rw [List.map_append,List.map_cons,List.nodup_append] at hn
     exact hn.2.2 _ (List.mem_map.2 ⟨l1[i]'xx,List.getElem_mem xx,rfl⟩) _ (by simp; exact .inl rfl) (by rw [h4,he,has])
   · cases hi
theorem MS.uN {E : Value → α → Prop} {l : List MapEntry} {L : List (ByteArray × α)} {s : ByteArray} (h2 : l.length = L.length) (h3 : ∀ (i : Nat) (e : MapEntry) (x : ByteArray × α),l[i]? = some e → L[i]? = some x → e.key = .string x.1 ∧ E e.val x.2) (EA : ∀ e ∈ l,e.key ≠ .string s) : ∀ a ∈ L,a.1 ≠ s := fun a ha has => by
 obtain ⟨i,hi⟩ := List.mem_iff_getElem?.1 ha
 have Aq := (List.getElem?_eq_some_iff.1 hi).1
 have := (h3 i (l[i]'(by omega)) a (List.getElem?_eq_getElem _) hi).1
 exact EA _ (List.getElem_mem _) (by rw [this,has])
theorem MS.look {E : Value → α → Prop} {T K V : TypeId} [oe P T K V] {m : Nat} {L : List (ByteArray × α)} {s : ByteArray} {z : Value} {Φ : Value → Hp → Prop} (h : MS E σ m L) (hz : ∀ w,(zeroValue V).run P w = .ok z w)
   (h0 : C6 L s = none → Φ z σ) (h1 : ∀ v x,C6 L s = some x → E v x → Φ v σ) : AK P (Instr.lookup T (.map (some m)) (.string s) false) σ Φ := by
 obtain ⟨l,c,hm,h2,h3⟩ := h
 refine NB hm hz (fun EA => h0 (Tf (MS.uN h2 h3 EA))) fun l1 e l2 hl he => ?_
 obtain ⟨L1,x,L2,rfl,_,EA,hE⟩ := Tg hm.nodup h2 h3 hl he
 exact h1 e.val x (Va EA) hE
theorem MS.Zc {E : Value → α → Prop} {T K V : TypeId} [t : oe P T K V] {m : Nat} {L : List (ByteArray × α)} {s : ByteArray} {z : Value} {Φ : Value → Hp → Prop} (h : MS E σ m L) (hz : ∀ w,(zeroValue V).run P w = .ok z w)
   (h0 : C6 L s = none → Φ (.tuple #[z,.bool false]) σ) (h1 : ∀ v x,C6 L s = some x → E v x → Φ (.tuple #[v,.bool true]) σ) : AK P (Instr.lookup T (.map (some m)) (.string s) true) σ Φ := by
 obtain ⟨l,c,hm,h2,h3⟩ := h
 rcases FY (s := s) hm.2.2 with ⟨hf,EA⟩ | ⟨l1,e,l2,hl,he,hf⟩
 · refine AK.pu (fun w hs => ?_) (h0 (Tf (MS.uN h2 h3 EA)))
   have := hs _ _ hm.1
   simp [Instr.lookup,run_underlying t.eb,run_getObj_map this,run_checkKey t.key (k := .string s) trivial,run_findKey t.key hf,hz,Result.andThen]
 · obtain ⟨L1,x,L2,rfl,_,EA,hE⟩ := Tg hm.nodup h2 h3 hl he
   refine AK.pu (fun w hs => ?_) (h1 e.val x (Va EA) hE)
   have := hs _ _ hm.1
   simp [Instr.lookup,run_underlying t.eb,run_getObj_map this,run_checkKey t.key (k := .string s) trivial,run_findKey t.key hf,Result.andThen]
theorem MS.put {E : Value → α → Prop} {T K V : TypeId} [oe P T K V] {m : Nat} {L : List (ByteArray × α)} {s : ByteArray} {v : Value} {x : α} {Φ : Unit → Hp → Prop} (h : MS E σ m L) (hv : E v x)
   (hΦ : ∀ o,MS E (σ.set m o) m (Qi L s x) → Φ () (σ.set m o)) : AK P (Instr.mapUpdate T (.map (some m)) (.string s) v) σ Φ := by
 obtain ⟨l,c,hm,h2,h3⟩ := h
 refine Hx hm (fun EA σ' hσ xw => ?_) fun l1 e l2 hl he σ' hσ xw => ?_
 · subst hσ
   refine hΦ _ ⟨_,_,xw,?_,fun i e y hi hy => ?_⟩
   · rw [PL (MS.uN h2 h3 EA)]; simp [h2]
   · rw [PL (MS.uN h2 h3 EA)] at hy
     rw [List.getElem?_append] at hi hy
     split at hi
     · rename_i Aq
       rw [if_pos (by omega)] at hy
       exact h3 i e y hi hy
     · rename_i Aq
       rw [if_neg (by omega)] at hy
       rw [← h2] at hy
       cases hj : i - l.length with
       | zero =>
         rw [hj] at hi hy
         simp only [List.getElem?_cons_zero,Option.some.injEq] at hi hy
         subst hi; subst hy
         exact ⟨rfl,hv⟩
       | succ j => rw [hj] at hi; simp at hi
 · obtain ⟨L1,y,L2,rfl,hlen,EA,hE⟩ := Tg hm.nodup h2 h3 hl he
   subst hσ
   subst hl
   refine hΦ _ ⟨_,_,xw,?_,fun i e' z hi hz => ?_⟩
   · rw [Zb EA]; simp at h2 ⊢; omega
   · rw [Zb EA] at hz
     by_cases xx : i = l1.length
     · subst xx
       rw [← hlen] at hz
       simp at hi hz
       subst hi; subst hz
       exact ⟨rfl,hv⟩
     · have e1 : (l1 ++ Tw.Nc s v e.born :: l2)[i]? = (l1 ++ e :: l2)[i]? := by
         rcases Nat.lt_or_ge i l1.length with h | h
         · rw [List.getElem?_append_left h,List.getElem?_append_left h]
         · obtain ⟨k,rfl⟩ : ∃ k,i = l1.length + (k + 1) := ⟨i - l1.length - 1,by omega⟩
           simp [List.getElem?_append_right]
       have e2 : (L1 ++ (s,x) :: L2)[i]? = (L1 ++ (s,y) :: L2)[i]? := by
         rcases Nat.lt_or_ge i L1.length with h | h
         · rw [List.getElem?_append_left h,List.getElem?_append_left h]
         · obtain ⟨k,rfl⟩ : ∃ k,i = L1.length + (k + 1) := ⟨i - L1.length - 1,by omega⟩
           simp [List.getElem?_append_right]
       exact h3 i e' z (by rw [← e1]; exact hi) (by rw [← e2]; exact hz)
end
end
end TwW
end
section
namespace TwW
open Go Tw Go.RowKit Go.Proofs.Tryz
def Oa (n : Nd) (l : List Int) : Int × Int :=
 if n.kind = 1 then (1,0) else if n.kind = 2 then (2,0) else if n.kind = 3 then (3,0) else if n.kind = 4 then Za n (l[0]?.getD 0) else if n.kind = 5 then gE (l[0]?.getD 0)
 else if n.kind = 6 then jO n (l[0]?.getD 0) (l[1]?.getD 0) else pP (l[0]?.getD 0)
def BS (n : Nd) (st : List Int) : Int × List Int :=
 if FL n = false ∨ (st.length : Int) < n.parts then (190,st) else if HJ CD n.mt ≠ 0 then (193,st) else
   ((Oa n (st.drop (st.length - n.parts.toNat))).2,st.take (st.length - n.parts.toNat) ++ [(Oa n (st.drop (st.length - n.parts.toNat))).1])
theorem Ie {n : Nd} (h : FL n = true) : GB n = true := by
 unfold FL at h
 simp only [Bool.and_eq_true] at h
 exact h.2
theorem PM {n : Nd} (h : FL n = true) : GU n (BO n) = true := by
 unfold FL at h
 simp only [Bool.and_eq_true] at h
 exact h.1.1.1
theorem BB.AI {s b : Nat} {o : Obj} {σ : Hp} {p : Option Addr} {n c : Nat} {cs : List Value} (ho : BB s σ p n c cs) (h : ∀ a,p = some a → a.block ≠ b) : BB s (σ.set b o) p n c cs :=
 ⟨ho.1,ho.2.1,ho.2.2.imp id fun ⟨b',o',arr,T,hp,hb,r⟩ => ⟨b',o',arr,T,hp,by rw [Hp.AI (h _ hp)]; exact hb,r⟩⟩
theorem uO : ∀ w,(zeroValue 148).run prog w = .ok .nilFunc w := fun w => by
 have h : prog.info? 148 = some t148 := by kernel_rfl
 simp [zeroValue,typeInfo,h]
 rfl
structure dR (σ0 σ : Hp) (wb : Nat) (p : Option Addr) (n c : Nat) (st : List Int) : Prop where
 cell : σ wb = some (.cells #[.slice p n c] 110 (0,0))
 own : D0 .i64 σ p n c st
 off : ∀ a,p = some a → a.block ≠ wb ∧ σ0 a.block = none
 new : σ0 wb = none
 ext : Ext σ0 σ
section
variable {σ σ' σ0 : Hp} {R : Rr}
theorem dR.mono {wb : Nat} {p : Option Addr} {n c : Nat} {st : List Int} (h : dR σ0 σ wb p n c st) (hx : Ext σ σ') : dR σ0 σ' wb p n c st := ⟨hx _ _ h.cell,h.own.mono hx,h.off,h.new,h.ext.trans hx⟩
theorem PN {k : Int} (h : ∀ b,σ b = none → R (.returned (.func (.func 127) #[] #[.pointer (aD b 0)])) (σ.set b (.cells #[.int .i64 k] 3 (0,0)))) : Spec prog 81 #[.int .i64 k] σ R := S6.start h
theorem NL {n : Nd} {p q r : Option Addr} {k c m d s t b : Nat} {v : Int} (hb : σ b = some (.cells #[.int .i64 v] 3 (0,0))) (h : R (.returned (tyV (v,0))) σ) : Spec prog 127 #[MZ n p k c q m d,.slice r s t,.pointer (aD b 0)] σ R :=
 De.start fun _ => ⟨v,Ad hb rfl,h⟩
theorem uP : ∀ w,(Go.sizeOf 108).run prog w = .ok 1 w := fun w => by kernel_rfl
theorem jQ {wb : Nat} {p q r : Option Addr} {k c m d j e : Nat} {st : List Int} {n : Nd} (hW : dR σ0 σ wb r j e st) (hm : Ab 3 OZ σ0 p k n.mt) (hr : FC 1 σ0 q m (n.names.map .string)) (hb : n.text.size ≤ 4611686018427387904) (hj : j ≤ 1000000000000)
   (h : ∀ r' j' e' σ',(BS n st).1 = 0 → dR σ0 σ' wb r' j' e' (BS n st).2 → R (.returned (.int .i64 0)) σ') (h' : ∀ σ',(BS n st).1 ≠ 0 → Ext σ0 σ' → R (.returned (.int .i64 (BS n st).1)) σ') :
   Spec prog 53 #[.pointer (some ⟨wb,0,none⟩),MZ n p k c q m d] σ R := by
 have hk : n.mt.length = k := hm.1
 have hsl : st.length = j := by have := hW.own.1; simpa using this
 refine Jk.start fun _ => jL hk (hr.mono hW.ext) hb fun σ1 CO => ⟨_,rfl,fun hf => ?_,fun ht => ?_⟩
 · have e1 : BS n st = (190,st) := by unfold BS; rw [if_pos (.inl hf)]
   rw [e1] at h'
   exact h' σ1 (by dsimp only; decide) (hW.ext.trans CO)
 have hW1 := hW.mono CO
 refine ⟨wb,0,rfl,r,j,e,Ad hW1.cell rfl,fun Aq => ?_,fun ck => QD (hm.mono OZ.mono hW1.ext) ⟨_,rfl,fun A5 => ?_,fun h0 => ?_⟩⟩
 · have e1 : BS n st = (190,st) := by unfold BS; rw [if_pos (.inr (by omega))]
   rw [e1] at h'
   exact h' σ1 (by dsimp only; decide) hW1.ext
 · have e1 : BS n st = (193,st) := by unfold BS; rw [if_neg (by rw [ht]; simp; omega),if_pos A5]
   rw [e1] at h'
   exact h' σ1 (by dsimp only; decide) hW1.ext
 have fy := Decidable.not_not.1 h0
 have eS : BS n st = ((Oa n (st.drop (st.length - n.parts.toNat))).2,st.take (st.length - n.parts.toNat) ++ [(Oa n (st.drop (st.length - n.parts.toNat))).1]) := by
   unfold BS; rw [if_neg (by rw [ht]; simp; omega),if_neg h0]
 rw [eS] at h h'
 dsimp only at h h'
 have DB := Ie ht
 have ANR : 0 ≤ n.parts := by
   unfold GB at DB
   have hp := PM ht
   by_cases h1 : n.kind = 1
   · unfold GU BO at hp; simp [h1] at hp; omega
   by_cases h2 : n.kind = 2
   · unfold GU BO at hp; simp [h2] at hp; omega
   by_cases h3 : n.kind = 3
   · unfold GU BO at hp; simp [h3] at hp; omega
   rw [if_neg h1,if_neg h2,if_neg h3] at DB
   split at DB
   · simp at DB; omega
   · split at DB
     · simp at DB; omega
     · split at DB
       · simp at DB; omega
       · simp at DB; omega
 obtain ⟨t,hpt⟩ : ∃ t : Nat,n.parts = t := ⟨n.parts.toNat,by omega⟩
 have htj : t ≤ j := by omega
 have htn : n.parts.toNat = t := by omega
 rw [htn,hsl] at h h'
 refine EW fun mb pS => ⟨mb,rfl,?_⟩
 have s0 := pR.fresh pS
 refine PN fun b1 aq => ⟨_,_,_,rfl,?_⟩
 have s1 := s0.alloc (o := .cells #[.int .i64 1] 3 (0,0)) aq
 refine s1.put (by simp) fun σ2 s2 => PN fun b2 M4 => ⟨_,_,_,rfl,?_⟩
 have s3 := s2.alloc (o := .cells #[.int .i64 2] 3 (0,0)) M4
 refine s3.put (by simp) fun σ4 s4 => PN fun b3 al => ⟨_,_,_,rfl,?_⟩
 have s5 := s4.alloc (o := .cells #[.int .i64 3] 3 (0,0)) al
 refine s5.put (by simp) fun σ6 s6 => s6.put (by simp) fun σ7 s7 => s7.put (by simp) fun σ8 s8 => s8.put (by simp) fun σ9 s9 => s9.put (by simp) fun σA sA => ?_
 clear s0 s1 s3 s5 s6 s7 s8 s9
 have n1 : σ1 b1 = none := (Hp.AS aq).2
 have n2 : (σ1.set b1 (.cells #[.int .i64 1] 3 (0,0))) b2 = none := BE s2.1 M4
 have n3 : ((σ1.set b1 (.cells #[.int .i64 1] 3 (0,0))).set b2 (.cells #[.int .i64 2] 3 (0,0))) b3 = none := BE s4.1 al
 have x1 : Ext σ1 σA := (Ext.set n1).trans ((Ext.set n2).trans ((Ext.set n3).trans sA.1))
 have c3 := sA.1 b3 _ (Hp.AB _ _ _)
 have c2 := sA.1 b2 _ ((Ext.set n3) _ _ (Hp.AB _ _ _))
 have c1 := sA.1 b1 _ ((Ext.set n3) _ _ ((Ext.set n2) _ _ (Hp.AB _ _ _)))
 have jR := hW1.mono x1
 have hlA := sA.2.2
 clear s2 s4 sA n1 n2 n3 aq M4 al
 simp only [List.nil_append,List.cons_append] at hlA
 have e1 : Int.toNat ((j : Int) - n.parts) = j - t := by omega
 refine ⟨r,j,e,Ad jR.cell rfl,by unfold AJ; omega,r,j,e,Ad jR.cell rfl,by omega,?_⟩
 have hce : j ≤ e := BB.cap jR.own
 have Td : FJ .i64 σA (Ir r (j - t) e 1) (j - (j - t)) (st.drop (j - t)) := by
   have := Ab.sub (i := j - t) (m := j - (j - t)) (D0.rd jR.own) (by decide) (by omega) hce
   rwa [List.take_of_length_le (by rw [List.length_drop]; omega)] at this
 have Td : FJ .i64 σA (Ir r (Int.toNat ((j : Int) - n.parts)) e 1) (j - Int.toNat ((j : Int) - n.parts)) (st.drop (j - t)) := by rw [e1]; exact Td
 have fin : ∀ x : Int × Int,x = Oa n (st.drop (j - t)) → AA R (fun z cP => ∃ WN Hw,z = (.tuple #[.int .i64 WN,.int .i64 Hw]) ∧ LS cP wb 0 fun rY l8 fU => ((0 : Int) ≤ ((j : Int) - n.parts) ∧ ((j : Int) - n.parts) ≤ (fU : Int)) ∧ Al cP fun WC => AK prog (Builtin.append_ #[108,108] 108 #[(.slice rY (Int.toNat ((j : Int) - n.parts)) fU),(.slice (aD WC 0) 1 1)]) (Hp.set cP WC (.cells #[.int .i64 WN] 113 (0,0))) (CS fun p72 n72 c72 zq => AK prog (Instr.storeAt 108 (.pointer (aD wb 0)) (.slice p72 n72 c72)) zq (fun _ zr => R (.returned (.int .i64 Hw)) zr))) (.returned (tyV x)) σA := fun x hx => by
   rw [← hx] at h h'
   refine ⟨x.1,x.2,rfl,r,j,e,Ad jR.cell rfl,by omega,fun WC pT => ?_⟩
   rw [e1]
   have Bg := (BB.take (m := j - t) jR.own (by omega)).mono (Ext.set (o := .cells #[.int .i64 x.1] 113 (0,0)) pT)
   refine DQ Bg (Wm (f := .int .i64) (x := x.1) (Hp.AB _ _ _)) Gd.Qw (by omega) fun p' c' σB hoB xy => ⟨_,_,_,rfl,?_⟩
   have hwb : ∀ a,r = some a → wb ≠ a.block := fun a ha => Ne.symm (jR.off a ha).1
   have Ob : wb ≠ WC := fun e => by rw [← e,jR.cell] at pT; cases pT
   obtain ⟨g1,g2⟩ := AR.1 (xy wb _ (AR.2 ⟨hwb,(Ext.set pT) _ _ jR.cell⟩))
   have hE0 : Ext σ0 (σB.del p') := fun k u hk => xy k u (AR.2 ⟨fun a ha kN => (by rw [kN,(jR.off a ha).2] at hk; cases hk),(Ext.set pT) _ _ (jR.ext _ _ hk)⟩)
   refine AK.store uP g2 rfl (by simp) (by simp [Value.cells,Value.oneCell']) ?_
   have uQ : dR σ0 (σB.set wb (.cells (NT #[.slice r j e] 0 (Value.slice p' (j - t + 1) c').cells.toList) 110 (0,0))) wb p' (j - t + 1) c' (st.take (j - t) ++ [x.1]) := by
     refine ⟨by rw [Hp.AB]; simp [NT,Value.cells],?_,fun a ha => ⟨fun e => g1 a ha e.symm,?_⟩,jR.new,fun k u hk => ?_⟩
     · have := BB.AI (b := wb) (o := .cells (NT #[.slice r j e] 0 (Value.slice p' (j - t + 1) c').cells.toList) 110 (0,0)) hoB (fun a ha e => g1 a ha e.symm)
       unfold D0
       rw [List.map_append,List.map_take]
       simpa using this
     · cases hh : σ0 a.block with
       | none => rfl
       | some u => exact absurd rfl ((AR.1 (hE0 _ _ hh)).1 a ha)
     · rw [Hp.AI (fun e => by rw [e,jR.new] at hk; cases hk)]
       exact (AR.1 (hE0 _ _ hk)).2
   by_cases hz : x.2 = 0
   · rw [hz]; exact h _ _ _ _ hz uQ
   · exact h' _ hz uQ.ext
 have part : ∀ i,i < t → ∃ v,(st.drop (j - t))[i]? = some v := fun i hi => ⟨_,List.getElem?_eq_getElem (by rw [List.length_drop]; omega)⟩
 refine hlA.look uO (fun EA => ?_) fun v hv => ⟨v,rfl,Kp.Ho (.refl _),?_⟩
 · exfalso
   unfold GB at DB
   have g := fun i => EA i
   simp only [List.mem_cons,List.not_mem_nil,or_false,forall_eq_or_imp,forall_eq] at EA
   obtain ⟨a1,a2,a3,a4,a5,a6,a7⟩ := EA
   rw [if_neg (Ne.symm a1),if_neg (Ne.symm a2),if_neg (Ne.symm a3),if_neg (Ne.symm a4),if_neg (Ne.symm a5),if_neg (Ne.symm a6)] at DB
   exact a7 (of_decide_eq_true DB).1.symm
 simp only [List.mem_cons,List.not_mem_nil,or_false,Prod.mk.injEq] at hv
 rcases hv with ⟨hn,rfl⟩ | ⟨hn,rfl⟩ | ⟨hn,rfl⟩ | ⟨hn,rfl⟩ | ⟨hn,rfl⟩ | ⟨hn,rfl⟩ | ⟨hn,rfl⟩
 · exact ⟨127,_,_,rfl,De.en,NL c1 (fin _ (by unfold Oa; rw [if_pos hn]))⟩
 · exact ⟨127,_,_,rfl,De.en,NL c2 (fin _ (by unfold Oa; rw [if_neg (by omega),if_pos hn]))⟩
 · exact ⟨127,_,_,rfl,De.en,NL c3 (fin _ (by unfold Oa; rw [if_neg (by omega),if_neg (by omega),if_pos hn]))⟩
 · have ht1 : t = 1 := by unfold GB at DB; simp [hn] at DB; omega
   obtain ⟨v,hv⟩ := part 0 (by omega)
   exact ⟨82,_,_,rfl,Bq.en,dP Td hv (fin _ (by unfold Oa; rw [if_neg (by omega),if_neg (by omega),if_neg (by omega),if_pos hn,hv]; rfl))⟩
 · have ht1 : t = 1 := by unfold GB at DB; simp [hn] at DB; omega
   obtain ⟨v,hv⟩ := part 0 (by omega)
   exact ⟨83,_,_,rfl,Ek.en,jM Td hv (fin _ (by unfold Oa; rw [if_neg (by omega),if_neg (by omega),if_neg (by omega),if_neg (by omega),if_pos hn,hv]; rfl))⟩
 · have ht1 : t = 2 := by unfold GB at DB; simp [hn] at DB; omega
   obtain ⟨v,hv⟩ := part 0 (by omega)
   obtain ⟨u,hu⟩ := part 1 (by omega)
   exact ⟨84,_,_,rfl,Ev.en,jP Td hv hu (fin _ (by unfold Oa; rw [if_neg (by omega),if_neg (by omega),if_neg (by omega),if_neg (by omega),if_neg (by omega),if_pos hn,hv,hu]; rfl))⟩
 · have ht1 : t = 1 := by unfold GB at DB; simp [hn] at DB; omega
   obtain ⟨v,hv⟩ := part 0 (by omega)
   exact ⟨85,_,_,rfl,E2.en,jN Td hv (fin _ (by unfold Oa; rw [if_neg (by omega),if_neg (by omega),if_neg (by omega),if_neg (by omega),if_neg (by omega),if_neg (by omega),hv]; rfl))⟩
def C8 : List Nd → List Int → Option (List Int)
 | [],st => some st
 | n :: t,st => if (BS n st).1 = 0 then C8 t (BS n st).2 else none
def pU (t : List Nd) : Option (List Int) → Option Int
 | some [k] => if t.length ≤ 4096 then some k else none
 | _ => none
def Ld (t : List Nd) : Option Int := pU t (C8 t [])
theorem NG.at {p : Option Addr} {n i : Nat} {t : List Nd} {x : Nd} (hr : Ab 10 NG σ p n t) (hx : t[i]? = some x) : ∃ b o p1 k c q m d,p = some ⟨b,o,none⟩ ∧ Ay σ b (o + i * 10) [.int .i64 x.kind,.int .i64 x.op,.string x.text,.slice p1 k c,.int .i64 x.width,.int .i64 x.back,.int .i64 x.Ec,.slice q m d,.bool x.bool,.int .i64 x.parts] ∧ Ab 3 OZ σ p1 k x.mt ∧ FC 1 σ q m (x.names.map .string) := by
 obtain ⟨b,o,vs,hp,⟨p1,k,c,q,m,d,rfl,h1,h2⟩,hl⟩ := Ab.idx hr hx
 exact ⟨b,o,p1,k,c,q,m,d,hp,hl,h1,h2⟩
theorem pV {n : Nd} {st : List Int} : (BS n st).2.length ≤ st.length + 1 := by
 unfold BS
 split
 · exact Nat.le_succ _
 · split
   · exact Nat.le_succ _
   · simp only [List.length_append,List.length_take,List.length_singleton]; omega
theorem Th {p : Option Addr} {n c : Nat} {t : List Nd} (hr : Ab 10 NG σ p n t) (hn : n ≤ 1000000000) (hb : ∀ x ∈ t,x.text.size ≤ 4611686018427387904)
   (h : ∀ k σ',Ld t = some k → Ext σ σ' → R (.returned (.tuple #[.int .i64 k,.int .i64 0,.int .i64 0])) σ') (h' : ∀ k j e σ',Ld t = none → e ≠ 0 → Ext σ σ' → R (.returned (.tuple #[.int .i64 k,.int .i64 j,.int .i64 e])) σ') :
   Spec prog 37 #[.slice p n c] σ R := by
 have hl : t.length = n := hr.1
 refine Fm.start fun wb hwb => ?_
 suffices H : ∀ g k : Nat,∀ r j e st σ',n - k = g → k ≤ n → j ≤ k → dR σ σ' wb r j e st → C8 t [] = C8 (t.drop k) st → Fm.BA R p n c (aD wb 0) p n c n k σ' from
   H n 0 none 0 0 [] _ rfl (Nat.zero_le _) (Nat.le_refl _) ⟨Hp.AB _ _ _,D0.nil,fun a ha => (by cases ha),hwb,.set hwb⟩ rfl
 intro g
 induction g with
 | zero =>
   intro k r j e st σ' hg hk hj hW he
   rw [List.drop_eq_nil_of_le (by omega)] at he
   have Cj : st.length = j := by have := hW.own.1; simpa using this
   have ht : Ld t = pU t (some st) := by unfold Ld; rw [he]; rfl
   refine Fm.AZ ⟨fun Aq => by omega,fun _ => ⟨wb,0,rfl,r,j,e,Ad hW.cell rfl,fun h1 => h' _ _ _ σ' ?_ (by decide) hW.ext,fun h1 => ⟨fun NF => h' _ _ _ σ' ?_ (by decide) hW.ext,fun j7 => ?_⟩⟩⟩
   · rw [ht]
     match st,Cj with
     | [],_ => rfl
     | [_],Cj => simp at Cj; omega
     | _ :: _ :: _,_ => rfl
   · rw [ht]
     match st,Cj with
     | [],_ => rfl
     | [_],Cj => exact if_neg (by omega)
     | _ :: _ :: _,_ => rfl
   · have yY : j = 1 := by omega
     subst yY
     match st,Cj with
     | [x],_ =>
       obtain ⟨b,o,rfl,Eb⟩ := FJ.at (D0.rd hW.own) (i := 0) (x := x) rfl
       exact ⟨_,1,e,Ad hW.cell rfl,b,o,rfl,by omega,x,by simpa using Eb,h x σ' (by rw [ht]; exact if_pos (by omega)) hW.ext⟩
 | succ g ih =>
   intro k r j e st σ' hg hk hj hW he
   have HM : k < n := by omega
   obtain ⟨x,hx⟩ := hr.ex HM
   obtain ⟨b,o,p1,k1,c1,q1,m1,d1,rfl,Eb,h1,h2⟩ := NG.at hr hx
   rw [BD hx,C8] at he
   refine Fm.AZ ⟨fun _ => ⟨b,o,rfl,by omega,_,_,_,_,_,_,_,_,_,_,_,_,_,_,by simpa using Eb.mono hW.ext,fun _ => ?_⟩,fun hh => by omega⟩
   refine jQ hW h1 h2 (hb x (List.mem_of_getElem? hx)) (by omega) (fun r' j' e' σ2 h0 hW2 => ⟨0,rfl,fun hh => absurd rfl hh,fun _ => ⟨AL HM hr.big,ih (k + 1) r' j' e' _ σ2 (by omega) (by omega) ?_ hW2 ?_⟩⟩) fun σ2 h0 A9 => ⟨_,rfl,fun _ => h' _ _ _ σ2 ?_ h0 A9,fun hh => absurd h0 hh⟩
   · have h3 := pV (n := x) (st := st)
     have h4 : (BS x st).2.length = j' := by have := hW2.own.1; simpa using this
     have h5 : st.length = j := by have := hW.own.1; simpa using this
     omega
   · rw [he,if_pos h0]
   · unfold Ld; rw [he,if_neg h0]; rfl
end
end TwW
end
section
namespace Go.Proofs
open Go.Shelf
def Tryz.Zd : Go.Shelf.Ren := ⟨fun | 143 => 260 | 219 => 290 | 217 => 169 | 225 => 318 | 224 => 319 | 267 => 320 | 266 => 209 | 314 => 329 | n => n,fun | 9 => 9 | 3 => 3 | 4 => 4 | 5 => 5 | 46 => 141 | 146 => 355 | 51 => 168 | n => n,fun | 1 => 1 | n => n⟩
theorem Tryz.uR : Go.Proofs.Lays.n143 Tryz.prog Tryz.Zd := {
 mixed := by kernel_rfl
 f143 := Tryz.func260.trans (congrArg some (by kernel_rfl))
 f217 := Tryz.func169.trans (congrArg some (by kernel_rfl))
 f219 := Tryz.func290.trans (congrArg some (by kernel_rfl))
 f224 := Tryz.func319.trans (congrArg some (by kernel_rfl))
 f225 := Tryz.func318.trans (congrArg some (by kernel_rfl))
 f266 := Tryz.func209.trans (congrArg some (by kernel_rfl))
 f267 := Tryz.func320.trans (congrArg some (by kernel_rfl))
 f314 := Tryz.func329.trans (congrArg some (by kernel_rfl))
 t3 := Tryz.underlying3
 a3 := Tryz.isAgg3
 z3 := Tryz.sizeOf3
 v3 := Tryz.zeroValue3
 t4 := Tryz.underlying4
 a4 := Tryz.isAgg4
 z4 := Tryz.sizeOf4
 v4 := Tryz.zeroValue4
 t5 := Tryz.underlying5
 a5 := Tryz.isAgg5
 z5 := Tryz.sizeOf5
 v5 := Tryz.zeroValue5
 t9 := Tryz.underlying9
 a9 := Tryz.isAgg9
 z9 := Tryz.sizeOf9
 v9 := Tryz.zeroValue9
 t46 := Tryz.underlying141
 a46 := Tryz.isAgg141
 z46 := Tryz.sizeOf141
 v46 := Tryz.zeroValue141
 t51 := Tryz.underlying168
 a51 := Tryz.isAgg168
 z51 := Tryz.sizeOf168
 v51 := Tryz.zeroValue168
 t146 := Tryz.underlying355
 a146 := Tryz.isAgg355
 z146 := Tryz.sizeOf355
 v146 := Tryz.zeroValue355
 g1 := by kernel_rfl }
open Go.RowKit Go.Lib in
theorem Tryz.strings_Index (s sub : ByteArray) (m : Int) (w : World) (hs : s.size < 4294967281) (hm : w.cell? ⟨1,0,none⟩ = some (.int .i64 m)) :
   Calls Tryz.prog 260 #[.string s,.string sub] w fun e w' => e = .returned (.int .i64 (Lib.index s.data.toList sub.data.toList)) ∧ w' = w := Any.strings_Index Tryz.uR s sub m w hs hm
def Tryz.Ze : Go.Shelf.Ren := ⟨fun | 146 => 221 | 221 => 237 | 268 => 258 | 138 => 259 | 143 => 260 | 195 => 287 | 197 => 288 | 218 => 289 | 219 => 290 | 260 => 317 | 217 => 169 | 225 => 318 | 224 => 319 | 267 => 320 | 266 => 209 | 314 => 329 | n => n,fun | 9 => 9 | 31 => 34 | 3 => 3 | 4 => 4 | 0 => 0 | 105 => 318 | 21 => 21 | 5 => 5 | 46 => 141 | 119 => 351 | 139 => 354 | 138 => 353 | 146 => 355 | 51 => 168 | n => n,fun | 1 => 1 | 3 => 11 | 4 => 12 | n => n⟩
theorem Tryz.uS : Go.Proofs.Lays.n146 Tryz.prog Tryz.Ze := {
 mixed := by kernel_rfl
 f138 := Tryz.func259.trans (congrArg some (by kernel_rfl))
 f143 := Tryz.func260.trans (congrArg some (by kernel_rfl))
 f146 := Tryz.func221.trans (congrArg some (by kernel_rfl))
 f195 := Tryz.func287.trans (congrArg some (by kernel_rfl))
 f197 := Tryz.func288.trans (congrArg some (by kernel_rfl))
 f217 := Tryz.func169.trans (congrArg some (by kernel_rfl))
 f218 := Tryz.func289.trans (congrArg some (by kernel_rfl))
 f219 := Tryz.func290.trans (congrArg some (by kernel_rfl))
 f221 := Tryz.func237.trans (congrArg some (by kernel_rfl))
 f224 := Tryz.func319.trans (congrArg some (by kernel_rfl))
 f225 := Tryz.func318.trans (congrArg some (by kernel_rfl))
 f260 := Tryz.func317.trans (congrArg some (by kernel_rfl))
 f266 := Tryz.func209.trans (congrArg some (by kernel_rfl))
 f267 := Tryz.func320.trans (congrArg some (by kernel_rfl))
 f268 := Tryz.func258.trans (congrArg some (by kernel_rfl))
 f314 := Tryz.func329.trans (congrArg some (by kernel_rfl))
 t0 := Tryz.underlying0
 a0 := Tryz.isAgg0
 z0 := Tryz.sizeOf0
 v0 := Tryz.zeroValue0
 t3 := Tryz.underlying3
 a3 := Tryz.isAgg3
 z3 := Tryz.sizeOf3
 v3 := Tryz.zeroValue3
 t4 := Tryz.underlying4
 a4 := Tryz.isAgg4
 z4 := Tryz.sizeOf4
 v4 := Tryz.zeroValue4
 t5 := Tryz.underlying5
 a5 := Tryz.isAgg5
 z5 := Tryz.sizeOf5
 v5 := Tryz.zeroValue5
 t9 := Tryz.underlying9
 a9 := Tryz.isAgg9
 z9 := Tryz.sizeOf9
 v9 := Tryz.zeroValue9
 t21 := Tryz.underlying21
 a21 := Tryz.isAgg21
 z21 := Tryz.sizeOf21
 v21 := Tryz.zeroValue21
 t31 := Tryz.underlying34
 a31 := Tryz.isAgg34
 z31 := Tryz.sizeOf34
 v31 := Tryz.zeroValue34
 t46 := Tryz.underlying141
 a46 := Tryz.isAgg141
 z46 := Tryz.sizeOf141
 v46 := Tryz.zeroValue141
 t51 := Tryz.underlying168
 a51 := Tryz.isAgg168
 z51 := Tryz.sizeOf168
 v51 := Tryz.zeroValue168
 t105 := Tryz.underlying318
 a105 := Tryz.isAgg318
 z105 := Tryz.sizeOf318
 v105 := Tryz.zeroValue318
 t119 := Tryz.underlying351
 a119 := Tryz.isAgg351
 z119 := Tryz.sizeOf351
 t138 := Tryz.underlying353
 a138 := Tryz.isAgg353
 z138 := Tryz.sizeOf353
 v138 := Tryz.zeroValue353
 t139 := Tryz.underlying354
 a139 := Tryz.isAgg354
 z139 := Tryz.sizeOf354
 v139 := Tryz.zeroValue354
 t146 := Tryz.underlying355
 a146 := Tryz.isAgg355
 z146 := Tryz.sizeOf355
 v146 := Tryz.zeroValue355
 g1 := by kernel_rfl
 g3 := by kernel_rfl
 g4 := by kernel_rfl }
open Go.RowKit Go.Lib in
theorem Tryz.strings_Split (s sep : ByteArray) (m : Int) (w : World) (hs : s.size < 4294967281) (hm : w.cell? ⟨1,0,none⟩ = some (.int .i64 m)) (h1 : 1 ≤ sep.size) :
   Calls Tryz.prog 221 #[.string s,.string sep] w fun e w' =>
     e = .returned (.slice (some ⟨w.heap.size,0,none⟩) (Lib.countB s sep + 1) (Lib.countB s sep + 1)) ∧ w' = w.alloc (.cells ((Lib.splitB sep 0 (Lib.countB s sep) s).map Value.string).toArray 9) := Any.strings_Split Tryz.uS (by kernel_rfl) s sep m w hs hm h1
end Go.Proofs
end
section
namespace TwW
open Go Tw Go.RowKit Go.Proofs.Tryz
section
variable {P : Program} {f : FuncId} {args : Array Value} {σ σ' : Hp} {R : Rr}
theorem Spec.below {v : Value} (h : ∀ w,Sat σ w → Calls P f args w fun e w' => e = .returned v ∧ Below w.heap.size w w') (hR : R (.returned v) σ) : Spec P f args σ R := fun w F hs hF =>
 (h w hs).mono fun e w' ⟨he,hb⟩ => ⟨σ,he ▸ hR,fun b o ho => by
   have h1 := hs b o ho
   rw [hb.block b (Array.getElem?_eq_some_iff.1 h1).1]; exact h1,fun b hFb => ⟨(hF b hFb).2,hb.block b (hF b hFb).1⟩,⟨hb.os,hb.tape,fun h => h.elim⟩,hb.output,hb.size⟩
theorem Spec.same {v : Value} (h : ∀ w,Sat σ w → Calls P f args w fun e w' => e = .returned v ∧ w' = w) (hR : R (.returned v) σ) : Spec P f args σ R :=
 Spec.below (fun w hs => (h w hs).mono fun e w' ⟨he,hw⟩ => ⟨he,hw ▸ Below.refl _ _⟩) hR
theorem Spec.AA8 {o : Obj} {v : Nat → Value} (h : ∀ w,Sat σ w → Calls P f args w fun e w' => e = .returned (v w.heap.size) ∧ w' = w.alloc o) (hR : ∀ b,σ b = none → R (.returned (v b)) (σ.set b o)) : Spec P f args σ R := fun w F hs hF =>
 (h w hs).mono fun e w' ⟨he,hw⟩ => ⟨σ.set w.heap.size o,he ▸ hR _ (Fj hs),by subst hw; exact Fin.alloc hs hF _ rfl (.same rfl rfl rfl) rfl⟩
theorem cell_of {w : World} {b o : Nat} {v : Value} (hs : Sat σ w) (h : σ.ld ⟨b,o,none⟩ = some v) : w.cell? ⟨b,o,none⟩ = some v := by
 have := Um (ys := [v]) hs ⟨h,trivial⟩ 0 v rfl
 simpa [Bt] using this
end
def Ti : List Nat := [4607182418800017408,4621819117588971520,4636737291354636288,4652007308841189376,4666723172467343360,4681608360884174848,4696837146684686336,4711630319722168320,4726483295884279808,4741671816366391296,4756540486875873280,4771362005757984768,4786511204640096256,4801453603149578240,4816244402031689728,4831355200913801216]
structure Gl (σ : Hp) : Prop where
 len : ∃ m : Int,σ.ld ⟨1,0,none⟩ = some (.int .i64 m)
 opt : σ.ld ⟨5,0,none⟩ = some (.bool true)
 bits : σ.ld ⟨6,0,none⟩ = some (.int .u64 52)
 pow : ∃ b o n c,σ.ld ⟨9,0,none⟩ = some (.slice (some ⟨b,o,none⟩) n c) ∧ 16 ≤ n ∧ ∀ i v,Ti[i]? = some v → σ.ld ⟨b,o + i * 1,none⟩ = some (.float .f64 v)
theorem Gl.mono {σ σ' : Hp} (h : Gl σ) (hx : Ext σ σ') : Gl σ' := ⟨h.len.imp fun _ => hx.ld,hx.ld h.opt,hx.ld h.bits,let ⟨b,o,n,c,h1,h2,h3⟩ := h.pow; ⟨b,o,n,c,hx.ld h1,h2,fun i v hv => hx.ld (h3 i v hv)⟩⟩
section
variable {σ σ' : Hp} {R : Rr}
theorem index_spec {s t : ByteArray} (hg : Gl σ) (hs : s.size < 4294967281) (h : R (.returned (.int .i64 (Lib.index s.data.toList t.data.toList))) σ) : Spec prog 260 #[.string s,.string t] σ R := by
 obtain ⟨m,hm⟩ := hg.len
 exact Spec.same (fun w hw => Go.Proofs.Tryz.strings_Index s t m w hs (cell_of hw hm)) h
theorem Tj {s : ByteArray} {c : UInt8} (hg : Gl σ) (hs : s.size < 4294967281) (h : ∀ b T,σ b = none → R (.returned (.slice (aD b 0) (Ea c s).length (Ea c s).length)) (σ.set b (.cells ((Ea c s).map Value.string).toArray T (0,0)))) : Spec prog 221 #[.string s,.string ⟨#[c]⟩] σ R := by
 obtain ⟨m,hm⟩ := hg.len
 have hl : (Ea c s).length = Lib.countB s ⟨#[c]⟩ + 1 := Lib.splitB_all ⟨#[c]⟩ (Nat.le_refl 1) 0 _ s rfl
 have h' := fun b => h b 9
 rw [hl] at h'
 exact Spec.AA8 (v := fun b => .slice (aD b 0) _ _) (fun w hw => Go.Proofs.Tryz.strings_Split s ⟨#[c]⟩ m w hs (cell_of hw hm) (Nat.le_refl 1)) h'
theorem dS {s : ByteArray} {l h : Nat} (hl : l ≤ h) (hh : h ≤ s.size) : YF prog (Instr.sliceAt 9 (.string s) (some (.int .i64 (l : Int))) (some (.int .i64 (h : Int))) none) σ (.string (s.extract l h)) := fun w _ => by
 rw [run_sliceAt_string (h := underlying9)]
 have h1 : (h : Int) ≤ s.size := by omega
 have h2 : (l : Int) ≤ h := by omega
 simp [Instr.slice,run_underlying underlying9,Instr.sliceBounds,run_sliceBound,h1,h2,Result.andThen]
theorem Zf {s t : ByteArray} (h : R (.returned (.bool (decide (t.size ≤ s.size ∧ s.extract 0 t.size = t)))) σ) : Spec prog 285 #[.string s,.string t] σ R := by
 refine Hc.start (CL.start ⟨fun hle => ⟨_,VX (by omega),_,rfl,?_⟩,fun hgt => ⟨_,rfl,?_⟩⟩)
 · rw [Ub,show decide (s.extract 0 t.size = t) = decide (t.size ≤ s.size ∧ s.extract 0 t.size = t) from decide_eq_decide.2 ⟨fun h => ⟨by omega,h⟩,fun h => h.2⟩]; exact h
 · rw [show false = decide (t.size ≤ s.size ∧ s.extract 0 t.size = t) from (decide_eq_false fun hh => hgt (by omega)).symm]; exact h
theorem Zg {s t : ByteArray} (hs : s.size ≤ 4611686018427387904) (h : R (.returned (.bool (decide (t.size ≤ s.size ∧ s.extract (s.size - t.size) s.size = t)))) σ) : Spec prog 286 #[.string s,.string t] σ R := by
 refine Hg.start (CH.start ⟨fun hle => ⟨by unfold AJ; omega,s.extract (s.size - t.size) s.size,?_,_,rfl,?_⟩,fun hgt => ⟨_,rfl,?_⟩⟩)
 · rw [show ((s.size : Nat) : Int) - ((t.size : Nat) : Int) = ((s.size - t.size : Nat) : Int) by omega]; exact OE (by omega)
 · rw [Ub,show decide (s.extract (s.size - t.size) s.size = t) = decide (t.size ≤ s.size ∧ s.extract (s.size - t.size) s.size = t) from decide_eq_decide.2 ⟨fun h => ⟨by omega,h⟩,fun h => h.2⟩]; exact h
 · rw [show false = decide (t.size ≤ s.size ∧ s.extract (s.size - t.size) s.size = t) from (decide_eq_false fun hh => hgt (by omega)).symm]; exact h
def ETx (_ : Hp) (vs : List Value) (x : ByteArray) : Prop := vs = [.string x]
theorem ETx.mono : HO ETx := fun _ _ _ _ _ h => h
abbrev gF := Ab 1 ETx
theorem gF.at {p : Option Addr} {n i : Nat} {ls : List ByteArray} {x : ByteArray} (hr : gF σ p n ls) (hx : ls[i]? = some x) : ∃ b o,p = some ⟨b,o,none⟩ ∧ σ.ld ⟨b,o + i * 1,none⟩ = some (.string x) := by
 obtain ⟨b,o,vs,hp,rfl,hl⟩ := Ab.idx hr hx
 exact ⟨b,o,hp,hl.1⟩
theorem gF.pW {b : Nat} {T : TypeId} {L : List ByteArray} (h : σ b = some (.cells (L.map Value.string).toArray T (0,0))) (hb : L.length ≤ 4611686018427387904) : gF σ (aD b 0) L.length L := by
 refine ⟨rfl,L.map .string,⟨by simp,hb,.inr ⟨b,0,rfl,Ay.of fun j v hj => ?_⟩⟩,by simp,fun i x hx => ?_⟩
 · rw [Nat.zero_add]; exact Ad h (by simpa using hj)
 · have h1 : (L.map Value.string)[i]? = some (.string x) := by rw [List.getElem?_map,hx]; rfl
   rw [Nat.mul_one,BD h1]; rfl
theorem uT {p : Option Addr} {n c : Nat} {l : List ByteArray} {s : ByteArray} (hg : Gl σ) (hr : gF σ p n l) (h0 : 0 < n) (hc : n ≤ c) (hs : s.size < 4294967281) (hl : ∀ x ∈ l,x.size ≤ 4294967296) (h : R (.returned (.bool (isK l s))) σ) :
   Spec prog 257 #[.agg #[.slice p n c],.string s] σ R := by
 have hn : l.length = n := hr.1
 have NF := hr.big
 obtain ⟨a,ha⟩ := hr.ex h0
 obtain ⟨z,hz⟩ := hr.ex (k := n - 1) (by omega)
 obtain ⟨b,o,rfl,hla⟩ := gF.at hr ha
 obtain ⟨_,_,he,xq⟩ := gF.at hr hz
 cases he
 have ea : l.head?.getD ⟨#[]⟩ = a := by rw [List.head?_eq_getElem?,ha]; rfl
 have ez : l.getLast?.getD ⟨#[]⟩ = z := by rw [List.getLast?_eq_getElem?,hn,hz]; rfl
 have e1 : Int.toNat ((n : Int) - 1) = n - 1 := by omega
 have hsa := hl a (List.mem_of_getElem? ha)
 have GX := hl z (List.mem_of_getElem? hz)
 have eK : isK l s = if n = 1 then decide (s = a) else if s.size < a.size + z.size ∨ s.extract 0 a.size ≠ a ∨ s.extract (s.size - z.size) s.size ≠ z then false else jG l.tail.dropLast (s.extract a.size (s.size - z.size)) := by
   unfold isK; rw [ea,ez,hn]
 rw [eK] at h
 refine DL.start fun _ => ⟨b,o,rfl,by omega,a,by simpa using hla,by unfold AJ; omega,by omega,z,by rw [e1]; exact xq,fun h1 => ?_,fun h1 => ?_⟩
 · rw [if_pos (by omega)] at h; rw [Ub]; exact h
 rw [if_neg (by omega)] at h
 refine ⟨by unfold AJ; omega,fun Aq => ?_,fun ck => Zf ⟨_,rfl,fun hp => ?_,fun hp => Zg (by omega) ⟨_,rfl,fun hq => ?_,fun hq => ?_⟩⟩⟩
 · rw [if_pos (.inl (by omega))] at h; exact h
 · have := of_decide_eq_false hp
   rw [if_pos (.inr (.inl fun e => this ⟨by omega,e⟩))] at h; exact h
 · have := of_decide_eq_false hq
   rw [if_pos (.inr (.inr fun e => this ⟨by omega,e⟩))] at h; exact h
 have hp' := of_decide_eq_true hp
 have hq' := of_decide_eq_true hq
 rw [if_neg (by
                rintro (h3 | h3 | h3)
                · omega
                · exact h3 hp'.2
                · exact h3 hq'.2)] at h
 have uU : gF σ (Ir (aD b o) 1 c 1) (n - 2) (l.tail.dropLast) := by
   have := Ab.sub (i := 1) (m := n - 2) hr (by decide) (by omega) hc
   rwa [List.drop_one,show n - 2 = l.tail.length - 1 by rw [List.length_tail]; omega,← List.dropLast_eq_take,List.length_tail,show l.length - 1 - 1 = n - 2 by omega] at this
 refine ⟨by unfold AJ; omega,s.extract a.size (s.size - z.size),?_,by unfold AJ; omega,by omega,?_⟩
 · rw [show ((s.size : Nat) : Int) - ((z.size : Nat) : Int) = ((s.size - z.size : Nat) : Int) by omega]; exact dS (by omega) (by omega)
 rw [e1,show n - 1 - 1 = n - 2 by omega]
 generalize hu : s.extract a.size (s.size - z.size) = u at *
 have hus : u.size < 4294967281 := by rw [← hu,ByteArray.size_extract]; omega
 generalize Ir (aD b o) 1 c 1 = q at *
 generalize l.tail.dropLast = ms at *
 clear hu hla xq ha hz ea ez eK
 suffices H : ∀ g k : Nat,∀ (q' : Option Addr) (v : ByteArray),(0 < n - 2 → q' = q) → n - 2 - k = g → k ≤ n - 2 → v.size < 4294967281 → jG ms u = jG (ms.drop k) v → DL.MV R v q' (n - 2) (c - 1) ((n - 2 : Nat) : Int) k σ from H (n - 2) 0 q u (fun _ => rfl) rfl (Nat.zero_le _) hus rfl
 have hml : ms.length = n - 2 := uU.1
 intro g
 induction g with
 | zero =>
   intro k q' v hq hgk hk hv he
   rw [List.drop_eq_nil_of_le (by omega)] at he
   rw [he] at h
   exact DL.JK ⟨fun Aq => by omega,fun _ => h⟩
 | succ g ih =>
   intro k q' v hq hgk hk hv he
   have HM : k < n - 2 := by omega
   obtain ⟨t,ht⟩ := uU.ex HM
   obtain ⟨b2,o2,hq2,Aq⟩ := gF.at uU ht
   rw [hq (by omega),hq2]
   rw [BD ht,jG] at he
   refine DL.JK ⟨fun _ => ⟨b2,o2,rfl,by omega,t,by simpa using Aq,index_spec hg hv ⟨_,rfl,fun AA6 => ?_,fun Oj => ?_⟩⟩,fun hh => by omega⟩
   · rw [if_pos AA6] at he; rw [he] at h; exact h
   · rw [if_neg Oj] at he
     have HY := Lib.index_room v.data.toList t.data.toList (by omega)
     have hv1 : v.data.toList.length = v.size := Array.length_toList (xs := v.data)
     have ht1 : t.data.toList.length = t.size := Array.length_toList (xs := t.data)
     generalize hi : Lib.index v.data.toList t.data.toList = i at *
     refine ⟨by unfold AJ; omega,v.extract (i.toNat + t.size) v.size,?_,AL HM uU.big,ih (k + 1) _ _ (fun _ => hq2.symm) (by omega) (by omega) (by rw [ByteArray.size_extract]; omega) he⟩
     rw [show i + ((t.size : Nat) : Int) = ((i.toNat + t.size : Nat) : Int) by omega]; exact OE (by omega)
def pX (σ : Hp) (vs : List Value) (l : List ByteArray) : Prop := ∃ p n c,vs = [.slice p n c] ∧ gF σ p n l ∧ 0 < n ∧ n ≤ c
theorem pX.mono : HO pX := fun _ _ _ _ hx ⟨p,n,c,hv,h1,h2⟩ => ⟨p,n,c,hv,h1.mono ETx.mono hx,h2⟩
theorem jS {p : Option Addr} {n c : Nat} {L : List (List ByteArray)} {s : ByteArray} (hg : Gl σ) (hr : Ab 1 pX σ p n L) (hs : s.size < 4294967281) (hl : ∀ l ∈ L,∀ x ∈ l,x.size ≤ 4294967296) (h : R (.returned (.bool (L.any fun l => isK l s))) σ) :
   Spec prog 236 #[.agg #[.slice p n c],.string s] σ R := by
 have hn : L.length = n := hr.1
 refine Bd.start fun _ => ?_
 suffices H : ∀ g k : Nat,n - k = g → k ≤ n → (L.any fun l => isK l s) = ((L.drop k).any fun l => isK l s) → Bd.Hz R s p n c n k σ from H n 0 rfl (Nat.zero_le _) rfl
 intro g
 induction g with
 | zero =>
   intro k hg' hk he
   rw [List.drop_eq_nil_of_le (by omega)] at he
   rw [he] at h
   exact Bd.Bl ⟨fun Aq => by omega,fun _ => h⟩
 | succ g ih =>
   intro k hg' hk he
   have HM : k < n := by omega
   obtain ⟨l,hx⟩ := hr.ex HM
   obtain ⟨b,o,vs,rfl,⟨p1,n1,c1,rfl,h1,h2,h3⟩,Eb⟩ := Ab.idx hr hx
   rw [BD hx,List.any_cons] at he
   refine Bd.Bl ⟨fun _ => ⟨b,o,rfl,by omega,p1,n1,c1,by simpa using Eb,fun _ => uT hg h1 h2 h3 hs (hl l (List.mem_of_getElem? hx)) ⟨_,rfl,fun ht => ?_,fun hf => ⟨AL HM hr.big,ih (k + 1) (by omega) (by omega) ?_⟩⟩⟩,fun hh => by omega⟩
   · rw [ht] at he; rw [he] at h; exact h
   · rw [hf] at he; exact he
theorem PO {c : UInt8} {s : ByteArray} : ∀ x ∈ Ea c s,x.size ≤ s.size := by
 unfold Ea
 generalize Lib.countB s ⟨#[c]⟩ = k
 induction k generalizing s with
 | zero => intro x hx; rw [Lib.splitB_zero,List.mem_singleton] at hx; rw [hx]; exact Nat.le_refl _
 | succ k ih =>
   intro x hx
   unfold Lib.splitB at hx
   split at hx
   · rw [List.mem_singleton] at hx; rw [hx]; exact Nat.le_refl _
   · rcases List.mem_cons.1 hx with rfl | hx
     · rw [ByteArray.size_extract]; omega
     · have := ih x hx
       rw [ByteArray.size_extract] at this; omega
theorem Zh {c : UInt8} {s : ByteArray} : (Ea c s).length ≤ s.size + 1 ∧ 0 < (Ea c s).length := by
 have h1 := Lib.splitB_all ⟨#[c]⟩ (Nat.le_refl 1) 0 _ s rfl
 have h2 := Lib.countB_le ⟨#[c]⟩ (Nat.le_refl 1) s.size s (Nat.le_refl _)
 unfold Ea
 omega
theorem Ws {s : ByteArray} (hg : Gl σ) (hs : s.size ≤ 1000000) (h : ∀ p n c σ',Ab 1 pX σ' p n ((Ea 124 s).map (Ea 42)) → Ext σ σ' → R (.returned (.agg #[.slice p n c])) σ') : Spec prog 179 #[.string s] σ R := by
 refine D6.start fun _ _ => Tj hg (by omega) fun b T hb => ⟨_,_,_,rfl,?_⟩
 have CO : Ext σ (σ.set b (.cells ((Ea 124 s).map Value.string).toArray T (0,0))) := .set hb
 obtain ⟨hlen,_⟩ := Zh (c := 124) (s := s)
 have hr : gF (σ.set b (.cells ((Ea 124 s).map Value.string).toArray T (0,0))) (aD b 0) (Ea 124 s).length (Ea 124 s) := gF.pW (Hp.AB _ _ _) (by omega)
 generalize ANT : σ.set b (.cells ((Ea 124 s).map Value.string).toArray T (0,0)) = σ1 at *
 have GX := PO (c := 124) (s := s)
 generalize Ea 124 s = L at *
 suffices H : ∀ g k : Nat,∀ p3 n3 c3 σ',L.length - k = g → k ≤ L.length → Ge 1 pX (σ1.new σ') p3 n3 c3 ((L.take k).map (Ea 42)) → Ext σ1 σ' → D6.BA R none 0 0 p3 n3 c3 (aD b 0) L.length L.length L.length k σ' from H L.length 0 none 0 0 σ1 rfl (Nat.zero_le _) Ge.nil (.refl _)
 intro g
 induction g with
 | zero =>
   intro k p3 n3 c3 σ' hg' hk ho hx
   rw [List.take_of_length_le (by omega)] at ho
   exact D6.AZ ⟨fun Aq => by omega,fun _ => h p3 n3 c3 σ' ((ho.rd pX.mono).mono pX.mono (Ext.Cs _ _)) (CO.trans hx)⟩
 | succ g ih =>
   intro k p3 n3 c3 σ' hg' hk ho hx
   have HM : k < L.length := by omega
   obtain ⟨x,jB⟩ := hr.ex HM
   obtain ⟨b2,o2,he,Qk⟩ := gF.at hr jB
   cases he
   have hxs := GX x (List.mem_of_getElem? jB)
   have rn : n3 = k := by have := ho.1; rw [List.length_map,List.length_take] at this; omega
   refine D6.AZ ⟨fun _ => ⟨b,0,rfl,by omega,x,by simpa using hx.ld Qk,Tj (hg.mono (CO.trans hx)) (by omega) fun b4 T4 hb4 => ⟨_,_,_,rfl,fun Q7 ANU => ?_⟩⟩,fun hh => by omega⟩
   obtain ⟨AQx,AHy⟩ := Zh (c := 42) (s := x)
   have NV : Ext σ' (σ'.set b4 (.cells ((Ea 42 x).map Value.string).toArray T4 (0,0))) := .set hb4
   have hp3 : ∀ a,p3 = some a → σ' a.block ≠ none := fun a ha => by
     have := ho.block a ha
     cases hh : (σ1.new σ') a.block with
     | none => exact absurd hh this
     | some oo => rw [(AV.1 hh).2]; simp
   have ANV : (σ1.new (σ'.set b4 (.cells ((Ea 42 x).map Value.string).toArray T4 (0,0))) |>.del p3) b4 = some (.cells ((Ea 42 x).map Value.string).toArray T4 (0,0)) := AR.2 ⟨fun a ha e => hp3 a ha (by rw [← e]; exact hb4),AV.2 ⟨BE hx hb4,Hp.AB _ _ _⟩⟩
   refine Ge.Jt pX.mono (vs := [.slice (aD b4 0) (Ea 42 x).length (Ea 42 x).length]) (x := Ea 42 x) (hx.trans NV) (ho.mono pX.mono (Ext.IC NV)) rfl (fun u hu => by rw [List.mem_singleton] at hu; subst hu; rfl) ⟨_,_,_,rfl,gF.pW ANV (by omega),AHy,Nat.le_refl _⟩ (by omega) (fun p' c' σ2 Ba A9 => ⟨_,_,_,rfl,AL HM hr.big,ih (k + 1) _ _ _ _ (by omega) (by omega) ?_ A9⟩) ANU
   rw [Aa jB,List.map_append]; exact Ba
theorem Vb {p q : Option Addr} {n c m d : Nat} {ms : List Mt} {ls : List Lb} (hg : Gl σ) (hr : Ab 3 OZ σ p n ms) (hq : Dq σ q m ls) (hm : ∀ x ∈ ms,x.val.size ≤ 1000000) (H8 : ∀ x ∈ ls,x.2.size ≤ 1000000) (hk : ∀ x ∈ ms,1 ≤ x.kind ∧ x.kind ≤ 4) (h : ∀ σ',Ext σ σ' → R (.returned (.bool (Jr ms ls))) σ') :
   Spec prog 142 #[.slice p n c,.slice q m d] σ R := by
 have hl : ms.length = n := hr.1
 refine EI.start (Py.start fun kb HZ => ⟨_,_,_,rfl,?_⟩)
 have CO := Ext.set (o := .cells #[.nilFunc,(.func (.func 217) #[] #[]),(.func (.func 218) #[] #[]),(.func (.func 219) #[] #[]),(.func (.func 220) #[] #[])] 221 (0,0)) HZ
 have hc := Hp.AB σ kb (.cells #[.nilFunc,(.func (.func 217) #[] #[]),(.func (.func 218) #[] #[]),(.func (.func 219) #[] #[]),(.func (.func 220) #[] #[])] 221 (0,0))
 generalize ANT : σ.set kb (.cells #[.nilFunc,(.func (.func 217) #[] #[]),(.func (.func 218) #[] #[]),(.func (.func 219) #[] #[]),(.func (.func 220) #[] #[])] 221 (0,0)) = σ1 at *
 have hgs : ∀ k : ByteArray,(DE ls k).size ≤ 1000000 := fun k => by
   clear hq h
   induction ls with
   | nil => unfold DE; decide
   | cons a l ih =>
     unfold DE
     split
     · exact H8 a (by simp)
     · exact ih fun x hx => H8 x (List.mem_cons_of_mem _ hx)
 suffices H : ∀ g k : Nat,∀ σ',n - k = g → k ≤ n → Ext σ1 σ' → Jr ms ls = Jr (ms.drop k) ls → EI.BA R q m d (aD kb 0) 5 5 p n c n k σ' from H n 0 σ1 rfl (Nat.zero_le _) (.refl _) rfl
 intro g
 induction g with
 | zero =>
   intro k σ' hg' HM hx he
   have := h σ' (CO.trans hx)
   rw [he,List.drop_eq_nil_of_le (by omega)] at this
   exact EI.AZ ⟨fun Aq => by omega,fun _ => this⟩
 | succ g ih =>
   intro k σ' hg' XF hx he
   have HM : k < n := by omega
   obtain ⟨x,jB⟩ := hr.ex HM
   obtain ⟨b,o,rfl,Eb⟩ := OZ.at hr jB
   have rq := List.mem_of_getElem? jB
   have hk4 := hk x rq
   have Qf : Jr ms ls = (N9 x ls && Jr (ms.drop (k + 1)) ls) := by rw [he,BD jB]; rfl
   have step : ∀ (t : Bool) (σ2 : Hp),t = N9 x ls → Ext σ1 σ2 → AA R (CB fun t35 Ac => Bn t35 (R (.returned (.bool false)) Ac) (AJ ((k : Int) + 1) ∧ EI.BA R q m d (aD kb 0) 5 5 (aD b o) n c n ((k : Int) + 1) Ac)) (.returned (.bool t)) σ2 := fun t σ2 ht A9 => by
     refine ⟨t,rfl,fun hf => ?_,fun htt => ⟨AL HM hr.big,ih (k + 1) σ2 (by omega) (by omega) A9 ?_⟩⟩
     · have := h σ2 (CO.trans A9)
       rw [Qf,← ht,hf] at this; exact this
     · rw [Qf,← ht,htt]; rfl
   refine EI.AZ ⟨fun _ => ⟨b,o,rfl,by omega,x.kind,x.name,x.val,by simpa using (Eb.mono (CO.trans hx)),fun _ => VY ⟨_,rfl,fun hf => ?_,fun ht => ⟨kb,0,rfl,by omega,?_⟩⟩⟩,fun hh => by omega⟩
   · exact absurd hk4 (of_decide_eq_false hf)
   have Js : ∀ σ2 p1 n1 c1,Ab 1 pX σ2 p1 n1 ((Ea 124 x.val).map (Ea 42)) → Ext σ1 σ2 → ∀ R2 : Rr,R2 (.returned (.bool (ZO x.val (DE ls x.name)))) σ2 → Spec prog 236 #[.agg #[.slice p1 n1 c1],.string (DE ls x.name)] σ2 R2 := fun σ2 p1 n1 c1 cD A9 R2 uV => by
     refine jS (hg.mono (CO.trans A9)) cD (by have := hgs x.name; omega) (fun l hl y hy => ?_) ?_
     · obtain ⟨z,hz,rfl⟩ := List.mem_map.1 hl
       have h1 := PO y hy
       have h2 := PO z hz
       have h3 := hm x rq
       omega
     · rw [List.any_map]; exact uV
   have row : ∀ (i : Nat) (f : FuncId) (t : Bool),x.kind = i → (#[.nilFunc,(.func (.func 217) #[] #[]),(.func (.func 218) #[] #[]),(.func (.func 219) #[] #[]),(.func (.func 220) #[] #[])] : Array Value)[i]? = some (.func (.func f) #[] #[]) → Enters prog f → t = N9 x ls →
       (∀ p1 n1 c1 σ2 (R2 : Rr),Ab 1 pX σ2 p1 n1 ((Ea 124 x.val).map (Ea 42)) → Ext σ1 σ2 → R2 (.returned (.bool t)) σ2 → Spec prog f #[.agg #[.slice p1 n1 c1,.string x.val],.string (DE ls x.name)] σ2 R2) →
       ∃ v24,Hp.ld σ' ⟨kb,(0 + Int.toNat x.kind * 1),none⟩ = some v24 ∧ Spec prog 179 #[.string x.val] σ' (AA R (fun z AF => ∃ M7 MW M8,z = (.agg #[.slice M7 MW M8]) ∧ Kp [kb] σ' AF ∧ Spec prog 180 #[.slice q m d,.string x.name] AF (AA R (CT fun s34 AH => Kp [kb] AF AH ∧ ∃ (f35 : Nat) (Yp Yq : Array Value),v24 = .func (.func f35) Yp Yq ∧ Enters prog f35 ∧ Spec prog f35 (Yp ++ #[.agg #[.slice M7 MW M8,.string x.val],.string s34] ++ Yq) AH (AA R (CB fun t35 Ac => Bn t35 (R (.returned (.bool false)) Ac) (AJ ((k : Int) + 1) ∧ EI.BA R q m d (aD kb 0) 5 5 (aD b o) n c n ((k : Int) + 1) Ac)))))) ) := fun i f t hi hv Og ht hf => by
     refine ⟨.func (.func f) #[] #[],?_,?_⟩
     rotate_left
     · refine Ws (hg.mono (CO.trans hx)) (hm x rq) fun p1 n1 c1 σ2 cD A9 => ⟨p1,n1,c1,rfl,Kp.Ho A9,Uc (hq.mono Bs.mono (CO.trans (hx.trans A9))) ⟨_,rfl,Kp.Ho (.refl _),f,#[],#[],rfl,Og,hf p1 n1 c1 σ2 _ cD (hx.trans A9) (step t σ2 ht (hx.trans A9))⟩⟩
     rw [hi]
     exact Ad (hx _ _ hc) (by simpa using hv)
   have pY : x.kind = 1 ∨ x.kind = 2 ∨ x.kind = 3 ∨ x.kind = 4 := by omega
   rcases pY with h1 | h1 | h1 | h1
   · exact row 1 217 (decide (DE ls x.name = x.val)) h1 rfl Eu.en (by unfold N9; rw [if_pos h1]) fun p1 n1 c1 σ2 R2 _ _ uV => Eu.start fun _ => by rw [Ub]; exact uV
   · exact row 2 218 (!decide (DE ls x.name = x.val)) h1 rfl Ez.en (by unfold N9; rw [if_neg (by omega),if_pos h1]; simp) fun p1 n1 c1 σ2 R2 _ _ uV => Ez.start fun _ => by rw [Ub]; exact uV
   · exact row 3 219 (ZO x.val (DE ls x.name)) h1 rfl ED.en (by unfold N9; rw [if_neg (by omega),if_neg (by omega),if_pos h1]) fun p1 n1 c1 σ2 R2 cD A9 uV => ED.start fun _ => Js σ2 p1 n1 c1 cD A9 _ ⟨_,rfl,uV⟩
   · exact row 4 220 (!ZO x.val (DE ls x.name)) h1 rfl EC.en (by unfold N9; rw [if_neg (by omega),if_neg (by omega),if_neg (by omega),if_pos h1]) fun p1 n1 c1 σ2 R2 cD A9 uV => EC.start fun _ => Js σ2 p1 n1 c1 cD A9 _ ⟨_,rfl,uV⟩
end
end TwW
end
section
namespace TwW
open Go Tw Go.RowKit Go.Proofs.Tryz
structure Rs where
 m : Nat
 dot : Bool
 nd : Nat
 dp : Int
def C9 (st : Rs) (u : UInt8) : Rs := if u = 46 then { st with dot := true,dp := st.nd } else if u = 48 ∧ st.nd = 0 then { st with dp := st.dp - 1 } else { st with m := st.m * 10 + (u.toNat - 48),nd := st.nd + 1 }
def Hk (s : ByteArray) : Rs := s.data.toList.foldl C9 ⟨0,false,0,0⟩
def Tk (r : Rs) : Int := if r.m = 0 then 0 else (if r.dot then r.dp else r.nd) - r.nd
def Zi (s : ByteArray) : Int :=
 let r := Hk s
 if r.m = 0 then (toF 0 : Nat) else if Tk r = 0 then (toF (FloatKind.f64.nearest r.m) : Nat) else (Wp 4 (FloatKind.f64.nearest r.m) (Ti.getD (-Tk r).toNat 0) : Nat)
section
variable {σ σ' : Hp} {R : Rr}
theorem OF {s : ByteArray} (hb : s.size ≤ 4611686018427387904) (h : R (.returned (.int .i64 (AN s))) σ) : Spec prog 213 #[.string s] σ R := by
 have hlen : s.data.toList.length = s.size := Array.length_toList (xs := s.data)
 refine F2.start ?_
 suffices H : ∀ g k : Nat,s.size - k = g → k ≤ s.size → (∀ j u,j < k → s.data.toList[j]? = some u → B8 u = true) → F2.ES R s k σ from H s.size 0 rfl (Nat.zero_le _) (fun j u hj => by omega)
 intro g
 induction g with
 | zero =>
   intro k hg hk h1
   have e : AN s = k := Ib (by omega) h1 (fun u hu => by have := (List.getElem?_eq_some_iff.1 hu).1; omega)
   rw [e] at h
   exact F2.Af ⟨fun Aq => by omega,fun _ => h⟩
 | succ g ih =>
   intro k hg hk h1
   obtain ⟨u,hu,CP⟩ := byte_at (show k < s.size by omega)
   have stop : B8 u = false → R (.returned (.int .i64 k)) σ := fun hd => by
     have e : AN s = k := Ib (by omega) h1 (fun v hv => by rw [CP] at hv; cases hv; exact hd)
     rw [e] at h; exact h
   refine F2.Af ⟨fun _ => ⟨u,by omega,by simpa using hu,fun ZZ => ⟨u,by omega,by simpa using hu,fun h57 => ?_,fun h57 => stop ?_⟩,fun ZZ => stop ?_⟩,fun hh => by omega⟩
   · refine ⟨AL (by omega : k < s.size) hb,ih (k + 1) (by omega) (by omega) fun j v hj hv => ?_⟩
     by_cases r9 : j = k
     · rw [r9,CP] at hv; cases hv
       exact decide_eq_true (by omega)
     · exact h1 j v (by omega) hv
   · exact decide_eq_false (by omega)
   · exact decide_eq_false (by omega)
theorem Wt {s : ByteArray} (hb : s.size ≤ 4611686018427387904) (ht : GA s = true) (h : R (.returned (.bool true)) σ) : Spec prog 172 #[.string s] σ R := by
 have hle := MG s
 have h0 : AN s ≠ 0 := fun e => by unfold GA at ht; rw [if_pos e] at ht; cases ht
 have h1 : ¬ (1 < AN s ∧ s.data[0]? = some 48) := fun e => by unfold GA at ht; rw [if_neg h0,if_pos e] at ht; cases ht
 obtain ⟨u0,hu0,_⟩ := byte_at (show 0 < s.size by omega)
 have QZ := JW (u := u0) (k := 48) (by decide)
 have tail : Br ((AN s : Int) = ((ByteArray.size s : Nat) : Int)) (R (.returned (.bool (decide ((AN s : Int) ≤ 15)))) σ) (AJ ((AN s : Int) + 1) ∧ ∃ wC,YF prog (Instr.sliceAt 9 (.string s) (some (.int .i64 ((AN s : Int) + 1))) none none) σ (.string wC) ∧ Spec prog 213 #[.string wC] σ (AA R (CI .i64 fun YH AF => ∃ Md : UInt8,0 ≤ (AN s : Int) ∧ (ByteArray.data s)[Int.toNat (AN s : Int)]? = some Md ∧ Br ((((UInt8.toNat Md : Nat) : Int) : Int) = 46) (Br (0 < YH) (AJ ((AN s : Int) + 1) ∧ AJ (((AN s : Int) + 1) + YH) ∧ Br (((((AN s : Int) + 1) + YH) : Int) = ((ByteArray.size s : Nat) : Int)) (AJ ((AN s : Int) + YH) ∧ R (.returned (.bool (decide ((((AN s : Int) + YH) : Int) ≤ 15)))) AF) (R (.returned (.bool false)) AF)) (R (.returned (.bool false)) AF)) (R (.returned (.bool false)) AF)))) := by
   unfold GA at ht
   rw [if_neg h0,if_neg h1] at ht
   refine ⟨fun he => ?_,fun he => ⟨by unfold AJ; omega,s.extract (AN s + 1) s.size,OE (l := AN s + 1) (by omega),?_⟩⟩
   · rw [if_pos (by omega)] at ht
     rw [decide_eq_true (by have := of_decide_eq_true ht; omega)]; exact h
   · rw [if_neg (by omega)] at ht
     have ht := of_decide_eq_true ht
     have ANO : (s.extract (AN s + 1) s.size).size = s.size - (AN s + 1) := by rw [ByteArray.size_extract]; omega
     have hm := MG (s.extract (AN s + 1) s.size)
     refine OF (by omega) ?_
     obtain ⟨u,hu,_⟩ := byte_at (show AN s < s.size by omega)
     rw [hu] at ht
     have b46 := JW (u := u) (k := 46) (by decide)
     generalize AN (s.extract (AN s + 1) s.size) = m at *
     refine ⟨_,rfl,u,by omega,by simpa using hu,fun VZ => ⟨fun h0m => ⟨by unfold AJ; omega,by unfold AJ; omega,fun hs => ⟨by unfold AJ; omega,?_⟩,fun hs => absurd (by omega) hs⟩,fun h0m => absurd (by omega) h0m⟩,fun VZ => absurd (b46.2 (by have := ht.1; simpa using this)) VZ⟩
     rw [decide_eq_true (by omega)]; exact h
 refine Pp.start (OF hb ⟨_,rfl,fun hh => absurd hh (by omega),fun _ => ⟨fun h1n => ⟨u0,by omega,by simpa using hu0,fun ZZ => ?_,fun _ => tail⟩,fun _ => tail⟩⟩)
 exact absurd ⟨by omega,by rw [hu0,QZ.1 ZZ]; rfl⟩ h1
theorem dT {α : Type} {p : α → Bool} : ∀ {l : List α} {u : α},u ∈ l.takeWhile p → p u = true
 | [],u,h => by cases h
 | a :: l,u,h => by
   unfold List.takeWhile at h
   split at h
   · rename_i ha
     rcases List.mem_cons.1 h with rfl | h
     · exact ha
     · exact dT h
   · cases h
theorem MH {s : ByteArray} (h : GA s = true) : 0 < s.size ∧ s.size ≤ 16 ∧ (∃ u,s.data.toList[0]? = some u ∧ B8 u = true) ∧ (∀ u ∈ s.data.toList,B8 u = true ∨ u = 46) ∧ (s.data.toList.filter B8).length ≤ 15 ∧ (∀ j k : Nat,s.data.toList[j]? = some 46 → s.data.toList[k]? = some 46 → j = k) := by
 have hlen : s.data.toList.length = s.size := Array.length_toList (xs := s.data)
 have hle := MG s
 have h0 : AN s ≠ 0 := fun e => by unfold GA at h; rw [if_pos e] at h; cases h
 have h1 : ¬ (1 < AN s ∧ s.data[0]? = some 48) := fun e => by unfold GA at h; rw [if_neg h0,if_pos e] at h; cases h
 unfold GA at h
 rw [if_neg h0,if_neg h1] at h
 have hT : s.data.toList.takeWhile B8 = s.data.toList.take (AN s) := by
   unfold AN
   exact (List.prefix_iff_eq_take.1 (List.takeWhile_prefix _))
 have Wu : ∀ u ∈ s.data.toList.take (AN s),B8 u = true := fun u hu => by rw [← hT] at hu; exact dT hu
 have d46 : B8 46 = false := by decide
 have ex0 : ∃ u,s.data.toList[0]? = some u ∧ B8 u = true := by
   obtain ⟨u,_,CP⟩ := byte_at (show 0 < s.size by omega)
   refine ⟨u,CP,Wu u (List.mem_of_getElem? (i := 0) ?_)⟩
   rw [List.getElem?_take,if_pos (by omega)]; exact CP
 by_cases he : AN s = s.size
 · rw [if_pos he] at h
   have h15 := of_decide_eq_true h
   have Js : ∀ u ∈ s.data.toList,B8 u = true := fun u hu => Wu u (by rw [List.take_of_length_le (by omega)]; exact hu)
   refine ⟨by omega,by omega,ex0,fun u hu => .inl (Js u hu),by have := List.length_filter_le B8 s.data.toList; omega,fun j k hj _ => ?_⟩
   have := Js 46 (List.mem_of_getElem? hj)
   rw [d46] at this; cases this
 · rw [if_neg he] at h
   have hh := of_decide_eq_true h
   generalize hm : AN (s.extract (AN s + 1) s.size) = m at hh
   have hm2 : m ≤ 15 := by omega
   have NK : s.data.toList = s.data.toList.take (AN s) ++ 46 :: s.data.toList.drop (AN s + 1) := by
     obtain ⟨u,hu,CP⟩ := byte_at (show AN s < s.size by omega)
     have e46 : u = 46 := by have := hh.1; rw [hu] at this; simpa using this
     rw [← e46,← BD CP,List.take_append_drop]
   have JO : (s.extract (AN s + 1) s.size).data.toList = s.data.toList.drop (AN s + 1) := by
     rw [ByteArray.data_extract,Array.toList_extract,List.extract_eq_take_drop]
     rw [List.take_of_length_le (by rw [List.length_drop]; omega)]
   have yA : ∀ u ∈ s.data.toList.drop (AN s + 1),B8 u = true := fun u hu => by
     rw [← JO] at hu
     have hp := List.takeWhile_prefix (p := B8) (l := (s.extract (AN s + 1) s.size).data.toList)
     have hl : ((s.extract (AN s + 1) s.size).data.toList.takeWhile B8).length = (s.extract (AN s + 1) s.size).data.toList.length := by
       rw [show ((s.extract (AN s + 1) s.size).data.toList.takeWhile B8).length = AN (s.extract (AN s + 1) s.size) from rfl,hm,JO,List.length_drop]; omega
     have := hp.eq_of_length hl
     rw [← this] at hu
     exact dT hu
   refine ⟨by omega,by omega,ex0,fun u hu => ?_,?_,fun j k hj hk => ?_⟩
   · rw [NK] at hu
     rcases List.mem_append.1 hu with hu | hu
     · exact .inl (Wu u hu)
     · rcases List.mem_cons.1 hu with rfl | hu
       · exact .inr rfl
       · exact .inl (yA u hu)
   · rw [NK,List.filter_append,List.filter_cons,d46]
     have a1 := List.length_filter_le B8 (s.data.toList.take (AN s))
     have a2 := List.length_filter_le B8 (s.data.toList.drop (AN s + 1))
     rw [List.length_take] at a1
     rw [List.length_drop] at a2
     simp only [List.length_append]
     simp
     omega
   · have only : ∀ i : Nat,s.data.toList[i]? = some 46 → i = AN s := fun i hi => by
       rw [NK] at hi
       have eY : (s.data.toList.take (AN s)).length = AN s := by rw [List.length_take]; omega
       rcases Nat.lt_trichotomy i (AN s) with Aq | Aq | Aq
       · rw [List.getElem?_append_left (by omega)] at hi
         have := Wu 46 (List.mem_of_getElem? hi)
         rw [d46] at this; cases this
       · exact Aq
       · rw [List.getElem?_append_right (by omega),eY] at hi
         obtain ⟨d,hd⟩ : ∃ d,i - AN s = d + 1 := ⟨i - AN s - 1,by omega⟩
         rw [hd,List.getElem?_cons_succ] at hi
         have := yA 46 (List.mem_of_getElem? hi)
         rw [d46] at this; cases this
     rw [only j hj,only k hk]
def dU (s : ByteArray) (k : Nat) : Nat := ((s.data.toList.take k).filter B8).length
structure ROk (s : ByteArray) (k : Nat) (r : Rs) : Prop where
 is : r = (s.data.toList.take k).foldl C9 ⟨0,false,0,0⟩
 nd : r.nd ≤ dU s k
 m : r.m < 10 ^ r.nd
 lo : (r.nd : Int) - r.dp ≤ dU s k
 hi : r.dp ≤ r.nd
 sw : r.dot = true → ∃ j,j < k ∧ s.data.toList[j]? = some 46
theorem Gw {u : UInt8} (h : B8 u = true) : 48 ≤ u.toNat ∧ u.toNat ≤ 57 := of_decide_eq_true h
theorem ROk.zero {s : ByteArray} : ROk s 0 ⟨0,false,0,0⟩ := ⟨rfl,Nat.zero_le _,by decide,by simp,by simp,fun h => by cases h⟩
theorem jT {s : ByteArray} {k : Nat} {u : UInt8} (hu : s.data.toList[k]? = some u) : dU s (k + 1) = dU s k + if B8 u then 1 else 0 := by
 unfold dU
 rw [Aa hu,List.filter_append,List.length_append]
 congr 1
 by_cases h : B8 u = true <;> simp [h]
theorem ROk.step {s : ByteArray} {k : Nat} {r : Rs} {u : UInt8} (h : ROk s k r) (hu : s.data.toList[k]? = some u) (hd : B8 u = true ∨ u = 46) : ROk s (k + 1) (C9 r u) := by
 have hc := jT hu
 have his : C9 r u = (s.data.toList.take (k + 1)).foldl C9 ⟨0,false,0,0⟩ := by rw [Aa hu,List.foldl_append,← h.is]; rfl
 have h1 := h.nd
 have h2 := h.m
 have h3 := h.lo
 have h4 := h.hi
 by_cases VZ : u = 46
 · subst VZ
   have e : C9 r 46 = { r with dot := true,dp := r.nd } := by unfold C9; rw [if_pos rfl]
   rw [show B8 46 = false from by decide] at hc
   simp only [Bool.false_eq_true,if_false,Nat.add_zero] at hc
   rw [e] at his ⊢
   exact ⟨his,by rw [hc]; exact h1,h2,by dsimp only; omega,Int.le_refl _,fun _ => ⟨k,by omega,hu⟩⟩
 have hdg := hd.resolve_right VZ
 have hn := Gw hdg
 rw [hdg] at hc
 simp only [if_true] at hc
 by_cases ZZ : u = 48 ∧ r.nd = 0
 · have e : C9 r u = { r with dp := r.dp - 1 } := by unfold C9; rw [if_neg VZ,if_pos ZZ]
   rw [e] at his ⊢
   exact ⟨his,by dsimp only; omega,h2,by dsimp only; omega,by dsimp only; omega,fun hh => let ⟨j,h5,h6⟩ := h.sw hh; ⟨j,by omega,h6⟩⟩
 · have e : C9 r u = { r with m := r.m * 10 + (u.toNat - 48),nd := r.nd + 1 } := by unfold C9; rw [if_neg VZ,if_neg ZZ]
   rw [e] at his ⊢
   exact ⟨his,by dsimp only; omega,by dsimp only; rw [Nat.pow_succ]; omega,by dsimp only; omega,by dsimp only; omega,fun hh => let ⟨j,h5,h6⟩ := h.sw hh; ⟨j,by omega,h6⟩⟩
theorem pZ {x : Int} (h0 : 0 ≤ x) (h1 : x < 18446744073709551616) : IntKind.u64.wrap x = x := by simp [IntKind.wrap,IntKind.bits,IntKind.signed]; omega
theorem AHz {x : Int} (h0 : 0 ≤ x) (h1 : x < 256) : IntKind.u8.wrap x = x := by simp [IntKind.wrap,IntKind.bits,IntKind.signed]; omega
theorem Zj {n : Nat} (h : n ≤ 15) : 10 ^ n ≤ 1000000000000000 := Nat.le_trans (Nat.pow_le_pow_right (by decide) h) (by decide)
theorem jU {s : ByteArray} (ht : GA s = true) (h : R (.returned (.tuple #[.int .u64 ((Hk s).m : Nat),.int .i64 (Tk (Hk s)),.bool false,.bool false,.bool false,.int .i64 (s.size : Nat),.bool true])) σ) : Spec prog 272 #[.string s] σ R := by
 obtain ⟨hs0,ABC,⟨u0,hu0,gG⟩,kO,uW,AH0⟩ := MH ht
 have hlen : s.data.toList.length = s.size := Array.length_toList (xs := s.data)
 have hn0 := Gw gG
 have hg0 : s.data[0]? = some u0 := by rw [← Array.getElem?_toList]; exact hu0
 have AH1 : ∀ k,dU s k ≤ 15 := fun k => Nat.le_trans (List.Sublist.length_le ((List.take_sublist _ _).filter _)) uW
 have Wv : AE.nh R s 0 0 false false false 0 false false 10 19 101 false false 0 0 0 σ := by
   suffices H : ∀ g k : Nat,∀ r : Rs,s.size - k = g → k ≤ s.size → ROk s k r → AE.nh R s (r.m : Nat) 0 false false false (k : Nat) false false 10 19 101 r.dot (decide (0 < k)) (r.nd : Nat) (r.nd : Nat) r.dp σ from H s.size 0 ⟨0,false,0,0⟩ rfl (Nat.zero_le _) .zero
   intro g
   induction g with
   | zero =>
     intro k r hg hk hr
     have XF : k = s.size := by omega
     have er : r = Hk s := by rw [hr.is,List.take_of_length_le (by omega)]; rfl
     have hc := AH1 k
     have h1 := hr.nd
     have h3 := hr.lo
     have h4 := hr.hi
     refine AE.fm ⟨fun Aq => by omega,fun _ => ?_⟩
     rw [show decide (0 < k) = true from decide_eq_true (by omega)]
     have fin : ∀ x17 : Int,(r.m ≠ 0 → x17 - r.nd = Tk r) → -100 ≤ x17 → x17 ≤ 100 → AE.fk R s (r.m : Nat) 0 false false false (k : Nat) false false 10 101 (r.nd : Nat) x17 σ := fun x17 hx hlo hhi => by
       refine AE.nu ⟨fun hh => absurd hh (by decide),fun _ => AE.nw ⟨fun Aq => by omega,fun _ => ⟨fun hh => absurd hh (by decide),fun _ => AE.nz ⟨fun hm => ⟨by unfold AJ; omega,AE.ZG ⟨fun hh => (by cases hh),fun _ => ?_⟩⟩,fun hm => AE.ZG ⟨fun hh => (by cases hh),fun _ => ?_⟩⟩⟩⟩⟩
       · rw [hx (by omega),XF,er]; exact h
       · have hm0 : r.m = 0 := by omega
         have : Tk (Hk s) = 0 := by rw [← er]; unfold Tk; rw [if_pos hm0]
         rw [this,← XF,← er] at h; exact h
     refine AE.nr ⟨fun hh => (by cases hh),fun _ => ⟨fun hf => fin _ (fun hm => ?_) (by omega) (by omega),fun hf => fin _ (fun hm => ?_) (by omega) (by omega)⟩⟩
     · unfold Tk; rw [if_neg hm,hf]; rfl
     · unfold Tk; rw [if_neg hm,hf]; rfl
   | succ g ih =>
     intro k r hg hk hr
     obtain ⟨u,hu,CP⟩ := byte_at (show k < s.size by omega)
     have Xq := kO u (List.mem_of_getElem? CP)
     have Cj := hr.step CP Xq
     have QE := fun h64 => AE.oA (R := R) (σ := σ) (s0 := s) (x2 := ((C9 r u).m : Nat)) (x3 := 0) (t4 := false) (t5 := false) (t6 := false) (x7 := (k : Nat)) (t8 := false) (t9 := false) (x10 := 10) (x11 := 19) (x12 := 101) (t13 := (C9 r u).dot) (t14 := true) (x15 := ((C9 r u).nd : Nat)) (x16 := ((C9 r u).nd : Nat)) (x17 := (C9 r u).dp) ⟨h64,by
       have := ih (k + 1) (C9 r u) (by omega) (by omega) Cj
       rw [show decide (0 < k + 1) = true from decide_eq_true (by omega)] at this
       exact_mod_cast this⟩
     have QE := QE (by unfold AJ; omega)
     have hc := AH1 k
     have h1 := hr.nd
     have h3 := hr.lo
     have h4 := hr.hi
     refine AE.fm ⟨fun _ => ⟨u,by omega,by simpa using hu,fun h95 => ?_,fun h95 => ⟨fun VZ => ⟨fun AH3 => ?_,fun AH3 => ?_⟩,fun VZ => ?_⟩⟩,fun hh => by omega⟩
     · exfalso
       rcases Xq with hd | rfl
       · have := Gw hd; omega
       · exact absurd h95 (by decide)
     · exfalso
       obtain ⟨j,hj,RR⟩ := hr.sw AH3
       have e : u = 46 := (JW (k := 46) (by decide)).1 VZ
       rw [e] at CP
       have := AH0 j k RR CP
       omega
     · have e : u = 46 := (JW (k := 46) (by decide)).1 VZ
       have hk0 : 0 < k := by
         rcases Nat.eq_zero_or_pos k with h0 | h0
         · subst h0
           rw [hu0] at CP; cases CP
           rw [e] at gG; exact absurd gG (by decide)
         · exact h0
       rw [show decide (0 < k) = true from decide_eq_true hk0]
       rw [show C9 r u = { r with dot := true,dp := r.nd } by unfold C9; rw [if_pos e]] at QE
       exact QE
     have hd := Xq.resolve_right fun e => VZ ((JW (k := 46) (by decide)).2 e)
     have hn := Gw hd
     have yB : u ≠ 46 := fun e => VZ ((JW (k := 46) (by decide)).2 e)
     have QZ := JW (u := u) (k := 48) (by decide)
     refine ⟨fun _ => ⟨fun _ => ?_,fun hh => by omega⟩,fun hh => by omega⟩
     have ATn := Nat.lt_of_lt_of_le hr.m (Zj (show r.nd ≤ 15 by omega))
     have digit : ¬ (u = 48 ∧ r.nd = 0) → AJ ((r.nd : Int) + 1) ∧ Br ((r.nd : Int) < 19) (Df (IntKind.u64.wrap ((r.m : Int) * 10)) fun x99 => Df (IntKind.u8.wrap (((UInt8.toNat u : Nat) : Int) - 48)) fun iu => Df (IntKind.u64.wrap iu) fun iw => Df (IntKind.u64.wrap (x99 + iw)) fun cg => AJ ((r.nd : Int) + 1) ∧ AE.F3 R s cg 0 false false false (k : Nat) false false 10 19 101 r.dot true ((r.nd : Int) + 1) ((r.nd : Int) + 1) r.dp σ) (Br ((((UInt8.toNat u : Nat) : Int) : Int) ≠ 48) (AE.F3 R s (r.m : Nat) 0 false true false (k : Nat) false false 10 19 101 r.dot true ((r.nd : Int) + 1) (r.nd : Nat) r.dp σ) (AE.F3 R s (r.m : Nat) 0 false false false (k : Nat) false false 10 19 101 r.dot true ((r.nd : Int) + 1) (r.nd : Nat) r.dp σ)) := fun EA => by
       refine ⟨by unfold AJ; omega,fun _ => fun x99 e99 iu ANZ iw ANa cg ANb => ⟨by unfold AJ; omega,?_⟩,fun hh => absurd (by omega) hh⟩
       rw [pZ (by omega) (by omega)] at e99
       rw [AHz (by omega) (by omega)] at ANZ
       rw [pZ (by omega) (by omega)] at ANa
       rw [pZ (by omega) (by omega)] at ANb
       rw [show C9 r u = { r with m := r.m * 10 + (u.toNat - 48),nd := r.nd + 1 } by unfold C9; rw [if_neg yB,if_neg EA]] at QE
       have : cg = ((r.m * 10 + (u.toNat - 48) : Nat) : Int) := by omega
       rw [this]
       exact_mod_cast QE
     refine ⟨fun ZZ => ⟨fun hz => ⟨by unfold AJ; omega,?_⟩,fun hz => digit fun hh => hz (by omega)⟩,fun ZZ => digit fun hh => ZZ (QZ.2 hh.1)⟩
     rw [show C9 r u = { r with dp := r.dp - 1 } by unfold C9; rw [if_neg yB,if_pos ⟨QZ.1 ZZ,by omega⟩]] at QE
     exact QE
 have ANc : AE.UZ R s 0 0 false false false 0 false false σ := by
   refine AE.RC ⟨by unfold AJ; omega,fun Aq => ⟨u0,by omega,by simpa using hg0,fun ZZ => ⟨by unfold AJ; omega,?_⟩,fun _ => AE.JM Wv⟩,fun _ => AE.JM Wv⟩
   obtain ⟨u1,jA,ANd⟩ := byte_at (show 1 < s.size by omega)
   refine ⟨u1,by decide,by simpa using jA,Es.start fun x4 e4 => ⟨_,rfl,fun ANe => ?_,fun _ => AE.JM Wv⟩⟩
   exfalso
   have low : ∀ i : Fin 12,Go.bits .or .u8 (((46 + i.1 : Nat)) : Int) 32 ≠ 120 := by decide
   have GC : 46 ≤ u1.toNat ∧ u1.toNat < 58 := by
     rcases kO u1 (List.mem_of_getElem? ANd) with hd | rfl
     · have := Gw hd; omega
     · decide
   have := low ⟨u1.toNat - 46,by omega⟩
   rw [show 46 + (u1.toNat - 46) = u1.toNat by omega] at this
   exact this (by rw [← e4]; exact ANe)
 refine AE.start ⟨fun hh => by omega,fun _ => ⟨u0,by decide,by simpa using hg0,fun hh => by omega,fun _ => ⟨fun hh => by omega,fun _ => ANc⟩⟩⟩
theorem Ww {s : ByteArray} (ht : GA s = true) (h : R (.returned (.tuple #[.float .f64 0,.int .i64 0,.bool false])) σ) : Spec prog 271 #[.string s] σ R := by
 obtain ⟨hs0,ABC,⟨u0,hu0,gG⟩,kO,uW,AH0⟩ := MH ht
 have hn0 := Gw gG
 have hg0 : s.data[0]? = some u0 := by rw [← Array.getElem?_toList]; exact hu0
 refine Aj.start ⟨fun hh => by omega,fun _ => ⟨u0,by decide,by simpa using hg0,fun hh => by omega,fun _ => Aj.WQ ⟨fun hh => ?_,fun _ => ⟨fun hh => by omega,fun _ => Aj.tO ⟨fun hh => ?_,fun _ => ⟨fun hh => by omega,fun _ => Aj.WR ⟨fun hh => ?_,fun _ => Aj.tP h⟩⟩⟩⟩⟩⟩⟩
 · have := of_decide_eq_true hh; omega
 · have := of_decide_eq_true hh; omega
 · have := of_decide_eq_true hh; omega
theorem uX {x : Int} : YN prog 281 #[.int .u64 x] σ (.float .f64 x.toNat) := fun w _ => by
 rw [run_callFunc_extern Go.Proofs.Tryz.func281 (by kernel_rfl) (by kernel_rfl) (by kernel_rfl) (e := Extern.MathFloatBits.float64frombits) (by kernel_rfl)]
 rfl
theorem uY {s : ByteArray} (ht : GA s = true) : -15 ≤ Tk (Hk s) ∧ Tk (Hk s) ≤ 0 ∧ (Hk s).m < 1000000000000000 := by
 obtain ⟨hs0,ABC,_,kO,uW,_⟩ := MH ht
 have hlen : s.data.toList.length = s.size := Array.length_toList (xs := s.data)
 have H : ∀ k,k ≤ s.size → ROk s k ((s.data.toList.take k).foldl C9 ⟨0,false,0,0⟩) := fun k => by
   induction k with
   | zero => intro _; exact .zero
   | succ k ih =>
     intro hk
     obtain ⟨u,hu,CP⟩ := byte_at (show k < s.size by omega)
     have := (ih (by omega)).step CP (kO u (List.mem_of_getElem? CP))
     rwa [Aa CP,List.foldl_append]
 have hr := H s.size (Nat.le_refl _)
 rw [List.take_of_length_le (by omega)] at hr
 have hc : dU s s.size ≤ 15 := Nat.le_trans (List.Sublist.length_le ((List.take_sublist _ _).filter _)) uW
 have h1 := hr.nd
 have h3 := hr.lo
 have h4 := hr.hi
 have hm := Nat.lt_of_lt_of_le hr.m (Zj (show _ ≤ 15 by omega))
 change (Hk s).m < _ at hm
 change (Hk s).nd ≤ _ at h1
 change ((Hk s).nd : Int) - (Hk s).dp ≤ _ at h3
 change (Hk s).dp ≤ (Hk s).nd at h4
 unfold Tk
 split
 · exact ⟨by decide,by decide,hm⟩
 · split <;> omega
theorem dV {m : Nat} {e : Int} (hg : Gl σ) (hm : m < 1000000000000000) (h1 : -15 ≤ e) (h2 : e ≤ 0) (h : ∀ x : Nat,(toF x : Nat) = (if e = 0 then toF (FloatKind.f64.nearest m) else Wp 4 (FloatKind.f64.nearest m) (Ti.getD (-e).toNat 0)) → R (.returned (.tuple #[.float .f64 x,.bool true])) σ) :
   Spec prog 282 #[.int .u64 (m : Nat),.int .i64 e,.bool false] σ R := by
 refine BM.start ⟨52,hg.bits,by decide,fun x11 uZ => ⟨fun hh => ?_,fun _ => ?_⟩⟩
 · exfalso
   apply hh
   rw [uZ]
   exact Int.ediv_eq_zero_of_lt (by omega) (by show (m : Int) < 4503599627370496; omega)
 refine TW (v := .float .f64 (FloatKind.f64.nearest m)) (fun w => by kernel_rfl) ⟨_,rfl,fun hh => (by cases hh),fun _ => BM.th ⟨fun h0 => h _ (by rw [if_pos h0]),fun h0 => ⟨fun hh => by omega,fun _ => ⟨fun _ => ⟨fun _ => ?_,fun hh => absurd (by omega) hh⟩,fun hh => absurd (by omega) hh⟩⟩⟩⟩
 obtain ⟨b,o,n,c,hp,hn,hl⟩ := hg.pow
 refine ⟨_,n,c,hp,fun tZ e60 => ?_⟩
 have ANf : tZ = -e := by rw [e60]; simp [IntKind.wrap,IntKind.bits,IntKind.signed]; omega
 have Aq : (-e).toNat < Ti.length := by show _ < 16; omega
 refine ⟨b,o,rfl,by omega,Ti.getD (-e).toNat 0,?_,fz fun y hy => ⟨_,rfl,h y (by rw [if_neg h0]; exact hy)⟩⟩
 rw [ANf]
 exact hl _ _ (by rw [List.getD_eq_getElem?_getD,List.getElem?_eq_getElem Aq]; rfl)
theorem jV {s : ByteArray} (hg : Gl σ) (ht : GA s = true) (h : ∀ x : Nat,((toF x : Nat) : Int) = Zi s → R (.returned (.tuple #[.float .f64 x,.int .i64 (s.size : Nat),.nilIface])) σ) : Spec prog 253 #[.string s] σ R := by
 obtain ⟨h1,h2,hm⟩ := uY ht
 refine EU.start (Ww ht ⟨_,_,_,rfl,fun hh => (by cases hh),fun _ => jU ht ⟨_,_,_,_,_,_,_,rfl,fun hh => (by cases hh),fun _ => ⟨fun hh => (by cases hh),fun _ => ⟨true,hg.opt,fun _ => CV.start ⟨fun hh => (by cases hh),fun _ => ⟨_,rfl,by decide,fun cR e67 => ?_⟩⟩,fun hh => (by cases hh)⟩⟩⟩⟩)
 have ANg : cR = 0 := by rw [e67]; rfl
 subst ANg
 refine ⟨fun h0 => fun wy e71 => .y uX ⟨_,rfl,h _ ?_⟩,fun h0 => ⟨fun hh => by omega,fun _ => ⟨fun hh => by omega,fun _ => ⟨fun _ => dV hg hm h1 h2 fun x hx => ⟨_,_,rfl,fun _ => h x ?_,fun hh => (by cases hh)⟩,fun hh => (by cases hh)⟩⟩⟩⟩
 · have : wy = 0 := by rw [e71]; decide
   rw [this]
   unfold Zi
   rw [if_pos (by omega)]; rfl
 · unfold Zi
   dsimp only
   rw [if_neg (by omega),hx]
   split <;> rfl
theorem Zk {s : ByteArray} (hg : Gl σ) (ht : GA s = true) (h : R (.returned (.tuple #[.int .u64 (Zi s),.bool true])) σ) : Spec prog 140 #[.string s] σ R := by
 obtain ⟨_,ABC,_⟩ := MH ht
 refine Po.start (Wt (by omega) ht ⟨_,rfl,fun hh => (by cases hh),fun _ => HC.start (C2.start (Bj.start ⟨fun hh => absurd hh (by decide),fun _ => jV hg ht fun x hx => ⟨_,_,_,rfl,_,_,_,rfl,fun hh => absurd rfl hh,fun _ => ⟨_,_,rfl,false,fun w _ => by kernel_rfl,fun hh => (by cases hh),fun _ => ⟨_,_,rfl,Gi ⟨_,rfl,by rw [hx]; exact h⟩⟩⟩⟩⟩))⟩)
end
end TwW
end
section
namespace TwW
open Go Tw Go.RowKit Go.Proofs.Tryz
def AW {α : Type} (s : Nat) (E : Hp → List Value → α → Prop) (σ0 σ : Hp) (p : Option Addr) (n c : Nat) (xs : List α) : Prop := Ge s E σ p n c xs ∧ Ext σ0 (σ.del p)
section
variable {α : Type} {s bs : Nat} {E : Hp → List Value → α → Prop} {σ0 σ σ' : Hp} {p : Option Addr} {n c : Nat} {xs : List α}
theorem AW.nil (hx : Ext σ0 σ) : AW s E σ0 σ none 0 0 [] := ⟨Ge.nil,hx⟩
theorem AW.mono (hE : HO E) (h : AW s E σ0 σ p n c xs) (hx : Ext σ σ') : AW s E σ0 σ' p n c xs := ⟨h.1.mono hE hx,h.2.trans (hx.del p)⟩
theorem AW.up (h : AW s E σ0 σ p n c xs) : Ext σ0 σ := h.2.trans (Ext.Iy _ _)
theorem AW.rd (hE : HO E) (h : AW s E σ0 σ p n c xs) : Ab s E σ p n xs := h.1.rd hE
theorem AW.new (h : AW s E σ0 σ p n c xs) (hx : Ext σ σ') : Ext (σ.new σ') (σ'.del p) := Ext.sF (fun a ha => h.1.block a ha)
theorem AW.Jt {P : Program} {T Et ty : TypeId} {vs : List Value} {x : α} {Φ : Value → Hp → Prop} (hE : HO E) [J2 P T Et s bs] (h : AW s E σ0 σ p n c xs) (hl : vs.length = s) (h1 : Gd vs) (hx : E (σ.del p) vs x) (hb : (n + 1) * bs ≤ 140737488355328)
   (hΦ : ∀ p' c' σ',AW s E σ0 σ' p' (n + 1) c' (xs ++ [x]) → Ext (σ.del p) (σ'.del p') → Φ (.slice p' (n + 1) c') σ') {b : Nat} (hn : σ b = none) :
   AK P (Builtin.append_ #[T,T] ty #[.slice p n c,.slice (some ⟨b,0,none⟩) 1 1]) (σ.set b (.cells vs.toArray Et (0,0))) Φ := by
 obtain ⟨⟨hlen,cs,ho,hc⟩,ru⟩ := h
 refine DQ (ho.mono (.set hn)) ⟨by rw [hl,Nat.one_mul],by omega,.inr ⟨b,0,rfl,Ay.of fun j v hj => ?_⟩⟩ h1 hb fun p' c' σ' MP Wl => ?_
 · simp [Hp.ld,Hp.AB,hj]
 · have e : Ext (σ.del p) (σ'.del p') := ((Ext.set hn).del p).trans Wl
   exact hΦ p' c' σ' ⟨⟨by simp [hlen],_,MP,(hc.snoc hl hx).mono hE e⟩,ru.trans e⟩ e
end
theorem CC.one (σ : Hp) (vs : List Value) (x : El) (h : CC σ vs x) : Gd vs := by
 obtain ⟨p,n,c,rfl,_⟩ := h
 intro u hu
 simp only [List.mem_cons,List.not_mem_nil,or_false] at hu
 rcases hu with rfl | rfl <;> rfl
theorem CC.at {σ : Hp} {p : Option Addr} {n i : Nat} {l : List El} {x : El} (hr : Ab 2 CC σ p n l) (hx : l[i]? = some x) : ∃ b o q m d,p = some ⟨b,o,none⟩ ∧ Ay σ b (o + i * 2) [.slice q m d,.int .u64 x.v] ∧ Dq σ q m x.ls := by
 obtain ⟨b,o,vs,hp,⟨q,m,d,rfl,h⟩,hl⟩ := Ab.idx hr hx
 exact ⟨b,o,q,m,d,hp,hl,h⟩
section
variable {σ σ' σ0 : Hp} {R : Rr}
theorem pc {p : Option Addr} {n c : Nat} {xs : List Int} {Φ : Value → Hp → Prop} (hr : FJ .u8 σ p n xs) (h : Φ (.string (strOfNums xs)) σ) : AK prog (convert 90 9 (.slice p n c)) σ Φ := by
 refine AK.pu (fun w hs => ?_) h
 have h1 := underlying90
 have h2 := underlying9
 by_cases hn : n = 0
 · subst hn
   have hx : xs = [] := List.eq_nil_of_length_eq_zero hr.1
   subst hx
   rw [run_convert_bytes_string w 90 9 _ p 0 c h1 underlying5 h2]
   cases p <;> simp [Conv.bytesToString,loadCells] <;> rfl
 · obtain ⟨x0,ru⟩ := hr.ex (k := 0) (by omega)
   obtain ⟨b,o,rfl,_⟩ := hr.at ru
   refine run_convert_bytes_arg w 90 _ h1 underlying5 b o n c xs hr.1 (fun i hi => ?_) 9 h2
   obtain ⟨x,hx⟩ := hr.ex hi
   obtain ⟨b',o',he,hl⟩ := hr.at hx
   cases he
   have := cell_of hs hl
   simpa [Bt,hx] using this
theorem Fa {p : Option Addr} {n c : Nat} {ls : List Lb} (hr : Dq σ p n ls) (hs : Ao ls) (h : ∀ σ',Ext σ σ' → R (.returned (.string (D8 ls))) σ') : Spec prog 49 #[.slice p n c] σ R :=
 YK.start (Wk hr hs fun p' n' c' σ' ho hx => ⟨_,_,_,rfl,pc (D0.rd (BB.mono (Ext.Cs _ _) ho)) ⟨_,rfl,h σ' hx⟩⟩)
theorem Fb {p : Option Addr} {n c : Nat} {ls : List Lb} (hr : Dq σ p n ls) (hn : n ≤ 1000000) (h : ∀ p' n' c' σ',Dq (σ.new σ') p' n' (BF ls) → Ext σ σ' → R (.returned (.slice p' n' c')) σ') : Spec prog 146 #[.slice p n c] σ R := by
 refine VI.start fun b hb => ?_
 have hx := Ext.set (o := .cells #[(.string (ByteArray.mk #[95,95,110,97,109,101,95,95]))] 9 (0,0)) hb
 refine JP (ns := [A4]) (hr.mono Bs.mono hx) hn (Wm (Hp.AB _ _ _)) fun p' n' c' σ' ho Wl => ⟨_,_,_,rfl,h p' n' c' σ' ((ho.rd Bs.mono).mono Bs.mono (Ext.Ck hx)) (hx.trans Wl)⟩
theorem Vc {p q : Option Addr} {n c m d : Nat} {ls : List Lb} {ns : List ByteArray} (hr : Dq σ p n ls) (hn : n ≤ 1000000) (hs : FC 1 σ q m (ns.map .string))
   (h : ∀ p' n' c' σ',Dq (σ.new σ') p' n' (VT ns ls) → Ext σ σ' → R (.returned (.slice p' n' c')) σ') : Spec prog 149 #[.slice p n c,.slice q m d] σ R := by
 refine Rx.start fun b3 al => ?_
 have C5 : Ext σ (σ.set b3 (.cells #[.slice q m d] 34 (0,0))) := .set al
 refine P7 (f := 198) (g := fun x => DA x.1 ns) Gg.en (hr.mono Bs.mono C5) hn (fun σ' x R' hx MD => ?_) fun p' n' c' σ' ho hx => ⟨_,_,_,rfl,h p' n' c' σ' ?_ (C5.trans hx)⟩
 · refine Gg.start fun _ => ⟨q,m,d,Ad (hx _ _ (Hp.AB _ _ _)) rfl,LR (hs.mono (C5.trans hx)) ⟨_,rfl,MD⟩⟩
 · exact (ho.rd Bs.mono).mono Bs.mono (Ext.Ck C5)
theorem jW {p q : Option Addr} {n c m d : Nat} {ls : List Lb} {ns : List ByteArray} (hr : Dq σ p n ls) (hn : n ≤ 1000000) (hs : FC 1 σ q m (ns.map .string))
   (h : ∀ p' n' c' σ',Dq (σ.new σ') p' n' (BF (TQ ns ls)) → Ext σ σ' → R (.returned (.slice p' n' c')) σ') {R' : Rr} (hR : ∀ p' n' c' σ',R (.returned (.slice p' n' c')) σ' → R' (.returned (.slice p' n' c')) σ') :
   Spec prog 150 #[.slice p n c,.slice q m d] σ (AA R' (CS fun aZ n15 WH y => Spec prog 146 #[.slice aZ n15 WH] y (AA R' (CS fun fL n16 YC AF => R' (.returned (.slice fL n16 YC)) AF)))) := by
 refine JP hr hn hs fun p' n' c' σ1 ho hx => ⟨_,_,_,rfl,?_⟩
 have hl : n' ≤ n := by
   have h1 := ho.1
   have h2 := List.length_filter_le (fun x : Lb => !DA x.1 ns) ls
   have h3 : ls.length = n := hr.1
   omega
 refine Fb ((ho.rd Bs.mono).mono Bs.mono (Ext.Cs _ _)) (by omega) fun p2 n2 c2 σ2 HN A9 => ⟨_,_,_,rfl,hR _ _ _ _ (h p2 n2 c2 σ2 (HN.mono Bs.mono (Ext.Ck hx)) (hx.trans A9))⟩
theorem RH {n : Nd} {p q r : Option Addr} {k c m d j e : Nat} {ls : List Lb} (hr : Dq σ r j ls) (hj : j ≤ 1000000) (hs : FC 1 σ q m (n.names.map .string))
   (h : ∀ p' n' c' σ',Dq (σ.new σ') p' n' (Ed n ls) → Ext σ σ' → R (.returned (.slice p' n' c')) σ') : Spec prog 207 #[MZ n p k c q m d,.slice r j e] σ R := by
 refine fZ.start fun _ => ⟨fun h3 => Vc hr hj hs fun p' n' c' σ' j4 hx => ⟨_,_,_,rfl,h p' n' c' σ' ?_ hx⟩,fun h3 => jW hr hj hs (fun p' n' c' σ' j4 hx => h p' n' c' σ' ?_ hx) fun _ _ _ _ hh => hh⟩
 · unfold Ed; rw [if_pos h3]; exact j4
 · unfold Ed; rw [if_neg h3]; exact j4
theorem Ao.filter {ls : List Lb} (g : Lb → Bool) (h : Ao ls) : Ao (ls.filter g) := ⟨Nat.le_trans (List.length_filter_le _ _) h.1,fun x hx => h.2 x (List.mem_filter.1 hx).1⟩
theorem Ao.bare {ls : List Lb} (h : Ao ls) : Ao (BF ls) := h.filter _
theorem Ao.Ed {n : Nd} {ls : List Lb} (h : Ao ls) : Ao (TwW.Ed n ls) := by
 unfold TwW.Ed VT BF TQ
 split
 · exact h.filter _
 · exact (h.filter _).filter _
structure Ig (R : Rr) (σ : Hp) (X : Option Vv) : Prop where
 ok : ∀ x σ' p n c q m d,X = some x → Ext σ σ' → Ab 2 CC σ' p n x.vec → Ab 2 TU σ' q m x.Ow → n ≤ c → m ≤ d → R (.returned (.tuple #[.agg #[.int .i64 x.kind,.int .u64 x.v,.slice p n c,.slice q m d],.int .i64 0])) σ'
 no : X = none → ∀ σ',Ext σ σ' → R (.returned (.tuple #[.agg #[.int .i64 0,.int .u64 0,.slice none 0 0,.slice none 0 0],.int .i64 223])) σ'
theorem Ig.jX {X : Option Vv} (h : Ig R σ X) (hx : Ext σ σ') : Ig R σ' X := ⟨fun x σ2 p n c q m d h0 h1 h2 h3 => h.ok x σ2 p n c q m d h0 (hx.trans h1) h2 h3,fun h0 σ2 h1 => h.no h0 σ2 (hx.trans h1)⟩
theorem Ig.Ui {X : Option Vv} (h : Ig R σ X) : Ig (AA R (fun z y => ∃ YO YQ YR YS YT YU YV YW mA,z = (.tuple #[.agg #[.int .i64 YO,.int .u64 YQ,.slice YR YS YT,.slice YU YV YW],.int .i64 mA]) ∧ R (.returned (.tuple #[.agg #[.int .i64 YO,.int .u64 YQ,.slice YR YS YT,.slice YU YV YW],.int .i64 mA])) y)) σ X :=
 ⟨fun x σ' p n c q m d h0 h1 h2 h3 h4 h5 => ⟨_,_,_,_,_,_,_,_,_,rfl,h.ok x σ' p n c q m d h0 h1 h2 h3 h4 h5⟩,fun h0 σ' h1 => ⟨_,_,_,_,_,_,_,_,_,rfl,h.no h0 σ' h1⟩⟩
theorem jY [FB] {p q : Option Addr} {n c m d : Nat} {v u : Int} {ls ms : List Lb} (hr : Dq σ p n ls) (hs : Dq σ q m ms) (h : ∀ σ',Ext σ σ' → R (.returned (.int .i64 (Aw ls ms))) σ') : Spec prog 196 #[.agg #[.slice p n c,.int .u64 v],.agg #[.slice q m d,.int .u64 u]] σ R :=
 Mg.start fun _ _ => ME hr hs fun σ' hx => ⟨_,rfl,h σ' hx⟩
end
end TwW
end
section
namespace TwW
open Go Tw Go.RowKit Go.Proofs.Tryz
def Ih (op : Int) (vs : List Int) (w : Int) : Option Int :=
 if op = 4 then some (Uf vs) else if op = 5 then some (RF 4 (Uf vs) (BN vs.length)) else if op = 6 then some (LY 7 vs) else if op = 7 then some (LY 9 vs) else if op = 8 then some (BN vs.length)
 else if op = 9 then some (dF (vs.getLast?.getD 0)) else if op = 10 then some (RG vs) else if vs.length < 2 then none
 else if op = 3 then some (RF 2 (vs.getLast?.getD 0) (vs.head?.getD 0)) else if op = 2 then some (La vs) else some (RF 4 (La vs) w)
def foldI (op : Int) (vs : List Int) : Int := if op = 1 then Uf vs else if op = 2 then LY 7 vs else if op = 3 then LY 9 vs else if op = 4 then RF 4 (Uf vs) (BN vs.length) else BN vs.length
def Ii (op a b : Int) : Int × Bool := if 1 ≤ op ∧ op ≤ 4 then (RF op a b,true) else (if ZS op a b then BN 1 else BN 0,ZS op a b)
def FF : Fl := { num := Zi,abs := Wq,floor := NI,whole := BN,pA := pJ,over := Ih,fold := foldI,N7 := Ii,ZL := Jr,cmpL := Aw }
structure QF (σ : Hp) (ab : Nat) (ss : List Sr) (t : Int) : Prop where
 ser : ∃ p n c,σ.ld ⟨ab,0,none⟩ = some (.slice p n c) ∧ Ab 2 Bp σ p n ss
 at_ : σ.ld ⟨ab,1,none⟩ = some (.int .i64 t)
theorem QF.mono {σ σ' : Hp} {ab : Nat} {ss : List Sr} {t : Int} (h : QF σ ab ss t) (hx : Ext σ σ') : QF σ' ab ss t := ⟨let ⟨p,n,c,h1,h2⟩ := h.ser; ⟨p,n,c,hx.ld h1,h2.mono Bp.mono hx⟩,hx.ld h.at_⟩
structure ua (ss : List Sr) : Prop where
 ris : ∀ s ∈ ss,ZY s.ps
 sm : ∀ s ∈ ss,Ao s.ls
 len : ss.length ≤ 10000000
structure ABD (n : Nd) : Prop where
 mki : ∀ x ∈ n.mt,1 ≤ x.kind ∧ x.kind ≤ 4
 mv : ∀ x ∈ n.mt,x.val.size ≤ 1000000
 back : 0 ≤ n.back ∧ n.back < 2147483648
 width : 0 ≤ n.width ∧ n.width < 2147483648
section
variable {σ σ' σ0 : Hp} {R : Rr}
theorem OG {n : Nd} {a p q l : Option Addr} {k c m d j e : Nat} (hg : Gl σ) (ht : GA n.text = true) (h : Ig R σ (some ⟨1,Zi n.text,[],[]⟩)) : Spec prog 100 #[.pointer a,MZ n p k c q m d,.slice l j e] σ R :=
 B4.start fun _ _ => Zk hg ht ⟨_,_,rfl,h.ok _ σ none 0 0 none 0 0 rfl (.refl _) Ab.nil Ab.nil (Nat.le_refl _) (Nat.le_refl _)⟩
theorem Hl {n : Nd} {p q : Option Addr} {k c m d : Nat} {a b : Int} (h : R (.returned (.tuple #[.int .u64 (Ii n.op a b).1,.bool (Ii n.op a b).2])) σ) : Spec prog 156 #[MZ n p k c q m d,.int .u64 a,.int .u64 b] σ R := by
 refine P3.start fun _ => JT ?_
 unfold Ii at h
 by_cases h1 : 1 ≤ n.op ∧ n.op ≤ 4
 · rw [if_pos h1] at h ⊢
   exact ⟨_,_,rfl,fun _ => h,fun hh => (by cases hh)⟩
 · rw [if_neg h1] at h ⊢
   exact ⟨_,_,rfl,fun hh => (by cases hh),fun _ => JU ⟨_,_,rfl,dI ⟨_,rfl,h⟩⟩⟩
theorem Gx {α β : Type} {f : α → Option β} {xs : List α} {k : Nat} {x : α} (hx : xs[k]? = some x) : (xs.take (k + 1)).filterMap f = (xs.take k).filterMap f ++ (f x).toList := by
 rw [Aa hx,List.filterMap_append]
 cases h : f x <;> simp [List.filterMap_cons,h]
theorem Zl {n : Nd} {p q l : Option Addr} {k c m d j e ab : Nat} {ss : List Sr} {t : Int} (hA : QF σ ab ss t) (hg : Gl σ) (hm : Ab 3 OZ σ p k n.mt) (hS : ua ss) (hN : ABD n) (ht : -4611686018427387904 ≤ t ∧ t ≤ 4611686018427387904)
   (h : Ig R σ (some ⟨2,0,As FF n ss t,[]⟩)) : Spec prog 101 #[.pointer (some ⟨ab,0,none⟩),MZ n p k c q m d,.slice l j e] σ R := by
 obtain ⟨pss,Ql,ub,Eb,hr⟩ := hA.ser
 have hl : ss.length = Ql := hr.1
 have hlen := hS.len
 have hb := hN.back
 let f : Sr → Option El := fun s => match (F5 s.ps (t - n.back - 300) (t - n.back)).getLast? with
   | none => none
   | some p => if p.2 = IV ∨ FF.ZL n.mt s.ls = false then none else some ⟨s.ls,p.2⟩
 have hf : As FF n ss t = ss.filterMap f := rfl
 rw [hf] at h
 refine Ae.start fun _ _ _ => ⟨ab,0,rfl,pss,Ql,ub,Eb,?_⟩
 suffices H : ∀ g i : Nat,∀ p8 n8 c8 σ',Ql - i = g → i ≤ Ql → AW 2 CC σ σ' p8 n8 c8 ((ss.take i).filterMap f) → Ae.BA R (aD ab 0) n.kind n.op n.text p k c n.width n.back n.Ec q m d n.bool n.parts 0 0 none 0 0 none 0 0 2 0 p8 n8 c8 none 0 0 pss Ql ub Ql i σ' from H Ql 0 none 0 0 σ rfl (Nat.zero_le _) (AW.nil (.refl _))
 intro g
 induction g with
 | zero =>
   intro i p8 n8 c8 σ' uc hi ho
   rw [List.take_of_length_le (by omega)] at ho
   exact Ae.AZ ⟨fun Aq => by omega,fun _ => h.ok _ σ' p8 n8 c8 none 0 0 rfl ho.up (ho.rd CC.mono) Ab.nil (by obtain ⟨cs,XN,_⟩ := ho.1.2; exact BB.cap XN) (Nat.le_refl _)⟩
 | succ g ih =>
   intro i p8 n8 c8 σ' uc hi ho
   have B9 : i < Ql := by omega
   obtain ⟨s,hs⟩ := hr.ex B9
   obtain ⟨b,o,p1,n1,c1,q1,m1,d1,rfl,H8,h1,h2,h3⟩ := Bp.at hr hs
   have j7 := hS.sm s (List.mem_of_getElem? hs)
   have ABE := hS.ris s (List.mem_of_getElem? hs)
   have hx := ho.up
   have QG : n8 ≤ i := by
     have := ho.1.1
     have h9 := List.length_filterMap_le f (ss.take i)
     rw [List.length_take] at h9
     omega
   have next : ∀ p9 n9 c9 σ2,AW 2 CC σ σ2 p9 n9 c9 ((ss.take i).filterMap f ++ (f s).toList) → Ae.MV R (aD ab 0) n.kind n.op n.text p k c n.width n.back n.Ec q m d n.bool n.parts 0 0 none 0 0 none 0 0 2 0 p9 n9 c9 none 0 0 (aD b o) Ql ub Ql i σ2 := fun p9 n9 c9 σ2 Ba =>
     Ae.JK ⟨AL B9 hr.big,ih (i + 1) _ _ _ _ (by omega) (by omega) (by rw [Gx hs]; exact Ba)⟩
   refine Ae.AZ ⟨fun _ => ⟨b,o,rfl,by omega,p1,n1,c1,q1,m1,d1,by simpa using H8.mono hx,fun _ => ⟨ab,0,rfl,t,hx.ld hA.at_,by unfold AJ; omega,by unfold AJ; omega,t,hx.ld hA.at_,by unfold AJ; omega,QB (h2.mono GK.mono hx) h3 ABE fun q2 m2 d2 HN yC => ⟨q2,m2,d2,rfl,fun h0 => ?_,fun h0 => ?_⟩⟩⟩,fun hh => by omega⟩
   · refine next _ _ _ _ ?_
     have e : f s = none := by
       show (match (F5 s.ps (t - n.back - 300) (t - n.back)).getLast? with | none => none | some p => _) = none
       have Wx : (F5 s.ps (t - n.back - 300) (t - n.back)).length = m2 := HN.1
       rw [List.length_eq_zero_iff.1 (show (F5 s.ps (t - n.back - 300) (t - n.back)).length = 0 by omega)]; rfl
     rw [e]; simpa using ho
   have Wx : (F5 s.ps (t - n.back - 300) (t - n.back)).length = m2 := HN.1
   obtain ⟨y,hy⟩ := HN.ex (k := m2 - 1) (by omega)
   obtain ⟨b2,o2,rfl,UL⟩ := GK.at HN hy
   have e1 : Int.toNat ((m2 : Int) - 1) = m2 - 1 := by omega
   have NF := HN.big
   have AH5 : (F5 s.ps (t - n.back - 300) (t - n.back)).getLast? = some y := by rw [List.getLast?_eq_getElem?,Wx,hy]
   have ef : f s = if y.2 = IV ∨ Jr n.mt s.ls = false then none else some ⟨s.ls,y.2⟩ := by
     show (match (F5 s.ps (t - n.back - 300) (t - n.back)).getLast? with | none => none | some p => _) = _
     rw [AH5]; rfl
   refine ⟨by unfold AJ; omega,b2,o2,rfl,by omega,y.2,by rw [e1]; exact UL.2.1,fun Cj => ?_,fun Cj => Vb ((hg.mono hx)) (hm.mono OZ.mono hx) (h1.mono Bs.mono hx) hN.mv (fun x hx => by have := (j7.2 x hx).2; omega) hN.mki fun σ2 A9 => ⟨_,rfl,fun hf => ?_,fun htr => ?_⟩⟩
   · refine next _ _ _ _ ?_
     rw [ef,if_pos (.inl Cj)]; simpa using ho
   · refine next _ _ _ _ ?_
     rw [ef,if_pos (.inr hf)]
     simpa using ho.mono CC.mono A9
   · refine ⟨by unfold AJ; omega,by omega,y.2,by rw [e1]; exact A9.ld UL.2.1,fun b73 ABF => ?_⟩
     have Ba := ho.mono CC.mono A9
     have he : CC (σ2.del p8) [.slice p1 n1 c1,.int .u64 y.2] ⟨s.ls,y.2⟩ := ⟨p1,n1,c1,rfl,h1.mono Bs.mono Ba.2⟩
     refine AW.Jt CC.mono Ba rfl (CC.one _ _ _ he) he (by omega) (fun p' c' σ3 EB _ => ⟨_,_,_,rfl,next _ _ _ _ ?_⟩) ABF
     rw [ef,if_neg (by
                        rintro (h5 | h5)
                        · exact Cj h5
                        · rw [htr] at h5; cases h5)]
     exact EB
theorem BB.pd {s : Nat} {p q : Option Addr} {n c : Nat} {cs : List Value} (ho : BB s σ q n c cs) (h : ∀ a,q = some a → ∀ a',p = some a' → a.block ≠ a'.block) : BB s (σ.del p) q n c cs :=
 ⟨ho.1,ho.2.1,ho.2.2.imp id fun ⟨b',o',arr,T,hp,hb,r⟩ => ⟨b',o',arr,T,hp,AR.2 ⟨fun a' au => h _ hp a' au,hb⟩,r⟩⟩
theorem AW.sep {α : Type} {s : Nat} {E : Hp → List Value → α → Prop} {p q : Option Addr} {n c m d : Nat} {xs : List α} {ys : List Int} (h : AW s E σ0 σ p n c xs) (g : AW 1 (QO .u64) σ σ' q m d ys) : FJ .u64 (σ'.del p) q m ys ∧ m ≤ d := by
 obtain ⟨⟨_,cs,ho,hc⟩,hx⟩ := g
 have hp := h.1.block
 refine ⟨?_,BB.cap ho⟩
 have NU := bJ.1 hc
 subst NU
 refine FJ.kg (BB.rd (BB.pd ho fun a ha a' au e => ?_))
 cases hh : σ a'.block with
 | none => exact hp a' au hh
 | some u => exact (AR.1 (hx _ _ hh)).1 a ha e.symm
theorem TU.one (σ : Hp) (vs : List Value) (x : Rg) (h : TU σ vs x) : Gd vs := by
 obtain ⟨p,n,c,q,m,d,rfl,_⟩ := h
 intro u hu
 simp only [List.mem_cons,List.not_mem_nil,or_false] at hu
 rcases hu with rfl | rfl <;> rfl
theorem dW {n : Nd} {p q l : Option Addr} {k c m d j e ab : Nat} {ss : List Sr} {t : Int} (hA : QF σ ab ss t) (hg : Gl σ) (hm : Ab 3 OZ σ p k n.mt) (hS : ua ss) (hN : ABD n) (ht : -4611686018427387904 ≤ t ∧ t ≤ 4611686018427387904) (hpl : ∀ s ∈ ss,s.ps.length ≤ 1000000000)
   (h : Ig R σ (some ⟨3,BN n.width,[],Wn FF n ss t⟩)) : Spec prog 102 #[.pointer (some ⟨ab,0,none⟩),MZ n p k c q m d,.slice l j e] σ R := by
 obtain ⟨pss,Ql,ub,Eb,hr⟩ := hA.ser
 have hl : ss.length = Ql := hr.1
 have hlen := hS.len
 have hb := hN.back
 have hw := hN.width
 let fv : Sr → List Int := fun s => ((F5 s.ps (t - n.back - n.width) (t - n.back)).filter fun p => decide (p.2 ≠ IV)).map Prod.snd
 let f : Sr → Option Rg := fun s => bif !(fv s).isEmpty && FF.ZL n.mt s.ls then some ⟨s.ls,fv s⟩ else none
 have hf : Wn FF n ss t = ss.filterMap f := rfl
 rw [hf] at h
 refine AQ.start fun _ _ => JV ⟨_,rfl,fun _ => ⟨ab,0,rfl,pss,Ql,ub,Eb,?_⟩⟩
 suffices H : ∀ g i : Nat,∀ p8 n8 c8 σ',Ql - i = g → i ≤ Ql → AW 2 TU σ σ' p8 n8 c8 ((ss.take i).filterMap f) → AQ.BA R (aD ab 0) n.kind n.op n.text p k c n.width n.back n.Ec q m d n.bool n.parts 0 0 none 0 0 none 0 0 3 (BN n.width) none 0 0 p8 n8 c8 pss Ql ub Ql i σ' from H Ql 0 none 0 0 σ rfl (Nat.zero_le _) (AW.nil (.refl _))
 intro g
 induction g with
 | zero =>
   intro i p8 n8 c8 σ' uc hi ho
   rw [List.take_of_length_le (by omega)] at ho
   exact AQ.AZ ⟨fun Aq => by omega,fun _ => h.ok _ σ' none 0 0 p8 n8 c8 rfl ho.up Ab.nil (ho.rd TU.mono) (Nat.le_refl _) (by obtain ⟨cs,XN,_⟩ := ho.1.2; exact BB.cap XN)⟩
 | succ g ih =>
   intro i p8 n8 c8 σ' uc hi ho
   have B9 : i < Ql := by omega
   obtain ⟨s,hs⟩ := hr.ex B9
   obtain ⟨b,o,p1,n1,c1,q1,m1,d1,rfl,H8,h1,h2,h3⟩ := Bp.at hr hs
   have j7 := hS.sm s (List.mem_of_getElem? hs)
   have ABE := hS.ris s (List.mem_of_getElem? hs)
   have ATs := hpl s (List.mem_of_getElem? hs)
   have hx := ho.up
   have QG : n8 ≤ i := by
     have := ho.1.1
     have h9 := List.length_filterMap_le f (ss.take i)
     rw [List.length_take] at h9
     omega
   have next : ∀ p9 n9 c9 σ2,AW 2 TU σ σ2 p9 n9 c9 ((ss.take i).filterMap f ++ (f s).toList) → AQ.MY R (aD ab 0) n.kind n.op n.text p k c n.width n.back n.Ec q m d n.bool n.parts 0 0 none 0 0 none 0 0 3 (BN n.width) none 0 0 p9 n9 c9 (aD b o) Ql ub Ql i σ2 := fun p9 n9 c9 σ2 Ba =>
     AQ.JM ⟨AL B9 hr.big,ih (i + 1) _ _ _ _ (by omega) (by omega) (by rw [Gx hs]; exact Ba)⟩
   refine AQ.AZ ⟨fun _ => ⟨b,o,rfl,by omega,p1,n1,c1,q1,m1,d1,by simpa using H8.mono hx,fun _ => ⟨ab,0,rfl,t,hx.ld hA.at_,by unfold AJ; omega,by unfold AJ; omega,t,hx.ld hA.at_,by unfold AJ; omega,QB (h2.mono GK.mono hx) h3 ABE fun q2 m2 d2 HN yC => ⟨q2,m2,d2,rfl,?_⟩⟩⟩,fun hh => by omega⟩
   have Wx : (F5 s.ps (t - n.back - n.width) (t - n.back)).length = m2 := HN.1
   have hm2 : m2 ≤ 1000000000 := by
     have := List.length_filter_le (fun p : Int × Int => decide (t - n.back - n.width < p.1) && decide (p.1 ≤ t - n.back)) s.ps
     rw [← Wx]; unfold F5; omega
   have hfv : fv s = ((F5 s.ps (t - n.back - n.width) (t - n.back)).filter fun p => decide (p.2 ≠ IV)).map Prod.snd := rfl
   generalize F5 s.ps (t - n.back - n.width) (t - n.back) = ps at *
   let gv : Pt → Option Int := fun p => if p.2 ≠ IV then some p.2 else none
   have hgv : ∀ l : List Pt,((l.filter fun p => decide (p.2 ≠ IV)).map Prod.snd) = l.filterMap gv := fun l => by
     induction l with
     | nil => rfl
     | cons a l ih =>
       by_cases ha : a.2 ≠ IV
       · rw [List.filter_cons_of_pos (by simpa using ha),List.map_cons,ih,List.filterMap_cons_some (by show (if a.2 ≠ IV then some a.2 else none) = some a.2; rw [if_pos ha])]
       · rw [List.filter_cons_of_neg (by simpa using ha),ih,List.filterMap_cons_none (by show (if a.2 ≠ IV then some a.2 else none) = none; rw [if_neg ha])]
   rw [hgv] at hfv
   suffices H2 : ∀ g2 i2 : Nat,∀ q2' Ly n11 Lz σ2,(0 < m2 → q2' = q2) → m2 - i2 = g2 → i2 ≤ m2 → AW 1 (QO .u64) σ' σ2 Ly n11 Lz ((ps.take i2).filterMap gv) → AQ.UZ R (aD ab 0) n.kind n.op n.text p k c n.width n.back n.Ec q m d n.bool n.parts 0 0 none 0 0 none 0 0 3 (BN n.width) none 0 0 p8 n8 c8 p1 n1 c1 q1 m1 d1 Ly n11 Lz (aD b o) Ql ub Ql i q2' m2 d2 m2 i2 σ2 from H2 m2 0 q2 none 0 0 σ' (fun _ => rfl) rfl (Nat.zero_le _) (AW.nil (.refl _))
   intro g2
   induction g2 with
   | zero =>
     intro i2 q2' Ly n11 Lz σ2 hq jZ hi2 Ba
     rw [List.take_of_length_le (by omega),← hfv] at Ba
     have hlv : (fv s).length = n11 := Ba.1.1
     have XN := ho.mono TU.mono Ba.up
     refine AQ.RC ⟨fun Aq => by omega,fun _ => ⟨fun Oj => Vb (hg.mono (hx.trans Ba.up)) (hm.mono OZ.mono (hx.trans Ba.up)) (h1.mono Bs.mono (hx.trans Ba.up)) hN.mv (fun x hx => by have := (j7.2 x hx).2; omega) hN.mki fun σ3 C5 => ⟨_,rfl,fun htr => ?_,fun hfa => ?_⟩,fun Oj => ?_⟩⟩
     · intro b77 ANj
       obtain ⟨hv1,hv2⟩ := ho.sep (Ba.mono (QO.mono _) C5)
       have EB := XN.mono TU.mono C5
       have he : TU (σ3.del p8) [.slice p1 n1 c1,.slice Ly n11 Lz] ⟨s.ls,fv s⟩ := ⟨p1,n1,c1,Ly,n11,Lz,rfl,h1.mono Bs.mono EB.2,hv1,hv2⟩
       refine AW.Jt TU.mono EB rfl (TU.one _ _ _ he) he (by omega) (fun p' c' σ4 Mn _ => ⟨_,_,_,rfl,next _ _ _ _ ?_⟩) ANj
       have ef : f s = some ⟨s.ls,fv s⟩ := by
         show (bif !(fv s).isEmpty && Jr n.mt s.ls then some _ else none) = _
         rw [htr]
         cases hfe : fv s with
         | nil => rw [hfe] at hlv; simp at hlv; omega
         | cons a l => rfl
       rw [ef]; exact Mn
     · refine next _ _ _ _ ?_
       have ef : f s = none := by
         show (bif !(fv s).isEmpty && Jr n.mt s.ls then some _ else none) = _
         rw [hfa,Bool.and_false]; rfl
       rw [ef]; simpa using XN.mono TU.mono C5
     · refine next _ _ _ _ ?_
       have ef : f s = none := by
         show (bif !(fv s).isEmpty && Jr n.mt s.ls then some _ else none) = _
         rw [List.length_eq_zero_iff.1 (show (fv s).length = 0 by omega)]; rfl
       rw [ef]; simpa using XN
   | succ g2 ih2 =>
     intro i2 q2' Ly n11 Lz σ2 hq jZ hi2 Ba
     have AH8 : i2 < m2 := by omega
     obtain ⟨y,hy⟩ := HN.ex AH8
     obtain ⟨b2,o2,rl,UL⟩ := GK.at HN hy
     have ud : n11 ≤ i2 := by
       have := Ba.1.1
       have h9 := List.length_filterMap_le gv (ps.take i2)
       rw [List.length_take] at h9
       omega
     rw [hq (by omega),rl]
     have nx : ∀ p9 n9 c9 σ3,AW 1 (QO .u64) σ' σ3 p9 n9 c9 ((ps.take i2).filterMap gv ++ (gv y).toList) → AQ.tr R (aD ab 0) n.kind n.op n.text p k c n.width n.back n.Ec q m d n.bool n.parts 0 0 none 0 0 none 0 0 3 (BN n.width) none 0 0 p8 n8 c8 p1 n1 c1 q1 m1 d1 p9 n9 c9 (aD b o) Ql ub Ql i (aD b2 o2) m2 d2 m2 i2 σ3 := fun p9 n9 c9 σ3 EB =>
       AQ.tu ⟨AL AH8 HN.big,ih2 (i2 + 1) _ _ _ _ _ (fun _ => rl.symm) (by omega) (by omega) (by rw [Gx hy]; exact EB)⟩
     refine AQ.RC ⟨fun _ => ⟨b2,o2,rfl,by omega,y.1,y.2,by simpa using UL.mono Ba.up,fun _ => ⟨fun A5 => fun b58 ANl => ?_,fun heq => nx _ _ _ _ ?_⟩⟩,fun hh => by omega⟩
     · refine AW.Jt (QO.mono _) Ba (vs := [.int .u64 y.2]) (x := y.2) rfl (fun u hu => by rw [List.mem_singleton] at hu; subst hu; rfl) rfl (by omega) (fun p' c' σ4 Mn _ => ⟨_,_,_,rfl,nx _ _ _ _ ?_⟩) ANl
       rw [show gv y = some y.2 from if_pos A5]; exact Mn
     · rw [show gv y = none from if_neg (by simpa using heq)]; simpa using Ba
end
end TwW
end
section
namespace TwW
open Go Tw Go.RowKit Go.Proofs.Tryz
def fnT : List (Nat × Nat) := [(226,193),(226,191),(226,189),(224,151),(224,154),(224,152),(224,153),(224,155),(224,185),(224,187)]
def Tl (σ : Hp) (fb : Nat) : Prop := ∀ i g f,fnT[i]? = some (g,f) → ∃ b T,σ.ld ⟨fb,i + 1,none⟩ = some (.func (.func g) #[] #[.pointer (aD b 0)]) ∧ σ b = some (.cells #[.func (.func f) #[] #[]] T (0,0))
theorem Tl.mono {σ σ' : Hp} {fb : Nat} (h : Tl σ fb) (hx : Ext σ σ') : Tl σ' fb := fun i g f hi => let ⟨b,T,h1,h2⟩ := h i g f hi; ⟨b,T,hx.ld h1,hx _ _ h2⟩
section
variable {σ σ' σ0 : Hp} {R : Rr}
theorem Tm (h : ∀ fb σ',Tl (σ.new σ') fb → Ext σ σ' → R (.returned (.slice (aD fb 0) 11 11)) σ') : Spec prog 147 #[] σ R := by
 refine LN.start ?_
 refine CU.start fun b1 h1 => ⟨_,_,_,rfl,?_⟩
 refine CU.start fun b2 h2 => ⟨_,_,_,rfl,?_⟩
 refine CU.start fun b3 h3 => ⟨_,_,_,rfl,?_⟩
 refine CU.start fun b4 h4 => ⟨_,_,_,rfl,?_⟩
 refine CU.start fun b5 h5 => ⟨_,_,_,rfl,?_⟩
 refine CU.start fun b6 h6 => ⟨_,_,_,rfl,?_⟩
 refine CU.start fun b7 h7 => ⟨_,_,_,rfl,?_⟩
 refine Ni.start fun b8 h8 => ⟨_,_,_,rfl,?_⟩
 refine Ni.start fun b9 h9 => ⟨_,_,_,rfl,?_⟩
 refine Ni.start fun Cm TP => ⟨_,_,_,rfl,?_⟩
 intro fb hfb
 have x10 := Ext.set (o := .cells #[.nilFunc,.func (.func 226) #[] #[.pointer (aD Cm 0)],.func (.func 226) #[] #[.pointer (aD b9 0)],.func (.func 226) #[] #[.pointer (aD b8 0)],.func (.func 224) #[] #[.pointer (aD b1 0)],.func (.func 224) #[] #[.pointer (aD b2 0)],.func (.func 224) #[] #[.pointer (aD b3 0)],.func (.func 224) #[] #[.pointer (aD b4 0)],.func (.func 224) #[] #[.pointer (aD b5 0)],.func (.func 224) #[] #[.pointer (aD b6 0)],.func (.func 224) #[] #[.pointer (aD b7 0)]] 195 (0,0)) hfb
 have Nq := x10 _ _ (Hp.AB _ Cm _)
 have x9 := (Ext.set TP).trans x10
 have c9 := x9 _ _ (Hp.AB _ b9 _)
 have x8 := (Ext.set h9).trans x9
 have c8 := x8 _ _ (Hp.AB _ b8 _)
 have x7 := (Ext.set h8).trans x8
 have c7 := x7 _ _ (Hp.AB _ b7 _)
 have x6 := (Ext.set h7).trans x7
 have c6 := x6 _ _ (Hp.AB _ b6 _)
 have x5 := (Ext.set h6).trans x6
 have c5 := x5 _ _ (Hp.AB _ b5 _)
 have x4 := (Ext.set h5).trans x5
 have c4 := x4 _ _ (Hp.AB _ b4 _)
 have x3 := (Ext.set h4).trans x4
 have c3 := x3 _ _ (Hp.AB _ b3 _)
 have x2 := (Ext.set h3).trans x3
 have c2 := x2 _ _ (Hp.AB _ b2 _)
 have x1 := (Ext.set h2).trans x2
 have c1 := x1 _ _ (Hp.AB _ b1 _)
 have x0 := (Ext.set h1).trans x1
 have n1 : σ b1 = none := h1
 have z1 := Ext.set (o := .cells #[.func (.func 151) #[] #[]] 201 (0,0)) h1
 have n2 : σ b2 = none := BE z1 h2
 have z2 := z1.trans (Ext.set (o := .cells #[.func (.func 154) #[] #[]] 201 (0,0)) h2)
 have n3 : σ b3 = none := BE z2 h3
 have z3 := z2.trans (Ext.set (o := .cells #[.func (.func 152) #[] #[]] 201 (0,0)) h3)
 have n4 : σ b4 = none := BE z3 h4
 have z4 := z3.trans (Ext.set (o := .cells #[.func (.func 153) #[] #[]] 201 (0,0)) h4)
 have n5 : σ b5 = none := BE z4 h5
 have z5 := z4.trans (Ext.set (o := .cells #[.func (.func 155) #[] #[]] 201 (0,0)) h5)
 have n6 : σ b6 = none := BE z5 h6
 have z6 := z5.trans (Ext.set (o := .cells #[.func (.func 185) #[] #[]] 201 (0,0)) h6)
 have n7 : σ b7 = none := BE z6 h7
 have z7 := z6.trans (Ext.set (o := .cells #[.func (.func 187) #[] #[]] 201 (0,0)) h7)
 have n8 : σ b8 = none := BE z7 h8
 have z8 := z7.trans (Ext.set (o := .cells #[.func (.func 189) #[] #[]] 232 (0,0)) h8)
 have n9 : σ b9 = none := BE z8 h9
 have z9 := z8.trans (Ext.set (o := .cells #[.func (.func 191) #[] #[]] 232 (0,0)) h9)
 have n10 : σ Cm = none := BE z9 TP
 have z10 := z9.trans (Ext.set (o := .cells #[.func (.func 193) #[] #[]] 232 (0,0)) TP)
 have nf : σ fb = none := BE z10 hfb
 refine h fb _ (fun i g f hi => ?_) x0
 clear x0 x1 x2 x3 x4 x5 x6 x7 x8 x9 x10 z1 z2 z3 z4 z5 z6 z7 z8 z9 z10
 match i,hi with
 | 0,hi => cases hi; exact ⟨Cm,_,Ad (AV.2 ⟨nf,Hp.AB _ _ _⟩) rfl,AV.2 ⟨n10,Nq⟩⟩
 | 1,hi => cases hi; exact ⟨b9,_,Ad (AV.2 ⟨nf,Hp.AB _ _ _⟩) rfl,AV.2 ⟨n9,c9⟩⟩
 | 2,hi => cases hi; exact ⟨b8,_,Ad (AV.2 ⟨nf,Hp.AB _ _ _⟩) rfl,AV.2 ⟨n8,c8⟩⟩
 | 3,hi => cases hi; exact ⟨b1,_,Ad (AV.2 ⟨nf,Hp.AB _ _ _⟩) rfl,AV.2 ⟨n1,c1⟩⟩
 | 4,hi => cases hi; exact ⟨b2,_,Ad (AV.2 ⟨nf,Hp.AB _ _ _⟩) rfl,AV.2 ⟨n2,c2⟩⟩
 | 5,hi => cases hi; exact ⟨b3,_,Ad (AV.2 ⟨nf,Hp.AB _ _ _⟩) rfl,AV.2 ⟨n3,c3⟩⟩
 | 6,hi => cases hi; exact ⟨b4,_,Ad (AV.2 ⟨nf,Hp.AB _ _ _⟩) rfl,AV.2 ⟨n4,c4⟩⟩
 | 7,hi => cases hi; exact ⟨b5,_,Ad (AV.2 ⟨nf,Hp.AB _ _ _⟩) rfl,AV.2 ⟨n5,c5⟩⟩
 | 8,hi => cases hi; exact ⟨b6,_,Ad (AV.2 ⟨nf,Hp.AB _ _ _⟩) rfl,AV.2 ⟨n6,c6⟩⟩
 | 9,hi => cases hi; exact ⟨b7,_,Ad (AV.2 ⟨nf,Hp.AB _ _ _⟩) rfl,AV.2 ⟨n7,c7⟩⟩
theorem pe {p : Option Addr} {m c : Nat} {vs : List Int} (hr : FJ .u64 σ p m vs) (h0 : 0 < m) (h : R (.returned (.int .u64 (dF (vs.getLast?.getD 0)))) σ) : Spec prog 185 #[.slice p m c] σ R := by
 have hl : vs.length = m := hr.1
 have NF := hr.big
 obtain ⟨z,hz⟩ := hr.ex (k := m - 1) (by omega)
 obtain ⟨b,o,rfl,xq⟩ := FJ.at hr hz
 rw [List.getLast?_eq_getElem?,hl,hz] at h
 exact DY.start ⟨by unfold AJ; omega,b,o,rfl,by omega,z,by rw [show Int.toNat ((m : Int) - 1) = m - 1 by omega]; exact xq,F7 ⟨_,rfl,h⟩⟩
theorem pf {p q : Option Addr} {m c j e : Nat} {vs : List Int} (hr : FJ .u64 σ p m vs) (h0 : 0 < m) (h : R (.returned (.int .u64 (RF 2 (vs.getLast?.getD 0) (vs.head?.getD 0)))) σ) : Spec prog 189 #[.slice p m c,.slice q j e] σ R := by
 have hl : vs.length = m := hr.1
 have NF := hr.big
 obtain ⟨z,hz⟩ := hr.ex (k := m - 1) (by omega)
 obtain ⟨y,hy⟩ := hr.ex (k := 0) (by omega)
 obtain ⟨b,o,rfl,xq⟩ := FJ.at hr hz
 obtain ⟨_,_,he,UL⟩ := FJ.at hr hy
 cases he
 rw [List.getLast?_eq_getElem?,hl,hz,List.head?_eq_getElem?,hy] at h
 exact DZ.start ⟨by unfold AJ; omega,b,o,rfl,by omega,z,by rw [show Int.toNat ((m : Int) - 1) = m - 1 by omega]; exact xq,by omega,y,by simpa using UL,ZU ⟨_,rfl,h⟩⟩
theorem ja {n : Nd} {p q r : Option Addr} {k c m d lb lo j e fb u v : Nat} {vs : List Int} {w : Int} (ho : 1 ≤ n.op ∧ n.op ≤ 10) (hF : Tl σ fb) (hr : FJ .u64 σ r u vs) (h0 : 0 < u) (hc : u ≤ v) (hj : 0 < j) (hw : σ.ld ⟨lb,lo + 1,none⟩ = some (.int .u64 w))
   (h : ∀ x ok σ',(Ih n.op vs w = some x ∧ ok = true ∨ Ih n.op vs w = none ∧ ok = false) → Ext σ σ' → R (.returned (.tuple #[.int .u64 x,.bool ok])) σ') :
   ∃ v58,Hp.ld σ ⟨fb,(0 + Int.toNat n.op * 1),none⟩ = some v58 ∧ ∃ (f63 : Nat) (LK LL : Array Value),v58 = .func (.func f63) LK LL ∧ Enters prog f63 ∧ Spec prog f63 (LK ++ #[.slice r u v,MZ n p k c q m d,.slice (some ⟨lb,lo,none⟩) j e] ++ LL) σ R := by
 have hl : vs.length = u := hr.1
 have always : ∀ (i f : Nat) (x : Int),n.op = i + 1 → fnT[i]? = some (224,f) → Ih n.op vs w = some x → Enters prog f → (∀ R' : Rr,(∀ σ',Ext σ σ' → R' (.returned (.int .u64 x)) σ') → Spec prog f #[.slice r u v] σ R') →
     ∃ v58,Hp.ld σ ⟨fb,(0 + Int.toNat n.op * 1),none⟩ = some v58 ∧ ∃ (f63 : Nat) (LK LL : Array Value),v58 = .func (.func f63) LK LL ∧ Enters prog f63 ∧ Spec prog f63 (LK ++ #[.slice r u v,MZ n p k c q m d,.slice (some ⟨lb,lo,none⟩) j e] ++ LL) σ R := fun i f x hi hf hx Og hs => by
   obtain ⟨b,T,h1,h2⟩ := hF i _ _ hf
   refine ⟨_,by rw [show 0 + Int.toNat n.op * 1 = i + 1 by omega]; exact h1,224,#[],#[.pointer (aD b 0)],rfl,Fh.en,Fh.start fun _ => ⟨_,Ad h2 rfl,f,#[],#[],rfl,Og,hs _ fun σ' Wl => ⟨_,rfl,h x true σ' (.inl ⟨hx,rfl⟩) Wl⟩⟩⟩
 have two : ∀ (i f : Nat) (x : Int),n.op = i + 1 → fnT[i]? = some (226,f) → (Ih n.op vs w = if vs.length < 2 then none else some x) → Enters prog f → (2 ≤ u → ∀ R' : Rr,R' (.returned (.int .u64 x)) σ → Spec prog f #[.slice r u v,.slice (some ⟨lb,lo,none⟩) j e] σ R') →
     ∃ v58,Hp.ld σ ⟨fb,(0 + Int.toNat n.op * 1),none⟩ = some v58 ∧ ∃ (f63 : Nat) (LK LL : Array Value),v58 = .func (.func f63) LK LL ∧ Enters prog f63 ∧ Spec prog f63 (LK ++ #[.slice r u v,MZ n p k c q m d,.slice (some ⟨lb,lo,none⟩) j e] ++ LL) σ R := fun i f x hi hf hx Og hs => by
   obtain ⟨b,T,h1,h2⟩ := hF i _ _ hf
   refine ⟨_,by rw [show 0 + Int.toNat n.op * 1 = i + 1 by omega]; exact h1,226,#[],#[.pointer (aD b 0)],rfl,JJ.en,JJ.start fun _ => ⟨fun Aq => h 0 false σ (.inr ⟨by rw [hx,if_pos (by omega)],rfl⟩) (.refl _),fun ck => ⟨_,Ad h2 rfl,f,#[],#[],rfl,Og,hs (by omega) _ ⟨_,rfl,h x true σ (.inl ⟨by rw [hx,if_neg (by omega)],rfl⟩) (.refl _)⟩⟩⟩⟩
 have pY : n.op = 1 ∨ n.op = 2 ∨ n.op = 3 ∨ n.op = 4 ∨ n.op = 5 ∨ n.op = 6 ∨ n.op = 7 ∨ n.op = 8 ∨ n.op = 9 ∨ n.op = 10 := by omega
 rcases pY with e1 | e1 | e1 | e1 | e1 | e1 | e1 | e1 | e1 | e1
 · exact two 0 _ (RF 4 (La vs) w) e1 rfl (by rw [e1]; rfl) Di.en fun h2 R' MD => Di.start ⟨lb,lo,rfl,by omega,w,hw,TZ hr h0 ⟨_,rfl,Kp.Ho (.refl _),ZV ⟨_,rfl,MD⟩⟩⟩
 · exact two 1 _ (La vs) e1 rfl (by rw [e1]; rfl) Dc.en fun h2 R' MD => Dc.start (TZ hr h0 ⟨_,rfl,MD⟩)
 · exact two 2 _ (RF 2 (vs.getLast?.getD 0) (vs.head?.getD 0)) e1 rfl (by rw [e1]; rfl) DZ.en fun h2 R' MD => pf hr h0 MD
 · exact always 3 _ (Uf vs) e1 rfl (by rw [e1]; rfl) F0.en fun R' MD => TX hr h0 hc (MD σ (.refl _))
 · exact always 4 _ (RF 4 (Uf vs) (BN vs.length)) e1 rfl (by rw [e1]; rfl) Ex.en fun R' MD => OD hr h0 hc (by rw [← hl]; exact MD σ (.refl _))
 · exact always 5 _ (LY 7 vs) e1 rfl (by rw [e1]; rfl) HB.en fun R' MD => TY hr h0 hc (MD σ (.refl _))
 · exact always 6 _ (LY 9 vs) e1 rfl (by rw [e1]; rfl) D2.en fun R' MD => Mq hr h0 hc (MD σ (.refl _))
 · exact always 7 _ (BN vs.length) e1 rfl (by rw [e1]; rfl) G5.en fun R' MD => NJ (by rw [← hl]; exact MD σ (.refl _))
 · exact always 8 _ (dF (vs.getLast?.getD 0)) e1 rfl (by rw [e1]; rfl) DY.en fun R' MD => pe hr h0 (MD σ (.refl _))
 · exact always 9 _ (RG vs) e1 rfl (by rw [e1]; rfl) BU.en fun R' MD => Uh hr h0 hc MD
end
end TwW
end
section
namespace TwW
open Go Tw Go.RowKit Go.Proofs.Tryz
theorem Spec.pg {P : Program} {f : FuncId} {args : Array Value} {R : Ending → Prop} {σ0 : Hp} (h : @Spec ⟨True⟩ P f args σ0 (fun e σ' => R e ∧ Ext σ0 σ')) {w : World} (hs : Sat σ0 w) :
   Calls P f args w (fun e w' => R e ∧ ∃ q os,w' = { w with heap := w.heap ++ os,drawn := w.drawn + q }) := by
 refine (h w (fun b => b < w.heap.size ∧ σ0 b = none) hs (fun b hb => hb)).mono ?_
 rintro e w' ⟨σ,⟨hr,hx⟩,hf⟩
 refine ⟨hr,?_⟩
 obtain ⟨h1,h2,h30⟩ := @Fin.os ⟨True⟩ _ _ _ _ hf
 have hfp := @Fin.Bf ⟨True⟩ _ _ _ _ hf
 have hfs := @Fin.sat ⟨True⟩ _ _ _ _ hf
 have hfg := @Fin.grow ⟨True⟩ _ _ _ _ hf
 have hfo := @Fin.out ⟨True⟩ _ _ _ _ hf
 obtain ⟨q,h3⟩ := h30 trivial
 refine ⟨q,w'.heap.extract w.heap.size w'.heap.size,?_⟩
 have hh : w'.heap = w.heap ++ w'.heap.extract w.heap.size w'.heap.size := by
   apply Array.ext_getElem?
   intro i
   rw [Array.getElem?_append]
   split
   · rename_i hi
     cases hσ : σ0 i with
     | none => exact (hfp i ⟨hi,hσ⟩).2
     | some o => exact (hfs i o (hx i o hσ)).trans (hs i o hσ).symm
   · rename_i hi
     rw [Array.getElem?_extract]
     have := hfg
     split
     · congr 1; omega
     · rename_i h2
       exact Array.getElem?_eq_none (by omega)
 cases w with
 | mk heap tape drawn os output =>
   cases w' with
   | mk AQ6 AQ7 ANn os' AJ5 =>
     have h4 := hfo
     simp only at h1 h2 h3 h4 hh ⊢
     subst h1 h2 h3 h4
     rw [← hh]
theorem Tn {α : Type} {enc : α → List Value} {k : Nat} (hk : ∀ x,(enc x).length = k) (h0 : 0 < k) : ∀ (xs : List α) (j : Nat),(xs.flatMap enc)[j]? = (xs[j / k]?).bind fun x => (enc x)[j % k]?
 | [],j => by simp
 | x :: xs,j => by
   rw [List.flatMap_cons,List.getElem?_append,hk]
   by_cases hj : j < k
   · rw [if_pos hj,Nat.div_eq_of_lt hj,Nat.mod_eq_of_lt hj]; simp
   · rw [if_neg hj,Tn hk h0 xs,show j / k = (j - k) / k + 1 by rw [← Nat.add_div_right _ h0]; congr 1; omega,show (j - k) % k = j % k by rw [Nat.mod_eq_sub_mod (by omega : j ≥ k)]]
     simp
theorem PQ {α : Type} {enc : α → List Value} {k : Nat} (hk : ∀ x,(enc x).length = k) : ∀ (xs : List α),(xs.flatMap enc).length = xs.length * k
 | [] => by simp
 | x :: xs => by rw [List.flatMap_cons,List.length_append,PQ hk xs,hk,List.length_cons,Nat.add_mul]; omega
theorem Vd {α : Type} [Inhabited α] {enc : α → List Value} (hk : ∀ x,(enc x).length = 2) (d : List α) (j : Nat) (hj : j < d.length * 2) : (d.flatMap enc)[j]? = some (Sort.flatK enc 2 d.toArray)[j]! := by
 rw [Tn (k := 2) hk (by decide),Sort.get_flatK _ _ _ _ (by simpa using hj)]
 have Aq : j / 2 < d.length := by omega
 rw [List.getElem?_eq_getElem Aq]
 have h2 : j % 2 < (enc d[j / 2]).length := by rw [hk]; exact Nat.mod_lt _ (by decide)
 simp only [Option.bind_some]
 rw [List.getElem?_eq_getElem h2]
 have e1 : d.toArray[j / 2]! = d[j / 2] := by simp [Aq]
 rw [e1,getElem!_pos (enc d[j / 2]) (j % 2) h2]
theorem Wy (F arr : Array Value) (o j : Nat) : (Sort.putCells id o F arr)[j]? = if o ≤ j ∧ j < o + F.size then (arr[j]?).map fun _ => F[j - o]! else arr[j]? := by
 simp only [Sort.putCells,Array.getElem?_mapIdx,id]
 by_cases h : o ≤ j ∧ j < o + F.size
 · rw [if_pos h]; simp [h]
 · rw [if_neg h]
   cases arr[j]? with
   | none => rfl
   | some v => simp only [Option.map_some]; rw [if_neg h]
section
variable {σ : Hp} {R : Rr}
theorem gH {ρ : Go.Shelf.Ren} (L : Go.Proofs.SlLaysF0.n6 prog ρ) (aE : ∀ w,(isAgg (ρ.t 24)).run prog w = .ok true w) (zE : ∀ w,(Go.sizeOf (ρ.t 24)).run prog w = .ok 2 w) {α : Type} [Inhabited α] {enc : α → List Value} (hk : ∀ x,(enc x).length = 2) (h1 : ∀ x,∀ v ∈ enc x,v.oneCell' = true) {cf : α → α → Int} (hO : Sort.SWO (Proofs.ltOf cf)) {g : Nat}
   (eg : ∀ args w,(callFunc g args).run prog w = .ok (.enter g args) w) {b o m d : Nat} {ds : List α} (ho : BB 2 σ (some ⟨b,o,none⟩) m d (ds.flatMap enc)) (hm : ds.length = m) (hm0 : m ≠ 0) (GX : m < 4611686018427387904)
   (uK : ∀ w,Sat (σ.del (some ⟨b,o,none⟩)) w → ∀ x y,Calls prog g #[.agg (enc x).toArray,.agg (enc y).toArray] w fun e w' => e = .returned (.int .i64 (cf x y)) ∧ ∃ n os,w' = Sort.grow (w.drewN n) os)
   (h : ∀ (σ' : Hp) (ds' : List α),ds'.Perm ds → ds'.Pairwise (fun x y => Proofs.ltOf cf y x = false) → BB 2 σ' (some ⟨b,o,none⟩) m d (ds'.flatMap enc) → Ext (σ.del (some ⟨b,o,none⟩)) (σ'.del (some ⟨b,o,none⟩)) → R (.returned (.tuple #[])) σ') :
   Spec prog (ρ.f 6) #[.slice (some ⟨b,o,none⟩) m d,.func (.func g) #[] #[]] σ R := by
 intro w F hs hF
 obtain ⟨arr,T,hb,hw,yC,sC,NU⟩ : ∃ arr T,σ b = some (.cells arr T (0,0)) ∧ w.heap[b]? = some (.cells arr T (0,0)) ∧ m ≤ d ∧ o + d * 2 ≤ arr.size ∧ (arr.toList.drop o).take (m * 2) = ds.flatMap enc := by
   rcases ho.2.2 with ⟨h1,h2,_⟩ | ⟨b',o',arr,T,hp,hb,yC,GX,NU⟩
   · exact absurd h2 hm0
   · cases hp
     exact ⟨arr,T,hb,hs _ _ hb,yC,GX,NU⟩
 have AH9 : ∀ j,j < m * 2 → arr[o + j]? = some (Sort.flatK enc 2 ds.toArray)[j]! := fun j hj => by
   rw [← Vd hk ds j (by omega),← NU,List.getElem?_take,if_pos hj,List.getElem?_drop,Array.getElem?_toList]
 have hH : Sort.HoldsK enc 2 w b o ds.toArray := fun j hj => by
   have RR : j < m * 2 := by simpa [hm] using hj
   refine ⟨?_,by simp [World.frozen?,hw]⟩
   simp only [World.cell?,hw,id]
   simpa using AH9 j RR
 have hblk : b < w.heap.size := (Array.getElem?_eq_some_iff.1 hw).1
 have NW : ∀ (n : Nat) (dk : Array α) (os : Array Obj) k,(Proofs.sortWorldK enc 2 w b o n dk os).heap[k]? = if k < w.heap.size then (if b = k then (w.heap[k]?).map (Sort.onCells (Sort.putCells id o (Sort.flatK enc 2 dk))) else w.heap[k]?) else os[k - w.heap.size]? := fun n dk os k => by
   simp only [Proofs.sortWorldK,Sort.grow,Sort.putRowK,Sort.putRow,Sort.mapBlock,Sort.ahead,Array.getElem?_append,Array.size_modify,Array.getElem?_modify]
 have hcm : Proofs.CmpLays prog g #[] enc 2 cf b o ds.toArray.size w := fun n os dk _ x y => uK _ (fun k u hk => by
   obtain ⟨HZ,hku⟩ := AR.1 hk
   have ANp : b ≠ k := fun e => HZ _ rfl e.symm
   have := hs k u hku
   rw [NW,if_pos (Array.getElem?_eq_some_iff.1 this).1,if_neg ANp]; exact this) x y
 have AIA := Proofs.AnyQ.slices_SortFunc L 2 aE zE enc hk h1 cf hO g #[] b o d ds.toArray w eg hcm hH hblk (by simpa [hm] using GX)
 rw [show ds.toArray.size = m by simpa using hm] at AIA
 refine AIA.mono ?_
 rintro e w' ⟨rfl,d',n,os,Lf,QH,rfl⟩
 obtain ⟨ph,_,hp3⟩ := Lf
 have hd' : d'.size = m := by rw [ph]; simpa using hm
 have hP : d'.toList.Perm ds := by
   rw [show m = d'.size from hd'.symm] at hp3
   rw [Array.extract_size] at hp3
   rw [show d'.size = ds.toArray.size from ph,Array.extract_size] at hp3
   exact hp3
 have fH : d'.toList.length = m := by simpa using hd'
 have hF2 : (Sort.flatK enc 2 d').size = m * 2 := by simp [hd']
 have kL : d'.toList.Pairwise (fun x y => Proofs.ltOf cf y x = false) := List.pairwise_iff_getElem.2 fun i j hi hj eZ => by
   have RR : j < d'.size := by simpa using hj
   have B9 : i < d'.size := by simpa using hi
   have := QH i j (Nat.zero_le _) eZ (by omega)
   rw [getElem!_pos d' j RR,getElem!_pos d' i B9] at this
   simpa using this
 have Xq : ((Sort.putCells id o (Sort.flatK enc 2 d') arr).toList.drop o).take (m * 2) = d'.toList.flatMap enc := by
   refine List.ext_getElem? fun j => ?_
   rw [List.getElem?_take]
   by_cases hj : j < m * 2
   · have := Vd hk d'.toList j (by omega)
     rw [if_pos hj,List.getElem?_drop,Array.getElem?_toList,Wy,if_pos (by omega),this,AH9 j hj]
     simp
   · rw [if_neg hj,List.getElem?_eq_none (by rw [PQ (k := 2) hk,fH]; omega)]
 refine ⟨σ.set b (.cells (Sort.putCells id o (Sort.flatK enc 2 d') arr) T (0,0)),h _ d'.toList hP kL ⟨by rw [PQ (k := 2) hk,fH],by have := ho.2.1; omega,.inr ⟨b,o,_,T,rfl,Hp.AB _ _ _,yC,by simpa [Sort.putCells] using sC,Xq⟩⟩ (by rw [Hp.Iz]; exact Ext.refl _),?_⟩
 · refine ⟨fun k u hk => ?_,fun k hk => ?_,⟨rfl,rfl,fun _ => ⟨n,rfl⟩⟩,rfl,by simp [Proofs.sortWorldK,Sort.grow,Sort.putRowK,Sort.putRow,Sort.mapBlock,Sort.ahead]⟩
   · rw [NW]
     by_cases HZ : k = b
     · subst HZ
       rw [Hp.AB] at hk; cases hk
       rw [if_pos hblk,if_pos rfl,hw]; rfl
     · rw [Hp.AI HZ] at hk
       have := hs k u hk
       rw [if_pos (Array.getElem?_eq_some_iff.1 this).1,if_neg (Ne.symm HZ)]; exact this
   · have HZ : k ≠ b := fun e => by have := (hF k hk).2; rw [e,hb] at this; cases this
     refine ⟨by rw [Hp.AI HZ]; exact (hF k hk).2,?_⟩
     rw [NW,if_pos (hF k hk).1,if_neg (Ne.symm HZ)]
end
end TwW
end
section
namespace Go.Proofs
open Go.Shelf
def Tryz.To : Go.Shelf.Ren := ⟨fun | 6 => 195 | 15 => 74 | 14 => 227 | 28 => 117 | 29 => 118 | 20 => 242 | 21 => 243 | 22 => 244 | 23 => 245 | 24 => 246 | 25 => 247 | 26 => 248 | 27 => 249 | 46 => 264 | 47 => 164 | 48 => 165 | 49 => 265 | 50 => 266 | 57 => 293 | n => n,fun | 22 => 67 | 24 => 71 | 25 => 234 | 3 => 3 | 39 => 141 | 0 => 0 | 53 => 168 | 55 => 48 | 4 => 4 | 46 => 162 | 45 => 161 | 50 => 102 | 5 => 5 | 9 => 9 | 66 => 207 | 70 => 211 | 76 => 248 | 77 => 249 | n => n,fun | n => n⟩
theorem Tryz.pj : Go.Proofs.SlLaysF0.n6 Tryz.prog Tryz.To := {
 mixed := by kernel_rfl
 f6 := ⟨Tryz.f195.name,by decide,Tryz.func195.trans (congrArg some (by kernel_rfl))⟩
 f14 := ⟨Tryz.f227.name,by decide,Tryz.func227.trans (congrArg some (by kernel_rfl))⟩
 f15 := Tryz.func74.trans (congrArg some (by kernel_rfl))
 f20 := ⟨Tryz.f242.name,by decide,Tryz.func242.trans (congrArg some (by kernel_rfl))⟩
 f21 := ⟨Tryz.f243.name,by decide,Tryz.func243.trans (congrArg some (by kernel_rfl))⟩
 f22 := ⟨Tryz.f244.name,by decide,Tryz.func244.trans (congrArg some (by kernel_rfl))⟩
 f23 := ⟨Tryz.f245.name,by decide,Tryz.func245.trans (congrArg some (by kernel_rfl))⟩
 f24 := ⟨Tryz.f246.name,by decide,Tryz.func246.trans (congrArg some (by kernel_rfl))⟩
 f25 := ⟨Tryz.f247.name,by decide,Tryz.func247.trans (congrArg some (by kernel_rfl))⟩
 f26 := ⟨Tryz.f248.name,by decide,Tryz.func248.trans (congrArg some (by kernel_rfl))⟩
 f27 := ⟨Tryz.f249.name,by decide,Tryz.func249.trans (congrArg some (by kernel_rfl))⟩
 f28 := Tryz.func117.trans (congrArg some (by kernel_rfl))
 f29 := Tryz.func118.trans (congrArg some (by kernel_rfl))
 f46 := ⟨Tryz.f264.name,by decide,Tryz.func264.trans (congrArg some (by kernel_rfl))⟩
 f47 := Tryz.func164.trans (congrArg some (by kernel_rfl))
 f48 := Tryz.func165.trans (congrArg some (by kernel_rfl))
 f49 := ⟨Tryz.f265.name,by decide,Tryz.func265.trans (congrArg some (by kernel_rfl))⟩
 f50 := ⟨Tryz.f266.name,by decide,Tryz.func266.trans (congrArg some (by kernel_rfl))⟩
 f57 := ⟨Tryz.f293.name,by decide,Tryz.func293.trans (congrArg some (by kernel_rfl))⟩
 t0 := Tryz.underlying0
 a0 := Tryz.isAgg0
 z0 := Tryz.sizeOf0
 v0 := Tryz.zeroValue0
 t3 := Tryz.underlying3
 a3 := Tryz.isAgg3
 z3 := Tryz.sizeOf3
 v3 := Tryz.zeroValue3
 t4 := Tryz.underlying4
 a4 := Tryz.isAgg4
 z4 := Tryz.sizeOf4
 v4 := Tryz.zeroValue4
 t5 := Tryz.underlying5
 a5 := Tryz.isAgg5
 z5 := Tryz.sizeOf5
 v5 := Tryz.zeroValue5
 t9 := Tryz.underlying9
 a9 := Tryz.isAgg9
 z9 := Tryz.sizeOf9
 v9 := Tryz.zeroValue9
 t22 := Tryz.underlying67
 a22 := Tryz.isAgg67
 z22 := Tryz.sizeOf67
 v22 := Tryz.zeroValue67
 t25 := Tryz.underlying234
 a25 := Tryz.isAgg234
 z25 := Tryz.sizeOf234
 v25 := Tryz.zeroValue234
 t39 := Tryz.underlying141
 a39 := Tryz.isAgg141
 z39 := Tryz.sizeOf141
 v39 := Tryz.zeroValue141
 t45 := Tryz.underlying161
 a45 := Tryz.isAgg161
 z45 := Tryz.sizeOf161
 v45 := Tryz.zeroValue161
 t46 := Tryz.underlying162
 a46 := Tryz.isAgg162
 z46 := Tryz.sizeOf162
 v46 := Tryz.zeroValue162
 t50 := Tryz.underlying102
 a50 := Tryz.isAgg102
 z50 := Tryz.sizeOf102
 v50 := Tryz.zeroValue102
 t53 := Tryz.underlying168
 a53 := Tryz.isAgg168
 z53 := Tryz.sizeOf168
 v53 := Tryz.zeroValue168
 t55 := Tryz.underlying48
 a55 := Tryz.isAgg48
 z55 := Tryz.sizeOf48
 v55 := Tryz.zeroValue48
 t66 := Tryz.underlying207
 a66 := Tryz.isAgg207
 z66 := Tryz.sizeOf207
 v66 := Tryz.zeroValue207
 t70 := Tryz.underlying211
 a70 := Tryz.isAgg211
 z70 := Tryz.sizeOf211
 v70 := Tryz.zeroValue211
 t76 := Tryz.underlying248
 a76 := Tryz.isAgg248
 z76 := Tryz.sizeOf248
 v76 := Tryz.zeroValue248
 t77 := Tryz.underlying249
 a77 := Tryz.isAgg249
 z77 := Tryz.sizeOf249
 v77 := Tryz.zeroValue249 }
def Tryz.Tp : Go.Shelf.Ren := ⟨fun | 6 => 50 | 15 => 74 | 14 => 73 | 28 => 117 | 29 => 118 | 20 => 109 | 21 => 110 | 22 => 111 | 23 => 112 | 24 => 113 | 25 => 114 | 26 => 115 | 27 => 116 | 46 => 163 | 47 => 164 | 48 => 165 | 49 => 166 | 50 => 167 | 57 => 208 | n => n,fun | 22 => 23 | 24 => 40 | 25 => 106 | 3 => 3 | 39 => 141 | 0 => 0 | 53 => 168 | 55 => 48 | 4 => 4 | 46 => 162 | 45 => 161 | 50 => 102 | 5 => 5 | 9 => 9 | 66 => 207 | 70 => 211 | 76 => 248 | 77 => 249 | n => n,fun | n => n⟩
theorem Tryz.ABG : Go.Proofs.SlLaysF0.n6 Tryz.prog Tryz.Tp := {
 mixed := by kernel_rfl
 f6 := ⟨Tryz.f50.name,by decide,Tryz.func50.trans (congrArg some (by kernel_rfl))⟩
 f14 := ⟨Tryz.f73.name,by decide,Tryz.func73.trans (congrArg some (by kernel_rfl))⟩
 f15 := Tryz.func74.trans (congrArg some (by kernel_rfl))
 f20 := ⟨Tryz.f109.name,by decide,Tryz.func109.trans (congrArg some (by kernel_rfl))⟩
 f21 := ⟨Tryz.f110.name,by decide,Tryz.func110.trans (congrArg some (by kernel_rfl))⟩
 f22 := ⟨Tryz.f111.name,by decide,Tryz.func111.trans (congrArg some (by kernel_rfl))⟩
 f23 := ⟨Tryz.f112.name,by decide,Tryz.func112.trans (congrArg some (by kernel_rfl))⟩
 f24 := ⟨Tryz.f113.name,by decide,Tryz.func113.trans (congrArg some (by kernel_rfl))⟩
 f25 := ⟨Tryz.f114.name,by decide,Tryz.func114.trans (congrArg some (by kernel_rfl))⟩
 f26 := ⟨Tryz.f115.name,by decide,Tryz.func115.trans (congrArg some (by kernel_rfl))⟩
 f27 := ⟨Tryz.f116.name,by decide,Tryz.func116.trans (congrArg some (by kernel_rfl))⟩
 f28 := Tryz.func117.trans (congrArg some (by kernel_rfl))
 f29 := Tryz.func118.trans (congrArg some (by kernel_rfl))
 f46 := ⟨Tryz.f163.name,by decide,Tryz.func163.trans (congrArg some (by kernel_rfl))⟩
 f47 := Tryz.func164.trans (congrArg some (by kernel_rfl))
 f48 := Tryz.func165.trans (congrArg some (by kernel_rfl))
 f49 := ⟨Tryz.f166.name,by decide,Tryz.func166.trans (congrArg some (by kernel_rfl))⟩
 f50 := ⟨Tryz.f167.name,by decide,Tryz.func167.trans (congrArg some (by kernel_rfl))⟩
 f57 := ⟨Tryz.f208.name,by decide,Tryz.func208.trans (congrArg some (by kernel_rfl))⟩
 t0 := Tryz.underlying0
 a0 := Tryz.isAgg0
 z0 := Tryz.sizeOf0
 v0 := Tryz.zeroValue0
 t3 := Tryz.underlying3
 a3 := Tryz.isAgg3
 z3 := Tryz.sizeOf3
 v3 := Tryz.zeroValue3
 t4 := Tryz.underlying4
 a4 := Tryz.isAgg4
 z4 := Tryz.sizeOf4
 v4 := Tryz.zeroValue4
 t5 := Tryz.underlying5
 a5 := Tryz.isAgg5
 z5 := Tryz.sizeOf5
 v5 := Tryz.zeroValue5
 t9 := Tryz.underlying9
 a9 := Tryz.isAgg9
 z9 := Tryz.sizeOf9
 v9 := Tryz.zeroValue9
 t22 := Tryz.underlying23
 a22 := Tryz.isAgg23
 z22 := Tryz.sizeOf23
 v22 := Tryz.zeroValue23
 t25 := Tryz.underlying106
 a25 := Tryz.isAgg106
 z25 := Tryz.sizeOf106
 v25 := Tryz.zeroValue106
 t39 := Tryz.underlying141
 a39 := Tryz.isAgg141
 z39 := Tryz.sizeOf141
 v39 := Tryz.zeroValue141
 t45 := Tryz.underlying161
 a45 := Tryz.isAgg161
 z45 := Tryz.sizeOf161
 v45 := Tryz.zeroValue161
 t46 := Tryz.underlying162
 a46 := Tryz.isAgg162
 z46 := Tryz.sizeOf162
 v46 := Tryz.zeroValue162
 t50 := Tryz.underlying102
 a50 := Tryz.isAgg102
 z50 := Tryz.sizeOf102
 v50 := Tryz.zeroValue102
 t53 := Tryz.underlying168
 a53 := Tryz.isAgg168
 z53 := Tryz.sizeOf168
 v53 := Tryz.zeroValue168
 t55 := Tryz.underlying48
 a55 := Tryz.isAgg48
 z55 := Tryz.sizeOf48
 v55 := Tryz.zeroValue48
 t66 := Tryz.underlying207
 a66 := Tryz.isAgg207
 z66 := Tryz.sizeOf207
 v66 := Tryz.zeroValue207
 t70 := Tryz.underlying211
 a70 := Tryz.isAgg211
 z70 := Tryz.sizeOf211
 v70 := Tryz.zeroValue211
 t76 := Tryz.underlying248
 a76 := Tryz.isAgg248
 z76 := Tryz.sizeOf248
 v76 := Tryz.zeroValue248
 t77 := Tryz.underlying249
 a77 := Tryz.isAgg249
 z77 := Tryz.sizeOf249
 v77 := Tryz.zeroValue249 }
end Go.Proofs
end
section
namespace TwW
open Go Tw Go.RowKit Go.Proofs.Tryz
section
variable {σ σ' σ0 : Hp} {R : Rr}
theorem ANq {α : Type} {f : α → List Lb} : Sort.SWO (Proofs.ltOf fun x y => Aw (f x) (f y)) where
 irrefl x := by
   have h1 : Aw (f x) (f x) = 0 := (AY.eq _ _).2 rfl
   exact decide_eq_false (by show ¬ Aw (f x) (f x) < 0; omega)
 trans x y z h1 h2 := by
   unfold Proofs.ltOf at *
   exact decide_eq_true (AY.trans _ _ _ (of_decide_eq_true h1) (of_decide_eq_true h2))
 ntrans x y z h1 h2 := by
   unfold Proofs.ltOf at *
   have h1 := of_decide_eq_false h1
   have h2 := of_decide_eq_false h2
   dsimp only at h1 h2
   refine decide_eq_false fun h3 => ?_
   dsimp only at h3
   rcases Int.lt_trichotomy (Aw (f x) (f y)) 0 with h | h | h
   · exact h1 h
   · rw [(AY.eq _ _).1 h] at h3; exact h2 h3
   · have h4 := (AY.Qj _ _).2 h
     exact h2 (AY.trans _ _ _ h4 h3)
theorem pk {cs : List Value} {m : Nat} (h : cs.length = m * 2) : (List.finRange m).flatMap (fun i => (cs.drop (i.1 * 2)).take 2) = cs := by
 have hk : ∀ i : Fin m,((cs.drop (i.1 * 2)).take 2).length = 2 := fun i => by
   have := i.2
   rw [List.length_take,List.length_drop]; omega
 refine List.ext_getElem? fun j => ?_
 rw [Tn hk (by decide)]
 by_cases hj : j < m * 2
 · have Aq : j / 2 < m := by omega
   rw [List.getElem?_eq_getElem (by rw [List.length_finRange]; exact Aq)]
   simp only [List.getElem_finRange,Option.bind_some,Fin.val_cast]
   rw [List.getElem?_take,if_pos (Nat.mod_lt _ (by decide)),List.getElem?_drop]
   congr 1
   omega
 · rw [List.getElem?_eq_none (by rw [List.length_finRange]; omega),List.getElem?_eq_none (by omega)]; rfl
theorem gI {α : Type} {enc : α → List Value} (hk : ∀ x,(enc x).length = 2) : ∀ (xs : List α) (i : Nat) (x : α),xs[i]? = some x → ((xs.flatMap enc).drop (i * 2)).take 2 = enc x
 | [],i,x,h => by simp at h
 | a :: xs,0,x,h => by
   simp only [List.getElem?_cons_zero,Option.some.injEq] at h
   subst h
   rw [List.flatMap_cons,Nat.zero_mul,List.drop_zero,← hk a,List.take_left]
 | a :: xs,i + 1,x,h => by
   rw [List.flatMap_cons,show (i + 1) * 2 = (enc a).length + i * 2 by rw [hk]; omega,List.drop_append]
   simp only [Nat.add_sub_cancel_left,List.drop_eq_nil_of_le (Nat.le_add_right _ _),List.nil_append]
   exact gI hk xs i x (by simpa using h)
theorem uf {α : Type} (l : List α) {n : Nat} (hn : l.length = n) : (List.finRange n).map (fun i => l[i.1]'(by rw [hn]; exact i.2)) = l := by
 subst hn
 refine List.ext_getElem (by simp) fun i h1 h2 => ?_
 simp
theorem jb {l : List El} (h : ∀ i a b,l[i]? = some a → l[i + 1]? = some b → Aw a.ls b.ls < 0) : l.Pairwise fun a b => Aw a.ls b.ls < 0 := by
 rw [List.pairwise_iff_getElem]
 intro i j hi hj eZ
 induction j with
 | zero => omega
 | succ j ih =>
   have hs := h j l[j] l[j + 1] (List.getElem?_eq_getElem _) (List.getElem?_eq_getElem _)
   by_cases he : i = j
   · subst he; exact hs
   · exact AY.trans _ _ _ (ih (by omega) (by omega)) hs
theorem po : Ca FF [] = some [] := by unfold Ca; rw [if_pos List.Pairwise.nil]; rfl
theorem EX {p : Option Addr} {n c : Nat} {l : List El} (ho : AW 2 CC σ0 σ p n c l) (hn : n ≤ 1000000000000) (h : Ig R σ0 ((Ca FF l).map fun l => ⟨2,0,l,[]⟩)) : Spec prog 148 #[.slice p n c] σ R := by
 have ru := ho.up
 obtain ⟨⟨hl,cs,XN,hc⟩,hx⟩ := ho
 refine EV.start fun _ => ?_
 by_cases h0 : n = 0
 · subst h0
   have uG : l = [] := List.length_eq_zero_iff.1 hl
   subst uG
   rw [po] at h
   refine Spec.same (v := .tuple #[]) (fun w _ => Go.Proofs.AnyF.slices_SortFunc_none Go.Proofs.Tryz.pj p c _ w) ⟨rfl,EV.A3 ⟨fun Aq => by omega,fun _ => ?_⟩⟩
   exact h.ok _ σ p 0 c none 0 0 rfl ru Ab.nil Ab.nil (Nat.zero_le _) (Nat.le_refl _)
 obtain ⟨b,o,rfl⟩ : ∃ b o,p = some ⟨b,o,none⟩ := by
   rcases XN.2.2 with ⟨_,h2,_⟩ | ⟨b,o,_,_,hp,_⟩
   · exact absurd h2 h0
   · exact ⟨b,o,hp⟩
 have Xq : cs.length = n * 2 := XN.1
 let enc : Fin n → List Value := fun i => (cs.drop (i.1 * 2)).take 2
 let at_ : Fin n → El := fun i => l[i.1]'(by rw [hl]; exact i.2)
 have hE : ∀ i : Fin n,CC (σ.del (some ⟨b,o,none⟩)) (enc i) (at_ i) := fun i => hc.2 i.1 (at_ i) (List.getElem?_eq_getElem _)
 have hk : ∀ i,(enc i).length = 2 := fun i => by
   have := i.2
   show ((cs.drop (i.1 * 2)).take 2).length = 2
   rw [List.length_take,List.length_drop]; omega
 have yD : (List.finRange n).flatMap enc = cs := pk Xq
 haveI : Inhabited (Fin n) := ⟨⟨0,by omega⟩⟩
 refine gH (ρ := Go.Proofs.Tryz.To) Go.Proofs.Tryz.pj (fun w => by kernel_rfl) (fun w => by kernel_rfl) (α := Fin n) (enc := enc) hk (fun i => CC.one _ _ _ (hE i)) (cf := fun i j => Aw (at_ i).ls (at_ j).ls) ANq (g := 196) (fun args w => call196 args w) (b := b) (o := o) (ds := List.finRange n) (by rw [yD]; exact XN) List.length_finRange h0 (by omega) (fun w hw i j => ?_) fun σ1 ds hp kL Bg JO => ⟨rfl,?_⟩
 · obtain ⟨q1,m1,d1,hv1,GC⟩ := hE i
   obtain ⟨q2,m2,d2,hv2,HN⟩ := hE j
   rw [hv1,hv2]
   exact Spec.pg (R := fun e => e = .returned (.int .i64 (Aw (at_ i).ls (at_ j).ls))) (@jY _ _ ⟨True⟩ _ _ _ _ _ _ _ _ _ _ GC HN fun σ' Wl => ⟨rfl,Wl⟩) hw
 let l2 : List El := ds.map at_
 have hp2 : l2.Perm l := by
   have := hp.map at_
   rwa [uf l hl] at this
 have Wx : l2.length = n := hp2.length_eq.trans hl
 have hdl : ds.length = n := by have h9 : (ds.map at_).length = n := Wx; rwa [List.length_map] at h9
 have hO : AW 2 CC σ0 σ1 (some ⟨b,o,none⟩) n c l2 := by
   refine ⟨⟨Wx,_,Bg,?_,fun i x hi => ?_⟩,hx.trans JO⟩
   · rw [Bg.1,Wx]
   · have B9 : (ds.map at_)[i]? = some x := hi
     rw [List.getElem?_map] at B9
     cases hd : ds[i]? with
     | none => rw [hd] at B9; cases B9
     | some k =>
       rw [hd] at B9
       simp only [Option.map_some,Option.some.injEq] at B9
       rw [gI hk ds i k hd,← B9]
       exact CC.mono _ _ _ _ JO (hE k)
 have hle : ∀ i a b',l2[i]? = some a → l2[i + 1]? = some b' → ¬ Aw b'.ls a.ls < 0 := fun i a b' ha hb => by
   have hq : l2.Pairwise (fun a b' => ¬ Aw b'.ls a.ls < 0) := by
     refine List.pairwise_map.2 (kL.imp fun {x y} Ue => ?_)
     exact of_decide_eq_false Ue
   obtain ⟨h1,rfl⟩ := List.getElem?_eq_some_iff.1 ha
   obtain ⟨h2,rfl⟩ := List.getElem?_eq_some_iff.1 hb
   exact List.pairwise_iff_getElem.1 hq i (i + 1) h1 h2 (by omega)
 clear_value l2
 clear Bg kL hp yD hE hk hdl
 suffices H : ∀ g k : Nat,∀ σ',n - k = g → 1 ≤ k → k ≤ n → AW 2 CC σ0 σ' (some ⟨b,o,none⟩) n c l2 → (∀ i a b',i + 1 < k → l2[i]? = some a → l2[i + 1]? = some b' → Aw a.ls b'.ls < 0) → EV.Bh R (some ⟨b,o,none⟩) n c 0 0 none 0 0 none 0 0 k σ' from H (n - 1) 1 σ1 rfl (Nat.le_refl _) (by omega) hO (fun i a b' hi => by omega)
 intro g
 induction g with
 | zero =>
   intro k σ' hg h1 XF hO' Aq
   have hr : Ca FF l = some l2 := jE rfl hp2 (jb fun i a b' ha hb => Aq i a b' (by have := (List.getElem?_eq_some_iff.1 hb).1; omega) ha hb)
   rw [hr] at h
   exact EV.A3 ⟨fun Aq => by omega,fun _ => h.ok _ σ' _ n c none 0 0 rfl hO'.up (hO'.rd CC.mono) Ab.nil (by obtain ⟨cs',ANr,_⟩ := hO'.1.2; exact BB.cap ANr) (Nat.le_refl _)⟩
 | succ g ih =>
   intro k σ' hg h1 XF hO' Aq
   have hr := hO'.rd CC.mono
   obtain ⟨y,hy⟩ := hr.ex (k := k) (by omega)
   obtain ⟨x,Wl⟩ := hr.ex (k := k - 1) (by omega)
   obtain ⟨_,_,q1,m1,d1,XO,QN,GC⟩ := CC.at hr Wl
   cases XO
   obtain ⟨_,_,q2,m2,d2,rl,ANs,HN⟩ := CC.at hr hy
   cases rl
   have e1 : Int.toNat ((k : Int) - 1) = k - 1 := by omega
   refine EV.A3 ⟨fun _ => ⟨by unfold AJ; omega,b,o,rfl,by omega,q1,m1,d1,by rw [e1]; exact QN.1,by omega,q2,m2,d2,by simpa using ANs.1,ME GC HN fun σ2 A9 => ⟨_,rfl,fun hz => ?_,fun hnz => ⟨by unfold AJ; omega,?_⟩⟩⟩,fun hh => by omega⟩
   · refine h.no ?_ σ2 (hO'.up.trans A9)
     have : Ca FF l = none := jF rfl hp2 fun kL => by
       obtain ⟨h3,rfl⟩ := List.getElem?_eq_some_iff.1 Wl
       obtain ⟨h4,rfl⟩ := List.getElem?_eq_some_iff.1 hy
       exact List.pairwise_iff_getElem.1 kL (k - 1) k h3 h4 (by omega) hz
     rw [this]; rfl
   · have := ih (k + 1) σ2 (by omega) (by omega) (by omega) (hO'.mono CC.mono A9) fun i a b' hi ha hb => by
       by_cases sB : i + 1 = k
       · rw [sB,hy] at hb; cases hb
         rw [show i = k - 1 by omega,Wl] at ha; cases ha
         have h5 := hle (k - 1) _ _ Wl (by rw [show k - 1 + 1 = k by omega]; exact hy)
         have h6 := (AY.Qj x.ls y.ls)
         have h7 := (AY.Qj y.ls x.ls)
         omega
       · exact Aq i a b' (by omega) ha hb
     exact_mod_cast this
end
end TwW
end
section
namespace TwW
open Go Tw Go.RowKit Go.Proofs.Tryz
structure jc (x : Vv) : Prop where
 el : ∀ e ∈ x.vec,Ao e.ls ∧ 0 ≤ e.v
 rg : ∀ r ∈ x.Ow,Ao r.ls ∧ 0 < r.vs.length
 len : x.vec.length + x.Ow.length ≤ 100000000000
theorem Ao.rd {σ : Hp} {p : Option Addr} {n : Nat} {ls : List Lb} (h : Ao ls) (hr : Dq σ p n ls) : n ≤ 1000000 := by
 have h1 := h.1
 have h2 : ls.length = n := hr.1
 omega
theorem ug : ∀ w,(zeroValue 190).run prog w = .ok .nilFunc w := fun w => by
 have h : prog.info? 190 = some t190 := by kernel_rfl
 simp [zeroValue,typeInfo,h]
 rfl
section
variable {σ σ' σ0 : Hp} {R : Rr}
theorem NH.at {p2 : Option Addr} {n2 i : Nat} {l : List Vv} {x : Vv} (hr : Ab 4 NH σ p2 n2 l) (hx : l[i]? = some x) : ∃ b o p n c q m d,p2 = some ⟨b,o,none⟩ ∧ σ.ld ⟨b,o + i * 4,none⟩ = some (.int .i64 x.kind) ∧ σ.ld ⟨b,o + i * 4 + 1,none⟩ = some (.int .u64 x.v) ∧ σ.ld ⟨b,o + i * 4 + 2,none⟩ = some (.slice p n c) ∧ σ.ld ⟨b,o + i * 4 + 3,none⟩ = some (.slice q m d) ∧ Ab 2 CC σ p n x.vec ∧ Ab 2 TU σ q m x.Ow := by
 obtain ⟨b,o,vs,hp,⟨p,n,c,q,m,d,rfl,h1,h2⟩,hl⟩ := Ab.idx hr hx
 exact ⟨b,o,p,n,c,q,m,d,hp,hl.1,hl.2.1,hl.2.2.1,hl.2.2.2.1,h1,h2⟩
theorem TU.at {p : Option Addr} {n i : Nat} {l : List Rg} {x : Rg} (hr : Ab 2 TU σ p n l) (hx : l[i]? = some x) : ∃ b o q m d q2 m2 d2,p = some ⟨b,o,none⟩ ∧ Ay σ b (o + i * 2) [.slice q m d,.slice q2 m2 d2] ∧ Dq σ q m x.ls ∧ FJ .u64 σ q2 m2 x.vs ∧ m2 ≤ d2 := by
 obtain ⟨b,o,vs,hp,⟨q,m,d,q2,m2,d2,rfl,h1,h2,h3⟩,hl⟩ := Ab.idx hr hx
 exact ⟨b,o,q,m,d,q2,m2,d2,hp,hl,h1,h2,h3⟩
theorem AW.el {p : Option Addr} {n c : Nat} {xs : List El} {q : Option Addr} {m d : Nat} {ls : List Lb} {v : Int} {ty : TypeId} {Φ : Value → Hp → Prop} (ho : AW 2 CC σ0 σ p n c xs) (hr : Dq (σ.del p) q m ls) (hn : n ≤ 1000000000000)
   (hΦ : ∀ p' c' σ',AW 2 CC σ0 σ' p' (n + 1) c' (xs ++ [⟨ls,v⟩]) → Ext (σ.del p) (σ'.del p') → Φ (.slice p' (n + 1) c') σ') {b : Nat} (hb : σ b = none) :
   AK prog (Builtin.append_ #[67,67] ty #[.slice p n c,.slice (some ⟨b,0,none⟩) 1 1]) (σ.set b (.cells #[.slice q m d,.int .u64 v] 71 (0,0))) Φ := by
 have he : CC (σ.del p) [.slice q m d,.int .u64 v] ⟨ls,v⟩ := ⟨q,m,d,rfl,hr⟩
 exact AW.Jt CC.mono ho rfl (CC.one _ _ _ he) he (by omega) hΦ hb
theorem pq {n : Nd} {p q a l : Option Addr} {k c m d j e : Nat} {L : List Vv} {x : Vv} (hr : Ab 4 NH σ l j L) (hx : L[0]? = some x) (hV : jc x) (h : Ig R σ (jD FF x)) : Spec prog 106 #[.pointer a,MZ n p k c q m d,.slice l j e] σ R := by
 have hj : 0 < j := by have h1 : L.length = j := hr.1; have := (List.getElem?_eq_some_iff.1 hx).1; omega
 obtain ⟨b,o,pv,nv,cv,qv,mv,dv,rfl,h1,h2,h3,h4,h5,h6⟩ := NH.at hr hx
 simp only [Nat.zero_mul,Nat.add_zero] at h1 h2 h3 h4
 refine BJ.start fun _ _ => ⟨b,o,rfl,by omega,x.kind,h1,fun hk => ⟨by omega,x.v,h2,QA ⟨_,rfl,?_⟩⟩,fun hk => ⟨by omega,pv,nv,cv,h3,?_⟩⟩
 · unfold jD at h; rw [if_pos hk] at h
   exact h.ok _ σ none 0 0 none 0 0 rfl (.refl _) Ab.nil Ab.nil (Nat.le_refl _) (Nat.le_refl _)
 unfold jD at h
 rw [if_neg hk] at h
 have hl : x.vec.length = nv := h5.1
 have hlen := hV.len
 suffices H : ∀ g i : Nat,∀ p8 n8 c8 σ',nv - i = g → i ≤ nv → AW 2 CC σ σ' p8 n8 c8 ((x.vec.take i).map fun x => ⟨BF x.ls,FF.pA x.v⟩) → BJ.tf R 0 0 none 0 0 none 0 0 p8 n8 c8 pv nv cv nv i σ' from H nv 0 none 0 0 σ rfl (Nat.zero_le _) (AW.nil (.refl _))
 intro g
 induction g with
 | zero =>
   intro i p8 n8 c8 σ' hg hi ho
   rw [List.take_of_length_le (by omega)] at ho
   have QG := ho.1.1
   rw [List.length_map] at QG
   exact BJ.fa ⟨fun Aq => by omega,fun _ => EX ho (by omega) h.Ui⟩
 | succ g ih =>
   intro i p8 n8 c8 σ' hg hi ho
   have B9 : i < nv := by omega
   obtain ⟨y,hy⟩ := h5.ex B9
   obtain ⟨b1,o1,q1,m1,d1,rfl,QN,GC⟩ := CC.at h5 hy
   have JN := hV.el y (List.mem_of_getElem? hy)
   have QG := ho.1.1
   rw [List.length_map,List.length_take] at QG
   refine BJ.fa ⟨fun _ => ⟨b1,o1,rfl,by omega,q1,m1,d1,y.v,by simpa using QN.mono ho.up,fun _ => Fb (GC.mono Bs.mono ho.up) (JN.1.rd GC) fun p' n' c' σ2 HN A9 => ⟨_,_,_,rfl,QA ⟨_,rfl,fun rh ANt => ?_⟩⟩⟩,fun hh => by omega⟩
   refine AW.el (ho.mono CC.mono A9) (HN.mono Bs.mono (ho.new A9)) (by omega) (fun p9 c9 σ3 EB _ => ⟨_,_,_,rfl,AL B9 h5.big,ih (i + 1) _ _ _ _ (by omega) (by omega) ?_⟩) ANt
   rw [Aa hy,List.map_append]; exact EB
theorem jd {n : Nd} {p q a l : Option Addr} {k c m d j e : Nat} {L : List Vv} {x : Vv} (hr : Ab 4 NH σ l j L) (hx : L[0]? = some x) (hV : jc x) (hv : x.vec ≠ [] → n.op = 11 ∨ n.op = 12) (hw : x.Ow ≠ [] → 1 ≤ n.op ∧ n.op ≤ 10)
   (h : Ig R σ ((Ca FF (TR FF n x)).map fun l => ⟨2,0,l,[]⟩)) : Spec prog 103 #[.pointer a,MZ n p k c q m d,.slice l j e] σ R := by
 have hj : 0 < j := by have h1 : L.length = j := hr.1; have := (List.getElem?_eq_some_iff.1 hx).1; omega
 obtain ⟨b,o,pv,nv,cv,qv,mv,dv,rfl,h1,h2,h3,h4,h5,h6⟩ := NH.at hr hx
 simp only [Nat.zero_mul,Nat.add_zero] at h1 h2 h3 h4
 have hl : x.vec.length = nv := h5.1
 have hlr : x.Ow.length = mv := h6.1
 have hlen := hV.len
 refine AU.start fun _ _ => EW fun mb pS => ⟨mb,rfl,?_⟩
 have s0 := pR.fresh pS
 refine s0.put (by simp) fun σ1 s1 => s1.put (by simp) fun σ2 s2 => ?_
 have A9 := s2.1
 have hml := s2.2.2
 have cont : ∀ v21,(n.op = 11 → v21 = .func (.func 144) #[] #[]) → (n.op = 12 → v21 = .func (.func 145) #[] #[]) → ∃ v,v = v21 ∧ Pq (some ⟨b,o,none⟩) fun OX fO => In 0 (j : Int) ∧ LS σ2 OX (fO + 2) fun ig n25 ij => AU.FI R (aD OX fO) j e n.kind n.op n.text p k c n.width n.back n.Ec q m d n.bool n.parts 0 0 none 0 0 none 0 0 none 0 0 v ig n25 ij (n25 : Int) 0 σ2 := fun v21 ha hf => by
   refine ⟨v21,rfl,b,o,rfl,by omega,pv,nv,cv,A9.ld h3,?_⟩
   let g1 : El → El := fun x => ⟨BF x.ls,if n.op = 11 then FF.abs x.v else FF.floor x.v⟩
   let g2 : Rg → Option El := fun s => (FF.over n.op s.vs x.v).map fun v => ⟨BF s.ls,v⟩
   have hc : TR FF n x = x.vec.map g1 ++ x.Ow.filterMap g2 := rfl
   rw [hc] at h
   have second : ∀ g i : Nat,∀ fb p8 n8 c8 σ',mv - i = g → i ≤ mv → Tl (σ'.del p8) fb → AW 2 CC σ σ' p8 n8 c8 (x.vec.map g1 ++ (x.Ow.take i).filterMap g2) → AU.DV R (aD b o) j e n.kind n.op n.text p k c n.width n.back n.Ec q m d n.bool n.parts 0 0 none 0 0 none 0 0 p8 n8 c8 (aD fb 0) 11 11 qv mv dv mv i σ' := by
     intro g
     induction g with
     | zero =>
       intro i fb p8 n8 c8 σ' hg hi hF ho
       rw [List.take_of_length_le (by omega)] at ho
       have QG := ho.1.1
       rw [List.length_append,List.length_map] at QG
       have h9 := List.length_filterMap_le g2 x.Ow
       exact AU.Ff ⟨fun Aq => by omega,fun _ => EX ho (by omega) h.Ui⟩
     | succ g ih =>
       intro i fb p8 n8 c8 σ' hg hi hF ho
       have B9 : i < mv := by omega
       obtain ⟨y,hy⟩ := h6.ex B9
       obtain ⟨b1,o1,q1,m1,d1,q2,m2,d2,rfl,QN,GC,HN,yC⟩ := TU.at h6 hy
       have JN := hV.rg y (List.mem_of_getElem? hy)
       have Jd := hw fun e => by rw [e] at hlr; simp at hlr; omega
       have hlv : y.vs.length = m2 := HN.1
       have QG := ho.1.1
       rw [List.length_append,List.length_map] at QG
       have h9 := List.length_filterMap_le g2 (x.Ow.take i)
       rw [List.length_take] at h9
       have next : ∀ p9 n9 c9 σ3,Tl (σ3.del p9) fb → AW 2 CC σ σ3 p9 n9 c9 (x.vec.map g1 ++ (x.Ow.take i).filterMap g2 ++ (g2 y).toList) → AU.MY R (aD b o) j e n.kind n.op n.text p k c n.width n.back n.Ec q m d n.bool n.parts 0 0 none 0 0 none 0 0 p9 n9 c9 (aD fb 0) 11 11 (aD b1 o1) mv dv mv i σ3 := fun p9 n9 c9 σ3 hF3 EB =>
         AU.JM ⟨AL B9 h6.big,ih (i + 1) _ _ _ _ _ (by omega) (by omega) hF3 (by rw [Gx hy,← List.append_assoc]; exact EB)⟩
       refine AU.Ff ⟨fun _ => ⟨b1,o1,rfl,by omega,q1,m1,d1,q2,m2,d2,by simpa using QN.mono ho.up,fun _ => ⟨fb,0,rfl,by omega,ja (w := x.v) Jd (hF.mono (Ext.Iy _ _)) (HN.mono ho.up) (by omega) yC hj (ho.up.ld h2) fun z ok σ3 hz C5 => ⟨z,ok,rfl,fun Cz => ?_,fun Cz => next _ _ _ _ (hF.mono (C5.del _)) ?_⟩⟩⟩,fun hh => by omega⟩
       · have hz' : FF.over n.op y.vs x.v = some z := by
           rcases hz with ⟨h7,_⟩ | ⟨_,h8⟩
           · exact h7
           · rw [Cz] at h8; cases h8
         refine Fb (GC.mono Bs.mono (ho.up.trans C5)) (JN.1.rd GC) fun p' n' c' σ4 hr4 NV => ⟨_,_,_,rfl,fun b73 ABF => ?_⟩
         have EB := ho.mono CC.mono C5
         refine AW.el (EB.mono CC.mono NV) (hr4.mono Bs.mono (EB.new NV)) (by omega) (fun p9 c9 σ5 RD Ud => ⟨_,_,_,rfl,next _ _ _ _ (hF.mono (((C5.trans NV).del _).trans Ud)) ?_⟩) ABF
         rw [show g2 y = some ⟨BF y.ls,z⟩ by show (FF.over n.op y.vs x.v).map _ = _; rw [hz']; rfl]; exact RD
       · have hz' : FF.over n.op y.vs x.v = none := by
           rcases hz with ⟨_,h8⟩ | ⟨h7,_⟩
           · rw [Cz] at h8; cases h8
           · exact h7
         rw [show g2 y = none by show (FF.over n.op y.vs x.v).map _ = _; rw [hz']; rfl]
         simpa using ho.mono CC.mono C5
   suffices H : ∀ g i : Nat,∀ p8 n8 c8 σ',nv - i = g → i ≤ nv → AW 2 CC σ σ' p8 n8 c8 ((x.vec.take i).map g1) → AU.FI R (aD b o) j e n.kind n.op n.text p k c n.width n.back n.Ec q m d n.bool n.parts 0 0 none 0 0 none 0 0 p8 n8 c8 v21 pv nv cv nv i σ' from H nv 0 none 0 0 σ2 rfl (Nat.zero_le _) (AW.nil A9)
   intro g
   induction g with
   | zero =>
     intro i p8 n8 c8 σ' hg hi ho
     rw [List.take_of_length_le (by omega)] at ho
     refine AU.Fg ⟨fun Aq => by omega,fun _ => Tm fun fb σ3 hF C5 => ⟨_,_,_,rfl,b,o,rfl,by omega,qv,mv,dv,(ho.up.trans C5).ld h4,second mv 0 fb p8 n8 c8 σ3 rfl (Nat.zero_le _) (hF.mono (ho.new C5)) (by simpa using ho.mono CC.mono C5)⟩⟩
   | succ g ih =>
     intro i p8 n8 c8 σ' hg hi ho
     have B9 : i < nv := by omega
     obtain ⟨y,hy⟩ := h5.ex B9
     obtain ⟨b1,o1,q1,m1,d1,rfl,QN,GC⟩ := CC.at h5 hy
     have JN := hV.el y (List.mem_of_getElem? hy)
     have QG := ho.1.1
     rw [List.length_map,List.length_take] at QG
     have Jd := hv fun e => by rw [e] at hl; simp at hl; omega
     refine AU.Fg ⟨fun _ => ⟨b1,o1,rfl,by omega,q1,m1,d1,y.v,by simpa using QN.mono ho.up,fun _ => Fb (GC.mono Bs.mono ho.up) (JN.1.rd GC) fun p' n' c' σ3 dX C5 => ⟨_,_,_,rfl,?_⟩⟩,fun hh => by omega⟩
     have app : ∀ z,(g1 y).v = z → AA R (CI .u64 fun xD AF => Al AF fun VE => AK prog (Builtin.append_ #[67,67] 67 #[.slice p8 n8 c8,(.slice (aD VE 0) 1 1)]) (Hp.set AF VE (.cells #[.slice p' n' c',.int .u64 xD] 71 (0,0))) (CS fun rL n41 fQ AH => AJ ((i : Int) + 1) ∧ AU.FI R (aD b o) j e n.kind n.op n.text p k c n.width n.back n.Ec q m d n.bool n.parts 0 0 none 0 0 none 0 0 rL n41 fQ v21 (aD b1 o1) nv cv nv ((i : Int) + 1) AH)) (.returned (.int .u64 z)) σ3 := fun z hz => by
       refine ⟨z,rfl,fun VE je => AW.el (ho.mono CC.mono C5) (dX.mono Bs.mono (ho.new C5)) (by omega) (fun p9 c9 σ5 RD Ud => ⟨_,_,_,rfl,AL B9 h5.big,ih (i + 1) _ _ _ _ (by omega) (by omega) ?_⟩) je⟩
       rw [Aa hy,List.map_append]
       have : g1 y = ⟨BF y.ls,z⟩ := by rw [← hz]
       simpa [this] using RD
     rcases Jd with Jd | Jd
     · exact ⟨144,#[],#[],ha Jd,N1.en,pG JN.2 (app _ (by show (if n.op = 11 then Wq y.v else _) = _; rw [if_pos Jd]))⟩
     · exact ⟨145,#[],#[],hf Jd,JL.en,dH (app _ (by show (if n.op = 11 then Wq y.v else NI y.v) = _; rw [if_neg (by omega)]))⟩
 refine hml.look ug (fun EA => cont _ (fun h9 => ?_) fun h9 => ?_) fun v hv => ?_
 · exact absurd h9.symm (EA (11,.func (.func 144) #[] #[]) (by simp))
 · exact absurd h9.symm (EA (12,.func (.func 145) #[] #[]) (by simp))
 · simp only [List.nil_append,List.cons_append,List.mem_cons,List.not_mem_nil,or_false,Prod.mk.injEq] at hv
   rcases hv with ⟨h9,rfl⟩ | ⟨h9,rfl⟩
   · exact cont _ (fun _ => rfl) fun h8 => by omega
   · exact cont _ (fun h8 => by omega) fun _ => rfl
end
end TwW
end
section
namespace TwW
open Go Tw Go.RowKit Go.Proofs.Tryz
theorem dY : ∀ w,(zeroValue 71).run prog w = .ok (.agg #[.slice none 0 0,.int .u64 0]) w := fun w => by
 have h : prog.info? 71 = some t71 := by kernel_rfl
 simp [zeroValue,typeInfo,h]
 rfl
def E0 (σ0 : Hp) (v : Value) (x : El) : Prop := ∃ p n c,v = .agg #[.slice p n c,.int .u64 x.v] ∧ Dq σ0 p n x.ls
theorem Ve {α : Type} {f : α → Bool} {xs : List α} {k : Nat} {x : α} (hx : xs[k]? = some x) : (xs.take (k + 1)).filter f = (xs.take k).filter f ++ if f x then [x] else [] := by
 rw [Aa hx,List.filter_append]
 by_cases h : f x = true <;> simp [h]
section
variable {σ σ' σ0 : Hp} {R : Rr}
theorem Ext.put {m : Nat} {o : Obj} (hx : Ext σ0 σ) (hm : σ0 m = none) : Ext σ0 (σ.set m o) := fun k u hk => by rw [Hp.AI (fun e => by rw [e,hm] at hk; cases hk)]; exact hx _ _ hk
theorem JX {n : Nd} {p q pv : Option Addr} {k c m d nv cv : Nat} {vec : List El} (hs : FC 1 σ q m (n.names.map .string)) (hr : Ab 2 CC σ pv nv vec) (j7 : ∀ e ∈ vec,Ao e.ls)
   (h : ∀ mb σ',MS (E0 σ) σ' mb (TT n vec) → Ext σ σ' → R (.returned (.tuple #[.map (some mb),.bool (jC n vec)])) σ') : Spec prog 206 #[MZ n p k c q m d,.slice pv nv cv] σ R := by
 have hl : vec.length = nv := hr.1
 refine HF.start fun _ => EW fun mb pS => ⟨mb,rfl,?_⟩
 let st : List (ByteArray × El) → El → List (ByteArray × El) := fun m x => Qi m (D8 (Ed n x.ls)) x
 have hk : TT n vec = vec.foldl st [] := rfl
 suffices H : ∀ g i : Nat,∀ σ',nv - i = g → i ≤ nv → MS (E0 σ) σ' mb ((vec.take i).foldl st []) → Ext σ σ' → HF.BA R pv nv cv n.kind n.op n.text p k c n.width n.back n.Ec q m d n.bool n.parts (some mb) pv nv cv nv i σ' from H nv 0 _ rfl (Nat.zero_le _) MS.fresh (.set pS)
 intro g
 induction g with
 | zero =>
   intro i σ' hg hi hM hx
   rw [List.take_of_length_le (by omega)] at hM
   refine HF.AZ ⟨fun Aq => by omega,fun _ => ⟨_,hM.len,?_⟩⟩
   have := h mb σ' hM hx
   unfold jC at this
   rw [hk,hl] at this
   rw [show decide ((((vec.foldl st []).length : Nat) : Int) = (nv : Int)) = decide ((vec.foldl st []).length = nv) from decide_eq_decide.2 (by omega)]
   exact this
 | succ g ih =>
   intro i σ' hg hi hM hx
   have B9 : i < nv := by omega
   obtain ⟨y,hy⟩ := hr.ex B9
   obtain ⟨b1,o1,q1,m1,d1,rfl,QN,GC⟩ := CC.at hr hy
   have JN := j7 y (List.mem_of_getElem? hy)
   refine HF.AZ ⟨fun _ => ⟨b1,o1,rfl,by omega,q1,m1,d1,y.v,by simpa using QN.mono hx,fun _ => RH (GC.mono Bs.mono hx) (JN.rd GC) (hs.mono hx) fun p' n' c' σ2 HN A9 => ⟨_,_,_,rfl,Fa (HN.mono Bs.mono (Ext.Cs _ _)) JN.Ed fun σ3 C5 => ⟨_,rfl,?_⟩⟩⟩,fun hh => by omega⟩
   refine (hM.mono (A9.trans C5)).put (x := y) ⟨q1,m1,d1,rfl,GC⟩ fun o hM' => ⟨AL B9 hr.big,ih (i + 1) _ (by omega) (by omega) ?_ (Ext.put (hx.trans (A9.trans C5)) pS)⟩
   rw [Aa hy,List.foldl_append]; exact hM'
theorem jf {n : Nd} {p q a px py : Option Addr} {k c m d nx cx ny cy : Nat} {x y : List El} (hs : FC 1 σ q m (n.names.map .string)) (Wz : Ab 2 CC σ px nx x) (yE : Ab 2 CC σ py ny y) (pr : ∀ e ∈ x,Ao e.ls) (kK : ∀ e ∈ y,Ao e.ls) (hlen : x.length + y.length ≤ 1000000000000)
   (h : Ig R σ ((Ca FF (E6 n x y)).map fun l => ⟨2,0,l,[]⟩)) : Spec prog 160 #[.pointer a,MZ n p k c q m d,.slice px nx cx,.slice py ny cy] σ R := by
 have Qk : x.length = nx := Wz.1
 have UL : y.length = ny := yE.1
 refine AX.start fun _ _ => JX hs Wz pr fun mx σ1 hM1 CO => ⟨_,_,rfl,JX (hs.mono CO) (yE.mono CC.mono CO) kK fun my σ2 hM2 A9 => ⟨_,_,rfl,?_⟩⟩
 have hX := CO.trans A9
 have hMx := hM1.mono A9
 replace h := h.jX hX
 let f1 : El → Bool := fun e => decide (n.op = 12) || ((C7 n y (Ed n e.ls)).isSome == decide (n.op = 11))
 let f2 : El → Bool := fun e => (C7 n x (Ed n e.ls)).isNone && decide (n.op = 12)
 have hf : E6 n x y = x.filter f1 ++ y.filter f2 := rfl
 rw [hf] at h
 have second : ∀ g i : Nat,∀ p8 n8 c8 σ',ny - i = g → i ≤ ny → AW 2 CC σ2 σ' p8 n8 c8 (x.filter f1 ++ (y.take i).filter f2) → AX.J6 R n.kind n.op n.text p k c n.width n.back n.Ec q m d n.bool n.parts 0 0 none 0 0 none 0 0 (some mx) p8 n8 c8 py ny cy ny i σ' := by
   intro g
   induction g with
   | zero =>
     intro i p8 n8 c8 σ' hg hi ho
     rw [List.take_of_length_le (by omega)] at ho
     have QG := ho.1.1
     rw [List.length_append] at QG
     have h9 := List.length_filter_le f1 x
     have TP := List.length_filter_le f2 y
     exact AX.Lw ⟨fun Aq => by omega,fun _ => EX ho (by omega) h.Ui⟩
   | succ g ih =>
     intro i p8 n8 c8 σ' hg hi ho
     have B9 : i < ny := by omega
     obtain ⟨z,hz⟩ := yE.ex B9
     obtain ⟨b1,o1,q1,m1,d1,rfl,QN,GC⟩ := CC.at yE hz
     have JN := kK z (List.mem_of_getElem? hz)
     have QG := ho.1.1
     rw [List.length_append] at QG
     have h9 := List.length_filter_le f1 x
     have TP := List.length_filter_le f2 (y.take i)
     rw [List.length_take] at TP
     have next : ∀ p9 n9 c9 σ3,AW 2 CC σ2 σ3 p9 n9 c9 (x.filter f1 ++ (y.take i).filter f2 ++ if f2 z then [z] else []) → AX.Nn R n.kind n.op n.text p k c n.width n.back n.Ec q m d n.bool n.parts 0 0 none 0 0 none 0 0 (some mx) p9 n9 c9 (aD b1 o1) ny cy ny i σ3 := fun p9 n9 c9 σ3 EB =>
       AX.WK ⟨AL B9 yE.big,ih (i + 1) _ _ _ _ (by omega) (by omega) (by rw [Ve hz,← List.append_assoc]; exact EB)⟩
     have ct := hX.trans ho.up
     refine AX.Lw ⟨fun _ => ⟨b1,o1,rfl,by omega,q1,m1,d1,z.v,by simpa using QN.mono ct,fun _ => RH (GC.mono Bs.mono ct) (JN.rd GC) (hs.mono ct) fun p' n' c' σ3 dX C5 => ⟨_,_,_,rfl,Fa (dX.mono Bs.mono (Ext.Cs _ _)) JN.Ed fun σ4 NV => ⟨_,rfl,?_⟩⟩⟩,fun hh => by omega⟩
     have Mn := ho.mono CC.mono (C5.trans NV)
     refine MS.Zc (hMx.mono (ho.up.trans (C5.trans NV))) dY (fun Ga => ⟨_,_,_,_,_,rfl,fun _ => ⟨fun _ => ⟨fun XL => fun kB ANv => ?_,fun XL => next _ _ _ _ ?_⟩,fun hh => (by cases hh)⟩⟩) fun v e he hE => ?_
     · refine AW.el Mn (GC.mono Bs.mono (hX.trans Mn.2)) (by omega) (fun p9 c9 σ5 RD _ => ⟨_,_,_,rfl,next _ _ _ _ ?_⟩) ANv
       have : f2 z = true := by
         show ((C6 (TT n x) (D8 (Ed n z.ls))).isNone && decide (n.op = 12)) = true
         rw [Ga,decide_eq_true XL]; rfl
       rw [this]; exact RD
     · have : f2 z = false := by
         show ((C6 (TT n x) (D8 (Ed n z.ls))).isNone && decide (n.op = 12)) = false
         rw [decide_eq_false XL,Bool.and_false]
       rw [this]; simpa using Mn
     · obtain ⟨p5,n5,c5,rfl,_⟩ := hE
       refine ⟨_,_,_,_,_,rfl,fun _ => ⟨fun hh => (by cases hh),fun _ => next _ _ _ _ ?_⟩⟩
       have : f2 z = false := by
         show ((C6 (TT n x) (D8 (Ed n z.ls))).isNone && decide (n.op = 12)) = false
         rw [he]; rfl
       rw [this]; simpa using Mn
 suffices H : ∀ g i : Nat,∀ p8 n8 c8 σ',nx - i = g → i ≤ nx → AW 2 CC σ2 σ' p8 n8 c8 ((x.take i).filter f1) → AX.tn R py ny cy n.kind n.op n.text p k c n.width n.back n.Ec q m d n.bool n.parts 0 0 none 0 0 none 0 0 (some mx) (some my) p8 n8 c8 px nx cx nx i σ' from H nx 0 none 0 0 σ2 rfl (Nat.zero_le _) (AW.nil (.refl _))
 intro g
 induction g with
 | zero =>
   intro i p8 n8 c8 σ' hg hi ho
   rw [List.take_of_length_le (by omega)] at ho
   exact AX.fh ⟨fun Aq => by omega,fun _ => second ny 0 p8 n8 c8 σ' rfl (Nat.zero_le _) (by simpa using ho)⟩
 | succ g ih =>
   intro i p8 n8 c8 σ' hg hi ho
   have B9 : i < nx := by omega
   obtain ⟨z,hz⟩ := Wz.ex B9
   obtain ⟨b1,o1,q1,m1,d1,rfl,QN,GC⟩ := CC.at Wz hz
   have JN := pr z (List.mem_of_getElem? hz)
   have QG := ho.1.1
   have h9 := List.length_filter_le f1 (x.take i)
   rw [List.length_take] at h9
   have next : ∀ p9 n9 c9 σ3,AW 2 CC σ2 σ3 p9 n9 c9 ((x.take i).filter f1 ++ if f1 z then [z] else []) → AX.Wi R py ny cy n.kind n.op n.text p k c n.width n.back n.Ec q m d n.bool n.parts 0 0 none 0 0 none 0 0 (some mx) (some my) p9 n9 c9 (aD b1 o1) nx cx nx i σ3 := fun p9 n9 c9 σ3 EB =>
     AX.tq ⟨AL B9 Wz.big,ih (i + 1) _ _ _ _ (by omega) (by omega) (by rw [Ve hz]; exact EB)⟩
   have ct := hX.trans ho.up
   refine AX.fh ⟨fun _ => ⟨b1,o1,rfl,by omega,q1,m1,d1,z.v,by simpa using QN.mono ct,fun _ => RH (GC.mono Bs.mono ct) (JN.rd GC) (hs.mono ct) fun p' n' c' σ3 dX C5 => ⟨_,_,_,rfl,Fa (dX.mono Bs.mono (Ext.Cs _ _)) JN.Ed fun σ4 NV => ⟨_,rfl,?_⟩⟩⟩,fun hh => by omega⟩
   have Mn := ho.mono CC.mono (C5.trans NV)
   have app : f1 z = true → ∀ il,σ4 il = none → AK prog (Builtin.append_ #[67,67] 67 #[.slice p8 n8 c8,(.slice (aD il 0) 1 1)]) (Hp.set σ4 il (.cells #[.slice q1 m1 d1,.int .u64 z.v] 71 (0,0))) (CS fun rU lz rV Ac => AX.Wi R py ny cy n.kind n.op n.text p k c n.width n.back n.Ec q m d n.bool n.parts 0 0 none 0 0 none 0 0 (some mx) (some my) rU lz rV (aD b1 o1) nx cx nx i Ac) := fun ht il ANw => by
     refine AW.el Mn (GC.mono Bs.mono (hX.trans Mn.2)) (by omega) (fun p9 c9 σ5 RD _ => ⟨_,_,_,rfl,next _ _ _ _ ?_⟩) ANw
     rw [ht]; exact RD
   have skip : f1 z = false → AX.Wi R py ny cy n.kind n.op n.text p k c n.width n.back n.Ec q m d n.bool n.parts 0 0 none 0 0 none 0 0 (some mx) (some my) p8 n8 c8 (aD b1 o1) nx cx nx i σ4 := fun ht => next _ _ _ _ (by rw [ht]; simpa using Mn)
   have e1 : f1 z = (decide (n.op = 12) || ((C6 (TT n y) (D8 (Ed n z.ls))).isSome == decide (n.op = 11))) := rfl
   refine MS.Zc ((hM2.imp fun v x hE => hE).mono (ho.up.trans (C5.trans NV))) dY (fun Ga => ⟨_,_,_,_,_,rfl,fun _ => ⟨fun XL => app ?_,fun XL => ⟨fun hh => (by cases hh),fun _ => ⟨fun gJ => skip ?_,fun gJ => app ?_⟩⟩⟩⟩) fun v e he hE => ?_
   · rw [e1,decide_eq_true XL]; rfl
   · rw [e1,decide_eq_false XL,Ga,decide_eq_true gJ]; rfl
   · rw [e1,decide_eq_false XL,Ga,decide_eq_false gJ]; rfl
   · obtain ⟨p5,n5,c5,rfl,_⟩ := hE
     refine ⟨_,_,_,_,_,rfl,fun _ => ⟨fun XL => app ?_,fun XL => ⟨fun _ => ⟨fun gJ => app ?_,fun gJ => skip ?_⟩,fun hh => (by cases hh)⟩⟩⟩
     · rw [e1,decide_eq_true XL]; rfl
     · rw [e1,decide_eq_false XL,he,decide_eq_true gJ]; rfl
     · rw [e1,decide_eq_false XL,he,decide_eq_false gJ]; rfl
end
end TwW
end
section
namespace TwW
open Go Tw Go.RowKit Go.Proofs.Tryz
section
variable {σ σ' σ0 : Hp} {R : Rr}
theorem Tq {n : Nd} {p q a px : Option Addr} {k c m d nx cx f : Nat} {cap : Array Value} {x : List El} {g : Int → Int × Bool} (Wz : Ab 2 CC σ px nx x) (pr : ∀ e ∈ x,Ao e.ls) (hlen : x.length ≤ 1000000000000) (Og : Enters prog f)
   (hC : ∀ (σ2 : Hp) (v : Int) (R' : Rr),Ext σ σ2 → R' (.returned (.tuple #[.int .u64 (g v).1,.bool (g v).2])) σ2 → Spec prog f (#[] ++ #[.int .u64 v] ++ cap) σ2 R')
   (h : Ig R σ ((Ca FF (TS n x g)).map fun l => ⟨2,0,l,[]⟩)) : Spec prog 157 #[.pointer a,MZ n p k c q m d,.slice px nx cx,.func (.func f) #[] cap] σ R := by
 have Qk : x.length = nx := Wz.1
 let f1 : El → Option El := fun x => if F6 n.op = false ∨ n.bool = true then some ⟨BF x.ls,(g x.v).1⟩ else if (g x.v).2 then some x else none
 have hf : TS n x g = x.filterMap f1 := rfl
 rw [hf] at h
 refine A6.start fun _ _ => ?_
 suffices H : ∀ gg i : Nat,∀ p8 n8 c8 σ',nx - i = gg → i ≤ nx → AW 2 CC σ σ' p8 n8 c8 ((x.take i).filterMap f1) → A6.BA R (.func (.func f) #[] cap) n.kind n.op n.text p k c n.width n.back n.Ec q m d n.bool n.parts 0 0 none 0 0 none 0 0 p8 n8 c8 px nx cx nx i σ' from H nx 0 none 0 0 σ rfl (Nat.zero_le _) (AW.nil (.refl _))
 intro gg
 induction gg with
 | zero =>
   intro i p8 n8 c8 σ' hg hi ho
   rw [List.take_of_length_le (by omega)] at ho
   have QG := ho.1.1
   have h9 := List.length_filterMap_le f1 x
   exact A6.AZ ⟨fun Aq => by omega,fun _ => EX ho (by omega) h.Ui⟩
 | succ gg ih =>
   intro i p8 n8 c8 σ' hg hi ho
   have B9 : i < nx := by omega
   obtain ⟨z,hz⟩ := Wz.ex B9
   obtain ⟨b1,o1,q1,m1,d1,rfl,QN,GC⟩ := CC.at Wz hz
   have JN := pr z (List.mem_of_getElem? hz)
   have QG := ho.1.1
   have h9 := List.length_filterMap_le f1 (x.take i)
   rw [List.length_take] at h9
   have next : ∀ tb p9 n9 c9 σ3,tb = n.bool → AW 2 CC σ σ3 p9 n9 c9 ((x.take i).filterMap f1 ++ (f1 z).toList) → A6.DV R (.func (.func f) #[] cap) n.kind n.op n.text p k c n.width n.back n.Ec q m d tb n.parts 0 0 none 0 0 none 0 0 p9 n9 c9 (aD b1 o1) nx cx nx i σ3 := fun tb p9 n9 c9 σ3 sH EB => by
     subst sH
     exact A6.Ff ⟨AL B9 Wz.big,ih (i + 1) _ _ _ _ (by omega) (by omega) (by rw [Gx hz]; exact EB)⟩
   have e1 : f1 z = if F6 n.op = false ∨ n.bool = true then some ⟨BF z.ls,(g z.v).1⟩ else if (g z.v).2 then some z else none := rfl
   refine A6.AZ ⟨fun _ => ⟨b1,o1,rfl,by omega,q1,m1,d1,z.v,by simpa using QN.mono ho.up,fun _ => ⟨f,#[],cap,rfl,Og,hC σ' z.v _ ho.up ⟨_,_,rfl,Co ⟨_,rfl,?_⟩⟩⟩⟩,fun hh => by omega⟩
   have bare : (F6 n.op = false ∨ n.bool = true) → ∀ tb,tb = n.bool → Spec prog 146 #[.slice q1 m1 d1] σ' (AA R (CS fun zu n40 zv AH => Al AH fun fM => AK prog (Builtin.append_ #[67,67] 67 #[.slice p8 n8 c8,(.slice (aD fM 0) 1 1)]) (Hp.set AH fM (.cells #[.slice zu n40 zv,.int .u64 (g z.v).1] 71 (0,0))) (CS fun tL n44 wx Ac => A6.DV R (.func (.func f) #[] cap) n.kind n.op n.text p k c n.width n.back n.Ec q m d tb n.parts 0 0 none 0 0 none 0 0 tL n44 wx (aD b1 o1) nx cx nx i Ac))) := fun hc tb sH =>
     Fb (GC.mono Bs.mono ho.up) (JN.rd GC) fun p' n' c' σ3 dX C5 => ⟨_,_,_,rfl,fun fM ABJ => AW.el (ho.mono CC.mono C5) (dX.mono Bs.mono (ho.new C5)) (by omega) (fun p9 c9 σ5 RD _ => ⟨_,_,_,rfl,next _ _ _ _ _ sH (by rw [e1,if_pos hc]; exact RD)⟩) ABJ⟩
   refine ⟨fun hcf => bare (.inl hcf) _ rfl,fun hct => ⟨fun hb => bare (.inr hb) _ hb.symm,fun hb => ⟨fun jZ => fun Ps pw => ?_,fun jZ => next _ _ _ _ _ hb.symm ?_⟩⟩⟩
   · refine AW.el ho (GC.mono Bs.mono ho.2) (by omega) (fun p9 c9 σ5 RD _ => ⟨_,_,_,rfl,next _ _ _ _ _ hb.symm ?_⟩) pw
     rw [e1,if_neg (by rw [hct,hb]; simp),if_pos jZ]; exact RD
   · rw [e1,if_neg (by rw [hct,hb]; simp),if_neg (by rw [jZ]; simp)]; simpa using ho
theorem W0 {n : Nd} {p q a px py : Option Addr} {k c m d nx cx ny cy : Nat} {x y : List El} (hs : FC 1 σ q m (n.names.map .string)) (Wz : Ab 2 CC σ px nx x) (yE : Ab 2 CC σ py ny y) (pr : ∀ e ∈ x,Ao e.ls) (kK : ∀ e ∈ y,Ao e.ls) (hlen : x.length + y.length ≤ 1000000000000)
   (h : Ig R σ (((N8 FF n x y).bind (Ca FF)).map fun l => ⟨2,0,l,[]⟩)) : Spec prog 161 #[.pointer a,MZ n p k c q m d,.slice px nx cx,.slice py ny cy] σ R := by
 have Qk : x.length = nx := Wz.1
 have UL : y.length = ny := yE.1
 let f1 : El → Option El := fun e => match C7 n y (Ed n e.ls) with
   | none => none
   | some o => if F6 n.op = false ∨ n.bool = true then some ⟨Ed n e.ls,(FF.N7 n.op e.v o.v).1⟩ else if (FF.N7 n.op e.v o.v).2 then some e else none
 have hf : N8 FF n x y = if jC n x && jC n y then some (x.filterMap f1) else none := rfl
 rw [hf] at h
 refine Av.start fun _ _ => JX hs Wz pr fun mx σ1 hM1 CO => ⟨_,_,rfl,JX (hs.mono CO) (yE.mono CC.mono CO) kK fun my σ2 hM2 A9 => ⟨_,_,rfl,fun h1 => ?_,fun h1 => ⟨fun h2 => ?_,fun h2 => ?_⟩⟩⟩
 · rw [h1] at h; exact h.no rfl _ (CO.trans A9)
 · rw [h2,Bool.and_false] at h; exact h.no rfl _ (CO.trans A9)
 rw [h1,h2] at h
 have hX := CO.trans A9
 replace h : Ig R σ2 ((Ca FF (x.filterMap f1)).map fun l => ⟨2,0,l,[]⟩) := h.jX hX
 suffices H : ∀ gg i : Nat,∀ p8 n8 c8 σ',nx - i = gg → i ≤ nx → AW 2 CC σ2 σ' p8 n8 c8 ((x.take i).filterMap f1) → Av.WJ R n.kind n.op n.text p k c n.width n.back n.Ec q m d n.bool n.parts 0 0 none 0 0 none 0 0 (some my) p8 n8 c8 px nx cx nx i σ' from H nx 0 none 0 0 σ2 rfl (Nat.zero_le _) (AW.nil (.refl _))
 intro gg
 induction gg with
 | zero =>
   intro i p8 n8 c8 σ' hg hi ho
   rw [List.take_of_length_le (by omega)] at ho
   have QG := ho.1.1
   have h9 := List.length_filterMap_le f1 x
   exact Av.Q6 ⟨fun Aq => by omega,fun _ => EX ho (by omega) h.Ui⟩
 | succ gg ih =>
   intro i p8 n8 c8 σ' hg hi ho
   have B9 : i < nx := by omega
   obtain ⟨z,hz⟩ := Wz.ex B9
   obtain ⟨b1,o1,q1,m1,d1,rfl,QN,GC⟩ := CC.at Wz hz
   have JN := pr z (List.mem_of_getElem? hz)
   have QG := ho.1.1
   have h9 := List.length_filterMap_le f1 (x.take i)
   rw [List.length_take] at h9
   have next : ∀ tb p9 n9 c9 σ3,tb = n.bool → AW 2 CC σ2 σ3 p9 n9 c9 ((x.take i).filterMap f1 ++ (f1 z).toList) → Av.Nn R n.kind n.op n.text p k c n.width n.back n.Ec q m d tb n.parts 0 0 none 0 0 none 0 0 (some my) p9 n9 c9 (aD b1 o1) nx cx nx i σ3 := fun tb p9 n9 c9 σ3 sH EB => by
     subst sH
     exact Av.WK ⟨AL B9 Wz.big,ih (i + 1) _ _ _ _ (by omega) (by omega) (by rw [Gx hz]; exact EB)⟩
   have ct := hX.trans ho.up
   refine Av.Q6 ⟨fun _ => ⟨b1,o1,rfl,by omega,q1,m1,d1,z.v,by simpa using QN.mono ct,fun _ => RH (GC.mono Bs.mono ct) (JN.rd GC) (hs.mono ct) fun p' n' c' σ3 dX C5 => ⟨_,_,_,rfl,Fa (dX.mono Bs.mono (Ext.Cs _ _)) JN.Ed fun σ4 NV => ⟨_,rfl,?_⟩⟩⟩,fun hh => by omega⟩
   have Mn := ho.mono CC.mono (C5.trans NV)
   have hrk : Dq (σ4.del p8) p' n' (Ed n z.ls) := dX.mono Bs.mono ((Ext.IC NV).trans (ho.new (C5.trans NV)))
   have e1 : f1 z = match C6 (TT n y) (D8 (Ed n z.ls)) with
     | none => none
     | some o => if F6 n.op = false ∨ n.bool = true then some ⟨Ed n z.ls,(Ii n.op z.v o.v).1⟩ else if (Ii n.op z.v o.v).2 then some z else none := rfl
   refine MS.Zc (hM2.mono (ho.up.trans (C5.trans NV))) dY (fun Ga => ⟨_,_,_,_,_,rfl,fun _ => ⟨fun _ => next _ _ _ _ _ rfl ?_,fun hh => (by cases hh)⟩⟩) fun v e he hE => ?_
   · rw [e1,Ga]; simpa using Mn
   obtain ⟨p5,n5,c5,rfl,_⟩ := hE
   rw [he] at e1
   dsimp only at e1
   refine ⟨_,_,_,_,_,rfl,fun _ => ⟨fun hh => (by cases hh),fun _ => Hl ⟨_,_,rfl,Co ⟨_,rfl,?_⟩⟩⟩⟩
   have bare : (F6 n.op = false ∨ n.bool = true) → ∀ tb,tb = n.bool → Al σ4 fun wO => AK prog (Builtin.append_ #[67,67] 67 #[.slice p8 n8 c8,(.slice (aD wO 0) 1 1)]) (Hp.set σ4 wO (.cells #[.slice p' n' c',.int .u64 (Ii n.op z.v e.v).1] 71 (0,0))) (CS fun si YE sj Fo => Av.Nn R n.kind n.op n.text p k c n.width n.back n.Ec q m d tb n.parts 0 0 none 0 0 none 0 0 (some my) si YE sj (aD b1 o1) nx cx nx i Fo) := fun hc tb sH =>
     fun fM ABJ => AW.el Mn hrk (by omega) (fun p9 c9 σ5 RD _ => ⟨_,_,_,rfl,next _ _ _ _ _ sH (by rw [e1,if_pos hc]; exact RD)⟩) ABJ
   refine ⟨fun hcf => bare (.inl hcf) _ rfl,fun hct => ⟨fun hb => bare (.inr hb) _ hb.symm,fun hb => ⟨fun jZ => fun Ps pw => ?_,fun jZ => next _ _ _ _ _ hb.symm ?_⟩⟩⟩
   · refine AW.el Mn (GC.mono Bs.mono (hX.trans Mn.2)) (by omega) (fun p9 c9 σ5 RD _ => ⟨_,_,_,rfl,next _ _ _ _ _ hb.symm ?_⟩) pw
     rw [e1,if_neg (by rw [hct,hb]; simp),if_pos jZ]; exact RD
   · rw [e1,if_neg (by rw [hct,hb]; simp),if_neg (by rw [jZ]; simp)]; simpa using Mn
end
end TwW
end
section
namespace TwW
open Go Tw Go.RowKit Go.Proofs.Tryz
theorem ABK : ∀ w,(Go.sizeOf 93).run prog w = .ok 4 w := fun w => by kernel_rfl
abbrev XP (x : Vv) (p : Option Addr) (n c : Nat) (q : Option Addr) (m d : Nat) : Array Value := #[.int .i64 x.kind,.int .u64 x.v,.slice p n c,.slice q m d]
abbrev ndC (n : Nd) (p : Option Addr) (k c : Nat) (q : Option Addr) (m d : Nat) : Array Value := #[.int .i64 n.kind,.int .i64 n.op,.string n.text,.slice p k c,.int .i64 n.width,.int .i64 n.back,.int .i64 n.Ec,.slice q m d,.bool n.bool,.int .i64 n.parts]
section
variable {σ σ' σ0 : Hp} {R : Rr}
theorem Ts {b : Nat} {c : Array Value} {v0 v1 v2 v3 : Value} {Φ : Unit → Hp → Prop} (hc : c.size = 4) (hb : σ b = some (.cells c 93 (0,0))) (h1 : ∀ u ∈ [v0,v1,v2,v3],u.oneCell' = true) (hv : (Value.agg #[v0,v1,v2,v3]).cells = #[v0,v1,v2,v3])
   (h : Φ () (σ.set b (.cells #[v0,v1,v2,v3] 93 (0,0)))) : AK prog (Instr.storeAt 93 (.pointer (some ⟨b,0,none⟩)) (.agg #[v0,v1,v2,v3])) σ Φ := by
 refine AK.store ABK hb (by rw [hv]; rfl) (by omega) (by rw [hv]; simpa using h1) ?_
 rw [hv,Te (by rw [hc]; rfl)]
 exact h
theorem Ay.GD {b : Nat} {c : List Value} {T : TypeId} (h : σ b = some (.cells c.toArray T (0,0))) : Ay σ b 0 c := Ay.of fun j v hj => by
 rw [Nat.zero_add]; exact Ad h (by simpa using hj)
theorem qA {n : Nd} {p q a l : Option Addr} {k c m d j e : Nat} {L : List Vv} {x y : Vv} (hs : FC 1 σ q m (n.names.map .string)) (hr : Ab 4 NH σ l j L) (hx : L[0]? = some x) (hy : L[1]? = some y) (hVx : jc x) (hVy : jc y) (h : Ig R σ (ZN FF n x y)) :
   Spec prog 105 #[.pointer a,MZ n p k c q m d,.slice l j e] σ R := by
 have hj : 1 < j := by have h1 : L.length = j := hr.1; have := (List.getElem?_eq_some_iff.1 hy).1; omega
 obtain ⟨b,o,px,nx,cx,qx,mx,dx,rfl,h1,h2,h3,h4,h5,h6⟩ := NH.at hr hx
 obtain ⟨_,_,py,ny,cy,qy,my,dy,he,g1,g2,g3,g4,g5,g6⟩ := NH.at hr hy
 cases he
 simp only [Nat.zero_mul,Nat.add_zero,Nat.one_mul] at h1 h2 h3 h4 g1 g2 g3 g4
 have Qk := hVx.len
 have UL := hVy.len
 have pr := fun z hz => (hVx.el z hz).1
 have kK := fun z hz => (hVy.el z hz).1
 refine DM.start fun b4 hb4 _ => ?_
 have x4 := Ext.set (o := .cells (ndC n p k c q m d) 36 (0,0)) hb4
 have c4 := Hp.AB σ b4 (.cells (ndC n p k c q m d) 36 (0,0))
 generalize ABL : σ.set b4 (.cells (ndC n p k c q m d) 36 (0,0)) = σ4 at *
 refine ⟨b,o,rfl,by omega,x.kind,x.v,px,nx,cx,qx,mx,dx,⟨x4.ld h1,x4.ld h2,x4.ld h3,x4.ld h4,trivial⟩,by omega,y.kind,y.v,py,ny,cy,qy,my,dy,⟨x4.ld g1,x4.ld g2,x4.ld g3,x4.ld g4,trivial⟩,fun b8 hb8 b9 hb9 => ?_,fun b9 hb9 b8 hb8 => ?_⟩
 focus
   have n8 : b8 ≠ b9 := fun e => by rw [e,Hp.AB] at hb9; cases hb9
   have n9 := (Hp.AS hb9).2
   have nb : ∀ k o,σ4 k = some o → k ≠ b8 ∧ k ≠ b9 := fun k o hk => ⟨fun e => (by rw [e,hb8] at hk; cases hk),fun e => (by rw [e,n9] at hk; cases hk)⟩
   refine Ts rfl (by rw [Hp.AI n8]; exact Hp.AB _ _ _) (by simp [Value.oneCell']) rfl ?_
   refine ⟨fun kb HZ u hu => ?_,Ts rfl (by rw [Hp.AI (Ne.symm n8)]; exact Hp.AB _ _ _) (by simp [Value.oneCell']) rfl ?_⟩
   · rw [List.mem_singleton] at HZ
     subst HZ
     have bB : ∃ u,σ4 kb = some u := by
       have := x4.ld h1
       unfold Hp.ld at this
       cases hq : σ4 kb with
       | none => rw [hq] at this; cases this
       | some u => exact ⟨u,rfl⟩
     obtain ⟨u',CP⟩ := bB
     rw [Hp.AI (nb _ _ CP).1]; exact hu
   have F8 : ((((σ4.set b8 (.cells #[.int .i64 0,.int .u64 0,.slice none 0 0,.slice none 0 0] 93 (0,0))).set b9 (.cells #[.int .i64 0,.int .u64 0,.slice none 0 0,.slice none 0 0] 93 (0,0))).set b8 (.cells (XP x px nx cx qx mx dx) 93 (0,0))).set b9 (.cells (XP y py ny cy qy my dy) 93 (0,0))) b8 = some (.cells (XP x px nx cx qx mx dx) 93 (0,0)) := by rw [Hp.AI n8,Hp.AB]
   have F9 := Hp.AB (((σ4.set b8 (.cells #[.int .i64 0,.int .u64 0,.slice none 0 0,.slice none 0 0] 93 (0,0))).set b9 (.cells #[.int .i64 0,.int .u64 0,.slice none 0 0,.slice none 0 0] 93 (0,0))).set b8 (.cells (XP x px nx cx qx mx dx) 93 (0,0))) b9 (.cells (XP y py ny cy qy my dy) 93 (0,0))
   have X2 : Ext σ4 ((((σ4.set b8 (.cells #[.int .i64 0,.int .u64 0,.slice none 0 0,.slice none 0 0] 93 (0,0))).set b9 (.cells #[.int .i64 0,.int .u64 0,.slice none 0 0,.slice none 0 0] 93 (0,0))).set b8 (.cells (XP x px nx cx qx mx dx) 93 (0,0))).set b9 (.cells (XP y py ny cy qy my dy) 93 (0,0))) := fun k o hk => by
     obtain ⟨a1,a2⟩ := nb k o hk
     rw [Hp.AI a2,Hp.AI a1,Hp.AI a2,Hp.AI a1]; exact hk
   generalize ((((σ4.set b8 (.cells #[.int .i64 0,.int .u64 0,.slice none 0 0,.slice none 0 0] 93 (0,0))).set b9 (.cells #[.int .i64 0,.int .u64 0,.slice none 0 0,.slice none 0 0] 93 (0,0))).set b8 (.cells (XP x px nx cx qx mx dx) 93 (0,0))).set b9 (.cells (XP y py ny cy qy my dy) 93 (0,0))) = y2 at *
 rotate_left
 focus
   have n8 : b9 ≠ b8 := fun e => by rw [e,Hp.AB] at hb8; cases hb8
   have n9 := (Hp.AS hb8).2
   have nb : ∀ k o,σ4 k = some o → k ≠ b8 ∧ k ≠ b9 := fun k o hk => ⟨fun e => (by rw [e,n9] at hk; cases hk),fun e => (by rw [e,hb9] at hk; cases hk)⟩
   refine Ts rfl (Hp.AB _ _ _) (by simp [Value.oneCell']) rfl ?_
   refine ⟨fun kb HZ u hu => ?_,Ts rfl (by rw [Hp.AI n8,Hp.AI n8]; exact Hp.AB _ _ _) (by simp [Value.oneCell']) rfl ?_⟩
   · rw [List.mem_singleton] at HZ
     subst HZ
     have bB : ∃ u,σ4 kb = some u := by
       have := x4.ld h1
       unfold Hp.ld at this
       cases hq : σ4 kb with
       | none => rw [hq] at this; cases this
       | some u => exact ⟨u,rfl⟩
     obtain ⟨u',CP⟩ := bB
     rw [Hp.AI (nb _ _ CP).1]; exact hu
   have F8 : ((((σ4.set b9 (.cells #[.int .i64 0,.int .u64 0,.slice none 0 0,.slice none 0 0] 93 (0,0))).set b8 (.cells #[.int .i64 0,.int .u64 0,.slice none 0 0,.slice none 0 0] 93 (0,0))).set b8 (.cells (XP x px nx cx qx mx dx) 93 (0,0))).set b9 (.cells (XP y py ny cy qy my dy) 93 (0,0))) b8 = some (.cells (XP x px nx cx qx mx dx) 93 (0,0)) := by rw [Hp.AI (Ne.symm n8),Hp.AB]
   have F9 := Hp.AB (((σ4.set b9 (.cells #[.int .i64 0,.int .u64 0,.slice none 0 0,.slice none 0 0] 93 (0,0))).set b8 (.cells #[.int .i64 0,.int .u64 0,.slice none 0 0,.slice none 0 0] 93 (0,0))).set b8 (.cells (XP x px nx cx qx mx dx) 93 (0,0))) b9 (.cells (XP y py ny cy qy my dy) 93 (0,0))
   have X2 : Ext σ4 ((((σ4.set b9 (.cells #[.int .i64 0,.int .u64 0,.slice none 0 0,.slice none 0 0] 93 (0,0))).set b8 (.cells #[.int .i64 0,.int .u64 0,.slice none 0 0,.slice none 0 0] 93 (0,0))).set b8 (.cells (XP x px nx cx qx mx dx) 93 (0,0))).set b9 (.cells (XP y py ny cy qy my dy) 93 (0,0))) := fun k o hk => by
     obtain ⟨a1,a2⟩ := nb k o hk
     rw [Hp.AI a2,Hp.AI a1,Hp.AI a1,Hp.AI a2]; exact hk
   generalize ((((σ4.set b9 (.cells #[.int .i64 0,.int .u64 0,.slice none 0 0,.slice none 0 0] 93 (0,0))).set b8 (.cells #[.int .i64 0,.int .u64 0,.slice none 0 0,.slice none 0 0] 93 (0,0))).set b8 (.cells (XP x px nx cx qx mx dx) 93 (0,0))).set b9 (.cells (XP y py ny cy qy my dy) 93 (0,0))) = y2 at *
 all_goals
   have F4 := X2 _ _ c4
   have X := x4.trans X2
   have F4' := Ay.GD (c := [.int .i64 n.kind,.int .i64 n.op,.string n.text,.slice p k c,.int .i64 n.width,.int .i64 n.back,.int .i64 n.Ec,.slice q m d,.bool n.bool,.int .i64 n.parts]) F4
   have hn := h.jX X
   unfold ZN at hn
   refine ⟨x.kind,Ad F8 rfl,fun qB => ⟨y.kind,Ad F9 rfl,fun yF => ?_,fun yF => ?_⟩,fun qB => ?_⟩
   · rw [if_pos ⟨qB,yF⟩] at hn
     exact ⟨_,_,_,_,_,_,_,_,_,_,_,_,_,_,F4',x.v,Ad F8 rfl,y.v,Ad F9 rfl,Hl ⟨_,_,rfl,hn.ok _ y2 none 0 0 none 0 0 rfl (.refl _) Ab.nil Ab.nil (Nat.le_refl _) (Nat.le_refl _)⟩⟩
   · rw [if_neg (fun hh => yF hh.2),if_pos qB] at hn
     refine ⟨x.kind,Ad F8 rfl,fun _ => ⟨_,_,_,_,_,_,_,_,_,_,_,_,_,_,F4',py,ny,cy,Ad F9 rfl,Tq (g := fun v => Ii n.op x.v v) (g5.mono CC.mono X) kK (by omega) Da.en (fun σ2 v R' A9 MD => ?_) hn.Ui⟩,fun hh => absurd qB hh⟩
     exact Da.start ⟨_,_,_,_,_,_,_,_,_,_,_,_,_,_,F4'.mono A9,x.v,Ad (A9 _ _ F8) rfl,Hl ⟨_,_,rfl,MD⟩⟩
   · rw [if_neg (fun hh => qB hh.1),if_neg qB] at hn
     refine ⟨x.kind,Ad F8 rfl,fun hh => absurd hh qB,fun _ => ⟨y.kind,Ad F9 rfl,fun yF => ?_,fun yF => ⟨n.op,Ad F4 rfl,QC ⟨_,rfl,fun Cj => ?_,fun Cj => ?_⟩⟩⟩⟩
     · rw [if_pos yF] at hn
       refine ⟨_,_,_,_,_,_,_,_,_,_,_,_,_,_,F4',px,nx,cx,Ad F8 rfl,Tq (g := fun v => Ii n.op v y.v) (h5.mono CC.mono X) pr (by omega) DT.en (fun σ2 v R' A9 MD => ?_) hn.Ui⟩
       exact DT.start ⟨_,_,_,_,_,_,_,_,_,_,_,_,_,_,F4'.mono A9,y.v,Ad (A9 _ _ F9) rfl,Hl ⟨_,_,rfl,MD⟩⟩
     · rw [if_neg yF,if_pos (of_decide_eq_true Cj)] at hn
       exact ⟨_,_,_,_,_,_,_,_,_,_,_,_,_,_,F4',px,nx,cx,Ad F8 rfl,py,ny,cy,Ad F9 rfl,jf (hs.mono X) (h5.mono CC.mono X) (g5.mono CC.mono X) pr kK (by omega) hn.Ui⟩
     · rw [if_neg yF,if_neg (of_decide_eq_false Cj)] at hn
       exact ⟨_,_,_,_,_,_,_,_,_,_,_,_,_,_,F4',px,nx,cx,Ad F8 rfl,py,ny,cy,Ad F9 rfl,W0 (hs.mono X) (h5.mono CC.mono X) (g5.mono CC.mono X) pr kK (by omega) hn.Ui⟩
end
end TwW
end
