/-
  Part 4 of the proof that the law EvalFiltersUptoCardSaid of the given program answers true for every input of the given statement; the input reads behind the call as it did. (The texts: packed from 29 texts. Names are shortened by the packing program, for the bound on size.)
-/
import Derived.Test.YtlmhidjgplomgaaGreatDoorA3
import Derived.Shelf.Strings.Search3
import Derived.Shelf.Strings.Split
import Derived.Test.YtlmhidjgplomgaaGreatDoorProg
import Derived.Lib.IndexMore
import Derived.Shelf.SlSortCmp.NoneTotal
import Derived.Shelf.SlGeneric
import Derived.Ground.SlsfProg
set_option linter.all false
section
namespace TwW
open Go Tw Go.RowKit Go.Proofs.Tryz
def E3 (x : Nat) : Bool := !(FloatKind.f64.format.order x x == some .eq)
def toF (x : Nat) : Nat := if E3 x then 9221120237041090560 else x
theorem TO (d : Ieee.Datum) : d.order d = if d.isNaN then none else some .eq := by
 cases d with
 | nan => rfl
 | infinity s => cases s <;> rfl
 | number s m i => simp [Ieee.Datum.order,Ieee.Datum.isNaN,Std.ReflCmp.compare_self]
theorem LR (x : Nat) : E3 x = true ↔ 9218868437227405312 < x % 9223372036854775808 := by
 have h1 : E3 x = (Ieee.double.read x).isNaN := by
   show (!((Ieee.double.read x).order (Ieee.double.read x) == some .eq)) = _
   rw [TO]
   cases (Ieee.double.read x).isNaN <;> rfl
 rw [h1]
 have e1 : Ieee.double.signWeight = 9223372036854775808 := by decide
 have e2 : Ieee.double.binade = 4503599627370496 := by decide
 have e3 : Ieee.double.infRung = 9218868437227405312 := by decide
 unfold Ieee.Format.read
 simp only [e1,e2,e3]
 split
 · simp [Ieee.Datum.isNaN]; omega
 · split
   · simp [Ieee.Datum.isNaN]; omega
   · split
     · simp [Ieee.Datum.isNaN]; omega
     · simp [Ieee.Datum.isNaN]; omega
theorem ZK : E3 9221120237041090560 = true := (LR _).2 (by decide)
theorem cW (a b t : Nat) : E3 (Question.cut (.nanBits .f64 a b) t) = true := by
 rw [LR]
 show 9218868437227405312 < ((t % 2) * 9223372036854775808 + 9218868437227405312 + 1 + (t / 2) % 4503599627370495) % 9223372036854775808
 have h1 := Nat.mod_lt (t / 2) (show 0 < 4503599627370495 by decide)
 generalize (t / 2) % 4503599627370495 = r at *
 rcases Nat.mod_two_eq_zero_or_one t with h | h <;> rw [h] <;> omega
theorem toF_drawn (a b t : Nat) : toF (Question.cut (.nanBits .f64 a b) t) = 9221120237041090560 := by unfold toF; rw [cW]; rfl
def fAr (op : Int) (a b : Nat) : Option Nat := if op = 1 then Ieee.double.add a b else if op = 2 then Ieee.double.sub a b else if op = 3 then Ieee.double.mul a b else Ieee.double.div a b
def AHU : Option Nat → Nat
 | some r => toF r
 | none => 9221120237041090560
def AM5 (a b : Nat) : Option Nat → Sem Value
 | some r => pure (.float .f64 r)
 | none => do pure (.float .f64 (← choose (.nanBits .f64 a b)))
def Wk (op : Int) (a b : Nat) : Nat := AHU (fAr op a b)
def fCm (op : Int) (a b : Nat) : Bool :=
 let c := Ieee.double.order a b
 if op = 5 then c == some .eq else if op = 6 then c != some .eq else if op = 7 then c == some .lt else if op = 8 then c == some .lt || c == some .eq else if op = 9 then c == some .gt else if op = 10 then c == some .gt || c == some .eq else false
section
variable [E5] {σ : Hp} {R : Rr}
theorem OB {b : Nat} : YN prog 45 #[.float .f64 b] σ (.int .u64 b) := fun w _ => by
 rw [run_callFunc_extern Go.Proofs.Tryz.func45 (by kernel_rfl) (by kernel_rfl) (by kernel_rfl) (e := Extern.MathFloatBits.float64bits) (by kernel_rfl)]
 rfl
theorem cX {x : Int} : YN prog 22 #[.int .u64 x] σ (.float .f64 x.toNat) := fun w _ => by
 rw [run_callFunc_extern Go.Proofs.Tryz.func22 (by kernel_rfl) (by kernel_rfl) (by kernel_rfl) (e := Extern.MathFloatBits.float64frombits) (by kernel_rfl)]
 rfl
theorem cY {x : Nat} (h : R (.returned (.bool (E3 x))) σ) : Spec prog 216 #[.float .f64 x] σ R :=
 R6.start ⟨E3 x,fun w _ => rfl,h⟩
theorem Gd {x : Int} (h : R (.returned (.float .f64 x.toNat)) σ) : Spec prog 182 #[.int .u64 x] σ R :=
 ej.start (.y cX ⟨_,rfl,h⟩)
theorem Ge {x : Nat} (h : R (.returned (.int .u64 (toF x : Nat))) σ) : Spec prog 174 #[.float .f64 x] σ R := by
 refine fK.start (cY ⟨_,rfl,fun ht => ?_,fun hf => .y OB ⟨_,rfl,?_⟩⟩)
 · rw [show toF x = 9221120237041090560 by unfold toF; rw [ht]; rfl] at h; exact h
 · rw [show toF x = x by unfold toF; rw [hf]; rfl] at h; exact h
def cZ (x : Int) : Int := (toF x.toNat : Nat)
theorem F5 {x : Int} (h : R (.returned (.int .u64 (cZ x))) σ) : Spec prog 186 #[.int .u64 x] σ R :=
 P1.start (Gd ⟨_,rfl,Ge ⟨_,rfl,h⟩⟩)
theorem oS {m : Sem Value} {q : Question} {f : Nat → Value} {Φ : Value → Hp → Prop} (hm : ∀ w,m.run prog w = .ok (f (q.cut (w.tape w.drawn q))) { w with drawn := w.drawn + 1 }) (h : ∀ t,Φ (f (q.cut t)) σ) : AK prog m σ Φ := fun w F hs hF =>
 ⟨_,_,σ,hm w,h _,⟨fun b o hb => hs b o hb,fun b hb => ⟨(hF b hb).2,rfl⟩,(Co.same rfl rfl rfl).drew,rfl,Nat.le_refl _⟩⟩
theorem OC {m : Sem Value} {v : Value} {Φ : Value → Hp → Prop} (hm : ∀ w,m.run prog w = .ok v w) (h : Φ v σ) : AK prog m σ Φ := fun w F hs hF =>
 ⟨_,_,σ,hm w,h,⟨hs,fun b hb => ⟨(hF b hb).2,rfl⟩,.same rfl rfl rfl,rfl,Nat.le_refl _⟩⟩
theorem Lz {op : BinOp} {a b : Nat} {Φ : Value → Hp → Prop} (r : Option Nat) (hr : ∀ w,(Go.binOp op 51 (.float .f64 a) (.float .f64 b)).run prog w = (AM5 a b r).run prog w)
   (h : ∀ x : Nat,toF x = AHU r → Φ (.float .f64 x) σ) : AK prog (Go.binOp op 51 (.float .f64 a) (.float .f64 b)) σ Φ := by
 cases r with
 | some r => exact OC (v := .float .f64 r) (fun w => (hr w).trans rfl) (h r rfl)
 | none => exact oS (q := .nanBits .f64 a b) (f := fun x => .float .f64 x) (fun w => (hr w).trans rfl) (fun t => h _ (toF_drawn a b t))
theorem RC {a b : Nat} {Φ : Value → Hp → Prop} (h : ∀ x : Nat,toF x = Wk 1 a b → Φ (.float .f64 x) σ) : AK prog (Go.binOp .add 51 (.float .f64 a) (.float .f64 b)) σ Φ :=
 Lz (Ieee.double.add a b) (fun w => by refine (show _ = (Op.floatArith .add .f64 a b).run prog w from rfl).trans ?_; unfold Op.floatArith; simp only [FloatKind.format]; cases Ieee.double.add a b <;> rfl) h
theorem tX {a b : Nat} {Φ : Value → Hp → Prop} (h : ∀ x : Nat,toF x = Wk 2 a b → Φ (.float .f64 x) σ) : AK prog (Go.binOp .sub 51 (.float .f64 a) (.float .f64 b)) σ Φ :=
 Lz (Ieee.double.sub a b) (fun w => by refine (show _ = (Op.floatArith .sub .f64 a b).run prog w from rfl).trans ?_; unfold Op.floatArith; simp only [FloatKind.format]; cases Ieee.double.sub a b <;> rfl) h
theorem OD {a b : Nat} {Φ : Value → Hp → Prop} (h : ∀ x : Nat,toF x = Wk 3 a b → Φ (.float .f64 x) σ) : AK prog (Go.binOp .mul 51 (.float .f64 a) (.float .f64 b)) σ Φ :=
 Lz (Ieee.double.mul a b) (fun w => by refine (show _ = (Op.floatArith .mul .f64 a b).run prog w from rfl).trans ?_; unfold Op.floatArith; simp only [FloatKind.format]; cases Ieee.double.mul a b <;> rfl) h
theorem fV {a b : Nat} {Φ : Value → Hp → Prop} (h : ∀ x : Nat,toF x = Wk 4 a b → Φ (.float .f64 x) σ) : AK prog (Go.binOp .quo 51 (.float .f64 a) (.float .f64 b)) σ Φ :=
 Lz (Ieee.double.div a b) (fun w => by refine (show _ = (Op.floatArith .quo .f64 a b).run prog w from rfl).trans ?_; unfold Op.floatArith; simp only [FloatKind.format]; cases Ieee.double.div a b <;> rfl) h
def RD (op a b : Int) : Int := (Wk op a.toNat b.toNat : Nat)
theorem JQ {op a b : Int} (h : R (.returned (if 1 ≤ op ∧ op ≤ 4 then .tuple #[.int .u64 (RD op a b),.bool true] else .tuple #[.int .u64 0,.bool false])) σ) : Spec prog 203 #[.int .i64 op,.int .u64 a,.int .u64 b] σ R := by
 refine S4.start (Gd ⟨_,rfl,Gd ⟨_,rfl,fun h1 => RC fun x hx => ⟨_,rfl,Ge ⟨_,rfl,?_⟩⟩,fun h1 => ⟨fun h2 => tX fun x hx => ⟨_,rfl,Ge ⟨_,rfl,?_⟩⟩,fun h2 => ⟨fun h3 => OD fun x hx => ⟨_,rfl,Ge ⟨_,rfl,?_⟩⟩,fun h3 => ⟨fun h4 => fV fun x hx => ⟨_,rfl,Ge ⟨_,rfl,?_⟩⟩,fun h4 => ?_⟩⟩⟩⟩⟩)
 · subst h1; rw [hx]; exact h
 · subst h2; rw [hx]; exact h
 · subst h3; rw [hx]; exact h
 · subst h4; rw [hx]; exact h
 · rw [if_neg (by omega)] at h; exact h
end
end TwW
end
section
namespace TwW
open Go Tw Go.RowKit Go.Proofs.Tryz
section
variable [E5] {σ : Hp} {R : Rr}
def NA (op a b : Int) : Bool := fCm op a.toNat b.toNat
theorem JR {op a b : Int} (h : R (.returned (.tuple #[.bool (NA op a b),.bool (decide (5 ≤ op ∧ op ≤ 10))])) σ) : Spec prog 204 #[.int .i64 op,.int .u64 a,.int .u64 b] σ R := by
 have fin : ∀ {k : Int} {t : Bool},op = k → 5 ≤ k → k ≤ 10 → fCm k a.toNat b.toNat = t → R (.returned (.tuple #[.bool t,.bool true])) σ := fun hk h5 TJ ht => by
   subst hk
   rw [show NA op a b = fCm op a.toNat b.toNat from rfl,ht,show decide (5 ≤ op ∧ op ≤ 10) = true from decide_eq_true ⟨h5,TJ⟩] at h
   exact h
 refine N2.start (Gd ⟨_,rfl,Gd ⟨_,rfl,
   fun h1 => ⟨_,fun w _ => rfl,fin h1 (by decide) (by decide) rfl⟩,fun h1 =>
   ⟨fun h2 => ⟨_,fun w _ => rfl,fin h2 (by decide) (by decide) rfl⟩,fun h2 =>
   ⟨fun h3 => ⟨_,fun w _ => rfl,fin h3 (by decide) (by decide) rfl⟩,fun h3 =>
   ⟨fun h4 => ⟨_,fun w _ => rfl,fin h4 (by decide) (by decide) rfl⟩,fun h4 =>
   ⟨fun h5 => ⟨_,fun w _ => rfl,fin h5 (by decide) (by decide) rfl⟩,fun h5 =>
   ⟨fun h6 => ⟨_,fun w _ => rfl,fin h6 (by decide) (by decide) rfl⟩,fun h6 => ?_⟩⟩⟩⟩⟩⟩⟩)
 rw [show decide (5 ≤ op ∧ op ≤ 10) = false from decide_eq_false (by omega),show NA op a b = false by unfold NA fCm; simp only [h1,h2,h3,h4,h5,h6,if_false]] at h
 exact h
def Wl (x : Int) : Int := (toF (Go.bits .andNot .u64 x 9223372036854775808).toNat : Nat)
theorem oT {x : Int} (hx : 0 ≤ x) (h : R (.returned (.int .u64 (Wl x))) σ) : Spec prog 144 #[.int .u64 x] σ R := by
 refine N0.start (Gd ⟨_,rfl,YB.start (.y OB ⟨_,rfl,fun x5 h5 => .y cX ⟨_,rfl,_,rfl,Ge ⟨_,rfl,?_⟩⟩⟩)⟩)
 rw [show Wl x = (toF x5.toNat : Nat) by unfold Wl; rw [h5,Int.toNat_of_nonneg hx]] at h
 exact h
def LU (x : Nat) : Nat := match Ieee.double.read x with
 | .nan _ _ => 9221120237041090560
 | d => toF (Ieee.double.write (d.integral .down))
def NB (x : Int) : Int := (LU x.toNat : Nat)
theorem L9 (x : Nat) : E3 x = (Ieee.double.read x).isNaN := by
 show (!((Ieee.double.read x).order (Ieee.double.read x) == some .eq)) = _
 rw [TO]
 cases (Ieee.double.read x).isNaN <;> rfl
theorem ca (s : Bool) (t : Nat) : E3 (Ieee.double.write (.nan s (Ieee.double.quiet t))) = true := by
 rw [LR]
 have e1 : Ieee.double.signWeight = 9223372036854775808 := by decide
 have e2 : Ieee.double.binade = 4503599627370496 := by decide
 have e3 : Ieee.double.infRung = 9218868437227405312 := by decide
 have hp : (Ieee.double.quiet t % 4503599627370496).testBit 51 = true := by
   rw [show 4503599627370496 = 2 ^ 52 from rfl,Nat.testBit_mod_two_pow]
   show (decide (51 < 52) && (t ||| 2 ^ 51).testBit 51) = true
   rw [Nat.testBit_or,Nat.testBit_two_pow_self]
   simp
 have hp0 : 0 < Ieee.double.quiet t % 4503599627370496 := by
   apply Nat.pos_of_ne_zero
   intro h0
   rw [h0] at hp
   simp at hp
 have Ap := Nat.mod_lt (Ieee.double.quiet t) (show 0 < 4503599627370496 by decide)
 show 9218868437227405312 < Ieee.double.word s (Ieee.double.infRung + Ieee.double.quiet t % Ieee.double.binade) % 9223372036854775808
 unfold Ieee.Format.word
 rw [e1,e2,e3]
 generalize Ieee.double.quiet t % 4503599627370496 = p at *
 cases s
 · rw [if_neg (by decide)]; omega
 · rw [if_pos rfl]; omega
def flo (x : Nat) : Sem Value := match Ieee.double.read x with
 | .nan s t => if Ieee.double.quiet t = t then pure (.float .f64 x) else do
   let kept ← choose (.extern "math.Floor,Ceil,Trunc,RoundToEven.signallingNaN kept" 2)
   pure (.float .f64 (if kept == 1 then x else Ieee.double.write (.nan s (Ieee.double.quiet t))))
 | d => pure (.float .f64 (Ieee.double.write (d.integral .down)))
theorem oU {x : Nat} {Φ : Value → Hp → Prop} (h : ∀ y : Nat,toF y = LU x → Φ (.float .f64 y) σ) : EN prog 222 #[.float .f64 x] σ Φ := by
 have Cp : ∀ w,(callFunc 222 #[.float .f64 x]).run prog w = ((flo x).run prog w).andThen fun v w' => .ok (.value v) w' := fun w => by
   rw [run_callFunc_extern Go.Proofs.Tryz.func222 (by kernel_rfl) (by kernel_rfl) (by kernel_rfl) (e := Extern.MathFloor.toIntegral "math.archFloor" .down) (by kernel_rfl)]
   rfl
 have same : ∀ y,flo x = pure (.float .f64 y) → toF y = LU x → EN prog 222 #[.float .f64 x] σ Φ := fun y hy hf => .y (v := .float .f64 y) (fun w _ => by rw [Cp,hy]; rfl) (h y hf)
 cases hd : Ieee.double.read x with
 | number s m i => exact same _ (by unfold flo; rw [hd]) (by unfold LU; rw [hd])
 | infinity s => exact same _ (by unfold flo; rw [hd]) (by unfold LU; rw [hd])
 | nan s t =>
   have hx : E3 x = true := by rw [L9,hd]; rfl
   have hn : LU x = 9221120237041090560 := by unfold LU; rw [hd]
   have e1 : toF x = 9221120237041090560 := by unfold toF; rw [hx]; rfl
   by_cases hq : Ieee.double.quiet t = t
   · exact same x (by unfold flo; rw [hd]; simp only [hq,if_true]) (by rw [e1,hn])
   · intro w F hs hF
     refine ⟨.float .f64 (if (Question.cut (.extern "math.Floor,Ceil,Trunc,RoundToEven.signallingNaN kept" 2) (w.tape w.drawn (.extern "math.Floor,Ceil,Trunc,RoundToEven.signallingNaN kept" 2))) == 1 then x else Ieee.double.write (.nan s (Ieee.double.quiet t))),{ w with drawn := w.drawn + 1 },σ,?_,?_,⟨fun b o hb => hs b o hb,fun b hb => ⟨(hF b hb).2,rfl⟩,(Co.same rfl rfl rfl).drew,rfl,Nat.le_refl _⟩⟩
     · rw [Cp]
       unfold flo
       rw [hd]
       simp only [hq,if_false]
       rfl
     · refine h _ ?_
       rw [hn]
       split
       · exact e1
       · unfold toF; rw [ca]; rfl
theorem cb {x : Int} (h : R (.returned (.int .u64 (NB x))) σ) : Spec prog 145 #[.int .u64 x] σ R :=
 JI.start (Gd ⟨_,rfl,TF.start (oU fun y hy => ⟨_,rfl,_,rfl,Ge ⟨_,rfl,by rw [hy]; exact h⟩⟩)⟩)
def BA (n : Int) : Int := (FloatKind.f64.nearest n : Nat)
theorem JS {n : Int} (h : R (.returned (.int .u64 (BA n))) σ) : Spec prog 143 #[.int .i64 n] σ R :=
 TE.start (OC (v := .float .f64 (FloatKind.f64.nearest n)) (fun w => by kernel_rfl) ⟨_,rfl,.y OB ⟨_,rfl,h⟩⟩)
theorem cd {b : Bool} (h : R (.returned (.int .u64 (if b then BA 1 else BA 0))) σ) : Spec prog 205 #[.bool b] σ R :=
 S5.start ⟨fun ht => JS ⟨_,rfl,by rw [ht] at h; exact h⟩,fun hf => JS ⟨_,rfl,by rw [hf] at h; exact h⟩⟩
theorem ZL {a b : Int} (h : R (.returned (.int .u64 (RD 1 a b))) σ) : Spec prog 201 #[.int .u64 a,.int .u64 b] σ R := eval_add.start (JQ ⟨_,_,rfl,h⟩)
theorem ZM {a b : Int} (h : R (.returned (.int .u64 (RD 2 a b))) σ) : Spec prog 190 #[.int .u64 a,.int .u64 b] σ R := Yr.start (JQ ⟨_,_,rfl,h⟩)
theorem ZN {a b : Int} (h : R (.returned (.int .u64 (RD 4 a b))) σ) : Spec prog 194 #[.int .u64 a,.int .u64 b] σ R := YM.start (JQ ⟨_,_,rfl,h⟩)
theorem oV {a : Int} (h : R (.returned (.bool (decide (cZ a = 9221120237041090560)))) σ) : Spec prog 229 #[.int .u64 a] σ R := YO.start (F5 ⟨_,rfl,h⟩)
def oW (x : Int) : Int := cZ (Go.bits .xor .u64 x 9223372036854775808)
theorem QC {x : Int} (h : R (.returned (.int .u64 (oW x))) σ) : Spec prog 162 #[.int .u64 x] σ R := P6.start fun x4 h4 => F5 ⟨_,rfl,by rw [h4]; exact h⟩
end
end TwW
end
section
namespace TwW
open Go Tw Go.RowKit Go.Proofs.Tryz
section
variable [E5] {σ : Hp} {R : Rr}
def UU : List Int → Int
 | [] => 0
 | v :: l => l.foldl (RD 1) (cZ v)
theorem TP {p : Option Addr} {n c : Nat} {vs : List Int} (hr : FH .u64 σ p n vs) (h0 : 0 < n) (hc : n ≤ c) (h : R (.returned (.int .u64 (UU vs))) σ) : Spec prog 151 #[.slice p n c] σ R := by
 have hl : vs.length = n := hr.1
 obtain ⟨v,hv⟩ := hr.ex h0
 obtain ⟨b,o,rfl,Du⟩ := FH.at hr hv
 refine Fy.start ⟨b,o,rfl,by omega,v,by simpa using Du,F5 ⟨_,rfl,by omega,?_⟩⟩
 have hs : FH .u64 σ (Ip (aD b o) 1 c 1) (n - 1) ((vs.drop 1).take (n - 1)) := Ae.sub hr (by decide) (by omega) hc
 have hd : (vs.drop 1).take (n - 1) = vs.tail := by rw [List.drop_one,List.take_of_length_le (by rw [List.length_tail]; omega)]
 rw [hd] at hs
 have eR : vs = v :: vs.tail := by
   cases vs with
   | nil => cases hv
   | cons a l => simp only [List.getElem?_cons_zero,Option.some.injEq] at hv; rw [hv]; rfl
 rw [eR] at h
 change R (.returned (.int .u64 (vs.tail.foldl (RD 1) (cZ v)))) σ at h
 generalize Ip (aD b o) 1 c 1 = q at *
 suffices H : ∀ g k : Nat,∀ (q' : Option Addr) (a : Int),(0 < n - 1 → q' = q) → n - 1 - k = g → k ≤ n - 1 → vs.tail.foldl (RD 1) (cZ v) = (vs.tail.drop k).foldl (RD 1) a → Fy.A7 R a q (n - 1) (c - 1) ((n - 1 : Nat) : Int) k σ from H (n - 1) 0 q (cZ v) (fun _ => rfl) (by omega) (by omega) rfl
 intro g
 induction g with
 | zero =>
   intro k q' a _ hg hk he
   refine Fy.Aa ⟨fun Ap => by omega,fun _ => ?_⟩
   rw [List.drop_eq_nil_of_le (by rw [List.length_tail]; omega)] at he
   rw [he] at h; exact h
 | succ g ih =>
   intro k q' a hq hg hk he
   obtain ⟨x,hx⟩ := hs.ex (k := k) (by omega)
   obtain ⟨b',o',rfl,Qk⟩ := FH.at hs hx
   rw [A3 hx] at he
   refine Fy.Aa ⟨fun _ => ⟨b',o',rfl,by omega,x,by simpa using Qk,ZL ⟨_,rfl,AL (by omega : k < n - 1) hs.big,ih (k + 1) _ _ (fun _ => rfl) (by omega) (by omega) he⟩⟩,fun hh => by omega⟩
theorem NC {p : Option Addr} {n c : Nat} (h : R (.returned (.int .u64 (BA n))) σ) : Spec prog 155 #[.slice p n c] σ R :=
 G2.start (JS ⟨_,rfl,h⟩)
theorem OE {p : Option Addr} {n c : Nat} {vs : List Int} (hr : FH .u64 σ p n vs) (h0 : 0 < n) (hc : n ≤ c) (h : R (.returned (.int .u64 (RD 4 (UU vs) (BA n)))) σ) : Spec prog 154 #[.slice p n c] σ R :=
 Eu.start (TP hr h0 hc ⟨_,rfl,NC ⟨_,rfl,ZN ⟨_,rfl,h⟩⟩⟩)
def ZO (op : Int) (out v : Int) : Int := if NA op v out = true ∨ cZ out = 9221120237041090560 then v else out
def LV (op : Int) : List Int → Int
 | [] => 0
 | v :: l => cZ (l.foldl (ZO op) v)
theorem VJ {op : Int} {p : Option Addr} {n c : Nat} {vs : List Int} (hr : FH .u64 σ p n vs) (h0 : 0 < n) (hc : n ≤ c) (h : R (.returned (.int .u64 (LV op vs))) σ) : Spec prog 202 #[.int .i64 op,.slice p n c] σ R := by
 have hl : vs.length = n := hr.1
 obtain ⟨v,hv⟩ := hr.ex h0
 obtain ⟨b,o,rfl,Du⟩ := FH.at hr hv
 refine FR.start ⟨b,o,rfl,by omega,v,by simpa using Du,by omega,?_⟩
 have hs : FH .u64 σ (Ip (aD b o) 1 c 1) (n - 1) ((vs.drop 1).take (n - 1)) := Ae.sub hr (by decide) (by omega) hc
 have hd : (vs.drop 1).take (n - 1) = vs.tail := by rw [List.drop_one,List.take_of_length_le (by rw [List.length_tail]; omega)]
 rw [hd] at hs
 have eR : vs = v :: vs.tail := by
   cases vs with
   | nil => cases hv
   | cons a l => simp only [List.getElem?_cons_zero,Option.some.injEq] at hv; rw [hv]; rfl
 rw [eR] at h
 change R (.returned (.int .u64 (cZ (vs.tail.foldl (ZO op) v)))) σ at h
 generalize Ip (aD b o) 1 c 1 = q at *
 suffices H : ∀ g k : Nat,∀ (a : Int),n - 1 - k = g → k ≤ n - 1 → vs.tail.foldl (ZO op) v = (vs.tail.drop k).foldl (ZO op) a → FR.A7 R op a q (n - 1) (c - 1) ((n - 1 : Nat) : Int) k σ from H (n - 1) 0 v (by omega) (by omega) rfl
 intro g
 induction g with
 | zero =>
   intro k a hg hk he
   refine FR.Aa ⟨fun Ap => by omega,fun _ => F5 ⟨_,rfl,?_⟩⟩
   rw [List.drop_eq_nil_of_le (by rw [List.length_tail]; omega)] at he
   rw [he] at h; exact h
 | succ g ih =>
   intro k a hg hk he
   obtain ⟨x,hx⟩ := hs.ex (k := k) (by omega)
   obtain ⟨b',o',rfl,Qk⟩ := FH.at hs hx
   rw [A3 hx,List.foldl_cons] at he
   have go : ∀ y,ZO op a x = y → FR.lT R op y (aD b' o') (n - 1) (c - 1) ((n - 1 : Nat) : Int) k σ := fun y hy => FR.sV ⟨AL (by omega : k < n - 1) hs.big,ih (k + 1) y (by omega) (by omega) (by rw [← hy]; exact he)⟩
   refine FR.Aa ⟨fun _ => ⟨b',o',rfl,by omega,x,by simpa using Qk,JR ⟨_,_,rfl,fun ht => go x (by unfold ZO; rw [if_pos (.inl ht)]),fun hf => oV ⟨_,rfl,fun ht => go x ?_,fun hn => go a ?_⟩⟩⟩,fun hh => by omega⟩
   · unfold ZO; rw [if_pos (.inr (of_decide_eq_true ht))]
   · unfold ZO; rw [if_neg (by
                                 rintro (h1 | h1)
                                 · rw [h1] at hf; cases hf
                                 · exact absurd h1 (of_decide_eq_false hn))]
theorem TQ {p : Option Addr} {n c : Nat} {vs : List Int} (hr : FH .u64 σ p n vs) (h0 : 0 < n) (hc : n ≤ c) (h : R (.returned (.int .u64 (LV 7 vs))) σ) : Spec prog 152 #[.slice p n c] σ R := G9.start (VJ hr h0 hc ⟨_,rfl,h⟩)
theorem Ml {p : Option Addr} {n c : Nat} {vs : List Int} (hr : FH .u64 σ p n vs) (h0 : 0 < n) (hc : n ≤ c) (h : R (.returned (.int .u64 (LV 9 vs))) σ) : Spec prog 153 #[.slice p n c] σ R := D4.start (VJ hr h0 hc ⟨_,rfl,h⟩)
def LX (out : Int) (p : Int × Int) : Int := if NA 7 p.2 p.1 = true then RD 1 out p.1 else out
def LY (vs : List Int) : Int := (vs.zip vs.tail).foldl LX (RD 2 (vs.getLast?.getD 0) (vs.head?.getD 0))
theorem TR {p : Option Addr} {n c : Nat} {vs : List Int} (hr : FH .u64 σ p n vs) (h0 : 0 < n) (h : R (.returned (.int .u64 (LY vs))) σ) : Spec prog 192 #[.slice p n c] σ R := by
 have hl : vs.length = n := hr.1
 have JM := hr.big
 obtain ⟨v,hv⟩ := hr.ex h0
 obtain ⟨z,hz⟩ := hr.ex (k := n - 1) (by omega)
 obtain ⟨b,o,rfl,Du⟩ := FH.at hr hv
 obtain ⟨_,_,he,xI⟩ := FH.at hr hz
 cases he
 have e1 : Int.toNat ((n : Int) - 1) = n - 1 := by omega
 refine EJ.start ⟨by unfold AI; omega,b,o,rfl,by omega,z,by rw [e1]; exact xI,by omega,v,by simpa using Du,ZM ⟨_,rfl,?_⟩⟩
 have AHW : LY vs = (vs.zip vs.tail).foldl LX (RD 2 z v) := by
   unfold LY
   rw [List.getLast?_eq_getElem?,hl,hz,List.head?_eq_getElem?,hv]; rfl
 rw [AHW] at h
 suffices H : ∀ g k : Nat,∀ a : Int,n - 1 - k = g → k ≤ n - 1 → (vs.zip vs.tail).foldl LX (RD 2 z v) = ((vs.zip vs.tail).drop k).foldl LX a → EJ.Bh R (aD b o) n c a ((k + 1 : Nat) : Int) σ from H (n - 1) 0 _ (by omega) (by omega) rfl
 have hlen : (vs.zip vs.tail).length = n - 1 := by rw [List.length_zip,List.length_tail]; omega
 intro g
 induction g with
 | zero =>
   intro k a hg hk he
   refine EJ.A0 ⟨fun Ap => by omega,fun _ => ?_⟩
   rw [List.drop_eq_nil_of_le (by omega)] at he
   rw [he] at h; exact h
 | succ g ih =>
   intro k a hg hk he
   obtain ⟨x,hx⟩ := hr.ex (k := k) (by omega)
   obtain ⟨y,hy⟩ := hr.ex (k := k + 1) (by omega)
   obtain ⟨_,_,h1,Qk⟩ := FH.at hr hx
   obtain ⟨_,_,h2,UC⟩ := FH.at hr hy
   cases h1; cases h2
   have AM6 : (vs.zip vs.tail)[k]? = some (x,y) := by
     rw [List.getElem?_zip_eq_some]
     exact ⟨hx,by rw [List.getElem?_tail]; exact hy⟩
   rw [A3 AM6,List.foldl_cons] at he
   have e2 : Int.toNat (((k + 1 : Nat) : Int) - 1) = k := by omega
   have e3 : Int.toNat ((k + 1 : Nat) : Int) = k + 1 := by omega
   have go : ∀ w,LX a (x,y) = w → EJ.QU R (aD b o) n c w ((k + 1 : Nat) : Int) σ := fun w hw => EJ.Lu ⟨AL (by omega : k + 1 < n) hr.big,ih (k + 1) w (by omega) (by omega) (by rw [← hw]; exact he)⟩
   refine EJ.A0 ⟨fun _ => ⟨b,o,rfl,by omega,y,by rw [e3]; exact UC,by unfold AI; omega,by omega,x,by rw [e2]; exact Qk,JR ⟨_,_,rfl,fun ht => ⟨by unfold AI; omega,by omega,x,by rw [e2]; exact Qk,ZL ⟨_,rfl,go _ ?_⟩⟩,fun hf => go _ ?_⟩⟩,fun hh => by omega⟩
   · unfold LX; rw [if_pos ht]
   · unfold LX; rw [if_neg (by rw [hf]; decide)]
end
end TwW
end
section
namespace TwW
open Go Tw Go.RowKit Go.Proofs.Tryz
theorem ZP {x : Nat} (h : E3 x = true) : ∃ s t,Ieee.double.read x = .nan s t := by
 rw [L9] at h
 cases hd : Ieee.double.read x with
 | nan s t => exact ⟨s,t,rfl⟩
 | number => rw [hd] at h; cases h
 | infinity => rw [hd] at h; cases h
theorem xJ {op : Int} {a b : Nat} (h : E3 a = true) : fAr op a b = none := by
 obtain ⟨s,t,hr⟩ := ZP h
 unfold fAr Ieee.Format.add Ieee.Format.sub Ieee.Format.mul Ieee.Format.div
 rw [hr]
 simp [Ieee.Datum.sum,Ieee.Datum.product,Ieee.Datum.quotient]
theorem xK {op : Int} {a b : Nat} (h : E3 b = true) : fAr op a b = none := by
 obtain ⟨s,t,hr⟩ := ZP h
 unfold fAr Ieee.Format.add Ieee.Format.sub Ieee.Format.mul Ieee.Format.div
 rw [hr]
 cases Ieee.double.read a <;> simp [Ieee.Datum.sum,Ieee.Datum.product,Ieee.Datum.quotient,Ieee.Datum.opposite]
theorem TS (op : Int) (a b : Nat) : Wk op (toF a) (toF b) = Wk op a b := by
 unfold Wk
 by_cases ha : E3 a = true
 · rw [xJ ha,show toF a = 9221120237041090560 by unfold toF; rw [ha]; rfl,xJ ZK]
 · rw [show toF a = a by unfold toF; rw [if_neg ha]]
   by_cases hb : E3 b = true
   · rw [xK hb,show toF b = 9221120237041090560 by unfold toF; rw [hb]; rfl,xK ZK]
   · rw [show toF b = b by unfold toF; rw [if_neg hb]]
abbrev cN : Nat := 4604544271217802189
abbrev dN : Nat := 13827916308072577997
abbrev AHX : Nat := 4607182418800017408
abbrev AHY : Nat := 13830554455654793216
def cg : List (Nat × Nat) := [(AHX,0),(cN,dN),(0,AHY),(dN,dN),(AHY,0),(dN,cN),(0,AHX),(cN,cN)]
def TT (j n : Nat) : List Int → Nat → Nat × Nat → Nat × Nat
 | [],_,a => a
 | x :: l,k,a =>
   let w := cg.getD ((j * k % n) * (8 / n)) (0,0)
   TT j n l (k + 1) (Wk 1 a.1 (Wk 3 x.toNat w.1),Wk 1 a.2 (Wk 3 x.toNat w.2))
def tY (vs : List Int) : Nat :=
 let l := TT (1 % vs.length) vs.length vs 0 (0,0)
 Wk 1 (Wk 3 l.1 l.1) (Wk 3 l.2 l.2)
section
variable [E5] {σ : Hp} {R : Rr}
theorem Wm {x y : Nat} (h : x ^^^ 9223372036854775808 = y) : YF prog (Op.unary .neg (.float .f64 x)) σ (.float .f64 y) := fun w _ => by subst h; rfl
theorem UW (h : ∀ b T σ',σ b = none → σ' = σ.set b (.cells (cg.map fun p => .complex .f64 p.1 p.2).toArray T (0,0)) → R (.returned (.slice (aD b 0) 8 8)) σ') : Spec prog 263 #[] σ R := by
 refine Me.start (Gd ⟨_,rfl,dN,Wm (by decide),_,_,fun w _ => rfl,dN,Wm (by decide),dN,Wm (by decide),_,_,fun w _ => rfl,dN,Wm (by decide),_,_,fun w _ => rfl,_,_,fun w _ => rfl,fun b hb => ?_⟩)
 exact h b _ _ hb rfl
theorem iY {j : Nat} (hj : j ≤ 1) {p : Option Addr} {n c : Nat} {vs : List Int} (hr : FH .u64 σ p n vs) (hn : n = 1 ∨ n = 2 ∨ n = 4 ∨ n = 8)
   (h : ∀ re im σ',Ext σ σ' → toF re = (TT j n vs 0 (0,0)).1 → toF im = (TT j n vs 0 (0,0)).2 → R (.returned (.complex .f64 re im)) σ') : Spec prog 241 #[.slice p n c,.int .i64 j] σ R := by
 have hl : vs.length = n := hr.1
 have z0 : toF 0 = 0 := by
   unfold toF
   rw [if_neg]
   rw [LR]; decide
 refine IV.start (UW fun b T σ1 hb JK => ⟨_,_,_,rfl,?_⟩)
 have CH : Ext σ σ1 := by rw [JK]; exact .set hb
 have xL : ∀ k,k < 8 → ∀ re im,cg[k]? = some (re,im) → σ1.ld ⟨b,0 + k * 1,none⟩ = some (.complex .f64 re im) := fun k hk re im hw => by
   rw [JK]
   unfold Hp.ld
   simp only [Hp.AB]
   have : (cg.map fun p => Value.complex .f64 p.1 p.2)[k]? = some (.complex .f64 re im) := by rw [List.getElem?_map,hw]; rfl
   simpa using this
 clear JK
 suffices H : ∀ g k : Nat,∀ re im,∀ a : Nat × Nat,n - k = g → k ≤ n → toF re = a.1 → toF im = a.2 → TT j n vs 0 (0,0) = TT j n (vs.drop k) k a → IV.tN R p n c j (aD b 0) 8 8 (.complex .f64 re im) k σ1 from H n 0 0 0 (0,0) rfl (Nat.zero_le _) z0 z0 rfl
 intro g
 induction g with
 | zero =>
   intro k re im a hg hk h1 h2 he
   have XA : k = n := by omega
   subst XA
   rw [List.drop_eq_nil_of_le (by omega)] at he
   refine IV.fL ⟨fun _ => ?_,fun hh => by omega⟩
   rw [he] at h
   exact h re im σ1 CH h1 h2
 | succ g ih =>
   intro k re im a hg hk h1 h2 he
   have XA : k < n := by omega
   obtain ⟨x,hx⟩ := hr.ex XA
   obtain ⟨b',o',rfl,Du⟩ := FH.at hr hx
   rw [A3 hx] at he
   have ht : (j : Int) * k = ((j * k : Nat) : Int) := by push_cast; rfl
   have rO : j * k ≤ 8 := by
     rcases Nat.le_one_iff_eq_zero_or_eq_one.1 hj with h | h <;> subst h <;> omega
   refine IV.fL ⟨fun hh => by omega,fun _ => ⟨b',o',rfl,by omega,x,by simpa using CH.ld Du,by unfold AI; omega,by omega,fun Jj h27 => ⟨by omega,fun SB h30 => ?_⟩⟩⟩
   have e27 : Jj = ((j * k % n : Nat) : Int) := by rw [h27,ht,Int.tmod_eq_emod_of_nonneg (by omega)]; omega
   have e30 : SB = ((8 / n : Nat) : Int) := by rw [h30]; rcases hn with h | h | h | h <;> subst h <;> rfl
   have hm : (j * k % n) * (8 / n) < 8 := by
     have := Nat.mod_lt (j * k) (show 0 < n by omega)
     rcases hn with h | h | h | h <;> subst h <;> simp at * <;> omega
   have ep : Jj * SB = (((j * k % n) * (8 / n) : Nat) : Int) := by rw [e27,e30]; push_cast; rfl
   dsimp only
   rw [ep]
   generalize hq : (j * k % n) * (8 / n) = q at *
   obtain ⟨⟨wr,wi⟩,hw⟩ : ∃ w,cg[q]? = some w := ⟨_,List.getElem?_eq_getElem (show q < cg.length from hm)⟩
   have hgd : cg.getD q (0,0) = (wr,wi) := by rw [List.getD_eq_getElem?_getD,hw]; rfl
   rw [TT,hq,hgd] at he
   refine ⟨by unfold AI; omega,b,0,rfl,by omega,wr,wi,by simpa using xL q hm wr wi hw,Gd ⟨_,rfl,fun _ _ _ h => h,re,fun w _ => rfl,wr,fun w _ => rfl,OD fun y hy => ⟨_,rfl,RC fun z hz => ⟨_,rfl,im,fun w _ => rfl,wi,fun w _ => rfl,OD fun y' hy' => ⟨_,rfl,RC fun z' hz' => ⟨_,rfl,z,z',fun w _ => rfl,AL XA hr.big,?_⟩⟩⟩⟩⟩⟩
   refine ih (k + 1) z z' _ (by omega) (by omega) ?_ ?_ he
   · rw [hz,← TS,h1,hy]
   · rw [hz',← TS,h2,hy']
theorem ck {p : Option Addr} {n c : Nat} {vs : List Int} (hr : FH .u64 σ p n vs) (hn : n = 1 ∨ n = 2 ∨ n = 4 ∨ n = 8)
   (h : ∀ σ',Ext σ σ' → R (.returned (.tuple #[.int .u64 (tY vs : Nat),.int .i64 0])) σ') : Spec prog 225 #[.slice p n c] σ R := by
 have hl : vs.length = n := hr.1
 have HX : ∀ {t : Bool} {Q : Rr},Q (.returned (.bool true)) σ → Spec prog 240 #[.int .i64 n] σ Q := fun hq => VA.start ⟨fun _ => hq,fun h1 => ⟨fun _ => hq,fun h2 => ⟨fun _ => hq,fun h4 => by rw [show decide ((n : Int) = 8) = true from decide_eq_true (by omega)]; exact hq⟩⟩⟩
 refine S6.start (HX (t := true) ?_)
 refine ⟨true,rfl,fun hf => (by cases hf),fun _ => ⟨by omega,fun x12 XG => ?_⟩⟩
 have e12 : x12 = ((1 % n : Nat) : Int) := by rw [XG,Int.tmod_eq_emod_of_nonneg (by omega)]; exact (Int.natCast_emod 1 n).symm
 rw [e12]
 refine iY (Nat.mod_le 1 n) hr hn fun re im σ1 hx h1 h2 => ⟨_,_,rfl,re,fun w _ => rfl,re,fun w _ => rfl,OD fun y hy => ⟨_,rfl,im,fun w _ => rfl,im,fun w _ => rfl,OD fun z hz => ⟨_,rfl,RC fun u hu => ⟨_,rfl,Ge ⟨_,rfl,?_⟩⟩⟩⟩⟩
 have e : toF u = tY vs := by
   rw [hu,← TS,hy,hz]
   unfold tY
   rw [hl]
   dsimp only
   rw [← h1,← h2,TS,TS]
 rw [e]
 exact h σ1 hx
def VK (n : Nat) : Nat := if 8 ≤ n then 8 else if 4 ≤ n then 4 else if 2 ≤ n then 2 else 1
def RE (vs : List Int) : Int := (tY (vs.drop (vs.length - VK vs.length)) : Nat)
theorem UX {p : Option Addr} {n c : Nat} {vs : List Int} (hr : FH .u64 σ p n vs) (h0 : 0 < n) (hc : n ≤ c)
   (h : ∀ σ',Ext σ σ' → R (.returned (.int .u64 (RE vs))) σ') : Spec prog 187 #[.slice p n c] σ R := by
 have hl : vs.length = n := hr.1
 have JM := hr.big
 have last : ∀ m : Nat,VK n = m → m ≤ n → (m = 1 ∨ m = 2 ∨ m = 4 ∨ m = 8) → AI ((n : Int) - m) ∧ ((0 : Int) ≤ ((n : Int) - m) ∧ ((n : Int) - m) ≤ (n : Int)) ∧ Spec prog 225 #[(.slice (Ip p (Int.toNat ((n : Int) - m)) c 1) (n - Int.toNat ((n : Int) - m)) (c - Int.toNat ((n : Int) - m)))] σ (AA R (fun z y => ∃ J9 O7,z = (.tuple #[.int .u64 J9,.int .i64 O7]) ∧ R (.returned (.int .u64 J9)) y)) := fun m hm hmn hk => by
   have e : Int.toNat ((n : Int) - m) = n - m := by omega
   rw [e]
   refine ⟨by unfold AI; omega,by omega,?_⟩
   have hs := Ae.sub (i := n - m) (m := m) hr (by decide) (by omega) hc
   rw [List.take_of_length_le (by rw [List.length_drop]; omega)] at hs
   rw [show n - (n - m) = m by omega]
   refine ck hs hk fun σ' hx => ⟨_,_,rfl,?_⟩
   have := h σ' hx
   unfold RE at this
   rw [hl,hm] at this
   exact this
 have two : ∀ m x : Int,x = IntKind.i64.wrap (Int.tdiv m 2) → (m = 8 ∨ m = 4 ∨ m = 2) → x = m / 2 := fun m x hx hm => by
   rw [hx]; rcases hm with h | h | h <;> subst h <;> rfl
 refine BU.start (BU.Ac ⟨fun h8 => ⟨by decide,fun x1 e1 => ?_⟩,fun h8 => last 8 (by unfold VK; rw [if_pos (by omega)]) (by omega) (by omega)⟩)
 have e1 := two _ _ e1 (.inl rfl)
 subst e1
 refine BU.Ac ⟨fun h4 => ⟨by decide,fun x2 e2 => ?_⟩,fun h4 => last 4 (by unfold VK; rw [if_neg (by omega),if_pos (by omega)]) (by omega) (by omega)⟩
 have e2 := two _ _ e2 (.inr (.inl (by decide)))
 subst e2
 refine BU.Ac ⟨fun h2 => ⟨by decide,fun x3 e3 => ?_⟩,fun h2 => last 2 (by unfold VK; rw [if_neg (by omega),if_neg (by omega),if_pos (by omega)]) (by omega) (by omega)⟩
 have e3 := two _ _ e3 (.inr (.inr (by decide)))
 subst e3
 exact BU.Ac ⟨fun h1 => by omega,fun h1 => last 1 (by unfold VK; rw [if_neg (by omega),if_neg (by omega),if_neg (by omega)]) (by omega) (by omega)⟩
end
end TwW
end
section
namespace TwW
open Go Tw Go.RowKit Go.Proofs.Tryz
def Gf (ps : List Pt) (x : Int) : Nat := ps.countP fun q => decide (q.1 ≤ x)
theorem fW {ps : List Pt} {x : Int} {i : Nat} (hi : i ≤ ps.length) (h1 : ∀ k q,k < i → ps[k]? = some q → q.1 ≤ x) (h2 : ∀ k q,i ≤ k → ps[k]? = some q → x < q.1) : Gf ps x = i := by
 unfold Gf
 rw [← List.take_append_drop i ps,List.countP_append]
 have e1 : (ps.take i).countP (fun q => decide (q.1 ≤ x)) = (ps.take i).length := List.countP_eq_length.2 fun q hq => by
   obtain ⟨k,hk⟩ := List.mem_iff_getElem?.1 hq
   rw [List.getElem?_take] at hk
   split at hk
   · rename_i hki; exact decide_eq_true (h1 k q hki hk)
   · cases hk
 have e2 : (ps.drop i).countP (fun q => decide (q.1 ≤ x)) = 0 := List.countP_eq_zero.2 fun q hq => by
   obtain ⟨k,hk⟩ := List.mem_iff_getElem?.1 hq
   rw [List.getElem?_drop] at hk
   have := h2 _ q (Nat.le_add_right i k) hk
   simp; omega
 rw [e1,e2,List.length_take]; omega
def ZQ (ps : List Pt) : Prop := ps.Pairwise fun a b => a.1 < b.1
theorem iZ {ps : List Pt} (h : OA ps = true) : ZQ ps := by
 have hh := ((LP ps).1 h).2
 unfold ZQ
 rw [List.pairwise_iff_getElem]
 intro i j hi hj eB
 induction j with
 | zero => omega
 | succ j ih =>
   have hs := hh j ps[j] ps[j + 1] (List.getElem?_eq_getElem _) (List.getElem?_eq_getElem _)
   by_cases h : i = j
   · subst h; exact hs
   · exact Int.lt_trans (ih (by omega) (by omega)) hs
theorem fX {ps : List Pt} (h : ZQ ps) {i j : Nat} {a b : Pt} (eB : i < j) (ha : ps[i]? = some a) (hb : ps[j]? = some b) : a.1 < b.1 := by
 obtain ⟨h1,rfl⟩ := List.getElem?_eq_some_iff.1 ha
 obtain ⟨h2,rfl⟩ := List.getElem?_eq_some_iff.1 hb
 exact List.pairwise_iff_getElem.1 h i j h1 h2 eB
theorem AHb {x : Int} (h0 : 0 ≤ x) (h1 : x < 18446744073709551616) : IntKind.u64.wrap x = x := by simp [IntKind.wrap,IntKind.bits,IntKind.signed]; omega
theorem AHc {x : Int} (h0 : 0 ≤ x) (h1 : x < 9223372036854775808) : IntKind.i64.wrap x = x := by simp [IntKind.wrap,IntKind.bits,IntKind.signed]; omega
section
variable [E5] {σ : Hp} {R : Rr}
theorem fY {f : Nat} (hf : Enters prog f) (tZ : ∀ a b x σ' R',R' (.returned (.int .i64 (if a ≤ x then -1 else 1))) σ' → Spec prog f #[.agg #[.int .i64 a,.int .u64 b],.int .i64 x] σ' R') {p : Option Addr} {n c : Nat} {ps : List Pt} {x : Int} (hr : Ae 2 GG σ p n ps) (hs : ZQ ps)
   (h : ∀ t,R (.returned (.tuple #[.int .i64 (Gf ps x),.bool t])) σ) : Spec prog 175 #[.slice p n c,.int .i64 x,.func (.func f) #[] #[]] σ R := by
 have hl : ps.length = n := hr.1
 have JM := hr.big
 refine Ax.start ?_
 suffices H : ∀ g i j : Nat,j - i = g → i ≤ j → j ≤ n → (∀ k q,k < i → ps[k]? = some q → q.1 ≤ x) → (∀ k q,j ≤ k → ps[k]? = some q → x < q.1) → Ax.Bh R p n c x (.func (.func f) #[] #[]) n i j σ from
   H n 0 n rfl (Nat.zero_le _) (Nat.le_refl _) (fun k q hk => by omega) (fun k q hk hq => by have := (List.getElem?_eq_some_iff.1 hq).1; omega)
 intro g
 induction g using Nat.strongRecOn with
 | _ g ih =>
   intro i j hg eB hj h1 h2
   refine Ax.A0 ⟨fun Ap => ⟨by unfold AI; omega,fun cA e21 => ⟨by decide,fun Iq e22 EI e23 => ?_⟩⟩,fun cM => ⟨fun RN => ?_,fun RN => ?_⟩⟩
   · rw [AHb (by omega) (by omega)] at e21
     have AM8 : Iq = ((i + j) / 2 : Nat) := by rw [e22,e21]; show ((i : Int) + j) / 2 ^ 1 = _; omega
     rw [AM8,AHc (by omega) (by omega)] at e23
     generalize hm : (i + j) / 2 = m at *
     have him : i ≤ m ∧ m < j := by omega
     obtain ⟨q,hq⟩ := hr.ex (k := m) (by omega)
     obtain ⟨b,o,rfl,Du⟩ := GG.at hr hq
     rw [e23]
     refine ⟨b,o,rfl,by omega,q.1,q.2,by simpa using Du,f,#[],#[],rfl,hf,tZ _ _ _ _ _ ⟨_,rfl,fun AAj => ⟨by unfold AI; omega,?_⟩,fun Ol => ?_⟩⟩
     · have hq1 : q.1 ≤ x := by
         by_cases hh : q.1 ≤ x
         · exact hh
         · rw [if_neg hh] at AAj; omega
       refine ih (j - (m + 1)) (by omega) (m + 1) j rfl (by omega) hj (fun k r hk rE => ?_) h2
       by_cases fT : k = m
       · rw [fT,hq] at rE; cases rE; exact hq1
       · have := fX hs (by omega : k < m) rE hq; omega
     · have hq1 : x < q.1 := by
         by_cases hh : q.1 ≤ x
         · rw [if_pos hh] at Ol; omega
         · omega
       refine ih (m - i) (by omega) i m rfl (by omega) (by omega) h1 (fun k r hk rE => ?_)
       by_cases fT : k = m
       · rw [fT,hq] at rE; cases rE; exact hq1
       · have := fX hs (by omega : m < k) hq rE; omega
   · have e : i = j := by omega
     subst e
     have hc := fW (by omega) h1 h2
     obtain ⟨q,hq⟩ := hr.ex (k := i) (by omega)
     obtain ⟨b,o,rfl,Du⟩ := GG.at hr hq
     refine ⟨b,o,rfl,by omega,q.1,q.2,by simpa using Du,f,#[],#[],rfl,hf,tZ _ _ _ _ _ ⟨_,rfl,?_⟩⟩
     have := h (decide ((if q.1 ≤ x then (-1 : Int) else 1) = 0))
     rw [hc] at this; exact this
   · have e : i = j := by omega
     subst e
     have hc := fW (by omega) h1 h2
     have := h false
     rw [hc] at this; exact this
omit [E5] in
theorem Ic {x : Int} : ∀ {ps : List Pt},ZQ ps → Gf ps x ≤ ps.length ∧ (∀ k q,k < Gf ps x → ps[k]? = some q → q.1 ≤ x) ∧ (∀ k q,Gf ps x ≤ k → ps[k]? = some q → x < q.1)
 | [],_ => ⟨Nat.le_refl _,fun k q hk => by simp [Gf] at hk,fun k q _ hq => by simp at hq⟩
 | a :: l,h => by
   have hl := List.pairwise_cons.1 h
   obtain ⟨h1,h2,h3⟩ := Ic (x := x) (ps := l) hl.2
   by_cases ha : a.1 ≤ x
   · have e : Gf (a :: l) x = Gf l x + 1 := by unfold Gf; rw [List.countP_cons_of_pos (by simpa using ha)]
     rw [e]
     refine ⟨by simp; exact h1,fun k q hk hq => ?_,fun k q hk hq => ?_⟩
     · cases k with
       | zero => simp at hq; subst hq; exact ha
       | succ k => exact h2 k q (by omega) (by simpa using hq)
     · cases k with
       | zero => omega
       | succ k => exact h3 k q (by omega) (by simpa using hq)
   · have e : Gf (a :: l) x = 0 := by
       unfold Gf
       rw [List.countP_eq_zero]
       intro q hq
       rcases List.mem_cons.1 hq with rfl | hq
       · simpa using ha
       · have := hl.1 q hq
         simp; omega
     rw [e]
     refine ⟨Nat.zero_le _,fun k q hk => by omega,fun k q _ hq => ?_⟩
     cases k with
     | zero => simp at hq; subst hq; omega
     | succ k =>
       have := hl.1 q (List.mem_of_getElem? (by simpa using hq))
       omega
omit [E5] in
theorem ta {ps : List Pt} (hs : ZQ ps) (EA HF : Int) {i m : Nat} (hi : i = min (Gf ps EA) (Gf ps HF)) (hm : m = Gf ps HF - i) : (ps.drop i).take m = F2 ps EA HF := by
 obtain ⟨a1,a2,a3⟩ := Ic (x := EA) hs
 obtain ⟨m1,m2,m3⟩ := Ic (x := HF) hs
 have e : ps = ps.take i ++ ((ps.drop i).take m ++ (ps.drop i).drop m) := by rw [List.take_append_drop,List.take_append_drop]
 have hf : F2 ps EA HF = F2 (ps.take i) EA HF ++ (F2 ((ps.drop i).take m) EA HF ++ F2 ((ps.drop i).drop m) EA HF) := by
   conv => lhs; rw [e]
   unfold F2
   rw [List.filter_append,List.filter_append]
 rw [hf]
 have f1 : F2 (ps.take i) EA HF = [] := List.filter_eq_nil_iff.2 fun q hq => by
   obtain ⟨k,hk⟩ := List.mem_iff_getElem?.1 hq
   rw [List.getElem?_take] at hk
   split at hk
   · have := a2 k q (by omega) hk; simp; omega
   · cases hk
 have f2 : F2 ((ps.drop i).take m) EA HF = (ps.drop i).take m := List.filter_eq_self.2 fun q hq => by
   obtain ⟨k,hk⟩ := List.mem_iff_getElem?.1 hq
   rw [List.getElem?_take] at hk
   split at hk
   · rename_i fT
     rw [List.getElem?_drop] at hk
     have g1 := m2 _ q (by omega) hk
     have g2 := a3 _ q (by omega) hk
     simp; omega
   · cases hk
 have f3 : F2 ((ps.drop i).drop m) EA HF = [] := List.filter_eq_nil_iff.2 fun q hq => by
   obtain ⟨k,hk⟩ := List.mem_iff_getElem?.1 hq
   rw [List.getElem?_drop,List.getElem?_drop] at hk
   have := m3 _ q (by omega) hk
   simp; omega
 rw [f1,f2,f3]; simp
theorem QD {p : Option Addr} {n c : Nat} {ps : List Pt} {EA HF : Int} (hr : Ae 2 GG σ p n ps) (hc : n ≤ c) (hs : ZQ ps)
   (h : ∀ q m d,Ae 2 GG σ q m (F2 ps EA HF) → m ≤ d → R (.returned (.slice q m d)) σ) : Spec prog 141 #[.slice p n c,.int .i64 EA,.int .i64 HF] σ R := by
 have hl : ps.length = n := hr.1
 have c1 : ∀ a b x σ' R',R' (.returned (.int .i64 (if a ≤ x then -1 else 1))) σ' → Spec prog 176 #[.agg #[.int .i64 a,.int .u64 b],.int .i64 x] σ' R' := fun a b x σ' R' hh => Mg.start fun _ => ⟨fun hle => by rw [if_pos hle] at hh; exact hh,fun hle => by rw [if_neg hle] at hh; exact hh⟩
 have c2 : ∀ a b x σ' R',R' (.returned (.int .i64 (if a ≤ x then -1 else 1))) σ' → Spec prog 177 #[.agg #[.int .i64 a,.int .u64 b],.int .i64 x] σ' R' := fun a b x σ' R' hh => Md.start fun _ => ⟨fun hle => by rw [if_pos hle] at hh; exact hh,fun hle => by rw [if_neg hle] at hh; exact hh⟩
 have ha := (Ic (x := EA) hs).1
 have hm := (Ic (x := HF) hs).1
 refine Pz.start (fY (fun args w => call176 args w) c1 hr hs fun t => ⟨_,_,rfl,fY (fun args w => call177 args w) c2 hr hs fun t' => ⟨_,_,rfl,?_⟩⟩)
 have e : (if ((Gf ps HF : Nat) : Int) < (Gf ps EA : Nat) then ((Gf ps HF : Nat) : Int) else (Gf ps EA : Nat)) = ((min (Gf ps EA) (Gf ps HF) : Nat) : Int) := by split <;> omega
 rw [e]
 generalize hi : min (Gf ps EA) (Gf ps HF) = i
 have OF := Ae.sub (i := i) (m := Gf ps HF - i) hr (by decide) (by omega) hc
 rw [ta hs EA HF hi.symm rfl] at OF
 refine ⟨by omega,?_⟩
 have := h _ _ (c - i) OF (by omega)
 simpa using this
end
end TwW
end
section
namespace TwW
open Go Tw Go.RowKit Go.Proofs.Tryz
theorem Ie {α : Type} {P : α → Bool} : ∀ {l : List α} {k : Nat},k ≤ l.length → (∀ j u,j < k → l[j]? = some u → P u = true) → (∀ u,l[k]? = some u → P u = false) → (l.takeWhile P).length = k
 | [],k,hk,_,_ => by simp at hk; subst hk; rfl
 | a :: l,0,_,_,h2 => by simp [List.takeWhile,h2 a rfl]
 | a :: l,k + 1,hk,h1,h2 => by
   have ha : P a = true := h1 0 a (by omega) rfl
   simp only [List.takeWhile,ha,List.length_cons]
   rw [Ie (k := k) (by simp at hk; omega) (fun j u hj hu => h1 (j + 1) u (by omega) (by simpa using hu)) (fun u hu => h2 u (by simpa using hu))]
def AN (s : ByteArray) : Nat := (s.data.toList.takeWhile Bq).length
theorem MA (s : ByteArray) : AN s ≤ s.size := by
 unfold AN
 exact Nat.le_trans (List.Sublist.length_le (List.takeWhile_sublist _)) (Nat.le_of_eq (Array.length_toList (xs := s.data)))
section
variable [E5] {σ : Hp} {R : Rr}
omit [E5] in
theorem VL {s : ByteArray} {h : Nat} (hh : h ≤ s.size) : YF prog (Instr.sliceAt 9 (.string s) none (some (.int .i64 (h : Int))) none) σ (.string (s.extract 0 h)) := fun w _ => by
 rw [run_sliceAt_string (h := underlying9)]
 have h1 : (h : Int) ≤ s.size := by omega
 simp [Instr.slice,run_underlying underlying9,Instr.sliceBounds,run_sliceBound,h1,Result.andThen]
omit [E5] in
theorem OG {s : ByteArray} {l : Nat} (hl : l ≤ s.size) : YF prog (Instr.sliceAt 9 (.string s) (some (.int .i64 (l : Int))) none none) σ (.string (s.extract l s.size)) := fun w _ => by
 rw [run_sliceAt_string (h := underlying9)]
 have h1 : (l : Int) ≤ s.size := by omega
 simp [Instr.slice,run_underlying underlying9,Instr.sliceBounds,run_sliceBound,h1,Result.andThen]
omit [E5] in
theorem byte_at {s : ByteArray} {k : Nat} (hk : k < s.size) : ∃ u,s.data[k]? = some u ∧ s.data.toList[k]? = some u := ⟨s.data[k]'hk,by rw [Array.getElem?_eq_getElem],by rw [Array.getElem?_toList,Array.getElem?_eq_getElem]⟩
theorem HI {s : ByteArray} (hb : s.size ≤ 4611686018427387904) (h : R (.returned (.int .i64 (AN s))) σ) : Spec prog 131 #[.string s] σ R := by
 have hlen : s.data.toList.length = s.size := Array.length_toList (xs := s.data)
 refine G6.start ?_
 suffices H : ∀ g k : Nat,s.size - k = g → k ≤ s.size → (∀ j u,j < k → s.data.toList[j]? = some u → Bq u = true) → G6.Dm R s k σ from H s.size 0 rfl (Nat.zero_le _) (fun j u hj => by omega)
 intro g
 induction g with
 | zero =>
   intro k hg hk h1
   have e : AN s = k := Ie (by omega) h1 (fun u hu => by have := (List.getElem?_eq_some_iff.1 hu).1; omega)
   rw [e] at h
   exact G6.Ac ⟨fun Ap => by omega,fun _ => h⟩
 | succ g ih =>
   intro k hg hk h1
   obtain ⟨u,hu,CU⟩ := byte_at (show k < s.size by omega)
   have stop : Bq u = false → R (.returned (.int .i64 k)) σ := fun hd => by
     have e : AN s = k := Ie (by omega) h1 (fun v hv => by rw [CU] at hv; cases hv; exact hd)
     rw [e] at h; exact h
   refine G6.Ac ⟨fun _ => ⟨u,by omega,by simpa using hu,PH.start ⟨fun ZR => ⟨_,rfl,fun ht => ?_,fun hf => stop ?_⟩,fun ZR => ⟨false,rfl,⟨fun ht => (by cases ht),fun _ => stop ?_⟩⟩⟩⟩,fun hh => by omega⟩
   · refine ⟨AL (by omega : k < s.size) hb,ih (k + 1) (by omega) (by omega) fun j v hj hv => ?_⟩
     by_cases rO : j = k
     · rw [rO,CU] at hv; cases hv
       have := of_decide_eq_true ht
       exact decide_eq_true (by omega)
     · exact h1 j v (by omega) hv
   · have := of_decide_eq_false hf
     exact decide_eq_false (by omega)
   · exact decide_eq_false (by omega)
end
end TwW
end
section
namespace TwW
open Go Tw Go.RowKit Go.Proofs.Tryz
abbrev MU (n : Nd) (p : Option Addr) (k c : Nat) (q : Option Addr) (m d : Nat) : Value := .agg #[.int .i64 n.kind,.int .i64 n.op,.string n.text,.slice p k c,.int .i64 n.width,.int .i64 n.back,.int .i64 n.Ea,.slice q m d,.bool n.bool,.int .i64 n.parts]
def BN (n : Nd) : Nd :=
 if n.kind = 1 then ⟨n.kind,0,n.text,[],0,0,0,[],false,0⟩
 else if n.kind = 2 then ⟨n.kind,0,ByteArray.mk #[],[],0,n.back,0,[],false,0⟩
 else if n.kind = 3 then ⟨n.kind,0,ByteArray.mk #[],[],n.width,n.back,0,[],false,0⟩
 else if n.kind = 4 then ⟨n.kind,n.op,ByteArray.mk #[],[],0,0,0,[],false,n.parts⟩
 else if n.kind = 5 then ⟨n.kind,n.op,ByteArray.mk #[],[],0,0,n.Ea,[],false,n.parts⟩
 else if n.kind = 6 then ⟨n.kind,n.op,ByteArray.mk #[],[],0,0,n.Ea,[],n.bool,n.parts⟩
 else ⟨n.kind,0,ByteArray.mk #[],[],0,0,0,[],false,n.parts⟩
theorem oX : ∀ w,(Go.sizeOf 2).run prog w = .ok 1 w := fun w => by kernel_rfl
theorem Ig : ∀ w,(Go.sizeOf 3).run prog w = .ok 1 w := fun w => by kernel_rfl
theorem xM : ∀ w,(Go.sizeOf 4).run prog w = .ok 1 w := fun w => by kernel_rfl
theorem AHd : ∀ w,(Go.sizeOf 9).run prog w = .ok 1 w := fun w => by kernel_rfl
theorem oY : ∀ w,(Go.sizeOf 36).run prog w = .ok 10 w := fun w => by kernel_rfl
theorem TU {c : Array Value} {l : List Value} (h : l.length = c.size) : NQ c 0 l = l.toArray := by
 apply Array.ext_getElem?
 intro j
 rw [Qu l c 0 j (by omega)]
 split
 · simp
 · rename_i hj
   rw [Array.getElem?_eq_none (by omega),List.getElem?_toArray,List.getElem?_eq_none (by omega)]
section
variable [E5] {σ : Hp} {R : Rr}
omit [E5] in
theorem oZ {τ : Hp} {b T : Nat} : ∀ {l : List Value} {c : Array Value} {o : Nat},τ b = some (.cells c T (0,0)) → (∀ j v,l[j]? = some v → c[o + j]? = some v) → Aw τ b o l
 | [],_,_,_,_ => trivial
 | v :: l,c,o,hb,h => ⟨by unfold Hp.ld; rw [hb]; simpa using h 0 v rfl,oZ hb fun j u hu => by have := h (j + 1) u (by simpa using hu); rwa [show o + (j + 1) = o + 1 + j by omega] at this⟩
omit [E5] in
theorem fZ {τ : Hp} {b : Nat} {o : Obj} (hb : σ b = none) (h : Ext σ τ) : Ext σ (τ.set b o) := fun k u hk => by
 rw [Hp.AJ (fun e => by rw [e,hb] at hk; cases hk)]; exact h k u hk
set_option maxHeartbeats 4000000 in
theorem ia {n : Nd} {p q : Option Addr} {k c m d : Nat} (h : ∀ σ',Ext σ σ' → R (.returned (MU (BN n) none 0 0 none 0 0)) σ') : Spec prog 121 #[MU n p k c q m d] σ R := by
 refine TD.start fun _ _ b hb => ?_
 have fin : ∀ (τ : Hp) (c : Array Value) (T : Nat),τ b = some (.cells c T (0,0)) → Ext σ τ → c = #[.int .i64 (BN n).kind,.int .i64 (BN n).op,.string (BN n).text,.slice none 0 0,.int .i64 (BN n).width,.int .i64 (BN n).back,.int .i64 (BN n).Ea,.slice none 0 0,.bool (BN n).bool,.int .i64 (BN n).parts] →
     ∃ Yf cG cH nh ni nj nk nq nr nu nw nz oA oB,Aw τ b 0 [.int .i64 Yf,.int .i64 cG,.string cH,.slice nh ni nj,.int .i64 nk,.int .i64 nq,.int .i64 nr,.slice nu nw nz,.bool oA,.int .i64 oB] ∧ R (.returned (.agg #[.int .i64 Yf,.int .i64 cG,.string cH,.slice nh ni nj,.int .i64 nk,.int .i64 nq,.int .i64 nr,.slice nu nw nz,.bool oA,.int .i64 oB])) τ := fun τ c T hτ hx hc =>
   ⟨_,_,_,_,_,_,_,_,_,_,_,_,_,_,oZ hτ fun j v hv => by rw [hc,Nat.zero_add]; simpa using hv,h τ hx⟩
 have st : ∀ {τ : Hp} {c : Array Value} {T U o : Nat} {v : Value} {Φ : Unit → Hp → Prop},(∀ w,(Go.sizeOf U).run prog w = .ok 1 w) → τ b = some (.cells c T (0,0)) → Ext σ τ → o + 1 ≤ c.size → v.cells = #[v] → v.oneCell' = true →
     (∀ (τ' : Hp) (c' : Array Value),c' = NQ c o [v] → c'.size = c.size → τ' b = some (.cells c' T (0,0)) → Ext σ τ' → Φ () τ') → AK prog (Instr.storeAt U (.pointer (aD b o)) v) τ Φ := fun {τ c T U o v Φ} hz hτ hx ho h1 h2 hk => by
   refine AK.store hz hτ (by rw [h1]; rfl) (by simpa using ho) (fun u hu => by rw [h1] at hu; simp at hu; rw [hu]; exact h2) ?_
   rw [h1]
   exact hk _ _ rfl (IC _ _ _) (Hp.AB _ _ _) (fZ hb hx)
 have st0 : ∀ {Φ : Unit → Hp → Prop},(∀ (τ : Hp) (c : Array Value),c = #[.int .i64 n.kind,.int .i64 0,(.string (ByteArray.mk #[])),.slice none 0 0,.int .i64 0,.int .i64 0,.int .i64 0,.slice none 0 0,.bool false,.int .i64 0] → c.size = 10 → τ b = some (.cells c 36 (0,0)) → Ext σ τ → Φ () τ) →
     AK prog (Instr.storeAt 36 (.pointer (aD b 0)) (.agg #[.int .i64 n.kind,.int .i64 0,(.string (ByteArray.mk #[])),.slice none 0 0,.int .i64 0,.int .i64 0,.int .i64 0,.slice none 0 0,.bool false,.int .i64 0])) (Hp.set σ b (.cells #[.int .i64 0,.int .i64 0,(.string (ByteArray.mk #[])),.slice none 0 0,.int .i64 0,.int .i64 0,.int .i64 0,.slice none 0 0,.bool false,.int .i64 0] 36 (0,0))) Φ := fun {Φ} hk => by
   refine AK.store oY (Hp.AB _ _ _) rfl (by simp) (by simp [Value.cells,Value.oneCell']) ?_
   exact hk _ _ (TU rfl) (by rw [IC]; rfl) (Hp.AB _ _ _) (fZ hb (Ext.set hb))
 refine st0 fun τ c0 e0 z0 g0 x0 => ?_
 refine ⟨fun h1 => ?_,fun h1 => ⟨fun h2 => ?_,fun h2 => ⟨fun h3 => ?_,fun h3 => ⟨fun h4 => ?_,fun h4 => ⟨fun h5 => ?_,fun h5 => ⟨fun h6 => ?_,fun h6 => ?_⟩⟩⟩⟩⟩⟩
 · refine st AHd g0 x0 (by omega) rfl rfl fun τ1 c1 e1 z1 g1 x1 => fin τ1 c1 _ g1 x1 ?_
   subst e0 e1; unfold BN; simp only [h1,if_true]; rfl
 · refine st oX g0 x0 (by omega) rfl rfl fun τ1 c1 e1 z1 g1 x1 => fin τ1 c1 _ g1 x1 ?_
   subst e0 e1; unfold BN; simp only [h2,if_true]; rfl
 · refine st oX g0 x0 (by omega) rfl rfl fun τ1 c1 e1 z1 g1 x1 => ?_
   refine st oX g1 x1 (by omega) rfl rfl fun τ2 c2 e2 z2 g2 x2 => fin τ2 c2 _ g2 x2 ?_
   subst e0 e1 e2; unfold BN; simp only [h3,if_true]; rfl
 · refine st Ig g0 x0 (by omega) rfl rfl fun τ1 c1 e1 z1 g1 x1 => ?_
   refine st Ig g1 x1 (by omega) rfl rfl fun τ2 c2 e2 z2 g2 x2 => fin τ2 c2 _ g2 x2 ?_
   subst e0 e1 e2; unfold BN; simp only [h4,if_true]; rfl
 · refine st Ig g0 x0 (by omega) rfl rfl fun τ1 c1 e1 z1 g1 x1 => ?_
   refine st Ig g1 x1 (by omega) rfl rfl fun τ2 c2 e2 z2 g2 x2 => ?_
   refine st Ig g2 x2 (by omega) rfl rfl fun τ3 c3 e3 z3 g3 x3 => fin τ3 c3 _ g3 x3 ?_
   subst e0 e1 e2 e3; unfold BN; simp only [h5,if_true]; rfl
 · refine st Ig g0 x0 (by omega) rfl rfl fun τ1 c1 e1 z1 g1 x1 => ?_
   refine st Ig g1 x1 (by omega) rfl rfl fun τ2 c2 e2 z2 g2 x2 => ?_
   refine st xM g2 x2 (by omega) rfl rfl fun τ3 c3 e3 z3 g3 x3 => ?_
   refine st Ig g3 x3 (by omega) rfl rfl fun τ4 c4 e4 z4 g4 x4 => fin τ4 c4 _ g4 x4 ?_
   subst e0 e1 e2 e3 e4; unfold BN; simp only [h6,if_true]; rfl
 · refine st Ig g0 x0 (by omega) rfl rfl fun τ1 c1 e1 z1 g1 x1 => fin τ1 c1 _ g1 x1 ?_
   subst e0 e1; unfold BN; simp only [h1,h2,h3,h4,h5,h6,if_false]; rfl
end
end TwW
end
section
namespace TwW
open Go Tw Go.RowKit Go.Proofs.Tryz
section
variable {σ : Hp} {R : Rr}
theorem Cm {k : Int} (h : R (.returned (.bool (E2 k))) σ) : Spec prog 124 #[.int .i64 k] σ R := by
 refine J7.start ⟨fun h1 => ?_,fun h1 => ?_⟩
 · rw [show E2 k = decide (k ≤ 10) by unfold E2; rw [decide_eq_true h1]; rfl] at h; exact h
 · rw [show E2 k = false by unfold E2; rw [decide_eq_false h1]; rfl] at h; exact h
theorem QE {k : Int} (h : R (.returned (.bool (decide (11 ≤ k ∧ k ≤ 13)))) σ) : Spec prog 128 #[.int .i64 k] σ R := by
 refine S3.start ⟨fun h1 => ?_,fun h1 => ?_⟩
 · rw [show decide (11 ≤ k ∧ k ≤ 13) = decide (k ≤ 13) from decide_eq_decide.2 ⟨fun h => h.2,fun h => ⟨h1,h⟩⟩] at h; exact h
 · rw [show decide (11 ≤ k ∧ k ≤ 13) = false from decide_eq_false (fun hh => h1 hh.1)] at h; exact h
theorem PL {v l : Int} (h : R (.returned (.bool (Mk v l))) σ) : Spec prog 123 #[.int .i64 v,.int .i64 l] σ R := by
 refine S9.start ⟨fun h1 => ?_,fun h1 => ?_⟩
 · rw [show Mk v l = decide (v < 2147483648) by unfold Mk; rw [decide_eq_true h1]; rfl] at h; exact h
 · rw [show Mk v l = false by unfold Mk; rw [decide_eq_false h1]; rfl] at h; exact h
theorem VM {k : Int} (h : R (.returned (.bool (decide (1 ≤ k ∧ k ≤ 4)))) σ) : Spec prog 125 #[.int .i64 k] σ R := by
 refine R4.start ⟨fun h1 => ?_,fun h1 => ?_⟩
 · rw [show decide (1 ≤ k ∧ k ≤ 4) = decide (k ≤ 4) from decide_eq_decide.2 ⟨fun h => h.2,fun h => ⟨h1,h⟩⟩] at h; exact h
 · rw [show decide (1 ≤ k ∧ k ≤ 4) = false from decide_eq_false (fun hh => h1 hh.1)] at h; exact h
theorem PM {s : ByteArray} (h : R (.returned (.bool (CE s))) σ) : Spec prog 126 #[.string s] σ R := by
 refine TA.start (LN ?_)
 exact ⟨_,rfl,h⟩
theorem Oa.at {p : Option Addr} {n i : Nat} {ms : List Mt} {x : Mt} (hr : Ae 3 Oa σ p n ms) (hx : ms[i]? = some x) : ∃ b o,p = some ⟨b,o,none⟩ ∧ Aw σ b (o + i * 3) [.int .i64 x.kind,.string x.name,.string x.val] := by
 obtain ⟨b,o,vs,hp,rfl,hl⟩ := Ae.idx hr hx
 exact ⟨b,o,hp,hl⟩
def cp (m : Mt) : Bool := decide (1 ≤ m.kind ∧ m.kind ≤ 4) && CE m.name && decide (m.val.size ≤ 256)
theorem QF {p : Option Addr} {n c : Nat} {ms : List Mt} (hr : Ae 3 Oa σ p n ms) (h : R (.returned (.int .i64 (HH CE ms))) σ) : Spec prog 80 #[.slice p n c] σ R := by
 have hl : ms.length = n := hr.1
 refine Fq.start ⟨fun h8 => ?_,fun h8 => ?_⟩
 · rw [show HH CE ms = 41 by unfold HH; rw [if_pos (by omega)]] at h; exact h
 have hm : HH CE ms = if ms.all cp then 0 else 40 := by unfold HH; rw [if_neg (by omega)]; rfl
 rw [hm] at h
 suffices H : ∀ g k : Nat,n - k = g → k ≤ n → ms.all cp = (ms.drop k).all cp → Fq.MM R p n c n k σ from H n 0 rfl (Nat.zero_le _) rfl
 intro g
 induction g with
 | zero =>
   intro k hg hk he
   rw [List.drop_eq_nil_of_le (by omega)] at he
   rw [he] at h
   exact Fq.I2 ⟨fun Ap => by omega,fun _ => h⟩
 | succ g ih =>
   intro k hg hk he
   have Gs : k < n := by omega
   obtain ⟨x,hx⟩ := hr.ex Gs
   obtain ⟨b,o,rfl,Du⟩ := Oa.at hr hx
   rw [A3 hx,List.all_cons] at he
   have bad : cp x = false → R (.returned (.int .i64 40)) σ := fun hf => by
     rw [hf] at he
     rw [he] at h; exact h
   refine Fq.I2 ⟨fun _ => ⟨b,o,rfl,by omega,x.kind,x.name,x.val,by simpa using Du,fun _ => VM ⟨_,rfl,fun hf => bad ?_,fun ht => PM ⟨_,rfl,fun hf => bad ?_,fun hn => ⟨fun hv => bad ?_,fun hv => ⟨AL Gs hr.big,ih (k + 1) (by omega) (by omega) ?_⟩⟩⟩⟩⟩,fun hh => by omega⟩
   · unfold cp; rw [hf]; rfl
   · unfold cp; rw [hf]; simp
   · unfold cp; rw [show decide (x.val.size ≤ 256) = false from decide_eq_false (by omega)]; simp
   · rw [he,show cp x = true by unfold cp; rw [ht,hn,show decide (x.val.size ≤ 256) = true from decide_eq_true (by omega)]; rfl,Bool.true_and]
end
end TwW
end
section
namespace TwW
open Go Tw Go.RowKit Go.Proofs.Tryz
section
variable {σ : Hp} {R : Rr}
theorem ct {n : Nd} {p q : Option Addr} {k c m d : Nat} (hr : E9 1 σ q m (n.names.map .string)) (h : R (.returned (.bool (PK CE n))) σ) : Spec prog 122 #[MU n p k c q m d] σ R := by
 have hl : n.names.length = m := by have := hr.1; simpa using this
 refine Fv.start fun _ => ?_
 suffices H : ∀ g i : Nat,m - i = g → i ≤ m → n.names.all CE = (n.names.drop i).all CE → Fv.H3 R n.kind n.op n.text p k c n.width n.back n.Ea q m d n.bool n.parts q m d m i σ from H m 0 rfl (Nat.zero_le _) rfl
 have JM : m ≤ 4611686018427387904 := hr.2.1
 intro g
 induction g with
 | zero =>
   intro i hg hi he
   rw [List.drop_eq_nil_of_le (by omega)] at he
   have e : PK CE n = (decide (m = 0) || decide (n.Ea ≠ 0)) := by unfold PK; rw [he,hl]; rfl
   rw [e] at h
   refine Fv.Bp ⟨fun Ap => by omega,fun _ => ⟨fun h0 => ?_,fun h0 => ?_⟩⟩
   · rw [decide_eq_true (show m = 0 by omega)] at h; exact h
   · rw [decide_eq_false (show ¬ m = 0 by omega)] at h; exact h
 | succ g ih =>
   intro i hg hi he
   have Bk : i < m := by omega
   obtain ⟨x,hx⟩ : ∃ x,n.names[i]? = some x := ⟨_,List.getElem?_eq_getElem (by omega)⟩
   obtain ⟨b,o,rfl,Du⟩ := E9.at1 hr (k := i) (v := .string x) (by rw [List.getElem?_map,hx]; rfl)
   rw [A3 hx,List.all_cons] at he
   refine Fv.Bp ⟨fun _ => ⟨b,o,rfl,by omega,x,by simpa using Du,PM ⟨_,rfl,fun hf => ?_,fun ht => ⟨AL Bk JM,ih (i + 1) (by omega) (by omega) ?_⟩⟩⟩,fun hh => by omega⟩
   · have e : PK CE n = false := by unfold PK; rw [he,hf]; rfl
     rw [e] at h; exact h
   · rw [he,ht,Bool.true_and]
theorem od {a b : ByteArray} : (ByteArray.toList a == ByteArray.toList b) = decide (a.data.toList = b.data.toList) := by
 rw [ByteArray.toList_eq,ByteArray.toList_eq]
 by_cases h : a.data.toList = b.data.toList
 · simp [h]
 · rw [decide_eq_false h]; exact beq_eq_false_iff_ne.2 h
theorem AHe {a b : ByteArray} : (ByteArray.toList a == ByteArray.toList b) = decide (a = b) := by
 rw [od]
 exact decide_eq_decide.2 ⟨fun h => ByteArray.ext (Array.toList_inj.1 h),fun h => by rw [h]⟩
def GM (a b : Nd) : Bool := decide (a.kind = b.kind ∧ a.op = b.op ∧ a.text = b.text ∧ a.width = b.width ∧ a.back = b.back ∧ a.Ea = b.Ea ∧ a.bool = b.bool ∧ a.parts = b.parts)
theorem cu {a b : Nd} {p p' q q' : Option Addr} {k c k' c' m d m' d' : Nat} (h : R (.returned (.bool (GM a b))) σ) : Spec prog 120 #[MU a p k c q m d,MU b p' k' c' q' m' d'] σ R := by
 have no : ¬ (a.kind = b.kind ∧ a.op = b.op ∧ a.text = b.text ∧ a.width = b.width ∧ a.back = b.back ∧ a.Ea = b.Ea ∧ a.bool = b.bool ∧ a.parts = b.parts) → R (.returned (.bool false)) σ := fun hn => by
   rw [show GM a b = false from decide_eq_false hn] at h; exact h
 have last : a.kind = b.kind ∧ a.op = b.op ∧ a.text = b.text ∧ a.width = b.width ∧ a.back = b.back ∧ a.Ea = b.Ea ∧ a.bool = b.bool → R (.returned (.bool (decide (a.parts = b.parts)))) σ := fun hh => by
   rw [show GM a b = decide (a.parts = b.parts) from decide_eq_decide.2 ⟨fun g => g.2.2.2.2.2.2.2,fun g => ⟨hh.1,hh.2.1,hh.2.2.1,hh.2.2.2.1,hh.2.2.2.2.1,hh.2.2.2.2.2.1,hh.2.2.2.2.2.2,g⟩⟩] at h; exact h
 refine Px.start fun _ _ => ⟨fun h1 => ⟨fun h2 => ⟨fun h3 => ?_,fun h3 => no ?_⟩,fun h2 => no fun g => h2 g.2.1⟩,fun h1 => no fun g => h1 g.1⟩
 · rw [AHe] at h3
   have h3 := of_decide_eq_true h3
   refine ⟨fun h4 => ⟨fun h5 => ⟨fun h6 => ⟨fun t1 => ⟨fun t2 => last ⟨h1,h2,h3,h4,h5,h6,t1.trans t2.symm⟩,fun t2 => no fun g => ?_⟩,fun t1 => ⟨fun t2 => no fun g => ?_,fun t2 => last ⟨h1,h2,h3,h4,h5,h6,t1.trans t2.symm⟩⟩⟩,fun h6 => no fun g => h6 g.2.2.2.2.2.1⟩,fun h5 => no fun g => h5 g.2.2.2.2.1⟩,fun h4 => no fun g => h4 g.2.2.2.1⟩
   · have := g.2.2.2.2.2.2.1; rw [t1,t2] at this; cases this
   · have := g.2.2.2.2.2.2.1; rw [t1,t2] at this; cases this
 · rw [AHe] at h3
   exact fun g => of_decide_eq_false h3 g.2.2.1
end
end TwW
end
section
namespace TwW
open Go Tw Go.RowKit Go.Proofs.Tryz
def FY (s : ByteArray) : Bool :=
 if AN s = 0 then false else if 1 < AN s ∧ s.data[0]? = some 48 then false else if AN s = s.size then decide (AN s ≤ 15)
 else decide (s.data[AN s]? = some 46 ∧ 0 < AN (s.extract (AN s + 1) s.size) ∧ AN s + 1 + AN (s.extract (AN s + 1) s.size) = s.size ∧ AN s + AN (s.extract (AN s + 1) s.size) ≤ 15)
theorem JT {u : UInt8} {k : Nat} (hk : k < 256) : ((u.toNat : Nat) : Int) = k ↔ u = UInt8.ofNat k := by
 constructor
 · intro h
   apply UInt8.toNat_inj.1
   rw [UInt8.toNat_ofNat']
   omega
 · rintro rfl
   rw [UInt8.toNat_ofNat']
   omega
section
variable {σ : Hp} {R : Rr}
theorem LZ {s : ByteArray} (hb : s.size ≤ 4611686018427387904) (h : R (.returned (.bool (FY s))) σ) : Spec prog 94 #[.string s] σ R := by
 have hle := MA s
 refine TC.start (HI hb ⟨_,rfl,fun h0 => ?_,fun h0 => ⟨_,VL hle,?_⟩⟩)
 · rw [show FY s = false by unfold FY; rw [if_pos (by omega)]] at h; exact h
 have HX : (s.extract 0 (AN s)).size = AN s := by rw [ByteArray.size_extract]; omega
 have tail : ¬ (1 < AN s ∧ s.data[0]? = some 48) → Br ((AN s : Int) = ((ByteArray.size s : Nat) : Int)) (R (.returned (.bool (decide ((AN s : Int) ≤ 15)))) σ) (AI ((AN s : Int) + 1) ∧ ∃ s24,YF prog (Instr.sliceAt 9 (.string s) (some (.int .i64 ((AN s : Int) + 1))) none none) σ (.string s24) ∧ Spec prog 131 #[.string s24] σ (AA R (CI .i64 fun P3 AH => ∃ u28 : UInt8,0 ≤ (AN s : Int) ∧ (ByteArray.data s)[Int.toNat (AN s : Int)]? = some u28 ∧ Br ((((UInt8.toNat u28 : Nat) : Int) : Int) = 46) (Br (0 < P3) (AI ((AN s : Int) + 1) ∧ AI (((AN s : Int) + 1) + P3) ∧ Br (((((AN s : Int) + 1) + P3) : Int) = ((ByteArray.size s : Nat) : Int)) (AI ((AN s : Int) + P3) ∧ R (.returned (.bool (decide ((((AN s : Int) + P3) : Int) ≤ 15)))) AH) (R (.returned (.bool false)) AH)) (R (.returned (.bool false)) AH)) (R (.returned (.bool false)) AH)))) := fun hn => by
   refine ⟨fun he => ?_,fun he => ⟨by unfold AI; omega,s.extract (AN s + 1) s.size,OG (l := AN s + 1) (by omega),?_⟩⟩
   · rw [show FY s = decide ((AN s : Int) ≤ 15) by unfold FY; rw [if_neg (by omega),if_neg hn,if_pos (by omega)]; exact decide_eq_decide.2 (by omega)] at h; exact h
   have ANA : (s.extract (AN s + 1) s.size).size = s.size - (AN s + 1) := by rw [ByteArray.size_extract]; omega
   have hm := MA (s.extract (AN s + 1) s.size)
   refine HI (by omega) ?_
   obtain ⟨u,hu,_⟩ := byte_at (show AN s < s.size by omega)
   have hO : FY s = decide (s.data[AN s]? = some 46 ∧ 0 < AN (s.extract (AN s + 1) s.size) ∧ AN s + 1 + AN (s.extract (AN s + 1) s.size) = s.size ∧ AN s + AN (s.extract (AN s + 1) s.size) ≤ 15) := by unfold FY; rw [if_neg (by omega),if_neg hn,if_neg (by omega)]
   rw [hO,hu] at h
   generalize AN (s.extract (AN s + 1) s.size) = m at *
   have b46 := JT (u := u) (k := 46) (by decide)
   have no : ¬ (u = 46 ∧ 0 < m ∧ AN s + 1 + m = s.size ∧ AN s + m ≤ 15) → R (.returned (.bool false)) σ := fun hh => by
     rw [decide_eq_false (by rw [Option.some.injEq]; exact hh)] at h; exact h
   refine ⟨_,rfl,u,by omega,by simpa using hu,fun VN => ⟨fun h0m => ⟨by unfold AI; omega,by unfold AI; omega,fun hs => ⟨by unfold AI; omega,?_⟩,fun hs => no fun g => hs (by omega)⟩,fun h0m => no fun g => h0m (by omega)⟩,fun VN => no fun g => VN (b46.2 g.1)⟩
   rw [show decide (some u = some 46 ∧ 0 < m ∧ AN s + 1 + m = s.size ∧ AN s + m ≤ 15) = decide (((AN s : Int) + m) ≤ 15) from decide_eq_decide.2 ⟨fun g => by omega,fun g => ⟨by rw [b46.1 VN]; rfl,by omega,by omega,by omega⟩⟩] at h
   exact h
 refine No.start ⟨fun h1 => ?_,fun h1 => ⟨false,rfl,fun ht => (by cases ht),fun _ => tail (by omega)⟩⟩
 obtain ⟨u,hu,_⟩ := byte_at (show 0 < s.size by omega)
 have Qa := JT (u := u) (k := 48) (by decide)
 have CU : (s.extract 0 (AN s)).data[0]? = some u := by
   rw [ByteArray.data_extract,Array.getElem?_extract]
   rw [if_pos (by have : s.data.size = s.size := rfl; omega)]
   simpa using hu
 refine ⟨u,by omega,by simpa using CU,_,rfl,fun ht => ?_,fun hf => tail ?_⟩
 · have := Qa.1 (of_decide_eq_true ht)
   rw [show FY s = false by unfold FY; rw [if_neg (by omega),if_pos ⟨by omega,by rw [hu,this]; rfl⟩]] at h; exact h
 · rintro ⟨_,g⟩
   rw [hu,Option.some.injEq] at g
   exact of_decide_eq_false hf (Qa.2 g)
end
end TwW
end
section
namespace TwW
open Go Tw Go.RowKit Go.Proofs.Tryz
def F6 (n : Nd) : Bool :=
 if n.kind = 1 then FY n.text else if n.kind = 2 then Mk n.back 0 else if n.kind = 3 then Mk n.width 1 && Mk n.back 0
 else if n.kind = 4 then decide (n.parts = 1 ∧ 1 ≤ n.op ∧ n.op ≤ 12)
 else if n.kind = 5 then decide (n.parts = 1 ∧ 1 ≤ n.op ∧ n.op ≤ 5 ∧ (n.Ea = 0 ∨ n.Ea = 1 ∨ n.Ea = 2))
 else if n.kind = 6 then decide (n.parts = 2 ∧ 1 ≤ n.op ∧ n.op ≤ 13 ∧ (n.Ea = 0 ∨ n.Ea = 3 ∨ n.Ea = 4)) && (!n.bool || E2 n.op)
 else decide (n.kind = 7 ∧ n.parts = 1)
def FJ (n : Nd) : Bool := GM n (BN n) && PK CE n && !(decide (0 < n.mt.length) && decide (n.kind ≠ 2) && decide (n.kind ≠ 3)) && F6 n
section
variable {σ : Hp} {R : Rr}
theorem ib {n : Nd} {p q : Option Addr} {k c m d : Nat} (hk : n.mt.length = k) (hr : E9 1 σ q m (n.names.map .string)) (hb : n.text.size ≤ 4611686018427387904) (h : ∀ σ',Ext σ σ' → R (.returned (.bool (FJ n))) σ') : Spec prog 79 #[MU n p k c q m d] σ R := by
 refine Rz.start fun _ => ia fun σ1 hx => ⟨_,_,_,_,_,_,_,_,_,_,_,_,_,_,rfl,cu ⟨_,rfl,fun hf => ?_,fun ht => ct (hr.mono hx) ⟨_,rfl,fun hf => ?_,fun hn => ?_⟩⟩⟩
 · have := h σ1 hx; rw [show FJ n = false by unfold FJ; rw [hf]; rfl] at this; exact this
 · have := h σ1 hx; rw [show FJ n = false by unfold FJ; rw [ht,hf]; rfl] at this; exact this
 have hh := h σ1 hx
 have e : FJ n = (!(decide (0 < n.mt.length) && decide (n.kind ≠ 2) && decide (n.kind ≠ 3)) && F6 n) := by unfold FJ; rw [ht,hn]; rfl
 rw [e] at hh
 clear e h
 have fin : ¬ (0 < n.mt.length ∧ n.kind ≠ 2 ∧ n.kind ≠ 3) → ∀ t,F6 n = t → R (.returned (.bool t)) σ1 := fun EB t ht => by
   have e2 : (!(decide (0 < n.mt.length) && decide (n.kind ≠ 2) && decide (n.kind ≠ 3))) = true := by
     rw [Bool.not_eq_true',Bool.eq_false_iff]
     intro hc
     simp only [Bool.and_eq_true,decide_eq_true_eq] at hc
     exact EB ⟨hc.1.1,hc.1.2,hc.2⟩
   rw [e2,Bool.true_and,ht] at hh; exact hh
 refine ⟨fun hm => ⟨fun h2 => ⟨fun h3 => ?_,fun h3 => ?_⟩,fun h2 => ?_⟩,fun hm => ?_⟩
 · rw [show (!(decide (0 < n.mt.length) && decide (n.kind ≠ 2) && decide (n.kind ≠ 3))) = false by rw [decide_eq_true (show 0 < n.mt.length by omega),decide_eq_true h2,decide_eq_true h3]; rfl,Bool.false_and] at hh
   exact hh
 all_goals
   have fin := fin (by omega)
   clear hh ht hn
   refine ⟨fun k1 => LZ hb ⟨_,rfl,?_⟩,fun k1 => ⟨fun k2 => PL ⟨_,rfl,?_⟩,fun k2 => ⟨fun k3 => PL ⟨_,rfl,fun ht => PL ⟨_,rfl,?_⟩,fun hf => ?_⟩,fun k3 => ⟨fun k4 => ⟨fun hp => ⟨fun ho => ?_,fun ho => ?_⟩,fun hp => ?_⟩,fun k4 => ⟨fun k5 => ⟨fun hp => ⟨fun ho => ⟨fun Ba => ⟨fun g0 => ?_,fun g0 => ⟨fun g1 => ?_,fun g1 => ?_⟩⟩,fun Ba => ?_⟩,fun ho => ?_⟩,fun hp => ?_⟩,fun k5 => ⟨fun k6 => ⟨fun hp => ⟨fun ho => ⟨fun Ba => ⟨fun g0 => ⟨fun bf => ?_,fun bt => Cm ⟨_,rfl,?_⟩⟩,fun g0 => ⟨fun g3 => ⟨fun bf => ?_,fun bt => Cm ⟨_,rfl,?_⟩⟩,fun g3 => ⟨fun g4 => ⟨fun bf => ?_,fun bt => Cm ⟨_,rfl,?_⟩⟩,fun g4 => ?_⟩⟩⟩,fun Ba => ?_⟩,fun ho => ?_⟩,fun hp => ?_⟩,fun k6 => ⟨fun k7 => ?_,fun k7 => ?_⟩⟩⟩⟩⟩⟩⟩ <;> (refine fin _ ?_; clear fin; unfold F6; simp [*])
end
end TwW
end
section
namespace TwW
open Go Tw Go.RowKit Go.Proofs.Tryz
section
variable {σ : Hp} {R : Rr}
abbrev tyV (x : Int × Int) : Value := .tuple #[.int .i64 x.1,.int .i64 x.2]
def ZS (n : Nd) (a : Int) : Int × Int := if a = (if n.op = 11 ∨ n.op = 12 then 2 else 3) then (2,0) else (0,191)
def fa (a : Int) : Int × Int := if a = 2 then (2,0) else (0,191)
def oe (a : Int) : Int × Int := if a = 3 then (0,191) else (a,0)
theorem cw {w : Option Addr} {n : Nd} {p q r : Option Addr} {k c m d s t : Nat} {l : List Int} {a : Int} (hr : FH .i64 σ r s l) (ha : l[0]? = some a) (h : R (.returned (tyV (ZS n a))) σ) : Spec prog 82 #[.pointer w,MU n p k c q m d,.slice r s t] σ R := by
 have hs : l.length = s := hr.1
 have h0 := (List.getElem?_eq_some_iff.1 ha).1
 obtain ⟨b,o,rfl,Du⟩ := FH.at hr ha
 have go : ∀ z : Int,(if n.op = 11 ∨ n.op = 12 then 2 else 3) = z → Bs.FG R (some ⟨b,o,none⟩) s t z σ := fun z hz => by
   unfold ZS at h
   rw [hz] at h
   refine Bs.Ff ⟨b,o,rfl,by omega,a,by simpa using Du,fun A6 => ?_,fun heq => ?_⟩
   · rw [if_neg A6] at h; exact h
   · rw [if_pos (Decidable.not_not.1 heq)] at h; exact h
 exact Bs.start fun _ => ⟨fun h1 => go 2 (if_pos (.inl h1)),fun h1 => ⟨fun h2 => go 2 (if_pos (.inr h2)),fun h2 => go 3 (if_neg (by omega))⟩⟩
theorem ic {w : Option Addr} {n : Nd} {p q r : Option Addr} {k c m d s t : Nat} {l : List Int} {a : Int} (hr : FH .i64 σ r s l) (ha : l[0]? = some a) (h : R (.returned (tyV (fa a))) σ) : Spec prog 83 #[.pointer w,MU n p k c q m d,.slice r s t] σ R := by
 have hs : l.length = s := hr.1
 have h0 := (List.getElem?_eq_some_iff.1 ha).1
 obtain ⟨b,o,rfl,Du⟩ := FH.at hr ha
 unfold fa at h
 refine Eh.start fun _ => ⟨b,o,rfl,by omega,a,by simpa using Du,fun A6 => ?_,fun heq => ?_⟩
 · rw [if_neg A6] at h; exact h
 · rw [if_pos (Decidable.not_not.1 heq)] at h; exact h
theorem ig {w : Option Addr} {n : Nd} {p q r : Option Addr} {k c m d s t : Nat} {l : List Int} {a : Int} (hr : FH .i64 σ r s l) (ha : l[0]? = some a) (h : R (.returned (tyV (oe a))) σ) : Spec prog 85 #[.pointer w,MU n p k c q m d,.slice r s t] σ R := by
 have hs : l.length = s := hr.1
 have h0 := (List.getElem?_eq_some_iff.1 ha).1
 obtain ⟨b,o,rfl,Du⟩ := FH.at hr ha
 unfold oe at h
 refine Ey.start fun _ => ⟨b,o,rfl,by omega,a,by simpa using Du,fun heq => ?_,fun A6 => ⟨by omega,a,by simpa using Du,?_⟩⟩
 · rw [if_pos heq] at h; exact h
 · rw [if_neg A6] at h; exact h
end
end TwW
end
section
namespace TwW
open Go Tw Go.RowKit Go.Proofs.Tryz
section
variable {σ : Hp} {R : Rr}
def ij (n : Nd) (a b : Int) : Int × Int := if a = 3 ∨ b = 3 ∨ ((11 ≤ n.op ∧ n.op ≤ 13 ∨ n.Ea ≠ 0) ∧ ¬ (a = 2 ∧ b = 2)) ∨ (a = 1 ∧ b = 1 ∧ E2 n.op = true ∧ n.bool = false) then (0,192) else (if a < b then b else a,0)
theorem ik {w : Option Addr} {n : Nd} {p q r : Option Addr} {k c m d s t : Nat} {l : List Int} {a b : Int} (hr : FH .i64 σ r s l) (ha : l[0]? = some a) (hb : l[1]? = some b) (h : R (.returned (tyV (ij n a b))) σ) : Spec prog 84 #[.pointer w,MU n p k c q m d,.slice r s t] σ R := by
 have hs : l.length = s := hr.1
 have h1 := (List.getElem?_eq_some_iff.1 hb).1
 obtain ⟨b1,o,rfl,Du⟩ := FH.at hr ha
 obtain ⟨_,_,he,ANB⟩ := FH.at hr hb
 cases he
 have bad : a = 3 ∨ b = 3 ∨ ((11 ≤ n.op ∧ n.op ≤ 13 ∨ n.Ea ≠ 0) ∧ ¬ (a = 2 ∧ b = 2)) ∨ (a = 1 ∧ b = 1 ∧ E2 n.op = true ∧ n.bool = false) → R (.returned (.tuple #[.int .i64 0,.int .i64 192])) σ := fun hh => by
   unfold ij at h; rw [if_pos hh] at h; exact h
 have good : ¬ (a = 3 ∨ b = 3 ∨ ((11 ≤ n.op ∧ n.op ≤ 13 ∨ n.Ea ≠ 0) ∧ ¬ (a = 2 ∧ b = 2)) ∨ (a = 1 ∧ b = 1 ∧ E2 n.op = true ∧ n.bool = false)) → R (.returned (.tuple #[.int .i64 (if a < b then b else a),.int .i64 0])) σ := fun hh => by
   unfold ij at h; rw [if_neg hh] at h; exact h
 clear h
 refine Er.start fun _ => ⟨b1,o,rfl,by omega,a,by simpa using Du,by omega,b,by simpa using ANB,?_⟩
 repeat' first
   | (apply QE; refine Exists.intro _ (And.intro rfl ?_))
   | (apply Cm; refine Exists.intro _ (And.intro rfl ?_))
   | (apply And.intro <;> intro _)
 all_goals first
   | (refine bad ?_; simp_all; done)
   | (refine good ?_; simp_all; done)
   | (refine bad ?_; simp_all; omega)
   | (refine good ?_; simp_all; omega)
end
end TwW
end
section
namespace TwW
open Go Tw Go.RowKit Go.Proofs.Tryz
theorem DR.en : Enters prog 96 := fun args w => call96 args w
theorem D4.en : Enters prog 153 := fun args w => call153 args w
theorem DS.en : Enters prog 159 := fun args w => call159 args w
theorem Bc.en : Enters prog 230 := fun args w => call230 args w
theorem BR.en : Enters prog 294 := fun args w => call294 args w
theorem Eh.en : Enters prog 83 := fun args w => call83 args w
theorem G2.en : Enters prog 155 := fun args w => call155 args w
theorem BU.en : Enters prog 187 := fun args w => call187 args w
theorem JG.en : Enters prog 226 := fun args w => call226 args w
theorem JI.en : Enters prog 145 := fun args w => call145 args w
theorem Bs.en : Enters prog 82 := fun args w => call82 args w
theorem DI.en : Enters prog 105 := fun args w => call105 args w
theorem DW.en : Enters prog 139 := fun args w => call139 args w
theorem DX.en : Enters prog 185 := fun args w => call185 args w
theorem DY.en : Enters prog 189 := fun args w => call189 args w
theorem Fg.en : Enters prog 224 := fun args w => call224 args w
theorem AU.en : Enters prog 103 := fun args w => call103 args w
theorem BL.en : Enters prog 106 := fun args w => call106 args w
theorem DZ.en : Enters prog 158 := fun args w => call158 args w
theorem Da.en : Enters prog 171 := fun args w => call171 args w
theorem Db.en : Enters prog 191 := fun args w => call191 args w
theorem Ep.en : Enters prog 217 := fun args w => call217 args w
theorem Er.en : Enters prog 84 := fun args w => call84 args w
theorem B9.en : Enters prog 100 := fun args w => call100 args w
theorem Eu.en : Enters prog 154 := fun args w => call154 args w
theorem Ga.en : Enters prog 198 := fun args w => call198 args w
theorem C0.en : Enters prog 212 := fun args w => call212 args w
theorem Ew.en : Enters prog 218 := fun args w => call218 args w
theorem Ag.en : Enters prog 101 := fun args w => call101 args w
theorem AQ.en : Enters prog 102 := fun args w => call102 args w
theorem Dd.en : Enters prog 127 := fun args w => call127 args w
theorem N0.en : Enters prog 144 := fun args w => call144 args w
theorem Fy.en : Enters prog 151 := fun args w => call151 args w
theorem G9.en : Enters prog 152 := fun args w => call152 args w
theorem ED.en : Enters prog 220 := fun args w => call220 args w
theorem CP.en : Enters prog 71 := fun args w => call71 args w
theorem Ey.en : Enters prog 85 := fun args w => call85 args w
theorem AO.en : Enters prog 104 := fun args w => call104 args w
theorem Dh.en : Enters prog 193 := fun args w => call193 args w
theorem EE.en : Enters prog 219 := fun args w => call219 args w
instance : oC prog 99 9 3 := ⟨underlying99,underlying9⟩
instance : oF.rC prog 150 3 148 := ⟨underlying150,underlying3⟩
instance : oF.rC prog 191 3 190 := ⟨underlying191,underlying3⟩
instance : oC prog 197 9 200 := ⟨underlying197,underlying9⟩
instance : oF.rC prog 202 3 201 := ⟨underlying202,underlying3⟩
instance : oC prog 243 9 71 := ⟨underlying243,underlying9⟩
end TwW
end
section
namespace TwW
open Go Go.MapKept Tw Go.RowKit Go.Proofs.Tryz
section
variable {P : Program} {σ σ' : Hp} {R : Rr}
def cz (x : Int × Value) (n : Nat) : MapEntry := { key := .int .i64 x.1,val := x.2,born := n }
def MI (σ : Hp) (m : Nat) (l : List (Int × Value)) : Prop := ∃ (bs : List Nat) (clock : Nat),bs.length = l.length ∧ oF.BV σ m (List.zipWith cz l bs) clock
theorem MI.loc {m : Nat} {l : List (Int × Value)} (h : MI σ m l) (hx : σ' m = σ m) : MI σ' m l := let ⟨bs,c,h1,h2⟩ := h; ⟨bs,c,h1,h2.loc hx⟩
theorem MI.known {m : Nat} {l : List (Int × Value)} (h : MI σ m l) : σ m ≠ none := let ⟨bs,c,h1,h2⟩ := h; by rw [h2.1]; simp
theorem MI.fresh {m : Nat} : MI (σ.set m (.map #[] 0)) m [] := ⟨[],0,rfl,oF.BV.fresh⟩
theorem MI.put {T K V : TypeId} [oF.rC P T K V] {m : Nat} {l : List (Int × Value)} {x : Int} {v : Value} {Φ : Unit → Hp → Prop} (h : MI σ m l) (hn : ∀ a ∈ l,a.1 ≠ x)
   (hΦ : ∀ o,MI (σ.set m o) m (l ++ [(x,v)]) → Φ () (σ.set m o)) : AK P (Instr.mapUpdate T (.map (some m)) (.int .i64 x) v) σ Φ := by
 obtain ⟨bs,clock,hb,hm⟩ := h
 refine oF.Hx hm (fun EB σ' hσ xN => ?_) fun l1 e l2 hl he σ' hσ xN => ?_
 · subst hσ
   refine hΦ _ ⟨bs ++ [clock],clock + 1,by simp [hb],?_⟩
   rw [List.zipWith_append hb.symm]
   exact xN
 · have og : e ∈ List.zipWith cz l bs := by rw [hl]; simp
   obtain ⟨i,hi⟩ := List.mem_iff_getElem?.1 og
   rw [List.getElem?_zipWith] at hi
   cases tc : l[i]? with
   | none => rw [tc] at hi; cases hi
   | some a =>
     cases hbi : bs[i]? with
     | none => rw [tc,hbi] at hi; cases hi
     | some b =>
       rw [tc,hbi] at hi
       simp only [Option.some.injEq] at hi
       subst hi
       have := hn a (List.mem_of_getElem? tc)
       simp only [cz,Value.int.injEq,true_and] at he
       exact absurd he this
theorem MI.look {T K V : TypeId} [oF.rC P T K V] {m : Nat} {l : List (Int × Value)} {x : Int} {z : Value} {Φ : Value → Hp → Prop} (h : MI σ m l) (hz : ∀ w,(zeroValue V).run P w = .ok z w)
   (h0 : (∀ a ∈ l,a.1 ≠ x) → Φ z σ) (h1 : ∀ v,(x,v) ∈ l → Φ v σ) : AK P (Instr.lookup T (.map (some m)) (.int .i64 x) false) σ Φ := by
 obtain ⟨bs,clock,hb,hm⟩ := h
 refine oF.M6 hm hz (fun EB => h0 fun a ha hax => ?_) fun l1 e l2 hl he => ?_
 · obtain ⟨i,hi⟩ := List.mem_iff_getElem?.1 ha
   have Ap := (List.getElem?_eq_some_iff.1 hi).1
   have hm : cz a (bs[i]'(by omega)) ∈ List.zipWith cz l bs := List.mem_iff_getElem?.2 ⟨i,by rw [List.getElem?_zipWith,hi,List.getElem?_eq_getElem (by omega)]⟩
   exact EB _ hm (by rw [← hax]; rfl)
 · have og : e ∈ List.zipWith cz l bs := by rw [hl]; simp
   obtain ⟨i,hi⟩ := List.mem_iff_getElem?.1 og
   rw [List.getElem?_zipWith] at hi
   cases tc : l[i]? with
   | none => rw [tc] at hi; cases hi
   | some a =>
     cases hbi : bs[i]? with
     | none => rw [tc,hbi] at hi; cases hi
     | some b =>
       rw [tc,hbi] at hi
       simp only [Option.some.injEq] at hi
       subst hi
       simp only [cz,Value.int.injEq,true_and] at he
       subst he
       exact h1 a.2 (List.mem_of_getElem? tc)
def oh (τ σ : Hp) (m : Nat) (l : List (Int × Value)) : Prop := Ext τ σ ∧ τ m = none ∧ MI σ m l
theorem oh.fresh {τ : Hp} {m : Nat} (h : τ m = none) : oh τ (τ.set m (.map #[] 0)) m [] := ⟨.set h,h,MI.fresh⟩
theorem oh.alloc {τ : Hp} {m b : Nat} {l : List (Int × Value)} {o : Obj} (h : oh τ σ m l) (hb : σ b = none) : oh (τ.set b o) (σ.set b o) m l := by
 have A6 : m ≠ b := fun e => h.2.2.known (by rw [e]; exact hb)
 refine ⟨fun k u hk => ?_,by rw [Hp.AJ A6]; exact h.2.1,h.2.2.loc (Hp.AJ A6)⟩
 by_cases HZ : k = b
 · subst HZ; rw [Hp.AB] at hk ⊢; exact hk
 · rw [Hp.AJ HZ] at hk ⊢; exact h.1 _ _ hk
theorem oh.put {τ : Hp} {T K V : TypeId} [oF.rC P T K V] {m : Nat} {l : List (Int × Value)} {x : Int} {v : Value} {Φ : Unit → Hp → Prop} (h : oh τ σ m l) (hn : ∀ a ∈ l,a.1 ≠ x)
   (hΦ : ∀ σ',oh τ σ' m (l ++ [(x,v)]) → Φ () σ') : AK P (Instr.mapUpdate T (.map (some m)) (.int .i64 x) v) σ Φ :=
 h.2.2.put hn fun o ho => hΦ _ ⟨fun k u hk => by rw [Hp.AJ (fun e => by rw [e,h.2.1] at hk; cases hk)]; exact h.1 _ _ hk,h.2.1,ho⟩
section
variable {α : Type}
theorem TV {l : List (ByteArray × α)} {k : ByteArray} (h : ∀ a ∈ l,a.1 ≠ k) : Dn l k = none := by
 induction l with
 | nil => rfl
 | cons a l ih => rw [Dn,if_neg (h a (by simp))]; exact ih fun b hb => h b (List.mem_cons_of_mem _ hb)
theorem VO {l m : List (ByteArray × α)} {k : ByteArray} {y : α} (h : ∀ a ∈ l,a.1 ≠ k) : Dn (l ++ (k,y) :: m) k = some y := by
 induction l with
 | nil => simp [Dn]
 | cons a l ih => rw [List.cons_append,Dn,if_neg (h a (by simp))]; exact ih fun b hb => h b (List.mem_cons_of_mem _ hb)
theorem PN {l : List (ByteArray × α)} {k : ByteArray} {y : α} (h : ∀ a ∈ l,a.1 ≠ k) : Wf l k y = l ++ [(k,y)] := by
 induction l with
 | nil => rfl
 | cons a l ih => rw [Wf,if_neg (h a (by simp)),ih fun b hb => h b (List.mem_cons_of_mem _ hb)]; rfl
theorem ZT {l m : List (ByteArray × α)} {k : ByteArray} {y z : α} (h : ∀ a ∈ l,a.1 ≠ k) : Wf (l ++ (k,z) :: m) k y = l ++ (k,y) :: m := by
 induction l with
 | nil => simp [Wf]
 | cons a l ih => rw [List.cons_append,Wf,if_neg (h a (by simp)),ih fun b hb => h b (List.mem_cons_of_mem _ hb)]; rfl
def MS (E : Value → α → Prop) (σ : Hp) (m : Nat) (L : List (ByteArray × α)) : Prop :=
 ∃ (l : List MapEntry) (clock : Nat),BV σ m l clock ∧ l.length = L.length ∧ ∀ (i : Nat) (e : MapEntry) (x : ByteArray × α),l[i]? = some e → L[i]? = some x → e.key = .string x.1 ∧ E e.val x.2
theorem MS.mono {E : Value → α → Prop} {m : Nat} {L : List (ByteArray × α)} (h : MS E σ m L) (hx : Ext σ σ') : MS E σ' m L := let ⟨l,c,h1,h2⟩ := h; ⟨l,c,h1.mono hx,h2⟩
theorem MS.loc {E : Value → α → Prop} {m : Nat} {L : List (ByteArray × α)} (h : MS E σ m L) (hx : σ' m = σ m) : MS E σ' m L := let ⟨l,c,h1,h2⟩ := h; ⟨l,c,h1.loc hx,h2⟩
theorem MS.imp {E E' : Value → α → Prop} {m : Nat} {L : List (ByteArray × α)} (h : MS E σ m L) (hE : ∀ v x,E v x → E' v x) : MS E' σ m L := let ⟨l,c,h1,h2,h3⟩ := h; ⟨l,c,h1,h2,fun i e x he hx => ⟨(h3 i e x he hx).1,hE _ _ (h3 i e x he hx).2⟩⟩
theorem MS.known {E : Value → α → Prop} {m : Nat} {L : List (ByteArray × α)} (h : MS E σ m L) : σ m ≠ none := let ⟨l,c,h1,h2⟩ := h; by rw [h1.1]; simp
theorem MS.fresh {E : Value → α → Prop} {m : Nat} : MS E (σ.set m (.map #[] 0)) m [] := ⟨[],0,BV.fresh,rfl,fun i e x he => by simp at he⟩
theorem MS.len {E : Value → α → Prop} {T K V ty : TypeId} [oC P T K V] {m : Nat} {L : List (ByteArray × α)} (h : MS E σ m L) : YF P (Builtin.len_ #[T] ty #[.map (some m)]) σ (.int .i64 L.length) := by
 obtain ⟨l,c,h1,h2,h3⟩ := h
 rw [← h2]; exact oD h1
theorem TW {E : Value → α → Prop} {l l1 l2 : List MapEntry} {e : MapEntry} {L : List (ByteArray × α)} {s : ByteArray} (hn : (l.map (·.key)).Nodup) (h2 : l.length = L.length) (h3 : ∀ (i : Nat) (e : MapEntry) (x : ByteArray × α),l[i]? = some e → L[i]? = some x → e.key = .string x.1 ∧ E e.val x.2) (hl : l = l1 ++ e :: l2) (he : e.key = .string s) :
   ∃ L1 x L2,L = L1 ++ (s,x) :: L2 ∧ L1.length = l1.length ∧ (∀ a ∈ L1,a.1 ≠ s) ∧ E e.val x := by
 subst hl
 have Ap : l1.length < L.length := by rw [← h2]; simp
 have ND : L = L.take l1.length ++ L[l1.length] :: L.drop (l1.length + 1) := by rw [List.getElem_cons_drop,List.take_append_drop]
 have hx := h3 l1.length e L[l1.length] (by simp) (List.getElem?_eq_getElem _)
 rw [he] at hx
 have hk : L[l1.length].1 = s := by simpa using hx.1.symm
 refine ⟨L.take l1.length,L[l1.length].2,L.drop (l1.length + 1),?_,by rw [List.length_take]; omega,fun a ha has => ?_,hx.2⟩
 · rw [← hk]; exact ND
 · obtain ⟨i,hi⟩ := List.mem_iff_getElem?.1 ha
   rw [List.getElem?_take] at hi
   split at hi
   · rename_i xO
     have hle : (l1 ++ e :: l2)[i]? = some (l1[i]'xO) := by rw [List.getElem?_append_left xO,List.getElem?_eq_getElem xO]
     have h4 := (h3 i _ a hle hi).1
     rw [List.map_append,List.map_cons,List.nodup_append] at hn
     exact hn.2.2 _ (List.mem_map.2 ⟨l1[i]'xO,List.getElem_mem xO,rfl⟩) _ (by simp; exact .inl rfl) (by rw [h4,he,has])
   · cases hi
theorem MS.te {E : Value → α → Prop} {l : List MapEntry} {L : List (ByteArray × α)} {s : ByteArray} (h2 : l.length = L.length) (h3 : ∀ (i : Nat) (e : MapEntry) (x : ByteArray × α),l[i]? = some e → L[i]? = some x → e.key = .string x.1 ∧ E e.val x.2) (EB : ∀ e ∈ l,e.key ≠ .string s) : ∀ a ∈ L,a.1 ≠ s := fun a ha has => by
 obtain ⟨i,hi⟩ := List.mem_iff_getElem?.1 ha
 have Ap := (List.getElem?_eq_some_iff.1 hi).1
 have := (h3 i (l[i]'(by omega)) a (List.getElem?_eq_getElem _) hi).1
 exact EB _ (List.getElem_mem _) (by rw [this,has])
theorem MS.look {E : Value → α → Prop} {T K V : TypeId} [oC P T K V] {m : Nat} {L : List (ByteArray × α)} {s : ByteArray} {z : Value} {Φ : Value → Hp → Prop} (h : MS E σ m L) (hz : ∀ w,(zeroValue V).run P w = .ok z w)
   (h0 : Dn L s = none → Φ z σ) (h1 : ∀ v x,Dn L s = some x → E v x → Φ v σ) : AK P (Instr.lookup T (.map (some m)) (.string s) false) σ Φ := by
 obtain ⟨l,c,hm,h2,h3⟩ := h
 refine M6 hm hz (fun EB => h0 (TV (MS.te h2 h3 EB))) fun l1 e l2 hl he => ?_
 obtain ⟨L1,x,L2,rfl,_,EB,hE⟩ := TW hm.nodup h2 h3 hl he
 exact h1 e.val x (VO EB) hE
theorem MS.ZU {E : Value → α → Prop} {T K V : TypeId} [t : oC P T K V] {m : Nat} {L : List (ByteArray × α)} {s : ByteArray} {z : Value} {Φ : Value → Hp → Prop} (h : MS E σ m L) (hz : ∀ w,(zeroValue V).run P w = .ok z w)
   (h0 : Dn L s = none → Φ (.tuple #[z,.bool false]) σ) (h1 : ∀ v x,Dn L s = some x → E v x → Φ (.tuple #[v,.bool true]) σ) : AK P (Instr.lookup T (.map (some m)) (.string s) true) σ Φ := by
 obtain ⟨l,c,hm,h2,h3⟩ := h
 rcases FW (s := s) hm.2.2 with ⟨hf,EB⟩ | ⟨l1,e,l2,hl,he,hf⟩
 · refine AK.pu (fun w hs => ?_) (h0 (TV (MS.te h2 h3 EB)))
   have := hs _ _ hm.1
   simp [Instr.lookup,run_underlying t.eC,run_getObj_map this,run_checkKey t.key (k := .string s) trivial,run_findKey t.key hf,hz,Result.andThen]
 · obtain ⟨L1,x,L2,rfl,_,EB,hE⟩ := TW hm.nodup h2 h3 hl he
   refine AK.pu (fun w hs => ?_) (h1 e.val x (VO EB) hE)
   have := hs _ _ hm.1
   simp [Instr.lookup,run_underlying t.eC,run_getObj_map this,run_checkKey t.key (k := .string s) trivial,run_findKey t.key hf,Result.andThen]
theorem MS.put {E : Value → α → Prop} {T K V : TypeId} [oC P T K V] {m : Nat} {L : List (ByteArray × α)} {s : ByteArray} {v : Value} {x : α} {Φ : Unit → Hp → Prop} (h : MS E σ m L) (hv : E v x)
   (hΦ : ∀ o,MS E (σ.set m o) m (Wf L s x) → Φ () (σ.set m o)) : AK P (Instr.mapUpdate T (.map (some m)) (.string s) v) σ Φ := by
 obtain ⟨l,c,hm,h2,h3⟩ := h
 refine Hx hm (fun EB σ' hσ xN => ?_) fun l1 e l2 hl he σ' hσ xN => ?_
 · subst hσ
   refine hΦ _ ⟨_,_,xN,?_,fun i e y hi hy => ?_⟩
   · rw [PN (MS.te h2 h3 EB)]; simp [h2]
   · rw [PN (MS.te h2 h3 EB)] at hy
     rw [List.getElem?_append] at hi hy
     split at hi
     · rename_i Ap
       rw [if_pos (by omega)] at hy
       exact h3 i e y hi hy
     · rename_i Ap
       rw [if_neg (by omega)] at hy
       rw [← h2] at hy
       cases hj : i - l.length with
       | zero =>
         rw [hj] at hi hy
         simp only [List.getElem?_cons_zero,Option.some.injEq] at hi hy
         subst hi; subst hy
         exact ⟨rfl,hv⟩
       | succ j => rw [hj] at hi; simp at hi
 · obtain ⟨L1,y,L2,rfl,hlen,EB,hE⟩ := TW hm.nodup h2 h3 hl he
   subst hσ
   subst hl
   refine hΦ _ ⟨_,_,xN,?_,fun i e' z hi hz => ?_⟩
   · rw [ZT EB]; simp at h2 ⊢; omega
   · rw [ZT EB] at hz
     by_cases xO : i = l1.length
     · subst xO
       rw [← hlen] at hz
       simp at hi hz
       subst hi; subst hz
       exact ⟨rfl,hv⟩
     · have e1 : (l1 ++ Tw.Nb s v e.born :: l2)[i]? = (l1 ++ e :: l2)[i]? := by
         rcases Nat.lt_or_ge i l1.length with h | h
         · rw [List.getElem?_append_left h,List.getElem?_append_left h]
         · obtain ⟨k,rfl⟩ : ∃ k,i = l1.length + (k + 1) := ⟨i - l1.length - 1,by omega⟩
           simp [List.getElem?_append_right]
       have e2 : (L1 ++ (s,x) :: L2)[i]? = (L1 ++ (s,y) :: L2)[i]? := by
         rcases Nat.lt_or_ge i L1.length with h | h
         · rw [List.getElem?_append_left h,List.getElem?_append_left h]
         · obtain ⟨k,rfl⟩ : ∃ k,i = L1.length + (k + 1) := ⟨i - L1.length - 1,by omega⟩
           simp [List.getElem?_append_right]
       exact h3 i e' z (by rw [← e1]; exact hi) (by rw [← e2]; exact hz)
end
end
end TwW
end
section
namespace TwW
open Go Tw Go.RowKit Go.Proofs.Tryz
def Ob (n : Nd) (l : List Int) : Int × Int :=
 if n.kind = 1 then (1,0) else if n.kind = 2 then (2,0) else if n.kind = 3 then (3,0) else if n.kind = 4 then ZS n (l[0]?.getD 0) else if n.kind = 5 then fa (l[0]?.getD 0)
 else if n.kind = 6 then ij n (l[0]?.getD 0) (l[1]?.getD 0) else oe (l[0]?.getD 0)
def BS (n : Nd) (st : List Int) : Int × List Int :=
 if FJ n = false ∨ (st.length : Int) < n.parts then (190,st) else if HH CE n.mt ≠ 0 then (193,st) else
   ((Ob n (st.drop (st.length - n.parts.toNat))).2,st.take (st.length - n.parts.toNat) ++ [(Ob n (st.drop (st.length - n.parts.toNat))).1])
theorem Ih {n : Nd} (h : FJ n = true) : F6 n = true := by
 unfold FJ at h
 simp only [Bool.and_eq_true] at h
 exact h.2
theorem PO {n : Nd} (h : FJ n = true) : GM n (BN n) = true := by
 unfold FJ at h
 simp only [Bool.and_eq_true] at h
 exact h.1.1.1
theorem A8.AJ {s b : Nat} {o : Obj} {σ : Hp} {p : Option Addr} {n c : Nat} {cs : List Value} (ho : A8 s σ p n c cs) (h : ∀ a,p = some a → a.block ≠ b) : A8 s (σ.set b o) p n c cs :=
 ⟨ho.1,ho.2.1,ho.2.2.imp id fun ⟨b',o',arr,T,hp,hb,r⟩ => ⟨b',o',arr,T,hp,by rw [Hp.AJ (h _ hp)]; exact hb,r⟩⟩
theorem tf : ∀ w,(zeroValue 148).run prog w = .ok .nilFunc w := fun w => by
 have h : prog.info? 148 = some t148 := by kernel_rfl
 simp [zeroValue,typeInfo,h]
 rfl
structure dA (σ0 σ : Hp) (wb : Nat) (p : Option Addr) (n c : Nat) (st : List Int) : Prop where
 cell : σ wb = some (.cells #[.slice p n c] 110 (0,0))
 own : D2 .i64 σ p n c st
 off : ∀ a,p = some a → a.block ≠ wb ∧ σ0 a.block = none
 new : σ0 wb = none
 ext : Ext σ0 σ
section
variable {σ σ' σ0 : Hp} {R : Rr}
theorem dA.mono {wb : Nat} {p : Option Addr} {n c : Nat} {st : List Int} (h : dA σ0 σ wb p n c st) (hx : Ext σ σ') : dA σ0 σ' wb p n c st := ⟨hx _ _ h.cell,h.own.mono hx,h.off,h.new,h.ext.trans hx⟩
theorem PQ {k : Int} (h : ∀ b,σ b = none → R (.returned (.func (.func 127) #[] #[.pointer (aD b 0)])) (σ.set b (.cells #[.int .i64 k] 3 (0,0)))) : Spec prog 81 #[.int .i64 k] σ R := S2.start h
theorem NF {n : Nd} {p q r : Option Addr} {k c m d s t b : Nat} {v : Int} (hb : σ b = some (.cells #[.int .i64 v] 3 (0,0))) (h : R (.returned (tyV (v,0))) σ) : Spec prog 127 #[MU n p k c q m d,.slice r s t,.pointer (aD b 0)] σ R :=
 Dd.start fun _ => ⟨v,Af hb rfl,h⟩
theorem tg : ∀ w,(Go.sizeOf 108).run prog w = .ok 1 w := fun w => by kernel_rfl
theorem il {wb : Nat} {p q r : Option Addr} {k c m d j e : Nat} {st : List Int} {n : Nd} (hW : dA σ0 σ wb r j e st) (hm : Ae 3 Oa σ0 p k n.mt) (hr : E9 1 σ0 q m (n.names.map .string)) (hb : n.text.size ≤ 4611686018427387904) (hj : j ≤ 1000000000000)
   (h : ∀ r' j' e' σ',(BS n st).1 = 0 → dA σ0 σ' wb r' j' e' (BS n st).2 → R (.returned (.int .i64 0)) σ') (h' : ∀ σ',(BS n st).1 ≠ 0 → Ext σ0 σ' → R (.returned (.int .i64 (BS n st).1)) σ') :
   Spec prog 53 #[.pointer (some ⟨wb,0,none⟩),MU n p k c q m d] σ R := by
 have hk : n.mt.length = k := hm.1
 have hsl : st.length = j := by have := hW.own.1; simpa using this
 refine Jg.start fun _ => ib hk (hr.mono hW.ext) hb fun σ1 CH => ⟨_,rfl,fun hf => ?_,fun ht => ?_⟩
 · have e1 : BS n st = (190,st) := by unfold BS; rw [if_pos (.inl hf)]
   rw [e1] at h'
   exact h' σ1 (by dsimp only; decide) (hW.ext.trans CH)
 have hW1 := hW.mono CH
 refine ⟨wb,0,rfl,r,j,e,Af hW1.cell rfl,fun Ap => ?_,fun cM => QF (hm.mono Oa.mono hW1.ext) ⟨_,rfl,fun A6 => ?_,fun h0 => ?_⟩⟩
 · have e1 : BS n st = (190,st) := by unfold BS; rw [if_pos (.inr (by omega))]
   rw [e1] at h'
   exact h' σ1 (by dsimp only; decide) hW1.ext
 · have e1 : BS n st = (193,st) := by unfold BS; rw [if_neg (by rw [ht]; simp; omega),if_pos A6]
   rw [e1] at h'
   exact h' σ1 (by dsimp only; decide) hW1.ext
 have fU := Decidable.not_not.1 h0
 have eS : BS n st = ((Ob n (st.drop (st.length - n.parts.toNat))).2,st.take (st.length - n.parts.toNat) ++ [(Ob n (st.drop (st.length - n.parts.toNat))).1]) := by
   unfold BS; rw [if_neg (by rw [ht]; simp; omega),if_neg h0]
 rw [eS] at h h'
 dsimp only at h h'
 have C6 := Ih ht
 have AND : 0 ≤ n.parts := by
   unfold F6 at C6
   have hp := PO ht
   by_cases h1 : n.kind = 1
   · unfold GM BN at hp; simp [h1] at hp; omega
   by_cases h2 : n.kind = 2
   · unfold GM BN at hp; simp [h2] at hp; omega
   by_cases h3 : n.kind = 3
   · unfold GM BN at hp; simp [h3] at hp; omega
   rw [if_neg h1,if_neg h2,if_neg h3] at C6
   split at C6
   · simp at C6; omega
   · split at C6
     · simp at C6; omega
     · split at C6
       · simp at C6; omega
       · simp at C6; omega
 obtain ⟨t,hpt⟩ : ∃ t : Nat,n.parts = t := ⟨n.parts.toNat,by omega⟩
 have htj : t ≤ j := by omega
 have htn : n.parts.toNat = t := by omega
 rw [htn,hsl] at h h'
 refine EU fun mb ot => ⟨mb,rfl,?_⟩
 have s0 := oh.fresh ot
 refine PQ fun b1 aT => ⟨_,_,_,rfl,?_⟩
 have s1 := s0.alloc (o := .cells #[.int .i64 1] 3 (0,0)) aT
 refine s1.put (by simp) fun σ2 s2 => PQ fun b2 Pp => ⟨_,_,_,rfl,?_⟩
 have s3 := s2.alloc (o := .cells #[.int .i64 2] 3 (0,0)) Pp
 refine s3.put (by simp) fun σ4 s4 => PQ fun b3 aR => ⟨_,_,_,rfl,?_⟩
 have s5 := s4.alloc (o := .cells #[.int .i64 3] 3 (0,0)) aR
 refine s5.put (by simp) fun σ6 s6 => s6.put (by simp) fun σ7 s7 => s7.put (by simp) fun σ8 s8 => s8.put (by simp) fun σ9 s9 => s9.put (by simp) fun σA sA => ?_
 clear s0 s1 s3 s5 s6 s7 s8 s9
 have n1 : σ1 b1 = none := (Hp.AS aT).2
 have n2 : (σ1.set b1 (.cells #[.int .i64 1] 3 (0,0))) b2 = none := BD s2.1 Pp
 have n3 : ((σ1.set b1 (.cells #[.int .i64 1] 3 (0,0))).set b2 (.cells #[.int .i64 2] 3 (0,0))) b3 = none := BD s4.1 aR
 have x1 : Ext σ1 σA := (Ext.set n1).trans ((Ext.set n2).trans ((Ext.set n3).trans sA.1))
 have c3 := sA.1 b3 _ (Hp.AB _ _ _)
 have c2 := sA.1 b2 _ ((Ext.set n3) _ _ (Hp.AB _ _ _))
 have c1 := sA.1 b1 _ ((Ext.set n3) _ _ ((Ext.set n2) _ _ (Hp.AB _ _ _)))
 have iq := hW1.mono x1
 have hlA := sA.2.2
 clear s2 s4 sA n1 n2 n3 aT Pp aR
 simp only [List.nil_append,List.cons_append] at hlA
 have e1 : Int.toNat ((j : Int) - n.parts) = j - t := by omega
 refine ⟨r,j,e,Af iq.cell rfl,by unfold AI; omega,r,j,e,Af iq.cell rfl,by omega,?_⟩
 have hce : j ≤ e := A8.cap iq.own
 have OF : FH .i64 σA (Ip r (j - t) e 1) (j - (j - t)) (st.drop (j - t)) := by
   have := Ae.sub (i := j - t) (m := j - (j - t)) (D2.rd iq.own) (by decide) (by omega) hce
   rwa [List.take_of_length_le (by rw [List.length_drop]; omega)] at this
 have OF : FH .i64 σA (Ip r (Int.toNat ((j : Int) - n.parts)) e 1) (j - Int.toNat ((j : Int) - n.parts)) (st.drop (j - t)) := by rw [e1]; exact OF
 have fin : ∀ x : Int × Int,x = Ob n (st.drop (j - t)) → AA R (fun z bu => ∃ WD Hw,z = (.tuple #[.int .i64 WD,.int .i64 Hw]) ∧ LS bu wb 0 fun qs lR ey => ((0 : Int) ≤ ((j : Int) - n.parts) ∧ ((j : Int) - n.parts) ≤ (ey : Int)) ∧ Al bu fun V2 => AK prog (Builtin.append_ #[108,108] 108 #[(.slice qs (Int.toNat ((j : Int) - n.parts)) ey),(.slice (aD V2 0) 1 1)]) (Hp.set bu V2 (.cells #[.int .i64 WD] 113 (0,0))) (CS fun p72 n72 c72 zL => AK prog (Instr.storeAt 108 (.pointer (aD wb 0)) (.slice p72 n72 c72)) zL (fun _ zM => R (.returned (.int .i64 Hw)) zM))) (.returned (tyV x)) σA := fun x hx => by
   rw [← hx] at h h'
   refine ⟨x.1,x.2,rfl,r,j,e,Af iq.cell rfl,by omega,fun V2 ou => ?_⟩
   rw [e1]
   have Bg := (A8.take (m := j - t) iq.own (by omega)).mono (Ext.set (o := .cells #[.int .i64 x.1] 113 (0,0)) ou)
   refine DP Bg (We (f := .int .i64) (x := x.1) (Hp.AB _ _ _)) GX.Qv (by omega) fun p' c' σB hoB xP => ⟨_,_,_,rfl,?_⟩
   have hwb : ∀ a,r = some a → wb ≠ a.block := fun a ha => Ne.symm (iq.off a ha).1
   have Oc : wb ≠ V2 := fun e => by rw [← e,iq.cell] at ou; cases ou
   obtain ⟨g1,g2⟩ := AR.1 (xP wb _ (AR.2 ⟨hwb,(Ext.set ou) _ _ iq.cell⟩))
   have hE0 : Ext σ0 (σB.del p') := fun k u hk => xP k u (AR.2 ⟨fun a ha j0 => (by rw [j0,(iq.off a ha).2] at hk; cases hk),(Ext.set ou) _ _ (iq.ext _ _ hk)⟩)
   refine AK.store tg g2 rfl (by simp) (by simp [Value.cells,Value.oneCell']) ?_
   have th : dA σ0 (σB.set wb (.cells (NQ #[.slice r j e] 0 (Value.slice p' (j - t + 1) c').cells.toList) 110 (0,0))) wb p' (j - t + 1) c' (st.take (j - t) ++ [x.1]) := by
     refine ⟨by rw [Hp.AB]; simp [NQ,Value.cells],?_,fun a ha => ⟨fun e => g1 a ha e.symm,?_⟩,iq.new,fun k u hk => ?_⟩
     · have := A8.AJ (b := wb) (o := .cells (NQ #[.slice r j e] 0 (Value.slice p' (j - t + 1) c').cells.toList) 110 (0,0)) hoB (fun a ha e => g1 a ha e.symm)
       unfold D2
       rw [List.map_append,List.map_take]
       simpa using this
     · cases hh : σ0 a.block with
       | none => rfl
       | some u => exact absurd rfl ((AR.1 (hE0 _ _ hh)).1 a ha)
     · rw [Hp.AJ (fun e => by rw [e,iq.new] at hk; cases hk)]
       exact (AR.1 (hE0 _ _ hk)).2
   by_cases hz : x.2 = 0
   · rw [hz]; exact h _ _ _ _ hz th
   · exact h' _ hz th.ext
 have part : ∀ i,i < t → ∃ v,(st.drop (j - t))[i]? = some v := fun i hi => ⟨_,List.getElem?_eq_getElem (by rw [List.length_drop]; omega)⟩
 refine hlA.look tf (fun EB => ?_) fun v hv => ⟨v,rfl,Kp.Ho (.refl _),?_⟩
 · exfalso
   unfold F6 at C6
   have g := fun i => EB i
   simp only [List.mem_cons,List.not_mem_nil,or_false,forall_eq_or_imp,forall_eq] at EB
   obtain ⟨a1,a2,a3,a4,a5,a6,a7⟩ := EB
   rw [if_neg (Ne.symm a1),if_neg (Ne.symm a2),if_neg (Ne.symm a3),if_neg (Ne.symm a4),if_neg (Ne.symm a5),if_neg (Ne.symm a6)] at C6
   exact a7 (of_decide_eq_true C6).1.symm
 simp only [List.mem_cons,List.not_mem_nil,or_false,Prod.mk.injEq] at hv
 rcases hv with ⟨hn,rfl⟩ | ⟨hn,rfl⟩ | ⟨hn,rfl⟩ | ⟨hn,rfl⟩ | ⟨hn,rfl⟩ | ⟨hn,rfl⟩ | ⟨hn,rfl⟩
 · exact ⟨127,_,_,rfl,Dd.en,NF c1 (fin _ (by unfold Ob; rw [if_pos hn]))⟩
 · exact ⟨127,_,_,rfl,Dd.en,NF c2 (fin _ (by unfold Ob; rw [if_neg (by omega),if_pos hn]))⟩
 · exact ⟨127,_,_,rfl,Dd.en,NF c3 (fin _ (by unfold Ob; rw [if_neg (by omega),if_neg (by omega),if_pos hn]))⟩
 · have ht1 : t = 1 := by unfold F6 at C6; simp [hn] at C6; omega
   obtain ⟨v,hv⟩ := part 0 (by omega)
   exact ⟨82,_,_,rfl,Bs.en,cw OF hv (fin _ (by unfold Ob; rw [if_neg (by omega),if_neg (by omega),if_neg (by omega),if_pos hn,hv]; rfl))⟩
 · have ht1 : t = 1 := by unfold F6 at C6; simp [hn] at C6; omega
   obtain ⟨v,hv⟩ := part 0 (by omega)
   exact ⟨83,_,_,rfl,Eh.en,ic OF hv (fin _ (by unfold Ob; rw [if_neg (by omega),if_neg (by omega),if_neg (by omega),if_neg (by omega),if_pos hn,hv]; rfl))⟩
 · have ht1 : t = 2 := by unfold F6 at C6; simp [hn] at C6; omega
   obtain ⟨v,hv⟩ := part 0 (by omega)
   obtain ⟨u,hu⟩ := part 1 (by omega)
   exact ⟨84,_,_,rfl,Er.en,ik OF hv hu (fin _ (by unfold Ob; rw [if_neg (by omega),if_neg (by omega),if_neg (by omega),if_neg (by omega),if_neg (by omega),if_pos hn,hv,hu]; rfl))⟩
 · have ht1 : t = 1 := by unfold F6 at C6; simp [hn] at C6; omega
   obtain ⟨v,hv⟩ := part 0 (by omega)
   exact ⟨85,_,_,rfl,Ey.en,ig OF hv (fin _ (by unfold Ob; rw [if_neg (by omega),if_neg (by omega),if_neg (by omega),if_neg (by omega),if_neg (by omega),if_neg (by omega),hv]; rfl))⟩
def Dp : List Nd → List Int → Option (List Int)
 | [],st => some st
 | n :: t,st => if (BS n st).1 = 0 then Dp t (BS n st).2 else none
def xQ (t : List Nd) : Option (List Int) → Option Int
 | some [k] => if t.length ≤ 4096 then some k else none
 | _ => none
def NG (t : List Nd) : Option Int := xQ t (Dp t [])
theorem M8.at {p : Option Addr} {n i : Nat} {t : List Nd} {x : Nd} (hr : Ae 10 M8 σ p n t) (hx : t[i]? = some x) : ∃ b o p1 k c q m d,p = some ⟨b,o,none⟩ ∧ Aw σ b (o + i * 10) [.int .i64 x.kind,.int .i64 x.op,.string x.text,.slice p1 k c,.int .i64 x.width,.int .i64 x.back,.int .i64 x.Ea,.slice q m d,.bool x.bool,.int .i64 x.parts] ∧ Ae 3 Oa σ p1 k x.mt ∧ E9 1 σ q m (x.names.map .string) := by
 obtain ⟨b,o,vs,hp,⟨p1,k,c,q,m,d,rfl,h1,h2⟩,hl⟩ := Ae.idx hr hx
 exact ⟨b,o,p1,k,c,q,m,d,hp,hl,h1,h2⟩
theorem ov {n : Nd} {st : List Int} : (BS n st).2.length ≤ st.length + 1 := by
 unfold BS
 split
 · exact Nat.le_succ _
 · split
   · exact Nat.le_succ _
   · simp only [List.length_append,List.length_take,List.length_singleton]; omega
theorem TX {p : Option Addr} {n c : Nat} {t : List Nd} (hr : Ae 10 M8 σ p n t) (hn : n ≤ 1000000000) (hb : ∀ x ∈ t,x.text.size ≤ 4611686018427387904)
   (h : ∀ k σ',NG t = some k → Ext σ σ' → R (.returned (.tuple #[.int .i64 k,.int .i64 0,.int .i64 0])) σ') (h' : ∀ k j e σ',NG t = none → e ≠ 0 → Ext σ σ' → R (.returned (.tuple #[.int .i64 k,.int .i64 j,.int .i64 e])) σ') :
   Spec prog 37 #[.slice p n c] σ R := by
 have hl : t.length = n := hr.1
 refine Fk.start fun wb hwb => ?_
 suffices H : ∀ g k : Nat,∀ r j e st σ',n - k = g → k ≤ n → j ≤ k → dA σ σ' wb r j e st → Dp t [] = Dp (t.drop k) st → Fk.A7 R p n c (aD wb 0) p n c n k σ' from
   H n 0 none 0 0 [] _ rfl (Nat.zero_le _) (Nat.le_refl _) ⟨Hp.AB _ _ _,D2.nil,fun a ha => (by cases ha),hwb,.set hwb⟩ rfl
 intro g
 induction g with
 | zero =>
   intro k r j e st σ' hg hk hj hW he
   rw [List.drop_eq_nil_of_le (by omega)] at he
   have Cg : st.length = j := by have := hW.own.1; simpa using this
   have ht : NG t = xQ t (some st) := by unfold NG; rw [he]; rfl
   refine Fk.Aa ⟨fun Ap => by omega,fun _ => ⟨wb,0,rfl,r,j,e,Af hW.cell rfl,fun h1 => h' _ _ _ σ' ?_ (by decide) hW.ext,fun h1 => ⟨fun JM => h' _ _ _ σ' ?_ (by decide) hW.ext,fun ji => ?_⟩⟩⟩
   · rw [ht]
     match st,Cg with
     | [],_ => rfl
     | [_],Cg => simp at Cg; omega
     | _ :: _ :: _,_ => rfl
   · rw [ht]
     match st,Cg with
     | [],_ => rfl
     | [_],Cg => exact if_neg (by omega)
     | _ :: _ :: _,_ => rfl
   · have xw : j = 1 := by omega
     subst xw
     match st,Cg with
     | [x],_ =>
       obtain ⟨b,o,rfl,Du⟩ := FH.at (D2.rd hW.own) (i := 0) (x := x) rfl
       exact ⟨_,1,e,Af hW.cell rfl,b,o,rfl,by omega,x,by simpa using Du,h x σ' (by rw [ht]; exact if_pos (by omega)) hW.ext⟩
 | succ g ih =>
   intro k r j e st σ' hg hk hj hW he
   have Gs : k < n := by omega
   obtain ⟨x,hx⟩ := hr.ex Gs
   obtain ⟨b,o,p1,k1,c1,q1,m1,d1,rfl,Du,h1,h2⟩ := M8.at hr hx
   rw [A3 hx,Dp] at he
   refine Fk.Aa ⟨fun _ => ⟨b,o,rfl,by omega,_,_,_,_,_,_,_,_,_,_,_,_,_,_,by simpa using Du.mono hW.ext,fun _ => ?_⟩,fun hh => by omega⟩
   refine il hW h1 h2 (hb x (List.mem_of_getElem? hx)) (by omega) (fun r' j' e' σ2 h0 hW2 => ⟨0,rfl,fun hh => absurd rfl hh,fun _ => ⟨AL Gs hr.big,ih (k + 1) r' j' e' _ σ2 (by omega) (by omega) ?_ hW2 ?_⟩⟩) fun σ2 h0 A5 => ⟨_,rfl,fun _ => h' _ _ _ σ2 ?_ h0 A5,fun hh => absurd h0 hh⟩
   · have h3 := ov (n := x) (st := st)
     have h4 : (BS x st).2.length = j' := by have := hW2.own.1; simpa using this
     have h5 : st.length = j := by have := hW.own.1; simpa using this
     omega
   · rw [he,if_pos h0]
   · unfold NG; rw [he,if_neg h0]; rfl
end
end TwW
end
section
namespace Go.Proofs
open Go.Shelf
def Tryz.ZV : Go.Shelf.Ren := ⟨fun | 143 => 260 | 219 => 290 | 217 => 169 | 225 => 318 | 224 => 319 | 267 => 320 | 266 => 209 | 314 => 329 | n => n,fun | 9 => 9 | 3 => 3 | 4 => 4 | 5 => 5 | 46 => 141 | 146 => 355 | 51 => 168 | n => n,fun | 1 => 1 | n => n⟩
theorem Tryz.ti : Go.Proofs.Lays.n143 Tryz.prog Tryz.ZV := {
 mixed := by kernel_rfl
 f143 := Tryz.func260.trans (congrArg some (by kernel_rfl))
 f217 := Tryz.func169.trans (congrArg some (by kernel_rfl))
 f219 := Tryz.func290.trans (congrArg some (by kernel_rfl))
 f224 := Tryz.func319.trans (congrArg some (by kernel_rfl))
 f225 := Tryz.func318.trans (congrArg some (by kernel_rfl))
 f266 := Tryz.func209.trans (congrArg some (by kernel_rfl))
 f267 := Tryz.func320.trans (congrArg some (by kernel_rfl))
 f314 := Tryz.func329.trans (congrArg some (by kernel_rfl))
 t3 := Tryz.underlying3
 a3 := Tryz.isAgg3
 z3 := Tryz.sizeOf3
 v3 := Tryz.zeroValue3
 t4 := Tryz.underlying4
 a4 := Tryz.isAgg4
 z4 := Tryz.sizeOf4
 v4 := Tryz.zeroValue4
 t5 := Tryz.underlying5
 a5 := Tryz.isAgg5
 z5 := Tryz.sizeOf5
 v5 := Tryz.zeroValue5
 t9 := Tryz.underlying9
 a9 := Tryz.isAgg9
 z9 := Tryz.sizeOf9
 v9 := Tryz.zeroValue9
 t46 := Tryz.underlying141
 a46 := Tryz.isAgg141
 z46 := Tryz.sizeOf141
 v46 := Tryz.zeroValue141
 t51 := Tryz.underlying168
 a51 := Tryz.isAgg168
 z51 := Tryz.sizeOf168
 v51 := Tryz.zeroValue168
 t146 := Tryz.underlying355
 a146 := Tryz.isAgg355
 z146 := Tryz.sizeOf355
 v146 := Tryz.zeroValue355
 g1 := by kernel_rfl }
open Go.RowKit Go.Lib in
theorem Tryz.strings_Index (s sub : ByteArray) (m : Int) (w : World) (hs : s.size < 4294967281) (hm : w.cell? ⟨1,0,none⟩ = some (.int .i64 m)) :
   Calls Tryz.prog 260 #[.string s,.string sub] w fun e w' => e = .returned (.int .i64 (Lib.index s.data.toList sub.data.toList)) ∧ w' = w := Any.strings_Index Tryz.ti s sub m w hs hm
def Tryz.ZW : Go.Shelf.Ren := ⟨fun | 146 => 221 | 221 => 237 | 268 => 258 | 138 => 259 | 143 => 260 | 195 => 287 | 197 => 288 | 218 => 289 | 219 => 290 | 260 => 317 | 217 => 169 | 225 => 318 | 224 => 319 | 267 => 320 | 266 => 209 | 314 => 329 | n => n,fun | 9 => 9 | 31 => 34 | 3 => 3 | 4 => 4 | 0 => 0 | 105 => 318 | 21 => 21 | 5 => 5 | 46 => 141 | 119 => 351 | 139 => 354 | 138 => 353 | 146 => 355 | 51 => 168 | n => n,fun | 1 => 1 | 3 => 11 | 4 => 12 | n => n⟩
theorem Tryz.tj : Go.Proofs.Lays.n146 Tryz.prog Tryz.ZW := {
 mixed := by kernel_rfl
 f138 := Tryz.func259.trans (congrArg some (by kernel_rfl))
 f143 := Tryz.func260.trans (congrArg some (by kernel_rfl))
 f146 := Tryz.func221.trans (congrArg some (by kernel_rfl))
 f195 := Tryz.func287.trans (congrArg some (by kernel_rfl))
 f197 := Tryz.func288.trans (congrArg some (by kernel_rfl))
 f217 := Tryz.func169.trans (congrArg some (by kernel_rfl))
 f218 := Tryz.func289.trans (congrArg some (by kernel_rfl))
 f219 := Tryz.func290.trans (congrArg some (by kernel_rfl))
 f221 := Tryz.func237.trans (congrArg some (by kernel_rfl))
 f224 := Tryz.func319.trans (congrArg some (by kernel_rfl))
 f225 := Tryz.func318.trans (congrArg some (by kernel_rfl))
 f260 := Tryz.func317.trans (congrArg some (by kernel_rfl))
 f266 := Tryz.func209.trans (congrArg some (by kernel_rfl))
 f267 := Tryz.func320.trans (congrArg some (by kernel_rfl))
 f268 := Tryz.func258.trans (congrArg some (by kernel_rfl))
 f314 := Tryz.func329.trans (congrArg some (by kernel_rfl))
 t0 := Tryz.underlying0
 a0 := Tryz.isAgg0
 z0 := Tryz.sizeOf0
 v0 := Tryz.zeroValue0
 t3 := Tryz.underlying3
 a3 := Tryz.isAgg3
 z3 := Tryz.sizeOf3
 v3 := Tryz.zeroValue3
 t4 := Tryz.underlying4
 a4 := Tryz.isAgg4
 z4 := Tryz.sizeOf4
 v4 := Tryz.zeroValue4
 t5 := Tryz.underlying5
 a5 := Tryz.isAgg5
 z5 := Tryz.sizeOf5
 v5 := Tryz.zeroValue5
 t9 := Tryz.underlying9
 a9 := Tryz.isAgg9
 z9 := Tryz.sizeOf9
 v9 := Tryz.zeroValue9
 t21 := Tryz.underlying21
 a21 := Tryz.isAgg21
 z21 := Tryz.sizeOf21
 v21 := Tryz.zeroValue21
 t31 := Tryz.underlying34
 a31 := Tryz.isAgg34
 z31 := Tryz.sizeOf34
 v31 := Tryz.zeroValue34
 t46 := Tryz.underlying141
 a46 := Tryz.isAgg141
 z46 := Tryz.sizeOf141
 v46 := Tryz.zeroValue141
 t51 := Tryz.underlying168
 a51 := Tryz.isAgg168
 z51 := Tryz.sizeOf168
 v51 := Tryz.zeroValue168
 t105 := Tryz.underlying318
 a105 := Tryz.isAgg318
 z105 := Tryz.sizeOf318
 v105 := Tryz.zeroValue318
 t119 := Tryz.underlying351
 a119 := Tryz.isAgg351
 z119 := Tryz.sizeOf351
 t138 := Tryz.underlying353
 a138 := Tryz.isAgg353
 z138 := Tryz.sizeOf353
 v138 := Tryz.zeroValue353
 t139 := Tryz.underlying354
 a139 := Tryz.isAgg354
 z139 := Tryz.sizeOf354
 v139 := Tryz.zeroValue354
 t146 := Tryz.underlying355
 a146 := Tryz.isAgg355
 z146 := Tryz.sizeOf355
 v146 := Tryz.zeroValue355
 g1 := by kernel_rfl
 g3 := by kernel_rfl
 g4 := by kernel_rfl }
open Go.RowKit Go.Lib in
theorem Tryz.strings_Split (s sep : ByteArray) (m : Int) (w : World) (hs : s.size < 4294967281) (hm : w.cell? ⟨1,0,none⟩ = some (.int .i64 m)) (h1 : 1 ≤ sep.size) :
   Calls Tryz.prog 221 #[.string s,.string sep] w fun e w' =>
     e = .returned (.slice (some ⟨w.heap.size,0,none⟩) (Lib.countB s sep + 1) (Lib.countB s sep + 1)) ∧ w' = w.alloc (.cells ((Lib.splitB sep 0 (Lib.countB s sep) s).map Value.string).toArray 9) := Any.strings_Split Tryz.tj (by kernel_rfl) s sep m w hs hm h1
end Go.Proofs
end
section
namespace TwW
open Go Tw Go.RowKit Go.Proofs.Tryz
section
variable {P : Program} {f : FuncId} {args : Array Value} {σ σ' : Hp} {R : Rr}
theorem Spec.below {v : Value} (h : ∀ w,Sat σ w → Calls P f args w fun e w' => e = .returned v ∧ Below w.heap.size w w') (hR : R (.returned v) σ) : Spec P f args σ R := fun w F hs hF =>
 (h w hs).mono fun e w' ⟨he,hb⟩ => ⟨σ,he ▸ hR,fun b o ho => by
   have h1 := hs b o ho
   rw [hb.block b (Array.getElem?_eq_some_iff.1 h1).1]; exact h1,fun b hFb => ⟨(hF b hFb).2,hb.block b (hF b hFb).1⟩,⟨hb.os,hb.tape,fun h => h.elim⟩,hb.output,hb.size⟩
theorem Spec.same {v : Value} (h : ∀ w,Sat σ w → Calls P f args w fun e w' => e = .returned v ∧ w' = w) (hR : R (.returned v) σ) : Spec P f args σ R :=
 Spec.below (fun w hs => (h w hs).mono fun e w' ⟨he,hw⟩ => ⟨he,hw ▸ Below.refl _ _⟩) hR
theorem Spec.AAl {o : Obj} {v : Nat → Value} (h : ∀ w,Sat σ w → Calls P f args w fun e w' => e = .returned (v w.heap.size) ∧ w' = w.alloc o) (hR : ∀ b,σ b = none → R (.returned (v b)) (σ.set b o)) : Spec P f args σ R := fun w F hs hF =>
 (h w hs).mono fun e w' ⟨he,hw⟩ => ⟨σ.set w.heap.size o,he ▸ hR _ (Fi hs),by subst hw; exact Fin.alloc hs hF _ rfl (.same rfl rfl rfl) rfl⟩
theorem cell_of {w : World} {b o : Nat} {v : Value} (hs : Sat σ w) (h : σ.ld ⟨b,o,none⟩ = some v) : w.cell? ⟨b,o,none⟩ = some v := by
 have := Uc (ys := [v]) hs ⟨h,trivial⟩ 0 v rfl
 simpa [Bu] using this
end
def TY : List Nat := [4607182418800017408,4621819117588971520,4636737291354636288,4652007308841189376,4666723172467343360,4681608360884174848,4696837146684686336,4711630319722168320,4726483295884279808,4741671816366391296,4756540486875873280,4771362005757984768,4786511204640096256,4801453603149578240,4816244402031689728,4831355200913801216]
structure Gl (σ : Hp) : Prop where
 len : ∃ m : Int,σ.ld ⟨1,0,none⟩ = some (.int .i64 m)
 opt : σ.ld ⟨5,0,none⟩ = some (.bool true)
 bits : σ.ld ⟨6,0,none⟩ = some (.int .u64 52)
 pow : ∃ b o n c,σ.ld ⟨9,0,none⟩ = some (.slice (some ⟨b,o,none⟩) n c) ∧ 16 ≤ n ∧ ∀ i v,TY[i]? = some v → σ.ld ⟨b,o + i * 1,none⟩ = some (.float .f64 v)
theorem Gl.mono {σ σ' : Hp} (h : Gl σ) (hx : Ext σ σ') : Gl σ' := ⟨h.len.imp fun _ => hx.ld,hx.ld h.opt,hx.ld h.bits,let ⟨b,o,n,c,h1,h2,h3⟩ := h.pow; ⟨b,o,n,c,hx.ld h1,h2,fun i v hv => hx.ld (h3 i v hv)⟩⟩
section
variable {σ σ' : Hp} {R : Rr}
theorem index_spec {s t : ByteArray} (hg : Gl σ) (hs : s.size < 4294967281) (h : R (.returned (.int .i64 (Lib.index s.data.toList t.data.toList))) σ) : Spec prog 260 #[.string s,.string t] σ R := by
 obtain ⟨m,hm⟩ := hg.len
 exact Spec.same (fun w hw => Go.Proofs.Tryz.strings_Index s t m w hs (cell_of hw hm)) h
theorem TZ {s : ByteArray} {c : UInt8} (hg : Gl σ) (hs : s.size < 4294967281) (h : ∀ b T,σ b = none → R (.returned (.slice (aD b 0) (EZ c s).length (EZ c s).length)) (σ.set b (.cells ((EZ c s).map Value.string).toArray T (0,0)))) : Spec prog 221 #[.string s,.string ⟨#[c]⟩] σ R := by
 obtain ⟨m,hm⟩ := hg.len
 have hl : (EZ c s).length = Lib.countB s ⟨#[c]⟩ + 1 := Lib.splitB_all ⟨#[c]⟩ (Nat.le_refl 1) 0 _ s rfl
 have h' := fun b => h b 9
 rw [hl] at h'
 exact Spec.AAl (v := fun b => .slice (aD b 0) _ _) (fun w hw => Go.Proofs.Tryz.strings_Split s ⟨#[c]⟩ m w hs (cell_of hw hm) (Nat.le_refl 1)) h'
theorem dB {s : ByteArray} {l h : Nat} (hl : l ≤ h) (hh : h ≤ s.size) : YF prog (Instr.sliceAt 9 (.string s) (some (.int .i64 (l : Int))) (some (.int .i64 (h : Int))) none) σ (.string (s.extract l h)) := fun w _ => by
 rw [run_sliceAt_string (h := underlying9)]
 have h1 : (h : Int) ≤ s.size := by omega
 have h2 : (l : Int) ≤ h := by omega
 simp [Instr.slice,run_underlying underlying9,Instr.sliceBounds,run_sliceBound,h1,h2,Result.andThen]
theorem ZX {s t : ByteArray} (h : R (.returned (.bool (decide (t.size ≤ s.size ∧ s.extract 0 t.size = t)))) σ) : Spec prog 285 #[.string s,.string t] σ R := by
 refine Hc.start (CO.start ⟨fun hle => ⟨_,VL (by omega),_,rfl,?_⟩,fun hgt => ⟨_,rfl,?_⟩⟩)
 · rw [UR,show decide (s.extract 0 t.size = t) = decide (t.size ≤ s.size ∧ s.extract 0 t.size = t) from decide_eq_decide.2 ⟨fun h => ⟨by omega,h⟩,fun h => h.2⟩]; exact h
 · rw [show false = decide (t.size ≤ s.size ∧ s.extract 0 t.size = t) from (decide_eq_false fun hh => hgt (by omega)).symm]; exact h
theorem ZY {s t : ByteArray} (hs : s.size ≤ 4611686018427387904) (h : R (.returned (.bool (decide (t.size ≤ s.size ∧ s.extract (s.size - t.size) s.size = t)))) σ) : Spec prog 286 #[.string s,.string t] σ R := by
 refine Hg.start (CL.start ⟨fun hle => ⟨by unfold AI; omega,s.extract (s.size - t.size) s.size,?_,_,rfl,?_⟩,fun hgt => ⟨_,rfl,?_⟩⟩)
 · rw [show ((s.size : Nat) : Int) - ((t.size : Nat) : Int) = ((s.size - t.size : Nat) : Int) by omega]; exact OG (by omega)
 · rw [UR,show decide (s.extract (s.size - t.size) s.size = t) = decide (t.size ≤ s.size ∧ s.extract (s.size - t.size) s.size = t) from decide_eq_decide.2 ⟨fun h => ⟨by omega,h⟩,fun h => h.2⟩]; exact h
 · rw [show false = decide (t.size ≤ s.size ∧ s.extract (s.size - t.size) s.size = t) from (decide_eq_false fun hh => hgt (by omega)).symm]; exact h
def ETx (_ : Hp) (vs : List Value) (x : ByteArray) : Prop := vs = [.string x]
theorem ETx.mono : HM ETx := fun _ _ _ _ _ h => h
abbrev fc := Ae 1 ETx
theorem fc.at {p : Option Addr} {n i : Nat} {ls : List ByteArray} {x : ByteArray} (hr : fc σ p n ls) (hx : ls[i]? = some x) : ∃ b o,p = some ⟨b,o,none⟩ ∧ σ.ld ⟨b,o + i * 1,none⟩ = some (.string x) := by
 obtain ⟨b,o,vs,hp,rfl,hl⟩ := Ae.idx hr hx
 exact ⟨b,o,hp,hl.1⟩
theorem fc.ow {b : Nat} {T : TypeId} {L : List ByteArray} (h : σ b = some (.cells (L.map Value.string).toArray T (0,0))) (hb : L.length ≤ 4611686018427387904) : fc σ (aD b 0) L.length L := by
 refine ⟨rfl,L.map .string,⟨by simp,hb,.inr ⟨b,0,rfl,Aw.of fun j v hj => ?_⟩⟩,by simp,fun i x hx => ?_⟩
 · rw [Nat.zero_add]; exact Af h (by simpa using hj)
 · have h1 : (L.map Value.string)[i]? = some (.string x) := by rw [List.getElem?_map,hx]; rfl
   rw [Nat.mul_one,A3 h1]; rfl
theorem tn {p : Option Addr} {n c : Nat} {l : List ByteArray} {s : ByteArray} (hg : Gl σ) (hr : fc σ p n l) (h0 : 0 < n) (hc : n ≤ c) (hs : s.size < 4294967281) (hl : ∀ x ∈ l,x.size ≤ 4294967296) (h : R (.returned (.bool (isK l s))) σ) :
   Spec prog 257 #[.agg #[.slice p n c],.string s] σ R := by
 have hn : l.length = n := hr.1
 have JM := hr.big
 obtain ⟨a,ha⟩ := hr.ex h0
 obtain ⟨z,hz⟩ := hr.ex (k := n - 1) (by omega)
 obtain ⟨b,o,rfl,hla⟩ := fc.at hr ha
 obtain ⟨_,_,he,xI⟩ := fc.at hr hz
 cases he
 have ea : l.head?.getD ⟨#[]⟩ = a := by rw [List.head?_eq_getElem?,ha]; rfl
 have ez : l.getLast?.getD ⟨#[]⟩ = z := by rw [List.getLast?_eq_getElem?,hn,hz]; rfl
 have e1 : Int.toNat ((n : Int) - 1) = n - 1 := by omega
 have hsa := hl a (List.mem_of_getElem? ha)
 have HX := hl z (List.mem_of_getElem? hz)
 have eK : isK l s = if n = 1 then decide (s = a) else if s.size < a.size + z.size ∨ s.extract 0 a.size ≠ a ∨ s.extract (s.size - z.size) s.size ≠ z then false else iW l.tail.dropLast (s.extract a.size (s.size - z.size)) := by
   unfold isK; rw [ea,ez,hn]
 rw [eK] at h
 refine DH.start fun _ => ⟨b,o,rfl,by omega,a,by simpa using hla,by unfold AI; omega,by omega,z,by rw [e1]; exact xI,fun h1 => ?_,fun h1 => ?_⟩
 · rw [if_pos (by omega)] at h; rw [UR]; exact h
 rw [if_neg (by omega)] at h
 refine ⟨by unfold AI; omega,fun Ap => ?_,fun cM => ZX ⟨_,rfl,fun hp => ?_,fun hp => ZY (by omega) ⟨_,rfl,fun hq => ?_,fun hq => ?_⟩⟩⟩
 · rw [if_pos (.inl (by omega))] at h; exact h
 · have := of_decide_eq_false hp
   rw [if_pos (.inr (.inl fun e => this ⟨by omega,e⟩))] at h; exact h
 · have := of_decide_eq_false hq
   rw [if_pos (.inr (.inr fun e => this ⟨by omega,e⟩))] at h; exact h
 have hp' := of_decide_eq_true hp
 have hq' := of_decide_eq_true hq
 rw [if_neg (by
                rintro (h3 | h3 | h3)
                · omega
                · exact h3 hp'.2
                · exact h3 hq'.2)] at h
 have tq : fc σ (Ip (aD b o) 1 c 1) (n - 2) (l.tail.dropLast) := by
   have := Ae.sub (i := 1) (m := n - 2) hr (by decide) (by omega) hc
   rwa [List.drop_one,show n - 2 = l.tail.length - 1 by rw [List.length_tail]; omega,← List.dropLast_eq_take,List.length_tail,show l.length - 1 - 1 = n - 2 by omega] at this
 refine ⟨by unfold AI; omega,s.extract a.size (s.size - z.size),?_,by unfold AI; omega,by omega,?_⟩
 · rw [show ((s.size : Nat) : Int) - ((z.size : Nat) : Int) = ((s.size - z.size : Nat) : Int) by omega]; exact dB (by omega) (by omega)
 rw [e1,show n - 1 - 1 = n - 2 by omega]
 generalize hu : s.extract a.size (s.size - z.size) = u at *
 have hus : u.size < 4294967281 := by rw [← hu,ByteArray.size_extract]; omega
 generalize Ip (aD b o) 1 c 1 = q at *
 generalize l.tail.dropLast = ms at *
 clear hu hla xI ha hz ea ez eK
 suffices H : ∀ g k : Nat,∀ (q' : Option Addr) (v : ByteArray),(0 < n - 2 → q' = q) → n - 2 - k = g → k ≤ n - 2 → v.size < 4294967281 → iW ms u = iW (ms.drop k) v → DH.MN R v q' (n - 2) (c - 1) ((n - 2 : Nat) : Int) k σ from H (n - 2) 0 q u (fun _ => rfl) rfl (Nat.zero_le _) hus rfl
 have hml : ms.length = n - 2 := tq.1
 intro g
 induction g with
 | zero =>
   intro k q' v hq hgk hk hv he
   rw [List.drop_eq_nil_of_le (by omega)] at he
   rw [he] at h
   exact DH.JH ⟨fun Ap => by omega,fun _ => h⟩
 | succ g ih =>
   intro k q' v hq hgk hk hv he
   have Gs : k < n - 2 := by omega
   obtain ⟨t,ht⟩ := tq.ex Gs
   obtain ⟨b2,o2,hq2,Ap⟩ := fc.at tq ht
   rw [hq (by omega),hq2]
   rw [A3 ht,iW] at he
   refine DH.JH ⟨fun _ => ⟨b2,o2,rfl,by omega,t,by simpa using Ap,index_spec hg hv ⟨_,rfl,fun AAj => ?_,fun Ol => ?_⟩⟩,fun hh => by omega⟩
   · rw [if_pos AAj] at he; rw [he] at h; exact h
   · rw [if_neg Ol] at he
     have HY := Lib.index_room v.data.toList t.data.toList (by omega)
     have hv1 : v.data.toList.length = v.size := Array.length_toList (xs := v.data)
     have ht1 : t.data.toList.length = t.size := Array.length_toList (xs := t.data)
     generalize hi : Lib.index v.data.toList t.data.toList = i at *
     refine ⟨by unfold AI; omega,v.extract (i.toNat + t.size) v.size,?_,AL Gs tq.big,ih (k + 1) _ _ (fun _ => hq2.symm) (by omega) (by omega) (by rw [ByteArray.size_extract]; omega) he⟩
     rw [show i + ((t.size : Nat) : Int) = ((i.toNat + t.size : Nat) : Int) by omega]; exact OG (by omega)
def ox (σ : Hp) (vs : List Value) (l : List ByteArray) : Prop := ∃ p n c,vs = [.slice p n c] ∧ fc σ p n l ∧ 0 < n ∧ n ≤ c
theorem ox.mono : HM ox := fun _ _ _ _ hx ⟨p,n,c,hv,h1,h2⟩ => ⟨p,n,c,hv,h1.mono ETx.mono hx,h2⟩
theorem iu {p : Option Addr} {n c : Nat} {L : List (List ByteArray)} {s : ByteArray} (hg : Gl σ) (hr : Ae 1 ox σ p n L) (hs : s.size < 4294967281) (hl : ∀ l ∈ L,∀ x ∈ l,x.size ≤ 4294967296) (h : R (.returned (.bool (L.any fun l => isK l s))) σ) :
   Spec prog 236 #[.agg #[.slice p n c],.string s] σ R := by
 have hn : L.length = n := hr.1
 refine Bd.start fun _ => ?_
 suffices H : ∀ g k : Nat,n - k = g → k ≤ n → (L.any fun l => isK l s) = ((L.drop k).any fun l => isK l s) → Bd.H3 R s p n c n k σ from H n 0 rfl (Nat.zero_le _) rfl
 intro g
 induction g with
 | zero =>
   intro k hg' hk he
   rw [List.drop_eq_nil_of_le (by omega)] at he
   rw [he] at h
   exact Bd.Bp ⟨fun Ap => by omega,fun _ => h⟩
 | succ g ih =>
   intro k hg' hk he
   have Gs : k < n := by omega
   obtain ⟨l,hx⟩ := hr.ex Gs
   obtain ⟨b,o,vs,rfl,⟨p1,n1,c1,rfl,h1,h2,h3⟩,Du⟩ := Ae.idx hr hx
   rw [A3 hx,List.any_cons] at he
   refine Bd.Bp ⟨fun _ => ⟨b,o,rfl,by omega,p1,n1,c1,by simpa using Du,fun _ => tn hg h1 h2 h3 hs (hl l (List.mem_of_getElem? hx)) ⟨_,rfl,fun ht => ?_,fun hf => ⟨AL Gs hr.big,ih (k + 1) (by omega) (by omega) ?_⟩⟩⟩,fun hh => by omega⟩
   · rw [ht] at he; rw [he] at h; exact h
   · rw [hf] at he; exact he
theorem PR {c : UInt8} {s : ByteArray} : ∀ x ∈ EZ c s,x.size ≤ s.size := by
 unfold EZ
 generalize Lib.countB s ⟨#[c]⟩ = k
 induction k generalizing s with
 | zero => intro x hx; rw [Lib.splitB_zero,List.mem_singleton] at hx; rw [hx]; exact Nat.le_refl _
 | succ k ih =>
   intro x hx
   unfold Lib.splitB at hx
   split at hx
   · rw [List.mem_singleton] at hx; rw [hx]; exact Nat.le_refl _
   · rcases List.mem_cons.1 hx with rfl | hx
     · rw [ByteArray.size_extract]; omega
     · have := ih x hx
       rw [ByteArray.size_extract] at this; omega
theorem ZZ {c : UInt8} {s : ByteArray} : (EZ c s).length ≤ s.size + 1 ∧ 0 < (EZ c s).length := by
 have h1 := Lib.splitB_all ⟨#[c]⟩ (Nat.le_refl 1) 0 _ s rfl
 have h2 := Lib.countB_le ⟨#[c]⟩ (Nat.le_refl 1) s.size s (Nat.le_refl _)
 unfold EZ
 omega
theorem Wn {s : ByteArray} (hg : Gl σ) (hs : s.size ≤ 1000000) (h : ∀ p n c σ',Ae 1 ox σ' p n ((EZ 124 s).map (EZ 42)) → Ext σ σ' → R (.returned (.agg #[.slice p n c])) σ') : Spec prog 179 #[.string s] σ R := by
 refine D8.start fun _ _ => TZ hg (by omega) fun b T hb => ⟨_,_,_,rfl,?_⟩
 have CH : Ext σ (σ.set b (.cells ((EZ 124 s).map Value.string).toArray T (0,0))) := .set hb
 obtain ⟨hlen,_⟩ := ZZ (c := 124) (s := s)
 have hr : fc (σ.set b (.cells ((EZ 124 s).map Value.string).toArray T (0,0))) (aD b 0) (EZ 124 s).length (EZ 124 s) := fc.ow (Hp.AB _ _ _) (by omega)
 generalize ANF : σ.set b (.cells ((EZ 124 s).map Value.string).toArray T (0,0)) = σ1 at *
 have HX := PR (c := 124) (s := s)
 generalize EZ 124 s = L at *
 suffices H : ∀ g k : Nat,∀ p3 n3 c3 σ',L.length - k = g → k ≤ L.length → GY 1 ox (σ1.new σ') p3 n3 c3 ((L.take k).map (EZ 42)) → Ext σ1 σ' → D8.A7 R none 0 0 p3 n3 c3 (aD b 0) L.length L.length L.length k σ' from H L.length 0 none 0 0 σ1 rfl (Nat.zero_le _) GY.nil (.refl _)
 intro g
 induction g with
 | zero =>
   intro k p3 n3 c3 σ' hg' hk ho hx
   rw [List.take_of_length_le (by omega)] at ho
   exact D8.Aa ⟨fun Ap => by omega,fun _ => h p3 n3 c3 σ' ((ho.rd ox.mono).mono ox.mono (Ext.Cq _ _)) (CH.trans hx)⟩
 | succ g ih =>
   intro k p3 n3 c3 σ' hg' hk ho hx
   have Gs : k < L.length := by omega
   obtain ⟨x,iR⟩ := hr.ex Gs
   obtain ⟨b2,o2,he,Qk⟩ := fc.at hr iR
   cases he
   have hxs := HX x (List.mem_of_getElem? iR)
   have rF : n3 = k := by have := ho.1; rw [List.length_map,List.length_take] at this; omega
   refine D8.Aa ⟨fun _ => ⟨b,0,rfl,by omega,x,by simpa using hx.ld Qk,TZ (hg.mono (CH.trans hx)) (by omega) fun b4 T4 hb4 => ⟨_,_,_,rfl,fun Q5 ANG => ?_⟩⟩,fun hh => by omega⟩
   obtain ⟨AQj,AHk⟩ := ZZ (c := 42) (s := x)
   have NT : Ext σ' (σ'.set b4 (.cells ((EZ 42 x).map Value.string).toArray T4 (0,0))) := .set hb4
   have hp3 : ∀ a,p3 = some a → σ' a.block ≠ none := fun a ha => by
     have := ho.block a ha
     cases hh : (σ1.new σ') a.block with
     | none => exact absurd hh this
     | some oo => rw [(AV.1 hh).2]; simp
   have ANH : (σ1.new (σ'.set b4 (.cells ((EZ 42 x).map Value.string).toArray T4 (0,0))) |>.del p3) b4 = some (.cells ((EZ 42 x).map Value.string).toArray T4 (0,0)) := AR.2 ⟨fun a ha e => hp3 a ha (by rw [← e]; exact hb4),AV.2 ⟨BD hx hb4,Hp.AB _ _ _⟩⟩
   refine GY.Jq ox.mono (vs := [.slice (aD b4 0) (EZ 42 x).length (EZ 42 x).length]) (x := EZ 42 x) (hx.trans NT) (ho.mono ox.mono (Ext.ID NT)) rfl (fun u hu => by rw [List.mem_singleton] at hu; subst hu; rfl) ⟨_,_,_,rfl,fc.ow ANH (by omega),AHk,Nat.le_refl _⟩ (by omega) (fun p' c' σ2 Ba A5 => ⟨_,_,_,rfl,AL Gs hr.big,ih (k + 1) _ _ _ _ (by omega) (by omega) ?_ A5⟩) ANG
   rw [AY iR,List.map_append]; exact Ba
theorem VP {p q : Option Addr} {n c m d : Nat} {ms : List Mt} {ls : List Lb} (hg : Gl σ) (hr : Ae 3 Oa σ p n ms) (hq : EK σ q m ls) (hm : ∀ x ∈ ms,x.val.size ≤ 1000000) (Hz : ∀ x ∈ ls,x.2.size ≤ 1000000) (hk : ∀ x ∈ ms,1 ≤ x.kind ∧ x.kind ≤ 4) (h : ∀ σ',Ext σ σ' → R (.returned (.bool (Jo ms ls))) σ') :
   Spec prog 142 #[.slice p n c,.slice q m d] σ R := by
 have hl : ms.length = n := hr.1
 refine EH.start (P0.start fun kb HZ => ⟨_,_,_,rfl,?_⟩)
 have CH := Ext.set (o := .cells #[.nilFunc,(.func (.func 217) #[] #[]),(.func (.func 218) #[] #[]),(.func (.func 219) #[] #[]),(.func (.func 220) #[] #[])] 221 (0,0)) HZ
 have hc := Hp.AB σ kb (.cells #[.nilFunc,(.func (.func 217) #[] #[]),(.func (.func 218) #[] #[]),(.func (.func 219) #[] #[]),(.func (.func 220) #[] #[])] 221 (0,0))
 generalize ANF : σ.set kb (.cells #[.nilFunc,(.func (.func 217) #[] #[]),(.func (.func 218) #[] #[]),(.func (.func 219) #[] #[]),(.func (.func 220) #[] #[])] 221 (0,0)) = σ1 at *
 have hgs : ∀ k : ByteArray,(DA ls k).size ≤ 1000000 := fun k => by
   clear hq h
   induction ls with
   | nil => unfold DA; decide
   | cons a l ih =>
     unfold DA
     split
     · exact Hz a (by simp)
     · exact ih fun x hx => Hz x (List.mem_cons_of_mem _ hx)
 suffices H : ∀ g k : Nat,∀ σ',n - k = g → k ≤ n → Ext σ1 σ' → Jo ms ls = Jo (ms.drop k) ls → EH.A7 R q m d (aD kb 0) 5 5 p n c n k σ' from H n 0 σ1 rfl (Nat.zero_le _) (.refl _) rfl
 intro g
 induction g with
 | zero =>
   intro k σ' hg' Gs hx he
   have := h σ' (CH.trans hx)
   rw [he,List.drop_eq_nil_of_le (by omega)] at this
   exact EH.Aa ⟨fun Ap => by omega,fun _ => this⟩
 | succ g ih =>
   intro k σ' hg' XA hx he
   have Gs : k < n := by omega
   obtain ⟨x,iR⟩ := hr.ex Gs
   obtain ⟨b,o,rfl,Du⟩ := Oa.at hr iR
   have rG := List.mem_of_getElem? iR
   have hk4 := hk x rG
   have Qg : Jo ms ls = (N9 x ls && Jo (ms.drop (k + 1)) ls) := by rw [he,A3 iR]; rfl
   have step : ∀ (t : Bool) (σ2 : Hp),t = N9 x ls → Ext σ1 σ2 → AA R (CB fun t35 Ab => Bn t35 (R (.returned (.bool false)) Ab) (AI ((k : Int) + 1) ∧ EH.A7 R q m d (aD kb 0) 5 5 (aD b o) n c n ((k : Int) + 1) Ab)) (.returned (.bool t)) σ2 := fun t σ2 ht A5 => by
     refine ⟨t,rfl,fun hf => ?_,fun htt => ⟨AL Gs hr.big,ih (k + 1) σ2 (by omega) (by omega) A5 ?_⟩⟩
     · have := h σ2 (CH.trans A5)
       rw [Qg,← ht,hf] at this; exact this
     · rw [Qg,← ht,htt]; rfl
   refine EH.Aa ⟨fun _ => ⟨b,o,rfl,by omega,x.kind,x.name,x.val,by simpa using (Du.mono (CH.trans hx)),fun _ => VM ⟨_,rfl,fun hf => ?_,fun ht => ⟨kb,0,rfl,by omega,?_⟩⟩⟩,fun hh => by omega⟩
   · exact absurd hk4 (of_decide_eq_false hf)
   have Jp : ∀ σ2 p1 n1 c1,Ae 1 ox σ2 p1 n1 ((EZ 124 x.val).map (EZ 42)) → Ext σ1 σ2 → ∀ R2 : Rr,R2 (.returned (.bool (ZH x.val (DA ls x.name)))) σ2 → Spec prog 236 #[.agg #[.slice p1 n1 c1],.string (DA ls x.name)] σ2 R2 := fun σ2 p1 n1 c1 bk A5 R2 tr => by
     refine iu (hg.mono (CH.trans A5)) bk (by have := hgs x.name; omega) (fun l hl y hy => ?_) ?_
     · obtain ⟨z,hz,rfl⟩ := List.mem_map.1 hl
       have h1 := PR y hy
       have h2 := PR z hz
       have h3 := hm x rG
       omega
     · rw [List.any_map]; exact tr
   have row : ∀ (i : Nat) (f : FuncId) (t : Bool),x.kind = i → (#[.nilFunc,(.func (.func 217) #[] #[]),(.func (.func 218) #[] #[]),(.func (.func 219) #[] #[]),(.func (.func 220) #[] #[])] : Array Value)[i]? = some (.func (.func f) #[] #[]) → Enters prog f → t = N9 x ls →
       (∀ p1 n1 c1 σ2 (R2 : Rr),Ae 1 ox σ2 p1 n1 ((EZ 124 x.val).map (EZ 42)) → Ext σ1 σ2 → R2 (.returned (.bool t)) σ2 → Spec prog f #[.agg #[.slice p1 n1 c1,.string x.val],.string (DA ls x.name)] σ2 R2) →
       ∃ v24,Hp.ld σ' ⟨kb,(0 + Int.toNat x.kind * 1),none⟩ = some v24 ∧ Spec prog 179 #[.string x.val] σ' (AA R (fun z AF => ∃ M0 MQ M1,z = (.agg #[.slice M0 MQ M1]) ∧ Kp [kb] σ' AF ∧ Spec prog 180 #[.slice q m d,.string x.name] AF (AA R (CT fun s34 AH => Kp [kb] AF AH ∧ ∃ (f35 : Nat) (Yg Yh : Array Value),v24 = .func (.func f35) Yg Yh ∧ Enters prog f35 ∧ Spec prog f35 (Yg ++ #[.agg #[.slice M0 MQ M1,.string x.val],.string s34] ++ Yh) AH (AA R (CB fun t35 Ab => Bn t35 (R (.returned (.bool false)) Ab) (AI ((k : Int) + 1) ∧ EH.A7 R q m d (aD kb 0) 5 5 (aD b o) n c n ((k : Int) + 1) Ab)))))) ) := fun i f t hi hv Oh ht hf => by
     refine ⟨.func (.func f) #[] #[],?_,?_⟩
     rotate_left
     · refine Wn (hg.mono (CH.trans hx)) (hm x rG) fun p1 n1 c1 σ2 bk A5 => ⟨p1,n1,c1,rfl,Kp.Ho A5,US (hq.mono Bt.mono (CH.trans (hx.trans A5))) ⟨_,rfl,Kp.Ho (.refl _),f,#[],#[],rfl,Oh,hf p1 n1 c1 σ2 _ bk (hx.trans A5) (step t σ2 ht (hx.trans A5))⟩⟩
     rw [hi]
     exact Af (hx _ _ hc) (by simpa using hv)
   have oy : x.kind = 1 ∨ x.kind = 2 ∨ x.kind = 3 ∨ x.kind = 4 := by omega
   rcases oy with h1 | h1 | h1 | h1
   · exact row 1 217 (decide (DA ls x.name = x.val)) h1 rfl Ep.en (by unfold N9; rw [if_pos h1]) fun p1 n1 c1 σ2 R2 _ _ tr => Ep.start fun _ => by rw [UR]; exact tr
   · exact row 2 218 (!decide (DA ls x.name = x.val)) h1 rfl Ew.en (by unfold N9; rw [if_neg (by omega),if_pos h1]; simp) fun p1 n1 c1 σ2 R2 _ _ tr => Ew.start fun _ => by rw [UR]; exact tr
   · exact row 3 219 (ZH x.val (DA ls x.name)) h1 rfl EE.en (by unfold N9; rw [if_neg (by omega),if_neg (by omega),if_pos h1]) fun p1 n1 c1 σ2 R2 bk A5 tr => EE.start fun _ => Jp σ2 p1 n1 c1 bk A5 _ ⟨_,rfl,tr⟩
   · exact row 4 220 (!ZH x.val (DA ls x.name)) h1 rfl ED.en (by unfold N9; rw [if_neg (by omega),if_neg (by omega),if_neg (by omega),if_pos h1]) fun p1 n1 c1 σ2 R2 bk A5 tr => ED.start fun _ => Jp σ2 p1 n1 c1 bk A5 _ ⟨_,rfl,tr⟩
end
end TwW
end
section
namespace TwW
open Go Tw Go.RowKit Go.Proofs.Tryz
structure Rs where
 m : Nat
 dot : Bool
 nd : Nat
 dp : Int
def C3 (st : Rs) (u : UInt8) : Rs := if u = 46 then { st with dot := true,dp := st.nd } else if u = 48 ∧ st.nd = 0 then { st with dp := st.dp - 1 } else { st with m := st.m * 10 + (u.toNat - 48),nd := st.nd + 1 }
def Hk (s : ByteArray) : Rs := s.data.toList.foldl C3 ⟨0,false,0,0⟩
def Ta (r : Rs) : Int := if r.m = 0 then 0 else (if r.dot then r.dp else r.nd) - r.nd
def HJ (s : ByteArray) : Int :=
 let r := Hk s
 if r.m = 0 then (toF 0 : Nat) else if Ta r = 0 then (toF (FloatKind.f64.nearest r.m) : Nat) else (Wk 4 (FloatKind.f64.nearest r.m) (TY.getD (-Ta r).toNat 0) : Nat)
section
variable {σ σ' : Hp} {R : Rr}
theorem OH {s : ByteArray} (hb : s.size ≤ 4611686018427387904) (h : R (.returned (.int .i64 (AN s))) σ) : Spec prog 213 #[.string s] σ R := by
 have hlen : s.data.toList.length = s.size := Array.length_toList (xs := s.data)
 refine Fz.start ?_
 suffices H : ∀ g k : Nat,s.size - k = g → k ≤ s.size → (∀ j u,j < k → s.data.toList[j]? = some u → Bq u = true) → Fz.Dm R s k σ from H s.size 0 rfl (Nat.zero_le _) (fun j u hj => by omega)
 intro g
 induction g with
 | zero =>
   intro k hg hk h1
   have e : AN s = k := Ie (by omega) h1 (fun u hu => by have := (List.getElem?_eq_some_iff.1 hu).1; omega)
   rw [e] at h
   exact Fz.Ac ⟨fun Ap => by omega,fun _ => h⟩
 | succ g ih =>
   intro k hg hk h1
   obtain ⟨u,hu,CU⟩ := byte_at (show k < s.size by omega)
   have stop : Bq u = false → R (.returned (.int .i64 k)) σ := fun hd => by
     have e : AN s = k := Ie (by omega) h1 (fun v hv => by rw [CU] at hv; cases hv; exact hd)
     rw [e] at h; exact h
   refine Fz.Ac ⟨fun _ => ⟨u,by omega,by simpa using hu,fun ZR => ⟨u,by omega,by simpa using hu,fun h57 => ?_,fun h57 => stop ?_⟩,fun ZR => stop ?_⟩,fun hh => by omega⟩
   · refine ⟨AL (by omega : k < s.size) hb,ih (k + 1) (by omega) (by omega) fun j v hj hv => ?_⟩
     by_cases rO : j = k
     · rw [rO,CU] at hv; cases hv
       exact decide_eq_true (by omega)
     · exact h1 j v (by omega) hv
   · exact decide_eq_false (by omega)
   · exact decide_eq_false (by omega)
theorem Wo {s : ByteArray} (hb : s.size ≤ 4611686018427387904) (ht : FY s = true) (h : R (.returned (.bool true)) σ) : Spec prog 172 #[.string s] σ R := by
 have hle := MA s
 have h0 : AN s ≠ 0 := fun e => by unfold FY at ht; rw [if_pos e] at ht; cases ht
 have h1 : ¬ (1 < AN s ∧ s.data[0]? = some 48) := fun e => by unfold FY at ht; rw [if_neg h0,if_pos e] at ht; cases ht
 obtain ⟨u0,hu0,_⟩ := byte_at (show 0 < s.size by omega)
 have Qa := JT (u := u0) (k := 48) (by decide)
 have tail : Br ((AN s : Int) = ((ByteArray.size s : Nat) : Int)) (R (.returned (.bool (decide ((AN s : Int) ≤ 15)))) σ) (AI ((AN s : Int) + 1) ∧ ∃ vV,YF prog (Instr.sliceAt 9 (.string s) (some (.int .i64 ((AN s : Int) + 1))) none none) σ (.string vV) ∧ Spec prog 213 #[.string vV] σ (AA R (CI .i64 fun X9 AF => ∃ MY : UInt8,0 ≤ (AN s : Int) ∧ (ByteArray.data s)[Int.toNat (AN s : Int)]? = some MY ∧ Br ((((UInt8.toNat MY : Nat) : Int) : Int) = 46) (Br (0 < X9) (AI ((AN s : Int) + 1) ∧ AI (((AN s : Int) + 1) + X9) ∧ Br (((((AN s : Int) + 1) + X9) : Int) = ((ByteArray.size s : Nat) : Int)) (AI ((AN s : Int) + X9) ∧ R (.returned (.bool (decide ((((AN s : Int) + X9) : Int) ≤ 15)))) AF) (R (.returned (.bool false)) AF)) (R (.returned (.bool false)) AF)) (R (.returned (.bool false)) AF)))) := by
   unfold FY at ht
   rw [if_neg h0,if_neg h1] at ht
   refine ⟨fun he => ?_,fun he => ⟨by unfold AI; omega,s.extract (AN s + 1) s.size,OG (l := AN s + 1) (by omega),?_⟩⟩
   · rw [if_pos (by omega)] at ht
     rw [decide_eq_true (by have := of_decide_eq_true ht; omega)]; exact h
   · rw [if_neg (by omega)] at ht
     have ht := of_decide_eq_true ht
     have ANA : (s.extract (AN s + 1) s.size).size = s.size - (AN s + 1) := by rw [ByteArray.size_extract]; omega
     have hm := MA (s.extract (AN s + 1) s.size)
     refine OH (by omega) ?_
     obtain ⟨u,hu,_⟩ := byte_at (show AN s < s.size by omega)
     rw [hu] at ht
     have b46 := JT (u := u) (k := 46) (by decide)
     generalize AN (s.extract (AN s + 1) s.size) = m at *
     refine ⟨_,rfl,u,by omega,by simpa using hu,fun VN => ⟨fun h0m => ⟨by unfold AI; omega,by unfold AI; omega,fun hs => ⟨by unfold AI; omega,?_⟩,fun hs => absurd (by omega) hs⟩,fun h0m => absurd (by omega) h0m⟩,fun VN => absurd (b46.2 (by have := ht.1; simpa using this)) VN⟩
     rw [decide_eq_true (by omega)]; exact h
 refine Ps.start (OH hb ⟨_,rfl,fun hh => absurd hh (by omega),fun _ => ⟨fun h1n => ⟨u0,by omega,by simpa using hu0,fun ZR => ?_,fun _ => tail⟩,fun _ => tail⟩⟩)
 exact absurd ⟨by omega,by rw [hu0,Qa.1 ZR]; rfl⟩ h1
theorem dC {α : Type} {p : α → Bool} : ∀ {l : List α} {u : α},u ∈ l.takeWhile p → p u = true
 | [],u,h => by cases h
 | a :: l,u,h => by
   unfold List.takeWhile at h
   split at h
   · rename_i ha
     rcases List.mem_cons.1 h with rfl | h
     · exact ha
     · exact dC h
   · cases h
theorem MB {s : ByteArray} (h : FY s = true) : 0 < s.size ∧ s.size ≤ 16 ∧ (∃ u,s.data.toList[0]? = some u ∧ Bq u = true) ∧ (∀ u ∈ s.data.toList,Bq u = true ∨ u = 46) ∧ (s.data.toList.filter Bq).length ≤ 15 ∧ (∀ j k : Nat,s.data.toList[j]? = some 46 → s.data.toList[k]? = some 46 → j = k) := by
 have hlen : s.data.toList.length = s.size := Array.length_toList (xs := s.data)
 have hle := MA s
 have h0 : AN s ≠ 0 := fun e => by unfold FY at h; rw [if_pos e] at h; cases h
 have h1 : ¬ (1 < AN s ∧ s.data[0]? = some 48) := fun e => by unfold FY at h; rw [if_neg h0,if_pos e] at h; cases h
 unfold FY at h
 rw [if_neg h0,if_neg h1] at h
 have hT : s.data.toList.takeWhile Bq = s.data.toList.take (AN s) := by
   unfold AN
   exact (List.prefix_iff_eq_take.1 (List.takeWhile_prefix _))
 have Wp : ∀ u ∈ s.data.toList.take (AN s),Bq u = true := fun u hu => by rw [← hT] at hu; exact dC hu
 have d46 : Bq 46 = false := by decide
 have ex0 : ∃ u,s.data.toList[0]? = some u ∧ Bq u = true := by
   obtain ⟨u,_,CU⟩ := byte_at (show 0 < s.size by omega)
   refine ⟨u,CU,Wp u (List.mem_of_getElem? (i := 0) ?_)⟩
   rw [List.getElem?_take,if_pos (by omega)]; exact CU
 by_cases he : AN s = s.size
 · rw [if_pos he] at h
   have h15 := of_decide_eq_true h
   have Jp : ∀ u ∈ s.data.toList,Bq u = true := fun u hu => Wp u (by rw [List.take_of_length_le (by omega)]; exact hu)
   refine ⟨by omega,by omega,ex0,fun u hu => .inl (Jp u hu),by have := List.length_filter_le Bq s.data.toList; omega,fun j k hj _ => ?_⟩
   have := Jp 46 (List.mem_of_getElem? hj)
   rw [d46] at this; cases this
 · rw [if_neg he] at h
   have hh := of_decide_eq_true h
   generalize hm : AN (s.extract (AN s + 1) s.size) = m at hh
   have hm2 : m ≤ 15 := by omega
   have ND : s.data.toList = s.data.toList.take (AN s) ++ 46 :: s.data.toList.drop (AN s + 1) := by
     obtain ⟨u,hu,CU⟩ := byte_at (show AN s < s.size by omega)
     have e46 : u = 46 := by have := hh.1; rw [hu] at this; simpa using this
     rw [← e46,← A3 CU,List.take_append_drop]
   have JL : (s.extract (AN s + 1) s.size).data.toList = s.data.toList.drop (AN s + 1) := by
     rw [ByteArray.data_extract,Array.toList_extract,List.extract_eq_take_drop]
     rw [List.take_of_length_le (by rw [List.length_drop]; omega)]
   have xR : ∀ u ∈ s.data.toList.drop (AN s + 1),Bq u = true := fun u hu => by
     rw [← JL] at hu
     have hp := List.takeWhile_prefix (p := Bq) (l := (s.extract (AN s + 1) s.size).data.toList)
     have hl : ((s.extract (AN s + 1) s.size).data.toList.takeWhile Bq).length = (s.extract (AN s + 1) s.size).data.toList.length := by
       rw [show ((s.extract (AN s + 1) s.size).data.toList.takeWhile Bq).length = AN (s.extract (AN s + 1) s.size) from rfl,hm,JL,List.length_drop]; omega
     have := hp.eq_of_length hl
     rw [← this] at hu
     exact dC hu
   refine ⟨by omega,by omega,ex0,fun u hu => ?_,?_,fun j k hj hk => ?_⟩
   · rw [ND] at hu
     rcases List.mem_append.1 hu with hu | hu
     · exact .inl (Wp u hu)
     · rcases List.mem_cons.1 hu with rfl | hu
       · exact .inr rfl
       · exact .inl (xR u hu)
   · rw [ND,List.filter_append,List.filter_cons,d46]
     have a1 := List.length_filter_le Bq (s.data.toList.take (AN s))
     have a2 := List.length_filter_le Bq (s.data.toList.drop (AN s + 1))
     rw [List.length_take] at a1
     rw [List.length_drop] at a2
     simp only [List.length_append]
     simp
     omega
   · have only : ∀ i : Nat,s.data.toList[i]? = some 46 → i = AN s := fun i hi => by
       rw [ND] at hi
       have eA : (s.data.toList.take (AN s)).length = AN s := by rw [List.length_take]; omega
       rcases Nat.lt_trichotomy i (AN s) with Ap | Ap | Ap
       · rw [List.getElem?_append_left (by omega)] at hi
         have := Wp 46 (List.mem_of_getElem? hi)
         rw [d46] at this; cases this
       · exact Ap
       · rw [List.getElem?_append_right (by omega),eA] at hi
         obtain ⟨d,hd⟩ : ∃ d,i - AN s = d + 1 := ⟨i - AN s - 1,by omega⟩
         rw [hd,List.getElem?_cons_succ] at hi
         have := xR 46 (List.mem_of_getElem? hi)
         rw [d46] at this; cases this
     rw [only j hj,only k hk]
def dD (s : ByteArray) (k : Nat) : Nat := ((s.data.toList.take k).filter Bq).length
structure ROk (s : ByteArray) (k : Nat) (r : Rs) : Prop where
 is : r = (s.data.toList.take k).foldl C3 ⟨0,false,0,0⟩
 nd : r.nd ≤ dD s k
 m : r.m < 10 ^ r.nd
 lo : (r.nd : Int) - r.dp ≤ dD s k
 hi : r.dp ≤ r.nd
 sw : r.dot = true → ∃ j,j < k ∧ s.data.toList[j]? = some 46
theorem Gt {u : UInt8} (h : Bq u = true) : 48 ≤ u.toNat ∧ u.toNat ≤ 57 := of_decide_eq_true h
theorem ROk.zero {s : ByteArray} : ROk s 0 ⟨0,false,0,0⟩ := ⟨rfl,Nat.zero_le _,by decide,by simp,by simp,fun h => by cases h⟩
theorem iw {s : ByteArray} {k : Nat} {u : UInt8} (hu : s.data.toList[k]? = some u) : dD s (k + 1) = dD s k + if Bq u then 1 else 0 := by
 unfold dD
 rw [AY hu,List.filter_append,List.length_append]
 congr 1
 by_cases h : Bq u = true <;> simp [h]
theorem ROk.step {s : ByteArray} {k : Nat} {r : Rs} {u : UInt8} (h : ROk s k r) (hu : s.data.toList[k]? = some u) (hd : Bq u = true ∨ u = 46) : ROk s (k + 1) (C3 r u) := by
 have hc := iw hu
 have his : C3 r u = (s.data.toList.take (k + 1)).foldl C3 ⟨0,false,0,0⟩ := by rw [AY hu,List.foldl_append,← h.is]; rfl
 have h1 := h.nd
 have h2 := h.m
 have h3 := h.lo
 have h4 := h.hi
 by_cases VN : u = 46
 · subst VN
   have e : C3 r 46 = { r with dot := true,dp := r.nd } := by unfold C3; rw [if_pos rfl]
   rw [show Bq 46 = false from by decide] at hc
   simp only [Bool.false_eq_true,if_false,Nat.add_zero] at hc
   rw [e] at his ⊢
   exact ⟨his,by rw [hc]; exact h1,h2,by dsimp only; omega,Int.le_refl _,fun _ => ⟨k,by omega,hu⟩⟩
 have hdg := hd.resolve_right VN
 have hn := Gt hdg
 rw [hdg] at hc
 simp only [if_true] at hc
 by_cases ZR : u = 48 ∧ r.nd = 0
 · have e : C3 r u = { r with dp := r.dp - 1 } := by unfold C3; rw [if_neg VN,if_pos ZR]
   rw [e] at his ⊢
   exact ⟨his,by dsimp only; omega,h2,by dsimp only; omega,by dsimp only; omega,fun hh => let ⟨j,h5,h6⟩ := h.sw hh; ⟨j,by omega,h6⟩⟩
 · have e : C3 r u = { r with m := r.m * 10 + (u.toNat - 48),nd := r.nd + 1 } := by unfold C3; rw [if_neg VN,if_neg ZR]
   rw [e] at his ⊢
   exact ⟨his,by dsimp only; omega,by dsimp only; rw [Nat.pow_succ]; omega,by dsimp only; omega,by dsimp only; omega,fun hh => let ⟨j,h5,h6⟩ := h.sw hh; ⟨j,by omega,h6⟩⟩
theorem oz {x : Int} (h0 : 0 ≤ x) (h1 : x < 18446744073709551616) : IntKind.u64.wrap x = x := by simp [IntKind.wrap,IntKind.bits,IntKind.signed]; omega
theorem AHl {x : Int} (h0 : 0 ≤ x) (h1 : x < 256) : IntKind.u8.wrap x = x := by simp [IntKind.wrap,IntKind.bits,IntKind.signed]; omega
theorem Za {n : Nat} (h : n ≤ 15) : 10 ^ n ≤ 1000000000000000 := Nat.le_trans (Nat.pow_le_pow_right (by decide) h) (by decide)
theorem ix {s : ByteArray} (ht : FY s = true) (h : R (.returned (.tuple #[.int .u64 ((Hk s).m : Nat),.int .i64 (Ta (Hk s)),.bool false,.bool false,.bool false,.int .i64 (s.size : Nat),.bool true])) σ) : Spec prog 272 #[.string s] σ R := by
 obtain ⟨hs0,AAp,⟨u0,hu0,fe⟩,j1,tu,AHm⟩ := MB ht
 have hlen : s.data.toList.length = s.size := Array.length_toList (xs := s.data)
 have hn0 := Gt fe
 have hg0 : s.data[0]? = some u0 := by rw [← Array.getElem?_toList]; exact hu0
 have AHn : ∀ k,dD s k ≤ 15 := fun k => Nat.le_trans (List.Sublist.length_le ((List.take_sublist _ _).filter _)) tu
 have Wq : AE.nC R s 0 0 false false false 0 false false 10 19 101 false false 0 0 0 σ := by
   suffices H : ∀ g k : Nat,∀ r : Rs,s.size - k = g → k ≤ s.size → ROk s k r → AE.nC R s (r.m : Nat) 0 false false false (k : Nat) false false 10 19 101 r.dot (decide (0 < k)) (r.nd : Nat) (r.nd : Nat) r.dp σ from H s.size 0 ⟨0,false,0,0⟩ rfl (Nat.zero_le _) .zero
   intro g
   induction g with
   | zero =>
     intro k r hg hk hr
     have XA : k = s.size := by omega
     have er : r = Hk s := by rw [hr.is,List.take_of_length_le (by omega)]; rfl
     have hc := AHn k
     have h1 := hr.nd
     have h3 := hr.lo
     have h4 := hr.hi
     refine AE.fN ⟨fun Ap => by omega,fun _ => ?_⟩
     rw [show decide (0 < k) = true from decide_eq_true (by omega)]
     have fin : ∀ x17 : Int,(r.m ≠ 0 → x17 - r.nd = Ta r) → -100 ≤ x17 → x17 ≤ 100 → AE.fM R s (r.m : Nat) 0 false false false (k : Nat) false false 10 101 (r.nd : Nat) x17 σ := fun x17 hx hlo hhi => by
       refine AE.nJ ⟨fun hh => absurd hh (by decide),fun _ => AE.nK ⟨fun Ap => by omega,fun _ => ⟨fun hh => absurd hh (by decide),fun _ => AE.nL ⟨fun hm => ⟨by unfold AI; omega,AE.Y7 ⟨fun hh => (by cases hh),fun _ => ?_⟩⟩,fun hm => AE.Y7 ⟨fun hh => (by cases hh),fun _ => ?_⟩⟩⟩⟩⟩
       · rw [hx (by omega),XA,er]; exact h
       · have hm0 : r.m = 0 := by omega
         have : Ta (Hk s) = 0 := by rw [← er]; unfold Ta; rw [if_pos hm0]
         rw [this,← XA,← er] at h; exact h
     refine AE.nI ⟨fun hh => (by cases hh),fun _ => ⟨fun hf => fin _ (fun hm => ?_) (by omega) (by omega),fun hf => fin _ (fun hm => ?_) (by omega) (by omega)⟩⟩
     · unfold Ta; rw [if_neg hm,hf]; rfl
     · unfold Ta; rw [if_neg hm,hf]; rfl
   | succ g ih =>
     intro k r hg hk hr
     obtain ⟨u,hu,CU⟩ := byte_at (show k < s.size by omega)
     have bX := j1 u (List.mem_of_getElem? CU)
     have Cg := hr.step CU bX
     have QG := fun h64 => AE.nM (R := R) (σ := σ) (s0 := s) (x2 := ((C3 r u).m : Nat)) (x3 := 0) (t4 := false) (t5 := false) (t6 := false) (x7 := (k : Nat)) (t8 := false) (t9 := false) (x10 := 10) (x11 := 19) (x12 := 101) (t13 := (C3 r u).dot) (t14 := true) (x15 := ((C3 r u).nd : Nat)) (x16 := ((C3 r u).nd : Nat)) (x17 := (C3 r u).dp) ⟨h64,by
       have := ih (k + 1) (C3 r u) (by omega) (by omega) Cg
       rw [show decide (0 < k + 1) = true from decide_eq_true (by omega)] at this
       exact_mod_cast this⟩
     have QG := QG (by unfold AI; omega)
     have hc := AHn k
     have h1 := hr.nd
     have h3 := hr.lo
     have h4 := hr.hi
     refine AE.fN ⟨fun _ => ⟨u,by omega,by simpa using hu,fun h95 => ?_,fun h95 => ⟨fun VN => ⟨fun AHp => ?_,fun AHp => ?_⟩,fun VN => ?_⟩⟩,fun hh => by omega⟩
     · exfalso
       rcases bX with hd | rfl
       · have := Gt hd; omega
       · exact absurd h95 (by decide)
     · exfalso
       obtain ⟨j,hj,RQ⟩ := hr.sw AHp
       have e : u = 46 := (JT (k := 46) (by decide)).1 VN
       rw [e] at CU
       have := AHm j k RQ CU
       omega
     · have e : u = 46 := (JT (k := 46) (by decide)).1 VN
       have hk0 : 0 < k := by
         rcases Nat.eq_zero_or_pos k with h0 | h0
         · subst h0
           rw [hu0] at CU; cases CU
           rw [e] at fe; exact absurd fe (by decide)
         · exact h0
       rw [show decide (0 < k) = true from decide_eq_true hk0]
       rw [show C3 r u = { r with dot := true,dp := r.nd } by unfold C3; rw [if_pos e]] at QG
       exact QG
     have hd := bX.resolve_right fun e => VN ((JT (k := 46) (by decide)).2 e)
     have hn := Gt hd
     have xS : u ≠ 46 := fun e => VN ((JT (k := 46) (by decide)).2 e)
     have Qa := JT (u := u) (k := 48) (by decide)
     refine ⟨fun _ => ⟨fun _ => ?_,fun hh => by omega⟩,fun hh => by omega⟩
     have ATf := Nat.lt_of_lt_of_le hr.m (Za (show r.nd ≤ 15 by omega))
     have digit : ¬ (u = 48 ∧ r.nd = 0) → AI ((r.nd : Int) + 1) ∧ Br ((r.nd : Int) < 19) (Df (IntKind.u64.wrap ((r.m : Int) * 10)) fun x99 => Df (IntKind.u8.wrap (((UInt8.toNat u : Nat) : Int) - 48)) fun iM => Df (IntKind.u64.wrap iM) fun iN => Df (IntKind.u64.wrap (x99 + iN)) fun cL => AI ((r.nd : Int) + 1) ∧ AE.F0 R s cL 0 false false false (k : Nat) false false 10 19 101 r.dot true ((r.nd : Int) + 1) ((r.nd : Int) + 1) r.dp σ) (Br ((((UInt8.toNat u : Nat) : Int) : Int) ≠ 48) (AE.F0 R s (r.m : Nat) 0 false true false (k : Nat) false false 10 19 101 r.dot true ((r.nd : Int) + 1) (r.nd : Nat) r.dp σ) (AE.F0 R s (r.m : Nat) 0 false false false (k : Nat) false false 10 19 101 r.dot true ((r.nd : Int) + 1) (r.nd : Nat) r.dp σ)) := fun EB => by
       refine ⟨by unfold AI; omega,fun _ => fun x99 e99 iM ANL iN ANM cL ANN => ⟨by unfold AI; omega,?_⟩,fun hh => absurd (by omega) hh⟩
       rw [oz (by omega) (by omega)] at e99
       rw [AHl (by omega) (by omega)] at ANL
       rw [oz (by omega) (by omega)] at ANM
       rw [oz (by omega) (by omega)] at ANN
       rw [show C3 r u = { r with m := r.m * 10 + (u.toNat - 48),nd := r.nd + 1 } by unfold C3; rw [if_neg xS,if_neg EB]] at QG
       have : cL = ((r.m * 10 + (u.toNat - 48) : Nat) : Int) := by omega
       rw [this]
       exact_mod_cast QG
     refine ⟨fun ZR => ⟨fun hz => ⟨by unfold AI; omega,?_⟩,fun hz => digit fun hh => hz (by omega)⟩,fun ZR => digit fun hh => ZR (Qa.2 hh.1)⟩
     rw [show C3 r u = { r with dp := r.dp - 1 } by unfold C3; rw [if_neg xS,if_pos ⟨Qa.1 ZR,by omega⟩]] at QG
     exact QG
 have ANO : AE.UP R s 0 0 false false false 0 false false σ := by
   refine AE.RA ⟨by unfold AI; omega,fun Ap => ⟨u0,by omega,by simpa using hg0,fun ZR => ⟨by unfold AI; omega,?_⟩,fun _ => AE.JJ Wq⟩,fun _ => AE.JJ Wq⟩
   obtain ⟨u1,iQ,ANP⟩ := byte_at (show 1 < s.size by omega)
   refine ⟨u1,by decide,by simpa using iQ,Eo.start fun x4 e4 => ⟨_,rfl,fun ANQ => ?_,fun _ => AE.JJ Wq⟩⟩
   exfalso
   have low : ∀ i : Fin 12,Go.bits .or .u8 (((46 + i.1 : Nat)) : Int) 32 ≠ 120 := by decide
   have F7 : 46 ≤ u1.toNat ∧ u1.toNat < 58 := by
     rcases j1 u1 (List.mem_of_getElem? ANP) with hd | rfl
     · have := Gt hd; omega
     · decide
   have := low ⟨u1.toNat - 46,by omega⟩
   rw [show 46 + (u1.toNat - 46) = u1.toNat by omega] at this
   exact this (by rw [← e4]; exact ANQ)
 refine AE.start ⟨fun hh => by omega,fun _ => ⟨u0,by decide,by simpa using hg0,fun hh => by omega,fun _ => ⟨fun hh => by omega,fun _ => ANO⟩⟩⟩
theorem Wr {s : ByteArray} (ht : FY s = true) (h : R (.returned (.tuple #[.float .f64 0,.int .i64 0,.bool false])) σ) : Spec prog 271 #[.string s] σ R := by
 obtain ⟨hs0,AAp,⟨u0,hu0,fe⟩,j1,tu,AHm⟩ := MB ht
 have hn0 := Gt fe
 have hg0 : s.data[0]? = some u0 := by rw [← Array.getElem?_toList]; exact hu0
 refine Aj.start ⟨fun hh => by omega,fun _ => ⟨u0,by decide,by simpa using hg0,fun hh => by omega,fun _ => Aj.WH ⟨fun hh => ?_,fun _ => ⟨fun hh => by omega,fun _ => Aj.sY ⟨fun hh => ?_,fun _ => ⟨fun hh => by omega,fun _ => Aj.WI ⟨fun hh => ?_,fun _ => Aj.sZ h⟩⟩⟩⟩⟩⟩⟩
 · have := of_decide_eq_true hh; omega
 · have := of_decide_eq_true hh; omega
 · have := of_decide_eq_true hh; omega
theorem tw {x : Int} : YN prog 281 #[.int .u64 x] σ (.float .f64 x.toNat) := fun w _ => by
 rw [run_callFunc_extern Go.Proofs.Tryz.func281 (by kernel_rfl) (by kernel_rfl) (by kernel_rfl) (e := Extern.MathFloatBits.float64frombits) (by kernel_rfl)]
 rfl
theorem tz {s : ByteArray} (ht : FY s = true) : -15 ≤ Ta (Hk s) ∧ Ta (Hk s) ≤ 0 ∧ (Hk s).m < 1000000000000000 := by
 obtain ⟨hs0,AAp,_,j1,tu,_⟩ := MB ht
 have hlen : s.data.toList.length = s.size := Array.length_toList (xs := s.data)
 have H : ∀ k,k ≤ s.size → ROk s k ((s.data.toList.take k).foldl C3 ⟨0,false,0,0⟩) := fun k => by
   induction k with
   | zero => intro _; exact .zero
   | succ k ih =>
     intro hk
     obtain ⟨u,hu,CU⟩ := byte_at (show k < s.size by omega)
     have := (ih (by omega)).step CU (j1 u (List.mem_of_getElem? CU))
     rwa [AY CU,List.foldl_append]
 have hr := H s.size (Nat.le_refl _)
 rw [List.take_of_length_le (by omega)] at hr
 have hc : dD s s.size ≤ 15 := Nat.le_trans (List.Sublist.length_le ((List.take_sublist _ _).filter _)) tu
 have h1 := hr.nd
 have h3 := hr.lo
 have h4 := hr.hi
 have hm := Nat.lt_of_lt_of_le hr.m (Za (show _ ≤ 15 by omega))
 change (Hk s).m < _ at hm
 change (Hk s).nd ≤ _ at h1
 change ((Hk s).nd : Int) - (Hk s).dp ≤ _ at h3
 change (Hk s).dp ≤ (Hk s).nd at h4
 unfold Ta
 split
 · exact ⟨by decide,by decide,hm⟩
 · split <;> omega
theorem dE {m : Nat} {e : Int} (hg : Gl σ) (hm : m < 1000000000000000) (h1 : -15 ≤ e) (h2 : e ≤ 0) (h : ∀ x : Nat,(toF x : Nat) = (if e = 0 then toF (FloatKind.f64.nearest m) else Wk 4 (FloatKind.f64.nearest m) (TY.getD (-e).toNat 0)) → R (.returned (.tuple #[.float .f64 x,.bool true])) σ) :
   Spec prog 282 #[.int .u64 (m : Nat),.int .i64 e,.bool false] σ R := by
 refine BM.start ⟨52,hg.bits,by decide,fun x11 e11 => ⟨fun hh => ?_,fun _ => ?_⟩⟩
 · exfalso
   apply hh
   rw [e11]
   exact Int.ediv_eq_zero_of_lt (by omega) (by show (m : Int) < 4503599627370496; omega)
 refine OC (v := .float .f64 (FloatKind.f64.nearest m)) (fun w => by kernel_rfl) ⟨_,rfl,fun hh => (by cases hh),fun _ => BM.tG ⟨fun h0 => h _ (by rw [if_pos h0]),fun h0 => ⟨fun hh => by omega,fun _ => ⟨fun _ => ⟨fun _ => ?_,fun hh => absurd (by omega) hh⟩,fun hh => absurd (by omega) hh⟩⟩⟩⟩
 obtain ⟨b,o,n,c,hp,hn,hl⟩ := hg.pow
 refine ⟨_,n,c,hp,fun tA e60 => ?_⟩
 have ANR : tA = -e := by rw [e60]; simp [IntKind.wrap,IntKind.bits,IntKind.signed]; omega
 have Ap : (-e).toNat < TY.length := by show _ < 16; omega
 refine ⟨b,o,rfl,by omega,TY.getD (-e).toNat 0,?_,fV fun y hy => ⟨_,rfl,h y (by rw [if_neg h0]; exact hy)⟩⟩
 rw [ANR]
 exact hl _ _ (by rw [List.getD_eq_getElem?_getD,List.getElem?_eq_getElem Ap]; rfl)
theorem iy {s : ByteArray} (hg : Gl σ) (ht : FY s = true) (h : ∀ x : Nat,((toF x : Nat) : Int) = HJ s → R (.returned (.tuple #[.float .f64 x,.int .i64 (s.size : Nat),.nilIface])) σ) : Spec prog 253 #[.string s] σ R := by
 obtain ⟨h1,h2,hm⟩ := tz ht
 refine ES.start (Wr ht ⟨_,_,_,rfl,fun hh => (by cases hh),fun _ => ix ht ⟨_,_,_,_,_,_,_,rfl,fun hh => (by cases hh),fun _ => ⟨fun hh => (by cases hh),fun _ => ⟨true,hg.opt,fun _ => CX.start ⟨fun hh => (by cases hh),fun _ => ⟨_,rfl,by decide,fun bz e67 => ?_⟩⟩,fun hh => (by cases hh)⟩⟩⟩⟩)
 have ANS : bz = 0 := by rw [e67]; rfl
 subst ANS
 refine ⟨fun h0 => fun vy e71 => .y tw ⟨_,rfl,h _ ?_⟩,fun h0 => ⟨fun hh => by omega,fun _ => ⟨fun hh => by omega,fun _ => ⟨fun _ => dE hg hm h1 h2 fun x hx => ⟨_,_,rfl,fun _ => h x ?_,fun hh => (by cases hh)⟩,fun hh => (by cases hh)⟩⟩⟩⟩
 · have : vy = 0 := by rw [e71]; decide
   rw [this]
   unfold HJ
   rw [if_pos (by omega)]; rfl
 · unfold HJ
   dsimp only
   rw [if_neg (by omega),hx]
   split <;> rfl
theorem Zb {s : ByteArray} (hg : Gl σ) (ht : FY s = true) (h : R (.returned (.tuple #[.int .u64 (HJ s),.bool true])) σ) : Spec prog 140 #[.string s] σ R := by
 obtain ⟨_,AAp,_⟩ := MB ht
 refine Pr.start (Wo (by omega) ht ⟨_,rfl,fun hh => (by cases hh),fun _ => HA.start (Cz.start (Bj.start ⟨fun hh => absurd hh (by decide),fun _ => iy hg ht fun x hx => ⟨_,_,_,rfl,_,_,_,rfl,fun hh => absurd rfl hh,fun _ => ⟨_,_,rfl,false,fun w _ => by kernel_rfl,fun hh => (by cases hh),fun _ => ⟨_,_,rfl,Ge ⟨_,rfl,by rw [hx]; exact h⟩⟩⟩⟩⟩))⟩)
end
end TwW
end
section
namespace TwW
open Go Tw Go.RowKit Go.Proofs.Tryz
def AW {α : Type} (s : Nat) (E : Hp → List Value → α → Prop) (σ0 σ : Hp) (p : Option Addr) (n c : Nat) (xs : List α) : Prop := GY s E σ p n c xs ∧ Ext σ0 (σ.del p)
section
variable {α : Type} {s bs : Nat} {E : Hp → List Value → α → Prop} {σ0 σ σ' : Hp} {p : Option Addr} {n c : Nat} {xs : List α}
theorem AW.nil (hx : Ext σ0 σ) : AW s E σ0 σ none 0 0 [] := ⟨GY.nil,hx⟩
theorem AW.mono (hE : HM E) (h : AW s E σ0 σ p n c xs) (hx : Ext σ σ') : AW s E σ0 σ' p n c xs := ⟨h.1.mono hE hx,h.2.trans (hx.del p)⟩
theorem AW.up (h : AW s E σ0 σ p n c xs) : Ext σ0 σ := h.2.trans (Ext.Iw _ _)
theorem AW.rd (hE : HM E) (h : AW s E σ0 σ p n c xs) : Ae s E σ p n xs := h.1.rd hE
theorem AW.new (h : AW s E σ0 σ p n c xs) (hx : Ext σ σ') : Ext (σ.new σ') (σ'.del p) := Ext.rX (fun a ha => h.1.block a ha)
theorem AW.Jq {P : Program} {T Et ty : TypeId} {vs : List Value} {x : α} {Φ : Value → Hp → Prop} (hE : HM E) [J0 P T Et s bs] (h : AW s E σ0 σ p n c xs) (hl : vs.length = s) (h1 : GX vs) (hx : E (σ.del p) vs x) (hb : (n + 1) * bs ≤ 140737488355328)
   (hΦ : ∀ p' c' σ',AW s E σ0 σ' p' (n + 1) c' (xs ++ [x]) → Ext (σ.del p) (σ'.del p') → Φ (.slice p' (n + 1) c') σ') {b : Nat} (hn : σ b = none) :
   AK P (Builtin.append_ #[T,T] ty #[.slice p n c,.slice (some ⟨b,0,none⟩) 1 1]) (σ.set b (.cells vs.toArray Et (0,0))) Φ := by
 obtain ⟨⟨hlen,cs,ho,hc⟩,hx0⟩ := h
 refine DP (ho.mono (.set hn)) ⟨by rw [hl,Nat.one_mul],by omega,.inr ⟨b,0,rfl,Aw.of fun j v hj => ?_⟩⟩ h1 hb fun p' c' σ' MK Wd => ?_
 · simp [Hp.ld,Hp.AB,hj]
 · have e : Ext (σ.del p) (σ'.del p') := ((Ext.set hn).del p).trans Wd
   exact hΦ p' c' σ' ⟨⟨by simp [hlen],_,MK,(hc.snoc hl hx).mono hE e⟩,hx0.trans e⟩ e
end
theorem CD.one (σ : Hp) (vs : List Value) (x : El) (h : CD σ vs x) : GX vs := by
 obtain ⟨p,n,c,rfl,_⟩ := h
 intro u hu
 simp only [List.mem_cons,List.not_mem_nil,or_false] at hu
 rcases hu with rfl | rfl <;> rfl
theorem CD.at {σ : Hp} {p : Option Addr} {n i : Nat} {l : List El} {x : El} (hr : Ae 2 CD σ p n l) (hx : l[i]? = some x) : ∃ b o q m d,p = some ⟨b,o,none⟩ ∧ Aw σ b (o + i * 2) [.slice q m d,.int .u64 x.v] ∧ EK σ q m x.ls := by
 obtain ⟨b,o,vs,hp,⟨q,m,d,rfl,h⟩,hl⟩ := Ae.idx hr hx
 exact ⟨b,o,q,m,d,hp,hl,h⟩
section
variable {σ σ' σ0 : Hp} {R : Rr}
theorem o0 {p : Option Addr} {n c : Nat} {xs : List Int} {Φ : Value → Hp → Prop} (hr : FH .u8 σ p n xs) (h : Φ (.string (strOfNums xs)) σ) : AK prog (convert 90 9 (.slice p n c)) σ Φ := by
 refine AK.pu (fun w hs => ?_) h
 have h1 := underlying90
 have h2 := underlying9
 by_cases hn : n = 0
 · subst hn
   have hx : xs = [] := List.eq_nil_of_length_eq_zero hr.1
   subst hx
   rw [run_convert_bytes_string w 90 9 _ p 0 c h1 underlying5 h2]
   cases p <;> simp [Conv.bytesToString,loadCells] <;> rfl
 · obtain ⟨x0,hx0⟩ := hr.ex (k := 0) (by omega)
   obtain ⟨b,o,rfl,_⟩ := hr.at hx0
   refine run_convert_bytes_arg w 90 _ h1 underlying5 b o n c xs hr.1 (fun i hi => ?_) 9 h2
   obtain ⟨x,hx⟩ := hr.ex hi
   obtain ⟨b',o',he,hl⟩ := hr.at hx
   cases he
   have := cell_of hs hl
   simpa [Bu,hx] using this
theorem FZ {p : Option Addr} {n c : Nat} {ls : List Lb} (hr : EK σ p n ls) (hs : An ls) (h : ∀ σ',Ext σ σ' → R (.returned (.string (Gb ls))) σ') : Spec prog 49 #[.slice p n c] σ R :=
 YA.start (Wc hr hs fun p' n' c' σ' ho hx => ⟨_,_,_,rfl,o0 (D2.rd (A8.mono (Ext.Cq _ _) ho)) ⟨_,rfl,h σ' hx⟩⟩)
theorem Fa {p : Option Addr} {n c : Nat} {ls : List Lb} (hr : EK σ p n ls) (hn : n ≤ 1000000) (h : ∀ p' n' c' σ',EK (σ.new σ') p' n' (BI ls) → Ext σ σ' → R (.returned (.slice p' n' c')) σ') : Spec prog 146 #[.slice p n c] σ R := by
 refine U7.start fun b hb => ?_
 have hx := Ext.set (o := .cells #[(.string (ByteArray.mk #[95,95,110,97,109,101,95,95]))] 9 (0,0)) hb
 refine JN (ns := [A1]) (hr.mono Bt.mono hx) hn (We (Hp.AB _ _ _)) fun p' n' c' σ' ho Wd => ⟨_,_,_,rfl,h p' n' c' σ' ((ho.rd Bt.mono).mono Bt.mono (Ext.Ci hx)) (hx.trans Wd)⟩
theorem VQ {p q : Option Addr} {n c m d : Nat} {ls : List Lb} {ns : List ByteArray} (hr : EK σ p n ls) (hn : n ≤ 1000000) (hs : E9 1 σ q m (ns.map .string))
   (h : ∀ p' n' c' σ',EK (σ.new σ') p' n' (ZD ns ls) → Ext σ σ' → R (.returned (.slice p' n' c')) σ') : Spec prog 149 #[.slice p n c,.slice q m d] σ R := by
 refine Ru.start fun b3 aR => ?_
 have C2 : Ext σ (σ.set b3 (.cells #[.slice q m d] 34 (0,0))) := .set aR
 refine P9 (f := 198) (g := fun x => C5 x.1 ns) Ga.en (hr.mono Bt.mono C2) hn (fun σ' x R' hx Lw => ?_) fun p' n' c' σ' ho hx => ⟨_,_,_,rfl,h p' n' c' σ' ?_ (C2.trans hx)⟩
 · refine Ga.start fun _ => ⟨q,m,d,Af (hx _ _ (Hp.AB _ _ _)) rfl,LO (hs.mono (C2.trans hx)) ⟨_,rfl,Lw⟩⟩
 · exact (ho.rd Bt.mono).mono Bt.mono (Ext.Ci C2)
theorem iz {p q : Option Addr} {n c m d : Nat} {ls : List Lb} {ns : List ByteArray} (hr : EK σ p n ls) (hn : n ≤ 1000000) (hs : E9 1 σ q m (ns.map .string))
   (h : ∀ p' n' c' σ',EK (σ.new σ') p' n' (BI (ZE ns ls)) → Ext σ σ' → R (.returned (.slice p' n' c')) σ') {R' : Rr} (hR : ∀ p' n' c' σ',R (.returned (.slice p' n' c')) σ' → R' (.returned (.slice p' n' c')) σ') :
   Spec prog 150 #[.slice p n c,.slice q m d] σ (AA R' (CS fun aL n15 V6 y => Spec prog 146 #[.slice aL n15 V6] y (AA R' (CS fun bd n16 XE AF => R' (.returned (.slice bd n16 XE)) AF)))) := by
 refine JN hr hn hs fun p' n' c' σ1 ho hx => ⟨_,_,_,rfl,?_⟩
 have hl : n' ≤ n := by
   have h1 := ho.1
   have h2 := List.length_filter_le (fun x : Lb => !C5 x.1 ns) ls
   have h3 : ls.length = n := hr.1
   omega
 refine Fa ((ho.rd Bt.mono).mono Bt.mono (Ext.Cq _ _)) (by omega) fun p2 n2 c2 σ2 HL A5 => ⟨_,_,_,rfl,hR _ _ _ _ (h p2 n2 c2 σ2 (HL.mono Bt.mono (Ext.Ci hx)) (hx.trans A5))⟩
theorem RF {n : Nd} {p q r : Option Addr} {k c m d j e : Nat} {ls : List Lb} (hr : EK σ r j ls) (hj : j ≤ 1000000) (hs : E9 1 σ q m (n.names.map .string))
   (h : ∀ p' n' c' σ',EK (σ.new σ') p' n' (NU n ls) → Ext σ σ' → R (.returned (.slice p' n' c')) σ') : Spec prog 207 #[MU n p k c q m d,.slice r j e] σ R := by
 refine fE.start fun _ => ⟨fun h3 => VQ hr hj hs fun p' n' c' σ' jg hx => ⟨_,_,_,rfl,h p' n' c' σ' ?_ hx⟩,fun h3 => iz hr hj hs (fun p' n' c' σ' jg hx => h p' n' c' σ' ?_ hx) fun _ _ _ _ hh => hh⟩
 · unfold NU; rw [if_pos h3]; exact jg
 · unfold NU; rw [if_neg h3]; exact jg
theorem An.filter {ls : List Lb} (g : Lb → Bool) (h : An ls) : An (ls.filter g) := ⟨Nat.le_trans (List.length_filter_le _ _) h.1,fun x hx => h.2 x (List.mem_filter.1 hx).1⟩
theorem An.bare {ls : List Lb} (h : An ls) : An (BI ls) := h.filter _
theorem An.NU {n : Nd} {ls : List Lb} (h : An ls) : An (TwW.NU n ls) := by
 unfold TwW.NU ZD BI ZE
 split
 · exact h.filter _
 · exact (h.filter _).filter _
structure Ii (R : Rr) (σ : Hp) (X : Option Vv) : Prop where
 ok : ∀ x σ' p n c q m d,X = some x → Ext σ σ' → Ae 2 CD σ' p n x.vec → Ae 2 TN σ' q m x.Ox → n ≤ c → m ≤ d → R (.returned (.tuple #[.agg #[.int .i64 x.kind,.int .u64 x.v,.slice p n c,.slice q m d],.int .i64 0])) σ'
 no : X = none → ∀ σ',Ext σ σ' → R (.returned (.tuple #[.agg #[.int .i64 0,.int .u64 0,.slice none 0 0,.slice none 0 0],.int .i64 223])) σ'
theorem Ii.jA {X : Option Vv} (h : Ii R σ X) (hx : Ext σ σ') : Ii R σ' X := ⟨fun x σ2 p n c q m d h0 h1 h2 h3 => h.ok x σ2 p n c q m d h0 (hx.trans h1) h2 h3,fun h0 σ2 h1 => h.no h0 σ2 (hx.trans h1)⟩
theorem Ii.UY {X : Option Vv} (h : Ii R σ X) : Ii (AA R (fun z y => ∃ YD YE YG YH YI YJ YK YL WG,z = (.tuple #[.agg #[.int .i64 YD,.int .u64 YE,.slice YG YH YI,.slice YJ YK YL],.int .i64 WG]) ∧ R (.returned (.tuple #[.agg #[.int .i64 YD,.int .u64 YE,.slice YG YH YI,.slice YJ YK YL],.int .i64 WG])) y)) σ X :=
 ⟨fun x σ' p n c q m d h0 h1 h2 h3 h4 h5 => ⟨_,_,_,_,_,_,_,_,_,rfl,h.ok x σ' p n c q m d h0 h1 h2 h3 h4 h5⟩,fun h0 σ' h1 => ⟨_,_,_,_,_,_,_,_,_,rfl,h.no h0 σ' h1⟩⟩
theorem jB [E5] {p q : Option Addr} {n c m d : Nat} {v u : Int} {ls ms : List Lb} (hr : EK σ p n ls) (hs : EK σ q m ms) (h : ∀ σ',Ext σ σ' → R (.returned (.int .i64 (Au ls ms))) σ') : Spec prog 196 #[.agg #[.slice p n c,.int .u64 v],.agg #[.slice q m d,.int .u64 u]] σ R :=
 Mb.start fun _ _ => Ly hr hs fun σ' hx => ⟨_,rfl,h σ' hx⟩
end
end TwW
end
section
namespace TwW
open Go Tw Go.RowKit Go.Proofs.Tryz
def Ij (op : Int) (vs : List Int) (w : Int) : Option Int :=
 if op = 4 then some (UU vs) else if op = 5 then some (RD 4 (UU vs) (BA vs.length)) else if op = 6 then some (LV 7 vs) else if op = 7 then some (LV 9 vs) else if op = 8 then some (BA vs.length)
 else if op = 9 then some (cZ (vs.getLast?.getD 0)) else if op = 10 then some (RE vs) else if vs.length < 2 then none
 else if op = 3 then some (RD 2 (vs.getLast?.getD 0) (vs.head?.getD 0)) else if op = 2 then some (LY vs) else some (RD 4 (LY vs) w)
def foldI (op : Int) (vs : List Int) : Int := if op = 1 then UU vs else if op = 2 then LV 7 vs else if op = 3 then LV 9 vs else if op = 4 then RD 4 (UU vs) (BA vs.length) else BA vs.length
def DL (op a b : Int) : Int × Bool := if 1 ≤ op ∧ op ≤ 4 then (RD op a b,true) else (if NA op a b then BA 1 else BA 0,NA op a b)
def FF : Fl := { num := HJ,abs := Wl,floor := NB,whole := BA,oO := oW,over := Ij,fold := foldI,N7 := DL,ZC := Jo,cmpL := Au }
structure QH (σ : Hp) (ab : Nat) (ss : List Sr) (t : Int) : Prop where
 ser : ∃ p n c,σ.ld ⟨ab,0,none⟩ = some (.slice p n c) ∧ Ae 2 CF σ p n ss
 at_ : σ.ld ⟨ab,1,none⟩ = some (.int .i64 t)
theorem QH.mono {σ σ' : Hp} {ab : Nat} {ss : List Sr} {t : Int} (h : QH σ ab ss t) (hx : Ext σ σ') : QH σ' ab ss t := ⟨let ⟨p,n,c,h1,h2⟩ := h.ser; ⟨p,n,c,hx.ld h1,h2.mono CF.mono hx⟩,hx.ld h.at_⟩
structure uA (ss : List Sr) : Prop where
 ris : ∀ s ∈ ss,ZQ s.ps
 sm : ∀ s ∈ ss,An s.ls
 len : ss.length ≤ 10000000
structure AAr (n : Nd) : Prop where
 mki : ∀ x ∈ n.mt,1 ≤ x.kind ∧ x.kind ≤ 4
 mv : ∀ x ∈ n.mt,x.val.size ≤ 1000000
 back : 0 ≤ n.back ∧ n.back < 2147483648
 width : 0 ≤ n.width ∧ n.width < 2147483648
section
variable {σ σ' σ0 : Hp} {R : Rr}
theorem OI {n : Nd} {a p q l : Option Addr} {k c m d j e : Nat} (hg : Gl σ) (ht : FY n.text = true) (h : Ii R σ (some ⟨1,HJ n.text,[],[]⟩)) : Spec prog 100 #[.pointer a,MU n p k c q m d,.slice l j e] σ R :=
 B9.start fun _ _ => Zb hg ht ⟨_,_,rfl,h.ok _ σ none 0 0 none 0 0 rfl (.refl _) Ae.nil Ae.nil (Nat.le_refl _) (Nat.le_refl _)⟩
theorem Hl {n : Nd} {p q : Option Addr} {k c m d : Nat} {a b : Int} (h : R (.returned (.tuple #[.int .u64 (DL n.op a b).1,.bool (DL n.op a b).2])) σ) : Spec prog 156 #[MU n p k c q m d,.int .u64 a,.int .u64 b] σ R := by
 refine P5.start fun _ => JQ ?_
 unfold DL at h
 by_cases h1 : 1 ≤ n.op ∧ n.op ≤ 4
 · rw [if_pos h1] at h ⊢
   exact ⟨_,_,rfl,fun _ => h,fun hh => (by cases hh)⟩
 · rw [if_neg h1] at h ⊢
   exact ⟨_,_,rfl,fun hh => (by cases hh),fun _ => JR ⟨_,_,rfl,cd ⟨_,rfl,h⟩⟩⟩
theorem Gu {α β : Type} {f : α → Option β} {xs : List α} {k : Nat} {x : α} (hx : xs[k]? = some x) : (xs.take (k + 1)).filterMap f = (xs.take k).filterMap f ++ (f x).toList := by
 rw [AY hx,List.filterMap_append]
 cases h : f x <;> simp [List.filterMap_cons,h]
theorem Zc {n : Nd} {p q l : Option Addr} {k c m d j e ab : Nat} {ss : List Sr} {t : Int} (hA : QH σ ab ss t) (hg : Gl σ) (hm : Ae 3 Oa σ p k n.mt) (hS : uA ss) (hN : AAr n) (ht : -4611686018427387904 ≤ t ∧ t ≤ 4611686018427387904)
   (h : Ii R σ (some ⟨2,0,Ad FF n ss t,[]⟩)) : Spec prog 101 #[.pointer (some ⟨ab,0,none⟩),MU n p k c q m d,.slice l j e] σ R := by
 obtain ⟨pss,Ql,uB,Du,hr⟩ := hA.ser
 have hl : ss.length = Ql := hr.1
 have hlen := hS.len
 have hb := hN.back
 let f : Sr → Option El := fun s => match (F2 s.ps (t - n.back - 300) (t - n.back)).getLast? with
   | none => none
   | some p => if p.2 = IZ ∨ FF.ZC n.mt s.ls = false then none else some ⟨s.ls,p.2⟩
 have hf : Ad FF n ss t = ss.filterMap f := rfl
 rw [hf] at h
 refine Ag.start fun _ _ _ => ⟨ab,0,rfl,pss,Ql,uB,Du,?_⟩
 suffices H : ∀ g i : Nat,∀ p8 n8 c8 σ',Ql - i = g → i ≤ Ql → AW 2 CD σ σ' p8 n8 c8 ((ss.take i).filterMap f) → Ag.A7 R (aD ab 0) n.kind n.op n.text p k c n.width n.back n.Ea q m d n.bool n.parts 0 0 none 0 0 none 0 0 2 0 p8 n8 c8 none 0 0 pss Ql uB Ql i σ' from H Ql 0 none 0 0 σ rfl (Nat.zero_le _) (AW.nil (.refl _))
 intro g
 induction g with
 | zero =>
   intro i p8 n8 c8 σ' pA hi ho
   rw [List.take_of_length_le (by omega)] at ho
   exact Ag.Aa ⟨fun Ap => by omega,fun _ => h.ok _ σ' p8 n8 c8 none 0 0 rfl ho.up (ho.rd CD.mono) Ae.nil (by obtain ⟨cs,XH,_⟩ := ho.1.2; exact A8.cap XH) (Nat.le_refl _)⟩
 | succ g ih =>
   intro i p8 n8 c8 σ' pA hi ho
   have Bk : i < Ql := by omega
   obtain ⟨s,hs⟩ := hr.ex Bk
   obtain ⟨b,o,p1,n1,c1,q1,m1,d1,rfl,Hz,h1,h2,h3⟩ := CF.at hr hs
   have ji := hS.sm s (List.mem_of_getElem? hs)
   have AAs := hS.ris s (List.mem_of_getElem? hs)
   have hx := ho.up
   have QI : n8 ≤ i := by
     have := ho.1.1
     have h9 := List.length_filterMap_le f (ss.take i)
     rw [List.length_take] at h9
     omega
   have next : ∀ p9 n9 c9 σ2,AW 2 CD σ σ2 p9 n9 c9 ((ss.take i).filterMap f ++ (f s).toList) → Ag.MN R (aD ab 0) n.kind n.op n.text p k c n.width n.back n.Ea q m d n.bool n.parts 0 0 none 0 0 none 0 0 2 0 p9 n9 c9 none 0 0 (aD b o) Ql uB Ql i σ2 := fun p9 n9 c9 σ2 Ba =>
     Ag.JH ⟨AL Bk hr.big,ih (i + 1) _ _ _ _ (by omega) (by omega) (by rw [Gu hs]; exact Ba)⟩
   refine Ag.Aa ⟨fun _ => ⟨b,o,rfl,by omega,p1,n1,c1,q1,m1,d1,by simpa using Hz.mono hx,fun _ => ⟨ab,0,rfl,t,hx.ld hA.at_,by unfold AI; omega,by unfold AI; omega,t,hx.ld hA.at_,by unfold AI; omega,QD (h2.mono GG.mono hx) h3 AAs fun q2 m2 d2 HL xT => ⟨q2,m2,d2,rfl,fun h0 => ?_,fun h0 => ?_⟩⟩⟩,fun hh => by omega⟩
   · refine next _ _ _ _ ?_
     have e : f s = none := by
       show (match (F2 s.ps (t - n.back - 300) (t - n.back)).getLast? with | none => none | some p => _) = none
       have Tc : (F2 s.ps (t - n.back - 300) (t - n.back)).length = m2 := HL.1
       rw [List.length_eq_zero_iff.1 (show (F2 s.ps (t - n.back - 300) (t - n.back)).length = 0 by omega)]; rfl
     rw [e]; simpa using ho
   have Tc : (F2 s.ps (t - n.back - 300) (t - n.back)).length = m2 := HL.1
   obtain ⟨y,hy⟩ := HL.ex (k := m2 - 1) (by omega)
   obtain ⟨b2,o2,rfl,UC⟩ := GG.at HL hy
   have e1 : Int.toNat ((m2 : Int) - 1) = m2 - 1 := by omega
   have JM := HL.big
   have AHr : (F2 s.ps (t - n.back - 300) (t - n.back)).getLast? = some y := by rw [List.getLast?_eq_getElem?,Tc,hy]
   have ef : f s = if y.2 = IZ ∨ Jo n.mt s.ls = false then none else some ⟨s.ls,y.2⟩ := by
     show (match (F2 s.ps (t - n.back - 300) (t - n.back)).getLast? with | none => none | some p => _) = _
     rw [AHr]; rfl
   refine ⟨by unfold AI; omega,b2,o2,rfl,by omega,y.2,by rw [e1]; exact UC.2.1,fun Cg => ?_,fun Cg => VP ((hg.mono hx)) (hm.mono Oa.mono hx) (h1.mono Bt.mono hx) hN.mv (fun x hx => by have := (ji.2 x hx).2; omega) hN.mki fun σ2 A5 => ⟨_,rfl,fun hf => ?_,fun htr => ?_⟩⟩
   · refine next _ _ _ _ ?_
     rw [ef,if_pos (.inl Cg)]; simpa using ho
   · refine next _ _ _ _ ?_
     rw [ef,if_pos (.inr hf)]
     simpa using ho.mono CD.mono A5
   · refine ⟨by unfold AI; omega,by omega,y.2,by rw [e1]; exact A5.ld UC.2.1,fun zu AAt => ?_⟩
     have Ba := ho.mono CD.mono A5
     have he : CD (σ2.del p8) [.slice p1 n1 c1,.int .u64 y.2] ⟨s.ls,y.2⟩ := ⟨p1,n1,c1,rfl,h1.mono Bt.mono Ba.2⟩
     refine AW.Jq CD.mono Ba rfl (CD.one _ _ _ he) he (by omega) (fun p' c' σ3 EC _ => ⟨_,_,_,rfl,next _ _ _ _ ?_⟩) AAt
     rw [ef,if_neg (by
                        rintro (h5 | h5)
                        · exact Cg h5
                        · rw [htr] at h5; cases h5)]
     exact EC
theorem A8.pB {s : Nat} {p q : Option Addr} {n c : Nat} {cs : List Value} (ho : A8 s σ q n c cs) (h : ∀ a,q = some a → ∀ a',p = some a' → a.block ≠ a'.block) : A8 s (σ.del p) q n c cs :=
 ⟨ho.1,ho.2.1,ho.2.2.imp id fun ⟨b',o',arr,T,hp,hb,r⟩ => ⟨b',o',arr,T,hp,AR.2 ⟨fun a' aU => h _ hp a' aU,hb⟩,r⟩⟩
theorem AW.sep {α : Type} {s : Nat} {E : Hp → List Value → α → Prop} {p q : Option Addr} {n c m d : Nat} {xs : List α} {ys : List Int} (h : AW s E σ0 σ p n c xs) (g : AW 1 (QP .u64) σ σ' q m d ys) : FH .u64 (σ'.del p) q m ys ∧ m ≤ d := by
 obtain ⟨⟨_,cs,ho,hc⟩,hx⟩ := g
 have hp := h.1.block
 refine ⟨?_,A8.cap ho⟩
 have NR := aq.1 hc
 subst NR
 refine FH.kG (A8.rd (A8.pB ho fun a ha a' aU e => ?_))
 cases hh : σ a'.block with
 | none => exact hp a' aU hh
 | some u => exact (AR.1 (hx _ _ hh)).1 a ha e.symm
theorem TN.one (σ : Hp) (vs : List Value) (x : Rg) (h : TN σ vs x) : GX vs := by
 obtain ⟨p,n,c,q,m,d,rfl,_⟩ := h
 intro u hu
 simp only [List.mem_cons,List.not_mem_nil,or_false] at hu
 rcases hu with rfl | rfl <;> rfl
theorem dF {n : Nd} {p q l : Option Addr} {k c m d j e ab : Nat} {ss : List Sr} {t : Int} (hA : QH σ ab ss t) (hg : Gl σ) (hm : Ae 3 Oa σ p k n.mt) (hS : uA ss) (hN : AAr n) (ht : -4611686018427387904 ≤ t ∧ t ≤ 4611686018427387904) (hpl : ∀ s ∈ ss,s.ps.length ≤ 1000000000)
   (h : Ii R σ (some ⟨3,BA n.width,[],Wg FF n ss t⟩)) : Spec prog 102 #[.pointer (some ⟨ab,0,none⟩),MU n p k c q m d,.slice l j e] σ R := by
 obtain ⟨pss,Ql,uB,Du,hr⟩ := hA.ser
 have hl : ss.length = Ql := hr.1
 have hlen := hS.len
 have hb := hN.back
 have hw := hN.width
 let fv : Sr → List Int := fun s => ((F2 s.ps (t - n.back - n.width) (t - n.back)).filter fun p => decide (p.2 ≠ IZ)).map Prod.snd
 let f : Sr → Option Rg := fun s => bif !(fv s).isEmpty && FF.ZC n.mt s.ls then some ⟨s.ls,fv s⟩ else none
 have hf : Wg FF n ss t = ss.filterMap f := rfl
 rw [hf] at h
 refine AQ.start fun _ _ => JS ⟨_,rfl,fun _ => ⟨ab,0,rfl,pss,Ql,uB,Du,?_⟩⟩
 suffices H : ∀ g i : Nat,∀ p8 n8 c8 σ',Ql - i = g → i ≤ Ql → AW 2 TN σ σ' p8 n8 c8 ((ss.take i).filterMap f) → AQ.A7 R (aD ab 0) n.kind n.op n.text p k c n.width n.back n.Ea q m d n.bool n.parts 0 0 none 0 0 none 0 0 3 (BA n.width) none 0 0 p8 n8 c8 pss Ql uB Ql i σ' from H Ql 0 none 0 0 σ rfl (Nat.zero_le _) (AW.nil (.refl _))
 intro g
 induction g with
 | zero =>
   intro i p8 n8 c8 σ' pA hi ho
   rw [List.take_of_length_le (by omega)] at ho
   exact AQ.Aa ⟨fun Ap => by omega,fun _ => h.ok _ σ' none 0 0 p8 n8 c8 rfl ho.up Ae.nil (ho.rd TN.mono) (Nat.le_refl _) (by obtain ⟨cs,XH,_⟩ := ho.1.2; exact A8.cap XH)⟩
 | succ g ih =>
   intro i p8 n8 c8 σ' pA hi ho
   have Bk : i < Ql := by omega
   obtain ⟨s,hs⟩ := hr.ex Bk
   obtain ⟨b,o,p1,n1,c1,q1,m1,d1,rfl,Hz,h1,h2,h3⟩ := CF.at hr hs
   have ji := hS.sm s (List.mem_of_getElem? hs)
   have AAs := hS.ris s (List.mem_of_getElem? hs)
   have ATk := hpl s (List.mem_of_getElem? hs)
   have hx := ho.up
   have QI : n8 ≤ i := by
     have := ho.1.1
     have h9 := List.length_filterMap_le f (ss.take i)
     rw [List.length_take] at h9
     omega
   have next : ∀ p9 n9 c9 σ2,AW 2 TN σ σ2 p9 n9 c9 ((ss.take i).filterMap f ++ (f s).toList) → AQ.MT R (aD ab 0) n.kind n.op n.text p k c n.width n.back n.Ea q m d n.bool n.parts 0 0 none 0 0 none 0 0 3 (BA n.width) none 0 0 p9 n9 c9 (aD b o) Ql uB Ql i σ2 := fun p9 n9 c9 σ2 Ba =>
     AQ.JJ ⟨AL Bk hr.big,ih (i + 1) _ _ _ _ (by omega) (by omega) (by rw [Gu hs]; exact Ba)⟩
   refine AQ.Aa ⟨fun _ => ⟨b,o,rfl,by omega,p1,n1,c1,q1,m1,d1,by simpa using Hz.mono hx,fun _ => ⟨ab,0,rfl,t,hx.ld hA.at_,by unfold AI; omega,by unfold AI; omega,t,hx.ld hA.at_,by unfold AI; omega,QD (h2.mono GG.mono hx) h3 AAs fun q2 m2 d2 HL xT => ⟨q2,m2,d2,rfl,?_⟩⟩⟩,fun hh => by omega⟩
   have Tc : (F2 s.ps (t - n.back - n.width) (t - n.back)).length = m2 := HL.1
   have hm2 : m2 ≤ 1000000000 := by
     have := List.length_filter_le (fun p : Int × Int => decide (t - n.back - n.width < p.1) && decide (p.1 ≤ t - n.back)) s.ps
     rw [← Tc]; unfold F2; omega
   have hfv : fv s = ((F2 s.ps (t - n.back - n.width) (t - n.back)).filter fun p => decide (p.2 ≠ IZ)).map Prod.snd := rfl
   generalize F2 s.ps (t - n.back - n.width) (t - n.back) = ps at *
   let gv : Pt → Option Int := fun p => if p.2 ≠ IZ then some p.2 else none
   have hgv : ∀ l : List Pt,((l.filter fun p => decide (p.2 ≠ IZ)).map Prod.snd) = l.filterMap gv := fun l => by
     induction l with
     | nil => rfl
     | cons a l ih =>
       by_cases ha : a.2 ≠ IZ
       · rw [List.filter_cons_of_pos (by simpa using ha),List.map_cons,ih,List.filterMap_cons_some (by show (if a.2 ≠ IZ then some a.2 else none) = some a.2; rw [if_pos ha])]
       · rw [List.filter_cons_of_neg (by simpa using ha),ih,List.filterMap_cons_none (by show (if a.2 ≠ IZ then some a.2 else none) = none; rw [if_neg ha])]
   rw [hgv] at hfv
   suffices H2 : ∀ g2 i2 : Nat,∀ q2' IN n11 IP σ2,(0 < m2 → q2' = q2) → m2 - i2 = g2 → i2 ≤ m2 → AW 1 (QP .u64) σ' σ2 IN n11 IP ((ps.take i2).filterMap gv) → AQ.UP R (aD ab 0) n.kind n.op n.text p k c n.width n.back n.Ea q m d n.bool n.parts 0 0 none 0 0 none 0 0 3 (BA n.width) none 0 0 p8 n8 c8 p1 n1 c1 q1 m1 d1 IN n11 IP (aD b o) Ql uB Ql i q2' m2 d2 m2 i2 σ2 from H2 m2 0 q2 none 0 0 σ' (fun _ => rfl) rfl (Nat.zero_le _) (AW.nil (.refl _))
   intro g2
   induction g2 with
   | zero =>
     intro i2 q2' IN n11 IP σ2 hq jC hi2 Ba
     rw [List.take_of_length_le (by omega),← hfv] at Ba
     have hlv : (fv s).length = n11 := Ba.1.1
     have XH := ho.mono TN.mono Ba.up
     refine AQ.RA ⟨fun Ap => by omega,fun _ => ⟨fun Ol => VP (hg.mono (hx.trans Ba.up)) (hm.mono Oa.mono (hx.trans Ba.up)) (h1.mono Bt.mono (hx.trans Ba.up)) hN.mv (fun x hx => by have := (ji.2 x hx).2; omega) hN.mki fun σ3 C2 => ⟨_,rfl,fun htr => ?_,fun hfa => ?_⟩,fun Ol => ?_⟩⟩
     · intro b77 ANV
       obtain ⟨hv1,hv2⟩ := ho.sep (Ba.mono (QP.mono _) C2)
       have EC := XH.mono TN.mono C2
       have he : TN (σ3.del p8) [.slice p1 n1 c1,.slice IN n11 IP] ⟨s.ls,fv s⟩ := ⟨p1,n1,c1,IN,n11,IP,rfl,h1.mono Bt.mono EC.2,hv1,hv2⟩
       refine AW.Jq TN.mono EC rfl (TN.one _ _ _ he) he (by omega) (fun p' c' σ4 Mh _ => ⟨_,_,_,rfl,next _ _ _ _ ?_⟩) ANV
       have ef : f s = some ⟨s.ls,fv s⟩ := by
         show (bif !(fv s).isEmpty && Jo n.mt s.ls then some _ else none) = _
         rw [htr]
         cases hfe : fv s with
         | nil => rw [hfe] at hlv; simp at hlv; omega
         | cons a l => rfl
       rw [ef]; exact Mh
     · refine next _ _ _ _ ?_
       have ef : f s = none := by
         show (bif !(fv s).isEmpty && Jo n.mt s.ls then some _ else none) = _
         rw [hfa,Bool.and_false]; rfl
       rw [ef]; simpa using XH.mono TN.mono C2
     · refine next _ _ _ _ ?_
       have ef : f s = none := by
         show (bif !(fv s).isEmpty && Jo n.mt s.ls then some _ else none) = _
         rw [List.length_eq_zero_iff.1 (show (fv s).length = 0 by omega)]; rfl
       rw [ef]; simpa using XH
   | succ g2 ih2 =>
     intro i2 q2' IN n11 IP σ2 hq jC hi2 Ba
     have AHu : i2 < m2 := by omega
     obtain ⟨y,hy⟩ := HL.ex AHu
     obtain ⟨b2,o2,rD,UC⟩ := GG.at HL hy
     have uC : n11 ≤ i2 := by
       have := Ba.1.1
       have h9 := List.length_filterMap_le gv (ps.take i2)
       rw [List.length_take] at h9
       omega
     rw [hq (by omega),rD]
     have nx : ∀ p9 n9 c9 σ3,AW 1 (QP .u64) σ' σ3 p9 n9 c9 ((ps.take i2).filterMap gv ++ (gv y).toList) → AQ.tL R (aD ab 0) n.kind n.op n.text p k c n.width n.back n.Ea q m d n.bool n.parts 0 0 none 0 0 none 0 0 3 (BA n.width) none 0 0 p8 n8 c8 p1 n1 c1 q1 m1 d1 p9 n9 c9 (aD b o) Ql uB Ql i (aD b2 o2) m2 d2 m2 i2 σ3 := fun p9 n9 c9 σ3 EC =>
       AQ.tM ⟨AL AHu HL.big,ih2 (i2 + 1) _ _ _ _ _ (fun _ => rD.symm) (by omega) (by omega) (by rw [Gu hy]; exact EC)⟩
     refine AQ.RA ⟨fun _ => ⟨b2,o2,rfl,by omega,y.1,y.2,by simpa using UC.mono Ba.up,fun _ => ⟨fun A6 => fun b58 ANX => ?_,fun heq => nx _ _ _ _ ?_⟩⟩,fun hh => by omega⟩
     · refine AW.Jq (QP.mono _) Ba (vs := [.int .u64 y.2]) (x := y.2) rfl (fun u hu => by rw [List.mem_singleton] at hu; subst hu; rfl) rfl (by omega) (fun p' c' σ4 Mh _ => ⟨_,_,_,rfl,nx _ _ _ _ ?_⟩) ANX
       rw [show gv y = some y.2 from if_pos A6]; exact Mh
     · rw [show gv y = none from if_neg (by simpa using heq)]; simpa using Ba
end
end TwW
end
section
namespace TwW
open Go Tw Go.RowKit Go.Proofs.Tryz
def fnT : List (Nat × Nat) := [(226,193),(226,191),(226,189),(224,151),(224,154),(224,152),(224,153),(224,155),(224,185),(224,187)]
def Td (σ : Hp) (fb : Nat) : Prop := ∀ i g f,fnT[i]? = some (g,f) → ∃ b T,σ.ld ⟨fb,i + 1,none⟩ = some (.func (.func g) #[] #[.pointer (aD b 0)]) ∧ σ b = some (.cells #[.func (.func f) #[] #[]] T (0,0))
theorem Td.mono {σ σ' : Hp} {fb : Nat} (h : Td σ fb) (hx : Ext σ σ') : Td σ' fb := fun i g f hi => let ⟨b,T,h1,h2⟩ := h i g f hi; ⟨b,T,hx.ld h1,hx _ _ h2⟩
section
variable {σ σ' σ0 : Hp} {R : Rr}
theorem Te (h : ∀ fb σ',Td (σ.new σ') fb → Ext σ σ' → R (.returned (.slice (aD fb 0) 11 11)) σ') : Spec prog 147 #[] σ R := by
 refine LL.start ?_
 refine CW.start fun b1 h1 => ⟨_,_,_,rfl,?_⟩
 refine CW.start fun b2 h2 => ⟨_,_,_,rfl,?_⟩
 refine CW.start fun b3 h3 => ⟨_,_,_,rfl,?_⟩
 refine CW.start fun b4 h4 => ⟨_,_,_,rfl,?_⟩
 refine CW.start fun b5 h5 => ⟨_,_,_,rfl,?_⟩
 refine CW.start fun b6 h6 => ⟨_,_,_,rfl,?_⟩
 refine CW.start fun b7 h7 => ⟨_,_,_,rfl,?_⟩
 refine Ni.start fun b8 h8 => ⟨_,_,_,rfl,?_⟩
 refine Ni.start fun b9 h9 => ⟨_,_,_,rfl,?_⟩
 refine Ni.start fun Cj TJ => ⟨_,_,_,rfl,?_⟩
 intro fb hfb
 have x10 := Ext.set (o := .cells #[.nilFunc,.func (.func 226) #[] #[.pointer (aD Cj 0)],.func (.func 226) #[] #[.pointer (aD b9 0)],.func (.func 226) #[] #[.pointer (aD b8 0)],.func (.func 224) #[] #[.pointer (aD b1 0)],.func (.func 224) #[] #[.pointer (aD b2 0)],.func (.func 224) #[] #[.pointer (aD b3 0)],.func (.func 224) #[] #[.pointer (aD b4 0)],.func (.func 224) #[] #[.pointer (aD b5 0)],.func (.func 224) #[] #[.pointer (aD b6 0)],.func (.func 224) #[] #[.pointer (aD b7 0)]] 195 (0,0)) hfb
 have Np := x10 _ _ (Hp.AB _ Cj _)
 have x9 := (Ext.set TJ).trans x10
 have c9 := x9 _ _ (Hp.AB _ b9 _)
 have x8 := (Ext.set h9).trans x9
 have c8 := x8 _ _ (Hp.AB _ b8 _)
 have x7 := (Ext.set h8).trans x8
 have c7 := x7 _ _ (Hp.AB _ b7 _)
 have x6 := (Ext.set h7).trans x7
 have c6 := x6 _ _ (Hp.AB _ b6 _)
 have x5 := (Ext.set h6).trans x6
 have c5 := x5 _ _ (Hp.AB _ b5 _)
 have x4 := (Ext.set h5).trans x5
 have c4 := x4 _ _ (Hp.AB _ b4 _)
 have x3 := (Ext.set h4).trans x4
 have c3 := x3 _ _ (Hp.AB _ b3 _)
 have x2 := (Ext.set h3).trans x3
 have c2 := x2 _ _ (Hp.AB _ b2 _)
 have x1 := (Ext.set h2).trans x2
 have c1 := x1 _ _ (Hp.AB _ b1 _)
 have x0 := (Ext.set h1).trans x1
 have n1 : σ b1 = none := h1
 have z1 := Ext.set (o := .cells #[.func (.func 151) #[] #[]] 201 (0,0)) h1
 have n2 : σ b2 = none := BD z1 h2
 have z2 := z1.trans (Ext.set (o := .cells #[.func (.func 154) #[] #[]] 201 (0,0)) h2)
 have n3 : σ b3 = none := BD z2 h3
 have z3 := z2.trans (Ext.set (o := .cells #[.func (.func 152) #[] #[]] 201 (0,0)) h3)
 have n4 : σ b4 = none := BD z3 h4
 have z4 := z3.trans (Ext.set (o := .cells #[.func (.func 153) #[] #[]] 201 (0,0)) h4)
 have n5 : σ b5 = none := BD z4 h5
 have z5 := z4.trans (Ext.set (o := .cells #[.func (.func 155) #[] #[]] 201 (0,0)) h5)
 have n6 : σ b6 = none := BD z5 h6
 have z6 := z5.trans (Ext.set (o := .cells #[.func (.func 185) #[] #[]] 201 (0,0)) h6)
 have n7 : σ b7 = none := BD z6 h7
 have z7 := z6.trans (Ext.set (o := .cells #[.func (.func 187) #[] #[]] 201 (0,0)) h7)
 have n8 : σ b8 = none := BD z7 h8
 have z8 := z7.trans (Ext.set (o := .cells #[.func (.func 189) #[] #[]] 232 (0,0)) h8)
 have n9 : σ b9 = none := BD z8 h9
 have z9 := z8.trans (Ext.set (o := .cells #[.func (.func 191) #[] #[]] 232 (0,0)) h9)
 have n10 : σ Cj = none := BD z9 TJ
 have z10 := z9.trans (Ext.set (o := .cells #[.func (.func 193) #[] #[]] 232 (0,0)) TJ)
 have nf : σ fb = none := BD z10 hfb
 refine h fb _ (fun i g f hi => ?_) x0
 clear x0 x1 x2 x3 x4 x5 x6 x7 x8 x9 x10 z1 z2 z3 z4 z5 z6 z7 z8 z9 z10
 match i,hi with
 | 0,hi => cases hi; exact ⟨Cj,_,Af (AV.2 ⟨nf,Hp.AB _ _ _⟩) rfl,AV.2 ⟨n10,Np⟩⟩
 | 1,hi => cases hi; exact ⟨b9,_,Af (AV.2 ⟨nf,Hp.AB _ _ _⟩) rfl,AV.2 ⟨n9,c9⟩⟩
 | 2,hi => cases hi; exact ⟨b8,_,Af (AV.2 ⟨nf,Hp.AB _ _ _⟩) rfl,AV.2 ⟨n8,c8⟩⟩
 | 3,hi => cases hi; exact ⟨b1,_,Af (AV.2 ⟨nf,Hp.AB _ _ _⟩) rfl,AV.2 ⟨n1,c1⟩⟩
 | 4,hi => cases hi; exact ⟨b2,_,Af (AV.2 ⟨nf,Hp.AB _ _ _⟩) rfl,AV.2 ⟨n2,c2⟩⟩
 | 5,hi => cases hi; exact ⟨b3,_,Af (AV.2 ⟨nf,Hp.AB _ _ _⟩) rfl,AV.2 ⟨n3,c3⟩⟩
 | 6,hi => cases hi; exact ⟨b4,_,Af (AV.2 ⟨nf,Hp.AB _ _ _⟩) rfl,AV.2 ⟨n4,c4⟩⟩
 | 7,hi => cases hi; exact ⟨b5,_,Af (AV.2 ⟨nf,Hp.AB _ _ _⟩) rfl,AV.2 ⟨n5,c5⟩⟩
 | 8,hi => cases hi; exact ⟨b6,_,Af (AV.2 ⟨nf,Hp.AB _ _ _⟩) rfl,AV.2 ⟨n6,c6⟩⟩
 | 9,hi => cases hi; exact ⟨b7,_,Af (AV.2 ⟨nf,Hp.AB _ _ _⟩) rfl,AV.2 ⟨n7,c7⟩⟩
theorem pC {p : Option Addr} {m c : Nat} {vs : List Int} (hr : FH .u64 σ p m vs) (h0 : 0 < m) (h : R (.returned (.int .u64 (cZ (vs.getLast?.getD 0)))) σ) : Spec prog 185 #[.slice p m c] σ R := by
 have hl : vs.length = m := hr.1
 have JM := hr.big
 obtain ⟨z,hz⟩ := hr.ex (k := m - 1) (by omega)
 obtain ⟨b,o,rfl,xI⟩ := FH.at hr hz
 rw [List.getLast?_eq_getElem?,hl,hz] at h
 exact DX.start ⟨by unfold AI; omega,b,o,rfl,by omega,z,by rw [show Int.toNat ((m : Int) - 1) = m - 1 by omega]; exact xI,F5 ⟨_,rfl,h⟩⟩
theorem pD {p q : Option Addr} {m c j e : Nat} {vs : List Int} (hr : FH .u64 σ p m vs) (h0 : 0 < m) (h : R (.returned (.int .u64 (RD 2 (vs.getLast?.getD 0) (vs.head?.getD 0)))) σ) : Spec prog 189 #[.slice p m c,.slice q j e] σ R := by
 have hl : vs.length = m := hr.1
 have JM := hr.big
 obtain ⟨z,hz⟩ := hr.ex (k := m - 1) (by omega)
 obtain ⟨y,hy⟩ := hr.ex (k := 0) (by omega)
 obtain ⟨b,o,rfl,xI⟩ := FH.at hr hz
 obtain ⟨_,_,he,UC⟩ := FH.at hr hy
 cases he
 rw [List.getLast?_eq_getElem?,hl,hz,List.head?_eq_getElem?,hy] at h
 exact DY.start ⟨by unfold AI; omega,b,o,rfl,by omega,z,by rw [show Int.toNat ((m : Int) - 1) = m - 1 by omega]; exact xI,by omega,y,by simpa using UC,ZM ⟨_,rfl,h⟩⟩
theorem jD {n : Nd} {p q r : Option Addr} {k c m d lb lo j e fb u v : Nat} {vs : List Int} {w : Int} (ho : 1 ≤ n.op ∧ n.op ≤ 10) (hF : Td σ fb) (hr : FH .u64 σ r u vs) (h0 : 0 < u) (hc : u ≤ v) (hj : 0 < j) (hw : σ.ld ⟨lb,lo + 1,none⟩ = some (.int .u64 w))
   (h : ∀ x ok σ',(Ij n.op vs w = some x ∧ ok = true ∨ Ij n.op vs w = none ∧ ok = false) → Ext σ σ' → R (.returned (.tuple #[.int .u64 x,.bool ok])) σ') :
   ∃ v58,Hp.ld σ ⟨fb,(0 + Int.toNat n.op * 1),none⟩ = some v58 ∧ ∃ (f63 : Nat) (LH LJ : Array Value),v58 = .func (.func f63) LH LJ ∧ Enters prog f63 ∧ Spec prog f63 (LH ++ #[.slice r u v,MU n p k c q m d,.slice (some ⟨lb,lo,none⟩) j e] ++ LJ) σ R := by
 have hl : vs.length = u := hr.1
 have always : ∀ (i f : Nat) (x : Int),n.op = i + 1 → fnT[i]? = some (224,f) → Ij n.op vs w = some x → Enters prog f → (∀ R' : Rr,(∀ σ',Ext σ σ' → R' (.returned (.int .u64 x)) σ') → Spec prog f #[.slice r u v] σ R') →
     ∃ v58,Hp.ld σ ⟨fb,(0 + Int.toNat n.op * 1),none⟩ = some v58 ∧ ∃ (f63 : Nat) (LH LJ : Array Value),v58 = .func (.func f63) LH LJ ∧ Enters prog f63 ∧ Spec prog f63 (LH ++ #[.slice r u v,MU n p k c q m d,.slice (some ⟨lb,lo,none⟩) j e] ++ LJ) σ R := fun i f x hi hf hx Oh hs => by
   obtain ⟨b,T,h1,h2⟩ := hF i _ _ hf
   refine ⟨_,by rw [show 0 + Int.toNat n.op * 1 = i + 1 by omega]; exact h1,224,#[],#[.pointer (aD b 0)],rfl,Fg.en,Fg.start fun _ => ⟨_,Af h2 rfl,f,#[],#[],rfl,Oh,hs _ fun σ' Wd => ⟨_,rfl,h x true σ' (.inl ⟨hx,rfl⟩) Wd⟩⟩⟩
 have two : ∀ (i f : Nat) (x : Int),n.op = i + 1 → fnT[i]? = some (226,f) → (Ij n.op vs w = if vs.length < 2 then none else some x) → Enters prog f → (2 ≤ u → ∀ R' : Rr,R' (.returned (.int .u64 x)) σ → Spec prog f #[.slice r u v,.slice (some ⟨lb,lo,none⟩) j e] σ R') →
     ∃ v58,Hp.ld σ ⟨fb,(0 + Int.toNat n.op * 1),none⟩ = some v58 ∧ ∃ (f63 : Nat) (LH LJ : Array Value),v58 = .func (.func f63) LH LJ ∧ Enters prog f63 ∧ Spec prog f63 (LH ++ #[.slice r u v,MU n p k c q m d,.slice (some ⟨lb,lo,none⟩) j e] ++ LJ) σ R := fun i f x hi hf hx Oh hs => by
   obtain ⟨b,T,h1,h2⟩ := hF i _ _ hf
   refine ⟨_,by rw [show 0 + Int.toNat n.op * 1 = i + 1 by omega]; exact h1,226,#[],#[.pointer (aD b 0)],rfl,JG.en,JG.start fun _ => ⟨fun Ap => h 0 false σ (.inr ⟨by rw [hx,if_pos (by omega)],rfl⟩) (.refl _),fun cM => ⟨_,Af h2 rfl,f,#[],#[],rfl,Oh,hs (by omega) _ ⟨_,rfl,h x true σ (.inl ⟨by rw [hx,if_neg (by omega)],rfl⟩) (.refl _)⟩⟩⟩⟩
 have oy : n.op = 1 ∨ n.op = 2 ∨ n.op = 3 ∨ n.op = 4 ∨ n.op = 5 ∨ n.op = 6 ∨ n.op = 7 ∨ n.op = 8 ∨ n.op = 9 ∨ n.op = 10 := by omega
 rcases oy with e1 | e1 | e1 | e1 | e1 | e1 | e1 | e1 | e1 | e1
 · exact two 0 _ (RD 4 (LY vs) w) e1 rfl (by rw [e1]; rfl) Dh.en fun h2 R' Lw => Dh.start ⟨lb,lo,rfl,by omega,w,hw,TR hr h0 ⟨_,rfl,Kp.Ho (.refl _),ZN ⟨_,rfl,Lw⟩⟩⟩
 · exact two 1 _ (LY vs) e1 rfl (by rw [e1]; rfl) Db.en fun h2 R' Lw => Db.start (TR hr h0 ⟨_,rfl,Lw⟩)
 · exact two 2 _ (RD 2 (vs.getLast?.getD 0) (vs.head?.getD 0)) e1 rfl (by rw [e1]; rfl) DY.en fun h2 R' Lw => pD hr h0 Lw
 · exact always 3 _ (UU vs) e1 rfl (by rw [e1]; rfl) Fy.en fun R' Lw => TP hr h0 hc (Lw σ (.refl _))
 · exact always 4 _ (RD 4 (UU vs) (BA vs.length)) e1 rfl (by rw [e1]; rfl) Eu.en fun R' Lw => OE hr h0 hc (by rw [← hl]; exact Lw σ (.refl _))
 · exact always 5 _ (LV 7 vs) e1 rfl (by rw [e1]; rfl) G9.en fun R' Lw => TQ hr h0 hc (Lw σ (.refl _))
 · exact always 6 _ (LV 9 vs) e1 rfl (by rw [e1]; rfl) D4.en fun R' Lw => Ml hr h0 hc (Lw σ (.refl _))
 · exact always 7 _ (BA vs.length) e1 rfl (by rw [e1]; rfl) G2.en fun R' Lw => NC (by rw [← hl]; exact Lw σ (.refl _))
 · exact always 8 _ (cZ (vs.getLast?.getD 0)) e1 rfl (by rw [e1]; rfl) DX.en fun R' Lw => pC hr h0 (Lw σ (.refl _))
 · exact always 9 _ (RE vs) e1 rfl (by rw [e1]; rfl) BU.en fun R' Lw => UX hr h0 hc Lw
end
end TwW
end
section
namespace TwW
open Go Tw Go.RowKit Go.Proofs.Tryz
theorem Spec.pE {P : Program} {f : FuncId} {args : Array Value} {R : Ending → Prop} {σ0 : Hp} (h : @Spec ⟨True⟩ P f args σ0 (fun e σ' => R e ∧ Ext σ0 σ')) {w : World} (hs : Sat σ0 w) :
   Calls P f args w (fun e w' => R e ∧ ∃ q os,w' = { w with heap := w.heap ++ os,drawn := w.drawn + q }) := by
 refine (h w (fun b => b < w.heap.size ∧ σ0 b = none) hs (fun b hb => hb)).mono ?_
 rintro e w' ⟨σ,⟨hr,hx⟩,hf⟩
 refine ⟨hr,?_⟩
 obtain ⟨h1,h2,h30⟩ := @Fin.os ⟨True⟩ _ _ _ _ hf
 have hfp := @Fin.Bf ⟨True⟩ _ _ _ _ hf
 have hfs := @Fin.sat ⟨True⟩ _ _ _ _ hf
 have hfg := @Fin.grow ⟨True⟩ _ _ _ _ hf
 have hfo := @Fin.out ⟨True⟩ _ _ _ _ hf
 obtain ⟨q,h3⟩ := h30 trivial
 refine ⟨q,w'.heap.extract w.heap.size w'.heap.size,?_⟩
 have hh : w'.heap = w.heap ++ w'.heap.extract w.heap.size w'.heap.size := by
   apply Array.ext_getElem?
   intro i
   rw [Array.getElem?_append]
   split
   · rename_i hi
     cases hσ : σ0 i with
     | none => exact (hfp i ⟨hi,hσ⟩).2
     | some o => exact (hfs i o (hx i o hσ)).trans (hs i o hσ).symm
   · rename_i hi
     rw [Array.getElem?_extract]
     have := hfg
     split
     · congr 1; omega
     · rename_i h2
       exact Array.getElem?_eq_none (by omega)
 cases w with
 | mk heap tape drawn os output =>
   cases w' with
   | mk AQs AQt ANZ os' AJp =>
     have h4 := hfo
     simp only at h1 h2 h3 h4 hh ⊢
     subst h1 h2 h3 h4
     rw [← hh]
theorem Tf {α : Type} {enc : α → List Value} {k : Nat} (hk : ∀ x,(enc x).length = k) (h0 : 0 < k) : ∀ (xs : List α) (j : Nat),(xs.flatMap enc)[j]? = (xs[j / k]?).bind fun x => (enc x)[j % k]?
 | [],j => by simp
 | x :: xs,j => by
   rw [List.flatMap_cons,List.getElem?_append,hk]
   by_cases hj : j < k
   · rw [if_pos hj,Nat.div_eq_of_lt hj,Nat.mod_eq_of_lt hj]; simp
   · rw [if_neg hj,Tf hk h0 xs,show j / k = (j - k) / k + 1 by rw [← Nat.add_div_right _ h0]; congr 1; omega,show (j - k) % k = j % k by rw [Nat.mod_eq_sub_mod (by omega : j ≥ k)]]
     simp
theorem PS {α : Type} {enc : α → List Value} {k : Nat} (hk : ∀ x,(enc x).length = k) : ∀ (xs : List α),(xs.flatMap enc).length = xs.length * k
 | [] => by simp
 | x :: xs => by rw [List.flatMap_cons,List.length_append,PS hk xs,hk,List.length_cons,Nat.add_mul]; omega
theorem VR {α : Type} [Inhabited α] {enc : α → List Value} (hk : ∀ x,(enc x).length = 2) (d : List α) (j : Nat) (hj : j < d.length * 2) : (d.flatMap enc)[j]? = some (Sort.flatK enc 2 d.toArray)[j]! := by
 rw [Tf (k := 2) hk (by decide),Sort.get_flatK _ _ _ _ (by simpa using hj)]
 have Ap : j / 2 < d.length := by omega
 rw [List.getElem?_eq_getElem Ap]
 have h2 : j % 2 < (enc d[j / 2]).length := by rw [hk]; exact Nat.mod_lt _ (by decide)
 simp only [Option.bind_some]
 rw [List.getElem?_eq_getElem h2]
 have e1 : d.toArray[j / 2]! = d[j / 2] := by simp [Ap]
 rw [e1,getElem!_pos (enc d[j / 2]) (j % 2) h2]
theorem Ws (F arr : Array Value) (o j : Nat) : (Sort.putCells id o F arr)[j]? = if o ≤ j ∧ j < o + F.size then (arr[j]?).map fun _ => F[j - o]! else arr[j]? := by
 simp only [Sort.putCells,Array.getElem?_mapIdx,id]
 by_cases h : o ≤ j ∧ j < o + F.size
 · rw [if_pos h]; simp [h]
 · rw [if_neg h]
   cases arr[j]? with
   | none => rfl
   | some v => simp only [Option.map_some]; rw [if_neg h]
section
variable {σ : Hp} {R : Rr}
theorem fg {ρ : Go.Shelf.Ren} (L : Go.Proofs.SlLaysF0.n6 prog ρ) (aE : ∀ w,(isAgg (ρ.t 24)).run prog w = .ok true w) (zE : ∀ w,(Go.sizeOf (ρ.t 24)).run prog w = .ok 2 w) {α : Type} [Inhabited α] {enc : α → List Value} (hk : ∀ x,(enc x).length = 2) (h1 : ∀ x,∀ v ∈ enc x,v.oneCell' = true) {cf : α → α → Int} (hO : Sort.SWO (Proofs.ltOf cf)) {g : Nat}
   (eg : ∀ args w,(callFunc g args).run prog w = .ok (.enter g args) w) {b o m d : Nat} {ds : List α} (ho : A8 2 σ (some ⟨b,o,none⟩) m d (ds.flatMap enc)) (hm : ds.length = m) (hm0 : m ≠ 0) (HX : m < 4611686018427387904)
   (tZ : ∀ w,Sat (σ.del (some ⟨b,o,none⟩)) w → ∀ x y,Calls prog g #[.agg (enc x).toArray,.agg (enc y).toArray] w fun e w' => e = .returned (.int .i64 (cf x y)) ∧ ∃ n os,w' = Sort.grow (w.drewN n) os)
   (h : ∀ (σ' : Hp) (ds' : List α),ds'.Perm ds → ds'.Pairwise (fun x y => Proofs.ltOf cf y x = false) → A8 2 σ' (some ⟨b,o,none⟩) m d (ds'.flatMap enc) → Ext (σ.del (some ⟨b,o,none⟩)) (σ'.del (some ⟨b,o,none⟩)) → R (.returned (.tuple #[])) σ') :
   Spec prog (ρ.f 6) #[.slice (some ⟨b,o,none⟩) m d,.func (.func g) #[] #[]] σ R := by
 intro w F hs hF
 obtain ⟨arr,T,hb,hw,xT,rU,NR⟩ : ∃ arr T,σ b = some (.cells arr T (0,0)) ∧ w.heap[b]? = some (.cells arr T (0,0)) ∧ m ≤ d ∧ o + d * 2 ≤ arr.size ∧ (arr.toList.drop o).take (m * 2) = ds.flatMap enc := by
   rcases ho.2.2 with ⟨h1,h2,_⟩ | ⟨b',o',arr,T,hp,hb,xT,HX,NR⟩
   · exact absurd h2 hm0
   · cases hp
     exact ⟨arr,T,hb,hs _ _ hb,xT,HX,NR⟩
 have AHv : ∀ j,j < m * 2 → arr[o + j]? = some (Sort.flatK enc 2 ds.toArray)[j]! := fun j hj => by
   rw [← VR hk ds j (by omega),← NR,List.getElem?_take,if_pos hj,List.getElem?_drop,Array.getElem?_toList]
 have hH : Sort.HoldsK enc 2 w b o ds.toArray := fun j hj => by
   have RQ : j < m * 2 := by simpa [hm] using hj
   refine ⟨?_,by simp [World.frozen?,hw]⟩
   simp only [World.cell?,hw,id]
   simpa using AHv j RQ
 have hblk : b < w.heap.size := (Array.getElem?_eq_some_iff.1 hw).1
 have NV : ∀ (n : Nat) (dk : Array α) (os : Array Obj) k,(Proofs.sortWorldK enc 2 w b o n dk os).heap[k]? = if k < w.heap.size then (if b = k then (w.heap[k]?).map (Sort.onCells (Sort.putCells id o (Sort.flatK enc 2 dk))) else w.heap[k]?) else os[k - w.heap.size]? := fun n dk os k => by
   simp only [Proofs.sortWorldK,Sort.grow,Sort.putRowK,Sort.putRow,Sort.mapBlock,Sort.ahead,Array.getElem?_append,Array.size_modify,Array.getElem?_modify]
 have hcm : Proofs.CmpLays prog g #[] enc 2 cf b o ds.toArray.size w := fun n os dk _ x y => tZ _ (fun k u hk => by
   obtain ⟨HZ,hku⟩ := AR.1 hk
   have ANb : b ≠ k := fun e => HZ _ rfl e.symm
   have := hs k u hku
   rw [NV,if_pos (Array.getElem?_eq_some_iff.1 this).1,if_neg ANb]; exact this) x y
 have AHw := Proofs.AnyQ.slices_SortFunc L 2 aE zE enc hk h1 cf hO g #[] b o d ds.toArray w eg hcm hH hblk (by simpa [hm] using HX)
 rw [show ds.toArray.size = m by simpa using hm] at AHw
 refine AHw.mono ?_
 rintro e w' ⟨rfl,d',n,os,La,QJ,rfl⟩
 obtain ⟨pF,_,hp3⟩ := La
 have hd' : d'.size = m := by rw [pF]; simpa using hm
 have hP : d'.toList.Perm ds := by
   rw [show m = d'.size from hd'.symm] at hp3
   rw [Array.extract_size] at hp3
   rw [show d'.size = ds.toArray.size from pF,Array.extract_size] at hp3
   exact hp3
 have eY : d'.toList.length = m := by simpa using hd'
 have hF2 : (Sort.flatK enc 2 d').size = m * 2 := by simp [hd']
 have jy : d'.toList.Pairwise (fun x y => Proofs.ltOf cf y x = false) := List.pairwise_iff_getElem.2 fun i j hi hj eB => by
   have RQ : j < d'.size := by simpa using hj
   have Bk : i < d'.size := by simpa using hi
   have := QJ i j (Nat.zero_le _) eB (by omega)
   rw [getElem!_pos d' j RQ,getElem!_pos d' i Bk] at this
   simpa using this
 have bX : ((Sort.putCells id o (Sort.flatK enc 2 d') arr).toList.drop o).take (m * 2) = d'.toList.flatMap enc := by
   refine List.ext_getElem? fun j => ?_
   rw [List.getElem?_take]
   by_cases hj : j < m * 2
   · have := VR hk d'.toList j (by omega)
     rw [if_pos hj,List.getElem?_drop,Array.getElem?_toList,Ws,if_pos (by omega),this,AHv j hj]
     simp
   · rw [if_neg hj,List.getElem?_eq_none (by rw [PS (k := 2) hk,eY]; omega)]
 refine ⟨σ.set b (.cells (Sort.putCells id o (Sort.flatK enc 2 d') arr) T (0,0)),h _ d'.toList hP jy ⟨by rw [PS (k := 2) hk,eY],by have := ho.2.1; omega,.inr ⟨b,o,_,T,rfl,Hp.AB _ _ _,xT,by simpa [Sort.putCells] using rU,bX⟩⟩ (by rw [Hp.Ix]; exact Ext.refl _),?_⟩
 · refine ⟨fun k u hk => ?_,fun k hk => ?_,⟨rfl,rfl,fun _ => ⟨n,rfl⟩⟩,rfl,by simp [Proofs.sortWorldK,Sort.grow,Sort.putRowK,Sort.putRow,Sort.mapBlock,Sort.ahead]⟩
   · rw [NV]
     by_cases HZ : k = b
     · subst HZ
       rw [Hp.AB] at hk; cases hk
       rw [if_pos hblk,if_pos rfl,hw]; rfl
     · rw [Hp.AJ HZ] at hk
       have := hs k u hk
       rw [if_pos (Array.getElem?_eq_some_iff.1 this).1,if_neg (Ne.symm HZ)]; exact this
   · have HZ : k ≠ b := fun e => by have := (hF k hk).2; rw [e,hb] at this; cases this
     refine ⟨by rw [Hp.AJ HZ]; exact (hF k hk).2,?_⟩
     rw [NV,if_pos (hF k hk).1,if_neg (Ne.symm HZ)]
end
end TwW
end
section
namespace Go.Proofs
open Go.Shelf
def Tryz.Tg : Go.Shelf.Ren := ⟨fun | 6 => 195 | 15 => 74 | 14 => 227 | 28 => 117 | 29 => 118 | 20 => 242 | 21 => 243 | 22 => 244 | 23 => 245 | 24 => 246 | 25 => 247 | 26 => 248 | 27 => 249 | 46 => 264 | 47 => 164 | 48 => 165 | 49 => 265 | 50 => 266 | 57 => 293 | n => n,fun | 22 => 67 | 24 => 71 | 25 => 234 | 3 => 3 | 39 => 141 | 0 => 0 | 53 => 168 | 55 => 48 | 4 => 4 | 46 => 162 | 45 => 161 | 50 => 102 | 5 => 5 | 9 => 9 | 66 => 207 | 70 => 211 | 76 => 248 | 77 => 249 | n => n,fun | n => n⟩
theorem Tryz.pG : Go.Proofs.SlLaysF0.n6 Tryz.prog Tryz.Tg := {
 mixed := by kernel_rfl
 f6 := ⟨Tryz.f195.name,by decide,Tryz.func195.trans (congrArg some (by kernel_rfl))⟩
 f14 := ⟨Tryz.f227.name,by decide,Tryz.func227.trans (congrArg some (by kernel_rfl))⟩
 f15 := Tryz.func74.trans (congrArg some (by kernel_rfl))
 f20 := ⟨Tryz.f242.name,by decide,Tryz.func242.trans (congrArg some (by kernel_rfl))⟩
 f21 := ⟨Tryz.f243.name,by decide,Tryz.func243.trans (congrArg some (by kernel_rfl))⟩
 f22 := ⟨Tryz.f244.name,by decide,Tryz.func244.trans (congrArg some (by kernel_rfl))⟩
 f23 := ⟨Tryz.f245.name,by decide,Tryz.func245.trans (congrArg some (by kernel_rfl))⟩
 f24 := ⟨Tryz.f246.name,by decide,Tryz.func246.trans (congrArg some (by kernel_rfl))⟩
 f25 := ⟨Tryz.f247.name,by decide,Tryz.func247.trans (congrArg some (by kernel_rfl))⟩
 f26 := ⟨Tryz.f248.name,by decide,Tryz.func248.trans (congrArg some (by kernel_rfl))⟩
 f27 := ⟨Tryz.f249.name,by decide,Tryz.func249.trans (congrArg some (by kernel_rfl))⟩
 f28 := Tryz.func117.trans (congrArg some (by kernel_rfl))
 f29 := Tryz.func118.trans (congrArg some (by kernel_rfl))
 f46 := ⟨Tryz.f264.name,by decide,Tryz.func264.trans (congrArg some (by kernel_rfl))⟩
 f47 := Tryz.func164.trans (congrArg some (by kernel_rfl))
 f48 := Tryz.func165.trans (congrArg some (by kernel_rfl))
 f49 := ⟨Tryz.f265.name,by decide,Tryz.func265.trans (congrArg some (by kernel_rfl))⟩
 f50 := ⟨Tryz.f266.name,by decide,Tryz.func266.trans (congrArg some (by kernel_rfl))⟩
 f57 := ⟨Tryz.f293.name,by decide,Tryz.func293.trans (congrArg some (by kernel_rfl))⟩
 t0 := Tryz.underlying0
 a0 := Tryz.isAgg0
 z0 := Tryz.sizeOf0
 v0 := Tryz.zeroValue0
 t3 := Tryz.underlying3
 a3 := Tryz.isAgg3
 z3 := Tryz.sizeOf3
 v3 := Tryz.zeroValue3
 t4 := Tryz.underlying4
 a4 := Tryz.isAgg4
 z4 := Tryz.sizeOf4
 v4 := Tryz.zeroValue4
 t5 := Tryz.underlying5
 a5 := Tryz.isAgg5
 z5 := Tryz.sizeOf5
 v5 := Tryz.zeroValue5
 t9 := Tryz.underlying9
 a9 := Tryz.isAgg9
 z9 := Tryz.sizeOf9
 v9 := Tryz.zeroValue9
 t22 := Tryz.underlying67
 a22 := Tryz.isAgg67
 z22 := Tryz.sizeOf67
 v22 := Tryz.zeroValue67
 t25 := Tryz.underlying234
 a25 := Tryz.isAgg234
 z25 := Tryz.sizeOf234
 v25 := Tryz.zeroValue234
 t39 := Tryz.underlying141
 a39 := Tryz.isAgg141
 z39 := Tryz.sizeOf141
 v39 := Tryz.zeroValue141
 t45 := Tryz.underlying161
 a45 := Tryz.isAgg161
 z45 := Tryz.sizeOf161
 v45 := Tryz.zeroValue161
 t46 := Tryz.underlying162
 a46 := Tryz.isAgg162
 z46 := Tryz.sizeOf162
 v46 := Tryz.zeroValue162
 t50 := Tryz.underlying102
 a50 := Tryz.isAgg102
 z50 := Tryz.sizeOf102
 v50 := Tryz.zeroValue102
 t53 := Tryz.underlying168
 a53 := Tryz.isAgg168
 z53 := Tryz.sizeOf168
 v53 := Tryz.zeroValue168
 t55 := Tryz.underlying48
 a55 := Tryz.isAgg48
 z55 := Tryz.sizeOf48
 v55 := Tryz.zeroValue48
 t66 := Tryz.underlying207
 a66 := Tryz.isAgg207
 z66 := Tryz.sizeOf207
 v66 := Tryz.zeroValue207
 t70 := Tryz.underlying211
 a70 := Tryz.isAgg211
 z70 := Tryz.sizeOf211
 v70 := Tryz.zeroValue211
 t76 := Tryz.underlying248
 a76 := Tryz.isAgg248
 z76 := Tryz.sizeOf248
 v76 := Tryz.zeroValue248
 t77 := Tryz.underlying249
 a77 := Tryz.isAgg249
 z77 := Tryz.sizeOf249
 v77 := Tryz.zeroValue249 }
def Tryz.Th : Go.Shelf.Ren := ⟨fun | 6 => 50 | 15 => 74 | 14 => 73 | 28 => 117 | 29 => 118 | 20 => 109 | 21 => 110 | 22 => 111 | 23 => 112 | 24 => 113 | 25 => 114 | 26 => 115 | 27 => 116 | 46 => 163 | 47 => 164 | 48 => 165 | 49 => 166 | 50 => 167 | 57 => 208 | n => n,fun | 22 => 23 | 24 => 40 | 25 => 106 | 3 => 3 | 39 => 141 | 0 => 0 | 53 => 168 | 55 => 48 | 4 => 4 | 46 => 162 | 45 => 161 | 50 => 102 | 5 => 5 | 9 => 9 | 66 => 207 | 70 => 211 | 76 => 248 | 77 => 249 | n => n,fun | n => n⟩
theorem Tryz.AAv : Go.Proofs.SlLaysF0.n6 Tryz.prog Tryz.Th := {
 mixed := by kernel_rfl
 f6 := ⟨Tryz.f50.name,by decide,Tryz.func50.trans (congrArg some (by kernel_rfl))⟩
 f14 := ⟨Tryz.f73.name,by decide,Tryz.func73.trans (congrArg some (by kernel_rfl))⟩
 f15 := Tryz.func74.trans (congrArg some (by kernel_rfl))
 f20 := ⟨Tryz.f109.name,by decide,Tryz.func109.trans (congrArg some (by kernel_rfl))⟩
 f21 := ⟨Tryz.f110.name,by decide,Tryz.func110.trans (congrArg some (by kernel_rfl))⟩
 f22 := ⟨Tryz.f111.name,by decide,Tryz.func111.trans (congrArg some (by kernel_rfl))⟩
 f23 := ⟨Tryz.f112.name,by decide,Tryz.func112.trans (congrArg some (by kernel_rfl))⟩
 f24 := ⟨Tryz.f113.name,by decide,Tryz.func113.trans (congrArg some (by kernel_rfl))⟩
 f25 := ⟨Tryz.f114.name,by decide,Tryz.func114.trans (congrArg some (by kernel_rfl))⟩
 f26 := ⟨Tryz.f115.name,by decide,Tryz.func115.trans (congrArg some (by kernel_rfl))⟩
 f27 := ⟨Tryz.f116.name,by decide,Tryz.func116.trans (congrArg some (by kernel_rfl))⟩
 f28 := Tryz.func117.trans (congrArg some (by kernel_rfl))
 f29 := Tryz.func118.trans (congrArg some (by kernel_rfl))
 f46 := ⟨Tryz.f163.name,by decide,Tryz.func163.trans (congrArg some (by kernel_rfl))⟩
 f47 := Tryz.func164.trans (congrArg some (by kernel_rfl))
 f48 := Tryz.func165.trans (congrArg some (by kernel_rfl))
 f49 := ⟨Tryz.f166.name,by decide,Tryz.func166.trans (congrArg some (by kernel_rfl))⟩
 f50 := ⟨Tryz.f167.name,by decide,Tryz.func167.trans (congrArg some (by kernel_rfl))⟩
 f57 := ⟨Tryz.f208.name,by decide,Tryz.func208.trans (congrArg some (by kernel_rfl))⟩
 t0 := Tryz.underlying0
 a0 := Tryz.isAgg0
 z0 := Tryz.sizeOf0
 v0 := Tryz.zeroValue0
 t3 := Tryz.underlying3
 a3 := Tryz.isAgg3
 z3 := Tryz.sizeOf3
 v3 := Tryz.zeroValue3
 t4 := Tryz.underlying4
 a4 := Tryz.isAgg4
 z4 := Tryz.sizeOf4
 v4 := Tryz.zeroValue4
 t5 := Tryz.underlying5
 a5 := Tryz.isAgg5
 z5 := Tryz.sizeOf5
 v5 := Tryz.zeroValue5
 t9 := Tryz.underlying9
 a9 := Tryz.isAgg9
 z9 := Tryz.sizeOf9
 v9 := Tryz.zeroValue9
 t22 := Tryz.underlying23
 a22 := Tryz.isAgg23
 z22 := Tryz.sizeOf23
 v22 := Tryz.zeroValue23
 t25 := Tryz.underlying106
 a25 := Tryz.isAgg106
 z25 := Tryz.sizeOf106
 v25 := Tryz.zeroValue106
 t39 := Tryz.underlying141
 a39 := Tryz.isAgg141
 z39 := Tryz.sizeOf141
 v39 := Tryz.zeroValue141
 t45 := Tryz.underlying161
 a45 := Tryz.isAgg161
 z45 := Tryz.sizeOf161
 v45 := Tryz.zeroValue161
 t46 := Tryz.underlying162
 a46 := Tryz.isAgg162
 z46 := Tryz.sizeOf162
 v46 := Tryz.zeroValue162
 t50 := Tryz.underlying102
 a50 := Tryz.isAgg102
 z50 := Tryz.sizeOf102
 v50 := Tryz.zeroValue102
 t53 := Tryz.underlying168
 a53 := Tryz.isAgg168
 z53 := Tryz.sizeOf168
 v53 := Tryz.zeroValue168
 t55 := Tryz.underlying48
 a55 := Tryz.isAgg48
 z55 := Tryz.sizeOf48
 v55 := Tryz.zeroValue48
 t66 := Tryz.underlying207
 a66 := Tryz.isAgg207
 z66 := Tryz.sizeOf207
 v66 := Tryz.zeroValue207
 t70 := Tryz.underlying211
 a70 := Tryz.isAgg211
 z70 := Tryz.sizeOf211
 v70 := Tryz.zeroValue211
 t76 := Tryz.underlying248
 a76 := Tryz.isAgg248
 z76 := Tryz.sizeOf248
 v76 := Tryz.zeroValue248
 t77 := Tryz.underlying249
 a77 := Tryz.isAgg249
 z77 := Tryz.sizeOf249
 v77 := Tryz.zeroValue249 }
end Go.Proofs
end
section
namespace TwW
open Go Tw Go.RowKit Go.Proofs.Tryz
section
variable {σ σ' σ0 : Hp} {R : Rr}
theorem ANc {α : Type} {f : α → List Lb} : Sort.SWO (Proofs.ltOf fun x y => Au (f x) (f y)) where
 irrefl x := by
   have h1 : Au (f x) (f x) = 0 := (AZ.eq _ _).2 rfl
   exact decide_eq_false (by show ¬ Au (f x) (f x) < 0; omega)
 trans x y z h1 h2 := by
   unfold Proofs.ltOf at *
   exact decide_eq_true (AZ.trans _ _ _ (of_decide_eq_true h1) (of_decide_eq_true h2))
 ntrans x y z h1 h2 := by
   unfold Proofs.ltOf at *
   have h1 := of_decide_eq_false h1
   have h2 := of_decide_eq_false h2
   dsimp only at h1 h2
   refine decide_eq_false fun h3 => ?_
   dsimp only at h3
   rcases Int.lt_trichotomy (Au (f x) (f y)) 0 with h | h | h
   · exact h1 h
   · rw [(AZ.eq _ _).1 h] at h3; exact h2 h3
   · have h4 := (AZ.TM _ _).2 h
     exact h2 (AZ.trans _ _ _ h4 h3)
theorem pH {cs : List Value} {m : Nat} (h : cs.length = m * 2) : (List.finRange m).flatMap (fun i => (cs.drop (i.1 * 2)).take 2) = cs := by
 have hk : ∀ i : Fin m,((cs.drop (i.1 * 2)).take 2).length = 2 := fun i => by
   have := i.2
   rw [List.length_take,List.length_drop]; omega
 refine List.ext_getElem? fun j => ?_
 rw [Tf hk (by decide)]
 by_cases hj : j < m * 2
 · have Ap : j / 2 < m := by omega
   rw [List.getElem?_eq_getElem (by rw [List.length_finRange]; exact Ap)]
   simp only [List.getElem_finRange,Option.bind_some,Fin.val_cast]
   rw [List.getElem?_take,if_pos (Nat.mod_lt _ (by decide)),List.getElem?_drop]
   congr 1
   omega
 · rw [List.getElem?_eq_none (by rw [List.length_finRange]; omega),List.getElem?_eq_none (by omega)]; rfl
theorem fh {α : Type} {enc : α → List Value} (hk : ∀ x,(enc x).length = 2) : ∀ (xs : List α) (i : Nat) (x : α),xs[i]? = some x → ((xs.flatMap enc).drop (i * 2)).take 2 = enc x
 | [],i,x,h => by simp at h
 | a :: xs,0,x,h => by
   simp only [List.getElem?_cons_zero,Option.some.injEq] at h
   subst h
   rw [List.flatMap_cons,Nat.zero_mul,List.drop_zero,← hk a,List.take_left]
 | a :: xs,i + 1,x,h => by
   rw [List.flatMap_cons,show (i + 1) * 2 = (enc a).length + i * 2 by rw [hk]; omega,List.drop_append]
   simp only [Nat.add_sub_cancel_left,List.drop_eq_nil_of_le (Nat.le_add_right _ _),List.nil_append]
   exact fh hk xs i x (by simpa using h)
theorem uD {α : Type} (l : List α) {n : Nat} (hn : l.length = n) : (List.finRange n).map (fun i => l[i.1]'(by rw [hn]; exact i.2)) = l := by
 subst hn
 refine List.ext_getElem (by simp) fun i h1 h2 => ?_
 simp
theorem jE {l : List El} (h : ∀ i a b,l[i]? = some a → l[i + 1]? = some b → Au a.ls b.ls < 0) : l.Pairwise fun a b => Au a.ls b.ls < 0 := by
 rw [List.pairwise_iff_getElem]
 intro i j hi hj eB
 induction j with
 | zero => omega
 | succ j ih =>
   have hs := h j l[j] l[j + 1] (List.getElem?_eq_getElem _) (List.getElem?_eq_getElem _)
   by_cases he : i = j
   · subst he; exact hs
   · exact AZ.trans _ _ _ (ih (by omega) (by omega)) hs
theorem pI : BY FF [] = some [] := by unfold BY; rw [if_pos List.Pairwise.nil]; rfl
theorem EV {p : Option Addr} {n c : Nat} {l : List El} (ho : AW 2 CD σ0 σ p n c l) (hn : n ≤ 1000000000000) (h : Ii R σ0 ((BY FF l).map fun l => ⟨2,0,l,[]⟩)) : Spec prog 148 #[.slice p n c] σ R := by
 have hx0 := ho.up
 obtain ⟨⟨hl,cs,XH,hc⟩,hx⟩ := ho
 refine ET.start fun _ => ?_
 by_cases h0 : n = 0
 · subst h0
   have tV : l = [] := List.length_eq_zero_iff.1 hl
   subst tV
   rw [pI] at h
   refine Spec.same (v := .tuple #[]) (fun w _ => Go.Proofs.AnyF.slices_SortFunc_none Go.Proofs.Tryz.pG p c _ w) ⟨rfl,ET.A0 ⟨fun Ap => by omega,fun _ => ?_⟩⟩
   exact h.ok _ σ p 0 c none 0 0 rfl hx0 Ae.nil Ae.nil (Nat.zero_le _) (Nat.le_refl _)
 obtain ⟨b,o,rfl⟩ : ∃ b o,p = some ⟨b,o,none⟩ := by
   rcases XH.2.2 with ⟨_,h2,_⟩ | ⟨b,o,_,_,hp,_⟩
   · exact absurd h2 h0
   · exact ⟨b,o,hp⟩
 have bX : cs.length = n * 2 := XH.1
 let enc : Fin n → List Value := fun i => (cs.drop (i.1 * 2)).take 2
 let at_ : Fin n → El := fun i => l[i.1]'(by rw [hl]; exact i.2)
 have hE : ∀ i : Fin n,CD (σ.del (some ⟨b,o,none⟩)) (enc i) (at_ i) := fun i => hc.2 i.1 (at_ i) (List.getElem?_eq_getElem _)
 have hk : ∀ i,(enc i).length = 2 := fun i => by
   have := i.2
   show ((cs.drop (i.1 * 2)).take 2).length = 2
   rw [List.length_take,List.length_drop]; omega
 have xU : (List.finRange n).flatMap enc = cs := pH bX
 haveI : Inhabited (Fin n) := ⟨⟨0,by omega⟩⟩
 refine fg (ρ := Go.Proofs.Tryz.Tg) Go.Proofs.Tryz.pG (fun w => by kernel_rfl) (fun w => by kernel_rfl) (α := Fin n) (enc := enc) hk (fun i => CD.one _ _ _ (hE i)) (cf := fun i j => Au (at_ i).ls (at_ j).ls) ANc (g := 196) (fun args w => call196 args w) (b := b) (o := o) (ds := List.finRange n) (by rw [xU]; exact XH) List.length_finRange h0 (by omega) (fun w hw i j => ?_) fun σ1 ds hp jy Bg JL => ⟨rfl,?_⟩
 · obtain ⟨q1,m1,d1,hv1,F7⟩ := hE i
   obtain ⟨q2,m2,d2,hv2,HL⟩ := hE j
   rw [hv1,hv2]
   exact Spec.pE (R := fun e => e = .returned (.int .i64 (Au (at_ i).ls (at_ j).ls))) (@jB _ _ ⟨True⟩ _ _ _ _ _ _ _ _ _ _ F7 HL fun σ' Wd => ⟨rfl,Wd⟩) hw
 let l2 : List El := ds.map at_
 have hp2 : l2.Perm l := by
   have := hp.map at_
   rwa [uD l hl] at this
 have Tc : l2.length = n := hp2.length_eq.trans hl
 have hdl : ds.length = n := by have h9 : (ds.map at_).length = n := Tc; rwa [List.length_map] at h9
 have hO : AW 2 CD σ0 σ1 (some ⟨b,o,none⟩) n c l2 := by
   refine ⟨⟨Tc,_,Bg,?_,fun i x hi => ?_⟩,hx.trans JL⟩
   · rw [Bg.1,Tc]
   · have Bk : (ds.map at_)[i]? = some x := hi
     rw [List.getElem?_map] at Bk
     cases hd : ds[i]? with
     | none => rw [hd] at Bk; cases Bk
     | some k =>
       rw [hd] at Bk
       simp only [Option.map_some,Option.some.injEq] at Bk
       rw [fh hk ds i k hd,← Bk]
       exact CD.mono _ _ _ _ JL (hE k)
 have hle : ∀ i a b',l2[i]? = some a → l2[i + 1]? = some b' → ¬ Au b'.ls a.ls < 0 := fun i a b' ha hb => by
   have hq : l2.Pairwise (fun a b' => ¬ Au b'.ls a.ls < 0) := by
     refine List.pairwise_map.2 (jy.imp fun {x y} Wi => ?_)
     exact of_decide_eq_false Wi
   obtain ⟨h1,rfl⟩ := List.getElem?_eq_some_iff.1 ha
   obtain ⟨h2,rfl⟩ := List.getElem?_eq_some_iff.1 hb
   exact List.pairwise_iff_getElem.1 hq i (i + 1) h1 h2 (by omega)
 clear_value l2
 clear Bg jy hp xU hE hk hdl
 suffices H : ∀ g k : Nat,∀ σ',n - k = g → 1 ≤ k → k ≤ n → AW 2 CD σ0 σ' (some ⟨b,o,none⟩) n c l2 → (∀ i a b',i + 1 < k → l2[i]? = some a → l2[i + 1]? = some b' → Au a.ls b'.ls < 0) → ET.Bh R (some ⟨b,o,none⟩) n c 0 0 none 0 0 none 0 0 k σ' from H (n - 1) 1 σ1 rfl (Nat.le_refl _) (by omega) hO (fun i a b' hi => by omega)
 intro g
 induction g with
 | zero =>
   intro k σ' hg h1 XA hO' Ap
   have hr : BY FF l = some l2 := iU rfl hp2 (jE fun i a b' ha hb => Ap i a b' (by have := (List.getElem?_eq_some_iff.1 hb).1; omega) ha hb)
   rw [hr] at h
   exact ET.A0 ⟨fun Ap => by omega,fun _ => h.ok _ σ' _ n c none 0 0 rfl hO'.up (hO'.rd CD.mono) Ae.nil (by obtain ⟨cs',ANd,_⟩ := hO'.1.2; exact A8.cap ANd) (Nat.le_refl _)⟩
 | succ g ih =>
   intro k σ' hg h1 XA hO' Ap
   have hr := hO'.rd CD.mono
   obtain ⟨y,hy⟩ := hr.ex (k := k) (by omega)
   obtain ⟨x,Wd⟩ := hr.ex (k := k - 1) (by omega)
   obtain ⟨_,_,q1,m1,d1,XI,QO,F7⟩ := CD.at hr Wd
   cases XI
   obtain ⟨_,_,q2,m2,d2,rD,ANe,HL⟩ := CD.at hr hy
   cases rD
   have e1 : Int.toNat ((k : Int) - 1) = k - 1 := by omega
   refine ET.A0 ⟨fun _ => ⟨by unfold AI; omega,b,o,rfl,by omega,q1,m1,d1,by rw [e1]; exact QO.1,by omega,q2,m2,d2,by simpa using ANe.1,Ly F7 HL fun σ2 A5 => ⟨_,rfl,fun hz => ?_,fun hnz => ⟨by unfold AI; omega,?_⟩⟩⟩,fun hh => by omega⟩
   · refine h.no ?_ σ2 (hO'.up.trans A5)
     have : BY FF l = none := iV rfl hp2 fun jy => by
       obtain ⟨h3,rfl⟩ := List.getElem?_eq_some_iff.1 Wd
       obtain ⟨h4,rfl⟩ := List.getElem?_eq_some_iff.1 hy
       exact List.pairwise_iff_getElem.1 jy (k - 1) k h3 h4 (by omega) hz
     rw [this]; rfl
   · have := ih (k + 1) σ2 (by omega) (by omega) (by omega) (hO'.mono CD.mono A5) fun i a b' hi ha hb => by
       by_cases rR : i + 1 = k
       · rw [rR,hy] at hb; cases hb
         rw [show i = k - 1 by omega,Wd] at ha; cases ha
         have h5 := hle (k - 1) _ _ Wd (by rw [show k - 1 + 1 = k by omega]; exact hy)
         have h6 := (AZ.TM x.ls y.ls)
         have h7 := (AZ.TM y.ls x.ls)
         omega
       · exact Ap i a b' (by omega) ha hb
     exact_mod_cast this
end
end TwW
end
section
namespace TwW
open Go Tw Go.RowKit Go.Proofs.Tryz
structure jF (x : Vv) : Prop where
 el : ∀ e ∈ x.vec,An e.ls ∧ 0 ≤ e.v
 rg : ∀ r ∈ x.Ox,An r.ls ∧ 0 < r.vs.length
 len : x.vec.length + x.Ox.length ≤ 100000000000
theorem An.rd {σ : Hp} {p : Option Addr} {n : Nat} {ls : List Lb} (h : An ls) (hr : EK σ p n ls) : n ≤ 1000000 := by
 have h1 := h.1
 have h2 : ls.length = n := hr.1
 omega
theorem uE : ∀ w,(zeroValue 190).run prog w = .ok .nilFunc w := fun w => by
 have h : prog.info? 190 = some t190 := by kernel_rfl
 simp [zeroValue,typeInfo,h]
 rfl
section
variable {σ σ' σ0 : Hp} {R : Rr}
theorem M9.at {p2 : Option Addr} {n2 i : Nat} {l : List Vv} {x : Vv} (hr : Ae 4 M9 σ p2 n2 l) (hx : l[i]? = some x) : ∃ b o p n c q m d,p2 = some ⟨b,o,none⟩ ∧ σ.ld ⟨b,o + i * 4,none⟩ = some (.int .i64 x.kind) ∧ σ.ld ⟨b,o + i * 4 + 1,none⟩ = some (.int .u64 x.v) ∧ σ.ld ⟨b,o + i * 4 + 2,none⟩ = some (.slice p n c) ∧ σ.ld ⟨b,o + i * 4 + 3,none⟩ = some (.slice q m d) ∧ Ae 2 CD σ p n x.vec ∧ Ae 2 TN σ q m x.Ox := by
 obtain ⟨b,o,vs,hp,⟨p,n,c,q,m,d,rfl,h1,h2⟩,hl⟩ := Ae.idx hr hx
 exact ⟨b,o,p,n,c,q,m,d,hp,hl.1,hl.2.1,hl.2.2.1,hl.2.2.2.1,h1,h2⟩
theorem TN.at {p : Option Addr} {n i : Nat} {l : List Rg} {x : Rg} (hr : Ae 2 TN σ p n l) (hx : l[i]? = some x) : ∃ b o q m d q2 m2 d2,p = some ⟨b,o,none⟩ ∧ Aw σ b (o + i * 2) [.slice q m d,.slice q2 m2 d2] ∧ EK σ q m x.ls ∧ FH .u64 σ q2 m2 x.vs ∧ m2 ≤ d2 := by
 obtain ⟨b,o,vs,hp,⟨q,m,d,q2,m2,d2,rfl,h1,h2,h3⟩,hl⟩ := Ae.idx hr hx
 exact ⟨b,o,q,m,d,q2,m2,d2,hp,hl,h1,h2,h3⟩
theorem AW.el {p : Option Addr} {n c : Nat} {xs : List El} {q : Option Addr} {m d : Nat} {ls : List Lb} {v : Int} {ty : TypeId} {Φ : Value → Hp → Prop} (ho : AW 2 CD σ0 σ p n c xs) (hr : EK (σ.del p) q m ls) (hn : n ≤ 1000000000000)
   (hΦ : ∀ p' c' σ',AW 2 CD σ0 σ' p' (n + 1) c' (xs ++ [⟨ls,v⟩]) → Ext (σ.del p) (σ'.del p') → Φ (.slice p' (n + 1) c') σ') {b : Nat} (hb : σ b = none) :
   AK prog (Builtin.append_ #[67,67] ty #[.slice p n c,.slice (some ⟨b,0,none⟩) 1 1]) (σ.set b (.cells #[.slice q m d,.int .u64 v] 71 (0,0))) Φ := by
 have he : CD (σ.del p) [.slice q m d,.int .u64 v] ⟨ls,v⟩ := ⟨q,m,d,rfl,hr⟩
 exact AW.Jq CD.mono ho rfl (CD.one _ _ _ he) he (by omega) hΦ hb
theorem pJ {n : Nd} {p q a l : Option Addr} {k c m d j e : Nat} {L : List Vv} {x : Vv} (hr : Ae 4 M9 σ l j L) (hx : L[0]? = some x) (hV : jF x) (h : Ii R σ (iT FF x)) : Spec prog 106 #[.pointer a,MU n p k c q m d,.slice l j e] σ R := by
 have hj : 0 < j := by have h1 : L.length = j := hr.1; have := (List.getElem?_eq_some_iff.1 hx).1; omega
 obtain ⟨b,o,pv,nv,cv,qv,mv,dv,rfl,h1,h2,h3,h4,h5,h6⟩ := M9.at hr hx
 simp only [Nat.zero_mul,Nat.add_zero] at h1 h2 h3 h4
 refine BL.start fun _ _ => ⟨b,o,rfl,by omega,x.kind,h1,fun hk => ⟨by omega,x.v,h2,QC ⟨_,rfl,?_⟩⟩,fun hk => ⟨by omega,pv,nv,cv,h3,?_⟩⟩
 · unfold iT at h; rw [if_pos hk] at h
   exact h.ok _ σ none 0 0 none 0 0 rfl (.refl _) Ae.nil Ae.nil (Nat.le_refl _) (Nat.le_refl _)
 unfold iT at h
 rw [if_neg hk] at h
 have hl : x.vec.length = nv := h5.1
 have hlen := hV.len
 suffices H : ∀ g i : Nat,∀ p8 n8 c8 σ',nv - i = g → i ≤ nv → AW 2 CD σ σ' p8 n8 c8 ((x.vec.take i).map fun x => ⟨BI x.ls,FF.oO x.v⟩) → BL.tE R 0 0 none 0 0 none 0 0 p8 n8 c8 pv nv cv nv i σ' from H nv 0 none 0 0 σ rfl (Nat.zero_le _) (AW.nil (.refl _))
 intro g
 induction g with
 | zero =>
   intro i p8 n8 c8 σ' hg hi ho
   rw [List.take_of_length_le (by omega)] at ho
   have QI := ho.1.1
   rw [List.length_map] at QI
   exact BL.fF ⟨fun Ap => by omega,fun _ => EV ho (by omega) h.UY⟩
 | succ g ih =>
   intro i p8 n8 c8 σ' hg hi ho
   have Bk : i < nv := by omega
   obtain ⟨y,hy⟩ := h5.ex Bk
   obtain ⟨b1,o1,q1,m1,d1,rfl,QO,F7⟩ := CD.at h5 hy
   have JK := hV.el y (List.mem_of_getElem? hy)
   have QI := ho.1.1
   rw [List.length_map,List.length_take] at QI
   refine BL.fF ⟨fun _ => ⟨b1,o1,rfl,by omega,q1,m1,d1,y.v,by simpa using QO.mono ho.up,fun _ => Fa (F7.mono Bt.mono ho.up) (JK.1.rd F7) fun p' n' c' σ2 HL A5 => ⟨_,_,_,rfl,QC ⟨_,rfl,fun qz ANf => ?_⟩⟩⟩,fun hh => by omega⟩
   refine AW.el (ho.mono CD.mono A5) (HL.mono Bt.mono (ho.new A5)) (by omega) (fun p9 c9 σ3 EC _ => ⟨_,_,_,rfl,AL Bk h5.big,ih (i + 1) _ _ _ _ (by omega) (by omega) ?_⟩) ANf
   rw [AY hy,List.map_append]; exact EC
theorem jG {n : Nd} {p q a l : Option Addr} {k c m d j e : Nat} {L : List Vv} {x : Vv} (hr : Ae 4 M9 σ l j L) (hx : L[0]? = some x) (hV : jF x) (hv : x.vec ≠ [] → n.op = 11 ∨ n.op = 12) (hw : x.Ox ≠ [] → 1 ≤ n.op ∧ n.op ≤ 10)
   (h : Ii R σ ((BY FF (TL FF n x)).map fun l => ⟨2,0,l,[]⟩)) : Spec prog 103 #[.pointer a,MU n p k c q m d,.slice l j e] σ R := by
 have hj : 0 < j := by have h1 : L.length = j := hr.1; have := (List.getElem?_eq_some_iff.1 hx).1; omega
 obtain ⟨b,o,pv,nv,cv,qv,mv,dv,rfl,h1,h2,h3,h4,h5,h6⟩ := M9.at hr hx
 simp only [Nat.zero_mul,Nat.add_zero] at h1 h2 h3 h4
 have hl : x.vec.length = nv := h5.1
 have hlr : x.Ox.length = mv := h6.1
 have hlen := hV.len
 refine AU.start fun _ _ => EU fun mb ot => ⟨mb,rfl,?_⟩
 have s0 := oh.fresh ot
 refine s0.put (by simp) fun σ1 s1 => s1.put (by simp) fun σ2 s2 => ?_
 have A5 := s2.1
 have hml := s2.2.2
 have cont : ∀ v21,(n.op = 11 → v21 = .func (.func 144) #[] #[]) → (n.op = 12 → v21 = .func (.func 145) #[] #[]) → ∃ v,v = v21 ∧ Pq (some ⟨b,o,none⟩) fun Qd mI => In 0 (j : Int) ∧ LS σ2 Qd (mI + 2) fun iH n25 iI => AU.FG R (aD Qd mI) j e n.kind n.op n.text p k c n.width n.back n.Ea q m d n.bool n.parts 0 0 none 0 0 none 0 0 none 0 0 v iH n25 iI (n25 : Int) 0 σ2 := fun v21 ha hf => by
   refine ⟨v21,rfl,b,o,rfl,by omega,pv,nv,cv,A5.ld h3,?_⟩
   let g1 : El → El := fun x => ⟨BI x.ls,if n.op = 11 then FF.abs x.v else FF.floor x.v⟩
   let g2 : Rg → Option El := fun s => (FF.over n.op s.vs x.v).map fun v => ⟨BI s.ls,v⟩
   have hc : TL FF n x = x.vec.map g1 ++ x.Ox.filterMap g2 := rfl
   rw [hc] at h
   have second : ∀ g i : Nat,∀ fb p8 n8 c8 σ',mv - i = g → i ≤ mv → Td (σ'.del p8) fb → AW 2 CD σ σ' p8 n8 c8 (x.vec.map g1 ++ (x.Ox.take i).filterMap g2) → AU.DU R (aD b o) j e n.kind n.op n.text p k c n.width n.back n.Ea q m d n.bool n.parts 0 0 none 0 0 none 0 0 p8 n8 c8 (aD fb 0) 11 11 qv mv dv mv i σ' := by
     intro g
     induction g with
     | zero =>
       intro i fb p8 n8 c8 σ' hg hi hF ho
       rw [List.take_of_length_le (by omega)] at ho
       have QI := ho.1.1
       rw [List.length_append,List.length_map] at QI
       have h9 := List.length_filterMap_le g2 x.Ox
       exact AU.Fe ⟨fun Ap => by omega,fun _ => EV ho (by omega) h.UY⟩
     | succ g ih =>
       intro i fb p8 n8 c8 σ' hg hi hF ho
       have Bk : i < mv := by omega
       obtain ⟨y,hy⟩ := h6.ex Bk
       obtain ⟨b1,o1,q1,m1,d1,q2,m2,d2,rfl,QO,F7,HL,xT⟩ := TN.at h6 hy
       have JK := hV.rg y (List.mem_of_getElem? hy)
       have JZ := hw fun e => by rw [e] at hlr; simp at hlr; omega
       have hlv : y.vs.length = m2 := HL.1
       have QI := ho.1.1
       rw [List.length_append,List.length_map] at QI
       have h9 := List.length_filterMap_le g2 (x.Ox.take i)
       rw [List.length_take] at h9
       have next : ∀ p9 n9 c9 σ3,Td (σ3.del p9) fb → AW 2 CD σ σ3 p9 n9 c9 (x.vec.map g1 ++ (x.Ox.take i).filterMap g2 ++ (g2 y).toList) → AU.MT R (aD b o) j e n.kind n.op n.text p k c n.width n.back n.Ea q m d n.bool n.parts 0 0 none 0 0 none 0 0 p9 n9 c9 (aD fb 0) 11 11 (aD b1 o1) mv dv mv i σ3 := fun p9 n9 c9 σ3 hF3 EC =>
         AU.JJ ⟨AL Bk h6.big,ih (i + 1) _ _ _ _ _ (by omega) (by omega) hF3 (by rw [Gu hy,← List.append_assoc]; exact EC)⟩
       refine AU.Fe ⟨fun _ => ⟨b1,o1,rfl,by omega,q1,m1,d1,q2,m2,d2,by simpa using QO.mono ho.up,fun _ => ⟨fb,0,rfl,by omega,jD (w := x.v) JZ (hF.mono (Ext.Iw _ _)) (HL.mono ho.up) (by omega) xT hj (ho.up.ld h2) fun z ok σ3 hz C2 => ⟨z,ok,rfl,fun C8 => ?_,fun C8 => next _ _ _ _ (hF.mono (C2.del _)) ?_⟩⟩⟩,fun hh => by omega⟩
       · have hz' : FF.over n.op y.vs x.v = some z := by
           rcases hz with ⟨h7,_⟩ | ⟨_,h8⟩
           · exact h7
           · rw [C8] at h8; cases h8
         refine Fa (F7.mono Bt.mono (ho.up.trans C2)) (JK.1.rd F7) fun p' n' c' σ4 hr4 NT => ⟨_,_,_,rfl,fun zu AAt => ?_⟩
         have EC := ho.mono CD.mono C2
         refine AW.el (EC.mono CD.mono NT) (hr4.mono Bt.mono (EC.new NT)) (by omega) (fun p9 c9 σ5 RB UT => ⟨_,_,_,rfl,next _ _ _ _ (hF.mono (((C2.trans NT).del _).trans UT)) ?_⟩) AAt
         rw [show g2 y = some ⟨BI y.ls,z⟩ by show (FF.over n.op y.vs x.v).map _ = _; rw [hz']; rfl]; exact RB
       · have hz' : FF.over n.op y.vs x.v = none := by
           rcases hz with ⟨_,h8⟩ | ⟨h7,_⟩
           · rw [C8] at h8; cases h8
           · exact h7
         rw [show g2 y = none by show (FF.over n.op y.vs x.v).map _ = _; rw [hz']; rfl]
         simpa using ho.mono CD.mono C2
   suffices H : ∀ g i : Nat,∀ p8 n8 c8 σ',nv - i = g → i ≤ nv → AW 2 CD σ σ' p8 n8 c8 ((x.vec.take i).map g1) → AU.FG R (aD b o) j e n.kind n.op n.text p k c n.width n.back n.Ea q m d n.bool n.parts 0 0 none 0 0 none 0 0 p8 n8 c8 v21 pv nv cv nv i σ' from H nv 0 none 0 0 σ2 rfl (Nat.zero_le _) (AW.nil A5)
   intro g
   induction g with
   | zero =>
     intro i p8 n8 c8 σ' hg hi ho
     rw [List.take_of_length_le (by omega)] at ho
     refine AU.Ff ⟨fun Ap => by omega,fun _ => Te fun fb σ3 hF C2 => ⟨_,_,_,rfl,b,o,rfl,by omega,qv,mv,dv,(ho.up.trans C2).ld h4,second mv 0 fb p8 n8 c8 σ3 rfl (Nat.zero_le _) (hF.mono (ho.new C2)) (by simpa using ho.mono CD.mono C2)⟩⟩
   | succ g ih =>
     intro i p8 n8 c8 σ' hg hi ho
     have Bk : i < nv := by omega
     obtain ⟨y,hy⟩ := h5.ex Bk
     obtain ⟨b1,o1,q1,m1,d1,rfl,QO,F7⟩ := CD.at h5 hy
     have JK := hV.el y (List.mem_of_getElem? hy)
     have QI := ho.1.1
     rw [List.length_map,List.length_take] at QI
     have JZ := hv fun e => by rw [e] at hl; simp at hl; omega
     refine AU.Ff ⟨fun _ => ⟨b1,o1,rfl,by omega,q1,m1,d1,y.v,by simpa using QO.mono ho.up,fun _ => Fa (F7.mono Bt.mono ho.up) (JK.1.rd F7) fun p' n' c' σ3 dG C2 => ⟨_,_,_,rfl,?_⟩⟩,fun hh => by omega⟩
     have app : ∀ z,(g1 y).v = z → AA R (CI .u64 fun wN AF => Al AF fun U4 => AK prog (Builtin.append_ #[67,67] 67 #[.slice p8 n8 c8,(.slice (aD U4 0) 1 1)]) (Hp.set AF U4 (.cells #[.slice p' n' c',.int .u64 wN] 71 (0,0))) (CS fun qk n41 eo AH => AI ((i : Int) + 1) ∧ AU.FG R (aD b o) j e n.kind n.op n.text p k c n.width n.back n.Ea q m d n.bool n.parts 0 0 none 0 0 none 0 0 qk n41 eo v21 (aD b1 o1) nv cv nv ((i : Int) + 1) AH)) (.returned (.int .u64 z)) σ3 := fun z hz => by
       refine ⟨z,rfl,fun U4 jH => AW.el (ho.mono CD.mono C2) (dG.mono Bt.mono (ho.new C2)) (by omega) (fun p9 c9 σ5 RB UT => ⟨_,_,_,rfl,AL Bk h5.big,ih (i + 1) _ _ _ _ (by omega) (by omega) ?_⟩) jH⟩
       rw [AY hy,List.map_append]
       have : g1 y = ⟨BI y.ls,z⟩ := by rw [← hz]
       simpa [this] using RB
     rcases JZ with JZ | JZ
     · exact ⟨144,#[],#[],ha JZ,N0.en,oT JK.2 (app _ (by show (if n.op = 11 then Wl y.v else _) = _; rw [if_pos JZ]))⟩
     · exact ⟨145,#[],#[],hf JZ,JI.en,cb (app _ (by show (if n.op = 11 then Wl y.v else NB y.v) = _; rw [if_neg (by omega)]))⟩
 refine hml.look uE (fun EB => cont _ (fun h9 => ?_) fun h9 => ?_) fun v hv => ?_
 · exact absurd h9.symm (EB (11,.func (.func 144) #[] #[]) (by simp))
 · exact absurd h9.symm (EB (12,.func (.func 145) #[] #[]) (by simp))
 · simp only [List.nil_append,List.cons_append,List.mem_cons,List.not_mem_nil,or_false,Prod.mk.injEq] at hv
   rcases hv with ⟨h9,rfl⟩ | ⟨h9,rfl⟩
   · exact cont _ (fun _ => rfl) fun h8 => by omega
   · exact cont _ (fun h8 => by omega) fun _ => rfl
end
end TwW
end
section
namespace TwW
open Go Tw Go.RowKit Go.Proofs.Tryz
theorem dH : ∀ w,(zeroValue 71).run prog w = .ok (.agg #[.slice none 0 0,.int .u64 0]) w := fun w => by
 have h : prog.info? 71 = some t71 := by kernel_rfl
 simp [zeroValue,typeInfo,h]
 rfl
def E0 (σ0 : Hp) (v : Value) (x : El) : Prop := ∃ p n c,v = .agg #[.slice p n c,.int .u64 x.v] ∧ EK σ0 p n x.ls
theorem VT {α : Type} {f : α → Bool} {xs : List α} {k : Nat} {x : α} (hx : xs[k]? = some x) : (xs.take (k + 1)).filter f = (xs.take k).filter f ++ if f x then [x] else [] := by
 rw [AY hx,List.filter_append]
 by_cases h : f x = true <;> simp [h]
section
variable {σ σ' σ0 : Hp} {R : Rr}
theorem Ext.put {m : Nat} {o : Obj} (hx : Ext σ0 σ) (hm : σ0 m = none) : Ext σ0 (σ.set m o) := fun k u hk => by rw [Hp.AJ (fun e => by rw [e,hm] at hk; cases hk)]; exact hx _ _ hk
theorem JU {n : Nd} {p q pv : Option Addr} {k c m d nv cv : Nat} {vec : List El} (hs : E9 1 σ q m (n.names.map .string)) (hr : Ae 2 CD σ pv nv vec) (ji : ∀ e ∈ vec,An e.ls)
   (h : ∀ mb σ',MS (E0 σ) σ' mb (Wh n vec) → Ext σ σ' → R (.returned (.tuple #[.map (some mb),.bool (iS n vec)])) σ') : Spec prog 206 #[MU n p k c q m d,.slice pv nv cv] σ R := by
 have hl : vec.length = nv := hr.1
 refine HD.start fun _ => EU fun mb ot => ⟨mb,rfl,?_⟩
 let st : List (ByteArray × El) → El → List (ByteArray × El) := fun m x => Wf m (Gb (NU n x.ls)) x
 have hk : Wh n vec = vec.foldl st [] := rfl
 suffices H : ∀ g i : Nat,∀ σ',nv - i = g → i ≤ nv → MS (E0 σ) σ' mb ((vec.take i).foldl st []) → Ext σ σ' → HD.A7 R pv nv cv n.kind n.op n.text p k c n.width n.back n.Ea q m d n.bool n.parts (some mb) pv nv cv nv i σ' from H nv 0 _ rfl (Nat.zero_le _) MS.fresh (.set ot)
 intro g
 induction g with
 | zero =>
   intro i σ' hg hi hM hx
   rw [List.take_of_length_le (by omega)] at hM
   refine HD.Aa ⟨fun Ap => by omega,fun _ => ⟨_,hM.len,?_⟩⟩
   have := h mb σ' hM hx
   unfold iS at this
   rw [hk,hl] at this
   rw [show decide ((((vec.foldl st []).length : Nat) : Int) = (nv : Int)) = decide ((vec.foldl st []).length = nv) from decide_eq_decide.2 (by omega)]
   exact this
 | succ g ih =>
   intro i σ' hg hi hM hx
   have Bk : i < nv := by omega
   obtain ⟨y,hy⟩ := hr.ex Bk
   obtain ⟨b1,o1,q1,m1,d1,rfl,QO,F7⟩ := CD.at hr hy
   have JK := ji y (List.mem_of_getElem? hy)
   refine HD.Aa ⟨fun _ => ⟨b1,o1,rfl,by omega,q1,m1,d1,y.v,by simpa using QO.mono hx,fun _ => RF (F7.mono Bt.mono hx) (JK.rd F7) (hs.mono hx) fun p' n' c' σ2 HL A5 => ⟨_,_,_,rfl,FZ (HL.mono Bt.mono (Ext.Cq _ _)) JK.NU fun σ3 C2 => ⟨_,rfl,?_⟩⟩⟩,fun hh => by omega⟩
   refine (hM.mono (A5.trans C2)).put (x := y) ⟨q1,m1,d1,rfl,F7⟩ fun o hM' => ⟨AL Bk hr.big,ih (i + 1) _ (by omega) (by omega) ?_ (Ext.put (hx.trans (A5.trans C2)) ot)⟩
   rw [AY hy,List.foldl_append]; exact hM'
theorem jI {n : Nd} {p q a px py : Option Addr} {k c m d nx cx ny cy : Nat} {x y : List El} (hs : E9 1 σ q m (n.names.map .string)) (Wt : Ae 2 CD σ px nx x) (xV : Ae 2 CD σ py ny y) (pK : ∀ e ∈ x,An e.ls) (jx : ∀ e ∈ y,An e.ls) (hlen : x.length + y.length ≤ 1000000000000)
   (h : Ii R σ ((BY FF (Mi n x y)).map fun l => ⟨2,0,l,[]⟩)) : Spec prog 160 #[.pointer a,MU n p k c q m d,.slice px nx cx,.slice py ny cy] σ R := by
 have Qk : x.length = nx := Wt.1
 have UC : y.length = ny := xV.1
 refine AX.start fun _ _ => JU hs Wt pK fun mx σ1 hM1 CH => ⟨_,_,rfl,JU (hs.mono CH) (xV.mono CD.mono CH) jx fun my σ2 hM2 A5 => ⟨_,_,rfl,?_⟩⟩
 have hX := CH.trans A5
 have hMx := hM1.mono A5
 replace h := h.jA hX
 let f1 : El → Bool := fun e => decide (n.op = 12) || ((VI n y (NU n e.ls)).isSome == decide (n.op = 11))
 let f2 : El → Bool := fun e => (VI n x (NU n e.ls)).isNone && decide (n.op = 12)
 have hf : Mi n x y = x.filter f1 ++ y.filter f2 := rfl
 rw [hf] at h
 have second : ∀ g i : Nat,∀ p8 n8 c8 σ',ny - i = g → i ≤ ny → AW 2 CD σ2 σ' p8 n8 c8 (x.filter f1 ++ (y.take i).filter f2) → AX.J4 R n.kind n.op n.text p k c n.width n.back n.Ea q m d n.bool n.parts 0 0 none 0 0 none 0 0 (some mx) p8 n8 c8 py ny cy ny i σ' := by
   intro g
   induction g with
   | zero =>
     intro i p8 n8 c8 σ' hg hi ho
     rw [List.take_of_length_le (by omega)] at ho
     have QI := ho.1.1
     rw [List.length_append] at QI
     have h9 := List.length_filter_le f1 x
     have TJ := List.length_filter_le f2 y
     exact AX.Ls ⟨fun Ap => by omega,fun _ => EV ho (by omega) h.UY⟩
   | succ g ih =>
     intro i p8 n8 c8 σ' hg hi ho
     have Bk : i < ny := by omega
     obtain ⟨z,hz⟩ := xV.ex Bk
     obtain ⟨b1,o1,q1,m1,d1,rfl,QO,F7⟩ := CD.at xV hz
     have JK := jx z (List.mem_of_getElem? hz)
     have QI := ho.1.1
     rw [List.length_append] at QI
     have h9 := List.length_filter_le f1 x
     have TJ := List.length_filter_le f2 (y.take i)
     rw [List.length_take] at TJ
     have next : ∀ p9 n9 c9 σ3,AW 2 CD σ2 σ3 p9 n9 c9 (x.filter f1 ++ (y.take i).filter f2 ++ if f2 z then [z] else []) → AX.Nl R n.kind n.op n.text p k c n.width n.back n.Ea q m d n.bool n.parts 0 0 none 0 0 none 0 0 (some mx) p9 n9 c9 (aD b1 o1) ny cy ny i σ3 := fun p9 n9 c9 σ3 EC =>
       AX.V9 ⟨AL Bk xV.big,ih (i + 1) _ _ _ _ (by omega) (by omega) (by rw [VT hz,← List.append_assoc]; exact EC)⟩
     have cQ := hX.trans ho.up
     refine AX.Ls ⟨fun _ => ⟨b1,o1,rfl,by omega,q1,m1,d1,z.v,by simpa using QO.mono cQ,fun _ => RF (F7.mono Bt.mono cQ) (JK.rd F7) (hs.mono cQ) fun p' n' c' σ3 dG C2 => ⟨_,_,_,rfl,FZ (dG.mono Bt.mono (Ext.Cq _ _)) JK.NU fun σ4 NT => ⟨_,rfl,?_⟩⟩⟩,fun hh => by omega⟩
     have Mh := ho.mono CD.mono (C2.trans NT)
     refine MS.ZU (hMx.mono (ho.up.trans (C2.trans NT))) dH (fun GU => ⟨_,_,_,_,_,rfl,fun _ => ⟨fun _ => ⟨fun XG => fun jn ANh => ?_,fun XG => next _ _ _ _ ?_⟩,fun hh => (by cases hh)⟩⟩) fun v e he hE => ?_
     · refine AW.el Mh (F7.mono Bt.mono (hX.trans Mh.2)) (by omega) (fun p9 c9 σ5 RB _ => ⟨_,_,_,rfl,next _ _ _ _ ?_⟩) ANh
       have : f2 z = true := by
         show ((Dn (Wh n x) (Gb (NU n z.ls))).isNone && decide (n.op = 12)) = true
         rw [GU,decide_eq_true XG]; rfl
       rw [this]; exact RB
     · have : f2 z = false := by
         show ((Dn (Wh n x) (Gb (NU n z.ls))).isNone && decide (n.op = 12)) = false
         rw [decide_eq_false XG,Bool.and_false]
       rw [this]; simpa using Mh
     · obtain ⟨p5,n5,c5,rfl,_⟩ := hE
       refine ⟨_,_,_,_,_,rfl,fun _ => ⟨fun hh => (by cases hh),fun _ => next _ _ _ _ ?_⟩⟩
       have : f2 z = false := by
         show ((Dn (Wh n x) (Gb (NU n z.ls))).isNone && decide (n.op = 12)) = false
         rw [he]; rfl
       rw [this]; simpa using Mh
 suffices H : ∀ g i : Nat,∀ p8 n8 c8 σ',nx - i = g → i ≤ nx → AW 2 CD σ2 σ' p8 n8 c8 ((x.take i).filter f1) → AX.tJ R py ny cy n.kind n.op n.text p k c n.width n.back n.Ea q m d n.bool n.parts 0 0 none 0 0 none 0 0 (some mx) (some my) p8 n8 c8 px nx cx nx i σ' from H nx 0 none 0 0 σ2 rfl (Nat.zero_le _) (AW.nil (.refl _))
 intro g
 induction g with
 | zero =>
   intro i p8 n8 c8 σ' hg hi ho
   rw [List.take_of_length_le (by omega)] at ho
   exact AX.fJ ⟨fun Ap => by omega,fun _ => second ny 0 p8 n8 c8 σ' rfl (Nat.zero_le _) (by simpa using ho)⟩
 | succ g ih =>
   intro i p8 n8 c8 σ' hg hi ho
   have Bk : i < nx := by omega
   obtain ⟨z,hz⟩ := Wt.ex Bk
   obtain ⟨b1,o1,q1,m1,d1,rfl,QO,F7⟩ := CD.at Wt hz
   have JK := pK z (List.mem_of_getElem? hz)
   have QI := ho.1.1
   have h9 := List.length_filter_le f1 (x.take i)
   rw [List.length_take] at h9
   have next : ∀ p9 n9 c9 σ3,AW 2 CD σ2 σ3 p9 n9 c9 ((x.take i).filter f1 ++ if f1 z then [z] else []) → AX.Wa R py ny cy n.kind n.op n.text p k c n.width n.back n.Ea q m d n.bool n.parts 0 0 none 0 0 none 0 0 (some mx) (some my) p9 n9 c9 (aD b1 o1) nx cx nx i σ3 := fun p9 n9 c9 σ3 EC =>
     AX.tK ⟨AL Bk Wt.big,ih (i + 1) _ _ _ _ (by omega) (by omega) (by rw [VT hz]; exact EC)⟩
   have cQ := hX.trans ho.up
   refine AX.fJ ⟨fun _ => ⟨b1,o1,rfl,by omega,q1,m1,d1,z.v,by simpa using QO.mono cQ,fun _ => RF (F7.mono Bt.mono cQ) (JK.rd F7) (hs.mono cQ) fun p' n' c' σ3 dG C2 => ⟨_,_,_,rfl,FZ (dG.mono Bt.mono (Ext.Cq _ _)) JK.NU fun σ4 NT => ⟨_,rfl,?_⟩⟩⟩,fun hh => by omega⟩
   have Mh := ho.mono CD.mono (C2.trans NT)
   have app : f1 z = true → ∀ iK,σ4 iK = none → AK prog (Builtin.append_ #[67,67] 67 #[.slice p8 n8 c8,(.slice (aD iK 0) 1 1)]) (Hp.set σ4 iK (.cells #[.slice q1 m1 d1,.int .u64 z.v] 71 (0,0))) (CS fun qo lM qp Ab => AX.Wa R py ny cy n.kind n.op n.text p k c n.width n.back n.Ea q m d n.bool n.parts 0 0 none 0 0 none 0 0 (some mx) (some my) qo lM qp (aD b1 o1) nx cx nx i Ab) := fun ht iK ANi => by
     refine AW.el Mh (F7.mono Bt.mono (hX.trans Mh.2)) (by omega) (fun p9 c9 σ5 RB _ => ⟨_,_,_,rfl,next _ _ _ _ ?_⟩) ANi
     rw [ht]; exact RB
   have skip : f1 z = false → AX.Wa R py ny cy n.kind n.op n.text p k c n.width n.back n.Ea q m d n.bool n.parts 0 0 none 0 0 none 0 0 (some mx) (some my) p8 n8 c8 (aD b1 o1) nx cx nx i σ4 := fun ht => next _ _ _ _ (by rw [ht]; simpa using Mh)
   have e1 : f1 z = (decide (n.op = 12) || ((Dn (Wh n y) (Gb (NU n z.ls))).isSome == decide (n.op = 11))) := rfl
   refine MS.ZU ((hM2.imp fun v x hE => hE).mono (ho.up.trans (C2.trans NT))) dH (fun GU => ⟨_,_,_,_,_,rfl,fun _ => ⟨fun XG => app ?_,fun XG => ⟨fun hh => (by cases hh),fun _ => ⟨fun fi => skip ?_,fun fi => app ?_⟩⟩⟩⟩) fun v e he hE => ?_
   · rw [e1,decide_eq_true XG]; rfl
   · rw [e1,decide_eq_false XG,GU,decide_eq_true fi]; rfl
   · rw [e1,decide_eq_false XG,GU,decide_eq_false fi]; rfl
   · obtain ⟨p5,n5,c5,rfl,_⟩ := hE
     refine ⟨_,_,_,_,_,rfl,fun _ => ⟨fun XG => app ?_,fun XG => ⟨fun _ => ⟨fun fi => app ?_,fun fi => skip ?_⟩,fun hh => (by cases hh)⟩⟩⟩
     · rw [e1,decide_eq_true XG]; rfl
     · rw [e1,decide_eq_false XG,he,decide_eq_true fi]; rfl
     · rw [e1,decide_eq_false XG,he,decide_eq_false fi]; rfl
end
end TwW
end
section
namespace TwW
open Go Tw Go.RowKit Go.Proofs.Tryz
section
variable {σ σ' σ0 : Hp} {R : Rr}
theorem Ti {n : Nd} {p q a px : Option Addr} {k c m d nx cx f : Nat} {cap : Array Value} {x : List El} {g : Int → Int × Bool} (Wt : Ae 2 CD σ px nx x) (pK : ∀ e ∈ x,An e.ls) (hlen : x.length ≤ 1000000000000) (Oh : Enters prog f)
   (hC : ∀ (σ2 : Hp) (v : Int) (R' : Rr),Ext σ σ2 → R' (.returned (.tuple #[.int .u64 (g v).1,.bool (g v).2])) σ2 → Spec prog f (#[] ++ #[.int .u64 v] ++ cap) σ2 R')
   (h : Ii R σ ((BY FF (Hy n x g)).map fun l => ⟨2,0,l,[]⟩)) : Spec prog 157 #[.pointer a,MU n p k c q m d,.slice px nx cx,.func (.func f) #[] cap] σ R := by
 have Qk : x.length = nx := Wt.1
 let f1 : El → Option El := fun x => if E2 n.op = false ∨ n.bool = true then some ⟨BI x.ls,(g x.v).1⟩ else if (g x.v).2 then some x else none
 have hf : Hy n x g = x.filterMap f1 := rfl
 rw [hf] at h
 refine A2.start fun _ _ => ?_
 suffices H : ∀ gg i : Nat,∀ p8 n8 c8 σ',nx - i = gg → i ≤ nx → AW 2 CD σ σ' p8 n8 c8 ((x.take i).filterMap f1) → A2.A7 R (.func (.func f) #[] cap) n.kind n.op n.text p k c n.width n.back n.Ea q m d n.bool n.parts 0 0 none 0 0 none 0 0 p8 n8 c8 px nx cx nx i σ' from H nx 0 none 0 0 σ rfl (Nat.zero_le _) (AW.nil (.refl _))
 intro gg
 induction gg with
 | zero =>
   intro i p8 n8 c8 σ' hg hi ho
   rw [List.take_of_length_le (by omega)] at ho
   have QI := ho.1.1
   have h9 := List.length_filterMap_le f1 x
   exact A2.Aa ⟨fun Ap => by omega,fun _ => EV ho (by omega) h.UY⟩
 | succ gg ih =>
   intro i p8 n8 c8 σ' hg hi ho
   have Bk : i < nx := by omega
   obtain ⟨z,hz⟩ := Wt.ex Bk
   obtain ⟨b1,o1,q1,m1,d1,rfl,QO,F7⟩ := CD.at Wt hz
   have JK := pK z (List.mem_of_getElem? hz)
   have QI := ho.1.1
   have h9 := List.length_filterMap_le f1 (x.take i)
   rw [List.length_take] at h9
   have next : ∀ tb p9 n9 c9 σ3,tb = n.bool → AW 2 CD σ σ3 p9 n9 c9 ((x.take i).filterMap f1 ++ (f1 z).toList) → A2.DU R (.func (.func f) #[] cap) n.kind n.op n.text p k c n.width n.back n.Ea q m d tb n.parts 0 0 none 0 0 none 0 0 p9 n9 c9 (aD b1 o1) nx cx nx i σ3 := fun tb p9 n9 c9 σ3 rZ EC => by
     subst rZ
     exact A2.Fe ⟨AL Bk Wt.big,ih (i + 1) _ _ _ _ (by omega) (by omega) (by rw [Gu hz]; exact EC)⟩
   have e1 : f1 z = if E2 n.op = false ∨ n.bool = true then some ⟨BI z.ls,(g z.v).1⟩ else if (g z.v).2 then some z else none := rfl
   refine A2.Aa ⟨fun _ => ⟨b1,o1,rfl,by omega,q1,m1,d1,z.v,by simpa using QO.mono ho.up,fun _ => ⟨f,#[],cap,rfl,Oh,hC σ' z.v _ ho.up ⟨_,_,rfl,Cm ⟨_,rfl,?_⟩⟩⟩⟩,fun hh => by omega⟩
   have bare : (E2 n.op = false ∨ n.bool = true) → ∀ tb,tb = n.bool → Spec prog 146 #[.slice q1 m1 d1] σ' (AA R (CS fun zO n40 zP AH => Al AH fun ed => AK prog (Builtin.append_ #[67,67] 67 #[.slice p8 n8 c8,(.slice (aD ed 0) 1 1)]) (Hp.set AH ed (.cells #[.slice zO n40 zP,.int .u64 (g z.v).1] 71 (0,0))) (CS fun sU n44 vx Ab => A2.DU R (.func (.func f) #[] cap) n.kind n.op n.text p k c n.width n.back n.Ea q m d tb n.parts 0 0 none 0 0 none 0 0 sU n44 vx (aD b1 o1) nx cx nx i Ab))) := fun hc tb rZ =>
     Fa (F7.mono Bt.mono ho.up) (JK.rd F7) fun p' n' c' σ3 dG C2 => ⟨_,_,_,rfl,fun ed AAy => AW.el (ho.mono CD.mono C2) (dG.mono Bt.mono (ho.new C2)) (by omega) (fun p9 c9 σ5 RB _ => ⟨_,_,_,rfl,next _ _ _ _ _ rZ (by rw [e1,if_pos hc]; exact RB)⟩) AAy⟩
   refine ⟨fun hcf => bare (.inl hcf) _ rfl,fun hct => ⟨fun hb => bare (.inr hb) _ hb.symm,fun hb => ⟨fun jC => fun Pv pL => ?_,fun jC => next _ _ _ _ _ hb.symm ?_⟩⟩⟩
   · refine AW.el ho (F7.mono Bt.mono ho.2) (by omega) (fun p9 c9 σ5 RB _ => ⟨_,_,_,rfl,next _ _ _ _ _ hb.symm ?_⟩) pL
     rw [e1,if_neg (by rw [hct,hb]; simp),if_pos jC]; exact RB
   · rw [e1,if_neg (by rw [hct,hb]; simp),if_neg (by rw [jC]; simp)]; simpa using ho
theorem Wu {n : Nd} {p q a px py : Option Addr} {k c m d nx cx ny cy : Nat} {x y : List El} (hs : E9 1 σ q m (n.names.map .string)) (Wt : Ae 2 CD σ px nx x) (xV : Ae 2 CD σ py ny y) (pK : ∀ e ∈ x,An e.ls) (jx : ∀ e ∈ y,An e.ls) (hlen : x.length + y.length ≤ 1000000000000)
   (h : Ii R σ (((N8 FF n x y).bind (BY FF)).map fun l => ⟨2,0,l,[]⟩)) : Spec prog 161 #[.pointer a,MU n p k c q m d,.slice px nx cx,.slice py ny cy] σ R := by
 have Qk : x.length = nx := Wt.1
 have UC : y.length = ny := xV.1
 let f1 : El → Option El := fun e => match VI n y (NU n e.ls) with
   | none => none
   | some o => if E2 n.op = false ∨ n.bool = true then some ⟨NU n e.ls,(FF.N7 n.op e.v o.v).1⟩ else if (FF.N7 n.op e.v o.v).2 then some e else none
 have hf : N8 FF n x y = if iS n x && iS n y then some (x.filterMap f1) else none := rfl
 rw [hf] at h
 refine As.start fun _ _ => JU hs Wt pK fun mx σ1 hM1 CH => ⟨_,_,rfl,JU (hs.mono CH) (xV.mono CD.mono CH) jx fun my σ2 hM2 A5 => ⟨_,_,rfl,fun h1 => ?_,fun h1 => ⟨fun h2 => ?_,fun h2 => ?_⟩⟩⟩
 · rw [h1] at h; exact h.no rfl _ (CH.trans A5)
 · rw [h2,Bool.and_false] at h; exact h.no rfl _ (CH.trans A5)
 rw [h1,h2] at h
 have hX := CH.trans A5
 replace h : Ii R σ2 ((BY FF (x.filterMap f1)).map fun l => ⟨2,0,l,[]⟩) := h.jA hX
 suffices H : ∀ gg i : Nat,∀ p8 n8 c8 σ',nx - i = gg → i ≤ nx → AW 2 CD σ2 σ' p8 n8 c8 ((x.take i).filterMap f1) → As.V8 R n.kind n.op n.text p k c n.width n.back n.Ea q m d n.bool n.parts 0 0 none 0 0 none 0 0 (some my) p8 n8 c8 px nx cx nx i σ' from H nx 0 none 0 0 σ2 rfl (Nat.zero_le _) (AW.nil (.refl _))
 intro gg
 induction gg with
 | zero =>
   intro i p8 n8 c8 σ' hg hi ho
   rw [List.take_of_length_le (by omega)] at ho
   have QI := ho.1.1
   have h9 := List.length_filterMap_le f1 x
   exact As.Q4 ⟨fun Ap => by omega,fun _ => EV ho (by omega) h.UY⟩
 | succ gg ih =>
   intro i p8 n8 c8 σ' hg hi ho
   have Bk : i < nx := by omega
   obtain ⟨z,hz⟩ := Wt.ex Bk
   obtain ⟨b1,o1,q1,m1,d1,rfl,QO,F7⟩ := CD.at Wt hz
   have JK := pK z (List.mem_of_getElem? hz)
   have QI := ho.1.1
   have h9 := List.length_filterMap_le f1 (x.take i)
   rw [List.length_take] at h9
   have next : ∀ tb p9 n9 c9 σ3,tb = n.bool → AW 2 CD σ2 σ3 p9 n9 c9 ((x.take i).filterMap f1 ++ (f1 z).toList) → As.Nl R n.kind n.op n.text p k c n.width n.back n.Ea q m d tb n.parts 0 0 none 0 0 none 0 0 (some my) p9 n9 c9 (aD b1 o1) nx cx nx i σ3 := fun tb p9 n9 c9 σ3 rZ EC => by
     subst rZ
     exact As.V9 ⟨AL Bk Wt.big,ih (i + 1) _ _ _ _ (by omega) (by omega) (by rw [Gu hz]; exact EC)⟩
   have cQ := hX.trans ho.up
   refine As.Q4 ⟨fun _ => ⟨b1,o1,rfl,by omega,q1,m1,d1,z.v,by simpa using QO.mono cQ,fun _ => RF (F7.mono Bt.mono cQ) (JK.rd F7) (hs.mono cQ) fun p' n' c' σ3 dG C2 => ⟨_,_,_,rfl,FZ (dG.mono Bt.mono (Ext.Cq _ _)) JK.NU fun σ4 NT => ⟨_,rfl,?_⟩⟩⟩,fun hh => by omega⟩
   have Mh := ho.mono CD.mono (C2.trans NT)
   have hrk : EK (σ4.del p8) p' n' (NU n z.ls) := dG.mono Bt.mono ((Ext.ID NT).trans (ho.new (C2.trans NT)))
   have e1 : f1 z = match Dn (Wh n y) (Gb (NU n z.ls)) with
     | none => none
     | some o => if E2 n.op = false ∨ n.bool = true then some ⟨NU n z.ls,(DL n.op z.v o.v).1⟩ else if (DL n.op z.v o.v).2 then some z else none := rfl
   refine MS.ZU (hM2.mono (ho.up.trans (C2.trans NT))) dH (fun GU => ⟨_,_,_,_,_,rfl,fun _ => ⟨fun _ => next _ _ _ _ _ rfl ?_,fun hh => (by cases hh)⟩⟩) fun v e he hE => ?_
   · rw [e1,GU]; simpa using Mh
   obtain ⟨p5,n5,c5,rfl,_⟩ := hE
   rw [he] at e1
   dsimp only at e1
   refine ⟨_,_,_,_,_,rfl,fun _ => ⟨fun hh => (by cases hh),fun _ => Hl ⟨_,_,rfl,Cm ⟨_,rfl,?_⟩⟩⟩⟩
   have bare : (E2 n.op = false ∨ n.bool = true) → ∀ tb,tb = n.bool → Al σ4 fun iC => AK prog (Builtin.append_ #[67,67] 67 #[.slice p8 n8 c8,(.slice (aD iC 0) 1 1)]) (Hp.set σ4 iC (.cells #[.slice p' n' c',.int .u64 (DL n.op z.v e.v).1] 71 (0,0))) (CS fun sE X7 sF FE => As.Nl R n.kind n.op n.text p k c n.width n.back n.Ea q m d tb n.parts 0 0 none 0 0 none 0 0 (some my) sE X7 sF (aD b1 o1) nx cx nx i FE) := fun hc tb rZ =>
     fun ed AAy => AW.el Mh hrk (by omega) (fun p9 c9 σ5 RB _ => ⟨_,_,_,rfl,next _ _ _ _ _ rZ (by rw [e1,if_pos hc]; exact RB)⟩) AAy
   refine ⟨fun hcf => bare (.inl hcf) _ rfl,fun hct => ⟨fun hb => bare (.inr hb) _ hb.symm,fun hb => ⟨fun jC => fun Pv pL => ?_,fun jC => next _ _ _ _ _ hb.symm ?_⟩⟩⟩
   · refine AW.el Mh (F7.mono Bt.mono (hX.trans Mh.2)) (by omega) (fun p9 c9 σ5 RB _ => ⟨_,_,_,rfl,next _ _ _ _ _ hb.symm ?_⟩) pL
     rw [e1,if_neg (by rw [hct,hb]; simp),if_pos jC]; exact RB
   · rw [e1,if_neg (by rw [hct,hb]; simp),if_neg (by rw [jC]; simp)]; simpa using Mh
end
end TwW
end
section
namespace TwW
open Go Tw Go.RowKit Go.Proofs.Tryz
theorem AAz : ∀ w,(Go.sizeOf 93).run prog w = .ok 4 w := fun w => by kernel_rfl
abbrev XJ (x : Vv) (p : Option Addr) (n c : Nat) (q : Option Addr) (m d : Nat) : Array Value := #[.int .i64 x.kind,.int .u64 x.v,.slice p n c,.slice q m d]
abbrev ndC (n : Nd) (p : Option Addr) (k c : Nat) (q : Option Addr) (m d : Nat) : Array Value := #[.int .i64 n.kind,.int .i64 n.op,.string n.text,.slice p k c,.int .i64 n.width,.int .i64 n.back,.int .i64 n.Ea,.slice q m d,.bool n.bool,.int .i64 n.parts]
section
variable {σ σ' σ0 : Hp} {R : Rr}
theorem Tj {b : Nat} {c : Array Value} {v0 v1 v2 v3 : Value} {Φ : Unit → Hp → Prop} (hc : c.size = 4) (hb : σ b = some (.cells c 93 (0,0))) (h1 : ∀ u ∈ [v0,v1,v2,v3],u.oneCell' = true) (hv : (Value.agg #[v0,v1,v2,v3]).cells = #[v0,v1,v2,v3])
   (h : Φ () (σ.set b (.cells #[v0,v1,v2,v3] 93 (0,0)))) : AK prog (Instr.storeAt 93 (.pointer (some ⟨b,0,none⟩)) (.agg #[v0,v1,v2,v3])) σ Φ := by
 refine AK.store AAz hb (by rw [hv]; rfl) (by omega) (by rw [hv]; simpa using h1) ?_
 rw [hv,TU (by rw [hc]; rfl)]
 exact h
theorem Aw.GA {b : Nat} {c : List Value} {T : TypeId} (h : σ b = some (.cells c.toArray T (0,0))) : Aw σ b 0 c := Aw.of fun j v hj => by
 rw [Nat.zero_add]; exact Af h (by simpa using hj)
theorem pM {n : Nd} {p q a l : Option Addr} {k c m d j e : Nat} {L : List Vv} {x y : Vv} (hs : E9 1 σ q m (n.names.map .string)) (hr : Ae 4 M9 σ l j L) (hx : L[0]? = some x) (hy : L[1]? = some y) (hVx : jF x) (hVy : jF y) (h : Ii R σ (ZG FF n x y)) :
   Spec prog 105 #[.pointer a,MU n p k c q m d,.slice l j e] σ R := by
 have hj : 1 < j := by have h1 : L.length = j := hr.1; have := (List.getElem?_eq_some_iff.1 hy).1; omega
 obtain ⟨b,o,px,nx,cx,qx,mx,dx,rfl,h1,h2,h3,h4,h5,h6⟩ := M9.at hr hx
 obtain ⟨_,_,py,ny,cy,qy,my,dy,he,g1,g2,g3,g4,g5,g6⟩ := M9.at hr hy
 cases he
 simp only [Nat.zero_mul,Nat.add_zero,Nat.one_mul] at h1 h2 h3 h4 g1 g2 g3 g4
 have Qk := hVx.len
 have UC := hVy.len
 have pK := fun z hz => (hVx.el z hz).1
 have jx := fun z hz => (hVy.el z hz).1
 refine DI.start fun b4 hb4 _ => ?_
 have x4 := Ext.set (o := .cells (ndC n p k c q m d) 36 (0,0)) hb4
 have c4 := Hp.AB σ b4 (.cells (ndC n p k c q m d) 36 (0,0))
 generalize AA0 : σ.set b4 (.cells (ndC n p k c q m d) 36 (0,0)) = σ4 at *
 refine ⟨b,o,rfl,by omega,x.kind,x.v,px,nx,cx,qx,mx,dx,⟨x4.ld h1,x4.ld h2,x4.ld h3,x4.ld h4,trivial⟩,by omega,y.kind,y.v,py,ny,cy,qy,my,dy,⟨x4.ld g1,x4.ld g2,x4.ld g3,x4.ld g4,trivial⟩,fun b8 hb8 b9 hb9 => ?_,fun b9 hb9 b8 hb8 => ?_⟩
 focus
   have n8 : b8 ≠ b9 := fun e => by rw [e,Hp.AB] at hb9; cases hb9
   have n9 := (Hp.AS hb9).2
   have nb : ∀ k o,σ4 k = some o → k ≠ b8 ∧ k ≠ b9 := fun k o hk => ⟨fun e => (by rw [e,hb8] at hk; cases hk),fun e => (by rw [e,n9] at hk; cases hk)⟩
   refine Tj rfl (by rw [Hp.AJ n8]; exact Hp.AB _ _ _) (by simp [Value.oneCell']) rfl ?_
   refine ⟨fun kb HZ u hu => ?_,Tj rfl (by rw [Hp.AJ (Ne.symm n8)]; exact Hp.AB _ _ _) (by simp [Value.oneCell']) rfl ?_⟩
   · rw [List.mem_singleton] at HZ
     subst HZ
     have ad : ∃ u,σ4 kb = some u := by
       have := x4.ld h1
       unfold Hp.ld at this
       cases hq : σ4 kb with
       | none => rw [hq] at this; cases this
       | some u => exact ⟨u,rfl⟩
     obtain ⟨u',CU⟩ := ad
     rw [Hp.AJ (nb _ _ CU).1]; exact hu
   have F8 : ((((σ4.set b8 (.cells #[.int .i64 0,.int .u64 0,.slice none 0 0,.slice none 0 0] 93 (0,0))).set b9 (.cells #[.int .i64 0,.int .u64 0,.slice none 0 0,.slice none 0 0] 93 (0,0))).set b8 (.cells (XJ x px nx cx qx mx dx) 93 (0,0))).set b9 (.cells (XJ y py ny cy qy my dy) 93 (0,0))) b8 = some (.cells (XJ x px nx cx qx mx dx) 93 (0,0)) := by rw [Hp.AJ n8,Hp.AB]
   have F9 := Hp.AB (((σ4.set b8 (.cells #[.int .i64 0,.int .u64 0,.slice none 0 0,.slice none 0 0] 93 (0,0))).set b9 (.cells #[.int .i64 0,.int .u64 0,.slice none 0 0,.slice none 0 0] 93 (0,0))).set b8 (.cells (XJ x px nx cx qx mx dx) 93 (0,0))) b9 (.cells (XJ y py ny cy qy my dy) 93 (0,0))
   have X2 : Ext σ4 ((((σ4.set b8 (.cells #[.int .i64 0,.int .u64 0,.slice none 0 0,.slice none 0 0] 93 (0,0))).set b9 (.cells #[.int .i64 0,.int .u64 0,.slice none 0 0,.slice none 0 0] 93 (0,0))).set b8 (.cells (XJ x px nx cx qx mx dx) 93 (0,0))).set b9 (.cells (XJ y py ny cy qy my dy) 93 (0,0))) := fun k o hk => by
     obtain ⟨a1,a2⟩ := nb k o hk
     rw [Hp.AJ a2,Hp.AJ a1,Hp.AJ a2,Hp.AJ a1]; exact hk
   generalize ((((σ4.set b8 (.cells #[.int .i64 0,.int .u64 0,.slice none 0 0,.slice none 0 0] 93 (0,0))).set b9 (.cells #[.int .i64 0,.int .u64 0,.slice none 0 0,.slice none 0 0] 93 (0,0))).set b8 (.cells (XJ x px nx cx qx mx dx) 93 (0,0))).set b9 (.cells (XJ y py ny cy qy my dy) 93 (0,0))) = y2 at *
 rotate_left
 focus
   have n8 : b9 ≠ b8 := fun e => by rw [e,Hp.AB] at hb8; cases hb8
   have n9 := (Hp.AS hb8).2
   have nb : ∀ k o,σ4 k = some o → k ≠ b8 ∧ k ≠ b9 := fun k o hk => ⟨fun e => (by rw [e,n9] at hk; cases hk),fun e => (by rw [e,hb9] at hk; cases hk)⟩
   refine Tj rfl (Hp.AB _ _ _) (by simp [Value.oneCell']) rfl ?_
   refine ⟨fun kb HZ u hu => ?_,Tj rfl (by rw [Hp.AJ n8,Hp.AJ n8]; exact Hp.AB _ _ _) (by simp [Value.oneCell']) rfl ?_⟩
   · rw [List.mem_singleton] at HZ
     subst HZ
     have ad : ∃ u,σ4 kb = some u := by
       have := x4.ld h1
       unfold Hp.ld at this
       cases hq : σ4 kb with
       | none => rw [hq] at this; cases this
       | some u => exact ⟨u,rfl⟩
     obtain ⟨u',CU⟩ := ad
     rw [Hp.AJ (nb _ _ CU).1]; exact hu
   have F8 : ((((σ4.set b9 (.cells #[.int .i64 0,.int .u64 0,.slice none 0 0,.slice none 0 0] 93 (0,0))).set b8 (.cells #[.int .i64 0,.int .u64 0,.slice none 0 0,.slice none 0 0] 93 (0,0))).set b8 (.cells (XJ x px nx cx qx mx dx) 93 (0,0))).set b9 (.cells (XJ y py ny cy qy my dy) 93 (0,0))) b8 = some (.cells (XJ x px nx cx qx mx dx) 93 (0,0)) := by rw [Hp.AJ (Ne.symm n8),Hp.AB]
   have F9 := Hp.AB (((σ4.set b9 (.cells #[.int .i64 0,.int .u64 0,.slice none 0 0,.slice none 0 0] 93 (0,0))).set b8 (.cells #[.int .i64 0,.int .u64 0,.slice none 0 0,.slice none 0 0] 93 (0,0))).set b8 (.cells (XJ x px nx cx qx mx dx) 93 (0,0))) b9 (.cells (XJ y py ny cy qy my dy) 93 (0,0))
   have X2 : Ext σ4 ((((σ4.set b9 (.cells #[.int .i64 0,.int .u64 0,.slice none 0 0,.slice none 0 0] 93 (0,0))).set b8 (.cells #[.int .i64 0,.int .u64 0,.slice none 0 0,.slice none 0 0] 93 (0,0))).set b8 (.cells (XJ x px nx cx qx mx dx) 93 (0,0))).set b9 (.cells (XJ y py ny cy qy my dy) 93 (0,0))) := fun k o hk => by
     obtain ⟨a1,a2⟩ := nb k o hk
     rw [Hp.AJ a2,Hp.AJ a1,Hp.AJ a1,Hp.AJ a2]; exact hk
   generalize ((((σ4.set b9 (.cells #[.int .i64 0,.int .u64 0,.slice none 0 0,.slice none 0 0] 93 (0,0))).set b8 (.cells #[.int .i64 0,.int .u64 0,.slice none 0 0,.slice none 0 0] 93 (0,0))).set b8 (.cells (XJ x px nx cx qx mx dx) 93 (0,0))).set b9 (.cells (XJ y py ny cy qy my dy) 93 (0,0))) = y2 at *
 all_goals
   have F4 := X2 _ _ c4
   have X := x4.trans X2
   have F4' := Aw.GA (c := [.int .i64 n.kind,.int .i64 n.op,.string n.text,.slice p k c,.int .i64 n.width,.int .i64 n.back,.int .i64 n.Ea,.slice q m d,.bool n.bool,.int .i64 n.parts]) F4
   have hn := h.jA X
   unfold ZG at hn
   refine ⟨x.kind,Af F8 rfl,fun pN => ⟨y.kind,Af F9 rfl,fun xW => ?_,fun xW => ?_⟩,fun pN => ?_⟩
   · rw [if_pos ⟨pN,xW⟩] at hn
     exact ⟨_,_,_,_,_,_,_,_,_,_,_,_,_,_,F4',x.v,Af F8 rfl,y.v,Af F9 rfl,Hl ⟨_,_,rfl,hn.ok _ y2 none 0 0 none 0 0 rfl (.refl _) Ae.nil Ae.nil (Nat.le_refl _) (Nat.le_refl _)⟩⟩
   · rw [if_neg (fun hh => xW hh.2),if_pos pN] at hn
     refine ⟨x.kind,Af F8 rfl,fun _ => ⟨_,_,_,_,_,_,_,_,_,_,_,_,_,_,F4',py,ny,cy,Af F9 rfl,Ti (g := fun v => DL n.op x.v v) (g5.mono CD.mono X) jx (by omega) DZ.en (fun σ2 v R' A5 Lw => ?_) hn.UY⟩,fun hh => absurd pN hh⟩
     exact DZ.start ⟨_,_,_,_,_,_,_,_,_,_,_,_,_,_,F4'.mono A5,x.v,Af (A5 _ _ F8) rfl,Hl ⟨_,_,rfl,Lw⟩⟩
   · rw [if_neg (fun hh => pN hh.1),if_neg pN] at hn
     refine ⟨x.kind,Af F8 rfl,fun hh => absurd hh pN,fun _ => ⟨y.kind,Af F9 rfl,fun xW => ?_,fun xW => ⟨n.op,Af F4 rfl,QE ⟨_,rfl,fun Cg => ?_,fun Cg => ?_⟩⟩⟩⟩
     · rw [if_pos xW] at hn
       refine ⟨_,_,_,_,_,_,_,_,_,_,_,_,_,_,F4',px,nx,cx,Af F8 rfl,Ti (g := fun v => DL n.op v y.v) (h5.mono CD.mono X) pK (by omega) DS.en (fun σ2 v R' A5 Lw => ?_) hn.UY⟩
       exact DS.start ⟨_,_,_,_,_,_,_,_,_,_,_,_,_,_,F4'.mono A5,y.v,Af (A5 _ _ F9) rfl,Hl ⟨_,_,rfl,Lw⟩⟩
     · rw [if_neg xW,if_pos (of_decide_eq_true Cg)] at hn
       exact ⟨_,_,_,_,_,_,_,_,_,_,_,_,_,_,F4',px,nx,cx,Af F8 rfl,py,ny,cy,Af F9 rfl,jI (hs.mono X) (h5.mono CD.mono X) (g5.mono CD.mono X) pK jx (by omega) hn.UY⟩
     · rw [if_neg xW,if_neg (of_decide_eq_false Cg)] at hn
       exact ⟨_,_,_,_,_,_,_,_,_,_,_,_,_,_,F4',px,nx,cx,Af F8 rfl,py,ny,cy,Af F9 rfl,Wu (hs.mono X) (h5.mono CD.mono X) (g5.mono CD.mono X) pK jx (by omega) hn.UY⟩
end
end TwW
end
