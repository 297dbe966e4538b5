/-
  Part 6 of the proof that the law EvalSumsUptoCardSaid of the given program answers true for every input of the given statement; the input reads behind the call as it did. (The texts: packed from 15 texts. Names are shortened by the packing program, for the bound on size.)
-/
import Derived.Test.YtlmhidjgplomgaaGreatDoorA5
import Derived.WalkKit
import Derived.Defers
import Derived.Recover
import Derived.Laws.FloatBits
import Ieee.Arith
import Derived.KernelRfl
set_option linter.all false
section
namespace TwW
open Go Tw Go.RowKit Go.Proofs.Tryz
def bA (l : List UInt8) : ByteArray := ⟨l.toArray⟩
inductive Lx : List UInt8 → List Cl → Prop
 | fin : Lx [] [Cd 0 ⟨#[]⟩ 0]
 | sp {l : List UInt8} {ts : List Cl} : Lx l ts → Lx (32 :: l) ts
 | word {c : UInt8} {w l : List UInt8} {ts : List Cl} : N5 c = true → Bq c = false → (∀ u ∈ w,Mx u = true) → (∀ u,l.head? = some u → Mx u = false) → Lx l ts → Lx (c :: w ++ l) (Cd 3 (bA (c :: w)) 0 :: ts)
 | num {c : UInt8} {w l : List UInt8} {ts : List Cl} : Bq c = true → (∀ u ∈ w,QM u = true) → (∀ u,l.head? = some u → QM u = false) → TS (bA (c :: w)) = 0 → Fv (bA (c :: w)) = true → Lx l ts → Lx (c :: w ++ l) (Cd 1 (bA (c :: w)) 0 :: ts)
 | span {c : UInt8} {w l : List UInt8} {ts : List Cl} : Bq c = true → (∀ u ∈ w,QM u = true) → (∀ u,l.head? = some u → QM u = false) → 0 < TS (bA (c :: w)) → Lx l ts → Lx (c :: w ++ l) (Cd 2 (bA (c :: w)) (TS (bA (c :: w))) :: ts)
 | one {c : UInt8} {l : List UInt8} {ts : List Cl} : c ∈ qX → (∀ u,l.head? = some u → Da (bA [c,u]) N7 = false) → Lx l ts → Lx (c :: l) (Cd 5 (bA [c]) 0 :: ts)
 | two {c u : UInt8} {l : List UInt8} {ts : List Cl} : Da (bA [c,u]) N7 = true → Lx l ts → Lx (c :: u :: l) (Cd 5 (bA [c,u]) 0 :: ts)
theorem TT (s : ByteArray) (i j : Nat) : (s.extract i j).data.toList = (s.data.toList.drop i).take (j - i) := by
 rw [ByteArray.data_extract,Array.toList_extract,List.extract_eq_drop_take]
theorem TU {s : ByteArray} {i : Nat} {a l : List UInt8} (h : s.data.toList.drop i = a ++ l) : s.extract i (i + a.length) = bA a := by
 apply ByteArray.ext
 apply Array.toList_inj.1
 rw [TT,h,Nat.add_sub_cancel_left,List.take_left']
 · rfl
 · rfl
theorem EL {α : Type} {x : List α} {i : Nat} {a l : List α} (h : x.drop i = a ++ l) : x.drop (i + a.length) = l := by
 rw [← List.drop_drop,h,List.drop_left]
theorem Gb {s : ByteArray} {i : Nat} {c : UInt8} {l : List UInt8} (h : s.data.toList.drop i = c :: l) : i < s.size ∧ s.data[i]? = some c := by
 have h1 : s.data.toList[i]? = some c := by
   have := congrArg (·[0]?) h
   simpa [List.getElem?_drop] using this
 have := (List.getElem?_eq_some_iff.1 h1).1
 exact ⟨this,by rw [← Array.getElem?_toList]; exact h1⟩
section
variable {σ σ0 : Hp} {R : Rr} {s : ByteArray}
theorem W0.one {σ : Hp} {vs : List Value} {x : Cl} (h : W0 σ vs x) : GO vs := by
 obtain ⟨_,a,rfl⟩ := h
 intro u hu
 simp only [List.mem_cons,List.not_mem_nil,or_false] at hu
 rcases hu with rfl | rfl | rfl | rfl <;> rfl
theorem N8 {p : Option Addr} {n c : Nat} {F0 : List Cl} {k a v : Int} {t : ByteArray} {G : Option Addr → Nat → Nat → Hp → Prop} (h : AY 4 W0 σ0 σ p n c F0) (hb : n ≤ 1000000)
   (hG : ∀ (p' : Option Addr) (c' : Nat) (y : Hp),AY 4 W0 σ0 y p' (n + 1) c' (F0 ++ [Cd k t v]) → G p' (n + 1) c' y) :
   Al σ fun b => AJ prog (Builtin.append_ #[121,121] 121 #[.slice p n c,(.slice (aD b 0) 1 1)]) (Hp.set σ b (.cells #[.int .i64 k,.int .i64 a,.string t,.int .i64 v] 131 (0,0))) (CS fun p' n' c' y => G p' n' c' y) := fun b Lo => by
 have he : W0 (σ.del p) [.int .i64 k,.int .i64 a,.string t,.int .i64 v] (Cd k t v) := ⟨rfl,a,rfl⟩
 exact AY.Jn W0.mono h rfl he.one he (by omega) (fun p' c' σ' ho hx => ⟨_,_,_,rfl,hG p' c' σ' ho⟩) Lo
theorem jZ {p : Option Addr} {n c i : Nat} {Fj Gj Gk : Int} {Fk : ByteArray} {w l : List UInt8} (hb : s.size ≤ 1000000) (hl : ∀ u,l.head? = some u → Mx u = false) (hw : ∀ u ∈ w,Mx u = true)
   (h : Al σ fun b => AJ prog (Builtin.append_ #[121,121] 121 #[.slice p n c,(.slice (aD b 0) 1 1)]) (Hp.set σ b (.cells #[.int .i64 3,.int .i64 (i : Int),.string (bA w),.int .i64 0] 131 (0,0))) (CS fun p' n' c' y => As.Mj R s p' n' c' Fj Gj Fk Gk ((i + w.length : Nat) : Int) y))
   (hd : s.data.toList.drop i = w ++ l) (hi : i ≤ s.size) : ∀ g j : Nat,w.length - j = g → j ≤ w.length → As.Up R s p n c Fj Gj Fk Gk ((i + j : Nat) : Int) (i : Int) σ := by
 have hlen : s.data.toList.length = s.size := Array.length_toList (xs := s.data)
 have Hr : i + w.length + l.length = s.size := by
   have := congrArg List.length hd
   rw [List.length_drop,List.length_append] at this
   omega
 have fin : ∃ YV,YF prog (Instr.sliceAt 9 (.string s) (some (.int .i64 (i : Int))) (some (.int .i64 ((i + w.length : Nat) : Int))) none) σ (.string YV) ∧ Al σ fun YW => AJ prog (Builtin.append_ #[121,121] 121 #[.slice p n c,(.slice (aD YW 0) 1 1)]) (Hp.set σ YW (.cells #[.int .i64 3,.int .i64 (i : Int),.string YV,.int .i64 0] 131 (0,0))) (CS fun mj n154 ml y => As.Mj R s mj n154 ml Fj Gj Fk Gk ((i + w.length : Nat) : Int) y) :=
   ⟨_,cL (by omega) (by omega),by rw [TU hd]; exact h⟩
 intro g
 induction g with
 | zero =>
   intro j hg hj
   have Qv : j = w.length := by omega
   subst Qv
   refine As.YU ⟨fun An => ?_,fun _ => fin⟩
   cases l with
   | nil => simp at Hr; omega
   | cons u l =>
     obtain ⟨h1,h2⟩ := Gb (EL hd)
     have QN : Mx u = false := hl u rfl
     unfold Mx at QN
     rw [Bool.or_eq_false_iff] at QN
     exact ⟨u,by omega,by rw [Int.toNat_natCast]; exact h2,EK ⟨_,rfl,fun tt => absurd (QN.1.symm.trans tt) (by decide),fun _ => ⟨u,by omega,by rw [Int.toNat_natCast]; exact h2,C8 ⟨_,rfl,fun tt => absurd (QN.2.symm.trans tt) (by decide),fun _ => fin⟩⟩⟩⟩
 | succ g ih =>
   intro j hg hj
   have Qv : j < w.length := by omega
   obtain ⟨u,hu⟩ : ∃ u,w[j]? = some u := ⟨_,List.getElem?_eq_getElem Qv⟩
   have h2 : s.data[i + j]? = some u := by
     rw [← Array.getElem?_toList]
     have := congrArg (·[j]?) hd
     simp only [List.getElem?_drop] at this
     rw [this,List.getElem?_append_left Qv,hu]
   have QN := hw u (List.mem_of_getElem? hu)
   have next : AN (((i + j : Nat) : Int) + 1) ∧ As.Up R s p n c Fj Gj Fk Gk (((i + j : Nat) : Int) + 1) (i : Int) σ := ⟨by unfold AN; omega,by
     have := ih (j + 1) (by omega) (by omega)
     rw [show ((i + (j + 1) : Nat) : Int) = ((i + j : Nat) : Int) + 1 by omega] at this; exact this⟩
   refine As.YU ⟨fun _ => ⟨u,by omega,by rw [Int.toNat_natCast]; exact h2,EK ⟨_,rfl,fun _ => next,fun fl => ⟨u,by omega,by rw [Int.toNat_natCast]; exact h2,C8 ⟨_,rfl,fun _ => next,fun fd => ?_⟩⟩⟩⟩,fun hh => by omega⟩
   unfold Mx at QN
   rw [fl,fd] at QN
   cases QN
theorem Zi {p : Option Addr} {n c i : Nat} {Fj Gj Gk : Int} {Fk : ByteArray} {w l : List UInt8} (hb : s.size ≤ 1000000) (hl : ∀ u,l.head? = some u → QM u = false) (hw : ∀ u ∈ w,QM u = true)
   (h : if 0 < TS (bA w) then As.Kv R s p n c 2 (i : Int) (bA w) (TS (bA w)) ((i + w.length : Nat) : Int) σ else Fv (bA w) = true ∧ As.Kv R s p n c 1 (i : Int) (bA w) (TS (bA w)) ((i + w.length : Nat) : Int) σ)
   (hd : s.data.toList.drop i = w ++ l) (hi : i ≤ s.size) : ∀ g j : Nat,w.length - j = g → j ≤ w.length → As.YT R s p n c Fj Gj Fk Gk ((i + j : Nat) : Int) (i : Int) σ := by
 have hlen : s.data.toList.length = s.size := Array.length_toList (xs := s.data)
 have Hr : i + w.length + l.length = s.size := by
   have := congrArg List.length hd
   rw [List.length_drop,List.length_append] at this
   omega
 have hbw : (bA w).size ≤ 1000000 := by
   have : (bA w).size = w.length := by simp [bA,ByteArray.size]
   omega
 have fin : ∃ Gz,YF prog (Instr.sliceAt 9 (.string s) (some (.int .i64 (i : Int))) (some (.int .i64 ((i + w.length : Nat) : Int))) none) σ (.string Gz) ∧ Spec prog 93 #[.string Gz] σ (AA R (CI .i64 fun Mk y => Br (0 < Mk) (As.Kv R s p n c 2 (i : Int) Gz Mk ((i + w.length : Nat) : Int) y) (Spec prog 94 #[.string Gz] y (AA R (CB fun t121 AF => Bn t121 (R (.returned (.tuple #[.slice none 0 0,.int .i64 (i : Int),.int .i64 172])) AF) (As.Kv R s p n c 1 (i : Int) Gz Mk ((i + w.length : Nat) : Int) AF)))))) := by
   refine ⟨_,cL (by omega) (by omega),?_⟩
   rw [TU hd]
   refine Wb (by omega) ⟨_,rfl,fun hp => ?_,fun hp => LA (by omega) ?_⟩
   · rw [if_pos hp] at h; exact h
   · rw [if_neg hp] at h
     exact ⟨_,rfl,fun hf => absurd (h.1.symm.trans hf) (by decide),fun _ => h.2⟩
 intro g
 induction g with
 | zero =>
   intro j hg hj
   have Qv : j = w.length := by omega
   subst Qv
   refine As.eY ⟨fun An => ?_,fun _ => fin⟩
   cases l with
   | nil => simp at Hr; omega
   | cons u l =>
     obtain ⟨h1,h2⟩ := Gb (EL hd)
     have QN : QM u = false := hl u rfl
     unfold QM at QN
     rw [Bool.or_eq_false_iff,Bool.or_eq_false_iff,decide_eq_false_iff_not] at QN
     have U6 : ¬ ((u.toNat : Nat) : Int) = 46 := fun e => QN.2 ((dE (k := 46) (by decide)).1 e)
     refine ⟨u,by omega,by rw [Int.toNat_natCast]; exact h2,C8 ⟨_,rfl,fun tt => absurd (QN.1.1.symm.trans tt) (by decide),fun _ => ⟨u,by omega,by rw [Int.toNat_natCast]; exact h2,EK ⟨_,rfl,fun tl => ⟨u,by omega,by rw [Int.toNat_natCast]; exact h2,fun h58 => ?_,fun _ => ⟨u,by omega,by rw [Int.toNat_natCast]; exact h2,fun e => absurd e U6,fun _ => fin⟩⟩,fun _ => ⟨u,by omega,by rw [Int.toNat_natCast]; exact h2,fun e => absurd e U6,fun _ => fin⟩⟩⟩⟩⟩
     have := QN.1.2
     rw [tl,Bool.true_and,decide_eq_false_iff_not] at this
     exact absurd (fun e => h58 ((dE (k := 58) (by decide)).2 e)) this
 | succ g ih =>
   intro j hg hj
   have Qv : j < w.length := by omega
   obtain ⟨u,hu⟩ : ∃ u,w[j]? = some u := ⟨_,List.getElem?_eq_getElem Qv⟩
   have h2 : s.data[i + j]? = some u := by
     rw [← Array.getElem?_toList]
     have := congrArg (·[j]?) hd
     simp only [List.getElem?_drop] at this
     rw [this,List.getElem?_append_left Qv,hu]
   have QN := hw u (List.mem_of_getElem? hu)
   have next : AN (((i + j : Nat) : Int) + 1) ∧ As.YT R s p n c Fj Gj Fk Gk (((i + j : Nat) : Int) + 1) (i : Int) σ := ⟨by unfold AN; omega,by
     have := ih (j + 1) (by omega) (by omega)
     rw [show ((i + (j + 1) : Nat) : Int) = ((i + j : Nat) : Int) + 1 by omega] at this; exact this⟩
   refine As.eY ⟨fun _ => ⟨u,by omega,by rw [Int.toNat_natCast]; exact h2,C8 ⟨_,rfl,fun _ => next,fun fd => ⟨u,by omega,by rw [Int.toNat_natCast]; exact h2,EK ⟨_,rfl,fun tl => ⟨u,by omega,by rw [Int.toNat_natCast]; exact h2,fun _ => next,fun rF => ⟨u,by omega,by rw [Int.toNat_natCast]; exact h2,fun _ => next,fun n46 => ?_⟩⟩,fun fl => ⟨u,by omega,by rw [Int.toNat_natCast]; exact h2,fun _ => next,fun n46 => ?_⟩⟩⟩⟩⟩,fun hh => by omega⟩
   · exfalso
     unfold QM at QN
     rw [fd,Bool.false_or,Bool.or_eq_true,Bool.and_eq_true,decide_eq_true_eq,decide_eq_true_eq] at QN
     rcases QN with QN | QN
     · exact rF fun e => QN.2 ((dE (k := 58) (by decide)).1 e)
     · exact n46 ((dE (k := 46) (by decide)).2 QN)
   · exfalso
     unfold QM at QN
     rw [fd,fl,Bool.false_or,Bool.false_and,Bool.false_or,decide_eq_true_eq] at QN
     exact n46 ((dE (k := 46) (by decide)).2 QN)
theorem ACR {c : UInt8} (h : c ∈ qX) : c.toNat ≠ 32 ∧ c.toNat ≠ 9 ∧ c.toNat ≠ 13 ∧ c.toNat ≠ 10 ∧ c.toNat ≠ 34 ∧ Bq c = false ∧ N5 c = false := by
 have : ∀ c ∈ qX,c.toNat ≠ 32 ∧ c.toNat ≠ 9 ∧ c.toNat ≠ 13 ∧ c.toNat ≠ 10 ∧ c.toNat ≠ 34 ∧ Bq c = false ∧ N5 c = false := by decide
 exact this c h
theorem ACS {c u : UInt8} (h : Da (bA [c,u]) N7 = true) : c.toNat ≠ 32 ∧ c.toNat ≠ 9 ∧ c.toNat ≠ 13 ∧ c.toNat ≠ 10 ∧ c.toNat ≠ 34 ∧ Bq c = false ∧ N5 c = false := by
 rw [BE] at h
 have : ∀ x ∈ N7,∀ c,x.data.toList[0]? = some c → c.toNat ≠ 32 ∧ c.toNat ≠ 9 ∧ c.toNat ≠ 13 ∧ c.toNat ≠ 10 ∧ c.toNat ≠ 34 ∧ Bq c = false ∧ N5 c = false := by
   intro x hx c hc
   simp only [N7,List.mem_cons,List.not_mem_nil,or_false] at hx
   rcases hx with rfl | rfl | rfl | rfl | rfl | rfl <;> (simp at hc; subst hc; decide)
 exact this _ h c rfl
theorem ACT {l : List UInt8} {ts : List Cl} (h : Lx l ts) (hb : s.size ≤ 1000000) : ∀ {i n c : Nat} {σ : Hp} {p : Option Addr} {F0 : List Cl} {Fj Gj Gk : Int} {Fk : ByteArray},s.data.toList.drop i = l → i ≤ s.size → AY 4 W0 σ0 σ p n c F0 → n + ts.length ≤ 1000000 →
   (∀ (σ' : Hp) (p' : Option Addr) (n' c' : Nat),AY 4 W0 σ0 σ' p' n' c' (F0 ++ ts) → R (.returned (.tuple #[.slice p' n' c',.int .i64 0,.int .i64 0])) σ') → As.Mj R s p n c Fj Gj Fk Gk (i : Int) σ := by
 have hlen : s.data.toList.length = s.size := Array.length_toList (xs := s.data)
 have sgn : ∀ {i n c : Nat} {σ : Hp} {p : Option Addr} {F0 : List Cl} {Fj Gj Gk : Int} {Fk : ByteArray} {c0 : UInt8} {l : List UInt8} (w : List UInt8),s.data.toList.drop i = c0 :: l → (c0.toNat ≠ 32 ∧ c0.toNat ≠ 9 ∧ c0.toNat ≠ 13 ∧ c0.toNat ≠ 10 ∧ c0.toNat ≠ 34 ∧ Bq c0 = false ∧ N5 c0 = false) → w ≠ [] → i + w.length ≤ s.size →
     (∀ R' : Rr,R' (.returned (.string (bA w))) σ → Spec prog 92 #[.string (s.extract i s.size)] σ R') → AY 4 W0 σ0 σ p n c F0 → n ≤ 1000000 → (∀ (p' : Option Addr) (c' : Nat) (y : Hp),AY 4 W0 σ0 y p' (n + 1) c' (F0 ++ [Cd 5 (bA w) 0]) → As.Mj R s p' (n + 1) c' Fj Gj Fk Gk ((i + w.length : Nat) : Int) y) →
     As.Mj R s p n c Fj Gj Fk Gk (i : Int) σ := fun {i n c σ p F0 Fj Gj Gk Fk c0 l} w hd hc hw hle hsg ho hn hG => by
   obtain ⟨h1,h2⟩ := Gb hd
   obtain ⟨k1,k2,k3,k4,k5,k6,k7⟩ := hc
   have hws : (bA w).size = w.length := by simp [bA,ByteArray.size]
   have hwp : 0 < w.length := List.length_pos_iff.2 hw
   refine As.Lf ⟨fun hh => by omega,fun _ => ⟨c0,by omega,by rw [Int.toNat_natCast]; exact h2,fun e => absurd e (by omega),fun _ => ⟨fun e => absurd e (by omega),fun _ => ⟨fun e => absurd e (by omega),fun _ => ⟨fun e => absurd e (by omega),fun _ => C8 ⟨_,rfl,fun tt => absurd (k6.symm.trans tt) (by decide),fun _ => EK ⟨_,rfl,fun tt => absurd (k7.symm.trans tt) (by decide),fun _ => ⟨fun e => absurd e (by omega),fun _ => ⟨_,Nt (by omega),hsg _ ⟨_,rfl,fun _ => N8 ho hn fun p' c' y M7 => ⟨by unfold AN; omega,?_⟩,fun he => ?_⟩⟩⟩⟩⟩⟩⟩⟩⟩⟩
   · have := hG p' c' y M7
     rw [hws,show ((i + w.length : Nat) : Int) = (i : Int) + (w.length : Int) by omega] at *
     exact this
   · rw [fA,decide_eq_true_eq] at he
     omega
 induction h with
 | fin =>
   intro i n c σ p F0 Fj Gj Gk Fk hd hi ho hn hR
   have : s.size ≤ i := by
     have := congrArg List.length hd
     rw [List.length_drop] at this
     simp at this; omega
   refine As.Lf ⟨fun _ => N8 ho (by simp at hn; omega) fun p' c' y M7 => hR y p' _ c' M7,fun hh => by omega⟩
 | @sp l ts h ih =>
   intro i n c σ p F0 Fj Gj Gk Fk hd hi ho hn hR
   obtain ⟨h1,h2⟩ := Gb hd
   have hd' : s.data.toList.drop (i + 1) = l := EL (a := [32]) hd
   exact As.Lf ⟨fun hh => by omega,fun _ => ⟨32,by omega,by rw [Int.toNat_natCast]; exact h2,fun _ => ⟨by unfold AN; omega,ih hd' h1 ho hn hR⟩,fun hh => absurd (by decide) hh⟩⟩
 | @word c0 w l ts hc hc2 hw hl h ih =>
   intro i n c σ p F0 Fj Gj Gk Fk hd hi ho hn hR
   obtain ⟨h1,h2⟩ := Gb (l := w ++ l) hd
   have hlc := of_decide_eq_true hc
   rw [List.length_cons] at hn
   have hlw : i + (w.length + 1) ≤ s.size := by
     have := congrArg List.length hd
     rw [List.length_drop,List.length_append,List.length_cons] at this
     omega
   refine As.Lf ⟨fun hh => by omega,fun _ => ⟨c0,by omega,by rw [Int.toNat_natCast]; exact h2,fun e => absurd e (by omega),fun _ => ⟨fun e => absurd e (by omega),fun _ => ⟨fun e => absurd e (by omega),fun _ => ⟨fun e => absurd e (by omega),fun _ => C8 ⟨_,rfl,fun tt => absurd (hc2.symm.trans tt) (by decide),fun _ => EK ⟨_,rfl,fun _ => ?_,fun ff => absurd (hc.symm.trans ff) (by decide)⟩⟩⟩⟩⟩⟩⟩
   refine jZ (w := c0 :: w) hb hl (fun u hu => ?_) (N8 ho (by omega) fun p' c' y M7 => ih (EL hd) (by rw [List.length_cons]; omega) M7 (by omega) fun σ' p2 n2 c2 Be => hR σ' p2 n2 c2 (by rw [List.append_assoc] at Be; exact Be)) hd hi (w.length + 1) 0 rfl (Nat.zero_le _)
   rcases List.mem_cons.1 hu with rfl | hu
   · unfold Mx; rw [hc]; rfl
   · exact hw u hu
 | @num c0 w l ts hc hw hl hs ht h ih =>
   intro i n c σ p F0 Fj Gj Gk Fk hd hi ho hn hR
   obtain ⟨h1,h2⟩ := Gb (l := w ++ l) hd
   have hlc := of_decide_eq_true hc
   rw [List.length_cons] at hn
   have hlw : i + (w.length + 1) ≤ s.size := by
     have := congrArg List.length hd
     rw [List.length_drop,List.length_append,List.length_cons] at this
     omega
   refine As.Lf ⟨fun hh => by omega,fun _ => ⟨c0,by omega,by rw [Int.toNat_natCast]; exact h2,fun e => absurd e (by omega),fun _ => ⟨fun e => absurd e (by omega),fun _ => ⟨fun e => absurd e (by omega),fun _ => ⟨fun e => absurd e (by omega),fun _ => C8 ⟨_,rfl,fun _ => ?_,fun ff => absurd (hc.symm.trans ff) (by decide)⟩⟩⟩⟩⟩⟩
   refine Zi (w := c0 :: w) hb hl (fun u hu => ?_) ?_ hd hi (w.length + 1) 0 rfl (Nat.zero_le _)
   · rcases List.mem_cons.1 hu with rfl | hu
     · unfold QM; rw [hc]; rfl
     · exact hw u hu
   · rw [hs,if_neg (by decide)]
     exact ⟨ht,As.YX (N8 ho (by omega) fun p' c' y M7 => ih (EL hd) (by rw [List.length_cons]; omega) M7 (by omega) fun σ' p2 n2 c2 Be => hR σ' p2 n2 c2 (by rw [List.append_assoc] at Be; exact Be))⟩
 | @span c0 w l ts hc hw hl hs h ih =>
   intro i n c σ p F0 Fj Gj Gk Fk hd hi ho hn hR
   obtain ⟨h1,h2⟩ := Gb (l := w ++ l) hd
   have hlc := of_decide_eq_true hc
   rw [List.length_cons] at hn
   have hlw : i + (w.length + 1) ≤ s.size := by
     have := congrArg List.length hd
     rw [List.length_drop,List.length_append,List.length_cons] at this
     omega
   refine As.Lf ⟨fun hh => by omega,fun _ => ⟨c0,by omega,by rw [Int.toNat_natCast]; exact h2,fun e => absurd e (by omega),fun _ => ⟨fun e => absurd e (by omega),fun _ => ⟨fun e => absurd e (by omega),fun _ => ⟨fun e => absurd e (by omega),fun _ => C8 ⟨_,rfl,fun _ => ?_,fun ff => absurd (hc.symm.trans ff) (by decide)⟩⟩⟩⟩⟩⟩
   refine Zi (w := c0 :: w) hb hl (fun u hu => ?_) ?_ hd hi (w.length + 1) 0 rfl (Nat.zero_le _)
   · rcases List.mem_cons.1 hu with rfl | hu
     · unfold QM; rw [hc]; rfl
     · exact hw u hu
   · rw [if_pos hs]
     exact As.YX (N8 ho (by omega) fun p' c' y M7 => ih (EL hd) (by rw [List.length_cons]; omega) M7 (by omega) fun σ' p2 n2 c2 Be => hR σ' p2 n2 c2 (by rw [List.append_assoc] at Be; exact Be))
 | @one c0 l ts hc h2 h ih =>
   intro i n c σ p F0 Fj Gj Gk Fk hd hi ho hn hR
   obtain ⟨k1,k2⟩ := Gb hd
   rw [List.length_cons] at hn
   have hex : (s.extract i s.size).data.toList = c0 :: l := by rw [TT,hd]; exact List.take_of_length_le (by have := congrArg List.length hd; rw [List.length_drop] at this; omega)
   have e1 : (s.extract i s.size).extract 0 1 = bA [c0] := TU (i := 0) (a := [c0]) (l := l) hex
   refine sgn [c0] hd (ACR hc) (by simp) (by rw [List.length_singleton]; omega) (fun R' Lg => Zh (c := c0) (by rw [hex]; rfl) (fun hg => ?_) hc (by rw [e1]; exact Lg)) ho (by omega) fun p' c' y M7 => ih (EL (a := [c0]) hd) (by rw [List.length_singleton]; omega) M7 (by omega) fun σ' p2 n2 c2 Be => hR σ' p2 n2 c2 (by rw [List.append_assoc] at Be; exact Be)
   cases l with
   | nil =>
     have : (s.extract i s.size).size = 1 := by
       have := congrArg List.length hex
       exact this
     omega
   | cons u l =>
     have e2 : (s.extract i s.size).extract 0 2 = bA [c0,u] := TU (i := 0) (a := [c0,u]) (l := l) hex
     rw [e2]
     exact h2 u rfl
 | @two c0 u l ts h2 h ih =>
   intro i n c σ p F0 Fj Gj Gk Fk hd hi ho hn hR
   obtain ⟨k1,k2⟩ := Gb hd
   rw [List.length_cons] at hn
   have hex : (s.extract i s.size).data.toList = c0 :: u :: l := by rw [TT,hd]; exact List.take_of_length_le (by have := congrArg List.length hd; rw [List.length_drop] at this; omega)
   have e2 : (s.extract i s.size).extract 0 2 = bA [c0,u] := TU (i := 0) (a := [c0,u]) (l := l) hex
   have Hr : i + 2 ≤ s.size := by
     have := congrArg List.length hd
     rw [List.length_drop,List.length_cons,List.length_cons] at this
     omega
   have hes : 1 < (s.extract i s.size).size := by
     have := congrArg List.length hex
     rw [List.length_cons,List.length_cons] at this
     have : (s.extract i s.size).size = l.length + 2 := this
     omega
   exact sgn [c0,u] hd (ACS h2) (by simp) (by simpa using Hr) (fun R' Lg => Zg hes (by rw [e2]; exact h2) (by rw [e2]; exact Lg)) ho (by omega) fun p' c' y M7 => ih (EL (a := [c0,u]) hd) (by simpa using Hr) M7 (by omega) fun σ' p2 n2 c2 Be => hR σ' p2 n2 c2 (by rw [List.append_assoc] at Be; exact Be)
theorem qY {ts : List Cl} (h : Lx s.data.toList ts) (hb : s.size ≤ 4096) (hn : ts.length ≤ 100000)
   (hR : ∀ (σ' : Hp) (p' : Option Addr) (n' c' : Nat),AY 4 W0 σ σ' p' n' c' ts → R (.returned (.tuple #[.slice p' n' c',.int .i64 0,.int .i64 0])) σ') : Spec prog 63 #[.string s] σ R :=
 As.start fun _ => ⟨fun hh => by omega,fun _ => ACT h (by omega) (i := 0) rfl (Nat.zero_le _) (AY.nil (.refl _)) (by omega) hR⟩
end
end TwW
end
section
namespace TwW
open Go Tw Go.RowKit Go.Proofs.Tryz
theorem ja (w : World) : (binOp BinOp.neq 20 .nilIface .nilIface).run prog w = .ok (.bool false) w := by kernel_rfl
theorem dF (p q r : Value) (w : World) : CallsD prog 64 #[p,q,r] .returning w fun e u' w' => e = .returned (.tuple #[]) ∧ u' = .returning ∧ w' = w := by
 refine callsD_of_wpS func64 rfl fun c₀ cs hu => ?_
 apply wpS_seq
 apply wpS_region
 simp [wpOpsS,go_sem,recoverD,hu,Exit.thenS]
 apply wpS_seq
 apply wpS_region
 simp [wpOpsS,go_sem,Exit.thenS,ja]
 refine wpS_cond (t := false) (by simp [Act.eval,Array.replicate,ntmps64]) ?_
 simp only [Bool.false_eq_true,if_false]
 refine wpS_of_wp (wp_skip ?_)
 cases c₀
 simp_all [bodyPostS,results,results64,Exit.thenS]
theorem Ce {w : World} {b : Nat} {x v : Value} {T : TypeId} (h : w.heap[b]? = some (.cells #[x] T (0,0))) : (w.setCell ⟨b,0,none⟩ v).heap[b]? = some (.cells #[v] T (0,0)) ∧ (∀ k,k ≠ b → (w.setCell ⟨b,0,none⟩ v).heap[k]? = w.heap[k]?) ∧ (w.setCell ⟨b,0,none⟩ v).heap.size = w.heap.size := by
 have An : b < w.heap.size := (Array.getElem?_eq_some_iff.1 h).1
 refine ⟨?_,fun k hk => ?_,by simp [World.setCell]⟩
 · simp only [World.setCell,Array.getElem?_modify,if_true,h]; rfl
 · simp only [World.setCell,Array.getElem?_modify,if_neg (Ne.symm hk)]
theorem MU {w : World} {b : Nat} {x : Value} {T : TypeId} (h : w.heap[b]? = some (.cells #[x] T (0,0))) : w.cell? ⟨b,0,none⟩ = some x ∧ w.frozen? ⟨b,0,none⟩ = false := by
 simp only [World.cell?,World.frozen?,h]; exact ⟨rfl,rfl⟩
theorem AIn {w : World} {b i : Nat} {c : Array Value} {v : Value} {T : TypeId} (h : w.heap[b]? = some (.cells c T (0,0))) (hv : c[i]? = some v) : w.cell? ⟨b,i,none⟩ = some v := by
 simp only [World.cell?,h]; exact hv
set_option maxRecDepth 100000 in
theorem qZ (s : ByteArray) (w w1 : World) (hw1 : w1 = ((w.alloc (.cells #[.slice none 0 0] 22)).alloc (.cells #[.int .i64 0] 3)).alloc (.cells #[.int .i64 0] 24)) {R : Ending → World → Prop}
   (h : Calls prog 63 #[.string s] w1 fun e w2 => ∃ p n c,e = .returned (.tuple #[.slice p n c,.int .i64 0,.int .i64 0]) ∧ w2.heap[w.heap.size]? = some (.cells #[.slice none 0 0] 22 (0,0)) ∧ w2.heap[w.heap.size + 1]? = some (.cells #[.int .i64 0] 3 (0,0)) ∧ w2.heap[w.heap.size + 1 + 1]? = some (.cells #[.int .i64 0] 24 (0,0)) ∧
     Calls prog 65 #[.pointer (aD w2.heap.size 0)] (((w2.setCell ⟨w.heap.size + 1,0,none⟩ (.int .i64 0)).setCell ⟨w.heap.size + 1 + 1,0,none⟩ (.int .i64 0)).alloc (.cells #[.slice p n c,.int .i64 0,.slice none 0 0] 126)) fun e w4 => e = .returned (.tuple #[]) ∧
     Calls prog 66 #[.pointer (aD w2.heap.size 0)] w4 fun e w5 => ∃ (a v : Int) (t : ByteArray) (p : Option Addr) (n c : Nat) (q : Option Addr) (m k : Nat),e = .returned (.agg #[.int .i64 0,.int .i64 a,.string t,.int .i64 v]) ∧ w5.heap[w.heap.size]? = some (.cells #[.slice none 0 0] 22 (0,0)) ∧ w5.heap[w.heap.size + 1]? = some (.cells #[.int .i64 0] 3 (0,0)) ∧ w5.heap[w.heap.size + 1 + 1]? = some (.cells #[.int .i64 0] 24 (0,0)) ∧
       w5.heap[w2.heap.size]? = some (.cells #[.slice p n c,.int .i64 0,.slice q m k] 126 (0,0)) ∧ R (.returned (.tuple #[.slice q m k,.int .i64 0,.int .i64 0])) (((w5.setCell ⟨w.heap.size,0,none⟩ (.slice q m k)).setCell ⟨w.heap.size + 1,0,none⟩ (.int .i64 0)).setCell ⟨w.heap.size + 1 + 1,0,none⟩ (.int .i64 0))) : Calls prog 43 #[.string s] w R := by
 have hmf : ∀ (fn : Fn) (first cap : Array Value) (w : World),(Instr.makeFunc fn first cap).run prog w = .ok (.func fn first cap) w := fun _ _ _ _ => rfl
 go_enter_defers func43,ntmps43
 go_wp2
 rename_i K1 ha1 K2 ha2
 rw [← hw1]
 refine h.mono ?_
 rintro e w2 ⟨p,n,c,rfl,yb,T8,Pw,h⟩
 obtain ⟨c1,f1⟩ := MU T8
 obtain ⟨s1,s2,s3⟩ := Ce (v := .int .i64 0) T8
 have ACU := Pw
 rw [← s2 _ (by omega)] at ACU
 obtain ⟨c2,f2⟩ := MU ACU
 obtain ⟨t1,t2,t3⟩ := Ce (v := .int .i64 0) ACU
 have c3 := MU t1
 apply ha2
 go_wp2
 refine h.mono ?_
 rintro e w4 ⟨rfl,h⟩
 rename_i K3 ha3 K4 ha4
 apply ha4
 go_wp2
 refine h.mono ?_
 rintro e w5 ⟨a,v,t,p5,n5,c5,q,m,k,rfl,g0,g1,g2,gp,hR⟩
 rename_i K6 ha6
 have cq : w5.cell? ⟨w2.heap.size,2,none⟩ = some (.slice q m k) := AIn gp rfl
 obtain ⟨d0,e0⟩ := MU g0
 obtain ⟨u1,u2,u3⟩ := Ce (v := .slice q m k) g0
 have g1' := g1
 rw [← u2 _ (by omega)] at g1'
 obtain ⟨d1,e1⟩ := MU g1'
 obtain ⟨v1,v2,v3⟩ := Ce (v := .int .i64 0) g1'
 have g2' := g2
 rw [← u2 _ (by omega),← v2 _ (by omega)] at g2'
 obtain ⟨d2,e2⟩ := MU g2'
 obtain ⟨x1,x2,x3⟩ := Ce (v := .int .i64 0) g2'
 have r2 := (MU x1).1
 rw [← x2 _ (by omega)] at v1
 have r1 := (MU v1).1
 rw [← v2 _ (by omega),← x2 _ (by omega)] at u1
 have r0 := (MU u1).1
 have hfl : ∀ w : World,(Instr.field 131 (.agg #[.int .i64 0,.int .i64 a,.string t,.int .i64 v]) 0).run prog w = .ok (.int .i64 0) w := fun w => by kernel_rfl
 apply ha6
 go_wp2
 simp only [bodyPostD]
 refine leaves_cons (f := 64) (args := #[.pointer (aD w.heap.size 0),.pointer (aD (w.heap.size + 1) 0),.pointer (aD (w.heap.size + 1 + 1) 0)]) (by simp) (by simp [go_sem]) ?_
 refine (dF _ _ _ _).mono ?_
 rintro e u' w'' ⟨rfl,rfl,rfl⟩
 simp [Leaves,settle,results,results43,go_sem,r0,r1,r2]
 exact hR
theorem dG {s : ByteArray} {ts r : List Cl} {T : List Nd} {σ : Hp} {R : Rr} {f : Nat} {cl : Cl} (hl : Lx s.data.toList ts) (hs : s.size ≤ 4096) (hn : ts.length ≤ 100000) (hT : T.length ≤ 1000000) (hz : pz f 0 0 ts = some (cl :: r,T)) (hk : cl.kind = 0)
   (hR : ∀ (σ' : Hp) (p : Option Addr) (n c : Nat),Ad 10 Mn σ' p n T → Ext σ σ' → R (.returned (.tuple #[.slice p n c,.int .i64 0,.int .i64 0])) σ') : Spec prog 43 #[.string s] σ R := fun w F W3 hF => by
 have e1 : (((w.alloc (.cells #[.slice none 0 0] 22)).alloc (.cells #[.int .i64 0] 3)).alloc (.cells #[.int .i64 0] 24)).heap = ((w.heap.push (.cells #[.slice none 0 0] 22)).push (.cells #[.int .i64 0] 3)).push (.cells #[.int .i64 0] 24) := rfl
 generalize hw1 : ((w.alloc (.cells #[.slice none 0 0] 22)).alloc (.cells #[.int .i64 0] 3)).alloc (.cells #[.int .i64 0] 24) = w1 at e1
 have az : w1.os = w.os ∧ w1.tape = w.tape ∧ w1.drawn = w.drawn ∧ w1.output = w.output := by subst hw1; exact ⟨rfl,rfl,rfl,rfl⟩
 have Hr : w1.heap.size = w.heap.size + 3 := by rw [e1]; simp
 have hold : ∀ k : Nat,k < w.heap.size → w1.heap[k]? = w.heap[k]? := fun k hk => by
   rw [e1,Array.getElem?_push,if_neg (by simp; omega),Array.getElem?_push,if_neg (by simp; omega),Array.getElem?_push,if_neg (by omega)]
 have n0 : w1.heap[w.heap.size]? = some (.cells #[.slice none 0 0] 22 (0,0)) := by
   rw [e1,Array.getElem?_push,if_neg (by simp; omega),Array.getElem?_push,if_neg (by simp),Array.getElem?_push,if_pos rfl]
 have n1 : w1.heap[w.heap.size + 1]? = some (.cells #[.int .i64 0] 3 (0,0)) := by
   rw [e1,Array.getElem?_push,if_neg (by simp),Array.getElem?_push,if_pos (by simp)]
 have n2 : w1.heap[w.heap.size + 1 + 1]? = some (.cells #[.int .i64 0] 24 (0,0)) := by
   rw [e1,Array.getElem?_push,if_pos (by simp)]
 have An : ∀ b o,σ b = some o → b < w.heap.size := fun b o hb => (Array.getElem?_eq_some_iff.1 (W3 b o hb)).1
 have GM : ∀ b,w.heap.size ≤ b → σ b = none := fun b hb => by
   cases h : σ b with
   | none => rfl
   | some o => have := An b o h; omega
 let F1 : Nat → Prop := fun k => F k ∨ (w.heap.size ≤ k ∧ k < w.heap.size + 3)
 refine qZ s w w1 hw1.symm ((qY (σ := σ) (R := fun e σ' => ∃ (p' : Option Addr) (n' c' : Nat),e = .returned (.tuple #[.slice p' n' c',.int .i64 0,.int .i64 0]) ∧ AY 4 W0 σ σ' p' n' c' ts) hl hs hn (fun σ' p' n' c' ho => ⟨p',n',c',rfl,ho⟩) w1 F1 (fun b o hb => by rw [hold b (An b o hb)]; exact W3 b o hb) (fun k hk => ?_)).mono ?_)
 · rcases hk with hk | hk
   · exact ⟨by have := (hF k hk).1; omega,(hF k hk).2⟩
   · exact ⟨by omega,GM k hk.1⟩
 rintro e w2 ⟨σ2,⟨p,n,c,rfl,ho⟩,hf⟩
 have m0 := ((hf.Ba w.heap.size (.inr ⟨by omega,by omega⟩)).2).trans n0
 have m1 := ((hf.Ba (w.heap.size + 1) (.inr ⟨by omega,by omega⟩)).2).trans n1
 have m2 := ((hf.Ba (w.heap.size + 1 + 1) (.inr ⟨by omega,by omega⟩)).2).trans n2
 have hz2 : w.heap.size + 3 ≤ w2.heap.size := by have := hf.grow; omega
 refine ⟨p,n,c,rfl,m0,m1,m2,?_⟩
 obtain ⟨a1,a2,a3⟩ := Ce (v := .int .i64 0) m1
 have m2' := m2
 rw [← a2 _ (by omega)] at m2'
 obtain ⟨b1,b2,b3⟩ := Ce (v := .int .i64 0) m2'
 have e3 : (((w2.setCell ⟨w.heap.size + 1,0,none⟩ (.int .i64 0)).setCell ⟨w.heap.size + 1 + 1,0,none⟩ (.int .i64 0)).alloc (.cells #[.slice p n c,.int .i64 0,.slice none 0 0] 126)).heap = (((w2.setCell ⟨w.heap.size + 1,0,none⟩ (.int .i64 0)).setCell ⟨w.heap.size + 1 + 1,0,none⟩ (.int .i64 0)).heap).push (.cells #[.slice p n c,.int .i64 0,.slice none 0 0] 126) := rfl
 generalize hw3 : ((w2.setCell ⟨w.heap.size + 1,0,none⟩ (.int .i64 0)).setCell ⟨w.heap.size + 1 + 1,0,none⟩ (.int .i64 0)).alloc (.cells #[.slice p n c,.int .i64 0,.slice none 0 0] 126) = w3 at e3
 have FV : w3.os = w2.os ∧ w3.tape = w2.tape ∧ w3.drawn = w2.drawn ∧ w3.output = w2.output := by subst hw3; exact ⟨rfl,rfl,rfl,rfl⟩
 have AVP : w3.heap.size = w2.heap.size + 1 := by rw [e3]; simp [b3,a3]
 have qa : ∀ k : Nat,k < w2.heap.size → k ≠ w.heap.size + 1 → k ≠ w.heap.size + 1 + 1 → w3.heap[k]? = w2.heap[k]? := fun k hk h1 h2 => by
   rw [e3,Array.getElem?_push,if_neg (by rw [b3,a3]; omega),b2 k h2,a2 k h1]
 have q0 : w3.heap[w.heap.size]? = some (.cells #[.slice none 0 0] 22 (0,0)) := by rw [qa _ (by omega) (by omega) (by omega)]; exact m0
 have q1 : w3.heap[w.heap.size + 1]? = some (.cells #[.int .i64 0] 3 (0,0)) := by
   rw [e3,Array.getElem?_push,if_neg (by rw [b3,a3]; omega),b2 _ (by omega)]; exact a1
 have q2 : w3.heap[w.heap.size + 1 + 1]? = some (.cells #[.int .i64 0] 24 (0,0)) := by
   rw [e3,Array.getElem?_push,if_neg (by rw [b3,a3]; omega)]; exact b1
 have q3 : w3.heap[w2.heap.size]? = some (.cells #[.slice p n c,.int .i64 0,.slice none 0 0] 126 (0,0)) := by
   rw [e3,Array.getElem?_push,if_pos (by rw [b3,a3])]
 have ud : ∀ b o,σ2 b = some o → b < w2.heap.size := fun b o hb => (Array.getElem?_eq_some_iff.1 (hf.sat b o hb)).1
 have hp2 : σ2 w2.heap.size = none := by
   cases h : σ2 w2.heap.size with
   | none => rfl
   | some o => have := ud _ o h; omega
 have hF1 : ∀ k,F1 k → k < w2.heap.size ∧ σ2 k = none := fun k hk => ⟨by
   rcases hk with hk | hk
   · have := (hF k hk).1; omega
   · omega,(hf.Ba k hk).1⟩
 have ABk : n ≤ c := by
   obtain ⟨⟨_,cs,h1,_⟩,_⟩ := ho
   exact A9.cap h1
 have hu : DQ σ2 σ2 w2.heap.size p n c none 0 0 ts [] := ⟨hp2,(ho.rd W0.mono),ABk,AY.nil (.refl _)⟩
 have hpz := AIj f 0 0 ts (cl :: r) T hz (by decide) (by decide) (by decide) (by decide) hu (by omega) (R := fun e y => e = .returned (.tuple #[]) ∧ ∃ (ρ' : Hp) (p' q' : Option Addr) (n' c' m' e' : Nat),y = ρ'.set w2.heap.size (pO p' n' c' 0 q' m' e') ∧ DQ σ2 ρ' w2.heap.size p' n' c' q' m' e' (cl :: r) T) (fun ρ' p' q' n' c' m' e' Ct => ⟨rfl,ρ',p',q',n',c',m',e',rfl,by rw [List.nil_append] at Ct; exact Ct⟩)
 rw [N4,if_neg (by decide)] at hpz
 refine (hpz w3 F1 (fun b o hb => ?_) (fun k hk => ?_)).mono ?_
 · by_cases hbb : b = w2.heap.size
   · subst hbb
     rw [Hp.AB] at hb
     cases hb
     exact q3
   · rw [Hp.AI hbb] at hb
     have Pw := ud b o hb
     have hF' : ¬ (w.heap.size ≤ b ∧ b < w.heap.size + 3) := fun hh => by
       have := (hf.Ba b (.inr hh)).1
       rw [this] at hb; cases hb
     rw [qa b Pw (by omega) (by omega)]
     exact hf.sat b o hb
 · have := hF1 k hk
   exact ⟨by omega,by rw [Hp.AI (by omega)]; exact this.2⟩
 rintro e w4 ⟨σ4,⟨rfl,ρ',p',q',n',c',m',e',rfl,Ct⟩,Zu⟩
 refine ⟨rfl,?_⟩
 refine ((C7 (d := 0) (R := fun e y => y = ρ'.set w2.heap.size (pO p' n' c' 0 q' m' e') ∧ ∃ a : Int,e = .returned (.agg #[.int .i64 0,.int .i64 a,.string cl.text,.int .i64 cl.span])) Ct (fun a => ⟨rfl,a,by rw [hk]⟩)) w4 F1 Zu.sat (fun k hk => ⟨by have := hF1 k hk; have := Zu.grow; omega,(Zu.Ba k hk).1⟩)).mono ?_
 rintro e w5 ⟨σ5,⟨rfl,a,rfl⟩,uo⟩
 have hg : ∀ k,F1 k → w5.heap[k]? = w3.heap[k]? := fun k hk => ((uo.Ba k hk).2).trans (Zu.Ba k hk).2
 have x0 := (hg _ (.inr ⟨by omega,by omega⟩)).trans q0
 have x1 := (hg _ (.inr ⟨by omega,by omega⟩)).trans q1
 have x2 := (hg _ (.inr ⟨by omega,by omega⟩)).trans q2
 have x3 := uo.sat w2.heap.size _ (Hp.AB _ _ _)
 refine ⟨a,cl.span,cl.text,p',n',c',q',m',e',rfl,x0,x1,x2,x3,ρ',hR ρ' q' m' e' (Ct.out.rd Mn.mono) ?_,?_⟩
 · exact (ho.up).trans Ct.out.up
 · obtain ⟨y1,y2,y3⟩ := Ce (v := .slice q' m' e') x0
   have x1' := x1
   rw [← y2 _ (by omega)] at x1'
   obtain ⟨z1,z2,z3⟩ := Ce (v := .int .i64 0) x1'
   have x2' := x2
   rw [← y2 _ (by omega),← z2 _ (by omega)] at x2'
   obtain ⟨v1,v2,v3⟩ := Ce (v := .int .i64 0) x2'
   have same : ∀ k,k ≠ w.heap.size → k ≠ w.heap.size + 1 → k ≠ w.heap.size + 1 + 1 → (((w5.setCell ⟨w.heap.size,0,none⟩ (.slice q' m' e')).setCell ⟨w.heap.size + 1,0,none⟩ (.int .i64 0)).setCell ⟨w.heap.size + 1 + 1,0,none⟩ (.int .i64 0)).heap[k]? = w5.heap[k]? := fun k h1 h2 h3 => by
     rw [v2 k h3,z2 k h2,y2 k h1]
   refine ⟨fun b o hb => ?_,fun k hk => ?_,?_,?_,?_⟩
   · have Az : ∀ j,F1 j → b ≠ j := fun j hj e => by
       have := (Zu.Ba j hj).1
       have h5 : (ρ'.set w2.heap.size (pO p' n' c' 0 q' m' e')) b = some o := by rw [Hp.AI (fun e' => by rw [e',Ct.pb] at hb; cases hb)]; exact hb
       rw [e,this] at h5; cases h5
     rw [same b (Az _ (.inr ⟨by omega,by omega⟩)) (Az _ (.inr ⟨by omega,by omega⟩)) (Az _ (.inr ⟨by omega,by omega⟩))]
     exact uo.sat b o (by rw [Hp.AI (fun e' => by rw [e',Ct.pb] at hb; cases hb)]; exact hb)
   · have Hn := hF k hk
     have h5 := (uo.Ba k (.inl hk)).1
     refine ⟨?_,?_⟩
     · by_cases M3 : k = w2.heap.size
       · omega
       · rw [Hp.AI M3] at h5; exact h5
     · rw [same k (by omega) (by omega) (by omega),hg k (.inl hk),qa k (by omega) (by omega) (by omega),(hf.Ba k (.inl hk)).2,hold k Hn.1]
   · exact (Cf.same az.1 az.2.1 az.2.2.1).trans (hf.os.trans ((Cf.same FV.1 FV.2.1 FV.2.2.1).trans (Zu.os.trans (uo.os.trans (Cf.same rfl rfl rfl)))))
   · exact uo.out.trans (Zu.out.trans (FV.2.2.2.trans (hf.out.trans az.2.2.2)))
   · rw [v3,z3,y3]
     have := uo.grow
     have := Zu.grow
     omega
end TwW
end
section
namespace TwW
open Go Tw Go.RowKit Go.Proofs.Tryz
def dH (u : UInt8) : Bool := decide (97 ≤ u.toNat ∧ u.toNat ≤ 122)
def TV (s : ByteArray) : Bool := s.data.toList.all dH && (decide (s ≠ ⟨#[]⟩) && (decide (s.size < 60) && !MV s))
theorem Zj {s : ByteArray} : ∀ {l : List ByteArray} {k : Nat},0 < k → (0 < Wa l s k ↔ s ∈ l ∧ s ≠ ⟨#[]⟩)
 | [],k,_ => by simp [Wa]
 | x :: l,k,hk => by
   unfold Wa
   by_cases h : x = s ∧ s ≠ ⟨#[]⟩
   · rw [if_pos h]
     exact ⟨fun _ => ⟨by rw [h.1]; exact List.mem_cons_self ..,h.2⟩,fun _ => hk⟩
   · rw [if_neg h,Zj (Nat.succ_pos k),List.mem_cons]
     constructor
     · rintro ⟨h1,h2⟩; exact ⟨.inr h1,h2⟩
     · rintro ⟨h1 | h1,h2⟩
       · exact absurd ⟨h1.symm,h2⟩ h
       · exact ⟨h1,h2⟩
theorem TW {s : ByteArray} {l : List ByteArray} : 0 < Ga (⟨#[]⟩ :: l) s ↔ s ∈ l ∧ s ≠ ⟨#[]⟩ := by
 unfold Ga Wa
 rw [if_neg (by rintro ⟨rfl,h⟩; exact h rfl)]
 exact Zj (by decide)
section
variable {σ : Hp} {R : Rr}
theorem JI {l : List ByteArray} {s : ByteArray} {pt : Option Addr} {k j : Nat} (hr : Ez 1 σ pt k (l.map .string)) (hR : ∀ i : Int,(0 ≤ i ↔ s ∈ l) → R (.returned (.int .i64 i)) σ) : Spec prog 60 #[.slice pt k j,.string s] σ R := by
 have hl : l.length = k := by have := hr.1; simpa using this
 have Ho : k ≤ 4611686018427387904 := hr.2.1
 refine Fm.start ?_
 suffices H : ∀ g i : Nat,k - i = g → i ≤ k → s ∉ l.take i → Fm.Gf R pt k j s i σ from H k 0 rfl (Nat.zero_le _) (by simp)
 intro g
 induction g with
 | zero =>
   intro i hg hi he
   rw [List.take_of_length_le (by omega)] at he
   exact Fm.BA ⟨fun An => by omega,fun _ => hR _ ⟨fun hh => by omega,fun hh => absurd hh he⟩⟩
 | succ g ih =>
   intro i hg hi he
   have BN : i < k := by omega
   obtain ⟨x,hx⟩ : ∃ x,l[i]? = some x := ⟨_,List.getElem?_eq_getElem (by omega)⟩
   obtain ⟨b,o,rfl,ES⟩ := Ez.at1 hr (k := i) (v := .string x) (by simp [hx])
   refine Fm.BA ⟨fun _ => ⟨b,o,rfl,by omega,x,by simpa using ES,fun ht => ?_,fun hf => ⟨AK BN Ho,ih (i + 1) (by omega) (by omega) ?_⟩⟩,fun hh => by omega⟩
   · rw [Sl,decide_eq_true_eq] at ht
     exact hR _ ⟨fun _ => by rw [← ht]; exact List.mem_of_getElem? hx,fun _ => by omega⟩
   · rw [Sl,decide_eq_false_iff_not] at hf
     rw [AZ hx,List.mem_append,List.mem_singleton]
     rintro (hh | hh)
     · exact he hh
     · exact hf hh.symm
theorem Zk {s : ByteArray} (hs : s ≠ ⟨#[]⟩) (hR : ∀ σ',Ext σ σ' → R (.returned (.bool (MV s))) σ') : Spec prog 42 #[.string s] σ R := by
 have e1 : ZY = ⟨#[]⟩ :: ZY.tail := rfl
 have e2 : ZZ = ⟨#[]⟩ :: ZZ.tail := rfl
 have k1 : decide (0 < Ga ZY s) = Da s ZY.tail := by
   rw [Bool.eq_iff_iff,decide_eq_true_eq,BE,e1,TW]
   exact ⟨fun h => h.1,fun h => ⟨h,hs⟩⟩
 have k2 : decide (0 < Ga ZZ s) = Da s ZZ.tail := by
   rw [Bool.eq_iff_iff,decide_eq_true_eq,BE,e2,TW]
   exact ⟨fun h => h.1,fun h => ⟨h,hs⟩⟩
 unfold MV at hR
 rw [k1,k2] at hR
 refine Rb.start (PN.start fun b1 T8 => ⟨_,_,_,rfl,?_⟩)
 have x1 := Ext.set (o := .cells (ZY.tail.map Value.string).toArray 9 (0,0)) T8
 refine JI (l := ZY.tail) (O5 (l := ZY.tail) (Hp.AB _ _ _) (by decide)) fun i hi => ⟨_,rfl,fun h0 => ?_,fun h0 => SX.start fun b2 Pw => ⟨_,_,_,rfl,?_⟩⟩
 · have := hR _ x1
   rw [BE.2 (hi.1 h0),Bool.or_true,Bool.true_or] at this
   exact this
 have n1 : Da s ZY.tail = false := by
   rw [Bool.eq_false_iff,ne_eq,BE]; exact fun h => h0 (hi.2 h)
 have x2 := x1.trans (Ext.set (o := .cells (ZZ.tail.map Value.string).toArray 9 (0,0)) Pw)
 refine JI (l := ZZ.tail) (O5 (l := ZZ.tail) (Hp.AB _ _ _) (by decide)) fun i hi => ⟨_,rfl,fun h0 => ?_,fun h0 b3 Z3 => ?_⟩
 · have := hR _ x2
   rw [BE.2 (hi.1 h0),Bool.or_true] at this
   exact this
 have n2 : Da s ZZ.tail = false := by
   rw [Bool.eq_false_iff,ne_eq,BE]; exact fun h => h0 (hi.2 h)
 have x3 := x2.trans (Ext.set (o := .cells (QK.map Value.string).toArray 9 (0,0)) Z3)
 refine JI (l := QK) (O5 (l := QK) (Hp.AB _ _ _) (by decide)) fun i hi => ⟨_,rfl,?_⟩
 have := hR _ x3
 rw [n1,n2,Bool.or_false,Bool.or_false] at this
 dsimp only
 rw [show decide (0 ≤ i) = Da s QK by rw [Bool.eq_iff_iff,decide_eq_true_eq,BE]; exact hi]
 exact this
theorem Zl {s : ByteArray} (hb : s.size ≤ 4611686018427387904) (hR : ∀ σ',Ext σ σ' → R (.returned (.bool (TV s))) σ') : Spec prog 19 #[.string s] σ R := by
 refine Fg.start (fB (ok := dH) (pt := fun i => Fg.Gf R s i σ) (G := fun b => ∀ σ',Ext σ σ' → R (.returned (.bool (b && (decide (s ≠ ⟨#[]⟩) && (decide (s.size < 60) && !MV s))))) σ') (fun h => ?_) (fun k u hk hu h64 h1 h2 => ?_) hR hb)
 · refine Fg.BA ⟨fun hh => by omega,fun _ => ⟨fun hf => ⟨fun h6 => ?_,fun h6 => ?_⟩,fun ht => ?_⟩⟩
   · rw [Sl,decide_eq_false_iff_not] at hf
     refine Zk hf fun σ' hx => ⟨_,rfl,?_⟩
     have := h σ' hx
     rw [decide_eq_true hf,decide_eq_true (show s.size < 60 by omega)] at this
     exact this
   · have := h σ (.refl _)
     rw [decide_eq_false (show ¬ s.size < 60 by omega),Bool.false_and,Bool.and_false,Bool.and_false] at this
     exact this
   · rw [Sl,decide_eq_true_eq] at ht
     have := h σ (.refl _)
     rw [decide_eq_false (show ¬ s ≠ ⟨#[]⟩ from fun hh => hh ht),Bool.false_and,Bool.and_false] at this
     exact this
 · have no : dH u = false → R (.returned (.bool false)) σ := fun hl => by
     have := h2 hl σ (.refl _)
     exact this
   refine Fg.BA ⟨fun _ => ⟨u,by omega,hu,fun h97 => no (decide_eq_false (by omega)),fun h97 => ⟨u,by omega,hu,fun AO8 => no (decide_eq_false (by omega)),fun AO8 => ⟨h64,h1 (decide_eq_true (by omega))⟩⟩⟩,fun hh => by omega⟩
end
def Ia (s : ByteArray) : Cl := { kind := 3,text := s,span := 0,op := 0,fn := 0,ag := 0,kept := false,big := false,name := true,lp := false,rp := false,comma := false,lsq := false,rsq := false,lbr := false,minus := false,bool := false,on := false,ign := false,j2 := false,out := false,off := false }
theorem Qk {s : ByteArray} (h : TV s = true) : (∀ u ∈ s.data.toList,dH u = true) ∧ s ≠ ⟨#[]⟩ ∧ s.size < 60 ∧ MV s = false := by
 unfold TV at h
 rw [Bool.and_eq_true,Bool.and_eq_true,Bool.and_eq_true,List.all_eq_true,decide_eq_true_eq,decide_eq_true_eq] at h
 exact ⟨h.1,h.2.1,h.2.2.1,by simpa using h.2.2.2⟩
theorem Zm {s : ByteArray} (h : TV s = true) : ∃ c w,s.data.toList = c :: w := by
 cases hd : s.data.toList with
 | nil =>
   refine absurd ?_ (Qk h).2.1
   apply ByteArray.ext
   apply Array.toList_inj.1
   rw [hd]
 | cons c w => exact ⟨c,w,rfl⟩
theorem vF {s : ByteArray} (h : TV s = true) : Cd 3 s 0 = Ia s := by
 obtain ⟨h1,h2,h3,h4⟩ := Qk h
 obtain ⟨c,w,yG⟩ := Zm h
 have hk := h4
 unfold MV at hk
 rw [Bool.or_eq_false_iff,Bool.or_eq_false_iff,decide_eq_false_iff_not,decide_eq_false_iff_not] at hk
 have hm : ∀ x ∈ QK,¬ s = x := fun x hx e => by
   have : Da s QK = true := BE.2 (by rw [e]; exact hx)
   rw [hk.1.1] at this; cases this
 have FU : Ga u4 s = 0 := by
   have e : u4 = ⟨#[]⟩ :: u4.tail := rfl
   have : ¬ 0 < Ga u4 s := by
     rw [e,TW]
     rintro ⟨hx,_⟩
     have key : (u4.tail.all fun x => !x.data.toList.all dH || Da x QK) = true := by decide +kernel
     have hh := List.all_eq_true.1 key s hx
     rw [List.all_eq_true.2 h1] at hh
     exact hm s (BE.1 (by simpa using hh)) rfl
   omega
 have hln : DZ s = true := by
   have Hr : s.data.toList.length = s.size := rfl
   unfold DZ
   rw [yG] at Hr ⊢
   rw [List.length_cons] at Hr
   have hc : dH c = true := h1 c (by rw [yG]; exact List.mem_cons_self ..)
   have hc' : 97 ≤ c.toNat ∧ c.toNat ≤ 122 := of_decide_eq_true hc
   rw [decide_eq_true (show 0 < s.size by omega),decide_eq_true (show s.size ≤ 64 by omega)]
   simp only [List.head?_cons,Option.any_some,Bool.true_and,Bool.and_eq_true,Bool.not_eq_true',List.all_eq_true]
   refine ⟨decide_eq_false (by omega),fun u hu => ?_⟩
   have Ct : 97 ≤ u.toNat ∧ u.toNat ≤ 122 := of_decide_eq_true (h1 u (by rw [yG]; exact hu))
   exact decide_eq_true (by omega)
 have t5 : ∀ x,Ih 3 s 5 x = false := fun x => by unfold Ih; rw [decide_eq_false (by decide),Bool.false_and]
 have t3 : ∀ x ∈ QK,Ih 3 s 3 x = false := fun x hx => by unfold Ih; rw [decide_eq_false (hm x hx),Bool.and_false]
 unfold Cd Ia
 rw [FU,show Ga ZY s = 0 by omega,show Ga ZZ s = 0 by omega,h4,hln,decide_eq_false (show ¬ 256 < s.size by omega),t5,t5,t5,t5,t5,t5,t5,t3 _ (BE.1 (by decide)),t3 _ (BE.1 (by decide)),t3 _ (BE.1 (by decide)),t3 _ (BE.1 (by decide)),t3 _ (BE.1 (by decide)),t3 _ (BE.1 (by decide))]
 rfl
theorem fi {u : UInt8} (h : dH u = true) : N5 u = true ∧ Bq u = false ∧ Mx u = true := by
 have h' : 97 ≤ u.toNat ∧ u.toNat ≤ 122 := of_decide_eq_true h
 have h1 : N5 u = true := decide_eq_true (.inl h')
 exact ⟨h1,decide_eq_false (by omega),by unfold Mx; rw [h1]; rfl⟩
theorem Lx.w {s : ByteArray} {l : List UInt8} {ts : List Cl} (hp : TV s = true) (hl : ∀ u,l.head? = some u → Mx u = false) (h : Lx l ts) : Lx (s.data.toList ++ l) (Ia s :: ts) := by
 obtain ⟨c,w,yG⟩ := Zm hp
 have h1 := (Qk hp).1
 have hb : bA (c :: w) = s := by
   apply ByteArray.ext
   apply Array.toList_inj.1
   rw [yG]; rfl
 have hc := fi (h1 c (by rw [yG]; exact List.mem_cons_self ..))
 have := Lx.word (c := c) (w := w) hc.1 hc.2.1 (fun u hu => (fi (h1 u (by rw [yG]; exact List.mem_cons_of_mem _ hu))).2.2) hl h
 rw [hb,vF hp] at this
 rw [yG]; exact this
def kwB (w : List UInt8) : Bool := match w with
 | [] => false
 | c :: w => N5 c && !Bq c && w.all Mx
theorem Lx.kw {l : List UInt8} {ts : List Cl} (w : List UInt8) (hw : kwB w = true) (hl : ∀ u,l.head? = some u → Mx u = false) (h : Lx l ts) : Lx (w ++ l) (Cd 3 (bA w) 0 :: ts) := by
 cases w with
 | nil => cases hw
 | cons c w =>
   unfold kwB at hw
   simp only [Bool.and_eq_true,Bool.not_eq_true',List.all_eq_true] at hw
   exact Lx.word hw.1.1 hw.1.2 hw.2 hl h
section
variable {σ : Hp} {R : Rr}
theorem qb {s : ByteArray} {ts r : List Cl} {T : List Nd} {f : Nat} {cl : Cl} {p : Option Addr} {n c : Nat} {ss : List Sr} {t : Int} (hg : Gl σ) (hs : Ad 2 Cq σ p n ss) (hS : yB ss) (hM : Modest T ss) (hT : T.length ≤ 1000000)
   (hl : Lx s.data.toList ts) (Hr : s.size ≤ 4096) (hn : ts.length ≤ 100000) (hz : pz f 0 0 ts = some (cl :: r,T)) (hk : cl.kind = 0)
   (h : ∀ (σ' : Hp) (p' : Option Addr) (n' c' : Nat),(instF T ss t).1 = 0 → Ad 2 Cq σ' p' n' ((instF T ss t).2.map fun e => ⟨e.ls,[(t,e.v)]⟩) → Ext σ σ' → R (.returned (.tuple #[.slice p' n' c',.int .i64 0])) σ')
   (h' : ∀ σ',(instF T ss t).1 ≠ 0 → Ext σ σ' → R (.returned (.tuple #[.slice none 0 0,.int .i64 (instF T ss t).1])) σ') :
   Spec prog 20 #[.string s,.slice p n c,.int .i64 t] σ R := by
 refine Uo.start (dG hl Hr hn hT hz hk fun σ1 p1 n1 c1 hr CH => ⟨_,_,_,_,_,rfl,fun hh => absurd rfl hh,fun _ => ?_⟩)
 refine WW (hs.mono Cq.mono CH) hS fun p2 c2 σ2 h2 A7 => ⟨_,_,_,rfl,?_⟩
 refine inst_spec (hg.mono (CH.trans A7)) (hr.mono Mn.mono A7) h2 hM (fun τ p' n' c' σ' bs h0 hA hx => ⟨_,_,_,_,rfl,?_⟩) fun σ' Az hx => ⟨_,_,_,_,rfl,?_⟩
 · exact h σ' p' n' c' h0 hA.rd ((CH.trans A7).trans (hx.trans hA.ext))
 · exact h' σ' Az ((CH.trans A7).trans hx)
end
end TwW
end
section
namespace TwW
open Go Tw Go.RowKit Go.Proofs.Tryz
def cnV (v : Int) : Prop := (Jg v.toNat = false ∧ 0 ≤ v) ∨ v = 9221120237041090560
def AIo (l : List El) : Prop := l.Pairwise fun a b => CY a.ls b.ls < 0
def ElS (ss : List Sr) (e : El) : Prop := Sm e.ls = 0 ∧ (cnV e.v ∨ ∃ s ∈ ss,∃ p ∈ s.ps,p.2 = e.v)
structure VS (ss : List Sr) (x : Vv) : Prop where
 el : ∀ e ∈ x.vec,ElS ss e
 up : AIo x.vec
 rg : ∀ r ∈ x.OT,Sm r.ls = 0
 one : x.kind = 1 → cnV x.v
end TwW
end
section
namespace TwW
open Ieee
theorem My {m k : Nat} (hm : m ≠ 0) : (m * 2 ^ k).log2 = m.log2 + k := by
 have h0 : m * 2 ^ k ≠ 0 := Nat.mul_ne_zero hm (Nat.pos_iff_ne_zero.1 (Nat.pow_pos (by decide)))
 apply Nat.le_antisymm
 · have := (Nat.log2_lt h0 (k := m.log2 + k + 1)).2 (by
     rw [show m.log2 + k + 1 = (m.log2 + 1) + k by omega,Nat.pow_add]
     exact Nat.mul_lt_mul_of_pos_right Nat.lt_log2_self (Nat.pow_pos (by decide)))
   omega
 · rw [Nat.le_log2 h0,Nat.pow_add]
   exact Nat.mul_le_mul_right _ (Nat.log2_self_le hm)
theorem TX (w : Toward) (s : Bool) (n : Nat) : w.cut s n 0 = n := by
 unfold Toward.cut
 simp only [Nat.zero_min,Nat.shiftLeft_zero,Nat.div_one,Nat.mod_one]
 cases w <;> simp
theorem jb {s : Bool} {q d : Nat} (hq : q ≠ 0) : Toward.even.cut s (q * 2 ^ d) d = q := by
 have hp : 0 < 2 ^ d := Nat.pow_pos (by decide)
 unfold Toward.cut
 rw [My hq,Nat.min_eq_left (by omega),Nat.one_shiftLeft]
 simp only [Nat.mul_div_cancel _ hp,Nat.mul_mod_left]
 have : (2 ^ d == 2 * 0) = false := by
   rw [beq_eq_false_iff_ne]; omega
 simp [this]
theorem jc {s : Bool} {m d k : Nat} (hm : m ≠ 0) : Toward.even.cut s (m * 2 ^ k) (d + k) = Toward.even.cut s m d := by
 have hk : 0 < 2 ^ k := Nat.pow_pos (by decide)
 unfold Toward.cut
 rw [My hm,show min (d + k) (m.log2 + k + 2) = min d (m.log2 + 2) + k by omega]
 generalize min d (m.log2 + 2) = g
 rw [Nat.one_shiftLeft,Nat.one_shiftLeft,Nat.pow_add]
 have hg : 0 < 2 ^ g := Nat.pow_pos (by decide)
 have e1 : m * 2 ^ k / (2 ^ g * 2 ^ k) = m / 2 ^ g := Nat.mul_div_mul_right _ _ hk
 have e2 : m * 2 ^ k % (2 ^ g * 2 ^ k) = m % 2 ^ g * 2 ^ k := Nat.mul_mod_mul_right _ _ _
 simp only [e1,e2]
 have e3 : decide (2 ^ g * 2 ^ k < 2 * (m % 2 ^ g * 2 ^ k)) = decide (2 ^ g < 2 * (m % 2 ^ g)) := decide_eq_decide.2 (by
   rw [← Nat.mul_assoc]; exact Nat.mul_lt_mul_right hk)
 have e4 : (2 ^ g * 2 ^ k == 2 * (m % 2 ^ g * 2 ^ k)) = (2 ^ g == 2 * (m % 2 ^ g)) := by
   rw [← Nat.mul_assoc,Bool.eq_iff_iff,beq_iff_eq,beq_iff_eq]
   exact Nat.mul_left_inj (Nat.pos_iff_ne_zero.1 hk)
 rw [e3,e4]
theorem lp : double.leastPlace = -1074 := rfl
theorem fb : ((double.fractionBits : Nat) : Int) = 52 := by kernel_rfl
theorem UC {s : Bool} {m k : Nat} {p : Int} : double.nearest s (m * 2 ^ k) (p - k) = double.nearest s m p := by
 by_cases hm : m = 0
 · subst hm; rw [Nat.zero_mul]; unfold Format.nearest; simp
 have ji : m * 2 ^ k ≠ 0 := Nat.mul_ne_zero hm (Nat.pos_iff_ne_zero.1 (Nat.pow_pos (by decide)))
 unfold Format.nearest
 rw [if_neg hm,if_neg ji,My hm,show p - (k : Int) + ((m.log2 + k : Nat) : Int) - ((double.fractionBits : Nat) : Int) = p + (m.log2 : Nat) - ((double.fractionBits : Nat) : Int) by omega]
 generalize max (p + (m.log2 : Nat) - ((double.fractionBits : Nat) : Int)) double.leastPlace = L
 have key : Toward.even.cut s ((m * 2 ^ k) <<< (p - k - L).toNat) (L - (p - k)).toNat = Toward.even.cut s (m <<< (p - L).toNat) (L - p).toNat := by
   by_cases h1 : L ≤ p
   · have e0 : (L - p).toNat = 0 := by omega
     rw [e0,TX,Nat.shiftLeft_eq,Nat.shiftLeft_eq]
     by_cases h2 : L ≤ p - k
     · rw [show (L - (p - k)).toNat = 0 by omega,TX,Nat.mul_assoc,← Nat.pow_add]
       congr 2; omega
     · rw [show (p - k - L).toNat = 0 by omega,Nat.pow_zero,Nat.mul_one]
       have : m * 2 ^ k = m * 2 ^ (p - L).toNat * 2 ^ (L - (p - k)).toNat := by
         rw [Nat.mul_assoc,← Nat.pow_add]
         congr 2; omega
       rw [this,jb (Nat.mul_ne_zero hm (Nat.pos_iff_ne_zero.1 (Nat.pow_pos (by decide))))]
   · rw [show (p - k - L).toNat = 0 by omega,show (p - L).toNat = 0 by omega,Nat.shiftLeft_zero,Nat.shiftLeft_zero,show (L - (p - k)).toNat = (L - p).toNat + k by omega,jc hm]
 dsimp only
 rw [key]
def Hc (n : Int) : Nat := double.nearest (decide (n < 0)) n.natAbs 0
theorem Ln {n : Int} (hn : n.natAbs < 9007199254740992) : ∃ k : Nat,double.read (Hc n) = .number (decide (n < 0)) (n.natAbs * 2 ^ k) (0 - (k : Int)) := by
 have e1 : double.signWeight = 9223372036854775808 := by kernel_rfl
 have e2 : double.binade = 4503599627370496 := by kernel_rfl
 have e3 : double.infRung = 9218868437227405312 := by kernel_rfl
 by_cases h0 : n = 0
 · subst h0
   obtain ⟨kq,hkq⟩ : ∃ k : Nat,(k : Int) = 1074 := ⟨1074,rfl⟩
   refine ⟨kq,?_⟩
   have : Hc 0 = 0 := by unfold Hc Format.nearest; rfl
   rw [this]
   have : double.read 0 = .number false 0 (-1074) := by kernel_rfl
   rw [this,show (0 : Int).natAbs = 0 from rfl,Nat.zero_mul,hkq]; rfl
 · have hm : n.natAbs ≠ 0 := by omega
   have hl : n.natAbs.log2 < 53 := (Nat.log2_lt hm).2 (by omega)
   have hle := Nat.log2_self_le hm
   have An := Nat.lt_log2_self (n := n.natAbs)
   have hz : n.natAbs * 2 ^ (52 - n.natAbs.log2) < 9007199254740992 ∧ 4503599627370496 ≤ n.natAbs * 2 ^ (52 - n.natAbs.log2) := by
     constructor
     · have h2 := Nat.mul_lt_mul_of_pos_right An (Nat.pow_pos (n := 52 - n.natAbs.log2) (show 0 < 2 by decide))
       rw [← Nat.pow_add,show n.natAbs.log2 + 1 + (52 - n.natAbs.log2) = 53 by omega] at h2
       exact h2
     · have h2 := Nat.mul_le_mul_right (2 ^ (52 - n.natAbs.log2)) hle
       rw [← Nat.pow_add,show n.natAbs.log2 + (52 - n.natAbs.log2) = 52 by omega] at h2
       exact h2
   refine ⟨52 - n.natAbs.log2,?_⟩
   have hf : Hc n = double.word (decide (n < 0)) ((1022 + n.natAbs.log2) * 4503599627370496 + n.natAbs * 2 ^ (52 - n.natAbs.log2)) := by
     unfold Hc Format.nearest
     rw [if_neg hm,lp,fb]
     dsimp only
     rw [show max ((0 : Int) + (n.natAbs.log2 : Nat) - 52) (-1074) = (n.natAbs.log2 : Nat) - 52 by omega,show ((0 : Int) - ((n.natAbs.log2 : Nat) - 52)).toNat = 52 - n.natAbs.log2 by omega,show (((n.natAbs.log2 : Nat) : Int) - 52 - 0).toNat = 0 by omega,TX,Nat.shiftLeft_eq,e2,e3,show ((((n.natAbs.log2 : Nat) : Int) - 52) - -1074).toNat = 1022 + n.natAbs.log2 by omega,Nat.min_eq_left (by omega)]
   rw [hf]
   generalize n.natAbs * 2 ^ (52 - n.natAbs.log2) = M at *
   generalize hg : n.natAbs.log2 = g at *
   have hw : ∀ s,double.word s ((1022 + g) * 4503599627370496 + M) % 9223372036854775808 = (1022 + g) * 4503599627370496 + M ∧ (double.word s ((1022 + g) * 4503599627370496 + M) / 9223372036854775808 % 2 == 1) = s := by
     intro s
     unfold Format.word
     rw [e1]
     cases s
     · rw [if_neg (by decide)]; refine ⟨by omega,?_⟩; rw [beq_eq_false_iff_ne]; omega
     · rw [if_pos rfl]; refine ⟨by omega,?_⟩; rw [beq_iff_eq]; omega
   unfold Format.read
   simp only [e1,e2,e3]
   rw [(hw _).1,(hw _).2,if_neg (by omega),if_pos (by omega),lp]
   congr 1
   · omega
   · omega
theorem fj {s : Bool} {m u : Nat} : signed s m u = (if s then -1 else 1) * ((m : Int) * 2 ^ u) := by
 unfold signed
 rw [Nat.shiftLeft_eq]
 cases s <;> simp
theorem ACV {a b : Int} {i j : Nat} {s t : Bool} (ha : s = decide (a < 0)) (hb : t = decide (b < 0) ∨ (b = 0)) (hz : a + b ≠ 0 ∨ (s && t) = false) :
   (Datum.sum (.number s (a.natAbs * 2 ^ i) (0 - (i : Int))) (.number t (b.natAbs * 2 ^ j) (0 - (j : Int)))).map double.write = some (Hc (a + b)) := by
 simp only [Datum.sum,Option.map_some,Format.write,Option.some.injEq]
 have TL : min ((0 : Int) - (i : Int)) (0 - (j : Int)) = 0 - ((max i j : Nat) : Int) := by omega
 rw [TL,show ((0 : Int) - (i : Int) - (0 - ((max i j : Nat) : Int))).toNat = max i j - i by omega,show ((0 : Int) - (j : Int) - (0 - ((max i j : Nat) : Int))).toNat = max i j - j by omega]
 have hx : ∀ (c : Int) (u : Bool) (k : Nat),k ≤ max i j → (u = decide (c < 0) ∨ c = 0) → signed u (c.natAbs * 2 ^ k) (max i j - k) = c * 2 ^ (max i j) := fun c u k hk hu => by
   rw [fj]
   push_cast
   rw [Int.mul_assoc,← Int.pow_add,show k + (max i j - k) = max i j by omega,← Int.mul_assoc]
   congr 1
   rcases hu with rfl | rfl
   · by_cases hc : c < 0
     · rw [decide_eq_true hc,if_pos rfl]; omega
     · rw [decide_eq_false hc,if_neg (by decide)]; omega
   · simp
 rw [hx a s i (by omega) (.inl ha),hx b t j (by omega) hb,← Int.add_mul]
 have hp : (0 : Int) < 2 ^ max i j := Int.pow_pos (by decide)
 by_cases h0 : a + b = 0
 · rw [h0,Int.zero_mul,if_pos rfl]
   rcases hz with hz | hz
   · exact absurd h0 hz
   · rw [hz]; unfold Hc Format.nearest; simp
 · have Az : (a + b) * 2 ^ max i j ≠ 0 := Int.mul_ne_zero h0 (by omega)
   rw [if_neg Az]
   have hs : decide ((a + b) * 2 ^ max i j < 0) = decide (a + b < 0) := decide_eq_decide.2 ⟨fun h => by
     apply Decidable.byContradiction
     intro hc
     have := Int.mul_nonneg (show 0 ≤ a + b by omega) (Int.le_of_lt hp)
     omega,fun h => Int.mul_neg_of_neg_of_pos h hp⟩
   rw [hs,Int.natAbs_mul,show ((2 : Int) ^ max i j).natAbs = 2 ^ max i j by rw [Int.natAbs_pow]; rfl,UC]
   rfl
theorem qc {a b : Int} (ha : a.natAbs < 9007199254740992) (hb : b.natAbs < 9007199254740992) : double.add (Hc a) (Hc b) = some (Hc (a + b)) := by
 obtain ⟨i,hi⟩ := Ln ha
 obtain ⟨j,hj⟩ := Ln hb
 unfold Format.add
 rw [hi,hj]
 refine ACV rfl (.inl rfl) ?_
 by_cases h : a + b = 0
 · right
   by_cases h1 : a < 0
   · rw [decide_eq_false (show ¬ b < 0 by omega),Bool.and_false]
   · rw [decide_eq_false h1,Bool.false_and]
 · exact .inl h
theorem Zn {a b : Int} (ha : a.natAbs < 9007199254740992) (hb : b.natAbs < 9007199254740992) : double.order (Hc a) (Hc b) = some (compare a b) := by
 obtain ⟨i,hi⟩ := Ln ha
 obtain ⟨j,hj⟩ := Ln hb
 unfold Format.order
 rw [hi,hj]
 simp only [Datum.order,Option.some.injEq]
 have TL : min ((0 : Int) - (i : Int)) (0 - (j : Int)) = 0 - ((max i j : Nat) : Int) := by omega
 rw [TL,show ((0 : Int) - (i : Int) - (0 - ((max i j : Nat) : Int))).toNat = max i j - i by omega,show ((0 : Int) - (j : Int) - (0 - ((max i j : Nat) : Int))).toNat = max i j - j by omega]
 have hx : ∀ (c : Int) (k : Nat),k ≤ max i j → signed (decide (c < 0)) (c.natAbs * 2 ^ k) (max i j - k) = c * 2 ^ (max i j) := fun c k hk => by
   rw [fj]
   push_cast
   rw [Int.mul_assoc,← Int.pow_add,show k + (max i j - k) = max i j by omega,← Int.mul_assoc]
   congr 1
   by_cases hc : c < 0
   · rw [decide_eq_true hc,if_pos rfl]; omega
   · rw [decide_eq_false hc,if_neg (by decide)]; omega
 rw [hx a i (by omega),hx b j (by omega)]
 have hp : (0 : Int) < 2 ^ max i j := Int.pow_pos (by decide)
 rcases Int.lt_trichotomy a b with h | h | h
 · rw [Int.compare_eq_lt.2 h,Int.compare_eq_lt.2 (Int.mul_lt_mul_of_pos_right h hp)]
 · subst h; rw [Int.compare_eq_eq.2 rfl,Int.compare_eq_eq.2 rfl]
 · rw [Int.compare_eq_gt.2 h,Int.compare_eq_gt.2 (Int.mul_lt_mul_of_pos_right h hp)]
end TwW
end
section
namespace TwW
open Go Tw
theorem ACW {w : ByteArray} {ss : List Sr} {t : Int} {e : El} (h : e ∈ BZ FF (Av w) ss t) : ∃ s ∈ ss,s.ls = e.ls ∧ Dk e.ls DT = w ∧ ∃ p ∈ s.ps,p.2 = e.v := by
 obtain ⟨s,hs,h1⟩ := List.mem_filterMap.1 h
 split at h1
 · cases h1
 · rename_i p hl
   split at h1
   · cases h1
   · rename_i hn
     simp only [Option.some.injEq] at h1
     subst h1
     refine ⟨s,hs,rfl,?_,p,(List.mem_filter.1 (List.mem_of_getLast? hl)).1,rfl⟩
     simp only [not_or,Bool.not_eq_false] at hn
     have h2 : Jb [⟨1,DT,w⟩] s.ls = true := hn.2
     unfold Jb at h2
     simp only [List.all_cons,List.all_nil,Bool.and_true] at h2
     unfold Nj at h2
     simp only [if_true,decide_eq_true_eq] at h2
     exact h2
theorem qd {w : ByteArray} {T : List Nd} {st : List Int} (hw : w.size ≤ 256) : C6 (Av w :: T) st = C6 T (st ++ [2]) := by
 have hf : FA (Av w) = true := by kernel_rfl
 have hm : G8 DZ (Av w).mt = 0 := by
   show G8 DZ [⟨1,DT,w⟩] = 0
   unfold G8
   simp only [List.length_singleton,List.all_cons,List.all_nil,Bool.and_true]
   rw [if_neg (by decide),if_pos]
   rw [show DZ DT = true by decide,decide_eq_true hw]; rfl
 have hs : BP (Av w) st = (0,st ++ [2]) := by
   unfold BP
   rw [if_neg (by rw [hf]; simp [Av]),if_neg (by rw [hm]; decide)]
   simp [Av,OE]
 rw [C6,hs]
 rfl
theorem fk {w : ByteArray} {ss : List Sr} {t : Int} {T : List Nd} {st : List Vv} : JA FF ss t (Av w :: T) st = JA FF ss t T (st ++ [⟨2,0,BZ FF (Av w) ss t,[]⟩]) := by
 rw [JA]
 have : Dz FF ss t (Av w) (st.drop (st.length - (Av w).parts.toNat)) = some ⟨2,0,BZ FF (Av w) ss t,[]⟩ := by
   unfold Dz; rfl
 rw [this,Option.bind_some,show (Av w).parts.toNat = 0 from rfl,Nat.sub_zero,List.take_length]
theorem inst_ok {T : List Nd} {ss : List Sr} {t : Int} (h : (instF T ss t).1 = 0) : HM none ss = true ∧ A1 FF T ss t = some (instF T ss t).2 := by
 unfold instF at h ⊢
 by_cases h0 : FC T ss ≠ 0
 · rw [if_pos h0] at h; exact absurd h h0
 rw [if_neg h0] at h ⊢
 by_cases ht : ¬ (-1099511627776 ≤ t ∧ t ≤ 1099511627776)
 · rw [if_pos ht] at h; exact absurd h (by decide)
 rw [if_neg ht] at h ⊢
 have D1 : HM none ss = true := by
   have h0 := Decidable.not_not.1 h0
   unfold FC at h0
   cases hq : IV T with
   | none => rw [hq] at h0; dsimp only at h0; exact absurd h0 (by decide)
   | some k =>
     rw [hq] at h0
     dsimp only at h0
     by_cases h3 : k = 3
     · rw [if_pos h3] at h0; exact absurd h0 (by decide)
     · rw [if_neg h3] at h0
       cases ho : HM none ss with
       | true => rfl
       | false => rw [ho] at h0; exact absurd h0 (by decide)
 cases hm : A1 FF T ss t with
 | none => rw [hm] at h; exact absurd h (by decide)
 | some l => exact ⟨D1,rfl⟩
theorem Wc {w : ByteArray} {ss : List Sr} {t : Int} {op : Nat} {g : Int} {ns : List ByteArray} : A1 FF [Av w,Ae op g ns] ss t = Bu FF (HK FF (Ae op g ns) ⟨2,0,BZ FF (Av w) ss t,[]⟩) := by
 unfold A1
 rw [fk,List.nil_append,JA]
 have : Dz FF ss t (Ae op g ns) ([(⟨2,0,BZ FF (Av w) ss t,[]⟩ : Vv)].drop (1 - (Ae op g ns).parts.toNat)) = (Bu FF (HK FF (Ae op g ns) ⟨2,0,BZ FF (Av w) ss t,[]⟩)).map fun l => ⟨2,0,l,[]⟩ := by
   unfold Dz; rfl
 show (Option.bind ((Dz FF ss t (Ae op g ns) ([(⟨2,0,BZ FF (Av w) ss t,[]⟩ : Vv)].drop (1 - (Ae op g ns).parts.toNat))).bind _) _) = _
 rw [this]
 cases Bu FF (HK FF (Ae op g ns) ⟨2,0,BZ FF (Av w) ss t,[]⟩) <;> rfl
end TwW
end
section
namespace TwW
open Go Tw Go.RowKit Go.Proofs.Tryz
section
variable {σ σ' : Hp} {R : Rr} {p : Option Addr} {n c : Nat} {ss : List Sr}
set_option maxRecDepth 100000 in
theorem AIp {x y : Operand} {a b a' b' : ByteArray} : YF prog (do eqGuard .neq 56 x y (.agg #[.string a,.string b]) (.agg #[.string a',.string b']); binOp .neq 56 (.agg #[.string a,.string b]) (.agg #[.string a',.string b'])) σ (.bool (!(a.toList == a'.toList && b.toList == b'.toList))) := fun w _ => by
 have u9 := underlying9
 have hS : prog.underlying 56 = some (.struct (prog.fieldsOf 56)) := by kernel_rfl
 have hp : prog.stoodInHeld 56 = false := by kernel_rfl
 have hf : (prog.fieldsOf 56).toList = [{ name := "Name",type := 9,offset := 0,embedded := false,tag := "",pkgPath := "",byteOffset := 0 },{ name := "Value",type := 9,offset := 1,embedded := false,tag := "",pkgPath := "",byteOffset := 16 }] := by kernel_rfl
 simp only [Sem.run_bind,run_eqGuard_agg _ _ _ _ _ _ _ (show prog.eqGuardType prog.depth 56 = false by kernel_rfl),Result.andThen_ok,run_neq_struct]
 rw [show (10000 : Nat) = 9999 + 1 from rfl,run_equalIn_agg w 9999 56 _ _ hS hp,hf]
 simp only [Op.eqFields]
 go_simp
 by_cases h1 : a.toList = a'.toList <;> by_cases h2 : b.toList = b'.toList <;> simp [h1,h2]
theorem dI {p p' : Option Addr} {n n' c c' : Nat} {ls : List Lb} (h1 : E9 σ p n ls) (h2 : E9 σ p' n' ls) (hR : R (.returned (.bool true)) σ) : Spec prog 41 #[.slice p n c,.slice p' n' c'] σ R := by
 have e1 : ls.length = n := h1.1
 have e2 : ls.length = n' := h2.1
 refine CU.start ⟨fun Az => absurd (by omega) Az,fun _ => ?_⟩
 suffices H : ∀ d i : Nat,n - i = d → i ≤ n → CU.E1 R p n c p' n' c' i σ from H n 0 rfl (Nat.zero_le _)
 intro d
 induction d with
 | zero => exact fun i hd hi => CU.EW ⟨fun An => by omega,fun _ => hR⟩
 | succ d ih =>
   intro i hd hi
   obtain ⟨x,hx⟩ := h1.ex (show i < n by omega)
   obtain ⟨b,o,rfl,l1⟩ := E9.at h1 hx
   obtain ⟨b',o',rfl,l2⟩ := E9.at h2 hx
   exact CU.EW ⟨fun _ => ⟨b,o,rfl,by omega,x.1,x.2,by simpa using l1,b',o',rfl,by omega,x.1,x.2,by simpa using l2,_,AIp,fun hh => by simp at hh,fun _ => ⟨AK (by omega) h1.big,ih (i + 1) (by omega) (by omega)⟩⟩,fun hh => by omega⟩
theorem dJ {q : Option Addr} {m d : Nat} (h1 : Ad 2 Cq σ p n ss) (h2 : Ad 2 Cq σ q m ss) (hR : R (.returned (.bool true)) σ) : Spec prog 18 #[.slice p n c,.slice q m d] σ R := by
 have e1 : ss.length = n := h1.1
 have e2 : ss.length = m := h2.1
 refine CV.start ⟨fun Az => absurd (by omega) Az,fun _ => ?_⟩
 suffices H : ∀ d' i : Nat,n - i = d' → i ≤ n → CV.E1 R p n c q m d i σ from H n 0 rfl (Nat.zero_le _)
 intro d'
 induction d' with
 | zero => exact fun i hd hi => CV.EW ⟨fun An => by omega,fun _ => hR⟩
 | succ d' ih =>
   intro i hd hi
   obtain ⟨x,hx⟩ := h1.ex (show i < n by omega)
   obtain ⟨b,o,p1,k1,c1,q1,m1,d1,rfl,l1,AO9,APA,_⟩ := Cq.at h1 hx
   obtain ⟨b',o',p2,k2,c2,q2,m2,d2,rfl,l2,APB,APC,_⟩ := Cq.at h2 hx
   exact CV.EW ⟨fun _ => ⟨b,o,rfl,by omega,p1,k1,c1,by simpa using l1.1,b',o',rfl,by omega,p2,k2,c2,by simpa using l2.1,dI AO9 APB ⟨_,rfl,fun hh => (by cases hh),fun _ => ⟨by omega,q1,m1,d1,by simpa using l1.2.1,by omega,q2,m2,d2,by simpa using l2.2.1,Pr APA APC ⟨_,rfl,fun hh => (by cases hh),fun _ => ⟨AK (by omega) h1.big,ih (i + 1) (by omega) (by omega)⟩⟩⟩⟩⟩,fun hh => by omega⟩
theorem inst_err {T : List Nd} {t : Int} (h : (instF T ss t).1 ≠ 0) : (instF T ss t).2 = [] := by
 unfold instF at h ⊢
 split at h
 · rename_i h0; rw [if_pos h0]
 · rename_i h0
   rw [if_neg h0]
   split at h
   · rename_i h1; rw [if_pos h1]
   · rename_i h1
     rw [if_neg h1]
     split at h
     · rfl
     · exact absurd rfl h
abbrev ACX (T : List Nd) (ss : List Sr) (t : Int) : List Sr := (instF T ss t).2.map fun e => ⟨e.ls,[(t,e.v)]⟩
theorem Zo {T : List Nd} (h : Modest [] ss) (hl : T.length ≤ 100) (ht : (T.all fun x => decide (x.text.size ≤ 100)) = true) : Modest T ss :=
 ⟨by omega,fun x hx => by have := of_decide_eq_true (List.all_eq_true.1 ht x hx); omega,h.s,h.ps,h.nn⟩
theorem FR {s : ByteArray} {ts : List Cl} {T : List Nd} {cl : Cl} {t : Int} (hg : Gl σ) (hs : Ad 2 Cq σ p n ss) (hS : yB ss) (hM : Modest [] ss) (hl : Lx s.data.toList ts) (Hr : s.size ≤ 4096) (hz : pz 60 0 0 ts = some ([cl],T)) (hk : cl.kind = 0) (hn : decide (ts.length ≤ 100000) = true) (hT : decide (T.length ≤ 100) = true) (ht : (T.all fun x => decide (x.text.size ≤ 100)) = true)
   (h : ∀ (σ' : Hp) (p' : Option Addr) (n' c' : Nat),Ad 2 Cq σ' p' n' (ACX T ss t) → Ext σ σ' → R (.returned (.tuple #[.slice p' n' c',.int .i64 (instF T ss t).1])) σ') :
   Spec prog 20 #[.string s,.slice p n c,.int .i64 t] σ R :=
 qb hg hs hS (Zo hM (of_decide_eq_true hT) ht) (Nat.le_trans (of_decide_eq_true hT) (by decide)) hl Hr (of_decide_eq_true hn) hz hk (fun σ' p' n' c' h0 hr hx => by rw [← h0]; exact h σ' p' n' c' hr hx) fun σ' Az hx => h σ' none 0 0 (by unfold ACX; rw [inst_err Az]; exact Ad.nil) hx
end
theorem D0 (a b : ByteArray) : (a ++ b).data.toList = a.data.toList ++ b.data.toList := by rw [ByteArray.data_append,Array.toList_append]
theorem ACY {c u : UInt8} (h : (c == 61 || c == 33 || c == 60 || c == 62) = false) : Da (bA [c,u]) N7 = false := by
 rw [Bool.eq_false_iff,ne_eq,BE]
 intro hm
 simp only [Bool.or_eq_false_iff,beq_eq_false_iff_ne] at h
 have key : ∀ x ∈ N7,∀ c u,x = bA [c,u] → c = 61 ∨ c = 33 ∨ c = 60 ∨ c = 62 := by
   intro x hx c u e
   have e0 := congrArg (fun y : ByteArray => y.data.toList[0]?) e
   simp only [N7,List.mem_cons,List.not_mem_nil,or_false] at hx
   rcases hx with rfl | rfl | rfl | rfl | rfl | rfl <;> (simp [bA] at e0; simp [← e0])
 rcases key _ hm c u rfl with e | e | e | e
 · exact h.1.1.1 e
 · exact h.1.1.2 e
 · exact h.1.2 e
 · exact h.2 e
theorem Lx.sg {c : UInt8} {l : List UInt8} {ts : List Cl} (h1 : c ∈ qX) (h2 : (c == 61 || c == 33 || c == 60 || c == 62) = false) (h : Lx l ts) : Lx (c :: l) (Cd 5 (bA [c]) 0 :: ts) := Lx.one h1 (fun u _ => ACY h2) h
theorem HA {c : UInt8} {l : List UInt8} (h : Mx c = false) : ∀ u,(c :: l).head? = some u → Mx u = false := fun u hu => by cases hu; exact h
end TwW
end
section
namespace TwW
open Go Tw
def kA : ByteArray := ⟨#[97]⟩
def kB : ByteArray := ⟨#[98]⟩
theorem qe {w : ByteArray} {op : Nat} {g : Int} {ns : List ByteArray} (hw : w.size ≤ 256) (h : C6 [Ae op g ns] [2] = some [2]) : IV [Av w,Ae op g ns] = some 2 := by
 unfold IV
 rw [qd hw,List.nil_append,h]
 rfl
theorem fm {ls : List Lb} {v : Int} : ∀ {gs : List Rg},(gs.map (·.ls)).Nodup → ((GG ls v gs).map (·.ls)).Nodup ∧ ∀ k ∈ (GG ls v gs).map (·.ls),k = ls ∨ k ∈ gs.map (·.ls)
 | [],_ => ⟨by simp [GG],fun k hk => by simpa [GG] using hk⟩
 | g :: gs,h => by
   rw [List.map_cons,List.nodup_cons] at h
   unfold GG
   split
   · exact ⟨by simpa using h,fun k hk => .inr hk⟩
   · rename_i Az
     obtain ⟨h1,h2⟩ := fm (ls := ls) (v := v) h.2
     refine ⟨?_,fun k hk => ?_⟩
     · rw [List.map_cons,List.nodup_cons]
       refine ⟨fun hm => ?_,h1⟩
       rcases h2 _ hm with e | e
       · exact Az (congrArg Db e)
       · exact h.1 e
     · rw [List.map_cons] at hk ⊢
       rcases List.mem_cons.1 hk with rfl | hk
       · exact .inr (List.mem_cons_self ..)
       · rcases h2 k hk with e | e
         · exact .inl e
         · exact .inr (List.mem_cons_of_mem _ e)
theorem Zp {k : List Lb → List Lb} : ∀ {L : List El} {gs : List Rg},(gs.map (·.ls)).Nodup → ((L.foldl (fun gs x => GG (k x.ls) x.v gs) gs).map (·.ls)).Nodup
 | [],_,h => h
 | x :: L,gs,h => by
   rw [List.foldl_cons]
   exact Zp (fm h).1
theorem qf {n : Nd} {p : Vv} : ∃ m,Bu FF (HK FF n p) = some m := by
 refine ⟨Y1 FF (HK FF n p),?_⟩
 unfold Bu
 rw [if_pos]
 unfold HK
 rw [List.pairwise_map]
 have h := Zp (k := BB n) (L := p.vec) (gs := []) List.nodup_nil
 rw [List.Nodup,List.pairwise_map] at h
 exact h.imp fun hab e => hab ((A4.eq _ _).1 e)
end TwW
end
section
namespace TwW
open Go Tw Go.RowKit Go.Proofs.Tryz
section
variable {σ : Hp} {R : Rr} {p : Option Addr} {n c : Nat} {ss : List Sr} {t : Int} {s : ByteArray}
abbrev LK : Cl := Cd 0 ⟨#[]⟩ 0
end
end TwW
end
section
namespace TwW
open Go Tw Go.RowKit Go.Proofs.Tryz
section
variable {σ : Hp} {R : Rr} {p : Option Addr} {n c : Nat} {ss : List Sr} {t : Int} {s : ByteArray}
abbrev Zq (t : Int) (l : List El) : List Sr := l.map fun e => ⟨e.ls,[(t,e.v)]⟩
theorem Wd {l : List El} {i : Nat} {e : El} (hr : Ad 2 Cq σ p n (Zq t l)) (he : l[i]? = some e) : ∃ b o p1 n1 c1 b2 o2 d1,p = some ⟨b,o,none⟩ ∧ Au σ b (o + i * 2) [.slice p1 n1 c1,.slice (aD b2 o2) 1 d1] ∧ E9 σ p1 n1 e.ls ∧ Au σ b2 o2 [.int .i64 t,.int .u64 e.v] := by
 obtain ⟨b,o,p1,n1,c1,q1,m1,d1,rfl,ES,U1,yC,_⟩ := Cq.at hr (i := i) (s := ⟨e.ls,[(t,e.v)]⟩) (by rw [List.getElem?_map,he]; rfl)
 have hm1 : 1 = m1 := yC.1
 subst hm1
 obtain ⟨b2,o2,rfl,ZP⟩ := HL.at yC (i := 0) (x := (t,e.v)) rfl
 exact ⟨b,o,p1,n1,c1,b2,o2,d1,rfl,ES,U1,by simpa using ZP⟩
theorem TY {v : Int} {l : List El} (hr : Ad 2 Cq σ p n (Zq t l)) (hR : R (.returned (.bool (l.any fun e => decide (e.v = v)))) σ) : Spec prog 23 #[.slice p n c,.int .u64 v] σ R := by
 have hl : l.length = n := by have := hr.1; rwa [List.length_map] at this
 have Ho := hr.big
 refine IH.start ?_
 suffices H : ∀ g i : Nat,n - i = g → i ≤ n → (l.any fun e => decide (e.v = v)) = ((l.drop i).any fun e => decide (e.v = v)) → IH.Gf R p n c v (i : Int) σ from H n 0 rfl (Nat.zero_le _) rfl
 intro g
 induction g with
 | zero =>
   intro i hg hi he
   rw [List.drop_eq_nil_of_le (by omega)] at he
   refine IH.BA ⟨fun An => by omega,fun _ => ?_⟩
   rw [he] at hR; exact hR
 | succ g ih =>
   intro i hg hi he
   have BN : i < n := by omega
   obtain ⟨e,hei⟩ : ∃ e,l[i]? = some e := ⟨_,List.getElem?_eq_getElem (by omega)⟩
   obtain ⟨b,o,p1,n1,c1,b2,o2,d1,rfl,ES,_,ZP⟩ := Wd hr hei
   rw [BC hei,List.any_cons] at he
   refine IH.BA ⟨fun _ => ⟨b,o,rfl,by omega,aD b2 o2,1,d1,by simpa using ES.2.1,fun _ => ⟨by omega,aD b2 o2,1,d1,by simpa using ES.2.1,b2,o2,rfl,by decide,e.v,by simpa using ZP.2.1,fun hv => ?_,fun hv => ⟨AK BN Ho,ih (i + 1) (by omega) (by omega) ?_⟩⟩,fun hh => absurd rfl hh⟩,fun hh => by omega⟩
   · rw [he,decide_eq_true hv,Bool.true_or] at hR; exact hR
   · rw [he,decide_eq_false hv,Bool.false_or]
end
end TwW
end
section
namespace TwW
open Go Tw
def DS (n : Int) : Int := (Hc n : Nat)
theorem qg {n : Int} (h : n.natAbs < 9007199254740992) : Jg (Hc n) = false := by
 rw [Ot]
 obtain ⟨k,hk⟩ := Ln h
 rw [hk]; rfl
theorem qh {n : Int} (h : n.natAbs < 9007199254740992) : toF (Hc n) = Hc n := by
 unfold toF; rw [qg h,if_neg (by decide)]
theorem vG {a b : Int} (ha : a.natAbs < 4503599627370496) (hb : b.natAbs < 4503599627370496) : Oq 1 (DS a) (DS b) = DS (a + b) := by
 unfold Oq DS
 rw [Int.toNat_natCast,Int.toNat_natCast]
 congr 1
 unfold Wv
 rw [show fAr 1 (Hc a) (Hc b) = Ieee.double.add (Hc a) (Hc b) from rfl,qc (by omega) (by omega)]
 exact qh (by omega)
theorem ACZ {a b : Int} (ha : a.natAbs < 4503599627370496) (hb : b.natAbs < 4503599627370496) : T5 7 (DS a) (DS b) = decide (a < b) := by
 unfold T5 DS fCm
 rw [Int.toNat_natCast,Int.toNat_natCast,Zn (by omega) (by omega)]
 simp only [show ¬ (7 : Int) = 5 by decide,show ¬ (7 : Int) = 6 by decide,if_false,if_true]
 rw [Bool.eq_iff_iff,decide_eq_true_eq,beq_iff_eq,Option.some.injEq]
 exact Int.compare_eq_lt
section
variable {σ : Hp}
end
end TwW
end
section
namespace TwW
open Go Tw
def BD : List Int → Int
 | [] => 0
 | a :: l => a + BD l
theorem JJ : ∀ {l : List Int},(∀ x ∈ l,0 ≤ x) → 0 ≤ BD l
 | [],_ => Int.le_refl _
 | a :: l,h => by
   have h1 := h a (List.mem_cons_self ..)
   have h2 := JJ (l := l) fun x hx => h x (List.mem_cons_of_mem _ hx)
   show 0 ≤ a + BD l
   omega
theorem O6 {l m : List Int} (h : l.Perm m) : BD l = BD m := by
 induction h with
 | nil => rfl
 | cons x _ ih => simp only [BD]; rw [ih]
 | swap x y l => simp only [BD]; omega
 | trans _ _ h1 h2 => exact h1.trans h2
theorem N9 : ∀ (l m : List Int),BD (l ++ m) = BD l + BD m
 | [],m => by simp [BD]
 | a :: l,m => by
   have := N9 l m
   simp only [List.cons_append,BD]
   omega
theorem Ql {k : Int} : ∀ {l : List Int},(∀ x ∈ l,x ≤ k) → BD l ≤ k * l.length
 | [],_ => by simp [BD]
 | a :: l,h => by
   have h1 := h a (List.mem_cons_self ..)
   have h2 := Ql (l := l) fun x hx => h x (List.mem_cons_of_mem _ hx)
   simp only [BD,List.length_cons]
   rw [show ((l.length + 1 : Nat) : Int) = (l.length : Int) + 1 by omega,Int.mul_add,Int.mul_one]
   omega
theorem dK {n : Int} (h : n.natAbs < 4503599627370496) : nrm (DS n) = DS n := by
 unfold nrm DS
 rw [Int.toNat_natCast,qh (by omega)]
theorem fold_add : ∀ (l : List Int) (s : Int),0 ≤ s → (∀ x ∈ l,0 ≤ x) → s + BD l < 4503599627370496 → (l.map DS).foldl (Oq 1) (DS s) = DS (s + BD l)
 | [],s,_,_,_ => by simp [BD]
 | a :: l,s,h0,h,hb => by
   have ha := h a (List.mem_cons_self ..)
   have hl := JJ (l := l) fun x hx => h x (List.mem_cons_of_mem _ hx)
   simp only [BD] at hb ⊢
   rw [List.map_cons,List.foldl_cons,vG (by omega) (by omega),fold_add l (s + a) (by omega) (fun x hx => h x (List.mem_cons_of_mem _ hx)) (by omega),Int.add_assoc]
theorem fp {l : List Int} (h0 : l ≠ []) (h : ∀ x ∈ l,0 ≤ x) (hb : BD l < 4503599627370496) : QG (l.map DS) = DS (BD l) := by
 cases l with
 | nil => exact absurd rfl h0
 | cons a l =>
   have ha := h a (List.mem_cons_self ..)
   have hl := JJ (l := l) fun x hx => h x (List.mem_cons_of_mem _ hx)
   simp only [BD] at hb ⊢
   show (l.map DS).foldl (Oq 1) (nrm (DS a)) = _
   rw [dK (by omega),fold_add l a ha (fun x hx => h x (List.mem_cons_of_mem _ hx)) hb]
def We (a : Int) (l : List Int) : Int := l.foldl (fun a b => if b < a then b else a) a
def OA : List Int → Int
 | [] => 0
 | a :: l => We a l
def LL (m : Int) (l : List Int) : Prop := m ∈ l ∧ ∀ x ∈ l,m ≤ x
theorem TZ : ∀ (l : List Int) (a : Int),LL (We a l) (a :: l)
 | [],a => ⟨List.mem_cons_self ..,fun x hx => by rw [List.mem_singleton.1 hx]; exact Int.le_refl _⟩
 | b :: l,a => by
   obtain ⟨h1,h2⟩ := TZ l (if b < a then b else a)
   refine ⟨?_,fun x hx => ?_⟩
   · rcases List.mem_cons.1 h1 with e | e
     · show We (if b < a then b else a) l ∈ _
       rw [e]
       split
       · exact List.mem_cons_of_mem _ (List.mem_cons_self ..)
       · exact List.mem_cons_self ..
     · exact List.mem_cons_of_mem _ (List.mem_cons_of_mem _ e)
   · have h3 := h2 _ (List.mem_cons_self ..)
     show We (if b < a then b else a) l ≤ x
     rcases List.mem_cons.1 hx with rfl | hx
     · split at h3 <;> (split <;> omega)
     · rcases List.mem_cons.1 hx with rfl | hx
       · split at h3 <;> (split <;> omega)
       · exact h2 x (List.mem_cons_of_mem _ hx)
theorem FT {l : List Int} (h : l ≠ []) : LL (OA l) l := by
 cases l with
 | nil => exact absurd rfl h
 | cons a l => exact TZ l a
theorem LL.eq {m m' : Int} {l : List Int} (h : LL m l) (h' : LL m' l) : m = m' := Int.le_antisymm (h.2 _ h'.1) (h'.2 _ h.1)
theorem LL.perm {m : Int} {l l' : List Int} (h : LL m l) (hp : l.Perm l') : LL m l' := ⟨hp.mem_iff.1 h.1,fun x hx => h.2 x (hp.mem_iff.2 hx)⟩
theorem jd {l : List Int} {x : Int} (h : l ≠ []) : OA (l ++ [x]) = if x < OA l then x else OA l := by
 cases l with
 | nil => exact absurd rfl h
 | cons a l =>
   show We a (l ++ [x]) = _
   unfold We
   rw [List.foldl_append]; rfl
theorem AIq {n : Int} (h : n.natAbs < 4503599627370496) : nrm (DS n) ≠ 9221120237041090560 := fun e => by
 rw [dK h] at e
 have h1 := qg (n := n) (by omega)
 have h2 : Hc n = 9221120237041090560 := by unfold DS at e; omega
 rw [h2] at h1
 have : Jg 9221120237041090560 = true := by kernel_rfl
 rw [this] at h1; cases h1
abbrev Sml (l : List Int) : Prop := ∀ x ∈ l,x.natAbs < 4503599627370496
theorem APD {a b : Int} (ha : a.natAbs < 4503599627370496) (hb : b.natAbs < 4503599627370496) : QH 7 (DS a) (DS b) = DS (if b < a then b else a) := by
 unfold QH
 rw [ACZ hb ha]
 by_cases h : b < a
 · rw [if_pos (.inl (decide_eq_true h)),if_pos h]
 · rw [if_neg (by rintro (h1 | h1)
                  · exact h (of_decide_eq_true h1)
                  · exact AIq ha h1),if_neg h]
theorem yH : ∀ (l : List Int) (a : Int),a.natAbs < 4503599627370496 → Sml l → (l.map DS).foldl (QH 7) (DS a) = DS (We a l) ∧ (We a l).natAbs < 4503599627370496
 | [],a,ha,_ => ⟨rfl,ha⟩
 | b :: l,a,ha,h => by
   have hb := h b (List.mem_cons_self ..)
   rw [List.map_cons,List.foldl_cons,APD ha hb]
   exact yH l _ (by split <;> omega) fun x hx => h x (List.mem_cons_of_mem _ hx)
theorem qi {l : List Int} (h0 : l ≠ []) (h : Sml l) : Jc 7 (l.map DS) = DS (OA l) := by
 cases l with
 | nil => exact absurd rfl h0
 | cons a l =>
   obtain ⟨h1,h2⟩ := yH l a (h a (List.mem_cons_self ..)) fun x hx => h x (List.mem_cons_of_mem _ hx)
   show nrm ((l.map DS).foldl (QH 7) (DS a)) = DS (We a l)
   rw [h1,dK h2]
def dL (l : List Int) : Nat := if l = [] then 9218868437227405312 else Hc (OA l)
theorem vH {b : Int} (hb : b.natAbs < 4503599627370496) : Ieee.double.order 9218868437227405312 (Hc b) = some .gt := by
 obtain ⟨j,hj⟩ := Ln (n := b) (by omega)
 have h1 : Ieee.double.read 9218868437227405312 = .infinity false := by kernel_rfl
 unfold Ieee.Format.order
 rw [h1,hj]; rfl
theorem vI {a b r : Nat} {w : World} (h : match Ieee.double.order a b with
   | none => False
   | some .lt => r = a
   | some .gt => r = b
   | some .eq => a = b ∧ r = a) : (Builtin.min_ #[51,51] 51 #[.float .f64 a,.float .f64 b]).run prog w = .ok (.float .f64 r) w := by
 have e : (Builtin.min_ #[51,51] 51 #[.float .f64 a,.float .f64 b]) = Builtin.min2 (.float .f64 a) (.float .f64 b) >>= fun x => pure x := rfl
 rw [e]
 unfold Builtin.min2
 have e2 : FloatKind.f64.format.order a b = Ieee.double.order a b := rfl
 dsimp only
 rw [e2]
 generalize Ieee.double.order a b = o at h
 match o,h with
 | some .lt,h => subst h; rfl
 | some .gt,h => subst h; rfl
 | some .eq,h =>
   obtain ⟨h1,h2⟩ := h
   subst h1; subst h2
   dsimp only
   split <;> rfl
section
variable {σ : Hp} {l : List Int} {x : Int} {Φ : Value → Hp → Prop}
theorem qj (hl : Sml l) (hx : x.natAbs < 4503599627370496) (h : Φ (.float .f64 (dL (l ++ [x]))) σ) : AJ prog (Builtin.min_ #[51,51] 51 #[.float .f64 (dL l),.float .f64 (Hc x)]) σ Φ := by
 refine IP (v := .float .f64 (dL (l ++ [x]))) (fun w => vI ?_) h
 have Az : l ++ [x] ≠ [] := by simp
 unfold dL
 rw [if_neg Az]
 by_cases h0 : l = []
 · subst h0
   rw [if_pos rfl,vH hx]; rfl
 · rw [if_neg h0,Zn (by have := hl _ (FT h0).1; omega) (by omega),jd h0]
   rcases Int.lt_trichotomy (OA l) x with hh | hh | hh
   · rw [Int.compare_eq_lt.2 hh,if_neg (by omega)]
   · rw [← hh,Int.compare_eq_eq.2 rfl,if_neg (by omega)]; exact ⟨rfl,rfl⟩
   · rw [Int.compare_eq_gt.2 hh,if_pos hh]
theorem Zr {a b : Int} (ha : a.natAbs < 4503599627370496) (hb : b.natAbs < 4503599627370496) (h : Φ (.float .f64 (Hc (a + b))) σ) : AJ prog (Go.binOp .add 51 (.float .f64 (Hc a)) (.float .f64 (Hc b))) σ Φ :=
 IP (v := .float .f64 (Hc (a + b))) (fun w => by
   have e : (Go.binOp .add 51 (.float .f64 (Hc a)) (.float .f64 (Hc b))).run prog w = (AHX (Hc a) (Hc b) (Ieee.double.add (Hc a) (Hc b))).run prog w := by
     refine (show _ = (Op.floatArith .add .f64 (Hc a) (Hc b)).run prog w from rfl).trans ?_; unfold Op.floatArith; simp only [FloatKind.format]; cases Ieee.double.add (Hc a) (Hc b) <;> rfl
   rw [e,qc (by omega) (by omega)]; rfl) h
end
end TwW
end
section
namespace TwW
open Go Tw
theorem je {α β : Type} {f : α → β} {l m : List β} (h : l.Perm m) : ∀ N : List α,m = N.map f → ∃ M : List α,l = M.map f ∧ M.Perm N := by
 induction h with
 | nil =>
   intro N hN
   cases N with
   | nil => exact ⟨[],rfl,.refl _⟩
   | cons a N => cases hN
 | cons x _ ih =>
   intro N hN
   cases N with
   | nil => cases hN
   | cons a N =>
     rw [List.map_cons,List.cons.injEq] at hN
     obtain ⟨M,e,hM⟩ := ih N hN.2
     exact ⟨a :: M,by rw [List.map_cons,← hN.1,e],hM.cons a⟩
 | swap x y l =>
   intro N hN
   match N,hN with
   | a :: b :: N,hN =>
     simp only [List.map_cons,List.cons.injEq] at hN
     exact ⟨b :: a :: N,by simp only [List.map_cons]; rw [hN.1,hN.2.1,hN.2.2],.swap a b N⟩
 | trans _ _ h1 h2 =>
   intro N hN
   obtain ⟨M,e,hM⟩ := h2 N hN
   obtain ⟨M',e',hM'⟩ := h1 M e
   exact ⟨M',e',hM'.trans hM⟩
theorem qk {α β : Type} {f : α → β} : ∀ {l : List β},(∀ y ∈ l,∃ x,y = f x) → ∃ M : List α,l = M.map f
 | [],_ => ⟨[],rfl⟩
 | y :: l,h => by
   obtain ⟨x,hx⟩ := h y (List.mem_cons_self ..)
   obtain ⟨M,hM⟩ := qk (l := l) fun z hz => h z (List.mem_cons_of_mem _ hz)
   exact ⟨x :: M,by rw [List.map_cons,← hx,← hM]⟩
abbrev LZ := List Lb × Int
abbrev GZ := List Lb × List Int
def M4 (x : LZ) : El := ⟨x.1,DS x.2⟩
def vJ (g : GZ) : Rg := ⟨g.1,g.2.map DS⟩
def QO (ls : List Lb) (v : Int) : List GZ → List GZ
 | [] => [(ls,[v])]
 | g :: l => if Db g.1 = Db ls then (g.1,g.2 ++ [v]) :: l else g :: QO ls v l
def L9 (k : List Lb → List Lb) (M : List LZ) (gs : List GZ) : List GZ := M.foldl (fun gs x => QO (k x.1) x.2 gs) gs
def Hq (gs : List GZ) : List Int := gs.flatMap (·.2)
theorem fq {ls : List Lb} {v : Int} : ∀ gs : List GZ,GG ls (DS v) (gs.map vJ) = (QO ls v gs).map vJ
 | [] => rfl
 | g :: gs => by
   rw [List.map_cons]
   unfold GG QO
   by_cases h : Db g.1 = Db ls
   · rw [if_pos h,if_pos (show Db (vJ g).ls = Db ls from h),List.map_cons]
     congr 1
     simp [vJ]
   · rw [if_neg h,if_neg (show ¬ Db (vJ g).ls = Db ls from h),List.map_cons,fq gs]
theorem dM {k : List Lb → List Lb} : ∀ (M : List LZ) (gs : List GZ),(M.map M4).foldl (fun gs x => GG (k x.ls) x.v gs) (gs.map vJ) = (L9 k M gs).map vJ
 | [],gs => rfl
 | x :: M,gs => by
   rw [List.map_cons,List.foldl_cons,show (M4 x).v = DS x.2 from rfl,show (M4 x).ls = x.1 from rfl,fq,dM M]
   rfl
theorem VI {ls : List Lb} {v : Int} : ∀ gs : List GZ,(Hq (QO ls v gs)).Perm (v :: Hq gs)
 | [] => .refl _
 | g :: gs => by
   unfold QO Hq
   split
   · rw [List.flatMap_cons,List.flatMap_cons,List.append_assoc]
     exact List.perm_middle
   · rw [List.flatMap_cons,List.flatMap_cons]
     exact ((VI gs).append_left g.2).trans List.perm_middle
theorem O7 {k : List Lb → List Lb} : ∀ (M : List LZ) (gs : List GZ),(Hq (L9 k M gs)).Perm (M.map (·.2) ++ Hq gs)
 | [],gs => .refl _
 | x :: M,gs => (O7 M (QO (k x.1) x.2 gs)).trans (((VI gs).append_left (M.map (·.2))).trans List.perm_middle)
theorem ft {ls : List Lb} {v : Int} : ∀ {gs : List GZ},(∀ g ∈ gs,g.2 ≠ []) → ∀ g ∈ QO ls v gs,g.2 ≠ []
 | [],_,g,hg => by
   rw [List.mem_singleton.1 hg]; simp
 | h :: gs,hn,g,hg => by
   unfold QO at hg
   split at hg
   · rcases List.mem_cons.1 hg with rfl | hg
     · simp
     · exact hn g (List.mem_cons_of_mem _ hg)
   · rcases List.mem_cons.1 hg with rfl | hg
     · exact hn g (List.mem_cons_self ..)
     · exact ft (fun x hx => hn x (List.mem_cons_of_mem _ hx)) g hg
theorem Wf {k : List Lb → List Lb} : ∀ {M : List LZ} {gs : List GZ},(∀ g ∈ gs,g.2 ≠ []) → ∀ g ∈ L9 k M gs,g.2 ≠ []
 | [],gs,h => h
 | x :: M,gs,h => Wf (M := M) (ft h)
theorem Zs : ∀ (M : List LZ) (vs : List Int),L9 (fun _ => []) M [([],vs)] = [([],vs ++ M.map (·.2))]
 | [],vs => by simp [L9]
 | x :: M,vs => by
   have := Zs M (vs ++ [x.2])
   rw [List.append_assoc] at this
   show L9 (fun _ => []) M (QO [] x.2 [([],vs)]) = _
   have e : QO [] x.2 [(([] : List Lb),vs)] = [([],vs ++ [x.2])] := by unfold QO; rw [if_pos rfl]
   rw [e,this]; rfl
theorem ql {M : List LZ} : L9 (fun _ => []) M [] = if M = [] then [] else [([],M.map (·.2))] := by
 cases M with
 | nil => rfl
 | cons x M => rw [if_neg (by simp)]; exact Zs M [x.2]
theorem fu : ∀ gs : List GZ,BD (gs.map fun g => BD g.2) = BD (Hq gs)
 | [] => rfl
 | g :: gs => by
   unfold Hq
   rw [List.flatMap_cons,N9,List.map_cons]
   show BD g.2 + _ = _
   rw [fu gs]; rfl
theorem fw : ∀ gs : List GZ,BD (gs.map fun g => (g.2.length : Int)) = (Hq gs).length
 | [] => rfl
 | g :: gs => by
   unfold Hq
   rw [List.flatMap_cons,List.length_append,List.map_cons]
   show (g.2.length : Int) + _ = _
   rw [fw gs]
   unfold Hq; omega
theorem Wg {gs : List GZ} {g : GZ} (hg : g ∈ gs) {x : Int} (hx : x ∈ g.2) : x ∈ Hq gs := List.mem_flatMap.2 ⟨g,hg,hx⟩
theorem vK {gs : List GZ} (hn : ∀ g ∈ gs,g.2 ≠ []) {m : Int} (h : LL m (gs.map fun g => OA g.2)) : LL m (Hq gs) := by
 obtain ⟨g,hg,e⟩ := List.mem_map.1 h.1
 refine ⟨?_,fun x hx => ?_⟩
 · rw [← e]; exact Wg hg (FT (hn g hg)).1
 · obtain ⟨g',ri,T3⟩ := List.mem_flatMap.1 hx
   exact Int.le_trans (h.2 _ (List.mem_map.2 ⟨g',ri,rfl⟩)) ((FT (hn g' ri)).2 x T3)
def Ta (op : Nat) (l : List Int) : Int := if op = 1 then BD l else if op = 2 then OA l else (l.length : Int)
theorem fx {op : Nat} (FU : op = 1 ∨ op = 2 ∨ op = 5) {l : List Int} (h0 : l ≠ []) (h : ∀ x ∈ l,0 ≤ x ∧ x < 1000) (hb : l.length ≤ 2000000) : foldI op (l.map DS) = DS (Ta op l) := by
 have hs := Ql (k := 1000) (l := l) fun x hx => by have := h x hx; omega
 have hm : Sml l := fun x hx => by have := h x hx; omega
 rcases FU with rfl | rfl | rfl
 · show QG (l.map DS) = DS (BD l)
   exact fp h0 (fun x hx => (h x hx).1) (by omega)
 · show Jc 7 (l.map DS) = DS (OA l)
   exact qi h0 hm
 · show BX (l.map DS).length = DS (l.length : Int)
   rw [List.length_map]; rfl
theorem JK {T : List Nd} {ss : List Sr} {t : Int} (h : IV T = some 2) (hm : ∃ m,A1 FF T ss t = some m) : (instF T ss t).1 = if HM none ss = true then (if ¬ (-1099511627776 ≤ t ∧ t ≤ 1099511627776) then 221 else 0) else 224 := by
 obtain ⟨m,hm⟩ := hm
 have ha : FC T ss = if HM none ss = true then 0 else 224 := by
   unfold FC; rw [h]; rfl
 unfold instF
 rw [ha,hm]
 by_cases ho : HM none ss = true
 · rw [if_pos ho,if_neg (by decide),if_pos ho]
   by_cases ht : -1099511627776 ≤ t ∧ t ≤ 1099511627776
   · rw [if_neg (not_not_intro ht),if_neg (not_not_intro ht)]
   · rw [if_pos ht,if_pos ht]
 · rw [if_neg ho,if_pos (by decide),if_neg ho]
theorem qm {l m : List El} (h : Bu FF l = some m) : m = Y1 FF l := by
 unfold Bu at h
 split at h
 · exact (Option.some.inj h).symm
 · cases h
theorem ACa {n : Nd} {op : Nat} (FU : op = 1 ∨ op = 2 ∨ op = 5) (hn : n.op = op) {M : List LZ} (hM : ∀ x ∈ M,0 ≤ x.2 ∧ x.2 < 1000) (hb : M.length ≤ 2000000) : ∃ N : List LZ,Bu FF (HK FF n ⟨2,0,M.map M4,[]⟩) = some (N.map M4) ∧ N.Perm ((L9 (BB n) M []).map fun g => (g.1,Ta op g.2)) := by
 have hp := O7 (k := BB n) M []
 have H4 : ∀ g ∈ L9 (BB n) M [],∀ x ∈ g.2,0 ≤ x ∧ x < 1000 := fun g hg x hx => by
   have := hp.mem_iff.1 (Wg hg hx)
   simp only [Hq,List.flatMap_nil,List.append_nil] at this
   obtain ⟨y,hy,rfl⟩ := List.mem_map.1 this
   exact hM y hy
 have hlen : ∀ g ∈ L9 (BB n) M [],g.2.length ≤ M.length := fun g hg => by
   have h1 := hp.length_eq
   simp only [Hq,List.flatMap_nil,List.append_nil,List.length_map] at h1
   have h2 : g.2.length ≤ (Hq (L9 (BB n) M [])).length := by
     obtain ⟨s,t,e⟩ := List.append_of_mem hg
     rw [e]
     unfold Hq
     rw [List.flatMap_append,List.flatMap_cons,List.length_append,List.length_append]
     omega
   unfold Hq at h2
   omega
 have ha : HK FF n ⟨2,0,M.map M4,[]⟩ = ((L9 (BB n) M []).map fun g => (g.1,Ta op g.2)).map M4 := by
   unfold HK
   rw [show ([] : List Rg) = ([] : List GZ).map vJ from rfl,dM (k := BB n) M [],List.map_map,List.map_map]
   refine List.map_congr_left fun g hg => ?_
   have Az := Wf (k := BB n) (M := M) (gs := []) (fun g hg => by cases hg) g hg
   show (⟨g.1,foldI n.op (g.2.map DS)⟩ : El) = ⟨g.1,DS (Ta op g.2)⟩
   rw [hn,fx FU Az (H4 g hg) (Nat.le_trans (hlen g hg) hb)]
 obtain ⟨m,hm⟩ := qf (n := n) (p := ⟨2,0,M.map M4,[]⟩)
 have hs := qm hm
 rw [ha] at hs
 obtain ⟨N,e,hN⟩ := je (f := M4) (G7 (F := FF) (((L9 (BB n) M []).map fun g => (g.1,Ta op g.2)).map M4)) _ rfl
 exact ⟨N,by rw [hm,hs,e],hN⟩
theorem fy {op : Nat} (FU : op = 1 ∨ op = 2 ∨ op = 5) {M : List LZ} (hM : ∀ x ∈ M,0 ≤ x.2) (hf : M ≠ [] → foldI op ((M.map (·.2)).map DS) = DS (Ta op (M.map (·.2)))) : Bu FF (HK FF (Ae op 0 []) ⟨2,0,M.map M4,[]⟩) = some (if M = [] then [] else [⟨[],DS (Ta op (M.map (·.2)))⟩]) := by
 have ha : HK FF (Ae op 0 []) ⟨2,0,M.map M4,[]⟩ = if M = [] then [] else [⟨[],DS (Ta op (M.map (·.2)))⟩] := by
   unfold HK
   rw [show ([] : List Rg) = ([] : List GZ).map vJ from rfl,dM (k := BB (Ae op 0 [])) M [],show BB (Ae op 0 []) = fun _ => [] from rfl,ql]
   by_cases h : M = []
   · rw [if_pos h,if_pos h]; rfl
   · rw [if_neg h,if_neg h]
     show [(⟨[],foldI op ((M.map (·.2)).map DS)⟩ : El)] = _
     rw [hf h]
 rw [ha]
 split
 · unfold Bu; rw [if_pos List.Pairwise.nil]; rfl
 · unfold Bu; rw [if_pos (List.pairwise_singleton ..)]; rfl
theorem vL {w : ByteArray} {a b : Nd} (hw : w.size ≤ 256) (h : C6 [a,b] [2] = some [2]) : IV [Av w,a,b] = some 2 := by
 unfold IV
 rw [qd hw,List.nil_append,h]
 rfl
theorem qo {w : ByteArray} {ss : List Sr} {t : Int} {op WT : Nat} {g g' : Int} {ns ns' : List ByteArray} {m : List El} (h : A1 FF [Av w,Ae op g ns] ss t = some m) : A1 FF [Av w,Ae op g ns,Ae WT g' ns'] ss t = Bu FF (HK FF (Ae WT g' ns') ⟨2,0,m,[]⟩) := by
 rw [Wc] at h
 unfold A1
 rw [fk,List.nil_append,JA]
 have e1 : Dz FF ss t (Ae op g ns) ([(⟨2,0,BZ FF (Av w) ss t,[]⟩ : Vv)].drop (1 - (Ae op g ns).parts.toNat)) = some ⟨2,0,m,[]⟩ := by
   have : Dz FF ss t (Ae op g ns) ([(⟨2,0,BZ FF (Av w) ss t,[]⟩ : Vv)].drop (1 - (Ae op g ns).parts.toNat)) = (Bu FF (HK FF (Ae op g ns) ⟨2,0,BZ FF (Av w) ss t,[]⟩)).map fun l => ⟨2,0,l,[]⟩ := by
     unfold Dz; rfl
   rw [this,h]; rfl
 show (Option.bind ((Dz FF ss t (Ae op g ns) ([(⟨2,0,BZ FF (Av w) ss t,[]⟩ : Vv)].drop (1 - (Ae op g ns).parts.toNat))).bind _) _) = _
 rw [e1,Option.bind_some]
 show (Option.bind (JA FF ss t [Ae WT g' ns'] [(⟨2,0,m,[]⟩ : Vv)]) _) = _
 rw [JA]
 have e2 : Dz FF ss t (Ae WT g' ns') ([(⟨2,0,m,[]⟩ : Vv)].drop (1 - (Ae WT g' ns').parts.toNat)) = (Bu FF (HK FF (Ae WT g' ns') ⟨2,0,m,[]⟩)).map fun l => ⟨2,0,l,[]⟩ := by
   unfold Dz; rfl
 show (Option.bind ((Dz FF ss t (Ae WT g' ns') ([(⟨2,0,m,[]⟩ : Vv)].drop (1 - (Ae WT g' ns').parts.toNat))).bind _) _) = _
 rw [e2]
 cases Bu FF (HK FF (Ae WT g' ns') ⟨2,0,m,[]⟩) <;> rfl
structure AIs (w b : ByteArray) (ss : List Sr) (t : Int) (MX MC MM : List LZ) (K : List Int) : Prop where
 x : (instF [Av w,Ae 1 1 [b]] ss t).2 = MX.map M4
 c : (instF [Av w,Ae 5 1 [b]] ss t).2 = MC.map M4
 m : (instF [Av w,Ae 2 1 [b]] ss t).2 = MM.map M4
 lc : MC.length = MX.length
 lm : MM.length = MX.length
 e : MX = [] ↔ K = []
 kl : K.length ≤ 2000000
 k : ∀ v ∈ K,0 ≤ v ∧ v < 1000
 nx : ∀ v ∈ MX,0 ≤ v.2
 nc : ∀ v ∈ MC,0 ≤ v.2
 nm : ∀ v ∈ MM,0 ≤ v.2 ∧ v.2 < 1000
 sx : BD (MX.map (·.2)) = BD K
 sc : BD (MC.map (·.2)) = K.length
 sm : K ≠ [] → OA (MM.map (·.2)) = OA K
 y : (instF [Av w,Ae 1 0 []] ss t).2 = if K = [] then [] else [⟨[],DS (BD K)⟩]
 d : (instF [Av w,Ae 5 0 []] ss t).2 = if K = [] then [] else [⟨[],DS K.length⟩]
 n : (instF [Av w,Ae 2 0 []] ss t).2 = if K = [] then [] else [⟨[],DS (OA K)⟩]
 z : (instF [Av w,Ae 1 1 [b],Ae 1 0 []] ss t).2 = if K = [] then [] else [⟨[],DS (BD K)⟩]
theorem qq {w b : ByteArray} {ss : List Sr} {t : Int} (hw : w.size ≤ 256) (hb : b = kA ∨ b = kB) (hl : ss.length ≤ 2000000) (hv : ∀ s ∈ ss,∀ p ∈ s.ps,∃ k : Int,0 ≤ k ∧ k < 1000 ∧ p.2 = DS k) :
   (∀ T ∈ [[Av w,Ae 1 0 []],[Av w,Ae 5 1 [b]],[Av w,Ae 5 0 []],[Av w,Ae 2 1 [b]],[Av w,Ae 2 0 []],[Av w,Ae 1 1 [b],Ae 1 0 []]],(instF T ss t).1 = (instF [Av w,Ae 1 1 [b]] ss t).1) ∧
   ((instF [Av w,Ae 1 1 [b]] ss t).1 = 0 → ∃ MX MC MM K,AIs w b ss t MX MC MM K) := by
 obtain ⟨M,hM⟩ : ∃ M : List {x : LZ // 0 ≤ x.2 ∧ x.2 < 1000},BZ FF (Av w) ss t = M.map fun x => M4 x.1 := qk fun e he => by
   obtain ⟨s,hs,_,_,p,hp,hpe⟩ := ACW he
   obtain ⟨k,h0,h1,hk⟩ := hv s hs p hp
   exact ⟨⟨(e.ls,k),h0,h1⟩,by cases e; simp only [M4] at *; rw [← hpe,hk]⟩
 have xv : BZ FF (Av w) ss t = (M.map (·.1)).map M4 := by rw [hM,List.map_map]; rfl
 have hlen : (M.map (·.1)).length ≤ 2000000 := by
   have h1 : (BZ FF (Av w) ss t).length ≤ ss.length := List.length_filterMap_le ..
   rw [xv,List.length_map] at h1
   omega
 have hMb : ∀ x ∈ M.map (·.1),0 ≤ x.2 ∧ x.2 < 1000 := fun x hx => by
   obtain ⟨y,_,rfl⟩ := List.mem_map.1 hx
   exact y.2
 clear hM
 generalize M.map (·.1) = M' at xv hlen hMb
 clear M
 have kK : ∀ v ∈ M'.map (·.2),0 ≤ v ∧ v < 1000 := fun v hv => by
   obtain ⟨y,hy,rfl⟩ := List.mem_map.1 hv
   exact hMb y hy
 have ABj := Ql (k := 1000) (l := M'.map (·.2)) fun x hx => by have := kK x hx; omega
 rw [List.length_map] at ABj
 have ARx := JJ (l := M'.map (·.2)) fun x hx => (kK x hx).1
 have j2 : ∀ op : Nat,op = 1 ∨ op = 2 ∨ op = 5 → ∃ N : List LZ,A1 FF [Av w,Ae op 1 [b]] ss t = some (N.map M4) ∧ N.Perm ((L9 (BB (Ae 1 1 [b])) M' []).map fun g => (g.1,Ta op g.2)) := fun op FU => by
   obtain ⟨N,h1,h2⟩ := ACa (n := Ae op 1 [b]) FU rfl hMb hlen
   exact ⟨N,by rw [Wc,xv,h1],h2⟩
 have al : ∀ op : Nat,op = 1 ∨ op = 2 ∨ op = 5 → A1 FF [Av w,Ae op 0 []] ss t = some (if M' = [] then [] else [⟨[],DS (Ta op (M'.map (·.2)))⟩]) := fun op FU => by
   rw [Wc,xv]
   exact fy FU (fun x hx => (hMb x hx).1) fun Az => fx FU (by simpa using Az) kK (by rw [List.length_map]; exact hlen)
 obtain ⟨NX,hX,pX⟩ := j2 1 (.inl rfl)
 obtain ⟨NM,hN,pM⟩ := j2 2 (.inr (.inl rfl))
 obtain ⟨NC,hC,pC⟩ := j2 5 (.inr (.inr rfl))
 have hG := O7 (k := BB (Ae 1 1 [b])) M' []
 have hGn := Wf (k := BB (Ae 1 1 [b])) (M := M') (gs := []) (fun g hg => by cases hg)
 simp only [Hq,List.flatMap_nil,List.append_nil] at hG
 change (Hq (L9 (BB (Ae 1 1 [b])) M' [])).Perm _ at hG
 generalize L9 (BB (Ae 1 1 [b])) M' [] = G at *
 have sX : BD (NX.map (·.2)) = BD (M'.map (·.2)) := by
   rw [O6 (pX.map (·.2)),List.map_map,← O6 hG,← fu]; rfl
 have gnn : ∀ g ∈ G,∀ x ∈ g.2,0 ≤ x ∧ x < 1000 := fun g hg x hx => kK x (hG.mem_iff.1 (Wg hg hx))
 have nX : ∀ v ∈ NX,0 ≤ v.2 := fun v hv => by
   obtain ⟨g,hg,rfl⟩ := List.mem_map.1 (pX.mem_iff.1 hv)
   exact JJ fun x hx => (gnn g hg x hx).1
 have eX : NX = [] ↔ M' = [] := by
   have h1 := pX.length_eq
   have h2 := hG.length_eq
   rw [List.length_map] at h1 h2
   constructor
   · rintro rfl
     have : G = [] := List.eq_nil_of_length_eq_zero h1.symm
     subst this
     exact List.eq_nil_of_length_eq_zero h2.symm
   · rintro rfl
     cases hq : NX with
     | nil => rfl
     | cons a l =>
       cases G with
       | nil => rw [hq] at h1; cases h1
       | cons g G =>
         have h3 := hGn g (List.mem_cons_self ..)
         have h4 : Hq (g :: G) = [] := List.eq_nil_of_length_eq_zero h2
         unfold Hq at h4
         rw [List.flatMap_cons] at h4
         exact absurd (List.append_eq_nil_iff.1 h4).1 h3
 have hZ : A1 FF [Av w,Ae 1 1 [b],Ae 1 0 []] ss t = some (if M' = [] then [] else [⟨[],DS (BD (M'.map (·.2)))⟩]) := by
   rw [qo hX,fy (.inl rfl) nX fun Az => ?_]
   · by_cases h : M' = []
     · rw [if_pos h,if_pos (eX.2 h)]
     · rw [if_neg h,if_neg (fun hh => h (eX.1 hh))]
       show some [(⟨[],DS (BD (NX.map (·.2)))⟩ : El)] = _
       rw [sX]
   · show QG ((NX.map (·.2)).map DS) = DS (BD (NX.map (·.2)))
     refine fp (by simpa using Az) (fun x hx => ?_) (by rw [sX]; omega)
     obtain ⟨y,hy,rfl⟩ := List.mem_map.1 hx
     exact nX y hy
 have tyB : ∀ op : Nat,op = 1 ∨ op = 2 ∨ op = 5 → IV [Av w,Ae op 1 [b]] = some 2 := fun op FU => by
   rcases FU with rfl | rfl | rfl <;> rcases hb with rfl | rfl <;> exact qe hw (by kernel_rfl)
 have tyA : ∀ op : Nat,op = 1 ∨ op = 2 ∨ op = 5 → IV [Av w,Ae op 0 []] = some 2 := fun op FU => by
   rcases FU with rfl | rfl | rfl <;> exact qe hw (by kernel_rfl)
 have tyZ : IV [Av w,Ae 1 1 [b],Ae 1 0 []] = some 2 := by
   rcases hb with rfl | rfl <;> exact vL hw (by kernel_rfl)
 have cX := JK (t := t) (ss := ss) (tyB 1 (.inl rfl)) ⟨_,hX⟩
 have cM := JK (t := t) (ss := ss) (tyB 2 (.inr (.inl rfl))) ⟨_,hN⟩
 have cC := JK (t := t) (ss := ss) (tyB 5 (.inr (.inr rfl))) ⟨_,hC⟩
 have cY := JK (t := t) (ss := ss) (tyA 1 (.inl rfl)) ⟨_,al 1 (.inl rfl)⟩
 have cN := JK (t := t) (ss := ss) (tyA 2 (.inr (.inl rfl))) ⟨_,al 2 (.inr (.inl rfl))⟩
 have cD := JK (t := t) (ss := ss) (tyA 5 (.inr (.inr rfl))) ⟨_,al 5 (.inr (.inr rfl))⟩
 have cZ := JK (t := t) (ss := ss) tyZ ⟨_,hZ⟩
 refine ⟨fun T hT => ?_,fun h0 => ?_⟩
 · simp only [List.mem_cons,List.not_mem_nil,or_false] at hT
   rcases hT with rfl | rfl | rfl | rfl | rfl | rfl
   · rw [cX,cY]
   · rw [cX,cC]
   · rw [cX,cD]
   · rw [cX,cM]
   · rw [cX,cN]
   · rw [cX,cZ]
 · rw [cX] at h0
   have vM : ∀ {T : List Nd} {m : List El},(instF T ss t).1 = (if HM none ss = true then (if ¬ (-1099511627776 ≤ t ∧ t ≤ 1099511627776) then 221 else 0) else 224) → A1 FF T ss t = some m → (instF T ss t).2 = m := fun hc hm => by
     have := (inst_ok (by rw [hc,h0])).2
     rw [hm] at this
     exact (Option.some.inj this).symm
   have kn : M'.map (·.2) = [] ↔ M' = [] := List.map_eq_nil_iff
   have ifK : ∀ x : El,(if M' = [] then [] else [x]) = if M'.map (·.2) = [] then [] else [x] := fun x => by
     by_cases h : M' = []
     · rw [if_pos h,if_pos (kn.2 h)]
     · rw [if_neg h,if_neg fun hh => h (kn.1 hh)]
   refine ⟨NX,NC,NM,M'.map (·.2),⟨vM cX hX,vM cC hC,vM cM hN,?_,?_,eX.trans kn.symm,by rw [List.length_map]; exact hlen,kK,nX,fun v hv => ?_,fun v hv => ?_,sX,?_,fun Az => ?_,?_,?_,?_,?_⟩⟩
   · rw [pC.length_eq,pX.length_eq,List.length_map,List.length_map]
   · rw [pM.length_eq,pX.length_eq,List.length_map,List.length_map]
   · obtain ⟨g,hg,rfl⟩ := List.mem_map.1 (pC.mem_iff.1 hv)
     exact Int.natCast_nonneg _
   · obtain ⟨g,hg,rfl⟩ := List.mem_map.1 (pM.mem_iff.1 hv)
     exact gnn g hg _ (FT (hGn g hg)).1
   · rw [O6 (pC.map (·.2)),List.map_map]
     have := fw G
     rw [hG.length_eq] at this
     exact this
   · have h1 : NM ≠ [] := fun e => Az (kn.2 (eX.1 (List.eq_nil_of_length_eq_zero (by rw [pX.length_eq,List.length_map,← List.length_map (f := fun g : GZ => (g.1,Ta 2 g.2)),← pM.length_eq,e]; rfl))))
     have h2 : LL (OA (NM.map (·.2))) (NM.map (·.2)) := FT (by simpa using h1)
     have h3 := h2.perm (pM.map (·.2))
     rw [List.map_map] at h3
     exact ((vK hGn h3).perm hG).eq (FT Az)
   · rw [vM cY (al 1 (.inl rfl)),ifK]; rfl
   · rw [vM cD (al 5 (.inr (.inr rfl))),ifK]; rfl
   · rw [vM cN (al 2 (.inr (.inl rfl))),ifK]; rfl
   · rw [vM cZ hZ,ifK]
end TwW
end
section
namespace TwW
open Go Tw Go.RowKit Go.Proofs.Tryz
def vN (p : Pt) : Pt := (p.1,DS (p.2 % 1000))
section
variable {s : ByteArray} {c : UInt8}
theorem sxA (w : List UInt8) (hw : kwB w = true) (hp : TV s = true) : Lx ((bA (w ++ [40]) ++ s) ++ bA [41]).data.toList [Cd 3 (bA w) 0,Cd 5 (bA [40]) 0,Ia s,Cd 5 (bA [41]) 0,LK] := by
 rw [D0,D0]
 show Lx (((w ++ [40]) ++ s.data.toList) ++ [41]) _
 rw [List.append_assoc,List.append_assoc]
 exact Lx.kw w hw (HA (by decide)) (Lx.sg (c := 40) (by decide) (by decide) (Lx.w hp (HA (by decide)) (Lx.sg (by decide) (by decide) Lx.fin)))
theorem sxB (w : List UInt8) (hw : kwB w = true) (hc : c = 97 ∨ c = 98) (hp : TV s = true) : Lx ((((bA (w ++ [32,98,121,32,40]) ++ bA [c]) ++ bA [41,32,40]) ++ s) ++ bA [41]).data.toList [Cd 3 (bA w) 0,Cd 3 (bA [98,121]) 0,Cd 5 (bA [40]) 0,Cd 3 (bA [c]) 0,Cd 5 (bA [41]) 0,Cd 5 (bA [40]) 0,Ia s,Cd 5 (bA [41]) 0,LK] := by
 rw [D0,D0,D0,D0]
 show Lx (((((w ++ [32,98,121,32,40]) ++ [c]) ++ [41,32,40]) ++ s.data.toList) ++ [41]) _
 rw [List.append_assoc,List.append_assoc,List.append_assoc,List.append_assoc]
 have hk : kwB [c] = true := by rcases hc with rfl | rfl <;> decide
 refine Lx.kw w hw (HA (by decide)) ?_
 show Lx (32 :: ([98,121] ++ (32 :: 40 :: ([c] ++ (41 :: 32 :: 40 :: (s.data.toList ++ [41])))))) _
 exact Lx.sp (Lx.kw _ (by decide) (HA (by decide)) (Lx.sp (Lx.sg (by decide) (by decide) (Lx.kw _ hk (HA (by decide)) (Lx.sg (by decide) (by decide) (Lx.sp (Lx.sg (by decide) (by decide) (Lx.w hp (HA (by decide)) (Lx.sg (by decide) (by decide) Lx.fin)))))))))
theorem sxC (hc : c = 97 ∨ c = 98) (hp : TV s = true) : Lx ((((bA [115,117,109,40,115,117,109,32,98,121,32,40] ++ bA [c]) ++ bA [41,32,40]) ++ s) ++ bA [41,41]).data.toList [Cd 3 (bA [115,117,109]) 0,Cd 5 (bA [40]) 0,Cd 3 (bA [115,117,109]) 0,Cd 3 (bA [98,121]) 0,Cd 5 (bA [40]) 0,Cd 3 (bA [c]) 0,Cd 5 (bA [41]) 0,Cd 5 (bA [40]) 0,Ia s,Cd 5 (bA [41]) 0,Cd 5 (bA [41]) 0,LK] := by
 rw [D0,D0,D0,D0]
 have hk : kwB [c] = true := by rcases hc with rfl | rfl <;> decide
 show Lx ([115,117,109] ++ (40 :: ([115,117,109] ++ (32 :: ([98,121] ++ (32 :: 40 :: ([c] ++ (41 :: 32 :: 40 :: (s.data.toList ++ [41,41]))))))))) _
 exact Lx.kw _ (by decide) (HA (by decide)) (Lx.sg (by decide) (by decide) (Lx.kw _ (by decide) (HA (by decide)) (Lx.sp (Lx.kw _ (by decide) (HA (by decide)) (Lx.sp (Lx.sg (by decide) (by decide) (Lx.kw _ hk (HA (by decide)) (Lx.sg (by decide) (by decide) (Lx.sp (Lx.sg (by decide) (by decide) (Lx.w hp (HA (by decide)) (Lx.sg (by decide) (by decide) (Lx.sg (by decide) (by decide) Lx.fin)))))))))))))
abbrev vO : List UInt8 := [115,117,109]
abbrev vP : List UInt8 := [99,111,117,110,116]
abbrev vQ : List UInt8 := [109,105,110]
theorem APJ : pz 60 0 0 [Cd 3 (bA vO) 0,Cd 5 (bA [40]) 0,Ia s,Cd 5 (bA [41]) 0,LK] = some ([LK],[Av s,Ae 1 0 []]) := by kernel_rfl
theorem APK : pz 60 0 0 [Cd 3 (bA vQ) 0,Cd 5 (bA [40]) 0,Ia s,Cd 5 (bA [41]) 0,LK] = some ([LK],[Av s,Ae 2 0 []]) := by kernel_rfl
theorem APL : pz 60 0 0 [Cd 3 (bA vP) 0,Cd 5 (bA [40]) 0,Ia s,Cd 5 (bA [41]) 0,LK] = some ([LK],[Av s,Ae 5 0 []]) := by kernel_rfl
theorem APM (hc : c = 97 ∨ c = 98) : pz 60 0 0 [Cd 3 (bA vO) 0,Cd 3 (bA [98,121]) 0,Cd 5 (bA [40]) 0,Cd 3 (bA [c]) 0,Cd 5 (bA [41]) 0,Cd 5 (bA [40]) 0,Ia s,Cd 5 (bA [41]) 0,LK] = some ([LK],[Av s,Ae 1 1 [ByteArray.mk #[c]]]) := by rcases hc with rfl | rfl <;> kernel_rfl
theorem APN (hc : c = 97 ∨ c = 98) : pz 60 0 0 [Cd 3 (bA vQ) 0,Cd 3 (bA [98,121]) 0,Cd 5 (bA [40]) 0,Cd 3 (bA [c]) 0,Cd 5 (bA [41]) 0,Cd 5 (bA [40]) 0,Ia s,Cd 5 (bA [41]) 0,LK] = some ([LK],[Av s,Ae 2 1 [ByteArray.mk #[c]]]) := by rcases hc with rfl | rfl <;> kernel_rfl
theorem APO (hc : c = 97 ∨ c = 98) : pz 60 0 0 [Cd 3 (bA vP) 0,Cd 3 (bA [98,121]) 0,Cd 5 (bA [40]) 0,Cd 3 (bA [c]) 0,Cd 5 (bA [41]) 0,Cd 5 (bA [40]) 0,Ia s,Cd 5 (bA [41]) 0,LK] = some ([LK],[Av s,Ae 5 1 [ByteArray.mk #[c]]]) := by rcases hc with rfl | rfl <;> kernel_rfl
theorem szC (hc : c = 97 ∨ c = 98) : pz 60 0 0 [Cd 3 (bA [115,117,109]) 0,Cd 5 (bA [40]) 0,Cd 3 (bA [115,117,109]) 0,Cd 3 (bA [98,121]) 0,Cd 5 (bA [40]) 0,Cd 3 (bA [c]) 0,Cd 5 (bA [41]) 0,Cd 5 (bA [40]) 0,Ia s,Cd 5 (bA [41]) 0,Cd 5 (bA [41]) 0,LK] = some ([LK],[Av s,Ae 1 1 [ByteArray.mk #[c]],Ae 1 0 []]) := by rcases hc with rfl | rfl <;> kernel_rfl
theorem ACb (a e : Array UInt8) (ha : a.size ≤ 100) (he : e.size ≤ 100) (hs : s.size ≤ 100) : (ByteArray.size (ByteArray.mk a) + ByteArray.size s ≤ 9223372036854775807) ∧ (ByteArray.size ((ByteArray.mk a) ++ s) + ByteArray.size (ByteArray.mk e) ≤ 9223372036854775807) ∧ ByteArray.size (((ByteArray.mk a) ++ s) ++ (ByteArray.mk e)) ≤ 4096 := by
 have e1 : ByteArray.size (ByteArray.mk a) = a.size := rfl
 have e3 : ByteArray.size (ByteArray.mk e) = e.size := rfl
 simp only [ByteArray.size_append,e1,e3]
 omega
theorem vR (a d e : Array UInt8) (b : ByteArray) (ha : a.size ≤ 100) (hd : d.size ≤ 100) (he : e.size ≤ 100) (hb : b.size ≤ 100) (hs : s.size ≤ 100) : (ByteArray.size (ByteArray.mk a) + ByteArray.size b ≤ 9223372036854775807) ∧ (ByteArray.size ((ByteArray.mk a) ++ b) + ByteArray.size (ByteArray.mk d) ≤ 9223372036854775807) ∧ (ByteArray.size (((ByteArray.mk a) ++ b) ++ (ByteArray.mk d)) + ByteArray.size s ≤ 9223372036854775807) ∧ (ByteArray.size ((((ByteArray.mk a) ++ b) ++ (ByteArray.mk d)) ++ s) + ByteArray.size (ByteArray.mk e) ≤ 9223372036854775807) ∧ ByteArray.size (((((ByteArray.mk a) ++ b) ++ (ByteArray.mk d)) ++ s) ++ (ByteArray.mk e)) ≤ 4096 := by
 have e1 : ByteArray.size (ByteArray.mk a) = a.size := rfl
 have e2 : ByteArray.size (ByteArray.mk d) = d.size := rfl
 have e3 : ByteArray.size (ByteArray.mk e) = e.size := rfl
 simp only [ByteArray.size_append,e1,e2,e3]
 omega
end
section
variable {σ σ0 τ : Hp} {R : Rr}
theorem ACc {n : Int} {Φ : Value → Hp → Prop} (h : Φ (.float .f64 (Hc n)) σ) : AJ prog (convert 48 51 (.int .u64 n)) σ Φ := IP (v := .float .f64 (FloatKind.f64.nearest n)) (fun w => by kernel_rfl) h
theorem inf_spec (h : R (.returned (.float .f64 9218868437227405312)) σ) : Spec prog 27 #[.int .i64 1] σ R :=
 SO.start ⟨fun _ => SO.A5 (.y Oo ⟨_,rfl,h⟩),fun hh => absurd (by decide) hh⟩
theorem dO {t : Int} {pX pY pC pD pM pN : Option Addr} {nY cX cY cC cD cM cN : Nat} {MX MC MM : List LZ} {Y D N : List El} {a b : Int} (Wh : ∀ {Q : Rr},(∀ σ2,Ext σ σ2 → Q (.returned (.bool true)) σ2) → Spec prog 14 #[] σ (AA Q (CB fun t26 AF => Q (.returned (.bool t26)) AF)))
   (rX : Ad 2 Cq σ pX MX.length (Zq t (MX.map M4))) (rC : Ad 2 Cq σ pC MX.length (Zq t (MC.map M4))) (rM : Ad 2 Cq σ pM MX.length (Zq t (MM.map M4))) (rY : Ad 2 Cq σ pY nY (Zq t Y)) (rD : Ad 2 Cq σ pD nY (Zq t D)) (rN : Ad 2 Cq σ pN nY (Zq t N))
   (lC : MC.length = MX.length) (lM : MM.length = MX.length) (nX : ∀ v ∈ MX,0 ≤ v.2) (nC : ∀ v ∈ MC,0 ≤ v.2) (nM : ∀ v ∈ MM,0 ≤ v.2 ∧ v.2 < 1000) (sX : BD (MX.map (·.2)) = a) (sC : BD (MC.map (·.2)) = b) (ha : a < 4503599627370496) (hb : b < 4503599627370496)
   (hY : nY ≠ 0 → Y = [⟨[],DS a⟩] ∧ D = [⟨[],DS b⟩] ∧ N = [⟨[],(dL (MM.map (·.2)) : Nat)⟩])
   (hR : ∀ σ',Ext σ σ' → R (.returned (.bool true)) σ') :
   AV.bc R pX MX.length cX pY nY cY pC MX.length cC pD nY cD pM MX.length cM pN nY cN (.float .f64 0) (.float .f64 0) (.float .f64 9218868437227405312) 0 σ := by
 have Ho := rX.big
 have z0 : (0 : Nat) = Hc 0 := by unfold Hc Ieee.Format.nearest; rfl
 suffices H : ∀ g i : Nat,MX.length - i = g → i ≤ MX.length → AV.bc R pX MX.length cX pY nY cY pC MX.length cC pD nY cD pM MX.length cM pN nY cN (.float .f64 (Hc (BD ((MX.take i).map (·.2))))) (.float .f64 (Hc (BD ((MC.take i).map (·.2))))) (.float .f64 (dL ((MM.take i).map (·.2)))) (i : Int) σ by
   have := H MX.length 0 rfl (Nat.zero_le _)
   rw [List.take_zero,List.take_zero,List.take_zero] at this
   rw [z0]; exact this
 intro g
 induction g with
 | zero =>
   intro i hg hi
   have BN : i = MX.length := by omega
   subst BN
   rw [List.take_of_length_le (Nat.le_refl _),List.take_of_length_le (by omega),List.take_of_length_le (by omega),sX,sC]
   refine AV.et ⟨fun hh => by omega,fun _ => ⟨fun _ => Wh hR,fun Az => ?_⟩⟩
   obtain ⟨hY,hD,hN⟩ := hY (by omega)
   subst hY; subst hD; subst hN
   have hs : ∀ {x y : Int},x = y → ([(⟨[],x⟩ : El)].any fun e => decide (e.v = y)) = true := fun h => by simp [h]
   refine Fz ⟨_,rfl,TY rY ⟨_,rfl,fun _ => Fz ⟨_,rfl,TY rD ⟨_,rfl,fun _ => Fz ⟨_,rfl,TY rN ⟨_,rfl,fun _ => Wh hR,fun hf => ?_⟩⟩,fun hf => ?_⟩⟩,fun hf => ?_⟩⟩
   · exact absurd (hf.symm.trans (hs rfl)) (by decide)
   · exact absurd (hf.symm.trans (hs rfl)) (by decide)
   · exact absurd (hf.symm.trans (hs rfl)) (by decide)
 | succ g ih =>
   intro i hg hi
   have BN : i < MX.length := by omega
   obtain ⟨x,hx⟩ : ∃ x,MX[i]? = some x := ⟨_,List.getElem?_eq_getElem BN⟩
   obtain ⟨y,hy⟩ : ∃ x,MC[i]? = some x := ⟨_,List.getElem?_eq_getElem (by omega)⟩
   obtain ⟨z,hz⟩ : ∃ x,MM[i]? = some x := ⟨_,List.getElem?_eq_getElem (by omega)⟩
   have ACd : ∀ {M : List LZ} {x : LZ},M[i]? = some x → (M.map M4)[i]? = some (M4 x) := fun h => by rw [List.getElem?_map,h]; rfl
   obtain ⟨b1,o1,_,_,_,b2,o2,d2,rfl,l1,_,l2⟩ := Wd rX (ACd hx)
   obtain ⟨b3,o3,_,_,_,b4,o4,d4,rfl,l3,_,l4⟩ := Wd rC (ACd hy)
   obtain ⟨b5,o5,_,_,_,b6,o6,d6,rfl,l5,_,l6⟩ := Wd rM (ACd hz)
   have bx : ∀ {M : List LZ} {x : LZ} {S : Int},(∀ v ∈ M,0 ≤ v.2) → M[i]? = some x → BD (M.map (·.2)) = S → 0 ≤ BD ((M.take i).map (·.2)) ∧ 0 ≤ x.2 ∧ BD ((M.take i).map (·.2)) + x.2 ≤ S ∧ BD ((M.take (i + 1)).map (·.2)) = BD ((M.take i).map (·.2)) + x.2 := fun {M x S} hn hx hS => by
     have hm := List.mem_of_getElem? hx
     have h0 := hn x hm
     have h1 : 0 ≤ BD ((M.take i).map (·.2)) := JJ fun v hv => by
       obtain ⟨u,hu,rfl⟩ := List.mem_map.1 hv
       exact hn u (List.mem_of_mem_take hu)
     have h2 : 0 ≤ BD ((M.drop (i + 1)).map (·.2)) := JJ fun v hv => by
       obtain ⟨u,hu,rfl⟩ := List.mem_map.1 hv
       exact hn u (List.mem_of_mem_drop hu)
     have e1 : BD ((M.take (i + 1)).map (·.2)) = BD ((M.take i).map (·.2)) + x.2 := by
       rw [AZ hx,List.map_append,N9]
       simp [BD]
     have e2 : BD (M.map (·.2)) = BD ((M.take (i + 1)).map (·.2)) + BD ((M.drop (i + 1)).map (·.2)) := by
       rw [← N9,← List.map_append,List.take_append_drop]
     exact ⟨h1,h0,by omega,e1⟩
   obtain ⟨x1,x2,x3,x4⟩ := bx nX hx sX
   obtain ⟨y1,y2,y3,y4⟩ := bx nC hy sC
   obtain ⟨z1,z2⟩ := nM z (List.mem_of_getElem? hz)
   have sm : Sml ((MM.take i).map (·.2)) := fun v hv => by
     obtain ⟨u,hu,rfl⟩ := List.mem_map.1 hv
     have := nM u (List.mem_of_mem_take hu)
     omega
   have Th : ∀ k : Nat,((i : Int)).toNat = i := fun _ => Int.toNat_natCast i
   have tz : ((MM.take (i + 1)).map (·.2)) = (MM.take i).map (·.2) ++ [z.2] := by rw [AZ hz,List.map_append]; rfl
   have fn : ∀ n : Int,(DS n).toNat = Hc n := fun n => by unfold DS; exact Int.toNat_natCast _
   have := ih (i + 1) (by omega) (by omega)
   rw [x4,y4,tz,show ((i + 1 : Nat) : Int) = (i : Int) + 1 by omega] at this
   have ex : (M4 x).v = DS x.2 := rfl
   have ey : (M4 y).v = DS y.2 := rfl
   have ez : (M4 z).v = DS z.2 := rfl
   refine AV.et ⟨fun _ => ⟨b1,o1,rfl,by omega,aD b2 o2,1,d2,by simpa using l1.2.1,fun hh => absurd rfl hh,fun _ => ⟨b3,o3,rfl,by omega,aD b4 o4,1,d4,by simpa using l3.2.1,fun hh => absurd rfl hh,fun _ => ⟨b5,o5,rfl,by omega,aD b6 o6,1,d6,by simpa using l5.2.1,fun hh => absurd rfl hh,fun _ =>
     ⟨by omega,aD b2 o2,1,d2,by simpa using l1.2.1,b2,o2,rfl,by decide,(M4 x).v,by simpa using l2.2.1,.y Oo ⟨_,rfl,?_⟩⟩⟩⟩⟩,fun hh => by omega⟩
   rw [ex,fn]
   refine Zr (by omega) (by omega) ⟨_,rfl,by omega,aD b4 o4,1,d4,by simpa using l3.2.1,b4,o4,rfl,by decide,(M4 y).v,by simpa using l4.2.1,.y Oo ⟨_,rfl,?_⟩⟩
   rw [ey,fn]
   refine Zr (by omega) (by omega) ⟨_,rfl,by omega,aD b6 o6,1,d6,by simpa using l5.2.1,b6,o6,rfl,by decide,(M4 z).v,by simpa using l6.2.1,.y Oo ⟨_,rfl,?_⟩⟩
   rw [ez,fn]
   exact qj sm (by omega) ⟨_,rfl,AK BN Ho,this⟩
set_option maxHeartbeats 4000000 in
theorem dP {p : Option Addr} {n c0 : Nat} {t : Int} {s : ByteArray} {c : UInt8} {S : List Sr} (Wh : Awk) (hg : Gl σ) (hc : c = 97 ∨ c = 98) (hp : TV s = true) (hs : Ad 2 Cq σ p n S) (hS : yB S) (hM : Modest [] S) (hl : S.length ≤ 2000000) (hv : ∀ s ∈ S,∀ p ∈ s.ps,∃ k : Int,0 ≤ k ∧ k < 1000 ∧ p.2 = DS k) (hR : ∀ σ',Ext σ σ' → R (.returned (.bool true)) σ') :
   AV.QB R t s (ByteArray.mk #[c]) p n c0 (n : Int) σ := by
 have awk : ∀ {Q : Rr},∀ σ',Ext σ σ' → (∀ σ2,Ext σ' σ2 → Q (.returned (.bool true)) σ2) → Spec prog 14 #[] σ' (AA Q (CB fun t26 AF => Q (.returned (.bool t26)) AF)) := fun {Q} σ' hx hq => Wh σ' _ (hg.mono hx) fun σ2 A7 => ⟨_,rfl,hq σ2 A7⟩
 obtain ⟨_,_,AVW,_⟩ := Qk hp
 have T8 : (ByteArray.mk #[c]).size ≤ 100 := (by decide : 1 ≤ 100)
 have Tc : s.size ≤ 100 := by omega
 have z1 := vR (s := s) #[115,117,109,32,98,121,32,40] #[41,32,40] #[41] (ByteArray.mk #[c]) (by decide) (by decide) (by decide) T8 Tc
 have z2 := ACb (s := s) #[115,117,109,40] #[41] (by decide) (by decide) Tc
 have z3 := vR (s := s) #[99,111,117,110,116,32,98,121,32,40] #[41,32,40] #[41] (ByteArray.mk #[c]) (by decide) (by decide) (by decide) T8 Tc
 have z4 := ACb (s := s) #[99,111,117,110,116,40] #[41] (by decide) (by decide) Tc
 have z5 := vR (s := s) #[109,105,110,32,98,121,32,40] #[41,32,40] #[41] (ByteArray.mk #[c]) (by decide) (by decide) (by decide) T8 Tc
 have z6 := ACb (s := s) #[109,105,110,40] #[41] (by decide) (by decide) Tc
 have z7 := vR (s := s) #[115,117,109,40,115,117,109,32,98,121,32,40] #[41,32,40] #[41,41] (ByteArray.mk #[c]) (by decide) (by decide) (by decide) T8 Tc
 have hb : (ByteArray.mk #[c]) = kA ∨ (ByteArray.mk #[c]) = kB := hc.imp (fun e => by rw [e]; rfl) fun e => by rw [e]; rfl
 obtain ⟨VJ,vM⟩ := qq (t := t) (w := s) (by omega) hb hl hv
 have cY := VJ _ (by simp : [Av s,Ae 1 0 []] ∈ _)
 have cC := VJ _ (by simp : [Av s,Ae 5 1 [ByteArray.mk #[c]]] ∈ _)
 have cD := VJ _ (by simp : [Av s,Ae 5 0 []] ∈ _)
 have cM := VJ _ (by simp : [Av s,Ae 2 1 [ByteArray.mk #[c]]] ∈ _)
 have cN := VJ _ (by simp : [Av s,Ae 2 0 []] ∈ _)
 have cZ := VJ _ (by simp : [Av s,Ae 1 1 [ByteArray.mk #[c]],Ae 1 0 []] ∈ _)
 refine AV.Qd ⟨fun hh => by omega,fun _ => ⟨z1.1,z1.2.1,z1.2.2.1,z1.2.2.2.1,FR hg hs hS hM (sxB vO (by decide) hc hp) z1.2.2.2.2 (APM hc) rfl (by kernel_rfl) (by kernel_rfl) (by kernel_rfl) fun σ2 p2 n2 c2 r2 x2 => ⟨_,_,_,_,rfl,z2.1,z2.2.1,?_⟩⟩⟩
 refine FR (hg.mono x2) (hs.mono Cq.mono x2) hS hM (sxA vO (by decide) hp) z2.2.2 APJ rfl (by kernel_rfl) (by kernel_rfl) (by kernel_rfl) fun σ3 p3 n3 c3 r3 x3 => ⟨_,_,_,_,rfl,z3.1,z3.2.1,z3.2.2.1,z3.2.2.2.1,?_⟩
 have X3 := x2.trans x3
 refine FR (hg.mono X3) (hs.mono Cq.mono X3) hS hM (sxB vP (by decide) hc hp) z3.2.2.2.2 (APO hc) rfl (by kernel_rfl) (by kernel_rfl) (by kernel_rfl) fun σ4 p4 n4 c4 r4 x4 => ⟨_,_,_,_,rfl,z4.1,z4.2.1,?_⟩
 have X4 := X3.trans x4
 refine FR (hg.mono X4) (hs.mono Cq.mono X4) hS hM (sxA vP (by decide) hp) z4.2.2 APL rfl (by kernel_rfl) (by kernel_rfl) (by kernel_rfl) fun σ5 p5 n5 c5 r5 x5 => ⟨_,_,_,_,rfl,z5.1,z5.2.1,z5.2.2.1,z5.2.2.2.1,?_⟩
 have X5 := X4.trans x5
 refine FR (hg.mono X5) (hs.mono Cq.mono X5) hS hM (sxB vQ (by decide) hc hp) z5.2.2.2.2 (APN hc) rfl (by kernel_rfl) (by kernel_rfl) (by kernel_rfl) fun σ6 p6 n6 c6 r6 x6 => ⟨_,_,_,_,rfl,z6.1,z6.2.1,?_⟩
 have X6 := X5.trans x6
 refine FR (hg.mono X6) (hs.mono Cq.mono X6) hS hM (sxA vQ (by decide) hp) z6.2.2 APK rfl (by kernel_rfl) (by kernel_rfl) (by kernel_rfl) fun σ7 p7 n7 c7 r7 x7 => ⟨_,_,_,_,rfl,z7.1,z7.2.1,z7.2.2.1,z7.2.2.2.1,?_⟩
 have X7 := X6.trans x7
 refine FR (hg.mono X7) (hs.mono Cq.mono X7) hS hM (sxC hc hp) z7.2.2.2.2 (szC hc) rfl (by kernel_rfl) (by kernel_rfl) (by kernel_rfl) fun σ8 p8 n8 c8 r8 x8 => ⟨_,_,_,_,rfl,?_⟩
 have X8 := X7.trans x8
 have q2 := r2.mono Cq.mono (x3.trans (x4.trans (x5.trans (x6.trans (x7.trans x8)))))
 have q3 := r3.mono Cq.mono (x4.trans (x5.trans (x6.trans (x7.trans x8))))
 have q4 := r4.mono Cq.mono (x5.trans (x6.trans (x7.trans x8)))
 have q5 := r5.mono Cq.mono (x6.trans (x7.trans x8))
 have q6 := r6.mono Cq.mono (x7.trans x8)
 have q7 := r7.mono Cq.mono x8
 rw [cY,cC,cD,cM,cN,cZ]
 by_cases hE' : (instF [Av s,Ae 1 1 [ByteArray.mk #[c]]] S t).1 ≠ 0
 · exact ⟨fun _ => ⟨fun _ => ⟨fun _ => ⟨fun _ => ⟨fun _ => ⟨fun _ => ⟨fun _ => awk σ8 X8 fun σ2 h2 => hR σ2 (X8.trans h2),fun hh => absurd rfl hh⟩,fun hh => absurd rfl hh⟩,fun hh => absurd rfl hh⟩,fun hh => absurd rfl hh⟩,fun hh => absurd rfl hh⟩,fun hh => absurd rfl hh⟩,fun hh => absurd hE' hh⟩
 have hE := Decidable.not_not.1 hE'
 obtain ⟨MX,MC,MM,K,A⟩ := vM hE
 unfold ACX at q2 q3 q4 q5 q6 q7 r8
 rw [A.x] at q2
 rw [A.y] at q3
 rw [A.c] at q4
 rw [A.d] at q5
 rw [A.m] at q6
 rw [A.n] at q7
 rw [A.z] at r8
 have QJ : MX.length = n2 := by have := q2.1; rwa [List.length_map,List.length_map] at this
 have fc : MC.length = n4 := by have := q4.1; rwa [List.length_map,List.length_map] at this
 have yE : MM.length = n6 := by have := q6.1; rwa [List.length_map,List.length_map] at this
 have hl3 : n3 = n5 ∧ n3 = n7 ∧ n3 ≤ 1 ∧ (n3 = 0 ↔ K = []) := by
   have h3 := q3.1
   have h5 := q5.1
   have h7 := q7.1
   rw [List.length_map] at h3 h5 h7
   by_cases hK : K = []
   · rw [if_pos hK] at h3 h5 h7
     simp only [List.length_nil] at h3 h5 h7
     exact ⟨by omega,by omega,by omega,fun _ => hK,fun _ => h3.symm⟩
   · rw [if_neg hK] at h3 h5 h7
     simp only [List.length_cons,List.length_nil] at h3 h5 h7
     exact ⟨by omega,by omega,by omega,fun hh => by omega,fun hh => absurd hh hK⟩
 obtain ⟨e5,e7,e3,eK⟩ := hl3
 subst e5; subst e7
 subst QJ
 have h4 := A.lc
 rw [fc] at h4
 subst h4
 have h6 := A.lm
 rw [yE] at h6
 subst h6
 have hK3 : n3 = 0 ↔ MX.length = 0 := eK.trans (A.e.symm.trans List.length_eq_zero_iff.symm)
 have APP : BD K < 4503599627370496 := by
   have h1 := Ql (k := 1000) (l := K) fun x hx => by have := A.k x hx; omega
   have h2 := A.kl
   omega
 have z : ∀ {P : Prop},(instF [Av s,Ae 1 1 [ByteArray.mk #[c]]] S t).1 ≠ 0 → P := fun hh => absurd hE hh
 have go : Spec prog 27 #[.int .i64 1] σ8 (AA R (fun z P4 => ∃ Yu,(Value.float .f64 Yu) = z ∧ AV.bc R p2 MX.length c2 p3 n3 c3 p4 MX.length c4 p5 n3 c5 p6 MX.length c6 p7 n3 c7 (.float .f64 0) (.float .f64 0) (Value.float .f64 Yu) 0 P4)) := by
   refine inf_spec ⟨_,rfl,dO (t := t) (MC := MC) (MM := MM) (awk σ8 X8) q2 q4 q6 q3 q5 q7 A.lc A.lm A.nx A.nc A.nm A.sx A.sc APP (by have := A.kl; omega) (fun h3 => ?_) fun σ' hx => hR σ' (X8.trans hx)⟩
   have hK : K ≠ [] := fun e => h3 (eK.2 e)
   have hMM : MM.map (·.2) ≠ [] := fun e => h3 (hK3.2 (by
     have := A.lm
     rw [List.map_eq_nil_iff] at e
     rw [e] at this
     exact this.symm))
   refine ⟨if_neg hK,if_neg hK,?_⟩
   rw [if_neg hK]
   unfold dL
   rw [if_neg hMM,A.sm hK]
   rfl
 refine ⟨z,fun _ => ⟨z,fun _ => ⟨z,fun _ => ⟨z,fun _ => ⟨z,fun _ => ⟨z,fun _ => ⟨z,fun _ => dJ r8 q3 ⟨_,rfl,fun hh => (by cases hh),fun _ => ⟨fun hh => absurd rfl hh,fun _ => ⟨fun hh => absurd rfl hh,fun _ => ⟨fun hh => by omega,fun _ => ⟨fun hh => absurd rfl hh,fun _ => ⟨fun hh => absurd rfl hh,fun _ => ⟨fun h0 => ⟨fun _ => go,fun hh => absurd (by omega) hh⟩,fun h0 => ⟨fun hh => by omega,fun _ => go⟩⟩⟩⟩⟩⟩⟩⟩⟩⟩⟩⟩⟩⟩⟩
theorem dQ {p : Option Addr} {n c0 : Nat} {t : Int} {s : ByteArray} {c : UInt8} {ss : List Sr} {qs : List (Option Addr × Nat)} (Wh : Awk) (hg : Gl σ0) (hc : c = 97 ∨ c = 98) (hp : TV s = true) (iq : Ext σ0 τ) (hC : Ps τ σ p n c0 ss qs) (hS : yB ss) (hM : Modest [] ss) (hl : ss.length ≤ 2000000) (hv : ∀ s ∈ ss,∀ p ∈ s.ps,0 ≤ p.2 ∧ p.2 < 18446744073709551616) (hR : ∀ σ',Ext σ0 σ' → R (.returned (.bool true)) σ') :
   AV.QB R t s (ByteArray.mk #[c]) p n c0 0 σ := by
 have hn := hC.qI
 have Ho := hC.rd.big
 suffices H : ∀ g i : Nat,∀ σ',n - i = g → i ≤ n → Ps τ σ' p n c0 (LJ vN i 0 ss) qs → AV.QB R t s (ByteArray.mk #[c]) p n c0 i σ' from H n 0 σ rfl (Nat.zero_le _) (by rw [ACE]; exact hC)
 intro g
 induction g with
 | zero =>
   intro i σ' ri hi h
   have Th : i = n := by omega
   subst Th
   rw [qO (by omega)] at h
   have hx := iq.trans h.ext
   have mem : ∀ y ∈ ss.map (jS vN),∃ z ∈ ss,y = jS vN z := fun y hy => by
     obtain ⟨z,hz,rfl⟩ := List.mem_map.1 hy
     exact ⟨z,hz,rfl⟩
   have AIu : ∀ y ∈ ss.map (jS vN),∀ u ∈ y.ps,∃ k : Int,0 ≤ k ∧ k < 1000 ∧ u.2 = DS k := fun y hy u hu => by
     obtain ⟨z,hz,rfl⟩ := mem y hy
     obtain ⟨v,hv',rfl⟩ := List.mem_map.1 hu
     exact ⟨v.2 % 1000,Int.emod_nonneg _ (by decide),Int.emod_lt_of_pos _ (by decide),rfl⟩
   refine dP (S := ss.map (jS vN)) Wh (hg.mono hx) hc hp h.rd ⟨by rw [List.length_map]; exact hS.s,fun y hy => ?_,fun y hy => ?_⟩ ⟨Nat.zero_le _,fun x hx => (by cases hx),by rw [List.length_map]; exact hM.s,fun y hy => ?_,fun y hy u hu => ?_⟩ (by rw [List.length_map]; exact hl) AIu fun σ2 h2 => hR σ2 (hx.trans h2)
   · obtain ⟨z,hz,rfl⟩ := mem y hy
     exact hS.ls z hz
   · obtain ⟨z,hz,rfl⟩ := mem y hy
     show (z.ps.map _).length ≤ _
     rw [List.length_map]; exact hS.ps z hz
   · obtain ⟨z,hz,rfl⟩ := mem y hy
     show (z.ps.map _).length ≤ _
     rw [List.length_map]; exact hM.ps z hz
   · obtain ⟨k,_,_,hk⟩ := AIu y hy u hu
     rw [hk]; exact Int.natCast_nonneg _
 | succ g ih =>
   intro i σ' ri hi h
   have BN : i < n := by omega
   obtain ⟨x0,hs⟩ : ∃ s,ss[i]? = some s := ⟨_,List.getElem?_eq_getElem (by omega)⟩
   refine AV.Qd ⟨fun _ => ?_,fun hh => by omega⟩
   suffices K : ∀ g' k : Nat,∀ σ2,x0.ps.length - k = g' → k ≤ x0.ps.length → Ps τ σ2 p n c0 (LJ vN i k ss) qs → AV.FJ R t s (ByteArray.mk #[c]) p n c0 i k σ2 from K x0.ps.length 0 σ' rfl (Nat.zero_le _) h
   intro g'
   induction g' with
   | zero =>
     intro k σ2 cU hk h2
     obtain ⟨b,o,q,rfl,hq,hl⟩ := h2.at (IY hs)
     rw [N2] at hl
     have yF : k = x0.ps.length := by omega
     subst yF
     rw [jT hs] at h2
     exact AV.FX ⟨b,o,rfl,by omega,q.1,x0.ps.length,q.2,by simpa using hl,fun An => by omega,fun _ => ⟨AK BN Ho,ih (i + 1) σ2 (by omega) (by omega) h2⟩⟩
   | succ g' ihk =>
     intro k σ2 cU hk h2
     obtain ⟨b,o,q,rfl,hq,hl⟩ := h2.at (IY hs)
     rw [N2] at hl
     have Hn : k < x0.ps.length := by omega
     have hsb := (h2.j0 i q _ hq (IY hs)).rd.1.big
     simp only [N2] at hsb
     obtain ⟨x,hx⟩ : ∃ x,x0.ps[k]? = some x := ⟨_,List.getElem?_eq_getElem Hn⟩
     obtain ⟨b2,o2,qJ,ZP⟩ := h2.ptV (IY hs) hq (ZX hx)
     have Wk : σ2.ld ⟨b,o + Int.toNat (i : Int) * 2 + 1,none⟩ = some (.slice q.1 x0.ps.length q.2) := by simpa using hl
     have ABa : σ2.ld ⟨b2,o2 + Int.toNat (k : Int) * 2 + 1,none⟩ = some (.int .u64 x.2) := by simpa using ZP
     have hvx := hv x0 (List.mem_of_getElem? hs) x (List.mem_of_getElem? hx)
     refine AV.FX ⟨b,o,rfl,by omega,q.1,x0.ps.length,q.2,Wk,fun _ => ⟨by omega,q.1,x0.ps.length,q.2,Wk,by omega,q.1,x0.ps.length,q.2,Wk,b2,o2,qJ,by omega,x.2,ABa,by decide,fun x75 h75 => ACc ⟨_,rfl,.FE (.refl _),Fz ⟨_,rfl,.FE (.refl _),b2,o2,qJ,by omega,?_⟩⟩⟩,fun hh => by omega⟩
     have e75 : x75 = x.2 % 1000 := h75.trans (Int.tmod_eq_emod_of_nonneg hvx.1)
     subst e75
     rw [Int.toNat_natCast]
     refine h2.AOq (IY hs) hq (ZX hx) qJ fun σ3 h3 => ⟨AK Hn hsb,?_⟩
     have h3 : Ps τ σ3 (some ⟨b,o,none⟩) n c0 ((LJ vN i k ss).set i ⟨x0.ls,(Lz vN k x0.ps).set k (vN x)⟩) qs := h3
     rw [qP hs hx] at h3
     exact ihk (k + 1) σ3 (by omega) (by omega) h3
theorem jf {p : Option Addr} {n c0 : Nat} {t : Int} {s b : ByteArray} {ss : List Sr} (Wh : Awk) (hg : Gl σ) (hs : Ad 2 Cq σ p n ss) (hM : Modest [] ss) (hS : yB ss) (hl : ss.length ≤ 2000000) (hv : ∀ s ∈ ss,∀ p ∈ s.ps,0 ≤ p.2 ∧ p.2 < 18446744073709551616) (hw : s.size ≤ 4611686018427387904) (h : ∀ σ',Ext σ σ' → R (.returned (.bool true)) σ') :
   Spec prog 9 #[.slice p n c0,.int .i64 t,.string s,.string b] σ R := by
 have awk : ∀ {Q : Rr},∀ σ',Ext σ σ' → (∀ σ2,Ext σ σ2 → Q (.returned (.bool true)) σ2) → Spec prog 14 #[] σ' (AA Q (CB fun t26 AF => Q (.returned (.bool t26)) AF)) := fun {Q} σ' hx hq => Wh σ' _ (hg.mono hx) fun σ2 A7 => ⟨_,rfl,hq σ2 (hx.trans A7)⟩
 refine AV.start (Zl hw fun σ1 CH => ⟨_,rfl,fun _ => awk σ1 CH h,fun hp => ?_⟩)
 have go : ∀ c : UInt8,(c = 97 ∨ c = 98) → b = ByteArray.mk #[c] → Spec prog 13 #[.slice p n c0] σ1 (AA R (CS fun Wp n43 Wq AF => AV.QB R t s b Wp n43 Wq 0 AF)) := fun c hc e => by
   subst e
   exact UB (hs.mono Cq.mono CH) hS fun τ p4 c4 σ4 qs MP hC => ⟨_,_,_,rfl,dQ (σ0 := σ1) Wh (hg.mono CH) hc hp MP hC hS hM hl hv fun σ' T3 => h σ' (CH.trans T3)⟩
 refine ⟨fun fa => ⟨fun fb => awk σ1 CH h,fun tb => go 98 (.inr rfl) ?_⟩,fun ta => go 97 (.inl rfl) ?_⟩
 · rw [Sl,decide_eq_true_eq] at tb; exact tb
 · rw [Sl,decide_eq_true_eq] at ta; exact ta
end
end TwW
end
section
namespace Go.Proofs.YtlmhidjgplomgaaGreatDoor.evalSums
open Go Tw TwW TwW.Rw Go.ChangeShapes Go.WideShapes Go.ChangeAt Go.RowKit Go.Deep
open Go.Proofs.Tryz (f9 func9 params9)
abbrev Zt : Array Value := #[.slice none 0 0,.int .i64 0,.string ⟨#[]⟩,.string ⟨#[]⟩]
noncomputable abbrev wW (os : Os) : World := (Ll os).forCall (fun _ _ => 0) ⟨#[],Zt,[]⟩
set_option maxRecDepth 1000000
theorem wHr (os : Os) : ((wW os).heap.toList.drop prog.globals.size).take ((begin prog (fun _ _ => 0) default).world.heap.size - prog.globals.size) = (begin prog (fun _ _ => 0) default).world.heap.toList.drop prog.globals.size := by kernel_rfl
theorem APQ (os : Os) : Input.okWideB prog (wW os) 9 ⟨#[],Zt,[]⟩ = true := by kernel_rfl
theorem wHv (os : Os) : (wW os).variablesRefB prog = true := AOo os (args := Zt)
theorem reads (os : Os) {H : Type} (enc : TypeId × Value → H) : ∃ places,DataW.whole enc prog (wW os).memory f9.params.toList Rows.evalSumsSpec.vars false Zt.toList 8 = some ([.nil,.lit (.int .i64 0),.lit (.string []),.lit (.string [])],[],places) :=
 ⟨[],by kernel_rfl⟩
theorem qt (H : Type) (enc : TypeId × Value → H) (W : World) (base : Nat) (args : Array Value) (ds gs : List (DataW H)) (before : List MemPlace)
   (qu : ∀ (j : Nat) t v,f9.params[j]? = some t → args[j]? = some v → Value.okWide prog W .any base t v)
   (hW : DataW.Whole enc prog f9.params.toList Rows.evalSumsSpec.vars false W args.toList ds gs before) (hk : Rows.uptoBulkAll (ds ++ gs) ≤ 1048576) (hL : laidMetH prog Laid W) (hsh : W.ShapedOpen prog) :
   Calls prog 9 args W fun e W' => ∃ v,e = .returned v ∧ Rows.evalSumsSpec.post enc prog f9 false true false false W args v W' := by
 have hW' := hW
 obtain ⟨p,q,hA0,hV,rfl,hfz,hnd⟩ := hW
 have hA : DataW.TrodAll enc prog W 0 (fun _ => true) true f9.params.toList args.toList ds p := hA0
 rw [params9] at hA qu
 obtain ⟨v0,vs0,d0,ds0,p0,q0,JL,rfl,rfl,h0,r0⟩ := trodAll_cons hA
 obtain ⟨v1,vs1,d1,ds1,p1,q1,rfl,rfl,rfl,h1,r1⟩ := trodAll_cons r0
 obtain ⟨v2,vs2,d2,ds2,p2,q2,rfl,rfl,rfl,h2,r2⟩ := trodAll_cons r1
 obtain ⟨v3,vs3,d3,ds3,p3,q3,rfl,rfl,rfl,h3,r3⟩ := trodAll_cons r2
 obtain ⟨rfl,rfl,rfl⟩ := trodAll_nil r3
 obtain rfl : args = #[v0,v1,v2,v3] := by cases args; simp_all
 obtain ⟨rfl,rfl⟩ := trodVars_none hV
 simp only [List.append_nil,Rows.uptoBulkAll] at hk
 obtain ⟨a0,n0,c0,Z6,rfl,hr0,hS0⟩ := qD (qu 0 23 v0 rfl rfl) h0 (by omega)
 obtain ⟨x1,rfl,rfl,_,w1⟩ := open_int Go.Proofs.Tryz.underlying2 (qu 1 2 v1 rfl rfl) h1
 obtain ⟨s2,rfl,rfl,rfl,w2⟩ := Go.ChangeMaps.open_string Go.Proofs.Tryz.underlying9 (qu 2 9 v2 rfl rfl) h2
 obtain ⟨s3,rfl,rfl,rfl,w3⟩ := Go.ChangeMaps.open_string Go.Proofs.Tryz.underlying9 (qu 3 9 v3 rfl rfl) h3
 exact AB6 (by kernel_rfl) rfl rfl ⟨rfl,rfl,rfl⟩ hW' ((jf cd (AId hL hsh) hr0 (ACB hS0) (ACC hS0) (Nat.le_trans hS0.2 (by decide)) (ACD hS0) (Nat.le_trans (jR (show Rows.uptoBulk _ ≤ _ by omega)) (by decide))) fun σ' hx => ⟨rfl,hx⟩)
theorem ACe : Go.Proofs.Tryz.checked.prog.inits.idxOf? 9 = none := by kernel_rfl
theorem witness (os : Os) (started : os.Started) (H : Type) (enc : TypeId × Value → H) : ∃ (w : World) (tape : Tape) (i : Input),w.os = os ∧ (w.forCall tape i).Shaped Go.Proofs.Tryz.checked.prog ∧ i.vars = [] ∧ Input.okWide Go.Proofs.Tryz.checked.prog (w.forCall tape i) .any w.heap.size 9 i ∧
     (Rows.OpenSpec.upto Rows.evalSumsSpec).preRow enc Go.Proofs.Tryz.checked.prog f9 Rows.evalSumsUptoRow.domain false Rows.evalSumsUptoRow.laid (w.forCall tape i).memory i.args ∧ ({} : Assume).holds Go.Proofs.Tryz.checked.prog (lone (Frame.enter Go.Proofs.Tryz.checked.prog 9 i.args .normal) [] (w.forCall tape i)) := by
 obtain ⟨places,hx⟩ := reads os enc
 exact witness_row_atRef (enc := enc) (C := Go.Proofs.Tryz.checked) false (Ll os) Zt rfl (wHv os) (wHr os) (APQ os)
     (OpenSpec.preRow_of_cond 8 hx (by as_aux_lemma => kernel_rfl) (fun k hk => by cases hk; as_aux_lemma => kernel_rfl) (by as_aux_lemma => kernel_rfl) (qE os _))
theorem lifted (os : Os) (started : os.Started) (H : Type) (enc : TypeId × Value → H) (F : Stop.Interp) :
   ReturnsInHanded {} Go.Proofs.Tryz.checked os 9 .any ((Rows.OpenSpec.upto Rows.evalSumsSpec).preRow enc prog f9 Rows.evalSumsUptoRow.domain false Rows.evalSumsUptoRow.laid) (((Rows.OpenSpec.upto Rows.evalSumsSpec).at F).post enc prog f9 false true false false) := by
 refine returnsInHanded_of_row (C := Go.Proofs.Tryz.checked) (s := Rows.OpenSpec.upto Rows.evalSumsSpec) own started ACe func9 (witness os started H enc) ?_
 intro W base args ds gs before AIv hW _ AIw _ hL hsh _
 exact qt H enc W base args ds gs before AIv hW (of_decide_eq_true (AIw _ rfl)) hL hsh
end Go.Proofs.YtlmhidjgplomgaaGreatDoor.evalSums
end
