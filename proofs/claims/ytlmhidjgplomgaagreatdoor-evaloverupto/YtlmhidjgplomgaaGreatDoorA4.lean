/-
  Part 4 of the proof that the law EvalOverUptoCardSaid of the given program answers true for every input of the given statement; the input reads behind the call as it did. (The texts: packed from 28 texts. Names are shortened by the packing program, for the bound on size.)
-/
import Derived.Test.YtlmhidjgplomgaaGreatDoorA3
import Derived.Shelf.Strings.Search3
import Derived.Shelf.Strings.Split
import Derived.Test.YtlmhidjgplomgaaGreatDoorProg
import Derived.Lib.IndexMore
import Derived.Shelf.SlSortCmp.NoneTotal
import Derived.Shelf.SlGeneric
import Derived.Ground.SlsfProg
set_option linter.all false
section
namespace TwW
open Go Tw Go.RowKit Go.Proofs.Tryz
theorem Yb {x : Nat} (h : Hg x = true) : ∃ s t,Ieee.double.read x = .nan s t := by
 rw [LP] at h
 cases hd : Ieee.double.read x with
 | nan s t => exact ⟨s,t,rfl⟩
 | number => rw [hd] at h; cases h
 | infinity => rw [hd] at h; cases h
theorem vt {op : Int} {a b : Nat} (h : Hg a = true) : vo op a b = none := by
 obtain ⟨s,t,hr⟩ := Yb h
 unfold vo Ieee.Format.add Ieee.Format.sub Ieee.Format.mul Ieee.Format.div
 rw [hr]
 simp [Ieee.Datum.sum,Ieee.Datum.product,Ieee.Datum.quotient]
theorem vu {op : Int} {a b : Nat} (h : Hg b = true) : vo op a b = none := by
 obtain ⟨s,t,hr⟩ := Yb h
 unfold vo Ieee.Format.add Ieee.Format.sub Ieee.Format.mul Ieee.Format.div
 rw [hr]
 cases Ieee.double.read a <;> simp [Ieee.Datum.sum,Ieee.Datum.product,Ieee.Datum.quotient,Ieee.Datum.opposite]
theorem Sa (op : Int) (a b : Nat) : Ua op (toF a) (toF b) = Ua op a b := by
 unfold Ua
 by_cases ha : Hg a = true
 · rw [vt ha,show toF a = 9221120237041090560 by unfold toF; rw [ha]; rfl,vt YX]
 · rw [show toF a = a by unfold toF; rw [if_neg ha]]
   by_cases hb : Hg b = true
   · rw [vu hb,show toF b = 9221120237041090560 by unfold toF; rw [hb]; rfl,vu YX]
   · rw [show toF b = b by unfold toF; rw [if_neg hb]]
abbrev cN : Nat := 4604544271217802189
abbrev dN : Nat := 13827916308072577997
abbrev AFs : Nat := 4607182418800017408
abbrev AFt : Nat := 13830554455654793216
def bP : List (Nat × Nat) := [(AFs,0),(cN,dN),(0,AFt),(dN,dN),(AFt,0),(dN,cN),(0,AFs),(cN,cN)]
def Sb (j n : Nat) : List Int → Nat → Nat × Nat → Nat × Nat
 | [],_,a => a
 | x :: l,k,a =>
   let w := bP.getD ((j * k % n) * (8 / n)) (0,0)
   Sb j n l (k + 1) (Ua 1 a.1 (Ua 3 x.toNat w.1),Ua 1 a.2 (Ua 3 x.toNat w.2))
def sK (vs : List Int) : Nat :=
 let l := Sb (1 % vs.length) vs.length vs 0 (0,0)
 Ua 1 (Ua 3 l.1 l.1) (Ua 3 l.2 l.2)
section
variable [Ej] {σ : Hp} {R : Rr}
theorem Vs {x y : Nat} (h : x ^^^ 9223372036854775808 = y) : YF prog (Op.unary .neg (.float .f64 x)) σ (.float .f64 y) := fun w _ => by subst h; rfl
theorem Tc (h : ∀ b T σ',σ b = none → σ' = σ.set b (.cells (bP.map fun p => .complex .f64 p.1 p.2).toArray T (0,0)) → R (.returned (.slice (aD b 0) 8 8)) σ') : Spec prog 263 #[] σ R := by
 refine Ly.start (GM ⟨_,rfl,dN,Vs (by decide),_,_,fun w _ => rfl,dN,Vs (by decide),dN,Vs (by decide),_,_,fun w _ => rfl,dN,Vs (by decide),_,_,fun w _ => rfl,_,_,fun w _ => rfl,fun b hb => ?_⟩)
 exact h b _ _ hb rfl
theorem gO {j : Nat} (hj : j ≤ 1) {p : Option Addr} {n c : Nat} {vs : List Int} (hr : Ep .u64 σ p n vs) (hn : n = 1 ∨ n = 2 ∨ n = 4 ∨ n = 8)
   (h : ∀ re im σ',Ext σ σ' → toF re = (Sb j n vs 0 (0,0)).1 → toF im = (Sb j n vs 0 (0,0)).2 → R (.returned (.complex .f64 re im)) σ') : Spec prog 241 #[.slice p n c,.int .i64 j] σ R := by
 have hl : vs.length = n := hr.1
 have z0 : toF 0 = 0 := by
   unfold toF
   rw [if_neg]
   rw [NW]; decide
 refine H7.start (Tc fun b T σ1 hb JR => ⟨_,_,_,rfl,?_⟩)
 have Cg : Ext σ σ1 := by rw [JR]; exact .set hb
 have hlb : ∀ k,k < 8 → ∀ re im,bP[k]? = some (re,im) → σ1.ld ⟨b,0 + k * 1,none⟩ = some (.complex .f64 re im) := fun k hk re im hw => by
   rw [JR]
   unfold Hp.ld
   simp only [Hp.AB]
   have : (bP.map fun p => Value.complex .f64 p.1 p.2)[k]? = some (.complex .f64 re im) := by rw [List.getElem?_map,hw]; rfl
   simpa using this
 clear JR
 suffices H : ∀ g k : Nat,∀ re im,∀ a : Nat × Nat,n - k = g → k ≤ n → toF re = a.1 → toF im = a.2 → Sb j n vs 0 (0,0) = Sb j n (vs.drop k) k a → H7.r7 R p n c j (aD b 0) 8 8 (.complex .f64 re im) k σ1 from H n 0 0 0 (0,0) rfl (Nat.zero_le _) z0 z0 rfl
 intro g
 induction g with
 | zero =>
   intro k re im a hg hk h1 h2 he
   have cZ : k = n := by omega
   subst cZ
   rw [List.drop_eq_nil_of_le (by omega)] at he
   refine H7.dg ⟨fun _ => ?_,fun hh => by omega⟩
   rw [he] at h
   exact h re im σ1 Cg h1 h2
 | succ g ih =>
   intro k re im a hg hk h1 h2 he
   have cZ : k < n := by omega
   obtain ⟨x,hx⟩ := hr.ex cZ
   obtain ⟨b',o',rfl,Ek⟩ := Ep.at hr hx
   rw [A3 hx] at he
   have ht : (j : Int) * k = ((j * k : Nat) : Int) := by push_cast; rfl
   have qM : j * k ≤ 8 := by
     rcases Nat.le_one_iff_eq_zero_or_eq_one.1 hj with h | h <;> subst h <;> omega
   refine H7.dg ⟨fun hh => by omega,fun _ => ⟨b',o',rfl,by omega,x,by simpa using Cg.ld Ek,by unfold AM; omega,by omega,fun JH h27 => ⟨by omega,fun UK h30 => ?_⟩⟩⟩
   have e27 : JH = ((j * k % n : Nat) : Int) := by rw [h27,ht,Int.tmod_eq_emod_of_nonneg (by omega)]; omega
   have e30 : UK = ((8 / n : Nat) : Int) := by rw [h30]; rcases hn with h | h | h | h <;> subst h <;> rfl
   have hm : (j * k % n) * (8 / n) < 8 := by
     have := Nat.mod_lt (j * k) (show 0 < n by omega)
     rcases hn with h | h | h | h <;> subst h <;> simp at * <;> omega
   have ep : JH * UK = (((j * k % n) * (8 / n) : Nat) : Int) := by rw [e27,e30]; push_cast; rfl
   dsimp only
   rw [ep]
   generalize hq : (j * k % n) * (8 / n) = q at *
   obtain ⟨⟨wr,wi⟩,hw⟩ : ∃ w,bP[q]? = some w := ⟨_,List.getElem?_eq_getElem (show q < bP.length from hm)⟩
   have hgd : bP.getD q (0,0) = (wr,wi) := by rw [List.getD_eq_getElem?_getD,hw]; rfl
   rw [Sb,hq,hgd] at he
   refine ⟨by unfold AM; omega,b,0,rfl,by omega,wr,wi,by simpa using hlb q hm wr wi hw,GM ⟨_,rfl,fun _ _ _ h => h,re,fun w _ => rfl,wr,fun w _ => rfl,NZ fun y hy => ⟨_,rfl,QP fun z hz => ⟨_,rfl,im,fun w _ => rfl,wi,fun w _ => rfl,NZ fun y' hy' => ⟨_,rfl,QP fun z' hz' => ⟨_,rfl,z,z',fun w _ => rfl,AN cZ hr.big,?_⟩⟩⟩⟩⟩⟩
   refine ih (k + 1) z z' _ (by omega) (by omega) ?_ ?_ he
   · rw [hz,← Sa,h1,hy]
   · rw [hz',← Sa,h2,hy']
theorem bQ {p : Option Addr} {n c : Nat} {vs : List Int} (hr : Ep .u64 σ p n vs) (hn : n = 1 ∨ n = 2 ∨ n = 4 ∨ n = 8)
   (h : ∀ σ',Ext σ σ' → R (.returned (.tuple #[.int .u64 (sK vs : Nat),.int .i64 0])) σ') : Spec prog 225 #[.slice p n c] σ R := by
 have hl : vs.length = n := hr.1
 have HY : ∀ {t : Bool} {Q : Rr},Q (.returned (.bool true)) σ → Spec prog 240 #[.int .i64 n] σ Q := fun hq => UP.start ⟨fun _ => hq,fun h1 => ⟨fun _ => hq,fun h2 => ⟨fun _ => hq,fun h4 => by rw [show decide ((n : Int) = 8) = true from decide_eq_true (by omega)]; exact hq⟩⟩⟩
 refine SA.start (HY (t := true) ?_)
 refine ⟨true,rfl,fun hf => (by cases hf),fun _ => ⟨by omega,fun x12 WT => ?_⟩⟩
 have e12 : x12 = ((1 % n : Nat) : Int) := by rw [WT,Int.tmod_eq_emod_of_nonneg (by omega)]; exact (Int.natCast_emod 1 n).symm
 rw [e12]
 refine gO (Nat.mod_le 1 n) hr hn fun re im σ1 hx h1 h2 => ⟨_,_,rfl,re,fun w _ => rfl,re,fun w _ => rfl,NZ fun y hy => ⟨_,rfl,im,fun w _ => rfl,im,fun w _ => rfl,NZ fun z hz => ⟨_,rfl,QP fun u hu => ⟨_,rfl,GN ⟨_,rfl,?_⟩⟩⟩⟩⟩
 have e : toF u = sK vs := by
   rw [hu,← Sa,hy,hz]
   unfold sK
   rw [hl]
   dsimp only
   rw [← h1,← h2,Sa,Sa]
 rw [e]
 exact h σ1 hx
def Uc (n : Nat) : Nat := if 8 ≤ n then 8 else if 4 ≤ n then 4 else if 2 ≤ n then 2 else 1
def QQ (vs : List Int) : Int := (sK (vs.drop (vs.length - Uc vs.length)) : Nat)
theorem Td {p : Option Addr} {n c : Nat} {vs : List Int} (hr : Ep .u64 σ p n vs) (h0 : 0 < n) (hc : n ≤ c)
   (h : ∀ σ',Ext σ σ' → R (.returned (.int .u64 (QQ vs))) σ') : Spec prog 187 #[.slice p n c] σ R := by
 have hl : vs.length = n := hr.1
 have Hf := hr.big
 have last : ∀ m : Nat,Uc n = m → m ≤ n → (m = 1 ∨ m = 2 ∨ m = 4 ∨ m = 8) → AM ((n : Int) - m) ∧ ((0 : Int) ≤ ((n : Int) - m) ∧ ((n : Int) - m) ≤ (n : Int)) ∧ Spec prog 225 #[(.slice (IL p (Int.toNat ((n : Int) - m)) c 1) (n - Int.toNat ((n : Int) - m)) (c - Int.toNat ((n : Int) - m)))] σ (AA R (fun z y => ∃ Jk OO,z = (.tuple #[.int .u64 Jk,.int .i64 OO]) ∧ R (.returned (.int .u64 Jk)) y)) := fun m hm hmn hk => by
   have e : Int.toNat ((n : Int) - m) = n - m := by omega
   rw [e]
   refine ⟨by unfold AM; omega,by omega,?_⟩
   have hs := Ae.sub (i := n - m) (m := m) hr (by decide) (by omega) hc
   rw [List.take_of_length_le (by rw [List.length_drop]; omega)] at hs
   rw [show n - (n - m) = m by omega]
   refine bQ hs hk fun σ' hx => ⟨_,_,rfl,?_⟩
   have := h σ' hx
   unfold QQ at this
   rw [hl,hm] at this
   exact this
 have two : ∀ m x : Int,x = IntKind.i64.wrap (Int.tdiv m 2) → (m = 8 ∨ m = 4 ∨ m = 2) → x = m / 2 := fun m x hx hm => by
   rw [hx]; rcases hm with h | h | h <;> subst h <;> rfl
 refine BJ.start (BJ.BR ⟨fun h8 => ⟨by decide,fun x1 e1 => ?_⟩,fun h8 => last 8 (by unfold Uc; rw [if_pos (by omega)]) (by omega) (by omega)⟩)
 have e1 := two _ _ e1 (.inl rfl)
 subst e1
 refine BJ.BR ⟨fun h4 => ⟨by decide,fun x2 e2 => ?_⟩,fun h4 => last 4 (by unfold Uc; rw [if_neg (by omega),if_pos (by omega)]) (by omega) (by omega)⟩
 have e2 := two _ _ e2 (.inr (.inl (by decide)))
 subst e2
 refine BJ.BR ⟨fun h2 => ⟨by decide,fun x3 e3 => ?_⟩,fun h2 => last 2 (by unfold Uc; rw [if_neg (by omega),if_neg (by omega),if_pos (by omega)]) (by omega) (by omega)⟩
 have e3 := two _ _ e3 (.inr (.inr (by decide)))
 subst e3
 exact BJ.BR ⟨fun h1 => by omega,fun h1 => last 1 (by unfold Uc; rw [if_neg (by omega),if_neg (by omega),if_neg (by omega)]) (by omega) (by omega)⟩
end
end TwW
end
section
namespace TwW
open Go Tw Go.RowKit Go.Proofs.Tryz
def GO (ps : List Pt) (x : Int) : Nat := ps.countP fun q => decide (q.1 ≤ x)
theorem eB {ps : List Pt} {x : Int} {i : Nat} (hi : i ≤ ps.length) (h1 : ∀ k q,k < i → ps[k]? = some q → q.1 ≤ x) (h2 : ∀ k q,i ≤ k → ps[k]? = some q → x < q.1) : GO ps x = i := by
 unfold GO
 rw [← List.take_append_drop i ps,List.countP_append]
 have e1 : (ps.take i).countP (fun q => decide (q.1 ≤ x)) = (ps.take i).length := List.countP_eq_length.2 fun q hq => by
   obtain ⟨k,hk⟩ := List.mem_iff_getElem?.1 hq
   rw [List.getElem?_take] at hk
   split at hk
   · rename_i hki; exact decide_eq_true (h1 k q hki hk)
   · cases hk
 have e2 : (ps.drop i).countP (fun q => decide (q.1 ≤ x)) = 0 := List.countP_eq_zero.2 fun q hq => by
   obtain ⟨k,hk⟩ := List.mem_iff_getElem?.1 hq
   rw [List.getElem?_drop] at hk
   have := h2 _ q (Nat.le_add_right i k) hk
   simp; omega
 rw [e1,e2,List.length_take]; omega
def Yc (ps : List Pt) : Prop := ps.Pairwise fun a b => a.1 < b.1
theorem gP {ps : List Pt} (h : Mf ps = true) : Yc ps := by
 have hh := ((Ko ps).1 h).2
 unfold Yc
 rw [List.pairwise_iff_getElem]
 intro i j hi hj ca
 induction j with
 | zero => omega
 | succ j ih =>
   have hs := hh j ps[j] ps[j + 1] (List.getElem?_eq_getElem _) (List.getElem?_eq_getElem _)
   by_cases h : i = j
   · subst h; exact hs
   · exact Int.lt_trans (ih (by omega) (by omega)) hs
theorem eC {ps : List Pt} (h : Yc ps) {i j : Nat} {a b : Pt} (ca : i < j) (ha : ps[i]? = some a) (hb : ps[j]? = some b) : a.1 < b.1 := by
 obtain ⟨h1,rfl⟩ := List.getElem?_eq_some_iff.1 ha
 obtain ⟨h2,rfl⟩ := List.getElem?_eq_some_iff.1 hb
 exact List.pairwise_iff_getElem.1 h i j h1 h2 ca
theorem AFx {x : Int} (h0 : 0 ≤ x) (h1 : x < 18446744073709551616) : IntKind.u64.wrap x = x := by simp [IntKind.wrap,IntKind.bits,IntKind.signed]; omega
theorem AFy {x : Int} (h0 : 0 ≤ x) (h1 : x < 9223372036854775808) : IntKind.i64.wrap x = x := by simp [IntKind.wrap,IntKind.bits,IntKind.signed]; omega
section
variable [Ej] {σ : Hp} {R : Rr}
theorem eD {f : Nat} (hf : Enters prog f) (sL : ∀ a b x σ' R',R' (.returned (.int .i64 (if a ≤ x then -1 else 1))) σ' → Spec prog f #[.agg #[.int .i64 a,.int .u64 b],.int .i64 x] σ' R') {p : Option Addr} {n c : Nat} {ps : List Pt} {x : Int} (hr : Ae 2 Ey σ p n ps) (hs : Yc ps)
   (h : ∀ t,R (.returned (.tuple #[.int .i64 (GO ps x),.bool t])) σ) : Spec prog 175 #[.slice p n c,.int .i64 x,.func (.func f) #[] #[]] σ R := by
 have hl : ps.length = n := hr.1
 have Hf := hr.big
 refine Au.start ?_
 suffices H : ∀ g i j : Nat,j - i = g → i ≤ j → j ≤ n → (∀ k q,k < i → ps[k]? = some q → q.1 ≤ x) → (∀ k q,j ≤ k → ps[k]? = some q → x < q.1) → Au.BF R p n c x (.func (.func f) #[] #[]) n i j σ from
   H n 0 n rfl (Nat.zero_le _) (Nat.le_refl _) (fun k q hk => by omega) (fun k q hk hq => by have := (List.getElem?_eq_some_iff.1 hq).1; omega)
 intro g
 induction g using Nat.strongRecOn with
 | _ g ih =>
   intro i j hg ca hj h1 h2
   refine Au.Ay ⟨fun Ax => ⟨by unfold AM; omega,fun Lu e21 => ⟨by decide,fun JK e22 Dz e23 => ?_⟩⟩,fun gE => ⟨fun P8 => ?_,fun P8 => ?_⟩⟩
   · rw [AFx (by omega) (by omega)] at e21
     have ALk : JK = ((i + j) / 2 : Nat) := by rw [e22,e21]; show ((i : Int) + j) / 2 ^ 1 = _; omega
     rw [ALk,AFy (by omega) (by omega)] at e23
     generalize hm : (i + j) / 2 = m at *
     have him : i ≤ m ∧ m < j := by omega
     obtain ⟨q,hq⟩ := hr.ex (k := m) (by omega)
     obtain ⟨b,o,rfl,Ek⟩ := Ey.at hr hq
     rw [e23]
     refine ⟨b,o,rfl,by omega,q.1,q.2,by simpa using Ek,f,#[],#[],rfl,hf,sL _ _ _ _ _ ⟨_,rfl,fun zn => ⟨by unfold AM; omega,?_⟩,fun Qd => ?_⟩⟩
     · have hq1 : q.1 ≤ x := by
         by_cases hh : q.1 ≤ x
         · exact hh
         · rw [if_neg hh] at zn; omega
       refine ih (j - (m + 1)) (by omega) (m + 1) j rfl (by omega) hj (fun k r hk qE => ?_) h2
       by_cases vm : k = m
       · rw [vm,hq] at qE; cases qE; exact hq1
       · have := eC hs (by omega : k < m) qE hq; omega
     · have hq1 : x < q.1 := by
         by_cases hh : q.1 ≤ x
         · rw [if_pos hh] at Qd; omega
         · omega
       refine ih (m - i) (by omega) i m rfl (by omega) (by omega) h1 (fun k r hk qE => ?_)
       by_cases vm : k = m
       · rw [vm,hq] at qE; cases qE; exact hq1
       · have := eC hs (by omega : m < k) hq qE; omega
   · have e : i = j := by omega
     subst e
     have hc := eB (by omega) h1 h2
     obtain ⟨q,hq⟩ := hr.ex (k := i) (by omega)
     obtain ⟨b,o,rfl,Ek⟩ := Ey.at hr hq
     refine ⟨b,o,rfl,by omega,q.1,q.2,by simpa using Ek,f,#[],#[],rfl,hf,sL _ _ _ _ _ ⟨_,rfl,?_⟩⟩
     have := h (decide ((if q.1 ≤ x then (-1 : Int) else 1) = 0))
     rw [hc] at this; exact this
   · have e : i = j := by omega
     subst e
     have hc := eB (by omega) h1 h2
     have := h false
     rw [hc] at this; exact this
omit [Ej] in
theorem ID {x : Int} : ∀ {ps : List Pt},Yc ps → GO ps x ≤ ps.length ∧ (∀ k q,k < GO ps x → ps[k]? = some q → q.1 ≤ x) ∧ (∀ k q,GO ps x ≤ k → ps[k]? = some q → x < q.1)
 | [],_ => ⟨Nat.le_refl _,fun k q hk => by simp [GO] at hk,fun k q _ hq => by simp at hq⟩
 | a :: l,h => by
   have hl := List.pairwise_cons.1 h
   obtain ⟨h1,h2,h3⟩ := ID (x := x) (ps := l) hl.2
   by_cases ha : a.1 ≤ x
   · have e : GO (a :: l) x = GO l x + 1 := by unfold GO; rw [List.countP_cons_of_pos (by simpa using ha)]
     rw [e]
     refine ⟨by simp; exact h1,fun k q hk hq => ?_,fun k q hk hq => ?_⟩
     · cases k with
       | zero => simp at hq; subst hq; exact ha
       | succ k => exact h2 k q (by omega) (by simpa using hq)
     · cases k with
       | zero => omega
       | succ k => exact h3 k q (by omega) (by simpa using hq)
   · have e : GO (a :: l) x = 0 := by
       unfold GO
       rw [List.countP_eq_zero]
       intro q hq
       rcases List.mem_cons.1 hq with rfl | hq
       · simpa using ha
       · have := hl.1 q hq
         simp; omega
     rw [e]
     refine ⟨Nat.zero_le _,fun k q hk => by omega,fun k q _ hq => ?_⟩
     cases k with
     | zero => simp at hq; subst hq; omega
     | succ k =>
       have := hl.1 q (List.mem_of_getElem? (by simpa using hq))
       omega
omit [Ej] in
theorem sM {ps : List Pt} (hs : Yc ps) (Dj Gz : Int) {i m : Nat} (hi : i = min (GO ps Dj) (GO ps Gz)) (hm : m = GO ps Gz - i) : (ps.drop i).take m = FC ps Dj Gz := by
 obtain ⟨a1,a2,a3⟩ := ID (x := Dj) hs
 obtain ⟨m1,m2,m3⟩ := ID (x := Gz) hs
 have e : ps = ps.take i ++ ((ps.drop i).take m ++ (ps.drop i).drop m) := by rw [List.take_append_drop,List.take_append_drop]
 have hf : FC ps Dj Gz = FC (ps.take i) Dj Gz ++ (FC ((ps.drop i).take m) Dj Gz ++ FC ((ps.drop i).drop m) Dj Gz) := by
   conv => lhs; rw [e]
   unfold FC
   rw [List.filter_append,List.filter_append]
 rw [hf]
 have f1 : FC (ps.take i) Dj Gz = [] := List.filter_eq_nil_iff.2 fun q hq => by
   obtain ⟨k,hk⟩ := List.mem_iff_getElem?.1 hq
   rw [List.getElem?_take] at hk
   split at hk
   · have := a2 k q (by omega) hk; simp; omega
   · cases hk
 have f2 : FC ((ps.drop i).take m) Dj Gz = (ps.drop i).take m := List.filter_eq_self.2 fun q hq => by
   obtain ⟨k,hk⟩ := List.mem_iff_getElem?.1 hq
   rw [List.getElem?_take] at hk
   split at hk
   · rename_i vm
     rw [List.getElem?_drop] at hk
     have g1 := m2 _ q (by omega) hk
     have g2 := a3 _ q (by omega) hk
     simp; omega
   · cases hk
 have f3 : FC ((ps.drop i).drop m) Dj Gz = [] := List.filter_eq_nil_iff.2 fun q hq => by
   obtain ⟨k,hk⟩ := List.mem_iff_getElem?.1 hq
   rw [List.getElem?_drop,List.getElem?_drop] at hk
   have := m3 _ q (by omega) hk
   simp; omega
 rw [f1,f2,f3]; simp
theorem PQ {p : Option Addr} {n c : Nat} {ps : List Pt} {Dj Gz : Int} (hr : Ae 2 Ey σ p n ps) (hc : n ≤ c) (hs : Yc ps)
   (h : ∀ q m d,Ae 2 Ey σ q m (FC ps Dj Gz) → m ≤ d → R (.returned (.slice q m d)) σ) : Spec prog 141 #[.slice p n c,.int .i64 Dj,.int .i64 Gz] σ R := by
 have hl : ps.length = n := hr.1
 have c1 : ∀ a b x σ' R',R' (.returned (.int .i64 (if a ≤ x then -1 else 1))) σ' → Spec prog 176 #[.agg #[.int .i64 a,.int .u64 b],.int .i64 x] σ' R' := fun a b x σ' R' hh => MA.start fun _ => ⟨fun hle => by rw [if_pos hle] at hh; exact hh,fun hle => by rw [if_neg hle] at hh; exact hh⟩
 have c2 : ∀ a b x σ' R',R' (.returned (.int .i64 (if a ≤ x then -1 else 1))) σ' → Spec prog 177 #[.agg #[.int .i64 a,.int .u64 b],.int .i64 x] σ' R' := fun a b x σ' R' hh => Lw.start fun _ => ⟨fun hle => by rw [if_pos hle] at hh; exact hh,fun hle => by rw [if_neg hle] at hh; exact hh⟩
 have ha := (ID (x := Dj) hs).1
 have hm := (ID (x := Gz) hs).1
 refine O8.start (eD (fun args w => call176 args w) c1 hr hs fun t => ⟨_,_,rfl,eD (fun args w => call177 args w) c2 hr hs fun t' => ⟨_,_,rfl,?_⟩⟩)
 have e : (if ((GO ps Gz : Nat) : Int) < (GO ps Dj : Nat) then ((GO ps Gz : Nat) : Int) else (GO ps Dj : Nat)) = ((min (GO ps Dj) (GO ps Gz) : Nat) : Int) := by split <;> omega
 rw [e]
 generalize hi : min (GO ps Dj) (GO ps Gz) = i
 have Vt := Ae.sub (i := i) (m := GO ps Gz - i) hr (by decide) (by omega) hc
 rw [sM hs Dj Gz hi.symm rfl] at Vt
 refine ⟨by omega,?_⟩
 have := h _ _ (c - i) Vt (by omega)
 simpa using this
end
end TwW
end
section
namespace TwW
open Go Tw Go.RowKit Go.Proofs.Tryz
theorem IE {α : Type} {P : α → Bool} : ∀ {l : List α} {k : Nat},k ≤ l.length → (∀ j u,j < k → l[j]? = some u → P u = true) → (∀ u,l[k]? = some u → P u = false) → (l.takeWhile P).length = k
 | [],k,hk,_,_ => by simp at hk; subst hk; rfl
 | a :: l,0,_,_,h2 => by simp [List.takeWhile,h2 a rfl]
 | a :: l,k + 1,hk,h1,h2 => by
   have ha : P a = true := h1 0 a (by omega) rfl
   simp only [List.takeWhile,ha,List.length_cons]
   rw [IE (k := k) (by simp at hk; omega) (fun j u hj hu => h1 (j + 1) u (by omega) (by simpa using hu)) (fun u hu => h2 u (by simpa using hu))]
def AO (s : ByteArray) : Nat := (s.data.toList.takeWhile BX).length
theorem LR (s : ByteArray) : AO s ≤ s.size := by
 unfold AO
 exact Nat.le_trans (List.Sublist.length_le (List.takeWhile_sublist _)) (Nat.le_of_eq (Array.length_toList (xs := s.data)))
section
variable [Ej] {σ : Hp} {R : Rr}
omit [Ej] in
theorem Ud {s : ByteArray} {h : Nat} (hh : h ≤ s.size) : YF prog (Instr.sliceAt 9 (.string s) none (some (.int .i64 (h : Int))) none) σ (.string (s.extract 0 h)) := fun w _ => by
 rw [run_sliceAt_string (h := underlying9)]
 have h1 : (h : Int) ≤ s.size := by omega
 simp [Instr.slice,run_underlying underlying9,Instr.sliceBounds,run_sliceBound,h1,Result.andThen]
omit [Ej] in
theorem Nf {s : ByteArray} {l : Nat} (hl : l ≤ s.size) : YF prog (Instr.sliceAt 9 (.string s) (some (.int .i64 (l : Int))) none none) σ (.string (s.extract l s.size)) := fun w _ => by
 rw [run_sliceAt_string (h := underlying9)]
 have h1 : (l : Int) ≤ s.size := by omega
 simp [Instr.slice,run_underlying underlying9,Instr.sliceBounds,run_sliceBound,h1,Result.andThen]
omit [Ej] in
theorem byte_at {s : ByteArray} {k : Nat} (hk : k < s.size) : ∃ u,s.data[k]? = some u ∧ s.data.toList[k]? = some u := ⟨s.data[k]'hk,by rw [Array.getElem?_eq_getElem],by rw [Array.getElem?_toList,Array.getElem?_eq_getElem]⟩
theorem G1 {s : ByteArray} (hb : s.size ≤ 4611686018427387904) (h : R (.returned (.int .i64 (AO s))) σ) : Spec prog 131 #[.string s] σ R := by
 have hlen : s.data.toList.length = s.size := Array.length_toList (xs := s.data)
 refine Gq.start ?_
 suffices H : ∀ g k : Nat,s.size - k = g → k ≤ s.size → (∀ j u,j < k → s.data.toList[j]? = some u → BX u = true) → Gq.JD R s k σ from H s.size 0 rfl (Nat.zero_le _) (fun j u hj => by omega)
 intro g
 induction g with
 | zero =>
   intro k hg hk h1
   have e : AO s = k := IE (by omega) h1 (fun u hu => by have := (List.getElem?_eq_some_iff.1 hu).1; omega)
   rw [e] at h
   exact Gq.BR ⟨fun Ax => by omega,fun _ => h⟩
 | succ g ih =>
   intro k hg hk h1
   obtain ⟨u,hu,C1⟩ := byte_at (show k < s.size by omega)
   have stop : BX u = false → R (.returned (.int .i64 k)) σ := fun hd => by
     have e : AO s = k := IE (by omega) h1 (fun v hv => by rw [C1] at hv; cases hv; exact hd)
     rw [e] at h; exact h
   refine Gq.BR ⟨fun _ => ⟨u,by omega,by simpa using hu,OW.start ⟨fun Ye => ⟨_,rfl,fun ht => ?_,fun hf => stop ?_⟩,fun Ye => ⟨false,rfl,⟨fun ht => (by cases ht),fun _ => stop ?_⟩⟩⟩⟩,fun hh => by omega⟩
   · refine ⟨AN (by omega : k < s.size) hb,ih (k + 1) (by omega) (by omega) fun j v hj hv => ?_⟩
     by_cases qM : j = k
     · rw [qM,C1] at hv; cases hv
       have := of_decide_eq_true ht
       exact decide_eq_true (by omega)
     · exact h1 j v (by omega) hv
   · have := of_decide_eq_false hf
     exact decide_eq_false (by omega)
   · exact decide_eq_false (by omega)
end
end TwW
end
section
namespace TwW
open Go Tw Go.RowKit Go.Proofs.Tryz
abbrev Ll (n : Nd) (p : Option Addr) (k c : Nat) (q : Option Addr) (m d : Nat) : Value := .agg #[.int .i64 n.kind,.int .i64 n.op,.string n.text,.slice p k c,.int .i64 n.width,.int .i64 n.back,.int .i64 n.EG,.slice q m d,.bool n.bool,.int .i64 n.parts]
def BE (n : Nd) : Nd :=
 if n.kind = 1 then ⟨n.kind,0,n.text,[],0,0,0,[],false,0⟩
 else if n.kind = 2 then ⟨n.kind,0,ByteArray.mk #[],[],0,n.back,0,[],false,0⟩
 else if n.kind = 3 then ⟨n.kind,0,ByteArray.mk #[],[],n.width,n.back,0,[],false,0⟩
 else if n.kind = 4 then ⟨n.kind,n.op,ByteArray.mk #[],[],0,0,0,[],false,n.parts⟩
 else if n.kind = 5 then ⟨n.kind,n.op,ByteArray.mk #[],[],0,0,n.EG,[],false,n.parts⟩
 else if n.kind = 6 then ⟨n.kind,n.op,ByteArray.mk #[],[],0,0,n.EG,[],n.bool,n.parts⟩
 else ⟨n.kind,0,ByteArray.mk #[],[],0,0,0,[],false,n.parts⟩
theorem nG : ∀ w,(Go.sizeOf 2).run prog w = .ok 1 w := fun w => by kernel_rfl
theorem IF : ∀ w,(Go.sizeOf 3).run prog w = .ok 1 w := fun w => by kernel_rfl
theorem vv : ∀ w,(Go.sizeOf 4).run prog w = .ok 1 w := fun w => by kernel_rfl
theorem AFz : ∀ w,(Go.sizeOf 9).run prog w = .ok 1 w := fun w => by kernel_rfl
theorem nH : ∀ w,(Go.sizeOf 36).run prog w = .ok 10 w := fun w => by kernel_rfl
theorem Sc {c : Array Value} {l : List Value} (h : l.length = c.size) : Mp c 0 l = l.toArray := by
 apply Array.ext_getElem?
 intro j
 rw [P9 l c 0 j (by omega)]
 split
 · simp
 · rename_i hj
   rw [Array.getElem?_eq_none (by omega),List.getElem?_toArray,List.getElem?_eq_none (by omega)]
section
variable [Ej] {σ : Hp} {R : Rr}
omit [Ej] in
theorem nI {τ : Hp} {b T : Nat} : ∀ {l : List Value} {c : Array Value} {o : Nat},τ b = some (.cells c T (0,0)) → (∀ j v,l[j]? = some v → c[o + j]? = some v) → As τ b o l
 | [],_,_,_,_ => trivial
 | v :: l,c,o,hb,h => ⟨by unfold Hp.ld; rw [hb]; simpa using h 0 v rfl,nI hb fun j u hu => by have := h (j + 1) u (by simpa using hu); rwa [show o + (j + 1) = o + 1 + j by omega] at this⟩
omit [Ej] in
theorem eE {τ : Hp} {b : Nat} {o : Obj} (hb : σ b = none) (h : Ext σ τ) : Ext σ (τ.set b o) := fun k u hk => by
 rw [Hp.AI (fun e => by rw [e,hb] at hk; cases hk)]; exact h k u hk
set_option maxHeartbeats 4000000 in
theorem gQ {n : Nd} {p q : Option Addr} {k c m d : Nat} (h : ∀ σ',Ext σ σ' → R (.returned (Ll (BE n) none 0 0 none 0 0)) σ') : Spec prog 121 #[Ll n p k c q m d] σ R := by
 refine SH.start fun _ _ b hb => ?_
 have fin : ∀ (τ : Hp) (c : Array Value) (T : Nat),τ b = some (.cells c T (0,0)) → Ext σ τ → c = #[.int .i64 (BE n).kind,.int .i64 (BE n).op,.string (BE n).text,.slice none 0 0,.int .i64 (BE n).width,.int .i64 (BE n).back,.int .i64 (BE n).EG,.slice none 0 0,.bool (BE n).bool,.int .i64 (BE n).parts] →
     ∃ Xn au av mO mP mQ mR mS mT mU mV mW mX mY,As τ b 0 [.int .i64 Xn,.int .i64 au,.string av,.slice mO mP mQ,.int .i64 mR,.int .i64 mS,.int .i64 mT,.slice mU mV mW,.bool mX,.int .i64 mY] ∧ R (.returned (.agg #[.int .i64 Xn,.int .i64 au,.string av,.slice mO mP mQ,.int .i64 mR,.int .i64 mS,.int .i64 mT,.slice mU mV mW,.bool mX,.int .i64 mY])) τ := fun τ c T hτ hx hc =>
   ⟨_,_,_,_,_,_,_,_,_,_,_,_,_,_,nI hτ fun j v hv => by rw [hc,Nat.zero_add]; simpa using hv,h τ hx⟩
 have st : ∀ {τ : Hp} {c : Array Value} {T U o : Nat} {v : Value} {Φ : Unit → Hp → Prop},(∀ w,(Go.sizeOf U).run prog w = .ok 1 w) → τ b = some (.cells c T (0,0)) → Ext σ τ → o + 1 ≤ c.size → v.cells = #[v] → v.oneCell' = true →
     (∀ (τ' : Hp) (c' : Array Value),c' = Mp c o [v] → c'.size = c.size → τ' b = some (.cells c' T (0,0)) → Ext σ τ' → Φ () τ') → AJ prog (Instr.storeAt U (.pointer (aD b o)) v) τ Φ := fun {τ c T U o v Φ} hz hτ hx ho h1 h2 hk => by
   refine AJ.store hz hτ (by rw [h1]; rfl) (by simpa using ho) (fun u hu => by rw [h1] at hu; simp at hu; rw [hu]; exact h2) ?_
   rw [h1]
   exact hk _ _ rfl (Hs _ _ _) (Hp.AB _ _ _) (eE hb hx)
 have st0 : ∀ {Φ : Unit → Hp → Prop},(∀ (τ : Hp) (c : Array Value),c = #[.int .i64 n.kind,.int .i64 0,(.string (ByteArray.mk #[])),.slice none 0 0,.int .i64 0,.int .i64 0,.int .i64 0,.slice none 0 0,.bool false,.int .i64 0] → c.size = 10 → τ b = some (.cells c 36 (0,0)) → Ext σ τ → Φ () τ) →
     AJ prog (Instr.storeAt 36 (.pointer (aD b 0)) (.agg #[.int .i64 n.kind,.int .i64 0,(.string (ByteArray.mk #[])),.slice none 0 0,.int .i64 0,.int .i64 0,.int .i64 0,.slice none 0 0,.bool false,.int .i64 0])) (Hp.set σ b (.cells #[.int .i64 0,.int .i64 0,(.string (ByteArray.mk #[])),.slice none 0 0,.int .i64 0,.int .i64 0,.int .i64 0,.slice none 0 0,.bool false,.int .i64 0] 36 (0,0))) Φ := fun {Φ} hk => by
   refine AJ.store nH (Hp.AB _ _ _) rfl (by simp) (by simp [Value.cells,Value.oneCell']) ?_
   exact hk _ _ (Sc rfl) (by rw [Hs]; rfl) (Hp.AB _ _ _) (eE hb (Ext.set hb))
 refine st0 fun τ c0 e0 z0 g0 x0 => ?_
 refine ⟨fun h1 => ?_,fun h1 => ⟨fun h2 => ?_,fun h2 => ⟨fun h3 => ?_,fun h3 => ⟨fun h4 => ?_,fun h4 => ⟨fun h5 => ?_,fun h5 => ⟨fun h6 => ?_,fun h6 => ?_⟩⟩⟩⟩⟩⟩
 · refine st AFz g0 x0 (by omega) rfl rfl fun τ1 c1 e1 z1 g1 x1 => fin τ1 c1 _ g1 x1 ?_
   subst e0 e1; unfold BE; simp only [h1,if_true]; rfl
 · refine st nG g0 x0 (by omega) rfl rfl fun τ1 c1 e1 z1 g1 x1 => fin τ1 c1 _ g1 x1 ?_
   subst e0 e1; unfold BE; simp only [h2,if_true]; rfl
 · refine st nG g0 x0 (by omega) rfl rfl fun τ1 c1 e1 z1 g1 x1 => ?_
   refine st nG g1 x1 (by omega) rfl rfl fun τ2 c2 e2 z2 g2 x2 => fin τ2 c2 _ g2 x2 ?_
   subst e0 e1 e2; unfold BE; simp only [h3,if_true]; rfl
 · refine st IF g0 x0 (by omega) rfl rfl fun τ1 c1 e1 z1 g1 x1 => ?_
   refine st IF g1 x1 (by omega) rfl rfl fun τ2 c2 e2 z2 g2 x2 => fin τ2 c2 _ g2 x2 ?_
   subst e0 e1 e2; unfold BE; simp only [h4,if_true]; rfl
 · refine st IF g0 x0 (by omega) rfl rfl fun τ1 c1 e1 z1 g1 x1 => ?_
   refine st IF g1 x1 (by omega) rfl rfl fun τ2 c2 e2 z2 g2 x2 => ?_
   refine st IF g2 x2 (by omega) rfl rfl fun τ3 c3 e3 z3 g3 x3 => fin τ3 c3 _ g3 x3 ?_
   subst e0 e1 e2 e3; unfold BE; simp only [h5,if_true]; rfl
 · refine st IF g0 x0 (by omega) rfl rfl fun τ1 c1 e1 z1 g1 x1 => ?_
   refine st IF g1 x1 (by omega) rfl rfl fun τ2 c2 e2 z2 g2 x2 => ?_
   refine st vv g2 x2 (by omega) rfl rfl fun τ3 c3 e3 z3 g3 x3 => ?_
   refine st IF g3 x3 (by omega) rfl rfl fun τ4 c4 e4 z4 g4 x4 => fin τ4 c4 _ g4 x4 ?_
   subst e0 e1 e2 e3 e4; unfold BE; simp only [h6,if_true]; rfl
 · refine st IF g0 x0 (by omega) rfl rfl fun τ1 c1 e1 z1 g1 x1 => fin τ1 c1 _ g1 x1 ?_
   subst e0 e1; unfold BE; simp only [h1,h2,h3,h4,h5,h6,if_false]; rfl
end
end TwW
end
section
namespace TwW
open Go Tw Go.RowKit Go.Proofs.Tryz
section
variable {σ : Hp} {R : Rr}
theorem CX {k : Int} (h : R (.returned (.bool (Fc k))) σ) : Spec prog 124 #[.int .i64 k] σ R := by
 refine Ji.start ⟨fun h1 => ?_,fun h1 => ?_⟩
 · rw [show Fc k = decide (k ≤ 10) by unfold Fc; rw [decide_eq_true h1]; rfl] at h; exact h
 · rw [show Fc k = false by unfold Fc; rw [decide_eq_false h1]; rfl] at h; exact h
theorem PR {k : Int} (h : R (.returned (.bool (decide (11 ≤ k ∧ k ≤ 13)))) σ) : Spec prog 128 #[.int .i64 k] σ R := by
 refine R7.start ⟨fun h1 => ?_,fun h1 => ?_⟩
 · rw [show decide (11 ≤ k ∧ k ≤ 13) = decide (k ≤ 13) from decide_eq_decide.2 ⟨fun h => h.2,fun h => ⟨h1,h⟩⟩] at h; exact h
 · rw [show decide (11 ≤ k ∧ k ≤ 13) = false from decide_eq_false (fun hh => h1 hh.1)] at h; exact h
theorem Od {v l : Int} (h : R (.returned (.bool (ME v l))) σ) : Spec prog 123 #[.int .i64 v,.int .i64 l] σ R := by
 refine SD.start ⟨fun h1 => ?_,fun h1 => ?_⟩
 · rw [show ME v l = decide (v < 2147483648) by unfold ME; rw [decide_eq_true h1]; rfl] at h; exact h
 · rw [show ME v l = false by unfold ME; rw [decide_eq_false h1]; rfl] at h; exact h
theorem Ue {k : Int} (h : R (.returned (.bool (decide (1 ≤ k ∧ k ≤ 4)))) σ) : Spec prog 125 #[.int .i64 k] σ R := by
 refine RD.start ⟨fun h1 => ?_,fun h1 => ?_⟩
 · rw [show decide (1 ≤ k ∧ k ≤ 4) = decide (k ≤ 4) from decide_eq_decide.2 ⟨fun h => h.2,fun h => ⟨h1,h⟩⟩] at h; exact h
 · rw [show decide (1 ≤ k ∧ k ≤ 4) = false from decide_eq_false (fun hh => h1 hh.1)] at h; exact h
theorem Oe {s : ByteArray} (h : R (.returned (.bool (Ex s))) σ) : Spec prog 126 #[.string s] σ R := by
 refine SE.start (Kk ?_)
 exact ⟨_,rfl,h⟩
theorem N1.at {p : Option Addr} {n i : Nat} {ms : List Mt} {x : Mt} (hr : Ae 3 N1 σ p n ms) (hx : ms[i]? = some x) : ∃ b o,p = some ⟨b,o,none⟩ ∧ As σ b (o + i * 3) [.int .i64 x.kind,.string x.name,.string x.val] := by
 obtain ⟨b,o,vs,hp,rfl,hl⟩ := Ae.idx hr hx
 exact ⟨b,o,hp,hl⟩
def bR (m : Mt) : Bool := decide (1 ≤ m.kind ∧ m.kind ≤ 4) && Ex m.name && decide (m.val.size ≤ 256)
theorem PS {p : Option Addr} {n c : Nat} {ms : List Mt} (hr : Ae 3 N1 σ p n ms) (h : R (.returned (.int .i64 (JN Ex ms))) σ) : Spec prog 80 #[.slice p n c] σ R := by
 have hl : ms.length = n := hr.1
 refine FU.start ⟨fun h8 => ?_,fun h8 => ?_⟩
 · rw [show JN Ex ms = 41 by unfold JN; rw [if_pos (by omega)]] at h; exact h
 have hm : JN Ex ms = if ms.all bR then 0 else 40 := by unfold JN; rw [if_neg (by omega)]; rfl
 rw [hm] at h
 suffices H : ∀ g k : Nat,n - k = g → k ≤ n → ms.all bR = (ms.drop k).all bR → FU.Lc R p n c n k σ from H n 0 rfl (Nat.zero_le _) rfl
 intro g
 induction g with
 | zero =>
   intro k hg hk he
   rw [List.drop_eq_nil_of_le (by omega)] at he
   rw [he] at h
   exact FU.IY ⟨fun Ax => by omega,fun _ => h⟩
 | succ g ih =>
   intro k hg hk he
   have IP : k < n := by omega
   obtain ⟨x,hx⟩ := hr.ex IP
   obtain ⟨b,o,rfl,Ek⟩ := N1.at hr hx
   rw [A3 hx,List.all_cons] at he
   have bad : bR x = false → R (.returned (.int .i64 40)) σ := fun hf => by
     rw [hf] at he
     rw [he] at h; exact h
   refine FU.IY ⟨fun _ => ⟨b,o,rfl,by omega,x.kind,x.name,x.val,by simpa using Ek,fun _ => Ue ⟨_,rfl,fun hf => bad ?_,fun ht => Oe ⟨_,rfl,fun hf => bad ?_,fun hn => ⟨fun hv => bad ?_,fun hv => ⟨AN IP hr.big,ih (k + 1) (by omega) (by omega) ?_⟩⟩⟩⟩⟩,fun hh => by omega⟩
   · unfold bR; rw [hf]; rfl
   · unfold bR; rw [hf]; simp
   · unfold bR; rw [show decide (x.val.size ≤ 256) = false from decide_eq_false (by omega)]; simp
   · rw [he,show bR x = true by unfold bR; rw [ht,hn,show decide (x.val.size ≤ 256) = true from decide_eq_true (by omega)]; rfl,Bool.true_and]
end
end TwW
end
section
namespace TwW
open Go Tw Go.RowKit Go.Proofs.Tryz
section
variable {σ : Hp} {R : Rr}
theorem bS {n : Nd} {p q : Option Addr} {k c m d : Nat} (hr : E4 1 σ q m (n.names.map .string)) (h : R (.returned (.bool (Oa Ex n))) σ) : Spec prog 122 #[Ll n p k c q m d] σ R := by
 have hl : n.names.length = m := by have := hr.1; simpa using this
 refine FX.start fun _ => ?_
 suffices H : ∀ g i : Nat,m - i = g → i ≤ m → n.names.all Ex = (n.names.drop i).all Ex → FX.Hi R n.kind n.op n.text p k c n.width n.back n.EG q m d n.bool n.parts q m d m i σ from H m 0 rfl (Nat.zero_le _) rfl
 have Hf : m ≤ 4611686018427387904 := hr.2.1
 intro g
 induction g with
 | zero =>
   intro i hg hi he
   rw [List.drop_eq_nil_of_le (by omega)] at he
   have e : Oa Ex n = (decide (m = 0) || decide (n.EG ≠ 0)) := by unfold Oa; rw [he,hl]; rfl
   rw [e] at h
   refine FX.Bc ⟨fun Ax => by omega,fun _ => ⟨fun h0 => ?_,fun h0 => ?_⟩⟩
   · rw [decide_eq_true (show m = 0 by omega)] at h; exact h
   · rw [decide_eq_false (show ¬ m = 0 by omega)] at h; exact h
 | succ g ih =>
   intro i hg hi he
   have BM : i < m := by omega
   obtain ⟨x,hx⟩ : ∃ x,n.names[i]? = some x := ⟨_,List.getElem?_eq_getElem (by omega)⟩
   obtain ⟨b,o,rfl,Ek⟩ := E4.at1 hr (k := i) (v := .string x) (by rw [List.getElem?_map,hx]; rfl)
   rw [A3 hx,List.all_cons] at he
   refine FX.Bc ⟨fun _ => ⟨b,o,rfl,by omega,x,by simpa using Ek,Oe ⟨_,rfl,fun hf => ?_,fun ht => ⟨AN BM Hf,ih (i + 1) (by omega) (by omega) ?_⟩⟩⟩,fun hh => by omega⟩
   · have e : Oa Ex n = false := by unfold Oa; rw [he,hf]; rfl
     rw [e] at h; exact h
   · rw [he,ht,Bool.true_and]
theorem nJ {a b : ByteArray} : (ByteArray.toList a == ByteArray.toList b) = decide (a.data.toList = b.data.toList) := by
 rw [ByteArray.toList_eq,ByteArray.toList_eq]
 by_cases h : a.data.toList = b.data.toList
 · simp [h]
 · rw [decide_eq_false h]; exact beq_eq_false_iff_ne.2 h
theorem AF0 {a b : ByteArray} : (ByteArray.toList a == ByteArray.toList b) = decide (a = b) := by
 rw [nJ]
 exact decide_eq_decide.2 ⟨fun h => ByteArray.ext (Array.toList_inj.1 h),fun h => by rw [h]⟩
def F0 (a b : Nd) : Bool := decide (a.kind = b.kind ∧ a.op = b.op ∧ a.text = b.text ∧ a.width = b.width ∧ a.back = b.back ∧ a.EG = b.EG ∧ a.bool = b.bool ∧ a.parts = b.parts)
theorem bT {a b : Nd} {p p' q q' : Option Addr} {k c k' c' m d m' d' : Nat} (h : R (.returned (.bool (F0 a b))) σ) : Spec prog 120 #[Ll a p k c q m d,Ll b p' k' c' q' m' d'] σ R := by
 have no : ¬ (a.kind = b.kind ∧ a.op = b.op ∧ a.text = b.text ∧ a.width = b.width ∧ a.back = b.back ∧ a.EG = b.EG ∧ a.bool = b.bool ∧ a.parts = b.parts) → R (.returned (.bool false)) σ := fun hn => by
   rw [show F0 a b = false from decide_eq_false hn] at h; exact h
 have last : a.kind = b.kind ∧ a.op = b.op ∧ a.text = b.text ∧ a.width = b.width ∧ a.back = b.back ∧ a.EG = b.EG ∧ a.bool = b.bool → R (.returned (.bool (decide (a.parts = b.parts)))) σ := fun hh => by
   rw [show F0 a b = decide (a.parts = b.parts) from decide_eq_decide.2 ⟨fun g => g.2.2.2.2.2.2.2,fun g => ⟨hh.1,hh.2.1,hh.2.2.1,hh.2.2.2.1,hh.2.2.2.2.1,hh.2.2.2.2.2.1,hh.2.2.2.2.2.2,g⟩⟩] at h; exact h
 refine O7.start fun _ _ => ⟨fun h1 => ⟨fun h2 => ⟨fun h3 => ?_,fun h3 => no ?_⟩,fun h2 => no fun g => h2 g.2.1⟩,fun h1 => no fun g => h1 g.1⟩
 · rw [AF0] at h3
   have h3 := of_decide_eq_true h3
   refine ⟨fun h4 => ⟨fun h5 => ⟨fun h6 => ⟨fun t1 => ⟨fun t2 => last ⟨h1,h2,h3,h4,h5,h6,t1.trans t2.symm⟩,fun t2 => no fun g => ?_⟩,fun t1 => ⟨fun t2 => no fun g => ?_,fun t2 => last ⟨h1,h2,h3,h4,h5,h6,t1.trans t2.symm⟩⟩⟩,fun h6 => no fun g => h6 g.2.2.2.2.2.1⟩,fun h5 => no fun g => h5 g.2.2.2.2.1⟩,fun h4 => no fun g => h4 g.2.2.2.1⟩
   · have := g.2.2.2.2.2.2.1; rw [t1,t2] at this; cases this
   · have := g.2.2.2.2.2.2.1; rw [t1,t2] at this; cases this
 · rw [AF0] at h3
   exact fun g => of_decide_eq_false h3 g.2.2.1
end
end TwW
end
section
namespace TwW
open Go Tw Go.RowKit Go.Proofs.Tryz
def Ff (s : ByteArray) : Bool :=
 if AO s = 0 then false else if 1 < AO s ∧ s.data[0]? = some 48 then false else if AO s = s.size then decide (AO s ≤ 15)
 else decide (s.data[AO s]? = some 46 ∧ 0 < AO (s.extract (AO s + 1) s.size) ∧ AO s + 1 + AO (s.extract (AO s + 1) s.size) = s.size ∧ AO s + AO (s.extract (AO s + 1) s.size) ≤ 15)
theorem I1 {u : UInt8} {k : Nat} (hk : k < 256) : ((u.toNat : Nat) : Int) = k ↔ u = UInt8.ofNat k := by
 constructor
 · intro h
   apply UInt8.toNat_inj.1
   rw [UInt8.toNat_ofNat']
   omega
 · rintro rfl
   rw [UInt8.toNat_ofNat']
   omega
section
variable {σ : Hp} {R : Rr}
theorem Kr {s : ByteArray} (hb : s.size ≤ 4611686018427387904) (h : R (.returned (.bool (Ff s))) σ) : Spec prog 94 #[.string s] σ R := by
 have hle := LR s
 refine SG.start (G1 hb ⟨_,rfl,fun h0 => ?_,fun h0 => ⟨_,Ud hle,?_⟩⟩)
 · rw [show Ff s = false by unfold Ff; rw [if_pos (by omega)]] at h; exact h
 have HY : (s.extract 0 (AO s)).size = AO s := by rw [ByteArray.size_extract]; omega
 have tail : ¬ (1 < AO s ∧ s.data[0]? = some 48) → Br ((AO s : Int) = ((ByteArray.size s : Nat) : Int)) (R (.returned (.bool (decide ((AO s : Int) ≤ 15)))) σ) (AM ((AO s : Int) + 1) ∧ ∃ s24,YF prog (Instr.sliceAt 9 (.string s) (some (.int .i64 ((AO s : Int) + 1))) none none) σ (.string s24) ∧ Spec prog 131 #[.string s24] σ (AA R (CI .i64 fun QL AH => ∃ u28 : UInt8,0 ≤ (AO s : Int) ∧ (ByteArray.data s)[Int.toNat (AO s : Int)]? = some u28 ∧ Br ((((UInt8.toNat u28 : Nat) : Int) : Int) = 46) (Br (0 < QL) (AM ((AO s : Int) + 1) ∧ AM (((AO s : Int) + 1) + QL) ∧ Br (((((AO s : Int) + 1) + QL) : Int) = ((ByteArray.size s : Nat) : Int)) (AM ((AO s : Int) + QL) ∧ R (.returned (.bool (decide ((((AO s : Int) + QL) : Int) ≤ 15)))) AH) (R (.returned (.bool false)) AH)) (R (.returned (.bool false)) AH)) (R (.returned (.bool false)) AH)))) := fun hn => by
   refine ⟨fun he => ?_,fun he => ⟨by unfold AM; omega,s.extract (AO s + 1) s.size,Nf (l := AO s + 1) (by omega),?_⟩⟩
   · rw [show Ff s = decide ((AO s : Int) ≤ 15) by unfold Ff; rw [if_neg (by omega),if_neg hn,if_pos (by omega)]; exact decide_eq_decide.2 (by omega)] at h; exact h
   have ALm : (s.extract (AO s + 1) s.size).size = s.size - (AO s + 1) := by rw [ByteArray.size_extract]; omega
   have hm := LR (s.extract (AO s + 1) s.size)
   refine G1 (by omega) ?_
   obtain ⟨u,hu,_⟩ := byte_at (show AO s < s.size by omega)
   have hO : Ff s = decide (s.data[AO s]? = some 46 ∧ 0 < AO (s.extract (AO s + 1) s.size) ∧ AO s + 1 + AO (s.extract (AO s + 1) s.size) = s.size ∧ AO s + AO (s.extract (AO s + 1) s.size) ≤ 15) := by unfold Ff; rw [if_neg (by omega),if_neg hn,if_neg (by omega)]
   rw [hO,hu] at h
   generalize AO (s.extract (AO s + 1) s.size) = m at *
   have b46 := I1 (u := u) (k := 46) (by decide)
   have no : ¬ (u = 46 ∧ 0 < m ∧ AO s + 1 + m = s.size ∧ AO s + m ≤ 15) → R (.returned (.bool false)) σ := fun hh => by
     rw [decide_eq_false (by rw [Option.some.injEq]; exact hh)] at h; exact h
   refine ⟨_,rfl,u,by omega,by simpa using hu,fun Uf => ⟨fun h0m => ⟨by unfold AM; omega,by unfold AM; omega,fun hs => ⟨by unfold AM; omega,?_⟩,fun hs => no fun g => hs (by omega)⟩,fun h0m => no fun g => h0m (by omega)⟩,fun Uf => no fun g => Uf (b46.2 g.1)⟩
   rw [show decide (some u = some 46 ∧ 0 < m ∧ AO s + 1 + m = s.size ∧ AO s + m ≤ 15) = decide (((AO s : Int) + m) ≤ 15) from decide_eq_decide.2 ⟨fun g => by omega,fun g => ⟨by rw [b46.1 Uf]; rfl,by omega,by omega,by omega⟩⟩] at h
   exact h
 refine NA.start ⟨fun h1 => ?_,fun h1 => ⟨false,rfl,fun ht => (by cases ht),fun _ => tail (by omega)⟩⟩
 obtain ⟨u,hu,_⟩ := byte_at (show 0 < s.size by omega)
 have Pm := I1 (u := u) (k := 48) (by decide)
 have C1 : (s.extract 0 (AO s)).data[0]? = some u := by
   rw [ByteArray.data_extract,Array.getElem?_extract]
   rw [if_pos (by have : s.data.size = s.size := rfl; omega)]
   simpa using hu
 refine ⟨u,by omega,by simpa using C1,_,rfl,fun ht => ?_,fun hf => tail ?_⟩
 · have := Pm.1 (of_decide_eq_true ht)
   rw [show Ff s = false by unfold Ff; rw [if_neg (by omega),if_pos ⟨by omega,by rw [hu,this]; rfl⟩]] at h; exact h
 · rintro ⟨_,g⟩
   rw [hu,Option.some.injEq] at g
   exact of_decide_eq_false hf (Pm.2 g)
end
end TwW
end
section
namespace TwW
open Go Tw Go.RowKit Go.Proofs.Tryz
def Fg (n : Nd) : Bool :=
 if n.kind = 1 then Ff n.text else if n.kind = 2 then ME n.back 0 else if n.kind = 3 then ME n.width 1 && ME n.back 0
 else if n.kind = 4 then decide (n.parts = 1 ∧ 1 ≤ n.op ∧ n.op ≤ 12)
 else if n.kind = 5 then decide (n.parts = 1 ∧ 1 ≤ n.op ∧ n.op ≤ 5 ∧ (n.EG = 0 ∨ n.EG = 1 ∨ n.EG = 2))
 else if n.kind = 6 then decide (n.parts = 2 ∧ 1 ≤ n.op ∧ n.op ≤ 13 ∧ (n.EG = 0 ∨ n.EG = 3 ∨ n.EG = 4)) && (!n.bool || Fc n.op)
 else decide (n.kind = 7 ∧ n.parts = 1)
def Fh (n : Nd) : Bool := F0 n (BE n) && Oa Ex n && !(decide (0 < n.mt.length) && decide (n.kind ≠ 2) && decide (n.kind ≠ 3)) && Fg n
section
variable {σ : Hp} {R : Rr}
theorem gR {n : Nd} {p q : Option Addr} {k c m d : Nat} (hk : n.mt.length = k) (hr : E4 1 σ q m (n.names.map .string)) (hb : n.text.size ≤ 4611686018427387904) (h : ∀ σ',Ext σ σ' → R (.returned (.bool (Fh n))) σ') : Spec prog 79 #[Ll n p k c q m d] σ R := by
 refine RA.start fun _ => gQ fun σ1 hx => ⟨_,_,_,_,_,_,_,_,_,_,_,_,_,_,rfl,bT ⟨_,rfl,fun hf => ?_,fun ht => bS (hr.mono hx) ⟨_,rfl,fun hf => ?_,fun hn => ?_⟩⟩⟩
 · have := h σ1 hx; rw [show Fh n = false by unfold Fh; rw [hf]; rfl] at this; exact this
 · have := h σ1 hx; rw [show Fh n = false by unfold Fh; rw [ht,hf]; rfl] at this; exact this
 have hh := h σ1 hx
 have e : Fh n = (!(decide (0 < n.mt.length) && decide (n.kind ≠ 2) && decide (n.kind ≠ 3)) && Fg n) := by unfold Fh; rw [ht,hn]; rfl
 rw [e] at hh
 clear e h
 have fin : ¬ (0 < n.mt.length ∧ n.kind ≠ 2 ∧ n.kind ≠ 3) → ∀ t,Fg n = t → R (.returned (.bool t)) σ1 := fun DQ t ht => by
   have e2 : (!(decide (0 < n.mt.length) && decide (n.kind ≠ 2) && decide (n.kind ≠ 3))) = true := by
     rw [Bool.not_eq_true',Bool.eq_false_iff]
     intro hc
     simp only [Bool.and_eq_true,decide_eq_true_eq] at hc
     exact DQ ⟨hc.1.1,hc.1.2,hc.2⟩
   rw [e2,Bool.true_and,ht] at hh; exact hh
 refine ⟨fun hm => ⟨fun h2 => ⟨fun h3 => ?_,fun h3 => ?_⟩,fun h2 => ?_⟩,fun hm => ?_⟩
 · rw [show (!(decide (0 < n.mt.length) && decide (n.kind ≠ 2) && decide (n.kind ≠ 3))) = false by rw [decide_eq_true (show 0 < n.mt.length by omega),decide_eq_true h2,decide_eq_true h3]; rfl,Bool.false_and] at hh
   exact hh
 all_goals
   have fin := fin (by omega)
   clear hh ht hn
   refine ⟨fun k1 => Kr hb ⟨_,rfl,?_⟩,fun k1 => ⟨fun k2 => Od ⟨_,rfl,?_⟩,fun k2 => ⟨fun k3 => Od ⟨_,rfl,fun ht => Od ⟨_,rfl,?_⟩,fun hf => ?_⟩,fun k3 => ⟨fun k4 => ⟨fun hp => ⟨fun ho => ?_,fun ho => ?_⟩,fun hp => ?_⟩,fun k4 => ⟨fun k5 => ⟨fun hp => ⟨fun ho => ⟨fun Ba => ⟨fun g0 => ?_,fun g0 => ⟨fun g1 => ?_,fun g1 => ?_⟩⟩,fun Ba => ?_⟩,fun ho => ?_⟩,fun hp => ?_⟩,fun k5 => ⟨fun k6 => ⟨fun hp => ⟨fun ho => ⟨fun Ba => ⟨fun g0 => ⟨fun bf => ?_,fun bt => CX ⟨_,rfl,?_⟩⟩,fun g0 => ⟨fun g3 => ⟨fun bf => ?_,fun bt => CX ⟨_,rfl,?_⟩⟩,fun g3 => ⟨fun g4 => ⟨fun bf => ?_,fun bt => CX ⟨_,rfl,?_⟩⟩,fun g4 => ?_⟩⟩⟩,fun Ba => ?_⟩,fun ho => ?_⟩,fun hp => ?_⟩,fun k6 => ⟨fun k7 => ?_,fun k7 => ?_⟩⟩⟩⟩⟩⟩⟩ <;> (refine fin _ ?_; clear fin; unfold Fg; simp [*])
end
end TwW
end
section
namespace TwW
open Go Tw Go.RowKit Go.Proofs.Tryz
section
variable {σ : Hp} {R : Rr}
abbrev tyV (x : Int × Int) : Value := .tuple #[.int .i64 x.1,.int .i64 x.2]
def Yf (n : Nd) (a : Int) : Int × Int := if a = (if n.op = 11 ∨ n.op = 12 then 2 else 3) then (2,0) else (0,191)
def eF (a : Int) : Int × Int := if a = 2 then (2,0) else (0,191)
def nK (a : Int) : Int × Int := if a = 3 then (0,191) else (a,0)
theorem bU {w : Option Addr} {n : Nd} {p q r : Option Addr} {k c m d s t : Nat} {l : List Int} {a : Int} (hr : Ep .i64 σ r s l) (ha : l[0]? = some a) (h : R (.returned (tyV (Yf n a))) σ) : Spec prog 82 #[.pointer w,Ll n p k c q m d,.slice r s t] σ R := by
 have hs : l.length = s := hr.1
 have h0 := (List.getElem?_eq_some_iff.1 ha).1
 obtain ⟨b,o,rfl,Ek⟩ := Ep.at hr ha
 have go : ∀ z : Int,(if n.op = 11 ∨ n.op = 12 then 2 else 3) = z → Bf.Ew R (some ⟨b,o,none⟩) s t z σ := fun z hz => by
   unfold Yf at h
   rw [hz] at h
   refine Bf.FJ ⟨b,o,rfl,by omega,a,by simpa using Ek,fun A4 => ?_,fun heq => ?_⟩
   · rw [if_neg A4] at h; exact h
   · rw [if_pos (Decidable.not_not.1 heq)] at h; exact h
 exact Bf.start fun _ => ⟨fun h1 => go 2 (if_pos (.inl h1)),fun h1 => ⟨fun h2 => go 2 (if_pos (.inr h2)),fun h2 => go 3 (if_neg (by omega))⟩⟩
theorem gS {w : Option Addr} {n : Nd} {p q r : Option Addr} {k c m d s t : Nat} {l : List Int} {a : Int} (hr : Ep .i64 σ r s l) (ha : l[0]? = some a) (h : R (.returned (tyV (eF a))) σ) : Spec prog 83 #[.pointer w,Ll n p k c q m d,.slice r s t] σ R := by
 have hs : l.length = s := hr.1
 have h0 := (List.getElem?_eq_some_iff.1 ha).1
 obtain ⟨b,o,rfl,Ek⟩ := Ep.at hr ha
 unfold eF at h
 refine EO.start fun _ => ⟨b,o,rfl,by omega,a,by simpa using Ek,fun A4 => ?_,fun heq => ?_⟩
 · rw [if_neg A4] at h; exact h
 · rw [if_pos (Decidable.not_not.1 heq)] at h; exact h
theorem gT {w : Option Addr} {n : Nd} {p q r : Option Addr} {k c m d s t : Nat} {l : List Int} {a : Int} (hr : Ep .i64 σ r s l) (ha : l[0]? = some a) (h : R (.returned (tyV (nK a))) σ) : Spec prog 85 #[.pointer w,Ll n p k c q m d,.slice r s t] σ R := by
 have hs : l.length = s := hr.1
 have h0 := (List.getElem?_eq_some_iff.1 ha).1
 obtain ⟨b,o,rfl,Ek⟩ := Ep.at hr ha
 unfold nK at h
 refine Ed.start fun _ => ⟨b,o,rfl,by omega,a,by simpa using Ek,fun heq => ?_,fun A4 => ⟨by omega,a,by simpa using Ek,?_⟩⟩
 · rw [if_pos heq] at h; exact h
 · rw [if_neg A4] at h; exact h
end
end TwW
end
section
namespace TwW
open Go Tw Go.RowKit Go.Proofs.Tryz
section
variable {σ : Hp} {R : Rr}
def gU (n : Nd) (a b : Int) : Int × Int := if a = 3 ∨ b = 3 ∨ ((11 ≤ n.op ∧ n.op ≤ 13 ∨ n.EG ≠ 0) ∧ ¬ (a = 2 ∧ b = 2)) ∨ (a = 1 ∧ b = 1 ∧ Fc n.op = true ∧ n.bool = false) then (0,192) else (if a < b then b else a,0)
theorem gV {w : Option Addr} {n : Nd} {p q r : Option Addr} {k c m d s t : Nat} {l : List Int} {a b : Int} (hr : Ep .i64 σ r s l) (ha : l[0]? = some a) (hb : l[1]? = some b) (h : R (.returned (tyV (gU n a b))) σ) : Spec prog 84 #[.pointer w,Ll n p k c q m d,.slice r s t] σ R := by
 have hs : l.length = s := hr.1
 have h1 := (List.getElem?_eq_some_iff.1 hb).1
 obtain ⟨b1,o,rfl,Ek⟩ := Ep.at hr ha
 obtain ⟨_,_,he,ALn⟩ := Ep.at hr hb
 cases he
 have bad : a = 3 ∨ b = 3 ∨ ((11 ≤ n.op ∧ n.op ≤ 13 ∨ n.EG ≠ 0) ∧ ¬ (a = 2 ∧ b = 2)) ∨ (a = 1 ∧ b = 1 ∧ Fc n.op = true ∧ n.bool = false) → R (.returned (.tuple #[.int .i64 0,.int .i64 192])) σ := fun hh => by
   unfold gU at h; rw [if_pos hh] at h; exact h
 have good : ¬ (a = 3 ∨ b = 3 ∨ ((11 ≤ n.op ∧ n.op ≤ 13 ∨ n.EG ≠ 0) ∧ ¬ (a = 2 ∧ b = 2)) ∨ (a = 1 ∧ b = 1 ∧ Fc n.op = true ∧ n.bool = false)) → R (.returned (.tuple #[.int .i64 (if a < b then b else a),.int .i64 0])) σ := fun hh => by
   unfold gU at h; rw [if_neg hh] at h; exact h
 clear h
 refine EX.start fun _ => ⟨b1,o,rfl,by omega,a,by simpa using Ek,by omega,b,by simpa using ALn,?_⟩
 repeat' first
   | (apply PR; refine Exists.intro _ (And.intro rfl ?_))
   | (apply CX; refine Exists.intro _ (And.intro rfl ?_))
   | (apply And.intro <;> intro _)
 all_goals first
   | (refine bad ?_; simp_all; done)
   | (refine good ?_; simp_all; done)
   | (refine bad ?_; simp_all; omega)
   | (refine good ?_; simp_all; omega)
end
end TwW
end
section
namespace TwW
open Go Tw Go.RowKit Go.Proofs.Tryz
theorem C8.en : Enters prog 96 := fun args w => call96 args w
theorem Dc.en : Enters prog 153 := fun args w => call153 args w
theorem C9.en : Enters prog 159 := fun args w => call159 args w
theorem BQ.en : Enters prog 230 := fun args w => call230 args w
theorem BH.en : Enters prog 294 := fun args w => call294 args w
theorem EO.en : Enters prog 83 := fun args w => call83 args w
theorem Gm.en : Enters prog 155 := fun args w => call155 args w
theorem BJ.en : Enters prog 187 := fun args w => call187 args w
theorem Ip.en : Enters prog 226 := fun args w => call226 args w
theorem Ir.en : Enters prog 145 := fun args w => call145 args w
theorem Bf.en : Enters prog 82 := fun args w => call82 args w
theorem Cz.en : Enters prog 105 := fun args w => call105 args w
theorem DB.en : Enters prog 139 := fun args w => call139 args w
theorem DC.en : Enters prog 185 := fun args w => call185 args w
theorem DD.en : Enters prog 189 := fun args w => call189 args w
theorem FK.en : Enters prog 224 := fun args w => call224 args w
theorem AW.en : Enters prog 103 := fun args w => call103 args w
theorem BA.en : Enters prog 106 := fun args w => call106 args w
theorem DE.en : Enters prog 158 := fun args w => call158 args w
theorem DF.en : Enters prog 171 := fun args w => call171 args w
theorem DG.en : Enters prog 191 := fun args w => call191 args w
theorem EW.en : Enters prog 217 := fun args w => call217 args w
theorem EX.en : Enters prog 84 := fun args w => call84 args w
theorem Bj.en : Enters prog 100 := fun args w => call100 args w
theorem EZ.en : Enters prog 154 := fun args w => call154 args w
theorem GJ.en : Enters prog 198 := fun args w => call198 args w
theorem Ck.en : Enters prog 212 := fun args w => call212 args w
theorem Eb.en : Enters prog 218 := fun args w => call218 args w
theorem Ad.en : Enters prog 101 := fun args w => call101 args w
theorem AS.en : Enters prog 102 := fun args w => call102 args w
theorem DI.en : Enters prog 127 := fun args w => call127 args w
theorem NN.en : Enters prog 144 := fun args w => call144 args w
theorem FY.en : Enters prog 151 := fun args w => call151 args w
theorem Gs.en : Enters prog 152 := fun args w => call152 args w
theorem Dp.en : Enters prog 220 := fun args w => call220 args w
theorem B9.en : Enters prog 71 := fun args w => call71 args w
theorem Ed.en : Enters prog 85 := fun args w => call85 args w
theorem AQ.en : Enters prog 104 := fun args w => call104 args w
theorem DK.en : Enters prog 193 := fun args w => call193 args w
theorem Dq.en : Enters prog 219 := fun args w => call219 args w
instance : mZ prog 99 9 3 := ⟨underlying99,underlying9⟩
instance : me.qB prog 150 3 148 := ⟨underlying150,underlying3⟩
instance : me.qB prog 191 3 190 := ⟨underlying191,underlying3⟩
instance : mZ prog 197 9 200 := ⟨underlying197,underlying9⟩
instance : me.qB prog 202 3 201 := ⟨underlying202,underlying3⟩
instance : mZ prog 243 9 71 := ⟨underlying243,underlying9⟩
end TwW
end
section
namespace TwW
open Go Go.MapKept Tw Go.RowKit Go.Proofs.Tryz
section
variable {P : Program} {σ σ' : Hp} {R : Rr}
def bV (x : Int × Value) (n : Nat) : MapEntry := { key := .int .i64 x.1,val := x.2,born := n }
def MI (σ : Hp) (m : Nat) (l : List (Int × Value)) : Prop := ∃ (bs : List Nat) (clock : Nat),bs.length = l.length ∧ me.BL σ m (List.zipWith bV l bs) clock
theorem MI.loc {m : Nat} {l : List (Int × Value)} (h : MI σ m l) (hx : σ' m = σ m) : MI σ' m l := let ⟨bs,c,h1,h2⟩ := h; ⟨bs,c,h1,h2.loc hx⟩
theorem MI.known {m : Nat} {l : List (Int × Value)} (h : MI σ m l) : σ m ≠ none := let ⟨bs,c,h1,h2⟩ := h; by rw [h2.1]; simp
theorem MI.fresh {m : Nat} : MI (σ.set m (.map #[] 0)) m [] := ⟨[],0,rfl,me.BL.fresh⟩
theorem MI.put {T K V : TypeId} [me.qB P T K V] {m : Nat} {l : List (Int × Value)} {x : Int} {v : Value} {Φ : Unit → Hp → Prop} (h : MI σ m l) (hn : ∀ a ∈ l,a.1 ≠ x)
   (hΦ : ∀ o,MI (σ.set m o) m (l ++ [(x,v)]) → Φ () (σ.set m o)) : AJ P (Instr.mapUpdate T (.map (some m)) (.int .i64 x) v) σ Φ := by
 obtain ⟨bs,clock,hb,hm⟩ := h
 refine me.He hm (fun DQ σ' hσ hm' => ?_) fun l1 e l2 hl he σ' hσ hm' => ?_
 · subst hσ
   refine hΦ _ ⟨bs ++ [clock],clock + 1,by simp [hb],?_⟩
   rw [List.zipWith_append hb.symm]
   exact hm'
 · have nL : e ∈ List.zipWith bV l bs := by rw [hl]; simp
   obtain ⟨i,hi⟩ := List.mem_iff_getElem?.1 nL
   rw [List.getElem?_zipWith] at hi
   cases sN : l[i]? with
   | none => rw [sN] at hi; cases hi
   | some a =>
     cases hbi : bs[i]? with
     | none => rw [sN,hbi] at hi; cases hi
     | some b =>
       rw [sN,hbi] at hi
       simp only [Option.some.injEq] at hi
       subst hi
       have := hn a (List.mem_of_getElem? sN)
       simp only [bV,Value.int.injEq,true_and] at he
       exact absurd he this
theorem MI.look {T K V : TypeId} [me.qB P T K V] {m : Nat} {l : List (Int × Value)} {x : Int} {z : Value} {Φ : Value → Hp → Prop} (h : MI σ m l) (hz : ∀ w,(zeroValue V).run P w = .ok z w)
   (h0 : (∀ a ∈ l,a.1 ≠ x) → Φ z σ) (h1 : ∀ v,(x,v) ∈ l → Φ v σ) : AJ P (Instr.lookup T (.map (some m)) (.int .i64 x) false) σ Φ := by
 obtain ⟨bs,clock,hb,hm⟩ := h
 refine me.Mb hm hz (fun DQ => h0 fun a ha hax => ?_) fun l1 e l2 hl he => ?_
 · obtain ⟨i,hi⟩ := List.mem_iff_getElem?.1 ha
   have Ax := (List.getElem?_eq_some_iff.1 hi).1
   have hm : bV a (bs[i]'(by omega)) ∈ List.zipWith bV l bs := List.mem_iff_getElem?.2 ⟨i,by rw [List.getElem?_zipWith,hi,List.getElem?_eq_getElem (by omega)]⟩
   exact DQ _ hm (by rw [← hax]; rfl)
 · have nL : e ∈ List.zipWith bV l bs := by rw [hl]; simp
   obtain ⟨i,hi⟩ := List.mem_iff_getElem?.1 nL
   rw [List.getElem?_zipWith] at hi
   cases sN : l[i]? with
   | none => rw [sN] at hi; cases hi
   | some a =>
     cases hbi : bs[i]? with
     | none => rw [sN,hbi] at hi; cases hi
     | some b =>
       rw [sN,hbi] at hi
       simp only [Option.some.injEq] at hi
       subst hi
       simp only [bV,Value.int.injEq,true_and] at he
       subst he
       exact h1 a.2 (List.mem_of_getElem? sN)
def nM (τ σ : Hp) (m : Nat) (l : List (Int × Value)) : Prop := Ext τ σ ∧ τ m = none ∧ MI σ m l
theorem nM.fresh {τ : Hp} {m : Nat} (h : τ m = none) : nM τ (τ.set m (.map #[] 0)) m [] := ⟨.set h,h,MI.fresh⟩
theorem nM.alloc {τ : Hp} {m b : Nat} {l : List (Int × Value)} {o : Obj} (h : nM τ σ m l) (hb : σ b = none) : nM (τ.set b o) (σ.set b o) m l := by
 have A4 : m ≠ b := fun e => h.2.2.known (by rw [e]; exact hb)
 refine ⟨fun k u hk => ?_,by rw [Hp.AI A4]; exact h.2.1,h.2.2.loc (Hp.AI A4)⟩
 by_cases GG : k = b
 · subst GG; rw [Hp.AB] at hk ⊢; exact hk
 · rw [Hp.AI GG] at hk ⊢; exact h.1 _ _ hk
theorem nM.put {τ : Hp} {T K V : TypeId} [me.qB P T K V] {m : Nat} {l : List (Int × Value)} {x : Int} {v : Value} {Φ : Unit → Hp → Prop} (h : nM τ σ m l) (hn : ∀ a ∈ l,a.1 ≠ x)
   (hΦ : ∀ σ',nM τ σ' m (l ++ [(x,v)]) → Φ () σ') : AJ P (Instr.mapUpdate T (.map (some m)) (.int .i64 x) v) σ Φ :=
 h.2.2.put hn fun o ho => hΦ _ ⟨fun k u hk => by rw [Hp.AI (fun e => by rw [e,h.2.1] at hk; cases hk)]; exact h.1 _ _ hk,h.2.1,ho⟩
section
variable {α : Type}
theorem Sd {l : List (ByteArray × α)} {k : ByteArray} (h : ∀ a ∈ l,a.1 ≠ k) : DO l k = none := by
 induction l with
 | nil => rfl
 | cons a l ih => rw [DO,if_neg (h a (by simp))]; exact ih fun b hb => h b (List.mem_cons_of_mem _ hb)
theorem Ug {l m : List (ByteArray × α)} {k : ByteArray} {y : α} (h : ∀ a ∈ l,a.1 ≠ k) : DO (l ++ (k,y) :: m) k = some y := by
 induction l with
 | nil => simp [DO]
 | cons a l ih => rw [List.cons_append,DO,if_neg (h a (by simp))]; exact ih fun b hb => h b (List.mem_cons_of_mem _ hb)
theorem Og {l : List (ByteArray × α)} {k : ByteArray} {y : α} (h : ∀ a ∈ l,a.1 ≠ k) : Vm l k y = l ++ [(k,y)] := by
 induction l with
 | nil => rfl
 | cons a l ih => rw [Vm,if_neg (h a (by simp)),ih fun b hb => h b (List.mem_cons_of_mem _ hb)]; rfl
theorem Yg {l m : List (ByteArray × α)} {k : ByteArray} {y z : α} (h : ∀ a ∈ l,a.1 ≠ k) : Vm (l ++ (k,z) :: m) k y = l ++ (k,y) :: m := by
 induction l with
 | nil => simp [Vm]
 | cons a l ih => rw [List.cons_append,Vm,if_neg (h a (by simp)),ih fun b hb => h b (List.mem_cons_of_mem _ hb)]; rfl
def MS (E : Value → α → Prop) (σ : Hp) (m : Nat) (L : List (ByteArray × α)) : Prop :=
 ∃ (l : List MapEntry) (clock : Nat),BL σ m l clock ∧ l.length = L.length ∧ ∀ (i : Nat) (e : MapEntry) (x : ByteArray × α),l[i]? = some e → L[i]? = some x → e.key = .string x.1 ∧ E e.val x.2
theorem MS.mono {E : Value → α → Prop} {m : Nat} {L : List (ByteArray × α)} (h : MS E σ m L) (hx : Ext σ σ') : MS E σ' m L := let ⟨l,c,h1,h2⟩ := h; ⟨l,c,h1.mono hx,h2⟩
theorem MS.loc {E : Value → α → Prop} {m : Nat} {L : List (ByteArray × α)} (h : MS E σ m L) (hx : σ' m = σ m) : MS E σ' m L := let ⟨l,c,h1,h2⟩ := h; ⟨l,c,h1.loc hx,h2⟩
theorem MS.imp {E E' : Value → α → Prop} {m : Nat} {L : List (ByteArray × α)} (h : MS E σ m L) (hE : ∀ v x,E v x → E' v x) : MS E' σ m L := let ⟨l,c,h1,h2,h3⟩ := h; ⟨l,c,h1,h2,fun i e x he hx => ⟨(h3 i e x he hx).1,hE _ _ (h3 i e x he hx).2⟩⟩
theorem MS.known {E : Value → α → Prop} {m : Nat} {L : List (ByteArray × α)} (h : MS E σ m L) : σ m ≠ none := let ⟨l,c,h1,h2⟩ := h; by rw [h1.1]; simp
theorem MS.fresh {E : Value → α → Prop} {m : Nat} : MS E (σ.set m (.map #[] 0)) m [] := ⟨[],0,BL.fresh,rfl,fun i e x he => by simp at he⟩
theorem MS.len {E : Value → α → Prop} {T K V ty : TypeId} [mZ P T K V] {m : Nat} {L : List (ByteArray × α)} (h : MS E σ m L) : YF P (Builtin.len_ #[T] ty #[.map (some m)]) σ (.int .i64 L.length) := by
 obtain ⟨l,c,h1,h2,h3⟩ := h
 rw [← h2]; exact ma h1
theorem Se {E : Value → α → Prop} {l l1 l2 : List MapEntry} {e : MapEntry} {L : List (ByteArray × α)} {s : ByteArray} (hn : (l.map (·.key)).Nodup) (h2 : l.length = L.length) (h3 : ∀ (i : Nat) (e : MapEntry) (x : ByteArray × α),l[i]? = some e → L[i]? = some x → e.key = .string x.1 ∧ E e.val x.2) (hl : l = l1 ++ e :: l2) (he : e.key = .string s) :
   ∃ L1 x L2,L = L1 ++ (s,x) :: L2 ∧ L1.length = l1.length ∧ (∀ a ∈ L1,a.1 ≠ s) ∧ E e.val x := by
 subst hl
 have Ax : l1.length < L.length := by rw [← h2]; simp
 have Mi : L = L.take l1.length ++ L[l1.length] :: L.drop (l1.length + 1) := by rw [List.getElem_cons_drop,List.take_append_drop]
 have hx := h3 l1.length e L[l1.length] (by simp) (List.getElem?_eq_getElem _)
 rw [he] at hx
 have hk : L[l1.length].1 = s := by simpa using hx.1.symm
 refine ⟨L.take l1.length,L[l1.length].2,L.drop (l1.length + 1),?_,by rw [List.length_take]; omega,fun a ha has => ?_,hx.2⟩
 · rw [← hk]; exact Mi
 · obtain ⟨i,hi⟩ := List.mem_iff_getElem?.1 ha
   rw [List.getElem?_take] at hi
   split at hi
   · rename_i vw
     have hle : (l1 ++ e :: l2)[i]? = some (l1[i]'vw) := by rw [List.getElem?_append_left vw,List.getElem?_eq_getElem vw]
     have h4 := (h3 i _ a hle hi).1
     rw [List.map_append,List.map_cons,List.nodup_append] at hn
     exact hn.2.2 _ (List.mem_map.2 ⟨l1[i]'vw,List.getElem_mem vw,rfl⟩) _ (by simp; exact .inl rfl) (by rw [h4,he,has])
   · cases hi
theorem MS.sO {E : Value → α → Prop} {l : List MapEntry} {L : List (ByteArray × α)} {s : ByteArray} (h2 : l.length = L.length) (h3 : ∀ (i : Nat) (e : MapEntry) (x : ByteArray × α),l[i]? = some e → L[i]? = some x → e.key = .string x.1 ∧ E e.val x.2) (DQ : ∀ e ∈ l,e.key ≠ .string s) : ∀ a ∈ L,a.1 ≠ s := fun a ha has => by
 obtain ⟨i,hi⟩ := List.mem_iff_getElem?.1 ha
 have Ax := (List.getElem?_eq_some_iff.1 hi).1
 have := (h3 i (l[i]'(by omega)) a (List.getElem?_eq_getElem _) hi).1
 exact DQ _ (List.getElem_mem _) (by rw [this,has])
theorem MS.look {E : Value → α → Prop} {T K V : TypeId} [mZ P T K V] {m : Nat} {L : List (ByteArray × α)} {s : ByteArray} {z : Value} {Φ : Value → Hp → Prop} (h : MS E σ m L) (hz : ∀ w,(zeroValue V).run P w = .ok z w)
   (h0 : DO L s = none → Φ z σ) (h1 : ∀ v x,DO L s = some x → E v x → Φ v σ) : AJ P (Instr.lookup T (.map (some m)) (.string s) false) σ Φ := by
 obtain ⟨l,c,hm,h2,h3⟩ := h
 refine Mb hm hz (fun DQ => h0 (Sd (MS.sO h2 h3 DQ))) fun l1 e l2 hl he => ?_
 obtain ⟨L1,x,L2,rfl,_,DQ,hE⟩ := Se hm.nodup h2 h3 hl he
 exact h1 e.val x (Ug DQ) hE
theorem MS.Yh {E : Value → α → Prop} {T K V : TypeId} [t : mZ P T K V] {m : Nat} {L : List (ByteArray × α)} {s : ByteArray} {z : Value} {Φ : Value → Hp → Prop} (h : MS E σ m L) (hz : ∀ w,(zeroValue V).run P w = .ok z w)
   (h0 : DO L s = none → Φ (.tuple #[z,.bool false]) σ) (h1 : ∀ v x,DO L s = some x → E v x → Φ (.tuple #[v,.bool true]) σ) : AJ P (Instr.lookup T (.map (some m)) (.string s) true) σ Φ := by
 obtain ⟨l,c,hm,h2,h3⟩ := h
 rcases FB (s := s) hm.2.2 with ⟨hf,DQ⟩ | ⟨l1,e,l2,hl,he,hf⟩
 · refine AJ.pu (fun w hs => ?_) (h0 (Sd (MS.sO h2 h3 DQ)))
   have := hs _ _ hm.1
   simp [Instr.lookup,run_underlying t.cb,run_getObj_map this,run_checkKey t.key (k := .string s) trivial,run_findKey t.key hf,hz,Result.andThen]
 · obtain ⟨L1,x,L2,rfl,_,DQ,hE⟩ := Se hm.nodup h2 h3 hl he
   refine AJ.pu (fun w hs => ?_) (h1 e.val x (Ug DQ) hE)
   have := hs _ _ hm.1
   simp [Instr.lookup,run_underlying t.cb,run_getObj_map this,run_checkKey t.key (k := .string s) trivial,run_findKey t.key hf,Result.andThen]
theorem MS.put {E : Value → α → Prop} {T K V : TypeId} [mZ P T K V] {m : Nat} {L : List (ByteArray × α)} {s : ByteArray} {v : Value} {x : α} {Φ : Unit → Hp → Prop} (h : MS E σ m L) (hv : E v x)
   (hΦ : ∀ o,MS E (σ.set m o) m (Vm L s x) → Φ () (σ.set m o)) : AJ P (Instr.mapUpdate T (.map (some m)) (.string s) v) σ Φ := by
 obtain ⟨l,c,hm,h2,h3⟩ := h
 refine He hm (fun DQ σ' hσ hm' => ?_) fun l1 e l2 hl he σ' hσ hm' => ?_
 · subst hσ
   refine hΦ _ ⟨_,_,hm',?_,fun i e y hi hy => ?_⟩
   · rw [Og (MS.sO h2 h3 DQ)]; simp [h2]
   · rw [Og (MS.sO h2 h3 DQ)] at hy
     rw [List.getElem?_append] at hi hy
     split at hi
     · rename_i Ax
       rw [if_pos (by omega)] at hy
       exact h3 i e y hi hy
     · rename_i Ax
       rw [if_neg (by omega)] at hy
       rw [← h2] at hy
       cases hj : i - l.length with
       | zero =>
         rw [hj] at hi hy
         simp only [List.getElem?_cons_zero,Option.some.injEq] at hi hy
         subst hi; subst hy
         exact ⟨rfl,hv⟩
       | succ j => rw [hj] at hi; simp at hi
 · obtain ⟨L1,y,L2,rfl,hlen,DQ,hE⟩ := Se hm.nodup h2 h3 hl he
   subst hσ
   subst hl
   refine hΦ _ ⟨_,_,hm',?_,fun i e' z hi hz => ?_⟩
   · rw [Yg DQ]; simp at h2 ⊢; omega
   · rw [Yg DQ] at hz
     by_cases vw : i = l1.length
     · subst vw
       rw [← hlen] at hz
       simp at hi hz
       subst hi; subst hz
       exact ⟨rfl,hv⟩
     · have e1 : (l1 ++ Tw.M3 s v e.born :: l2)[i]? = (l1 ++ e :: l2)[i]? := by
         rcases Nat.lt_or_ge i l1.length with h | h
         · rw [List.getElem?_append_left h,List.getElem?_append_left h]
         · obtain ⟨k,rfl⟩ : ∃ k,i = l1.length + (k + 1) := ⟨i - l1.length - 1,by omega⟩
           simp [List.getElem?_append_right]
       have e2 : (L1 ++ (s,x) :: L2)[i]? = (L1 ++ (s,y) :: L2)[i]? := by
         rcases Nat.lt_or_ge i L1.length with h | h
         · rw [List.getElem?_append_left h,List.getElem?_append_left h]
         · obtain ⟨k,rfl⟩ : ∃ k,i = L1.length + (k + 1) := ⟨i - L1.length - 1,by omega⟩
           simp [List.getElem?_append_right]
       exact h3 i e' z (by rw [← e1]; exact hi) (by rw [← e2]; exact hz)
end
end
end TwW
end
section
namespace TwW
open Go Tw Go.RowKit Go.Proofs.Tryz
def Oh (n : Nd) (l : List Int) : Int × Int :=
 if n.kind = 1 then (1,0) else if n.kind = 2 then (2,0) else if n.kind = 3 then (3,0) else if n.kind = 4 then Yf n (l[0]?.getD 0) else if n.kind = 5 then eF (l[0]?.getD 0)
 else if n.kind = 6 then gU n (l[0]?.getD 0) (l[1]?.getD 0) else nK (l[0]?.getD 0)
def Be (n : Nd) (st : List Int) : Int × List Int :=
 if Fh n = false ∨ (st.length : Int) < n.parts then (190,st) else if JN Ex n.mt ≠ 0 then (193,st) else
   ((Oh n (st.drop (st.length - n.parts.toNat))).2,st.take (st.length - n.parts.toNat) ++ [(Oh n (st.drop (st.length - n.parts.toNat))).1])
theorem IG {n : Nd} (h : Fh n = true) : Fg n = true := by
 unfold Fh at h
 simp only [Bool.and_eq_true] at h
 exact h.2
theorem Oi {n : Nd} (h : Fh n = true) : F0 n (BE n) = true := by
 unfold Fh at h
 simp only [Bool.and_eq_true] at h
 exact h.1.1.1
theorem A6.AI {s b : Nat} {o : Obj} {σ : Hp} {p : Option Addr} {n c : Nat} {cs : List Value} (ho : A6 s σ p n c cs) (h : ∀ a,p = some a → a.block ≠ b) : A6 s (σ.set b o) p n c cs :=
 ⟨ho.1,ho.2.1,ho.2.2.imp id fun ⟨b',o',arr,T,hp,hb,r⟩ => ⟨b',o',arr,T,hp,by rw [Hp.AI (h _ hp)]; exact hb,r⟩⟩
theorem sP : ∀ w,(zeroValue 148).run prog w = .ok .nilFunc w := fun w => by
 have h : prog.info? 148 = some t148 := by kernel_rfl
 simp [zeroValue,typeInfo,h]
 rfl
structure bW (σ0 σ : Hp) (wb : Nat) (p : Option Addr) (n c : Nat) (st : List Int) : Prop where
 cell : σ wb = some (.cells #[.slice p n c] 110 (0,0))
 own : Da .i64 σ p n c st
 off : ∀ a,p = some a → a.block ≠ wb ∧ σ0 a.block = none
 new : σ0 wb = none
 ext : Ext σ0 σ
section
variable {σ σ' σ0 : Hp} {R : Rr}
theorem bW.mono {wb : Nat} {p : Option Addr} {n c : Nat} {st : List Int} (h : bW σ0 σ wb p n c st) (hx : Ext σ σ') : bW σ0 σ' wb p n c st := ⟨hx _ _ h.cell,h.own.mono hx,h.off,h.new,h.ext.trans hx⟩
theorem Oj {k : Int} (h : ∀ b,σ b = none → R (.returned (.func (.func 127) #[] #[.pointer (aD b 0)])) (σ.set b (.cells #[.int .i64 k] 3 (0,0)))) : Spec prog 81 #[.int .i64 k] σ R := R6.start h
theorem Mj {n : Nd} {p q r : Option Addr} {k c m d s t b : Nat} {v : Int} (hb : σ b = some (.cells #[.int .i64 v] 3 (0,0))) (h : R (.returned (tyV (v,0))) σ) : Spec prog 127 #[Ll n p k c q m d,.slice r s t,.pointer (aD b 0)] σ R :=
 DI.start fun _ => ⟨v,AU hb rfl,h⟩
theorem sQ : ∀ w,(Go.sizeOf 108).run prog w = .ok 1 w := fun w => by kernel_rfl
theorem gW {wb : Nat} {p q r : Option Addr} {k c m d j e : Nat} {st : List Int} {n : Nd} (hW : bW σ0 σ wb r j e st) (hm : Ae 3 N1 σ0 p k n.mt) (hr : E4 1 σ0 q m (n.names.map .string)) (hb : n.text.size ≤ 4611686018427387904) (hj : j ≤ 1000000000000)
   (h : ∀ r' j' e' σ',(Be n st).1 = 0 → bW σ0 σ' wb r' j' e' (Be n st).2 → R (.returned (.int .i64 0)) σ') (h' : ∀ σ',(Be n st).1 ≠ 0 → Ext σ0 σ' → R (.returned (.int .i64 (Be n st).1)) σ') :
   Spec prog 53 #[.pointer (some ⟨wb,0,none⟩),Ll n p k c q m d] σ R := by
 have hk : n.mt.length = k := hm.1
 have hsl : st.length = j := by have := hW.own.1; simpa using this
 refine JE.start fun _ => gR hk (hr.mono hW.ext) hb fun σ1 Cg => ⟨_,rfl,fun hf => ?_,fun ht => ?_⟩
 · have e1 : Be n st = (190,st) := by unfold Be; rw [if_pos (.inl hf)]
   rw [e1] at h'
   exact h' σ1 (by dsimp only; decide) (hW.ext.trans Cg)
 have hW1 := hW.mono Cg
 refine ⟨wb,0,rfl,r,j,e,AU hW1.cell rfl,fun Ax => ?_,fun gE => PS (hm.mono N1.mono hW1.ext) ⟨_,rfl,fun A4 => ?_,fun h0 => ?_⟩⟩
 · have e1 : Be n st = (190,st) := by unfold Be; rw [if_pos (.inr (by omega))]
   rw [e1] at h'
   exact h' σ1 (by dsimp only; decide) hW1.ext
 · have e1 : Be n st = (193,st) := by unfold Be; rw [if_neg (by rw [ht]; simp; omega),if_pos A4]
   rw [e1] at h'
   exact h' σ1 (by dsimp only; decide) hW1.ext
 have dz := Decidable.not_not.1 h0
 have eS : Be n st = ((Oh n (st.drop (st.length - n.parts.toNat))).2,st.take (st.length - n.parts.toNat) ++ [(Oh n (st.drop (st.length - n.parts.toNat))).1]) := by
   unfold Be; rw [if_neg (by rw [ht]; simp; omega),if_neg h0]
 rw [eS] at h h'
 dsimp only at h h'
 have Co := IG ht
 have ALp : 0 ≤ n.parts := by
   unfold Fg at Co
   have hp := Oi ht
   by_cases h1 : n.kind = 1
   · unfold F0 BE at hp; simp [h1] at hp; omega
   by_cases h2 : n.kind = 2
   · unfold F0 BE at hp; simp [h2] at hp; omega
   by_cases h3 : n.kind = 3
   · unfold F0 BE at hp; simp [h3] at hp; omega
   rw [if_neg h1,if_neg h2,if_neg h3] at Co
   split at Co
   · simp at Co; omega
   · split at Co
     · simp at Co; omega
     · split at Co
       · simp at Co; omega
       · simp at Co; omega
 obtain ⟨t,hpt⟩ : ∃ t : Nat,n.parts = t := ⟨n.parts.toNat,by omega⟩
 have htj : t ≤ j := by omega
 have htn : n.parts.toNat = t := by omega
 rw [htn,hsl] at h h'
 refine EA fun mb nN => ⟨mb,rfl,?_⟩
 have s0 := nM.fresh nN
 refine Oj fun b1 eG => ⟨_,_,_,rfl,?_⟩
 have s1 := s0.alloc (o := .cells #[.int .i64 1] 3 (0,0)) eG
 refine s1.put (by simp) fun σ2 s2 => Oj fun b2 Pb => ⟨_,_,_,rfl,?_⟩
 have s3 := s2.alloc (o := .cells #[.int .i64 2] 3 (0,0)) Pb
 refine s3.put (by simp) fun σ4 s4 => Oj fun b3 dt => ⟨_,_,_,rfl,?_⟩
 have s5 := s4.alloc (o := .cells #[.int .i64 3] 3 (0,0)) dt
 refine s5.put (by simp) fun σ6 s6 => s6.put (by simp) fun σ7 s7 => s7.put (by simp) fun σ8 s8 => s8.put (by simp) fun σ9 s9 => s9.put (by simp) fun σA sA => ?_
 clear s0 s1 s3 s5 s6 s7 s8 s9
 have n1 : σ1 b1 = none := (Hp.AX eG).2
 have n2 : (σ1.set b1 (.cells #[.int .i64 1] 3 (0,0))) b2 = none := A7 s2.1 Pb
 have n3 : ((σ1.set b1 (.cells #[.int .i64 1] 3 (0,0))).set b2 (.cells #[.int .i64 2] 3 (0,0))) b3 = none := A7 s4.1 dt
 have x1 : Ext σ1 σA := (Ext.set n1).trans ((Ext.set n2).trans ((Ext.set n3).trans sA.1))
 have c3 := sA.1 b3 _ (Hp.AB _ _ _)
 have c2 := sA.1 b2 _ ((Ext.set n3) _ _ (Hp.AB _ _ _))
 have c1 := sA.1 b1 _ ((Ext.set n3) _ _ ((Ext.set n2) _ _ (Hp.AB _ _ _)))
 have gX := hW1.mono x1
 have hlA := sA.2.2
 clear s2 s4 sA n1 n2 n3 eG Pb dt
 simp only [List.nil_append,List.cons_append] at hlA
 have e1 : Int.toNat ((j : Int) - n.parts) = j - t := by omega
 refine ⟨r,j,e,AU gX.cell rfl,by unfold AM; omega,r,j,e,AU gX.cell rfl,by omega,?_⟩
 have hce : j ≤ e := A6.cap gX.own
 have Vt : Ep .i64 σA (IL r (j - t) e 1) (j - (j - t)) (st.drop (j - t)) := by
   have := Ae.sub (i := j - t) (m := j - (j - t)) (Da.rd gX.own) (by decide) (by omega) hce
   rwa [List.take_of_length_le (by rw [List.length_drop]; omega)] at this
 have Vt : Ep .i64 σA (IL r (Int.toNat ((j : Int) - n.parts)) e 1) (j - Int.toNat ((j : Int) - n.parts)) (st.drop (j - t)) := by rw [e1]; exact Vt
 have fin : ∀ x : Int × Int,x = Oh n (st.drop (j - t)) → AA R (fun z ae => ∃ VO Hd,z = (.tuple #[.int .i64 VO,.int .i64 Hd]) ∧ LS ae wb 0 fun pk kS dS => ((0 : Int) ≤ ((j : Int) - n.parts) ∧ ((j : Int) - n.parts) ≤ (dS : Int)) ∧ Al ae fun VH => AJ prog (Builtin.append_ #[108,108] 108 #[(.slice pk (Int.toNat ((j : Int) - n.parts)) dS),(.slice (aD VH 0) 1 1)]) (Hp.set ae VH (.cells #[.int .i64 VO] 113 (0,0))) (CS fun p72 n72 c72 yQ => AJ prog (Instr.storeAt 108 (.pointer (aD wb 0)) (.slice p72 n72 c72)) yQ (fun _ yR => R (.returned (.int .i64 Hd)) yR))) (.returned (tyV x)) σA := fun x hx => by
   rw [← hx] at h h'
   refine ⟨x.1,x.2,rfl,r,j,e,AU gX.cell rfl,by omega,fun VH nO => ?_⟩
   rw [e1]
   have BN := (A6.take (m := j - t) gX.own (by omega)).mono (Ext.set (o := .cells #[.int .i64 x.1] 113 (0,0)) nO)
   refine Dm BN (SP (f := .int .i64) (x := x.1) (Hp.AB _ _ _)) GF.QA (by omega) fun p' c' σB zo vx => ⟨_,_,_,rfl,?_⟩
   have hwb : ∀ a,r = some a → wb ≠ a.block := fun a ha => Ne.symm (gX.off a ha).1
   have Mv : wb ≠ VH := fun e => by rw [← e,gX.cell] at nO; cases nO
   obtain ⟨g1,g2⟩ := AP.1 (vx wb _ (AP.2 ⟨hwb,(Ext.set nO) _ _ gX.cell⟩))
   have hE0 : Ext σ0 (σB.del p') := fun k u hk => vx k u (AP.2 ⟨fun a ha jG => (by rw [jG,(gX.off a ha).2] at hk; cases hk),(Ext.set nO) _ _ (gX.ext _ _ hk)⟩)
   refine AJ.store sQ g2 rfl (by simp) (by simp [Value.cells,Value.oneCell']) ?_
   have sR : bW σ0 (σB.set wb (.cells (Mp #[.slice r j e] 0 (Value.slice p' (j - t + 1) c').cells.toList) 110 (0,0))) wb p' (j - t + 1) c' (st.take (j - t) ++ [x.1]) := by
     refine ⟨by rw [Hp.AB]; simp [Mp,Value.cells],?_,fun a ha => ⟨fun e => g1 a ha e.symm,?_⟩,gX.new,fun k u hk => ?_⟩
     · have := A6.AI (b := wb) (o := .cells (Mp #[.slice r j e] 0 (Value.slice p' (j - t + 1) c').cells.toList) 110 (0,0)) zo (fun a ha e => g1 a ha e.symm)
       unfold Da
       rw [List.map_append,List.map_take]
       simpa using this
     · cases hh : σ0 a.block with
       | none => rfl
       | some u => exact absurd rfl ((AP.1 (hE0 _ _ hh)).1 a ha)
     · rw [Hp.AI (fun e => by rw [e,gX.new] at hk; cases hk)]
       exact (AP.1 (hE0 _ _ hk)).2
   by_cases hz : x.2 = 0
   · rw [hz]; exact h _ _ _ _ hz sR
   · exact h' _ hz sR.ext
 have part : ∀ i,i < t → ∃ v,(st.drop (j - t))[i]? = some v := fun i hi => ⟨_,List.getElem?_eq_getElem (by rw [List.length_drop]; omega)⟩
 refine hlA.look sP (fun DQ => ?_) fun v hv => ⟨v,rfl,Kp.Dr (.refl _),?_⟩
 · exfalso
   unfold Fg at Co
   have g := fun i => DQ i
   simp only [List.mem_cons,List.not_mem_nil,or_false,forall_eq_or_imp,forall_eq] at DQ
   obtain ⟨a1,a2,a3,a4,a5,a6,a7⟩ := DQ
   rw [if_neg (Ne.symm a1),if_neg (Ne.symm a2),if_neg (Ne.symm a3),if_neg (Ne.symm a4),if_neg (Ne.symm a5),if_neg (Ne.symm a6)] at Co
   exact a7 (of_decide_eq_true Co).1.symm
 simp only [List.mem_cons,List.not_mem_nil,or_false,Prod.mk.injEq] at hv
 rcases hv with ⟨hn,rfl⟩ | ⟨hn,rfl⟩ | ⟨hn,rfl⟩ | ⟨hn,rfl⟩ | ⟨hn,rfl⟩ | ⟨hn,rfl⟩ | ⟨hn,rfl⟩
 · exact ⟨127,_,_,rfl,DI.en,Mj c1 (fin _ (by unfold Oh; rw [if_pos hn]))⟩
 · exact ⟨127,_,_,rfl,DI.en,Mj c2 (fin _ (by unfold Oh; rw [if_neg (by omega),if_pos hn]))⟩
 · exact ⟨127,_,_,rfl,DI.en,Mj c3 (fin _ (by unfold Oh; rw [if_neg (by omega),if_neg (by omega),if_pos hn]))⟩
 · have ht1 : t = 1 := by unfold Fg at Co; simp [hn] at Co; omega
   obtain ⟨v,hv⟩ := part 0 (by omega)
   exact ⟨82,_,_,rfl,Bf.en,bU Vt hv (fin _ (by unfold Oh; rw [if_neg (by omega),if_neg (by omega),if_neg (by omega),if_pos hn,hv]; rfl))⟩
 · have ht1 : t = 1 := by unfold Fg at Co; simp [hn] at Co; omega
   obtain ⟨v,hv⟩ := part 0 (by omega)
   exact ⟨83,_,_,rfl,EO.en,gS Vt hv (fin _ (by unfold Oh; rw [if_neg (by omega),if_neg (by omega),if_neg (by omega),if_neg (by omega),if_pos hn,hv]; rfl))⟩
 · have ht1 : t = 2 := by unfold Fg at Co; simp [hn] at Co; omega
   obtain ⟨v,hv⟩ := part 0 (by omega)
   obtain ⟨u,hu⟩ := part 1 (by omega)
   exact ⟨84,_,_,rfl,EX.en,gV Vt hv hu (fin _ (by unfold Oh; rw [if_neg (by omega),if_neg (by omega),if_neg (by omega),if_neg (by omega),if_neg (by omega),if_pos hn,hv,hu]; rfl))⟩
 · have ht1 : t = 1 := by unfold Fg at Co; simp [hn] at Co; omega
   obtain ⟨v,hv⟩ := part 0 (by omega)
   exact ⟨85,_,_,rfl,Ed.en,gT Vt hv (fin _ (by unfold Oh; rw [if_neg (by omega),if_neg (by omega),if_neg (by omega),if_neg (by omega),if_neg (by omega),if_neg (by omega),hv]; rfl))⟩
def Ez : List Nd → List Int → Option (List Int)
 | [],st => some st
 | n :: t,st => if (Be n st).1 = 0 then Ez t (Be n st).2 else none
def vy (t : List Nd) : Option (List Int) → Option Int
 | some [k] => if t.length ≤ 4096 then some k else none
 | _ => none
def Ng (t : List Nd) : Option Int := vy t (Ez t [])
theorem Md.at {p : Option Addr} {n i : Nat} {t : List Nd} {x : Nd} (hr : Ae 10 Md σ p n t) (hx : t[i]? = some x) : ∃ b o p1 k c q m d,p = some ⟨b,o,none⟩ ∧ As σ b (o + i * 10) [.int .i64 x.kind,.int .i64 x.op,.string x.text,.slice p1 k c,.int .i64 x.width,.int .i64 x.back,.int .i64 x.EG,.slice q m d,.bool x.bool,.int .i64 x.parts] ∧ Ae 3 N1 σ p1 k x.mt ∧ E4 1 σ q m (x.names.map .string) := by
 obtain ⟨b,o,vs,hp,⟨p1,k,c,q,m,d,rfl,h1,h2⟩,hl⟩ := Ae.idx hr hx
 exact ⟨b,o,p1,k,c,q,m,d,hp,hl,h1,h2⟩
theorem nP {n : Nd} {st : List Int} : (Be n st).2.length ≤ st.length + 1 := by
 unfold Be
 split
 · exact Nat.le_succ _
 · split
   · exact Nat.le_succ _
   · simp only [List.length_append,List.length_take,List.length_singleton]; omega
theorem Sf {p : Option Addr} {n c : Nat} {t : List Nd} (hr : Ae 10 Md σ p n t) (hn : n ≤ 1000000000) (hb : ∀ x ∈ t,x.text.size ≤ 4611686018427387904)
   (h : ∀ k σ',Ng t = some k → Ext σ σ' → R (.returned (.tuple #[.int .i64 k,.int .i64 0,.int .i64 0])) σ') (h' : ∀ k j e σ',Ng t = none → e ≠ 0 → Ext σ σ' → R (.returned (.tuple #[.int .i64 k,.int .i64 j,.int .i64 e])) σ') :
   Spec prog 37 #[.slice p n c] σ R := by
 have hl : t.length = n := hr.1
 refine FQ.start fun wb hwb => ?_
 suffices H : ∀ g k : Nat,∀ r j e st σ',n - k = g → k ≤ n → j ≤ k → bW σ σ' wb r j e st → Ez t [] = Ez (t.drop k) st → FQ.A1 R p n c (aD wb 0) p n c n k σ' from
   H n 0 none 0 0 [] _ rfl (Nat.zero_le _) (Nat.le_refl _) ⟨Hp.AB _ _ _,Da.nil,fun a ha => (by cases ha),hwb,.set hwb⟩ rfl
 intro g
 induction g with
 | zero =>
   intro k r j e st σ' hg hk hj hW he
   rw [List.drop_eq_nil_of_le (by omega)] at he
   have CV : st.length = j := by have := hW.own.1; simpa using this
   have ht : Ng t = vy t (some st) := by unfold Ng; rw [he]; rfl
   refine FQ.Ab ⟨fun Ax => by omega,fun _ => ⟨wb,0,rfl,r,j,e,AU hW.cell rfl,fun h1 => h' _ _ _ σ' ?_ (by decide) hW.ext,fun h1 => ⟨fun Hf => h' _ _ _ σ' ?_ (by decide) hW.ext,fun il => ?_⟩⟩⟩
   · rw [ht]
     match st,CV with
     | [],_ => rfl
     | [_],CV => simp at CV; omega
     | _ :: _ :: _,_ => rfl
   · rw [ht]
     match st,CV with
     | [],_ => rfl
     | [_],CV => exact if_neg (by omega)
     | _ :: _ :: _,_ => rfl
   · have wy : j = 1 := by omega
     subst wy
     match st,CV with
     | [x],_ =>
       obtain ⟨b,o,rfl,Ek⟩ := Ep.at (Da.rd hW.own) (i := 0) (x := x) rfl
       exact ⟨_,1,e,AU hW.cell rfl,b,o,rfl,by omega,x,by simpa using Ek,h x σ' (by rw [ht]; exact if_pos (by omega)) hW.ext⟩
 | succ g ih =>
   intro k r j e st σ' hg hk hj hW he
   have IP : k < n := by omega
   obtain ⟨x,hx⟩ := hr.ex IP
   obtain ⟨b,o,p1,k1,c1,q1,m1,d1,rfl,Ek,h1,h2⟩ := Md.at hr hx
   rw [A3 hx,Ez] at he
   refine FQ.Ab ⟨fun _ => ⟨b,o,rfl,by omega,_,_,_,_,_,_,_,_,_,_,_,_,_,_,by simpa using Ek.mono hW.ext,fun _ => ?_⟩,fun hh => by omega⟩
   refine gW hW h1 h2 (hb x (List.mem_of_getElem? hx)) (by omega) (fun r' j' e' σ2 h0 hW2 => ⟨0,rfl,fun hh => absurd rfl hh,fun _ => ⟨AN IP hr.big,ih (k + 1) r' j' e' _ σ2 (by omega) (by omega) ?_ hW2 ?_⟩⟩) fun σ2 h0 A5 => ⟨_,rfl,fun _ => h' _ _ _ σ2 ?_ h0 A5,fun hh => absurd h0 hh⟩
   · have h3 := nP (n := x) (st := st)
     have h4 : (Be x st).2.length = j' := by have := hW2.own.1; simpa using this
     have h5 : st.length = j := by have := hW.own.1; simpa using this
     omega
   · rw [he,if_pos h0]
   · unfold Ng; rw [he,if_neg h0]; rfl
end
end TwW
end
section
namespace Go.Proofs
open Go.Shelf
def Tryz.Yi : Go.Shelf.Ren := ⟨fun | 143 => 260 | 219 => 290 | 217 => 169 | 225 => 318 | 224 => 319 | 267 => 320 | 266 => 209 | 314 => 329 | n => n,fun | 9 => 9 | 3 => 3 | 4 => 4 | 5 => 5 | 46 => 141 | 146 => 355 | 51 => 168 | n => n,fun | 1 => 1 | n => n⟩
theorem Tryz.sS : Go.Proofs.Lays.n143 Tryz.prog Tryz.Yi := {
 mixed := by kernel_rfl
 f143 := Tryz.func260.trans (congrArg some (by kernel_rfl))
 f217 := Tryz.func169.trans (congrArg some (by kernel_rfl))
 f219 := Tryz.func290.trans (congrArg some (by kernel_rfl))
 f224 := Tryz.func319.trans (congrArg some (by kernel_rfl))
 f225 := Tryz.func318.trans (congrArg some (by kernel_rfl))
 f266 := Tryz.func209.trans (congrArg some (by kernel_rfl))
 f267 := Tryz.func320.trans (congrArg some (by kernel_rfl))
 f314 := Tryz.func329.trans (congrArg some (by kernel_rfl))
 t3 := Tryz.underlying3
 a3 := Tryz.isAgg3
 z3 := Tryz.sizeOf3
 v3 := Tryz.zeroValue3
 t4 := Tryz.underlying4
 a4 := Tryz.isAgg4
 z4 := Tryz.sizeOf4
 v4 := Tryz.zeroValue4
 t5 := Tryz.underlying5
 a5 := Tryz.isAgg5
 z5 := Tryz.sizeOf5
 v5 := Tryz.zeroValue5
 t9 := Tryz.underlying9
 a9 := Tryz.isAgg9
 z9 := Tryz.sizeOf9
 v9 := Tryz.zeroValue9
 t46 := Tryz.underlying141
 a46 := Tryz.isAgg141
 z46 := Tryz.sizeOf141
 v46 := Tryz.zeroValue141
 t51 := Tryz.underlying168
 a51 := Tryz.isAgg168
 z51 := Tryz.sizeOf168
 v51 := Tryz.zeroValue168
 t146 := Tryz.underlying355
 a146 := Tryz.isAgg355
 z146 := Tryz.sizeOf355
 v146 := Tryz.zeroValue355
 g1 := by kernel_rfl }
open Go.RowKit Go.Lib in
theorem Tryz.strings_Index (s sub : ByteArray) (m : Int) (w : World) (hs : s.size < 4294967281) (hm : w.cell? ⟨1,0,none⟩ = some (.int .i64 m)) :
   Calls Tryz.prog 260 #[.string s,.string sub] w fun e w' => e = .returned (.int .i64 (Lib.index s.data.toList sub.data.toList)) ∧ w' = w := Any.strings_Index Tryz.sS s sub m w hs hm
def Tryz.Yj : Go.Shelf.Ren := ⟨fun | 146 => 221 | 221 => 237 | 268 => 258 | 138 => 259 | 143 => 260 | 195 => 287 | 197 => 288 | 218 => 289 | 219 => 290 | 260 => 317 | 217 => 169 | 225 => 318 | 224 => 319 | 267 => 320 | 266 => 209 | 314 => 329 | n => n,fun | 9 => 9 | 31 => 34 | 3 => 3 | 4 => 4 | 0 => 0 | 105 => 318 | 21 => 21 | 5 => 5 | 46 => 141 | 119 => 351 | 139 => 354 | 138 => 353 | 146 => 355 | 51 => 168 | n => n,fun | 1 => 1 | 3 => 11 | 4 => 12 | n => n⟩
theorem Tryz.sT : Go.Proofs.Lays.n146 Tryz.prog Tryz.Yj := {
 mixed := by kernel_rfl
 f138 := Tryz.func259.trans (congrArg some (by kernel_rfl))
 f143 := Tryz.func260.trans (congrArg some (by kernel_rfl))
 f146 := Tryz.func221.trans (congrArg some (by kernel_rfl))
 f195 := Tryz.func287.trans (congrArg some (by kernel_rfl))
 f197 := Tryz.func288.trans (congrArg some (by kernel_rfl))
 f217 := Tryz.func169.trans (congrArg some (by kernel_rfl))
 f218 := Tryz.func289.trans (congrArg some (by kernel_rfl))
 f219 := Tryz.func290.trans (congrArg some (by kernel_rfl))
 f221 := Tryz.func237.trans (congrArg some (by kernel_rfl))
 f224 := Tryz.func319.trans (congrArg some (by kernel_rfl))
 f225 := Tryz.func318.trans (congrArg some (by kernel_rfl))
 f260 := Tryz.func317.trans (congrArg some (by kernel_rfl))
 f266 := Tryz.func209.trans (congrArg some (by kernel_rfl))
 f267 := Tryz.func320.trans (congrArg some (by kernel_rfl))
 f268 := Tryz.func258.trans (congrArg some (by kernel_rfl))
 f314 := Tryz.func329.trans (congrArg some (by kernel_rfl))
 t0 := Tryz.underlying0
 a0 := Tryz.isAgg0
 z0 := Tryz.sizeOf0
 v0 := Tryz.zeroValue0
 t3 := Tryz.underlying3
 a3 := Tryz.isAgg3
 z3 := Tryz.sizeOf3
 v3 := Tryz.zeroValue3
 t4 := Tryz.underlying4
 a4 := Tryz.isAgg4
 z4 := Tryz.sizeOf4
 v4 := Tryz.zeroValue4
 t5 := Tryz.underlying5
 a5 := Tryz.isAgg5
 z5 := Tryz.sizeOf5
 v5 := Tryz.zeroValue5
 t9 := Tryz.underlying9
 a9 := Tryz.isAgg9
 z9 := Tryz.sizeOf9
 v9 := Tryz.zeroValue9
 t21 := Tryz.underlying21
 a21 := Tryz.isAgg21
 z21 := Tryz.sizeOf21
 v21 := Tryz.zeroValue21
 t31 := Tryz.underlying34
 a31 := Tryz.isAgg34
 z31 := Tryz.sizeOf34
 v31 := Tryz.zeroValue34
 t46 := Tryz.underlying141
 a46 := Tryz.isAgg141
 z46 := Tryz.sizeOf141
 v46 := Tryz.zeroValue141
 t51 := Tryz.underlying168
 a51 := Tryz.isAgg168
 z51 := Tryz.sizeOf168
 v51 := Tryz.zeroValue168
 t105 := Tryz.underlying318
 a105 := Tryz.isAgg318
 z105 := Tryz.sizeOf318
 v105 := Tryz.zeroValue318
 t119 := Tryz.underlying351
 a119 := Tryz.isAgg351
 z119 := Tryz.sizeOf351
 t138 := Tryz.underlying353
 a138 := Tryz.isAgg353
 z138 := Tryz.sizeOf353
 v138 := Tryz.zeroValue353
 t139 := Tryz.underlying354
 a139 := Tryz.isAgg354
 z139 := Tryz.sizeOf354
 v139 := Tryz.zeroValue354
 t146 := Tryz.underlying355
 a146 := Tryz.isAgg355
 z146 := Tryz.sizeOf355
 v146 := Tryz.zeroValue355
 g1 := by kernel_rfl
 g3 := by kernel_rfl
 g4 := by kernel_rfl }
open Go.RowKit Go.Lib in
theorem Tryz.strings_Split (s sep : ByteArray) (m : Int) (w : World) (hs : s.size < 4294967281) (hm : w.cell? ⟨1,0,none⟩ = some (.int .i64 m)) (h1 : 1 ≤ sep.size) :
   Calls Tryz.prog 221 #[.string s,.string sep] w fun e w' =>
     e = .returned (.slice (some ⟨w.heap.size,0,none⟩) (Lib.countB s sep + 1) (Lib.countB s sep + 1)) ∧ w' = w.alloc (.cells ((Lib.splitB sep 0 (Lib.countB s sep) s).map Value.string).toArray 9) := Any.strings_Split Tryz.sT (by kernel_rfl) s sep m w hs hm h1
end Go.Proofs
end
section
namespace TwW
open Go Tw Go.RowKit Go.Proofs.Tryz
section
variable {P : Program} {f : FuncId} {args : Array Value} {σ σ' : Hp} {R : Rr}
theorem Spec.below {v : Value} (h : ∀ w,Sat σ w → Calls P f args w fun e w' => e = .returned v ∧ Below w.heap.size w w') (hR : R (.returned v) σ) : Spec P f args σ R := fun w F hs hF =>
 (h w hs).mono fun e w' ⟨he,hb⟩ => ⟨σ,he ▸ hR,fun b o ho => by
   have h1 := hs b o ho
   rw [hb.block b (Array.getElem?_eq_some_iff.1 h1).1]; exact h1,fun b hFb => ⟨(hF b hFb).2,hb.block b (hF b hFb).1⟩,⟨hb.os,hb.tape,fun h => h.elim⟩,hb.output,hb.size⟩
theorem Spec.same {v : Value} (h : ∀ w,Sat σ w → Calls P f args w fun e w' => e = .returned v ∧ w' = w) (hR : R (.returned v) σ) : Spec P f args σ R :=
 Spec.below (fun w hs => (h w hs).mono fun e w' ⟨he,hw⟩ => ⟨he,hw ▸ Below.refl _ _⟩) hR
theorem Spec.zp {o : Obj} {v : Nat → Value} (h : ∀ w,Sat σ w → Calls P f args w fun e w' => e = .returned (v w.heap.size) ∧ w' = w.alloc o) (hR : ∀ b,σ b = none → R (.returned (v b)) (σ.set b o)) : Spec P f args σ R := fun w F hs hF =>
 (h w hs).mono fun e w' ⟨he,hw⟩ => ⟨σ.set w.heap.size o,he ▸ hR _ (FO hs),by subst hw; exact Fin.alloc hs hF _ rfl (.same rfl rfl rfl) rfl⟩
theorem cell_of {w : World} {b o : Nat} {v : Value} (hs : Sat σ w) (h : σ.ld ⟨b,o,none⟩ = some v) : w.cell? ⟨b,o,none⟩ = some v := by
 have := Tj (ys := [v]) hs ⟨h,trivial⟩ 0 v rfl
 simpa [Bg] using this
end
def Sg : List Nat := [4607182418800017408,4621819117588971520,4636737291354636288,4652007308841189376,4666723172467343360,4681608360884174848,4696837146684686336,4711630319722168320,4726483295884279808,4741671816366391296,4756540486875873280,4771362005757984768,4786511204640096256,4801453603149578240,4816244402031689728,4831355200913801216]
structure Gl (σ : Hp) : Prop where
 len : ∃ m : Int,σ.ld ⟨1,0,none⟩ = some (.int .i64 m)
 opt : σ.ld ⟨5,0,none⟩ = some (.bool true)
 bits : σ.ld ⟨6,0,none⟩ = some (.int .u64 52)
 pow : ∃ b o n c,σ.ld ⟨9,0,none⟩ = some (.slice (some ⟨b,o,none⟩) n c) ∧ 16 ≤ n ∧ ∀ i v,Sg[i]? = some v → σ.ld ⟨b,o + i * 1,none⟩ = some (.float .f64 v)
theorem Gl.mono {σ σ' : Hp} (h : Gl σ) (hx : Ext σ σ') : Gl σ' := ⟨h.len.imp fun _ => hx.ld,hx.ld h.opt,hx.ld h.bits,let ⟨b,o,n,c,h1,h2,h3⟩ := h.pow; ⟨b,o,n,c,hx.ld h1,h2,fun i v hv => hx.ld (h3 i v hv)⟩⟩
section
variable {σ σ' : Hp} {R : Rr}
theorem index_spec {s t : ByteArray} (hg : Gl σ) (hs : s.size < 4294967281) (h : R (.returned (.int .i64 (Lib.index s.data.toList t.data.toList))) σ) : Spec prog 260 #[.string s,.string t] σ R := by
 obtain ⟨m,hm⟩ := hg.len
 exact Spec.same (fun w hw => Go.Proofs.Tryz.strings_Index s t m w hs (cell_of hw hm)) h
theorem Si {s : ByteArray} {c : UInt8} (hg : Gl σ) (hs : s.size < 4294967281) (h : ∀ b T,σ b = none → R (.returned (.slice (aD b 0) (EF c s).length (EF c s).length)) (σ.set b (.cells ((EF c s).map Value.string).toArray T (0,0)))) : Spec prog 221 #[.string s,.string ⟨#[c]⟩] σ R := by
 obtain ⟨m,hm⟩ := hg.len
 have hl : (EF c s).length = Lib.countB s ⟨#[c]⟩ + 1 := Lib.splitB_all ⟨#[c]⟩ (Nat.le_refl 1) 0 _ s rfl
 have h' := fun b => h b 9
 rw [hl] at h'
 exact Spec.zp (v := fun b => .slice (aD b 0) _ _) (fun w hw => Go.Proofs.Tryz.strings_Split s ⟨#[c]⟩ m w hs (cell_of hw hm) (Nat.le_refl 1)) h'
theorem bX {s : ByteArray} {l h : Nat} (hl : l ≤ h) (hh : h ≤ s.size) : YF prog (Instr.sliceAt 9 (.string s) (some (.int .i64 (l : Int))) (some (.int .i64 (h : Int))) none) σ (.string (s.extract l h)) := fun w _ => by
 rw [run_sliceAt_string (h := underlying9)]
 have h1 : (h : Int) ≤ s.size := by omega
 have h2 : (l : Int) ≤ h := by omega
 simp [Instr.slice,run_underlying underlying9,Instr.sliceBounds,run_sliceBound,h1,h2,Result.andThen]
theorem Yk {s t : ByteArray} (h : R (.returned (.bool (decide (t.size ≤ s.size ∧ s.extract 0 t.size = t)))) σ) : Spec prog 285 #[.string s,.string t] σ R := by
 refine HK.start (B8.start ⟨fun hle => ⟨_,Ud (by omega),_,rfl,?_⟩,fun hgt => ⟨_,rfl,?_⟩⟩)
 · rw [YL,show decide (s.extract 0 t.size = t) = decide (t.size ≤ s.size ∧ s.extract 0 t.size = t) from decide_eq_decide.2 ⟨fun h => ⟨by omega,h⟩,fun h => h.2⟩]; exact h
 · rw [show false = decide (t.size ≤ s.size ∧ s.extract 0 t.size = t) from (decide_eq_false fun hh => hgt (by omega)).symm]; exact h
theorem Yl {s t : ByteArray} (hs : s.size ≤ 4611686018427387904) (h : R (.returned (.bool (decide (t.size ≤ s.size ∧ s.extract (s.size - t.size) s.size = t)))) σ) : Spec prog 286 #[.string s,.string t] σ R := by
 refine HO.start (By.start ⟨fun hle => ⟨by unfold AM; omega,s.extract (s.size - t.size) s.size,?_,_,rfl,?_⟩,fun hgt => ⟨_,rfl,?_⟩⟩)
 · rw [show ((s.size : Nat) : Int) - ((t.size : Nat) : Int) = ((s.size - t.size : Nat) : Int) by omega]; exact Nf (by omega)
 · rw [YL,show decide (s.extract (s.size - t.size) s.size = t) = decide (t.size ≤ s.size ∧ s.extract (s.size - t.size) s.size = t) from decide_eq_decide.2 ⟨fun h => ⟨by omega,h⟩,fun h => h.2⟩]; exact h
 · rw [show false = decide (t.size ≤ s.size ∧ s.extract (s.size - t.size) s.size = t) from (decide_eq_false fun hh => hgt (by omega)).symm]; exact h
def ETx (_ : Hp) (vs : List Value) (x : ByteArray) : Prop := vs = [.string x]
theorem ETx.mono : G6 ETx := fun _ _ _ _ _ h => h
abbrev eH := Ae 1 ETx
theorem eH.at {p : Option Addr} {n i : Nat} {ls : List ByteArray} {x : ByteArray} (hr : eH σ p n ls) (hx : ls[i]? = some x) : ∃ b o,p = some ⟨b,o,none⟩ ∧ σ.ld ⟨b,o + i * 1,none⟩ = some (.string x) := by
 obtain ⟨b,o,vs,hp,rfl,hl⟩ := Ae.idx hr hx
 exact ⟨b,o,hp,hl.1⟩
theorem eH.nQ {b : Nat} {T : TypeId} {L : List ByteArray} (h : σ b = some (.cells (L.map Value.string).toArray T (0,0))) (hb : L.length ≤ 4611686018427387904) : eH σ (aD b 0) L.length L := by
 refine ⟨rfl,L.map .string,⟨by simp,hb,.inr ⟨b,0,rfl,As.of fun j v hj => ?_⟩⟩,by simp,fun i x hx => ?_⟩
 · rw [Nat.zero_add]; exact AU h (by simpa using hj)
 · have h1 : (L.map Value.string)[i]? = some (.string x) := by rw [List.getElem?_map,hx]; rfl
   rw [Nat.mul_one,A3 h1]; rfl
theorem sU {p : Option Addr} {n c : Nat} {l : List ByteArray} {s : ByteArray} (hg : Gl σ) (hr : eH σ p n l) (h0 : 0 < n) (hc : n ≤ c) (hs : s.size < 4294967281) (hl : ∀ x ∈ l,x.size ≤ 4294967296) (h : R (.returned (.bool (zm l s))) σ) :
   Spec prog 257 #[.agg #[.slice p n c],.string s] σ R := by
 have hn : l.length = n := hr.1
 have Hf := hr.big
 obtain ⟨a,ha⟩ := hr.ex h0
 obtain ⟨z,hz⟩ := hr.ex (k := n - 1) (by omega)
 obtain ⟨b,o,rfl,hla⟩ := eH.at hr ha
 obtain ⟨_,_,he,vr⟩ := eH.at hr hz
 cases he
 have ea : l.head?.getD ⟨#[]⟩ = a := by rw [List.head?_eq_getElem?,ha]; rfl
 have ez : l.getLast?.getD ⟨#[]⟩ = z := by rw [List.getLast?_eq_getElem?,hn,hz]; rfl
 have e1 : Int.toNat ((n : Int) - 1) = n - 1 := by omega
 have hsa := hl a (List.mem_of_getElem? ha)
 have HY := hl z (List.mem_of_getElem? hz)
 have eK : zm l s = if n = 1 then decide (s = a) else if s.size < a.size + z.size ∨ s.extract 0 a.size ≠ a ∨ s.extract (s.size - z.size) s.size ≠ z then false else gM l.tail.dropLast (s.extract a.size (s.size - z.size)) := by
   unfold zm; rw [ea,ez,hn]
 rw [eK] at h
 refine Cy.start fun _ => ⟨b,o,rfl,by omega,a,by simpa using hla,by unfold AM; omega,by omega,z,by rw [e1]; exact vr,fun h1 => ?_,fun h1 => ?_⟩
 · rw [if_pos (by omega)] at h; rw [YL]; exact h
 rw [if_neg (by omega)] at h
 refine ⟨by unfold AM; omega,fun Ax => ?_,fun gE => Yk ⟨_,rfl,fun hp => ?_,fun hp => Yl (by omega) ⟨_,rfl,fun hq => ?_,fun hq => ?_⟩⟩⟩
 · rw [if_pos (.inl (by omega))] at h; exact h
 · have := of_decide_eq_false hp
   rw [if_pos (.inr (.inl fun e => this ⟨by omega,e⟩))] at h; exact h
 · have := of_decide_eq_false hq
   rw [if_pos (.inr (.inr fun e => this ⟨by omega,e⟩))] at h; exact h
 have hp' := of_decide_eq_true hp
 have hq' := of_decide_eq_true hq
 rw [if_neg (by
                rintro (h3 | h3 | h3)
                · omega
                · exact h3 hp'.2
                · exact h3 hq'.2)] at h
 have sV : eH σ (IL (aD b o) 1 c 1) (n - 2) (l.tail.dropLast) := by
   have := Ae.sub (i := 1) (m := n - 2) hr (by decide) (by omega) hc
   rwa [List.drop_one,show n - 2 = l.tail.length - 1 by rw [List.length_tail]; omega,← List.dropLast_eq_take,List.length_tail,show l.length - 1 - 1 = n - 2 by omega] at this
 refine ⟨by unfold AM; omega,s.extract a.size (s.size - z.size),?_,by unfold AM; omega,by omega,?_⟩
 · rw [show ((s.size : Nat) : Int) - ((z.size : Nat) : Int) = ((s.size - z.size : Nat) : Int) by omega]; exact bX (by omega) (by omega)
 rw [e1,show n - 1 - 1 = n - 2 by omega]
 generalize hu : s.extract a.size (s.size - z.size) = u at *
 have hus : u.size < 4294967281 := by rw [← hu,ByteArray.size_extract]; omega
 generalize IL (aD b o) 1 c 1 = q at *
 generalize l.tail.dropLast = ms at *
 clear hu hla vr ha hz ea ez eK
 suffices H : ∀ g k : Nat,∀ (q' : Option Addr) (v : ByteArray),(0 < n - 2 → q' = q) → n - 2 - k = g → k ≤ n - 2 → v.size < 4294967281 → gM ms u = gM (ms.drop k) v → Cy.Ld R v q' (n - 2) (c - 1) ((n - 2 : Nat) : Int) k σ from H (n - 2) 0 q u (fun _ => rfl) rfl (Nat.zero_le _) hus rfl
 have hml : ms.length = n - 2 := sV.1
 intro g
 induction g with
 | zero =>
   intro k q' v hq hgk hk hv he
   rw [List.drop_eq_nil_of_le (by omega)] at he
   rw [he] at h
   exact Cy.Iq ⟨fun Ax => by omega,fun _ => h⟩
 | succ g ih =>
   intro k q' v hq hgk hk hv he
   have IP : k < n - 2 := by omega
   obtain ⟨t,ht⟩ := sV.ex IP
   obtain ⟨b2,o2,hq2,Ax⟩ := eH.at sV ht
   rw [hq (by omega),hq2]
   rw [A3 ht,gM] at he
   refine Cy.Iq ⟨fun _ => ⟨b2,o2,rfl,by omega,t,by simpa using Ax,index_spec hg hv ⟨_,rfl,fun zn => ?_,fun Qd => ?_⟩⟩,fun hh => by omega⟩
   · rw [if_pos zn] at he; rw [he] at h; exact h
   · rw [if_neg Qd] at he
     have HH := Lib.index_room v.data.toList t.data.toList (by omega)
     have hv1 : v.data.toList.length = v.size := Array.length_toList (xs := v.data)
     have ht1 : t.data.toList.length = t.size := Array.length_toList (xs := t.data)
     generalize hi : Lib.index v.data.toList t.data.toList = i at *
     refine ⟨by unfold AM; omega,v.extract (i.toNat + t.size) v.size,?_,AN IP sV.big,ih (k + 1) _ _ (fun _ => hq2.symm) (by omega) (by omega) (by rw [ByteArray.size_extract]; omega) he⟩
     rw [show i + ((t.size : Nat) : Int) = ((i.toNat + t.size : Nat) : Int) by omega]; exact Nf (by omega)
def nR (σ : Hp) (vs : List Value) (l : List ByteArray) : Prop := ∃ p n c,vs = [.slice p n c] ∧ eH σ p n l ∧ 0 < n ∧ n ≤ c
theorem nR.mono : G6 nR := fun _ _ _ _ hx ⟨p,n,c,hv,h1,h2⟩ => ⟨p,n,c,hv,h1.mono ETx.mono hx,h2⟩
theorem gY {p : Option Addr} {n c : Nat} {L : List (List ByteArray)} {s : ByteArray} (hg : Gl σ) (hr : Ae 1 nR σ p n L) (hs : s.size < 4294967281) (hl : ∀ l ∈ L,∀ x ∈ l,x.size ≤ 4294967296) (h : R (.returned (.bool (L.any fun l => zm l s))) σ) :
   Spec prog 236 #[.agg #[.slice p n c],.string s] σ R := by
 have hn : L.length = n := hr.1
 refine BS.start fun _ => ?_
 suffices H : ∀ g k : Nat,n - k = g → k ≤ n → (L.any fun l => zm l s) = ((L.drop k).any fun l => zm l s) → BS.Hi R s p n c n k σ from H n 0 rfl (Nat.zero_le _) rfl
 intro g
 induction g with
 | zero =>
   intro k hg' hk he
   rw [List.drop_eq_nil_of_le (by omega)] at he
   rw [he] at h
   exact BS.Bc ⟨fun Ax => by omega,fun _ => h⟩
 | succ g ih =>
   intro k hg' hk he
   have IP : k < n := by omega
   obtain ⟨l,hx⟩ := hr.ex IP
   obtain ⟨b,o,vs,rfl,⟨p1,n1,c1,rfl,h1,h2,h3⟩,Ek⟩ := Ae.idx hr hx
   rw [A3 hx,List.any_cons] at he
   refine BS.Bc ⟨fun _ => ⟨b,o,rfl,by omega,p1,n1,c1,by simpa using Ek,fun _ => sU hg h1 h2 h3 hs (hl l (List.mem_of_getElem? hx)) ⟨_,rfl,fun ht => ?_,fun hf => ⟨AN IP hr.big,ih (k + 1) (by omega) (by omega) ?_⟩⟩⟩,fun hh => by omega⟩
   · rw [ht] at he; rw [he] at h; exact h
   · rw [hf] at he; exact he
theorem Ol {c : UInt8} {s : ByteArray} : ∀ x ∈ EF c s,x.size ≤ s.size := by
 unfold EF
 generalize Lib.countB s ⟨#[c]⟩ = k
 induction k generalizing s with
 | zero => intro x hx; rw [Lib.splitB_zero,List.mem_singleton] at hx; rw [hx]; exact Nat.le_refl _
 | succ k ih =>
   intro x hx
   unfold Lib.splitB at hx
   split at hx
   · rw [List.mem_singleton] at hx; rw [hx]; exact Nat.le_refl _
   · rcases List.mem_cons.1 hx with rfl | hx
     · rw [ByteArray.size_extract]; omega
     · have := ih x hx
       rw [ByteArray.size_extract] at this; omega
theorem Ym {c : UInt8} {s : ByteArray} : (EF c s).length ≤ s.size + 1 ∧ 0 < (EF c s).length := by
 have h1 := Lib.splitB_all ⟨#[c]⟩ (Nat.le_refl 1) 0 _ s rfl
 have h2 := Lib.countB_le ⟨#[c]⟩ (Nat.le_refl 1) s.size s (Nat.le_refl _)
 unfold EF
 omega
theorem Vu {s : ByteArray} (hg : Gl σ) (hs : s.size ≤ 1000000) (h : ∀ p n c σ',Ae 1 nR σ' p n ((EF 124 s).map (EF 42)) → Ext σ σ' → R (.returned (.agg #[.slice p n c])) σ') : Spec prog 179 #[.string s] σ R := by
 refine Dh.start fun _ _ => Si hg (by omega) fun b T hb => ⟨_,_,_,rfl,?_⟩
 have Cg : Ext σ (σ.set b (.cells ((EF 124 s).map Value.string).toArray T (0,0))) := .set hb
 obtain ⟨hlen,_⟩ := Ym (c := 124) (s := s)
 have hr : eH (σ.set b (.cells ((EF 124 s).map Value.string).toArray T (0,0))) (aD b 0) (EF 124 s).length (EF 124 s) := eH.nQ (Hp.AB _ _ _) (by omega)
 generalize ALq : σ.set b (.cells ((EF 124 s).map Value.string).toArray T (0,0)) = σ1 at *
 have HY := Ol (c := 124) (s := s)
 generalize EF 124 s = L at *
 suffices H : ∀ g k : Nat,∀ p3 n3 c3 σ',L.length - k = g → k ≤ L.length → GH 1 nR (σ1.new σ') p3 n3 c3 ((L.take k).map (EF 42)) → Ext σ1 σ' → Dh.A1 R none 0 0 p3 n3 c3 (aD b 0) L.length L.length L.length k σ' from H L.length 0 none 0 0 σ1 rfl (Nat.zero_le _) GH.nil (.refl _)
 intro g
 induction g with
 | zero =>
   intro k p3 n3 c3 σ' hg' hk ho hx
   rw [List.take_of_length_le (by omega)] at ho
   exact Dh.Ab ⟨fun Ax => by omega,fun _ => h p3 n3 c3 σ' ((ho.rd nR.mono).mono nR.mono (Ext.Cb _ _)) (Cg.trans hx)⟩
 | succ g ih =>
   intro k p3 n3 c3 σ' hg' hk ho hx
   have IP : k < L.length := by omega
   obtain ⟨x,gH⟩ := hr.ex IP
   obtain ⟨b2,o2,he,ZZ⟩ := eH.at hr gH
   cases he
   have hxs := HY x (List.mem_of_getElem? gH)
   have jH : n3 = k := by have := ho.1; rw [List.length_map,List.length_take] at this; omega
   refine Dh.Ab ⟨fun _ => ⟨b,0,rfl,by omega,x,by simpa using hx.ld ZZ,Si (hg.mono (Cg.trans hx)) (by omega) fun b4 T4 hb4 => ⟨_,_,_,rfl,fun UH ALr => ?_⟩⟩,fun hh => by omega⟩
   obtain ⟨APF,AF6⟩ := Ym (c := 42) (s := x)
   have Mu : Ext σ' (σ'.set b4 (.cells ((EF 42 x).map Value.string).toArray T4 (0,0))) := .set hb4
   have hp3 : ∀ a,p3 = some a → σ' a.block ≠ none := fun a ha => by
     have := ho.block a ha
     cases hh : (σ1.new σ') a.block with
     | none => exact absurd hh this
     | some oo => rw [(Aa.1 hh).2]; simp
   have ALs : (σ1.new (σ'.set b4 (.cells ((EF 42 x).map Value.string).toArray T4 (0,0))) |>.del p3) b4 = some (.cells ((EF 42 x).map Value.string).toArray T4 (0,0)) := AP.2 ⟨fun a ha e => hp3 a ha (by rw [← e]; exact hb4),Aa.2 ⟨A7 hx hb4,Hp.AB _ _ _⟩⟩
   refine GH.IU nR.mono (vs := [.slice (aD b4 0) (EF 42 x).length (EF 42 x).length]) (x := EF 42 x) (hx.trans Mu) (ho.mono nR.mono (Ext.JZ Mu)) rfl (fun u hu => by rw [List.mem_singleton] at hu; subst hu; rfl) ⟨_,_,_,rfl,eH.nQ ALs (by omega),AF6,Nat.le_refl _⟩ (by omega) (fun p' c' σ2 Ba A5 => ⟨_,_,_,rfl,AN IP hr.big,ih (k + 1) _ _ _ _ (by omega) (by omega) ?_ A5⟩) ALr
   rw [Af gH,List.map_append]; exact Ba
theorem Uh {p q : Option Addr} {n c m d : Nat} {ms : List Mt} {ls : List Lb} (hg : Gl σ) (hr : Ae 3 N1 σ p n ms) (hq : Fo σ q m ls) (hm : ∀ x ∈ ms,x.val.size ≤ 1000000) (YW : ∀ x ∈ ls,x.2.size ≤ 1000000) (hk : ∀ x ∈ ms,1 ≤ x.kind ∧ x.kind ≤ 4) (h : ∀ σ',Ext σ σ' → R (.returned (.bool (Kn ms ls))) σ') :
   Spec prog 142 #[.slice p n c,.slice q m d] σ R := by
 have hl : ms.length = n := hr.1
 refine Dy.start (O9.start fun kb GG => ⟨_,_,_,rfl,?_⟩)
 have Cg := Ext.set (o := .cells #[.nilFunc,(.func (.func 217) #[] #[]),(.func (.func 218) #[] #[]),(.func (.func 219) #[] #[]),(.func (.func 220) #[] #[])] 221 (0,0)) GG
 have hc := Hp.AB σ kb (.cells #[.nilFunc,(.func (.func 217) #[] #[]),(.func (.func 218) #[] #[]),(.func (.func 219) #[] #[]),(.func (.func 220) #[] #[])] 221 (0,0))
 generalize ALq : σ.set kb (.cells #[.nilFunc,(.func (.func 217) #[] #[]),(.func (.func 218) #[] #[]),(.func (.func 219) #[] #[]),(.func (.func 220) #[] #[])] 221 (0,0)) = σ1 at *
 have hgs : ∀ k : ByteArray,(Dt ls k).size ≤ 1000000 := fun k => by
   clear hq h
   induction ls with
   | nil => unfold Dt; decide
   | cons a l ih =>
     unfold Dt
     split
     · exact YW a (by simp)
     · exact ih fun x hx => YW x (List.mem_cons_of_mem _ hx)
 suffices H : ∀ g k : Nat,∀ σ',n - k = g → k ≤ n → Ext σ1 σ' → Kn ms ls = Kn (ms.drop k) ls → Dy.A1 R q m d (aD kb 0) 5 5 p n c n k σ' from H n 0 σ1 rfl (Nat.zero_le _) (.refl _) rfl
 intro g
 induction g with
 | zero =>
   intro k σ' hg' IP hx he
   have := h σ' (Cg.trans hx)
   rw [he,List.drop_eq_nil_of_le (by omega)] at this
   exact Dy.Ab ⟨fun Ax => by omega,fun _ => this⟩
 | succ g ih =>
   intro k σ' hg' cZ hx he
   have IP : k < n := by omega
   obtain ⟨x,gH⟩ := hr.ex IP
   obtain ⟨b,o,rfl,Ek⟩ := N1.at hr gH
   have jI := List.mem_of_getElem? gH
   have hk4 := hk x jI
   have WS : Kn ms ls = (PM x ls && Kn (ms.drop (k + 1)) ls) := by rw [he,A3 gH]; rfl
   have step : ∀ (t : Bool) (σ2 : Hp),t = PM x ls → Ext σ1 σ2 → AA R (CB fun t35 AZ => Bn t35 (R (.returned (.bool false)) AZ) (AM ((k : Int) + 1) ∧ Dy.A1 R q m d (aD kb 0) 5 5 (aD b o) n c n ((k : Int) + 1) AZ)) (.returned (.bool t)) σ2 := fun t σ2 ht A5 => by
     refine ⟨t,rfl,fun hf => ?_,fun htt => ⟨AN IP hr.big,ih (k + 1) σ2 (by omega) (by omega) A5 ?_⟩⟩
     · have := h σ2 (Cg.trans A5)
       rw [WS,← ht,hf] at this; exact this
     · rw [WS,← ht,htt]; rfl
   refine Dy.Ab ⟨fun _ => ⟨b,o,rfl,by omega,x.kind,x.name,x.val,by simpa using (Ek.mono (Cg.trans hx)),fun _ => Ue ⟨_,rfl,fun hf => ?_,fun ht => ⟨kb,0,rfl,by omega,?_⟩⟩⟩,fun hh => by omega⟩
   · exact absurd hk4 (of_decide_eq_false hf)
   have JO : ∀ σ2 p1 n1 c1,Ae 1 nR σ2 p1 n1 ((EF 124 x.val).map (EF 42)) → Ext σ1 σ2 → ∀ R2 : Rr,R2 (.returned (.bool (YT x.val (Dt ls x.name)))) σ2 → Spec prog 236 #[.agg #[.slice p1 n1 c1],.string (Dt ls x.name)] σ2 R2 := fun σ2 p1 n1 c1 aR A5 R2 sW => by
     refine gY (hg.mono (Cg.trans A5)) aR (by have := hgs x.name; omega) (fun l hl y hy => ?_) ?_
     · obtain ⟨z,hz,rfl⟩ := List.mem_map.1 hl
       have h1 := Ol y hy
       have h2 := Ol z hz
       have h3 := hm x jI
       omega
     · rw [List.any_map]; exact sW
   have row : ∀ (i : Nat) (f : FuncId) (t : Bool),x.kind = i → (#[.nilFunc,(.func (.func 217) #[] #[]),(.func (.func 218) #[] #[]),(.func (.func 219) #[] #[]),(.func (.func 220) #[] #[])] : Array Value)[i]? = some (.func (.func f) #[] #[]) → Enters prog f → t = PM x ls →
       (∀ p1 n1 c1 σ2 (R2 : Rr),Ae 1 nR σ2 p1 n1 ((EF 124 x.val).map (EF 42)) → Ext σ1 σ2 → R2 (.returned (.bool t)) σ2 → Spec prog f #[.agg #[.slice p1 n1 c1,.string x.val],.string (Dt ls x.name)] σ2 R2) →
       ∃ v24,Hp.ld σ' ⟨kb,(0 + Int.toNat x.kind * 1),none⟩ = some v24 ∧ Spec prog 179 #[.string x.val] σ' (AA R (fun z AF => ∃ MV Lg MW,z = (.agg #[.slice MV Lg MW]) ∧ Kp [kb] σ' AF ∧ Spec prog 180 #[.slice q m d,.string x.name] AF (AA R (CT fun s34 AH => Kp [kb] AF AH ∧ ∃ (f35 : Nat) (Xo Xp : Array Value),v24 = .func (.func f35) Xo Xp ∧ Enters prog f35 ∧ Spec prog f35 (Xo ++ #[.agg #[.slice MV Lg MW,.string x.val],.string s34] ++ Xp) AH (AA R (CB fun t35 AZ => Bn t35 (R (.returned (.bool false)) AZ) (AM ((k : Int) + 1) ∧ Dy.A1 R q m d (aD kb 0) 5 5 (aD b o) n c n ((k : Int) + 1) AZ)))))) ) := fun i f t hi hv N6 ht hf => by
     refine ⟨.func (.func f) #[] #[],?_,?_⟩
     rotate_left
     · refine Vu (hg.mono (Cg.trans hx)) (hm x jI) fun p1 n1 c1 σ2 aR A5 => ⟨p1,n1,c1,rfl,Kp.Dr A5,TY (hq.mono CM.mono (Cg.trans (hx.trans A5))) ⟨_,rfl,Kp.Dr (.refl _),f,#[],#[],rfl,N6,hf p1 n1 c1 σ2 _ aR (hx.trans A5) (step t σ2 ht (hx.trans A5))⟩⟩
     rw [hi]
     exact AU (hx _ _ hc) (by simpa using hv)
   have nS : x.kind = 1 ∨ x.kind = 2 ∨ x.kind = 3 ∨ x.kind = 4 := by omega
   rcases nS with h1 | h1 | h1 | h1
   · exact row 1 217 (decide (Dt ls x.name = x.val)) h1 rfl EW.en (by unfold PM; rw [if_pos h1]) fun p1 n1 c1 σ2 R2 _ _ sW => EW.start fun _ => by rw [YL]; exact sW
   · exact row 2 218 (!decide (Dt ls x.name = x.val)) h1 rfl Eb.en (by unfold PM; rw [if_neg (by omega),if_pos h1]; simp) fun p1 n1 c1 σ2 R2 _ _ sW => Eb.start fun _ => by rw [YL]; exact sW
   · exact row 3 219 (YT x.val (Dt ls x.name)) h1 rfl Dq.en (by unfold PM; rw [if_neg (by omega),if_neg (by omega),if_pos h1]) fun p1 n1 c1 σ2 R2 aR A5 sW => Dq.start fun _ => JO σ2 p1 n1 c1 aR A5 _ ⟨_,rfl,sW⟩
   · exact row 4 220 (!YT x.val (Dt ls x.name)) h1 rfl Dp.en (by unfold PM; rw [if_neg (by omega),if_neg (by omega),if_neg (by omega),if_pos h1]) fun p1 n1 c1 σ2 R2 aR A5 sW => Dp.start fun _ => JO σ2 p1 n1 c1 aR A5 _ ⟨_,rfl,sW⟩
end
end TwW
end
section
namespace TwW
open Go Tw Go.RowKit Go.Proofs.Tryz
structure Rs where
 m : Nat
 dot : Bool
 nd : Nat
 dp : Int
def Cm (st : Rs) (u : UInt8) : Rs := if u = 46 then { st with dot := true,dp := st.nd } else if u = 48 ∧ st.nd = 0 then { st with dp := st.dp - 1 } else { st with m := st.m * 10 + (u.toNat - 48),nd := st.nd + 1 }
def HT (s : ByteArray) : Rs := s.data.toList.foldl Cm ⟨0,false,0,0⟩
def Sj (r : Rs) : Int := if r.m = 0 then 0 else (if r.dot then r.dp else r.nd) - r.nd
def gZ (s : ByteArray) : Int :=
 let r := HT s
 if r.m = 0 then (toF 0 : Nat) else if Sj r = 0 then (toF (FloatKind.f64.nearest r.m) : Nat) else (Ua 4 (FloatKind.f64.nearest r.m) (Sg.getD (-Sj r).toNat 0) : Nat)
section
variable {σ σ' : Hp} {R : Rr}
theorem Nh {s : ByteArray} (hb : s.size ≤ 4611686018427387904) (h : R (.returned (.int .i64 (AO s))) σ) : Spec prog 213 #[.string s] σ R := by
 have hlen : s.data.toList.length = s.size := Array.length_toList (xs := s.data)
 refine FZ.start ?_
 suffices H : ∀ g k : Nat,s.size - k = g → k ≤ s.size → (∀ j u,j < k → s.data.toList[j]? = some u → BX u = true) → FZ.JD R s k σ from H s.size 0 rfl (Nat.zero_le _) (fun j u hj => by omega)
 intro g
 induction g with
 | zero =>
   intro k hg hk h1
   have e : AO s = k := IE (by omega) h1 (fun u hu => by have := (List.getElem?_eq_some_iff.1 hu).1; omega)
   rw [e] at h
   exact FZ.BR ⟨fun Ax => by omega,fun _ => h⟩
 | succ g ih =>
   intro k hg hk h1
   obtain ⟨u,hu,C1⟩ := byte_at (show k < s.size by omega)
   have stop : BX u = false → R (.returned (.int .i64 k)) σ := fun hd => by
     have e : AO s = k := IE (by omega) h1 (fun v hv => by rw [C1] at hv; cases hv; exact hd)
     rw [e] at h; exact h
   refine FZ.BR ⟨fun _ => ⟨u,by omega,by simpa using hu,fun Ye => ⟨u,by omega,by simpa using hu,fun h57 => ?_,fun h57 => stop ?_⟩,fun Ye => stop ?_⟩,fun hh => by omega⟩
   · refine ⟨AN (by omega : k < s.size) hb,ih (k + 1) (by omega) (by omega) fun j v hj hv => ?_⟩
     by_cases qM : j = k
     · rw [qM,C1] at hv; cases hv
       exact decide_eq_true (by omega)
     · exact h1 j v (by omega) hv
   · exact decide_eq_false (by omega)
   · exact decide_eq_false (by omega)
theorem Vw {s : ByteArray} (hb : s.size ≤ 4611686018427387904) (ht : Ff s = true) (h : R (.returned (.bool true)) σ) : Spec prog 172 #[.string s] σ R := by
 have hle := LR s
 have h0 : AO s ≠ 0 := fun e => by unfold Ff at ht; rw [if_pos e] at ht; cases ht
 have h1 : ¬ (1 < AO s ∧ s.data[0]? = some 48) := fun e => by unfold Ff at ht; rw [if_neg h0,if_pos e] at ht; cases ht
 obtain ⟨u0,zq,_⟩ := byte_at (show 0 < s.size by omega)
 have Pm := I1 (u := u0) (k := 48) (by decide)
 have tail : Br ((AO s : Int) = ((ByteArray.size s : Nat) : Int)) (R (.returned (.bool (decide ((AO s : Int) ≤ 15)))) σ) (AM ((AO s : Int) + 1) ∧ ∃ uU,YF prog (Instr.sliceAt 9 (.string s) (some (.int .i64 ((AO s : Int) + 1))) none none) σ (.string uU) ∧ Spec prog 213 #[.string uU] σ (AA R (CI .i64 fun XI AF => ∃ uV : UInt8,0 ≤ (AO s : Int) ∧ (ByteArray.data s)[Int.toNat (AO s : Int)]? = some uV ∧ Br ((((UInt8.toNat uV : Nat) : Int) : Int) = 46) (Br (0 < XI) (AM ((AO s : Int) + 1) ∧ AM (((AO s : Int) + 1) + XI) ∧ Br (((((AO s : Int) + 1) + XI) : Int) = ((ByteArray.size s : Nat) : Int)) (AM ((AO s : Int) + XI) ∧ R (.returned (.bool (decide ((((AO s : Int) + XI) : Int) ≤ 15)))) AF) (R (.returned (.bool false)) AF)) (R (.returned (.bool false)) AF)) (R (.returned (.bool false)) AF)))) := by
   unfold Ff at ht
   rw [if_neg h0,if_neg h1] at ht
   refine ⟨fun he => ?_,fun he => ⟨by unfold AM; omega,s.extract (AO s + 1) s.size,Nf (l := AO s + 1) (by omega),?_⟩⟩
   · rw [if_pos (by omega)] at ht
     rw [decide_eq_true (by have := of_decide_eq_true ht; omega)]; exact h
   · rw [if_neg (by omega)] at ht
     have ht := of_decide_eq_true ht
     have ALm : (s.extract (AO s + 1) s.size).size = s.size - (AO s + 1) := by rw [ByteArray.size_extract]; omega
     have hm := LR (s.extract (AO s + 1) s.size)
     refine Nh (by omega) ?_
     obtain ⟨u,hu,_⟩ := byte_at (show AO s < s.size by omega)
     rw [hu] at ht
     have b46 := I1 (u := u) (k := 46) (by decide)
     generalize AO (s.extract (AO s + 1) s.size) = m at *
     refine ⟨_,rfl,u,by omega,by simpa using hu,fun Uf => ⟨fun h0m => ⟨by unfold AM; omega,by unfold AM; omega,fun hs => ⟨by unfold AM; omega,?_⟩,fun hs => absurd (by omega) hs⟩,fun h0m => absurd (by omega) h0m⟩,fun Uf => absurd (b46.2 (by have := ht.1; simpa using this)) Uf⟩
     rw [decide_eq_true (by omega)]; exact h
 refine O5.start (Nh hb ⟨_,rfl,fun hh => absurd hh (by omega),fun _ => ⟨fun h1n => ⟨u0,by omega,by simpa using zq,fun Ye => ?_,fun _ => tail⟩,fun _ => tail⟩⟩)
 exact absurd ⟨by omega,by rw [zq,Pm.1 Ye]; rfl⟩ h1
theorem bY {α : Type} {p : α → Bool} : ∀ {l : List α} {u : α},u ∈ l.takeWhile p → p u = true
 | [],u,h => by cases h
 | a :: l,u,h => by
   unfold List.takeWhile at h
   split at h
   · rename_i ha
     rcases List.mem_cons.1 h with rfl | h
     · exact ha
     · exact bY h
   · cases h
theorem LU {s : ByteArray} (h : Ff s = true) : 0 < s.size ∧ s.size ≤ 16 ∧ (∃ u,s.data.toList[0]? = some u ∧ BX u = true) ∧ (∀ u ∈ s.data.toList,BX u = true ∨ u = 46) ∧ (s.data.toList.filter BX).length ≤ 15 ∧ (∀ j k : Nat,s.data.toList[j]? = some 46 → s.data.toList[k]? = some 46 → j = k) := by
 have hlen : s.data.toList.length = s.size := Array.length_toList (xs := s.data)
 have hle := LR s
 have h0 : AO s ≠ 0 := fun e => by unfold Ff at h; rw [if_pos e] at h; cases h
 have h1 : ¬ (1 < AO s ∧ s.data[0]? = some 48) := fun e => by unfold Ff at h; rw [if_neg h0,if_pos e] at h; cases h
 unfold Ff at h
 rw [if_neg h0,if_neg h1] at h
 have hT : s.data.toList.takeWhile BX = s.data.toList.take (AO s) := by
   unfold AO
   exact (List.prefix_iff_eq_take.1 (List.takeWhile_prefix _))
 have Vx : ∀ u ∈ s.data.toList.take (AO s),BX u = true := fun u hu => by rw [← hT] at hu; exact bY hu
 have d46 : BX 46 = false := by decide
 have ex0 : ∃ u,s.data.toList[0]? = some u ∧ BX u = true := by
   obtain ⟨u,_,C1⟩ := byte_at (show 0 < s.size by omega)
   refine ⟨u,C1,Vx u (List.mem_of_getElem? (i := 0) ?_)⟩
   rw [List.getElem?_take,if_pos (by omega)]; exact C1
 by_cases he : AO s = s.size
 · rw [if_pos he] at h
   have h15 := of_decide_eq_true h
   have JO : ∀ u ∈ s.data.toList,BX u = true := fun u hu => Vx u (by rw [List.take_of_length_le (by omega)]; exact hu)
   refine ⟨by omega,by omega,ex0,fun u hu => .inl (JO u hu),by have := List.length_filter_le BX s.data.toList; omega,fun j k hj _ => ?_⟩
   have := JO 46 (List.mem_of_getElem? hj)
   rw [d46] at this; cases this
 · rw [if_neg he] at h
   have hh := of_decide_eq_true h
   generalize hm : AO (s.extract (AO s + 1) s.size) = m at hh
   have hm2 : m ≤ 15 := by omega
   have Mi : s.data.toList = s.data.toList.take (AO s) ++ 46 :: s.data.toList.drop (AO s + 1) := by
     obtain ⟨u,hu,C1⟩ := byte_at (show AO s < s.size by omega)
     have e46 : u = 46 := by have := hh.1; rw [hu] at this; simpa using this
     rw [← e46,← A3 C1,List.take_append_drop]
   have Iv : (s.extract (AO s + 1) s.size).data.toList = s.data.toList.drop (AO s + 1) := by
     rw [ByteArray.data_extract,Array.toList_extract,List.extract_eq_take_drop]
     rw [List.take_of_length_le (by rw [List.length_drop]; omega)]
   have vz : ∀ u ∈ s.data.toList.drop (AO s + 1),BX u = true := fun u hu => by
     rw [← Iv] at hu
     have hp := List.takeWhile_prefix (p := BX) (l := (s.extract (AO s + 1) s.size).data.toList)
     have hl : ((s.extract (AO s + 1) s.size).data.toList.takeWhile BX).length = (s.extract (AO s + 1) s.size).data.toList.length := by
       rw [show ((s.extract (AO s + 1) s.size).data.toList.takeWhile BX).length = AO (s.extract (AO s + 1) s.size) from rfl,hm,Iv,List.length_drop]; omega
     have := hp.eq_of_length hl
     rw [← this] at hu
     exact bY hu
   refine ⟨by omega,by omega,ex0,fun u hu => ?_,?_,fun j k hj hk => ?_⟩
   · rw [Mi] at hu
     rcases List.mem_append.1 hu with hu | hu
     · exact .inl (Vx u hu)
     · rcases List.mem_cons.1 hu with rfl | hu
       · exact .inr rfl
       · exact .inl (vz u hu)
   · rw [Mi,List.filter_append,List.filter_cons,d46]
     have a1 := List.length_filter_le BX (s.data.toList.take (AO s))
     have a2 := List.length_filter_le BX (s.data.toList.drop (AO s + 1))
     rw [List.length_take] at a1
     rw [List.length_drop] at a2
     simp only [List.length_append]
     simp
     omega
   · have only : ∀ i : Nat,s.data.toList[i]? = some 46 → i = AO s := fun i hi => by
       rw [Mi] at hi
       have cY : (s.data.toList.take (AO s)).length = AO s := by rw [List.length_take]; omega
       rcases Nat.lt_trichotomy i (AO s) with Ax | Ax | Ax
       · rw [List.getElem?_append_left (by omega)] at hi
         have := Vx 46 (List.mem_of_getElem? hi)
         rw [d46] at this; cases this
       · exact Ax
       · rw [List.getElem?_append_right (by omega),cY] at hi
         obtain ⟨d,hd⟩ : ∃ d,i - AO s = d + 1 := ⟨i - AO s - 1,by omega⟩
         rw [hd,List.getElem?_cons_succ] at hi
         have := vz 46 (List.mem_of_getElem? hi)
         rw [d46] at this; cases this
     rw [only j hj,only k hk]
def bZ (s : ByteArray) (k : Nat) : Nat := ((s.data.toList.take k).filter BX).length
structure zr (s : ByteArray) (k : Nat) (r : Rs) : Prop where
 is : r = (s.data.toList.take k).foldl Cm ⟨0,false,0,0⟩
 nd : r.nd ≤ bZ s k
 m : r.m < 10 ^ r.nd
 lo : (r.nd : Int) - r.dp ≤ bZ s k
 hi : r.dp ≤ r.nd
 sw : r.dot = true → ∃ j,j < k ∧ s.data.toList[j]? = some 46
theorem Gc {u : UInt8} (h : BX u = true) : 48 ≤ u.toNat ∧ u.toNat ≤ 57 := of_decide_eq_true h
theorem zr.zero {s : ByteArray} : zr s 0 ⟨0,false,0,0⟩ := ⟨rfl,Nat.zero_le _,by decide,by simp,by simp,fun h => by cases h⟩
theorem ga {s : ByteArray} {k : Nat} {u : UInt8} (hu : s.data.toList[k]? = some u) : bZ s (k + 1) = bZ s k + if BX u then 1 else 0 := by
 unfold bZ
 rw [Af hu,List.filter_append,List.length_append]
 congr 1
 by_cases h : BX u = true <;> simp [h]
theorem zr.step {s : ByteArray} {k : Nat} {r : Rs} {u : UInt8} (h : zr s k r) (hu : s.data.toList[k]? = some u) (hd : BX u = true ∨ u = 46) : zr s (k + 1) (Cm r u) := by
 have hc := ga hu
 have his : Cm r u = (s.data.toList.take (k + 1)).foldl Cm ⟨0,false,0,0⟩ := by rw [Af hu,List.foldl_append,← h.is]; rfl
 have h1 := h.nd
 have h2 := h.m
 have h3 := h.lo
 have h4 := h.hi
 by_cases Uf : u = 46
 · subst Uf
   have e : Cm r 46 = { r with dot := true,dp := r.nd } := by unfold Cm; rw [if_pos rfl]
   rw [show BX 46 = false from by decide] at hc
   simp only [Bool.false_eq_true,if_false,Nat.add_zero] at hc
   rw [e] at his ⊢
   exact ⟨his,by rw [hc]; exact h1,h2,by dsimp only; omega,Int.le_refl _,fun _ => ⟨k,by omega,hu⟩⟩
 have hdg := hd.resolve_right Uf
 have hn := Gc hdg
 rw [hdg] at hc
 simp only [if_true] at hc
 by_cases Ye : u = 48 ∧ r.nd = 0
 · have e : Cm r u = { r with dp := r.dp - 1 } := by unfold Cm; rw [if_neg Uf,if_pos Ye]
   rw [e] at his ⊢
   exact ⟨his,by dsimp only; omega,h2,by dsimp only; omega,by dsimp only; omega,fun hh => let ⟨j,h5,h6⟩ := h.sw hh; ⟨j,by omega,h6⟩⟩
 · have e : Cm r u = { r with m := r.m * 10 + (u.toNat - 48),nd := r.nd + 1 } := by unfold Cm; rw [if_neg Uf,if_neg Ye]
   rw [e] at his ⊢
   exact ⟨his,by dsimp only; omega,by dsimp only; rw [Nat.pow_succ]; omega,by dsimp only; omega,by dsimp only; omega,fun hh => let ⟨j,h5,h6⟩ := h.sw hh; ⟨j,by omega,h6⟩⟩
theorem nT {x : Int} (h0 : 0 ≤ x) (h1 : x < 18446744073709551616) : IntKind.u64.wrap x = x := by simp [IntKind.wrap,IntKind.bits,IntKind.signed]; omega
theorem AF7 {x : Int} (h0 : 0 ≤ x) (h1 : x < 256) : IntKind.u8.wrap x = x := by simp [IntKind.wrap,IntKind.bits,IntKind.signed]; omega
theorem Yn {n : Nat} (h : n ≤ 15) : 10 ^ n ≤ 1000000000000000 := Nat.le_trans (Nat.pow_le_pow_right (by decide) h) (by decide)
theorem gb {s : ByteArray} (ht : Ff s = true) (h : R (.returned (.tuple #[.int .u64 ((HT s).m : Nat),.int .i64 (Sj (HT s)),.bool false,.bool false,.bool false,.int .i64 (s.size : Nat),.bool true])) σ) : Spec prog 272 #[.string s] σ R := by
 obtain ⟨hs0,zt,⟨u0,zq,eI⟩,jJ,sY,AF8⟩ := LU ht
 have hlen : s.data.toList.length = s.size := Array.length_toList (xs := s.data)
 have hn0 := Gc eI
 have hg0 : s.data[0]? = some u0 := by rw [← Array.getElem?_toList]; exact zq
 have AF9 : ∀ k,bZ s k ≤ 15 := fun k => Nat.le_trans (List.Sublist.length_le ((List.take_sublist _ _).filter _)) sY
 have Vy : AE.l4 R s 0 0 false false false 0 false false 10 19 101 false false 0 0 0 σ := by
   suffices H : ∀ g k : Nat,∀ r : Rs,s.size - k = g → k ≤ s.size → zr s k r → AE.l4 R s (r.m : Nat) 0 false false false (k : Nat) false false 10 19 101 r.dot (decide (0 < k)) (r.nd : Nat) (r.nd : Nat) r.dp σ from H s.size 0 ⟨0,false,0,0⟩ rfl (Nat.zero_le _) .zero
   intro g
   induction g with
   | zero =>
     intro k r hg hk hr
     have cZ : k = s.size := by omega
     have er : r = HT s := by rw [hr.is,List.take_of_length_le (by omega)]; rfl
     have hc := AF9 k
     have h1 := hr.nd
     have h3 := hr.lo
     have h4 := hr.hi
     refine AE.di ⟨fun Ax => by omega,fun _ => ?_⟩
     rw [show decide (0 < k) = true from decide_eq_true (by omega)]
     have fin : ∀ x17 : Int,(r.m ≠ 0 → x17 - r.nd = Sj r) → -100 ≤ x17 → x17 ≤ 100 → AE.dh R s (r.m : Nat) 0 false false false (k : Nat) false false 10 101 (r.nd : Nat) x17 σ := fun x17 hx hlo hhi => by
       refine AE.mB ⟨fun hh => absurd hh (by decide),fun _ => AE.mC ⟨fun Ax => by omega,fun _ => ⟨fun hh => absurd hh (by decide),fun _ => AE.mD ⟨fun hm => ⟨by unfold AM; omega,AE.YG ⟨fun hh => (by cases hh),fun _ => ?_⟩⟩,fun hm => AE.YG ⟨fun hh => (by cases hh),fun _ => ?_⟩⟩⟩⟩⟩
       · rw [hx (by omega),cZ,er]; exact h
       · have hm0 : r.m = 0 := by omega
         have : Sj (HT s) = 0 := by rw [← er]; unfold Sj; rw [if_pos hm0]
         rw [this,← cZ,← er] at h; exact h
     refine AE.mA ⟨fun hh => (by cases hh),fun _ => ⟨fun hf => fin _ (fun hm => ?_) (by omega) (by omega),fun hf => fin _ (fun hm => ?_) (by omega) (by omega)⟩⟩
     · unfold Sj; rw [if_neg hm,hf]; rfl
     · unfold Sj; rw [if_neg hm,hf]; rfl
   | succ g ih =>
     intro k r hg hk hr
     obtain ⟨u,hu,C1⟩ := byte_at (show k < s.size by omega)
     have aL := jJ u (List.mem_of_getElem? C1)
     have CV := hr.step C1 aL
     have PT := fun h64 => AE.mE (R := R) (σ := σ) (s0 := s) (x2 := ((Cm r u).m : Nat)) (x3 := 0) (t4 := false) (t5 := false) (t6 := false) (x7 := (k : Nat)) (t8 := false) (t9 := false) (x10 := 10) (x11 := 19) (x12 := 101) (t13 := (Cm r u).dot) (t14 := true) (x15 := ((Cm r u).nd : Nat)) (x16 := ((Cm r u).nd : Nat)) (x17 := (Cm r u).dp) ⟨h64,by
       have := ih (k + 1) (Cm r u) (by omega) (by omega) CV
       rw [show decide (0 < k + 1) = true from decide_eq_true (by omega)] at this
       exact_mod_cast this⟩
     have PT := PT (by unfold AM; omega)
     have hc := AF9 k
     have h1 := hr.nd
     have h3 := hr.lo
     have h4 := hr.hi
     refine AE.di ⟨fun _ => ⟨u,by omega,by simpa using hu,fun h95 => ?_,fun h95 => ⟨fun Uf => ⟨fun AGB => ?_,fun AGB => ?_⟩,fun Uf => ?_⟩⟩,fun hh => by omega⟩
     · exfalso
       rcases aL with hd | rfl
       · have := Gc hd; omega
       · exact absurd h95 (by decide)
     · exfalso
       obtain ⟨j,hj,Qc⟩ := hr.sw AGB
       have e : u = 46 := (I1 (k := 46) (by decide)).1 Uf
       rw [e] at C1
       have := AF8 j k Qc C1
       omega
     · have e : u = 46 := (I1 (k := 46) (by decide)).1 Uf
       have hk0 : 0 < k := by
         rcases Nat.eq_zero_or_pos k with h0 | h0
         · subst h0
           rw [zq] at C1; cases C1
           rw [e] at eI; exact absurd eI (by decide)
         · exact h0
       rw [show decide (0 < k) = true from decide_eq_true hk0]
       rw [show Cm r u = { r with dot := true,dp := r.nd } by unfold Cm; rw [if_pos e]] at PT
       exact PT
     have hd := aL.resolve_right fun e => Uf ((I1 (k := 46) (by decide)).2 e)
     have hn := Gc hd
     have v7 : u ≠ 46 := fun e => Uf ((I1 (k := 46) (by decide)).2 e)
     have Pm := I1 (u := u) (k := 48) (by decide)
     refine ⟨fun _ => ⟨fun _ => ?_,fun hh => by omega⟩,fun hh => by omega⟩
     have ARy := Nat.lt_of_lt_of_le hr.m (Yn (show r.nd ≤ 15 by omega))
     have digit : ¬ (u = 48 ∧ r.nd = 0) → AM ((r.nd : Int) + 1) ∧ Br ((r.nd : Int) < 19) (Df (IntKind.u64.wrap ((r.m : Int) * 10)) fun x99 => Df (IntKind.u8.wrap (((UInt8.toNat u : Nat) : Int) - 48)) fun gA => Df (IntKind.u64.wrap gA) fun gB => Df (IntKind.u64.wrap (x99 + gB)) fun az => AM ((r.nd : Int) + 1) ∧ AE.Fa R s az 0 false false false (k : Nat) false false 10 19 101 r.dot true ((r.nd : Int) + 1) ((r.nd : Int) + 1) r.dp σ) (Br ((((UInt8.toNat u : Nat) : Int) : Int) ≠ 48) (AE.Fa R s (r.m : Nat) 0 false true false (k : Nat) false false 10 19 101 r.dot true ((r.nd : Int) + 1) (r.nd : Nat) r.dp σ) (AE.Fa R s (r.m : Nat) 0 false false false (k : Nat) false false 10 19 101 r.dot true ((r.nd : Int) + 1) (r.nd : Nat) r.dp σ)) := fun DQ => by
       refine ⟨by unfold AM; omega,fun _ => fun x99 e99 gA ALw gB ALx az ALy => ⟨by unfold AM; omega,?_⟩,fun hh => absurd (by omega) hh⟩
       rw [nT (by omega) (by omega)] at e99
       rw [AF7 (by omega) (by omega)] at ALw
       rw [nT (by omega) (by omega)] at ALx
       rw [nT (by omega) (by omega)] at ALy
       rw [show Cm r u = { r with m := r.m * 10 + (u.toNat - 48),nd := r.nd + 1 } by unfold Cm; rw [if_neg v7,if_neg DQ]] at PT
       have : az = ((r.m * 10 + (u.toNat - 48) : Nat) : Int) := by omega
       rw [this]
       exact_mod_cast PT
     refine ⟨fun Ye => ⟨fun hz => ⟨by unfold AM; omega,?_⟩,fun hz => digit fun hh => hz (by omega)⟩,fun Ye => digit fun hh => Ye (Pm.2 hh.1)⟩
     rw [show Cm r u = { r with dp := r.dp - 1 } by unfold Cm; rw [if_neg v7,if_pos ⟨Pm.1 Ye,by omega⟩]] at PT
     exact PT
 have ALz : AE.TW R s 0 0 false false false 0 false false σ := by
   refine AE.QM ⟨by unfold AM; omega,fun Ax => ⟨u0,by omega,by simpa using hg0,fun Ye => ⟨by unfold AM; omega,?_⟩,fun _ => AE.Iu Vy⟩,fun _ => AE.Iu Vy⟩
   obtain ⟨u1,gG,AL0⟩ := byte_at (show 1 < s.size by omega)
   refine ⟨u1,by decide,by simpa using gG,EV.start fun x4 e4 => ⟨_,rfl,fun AL1 => ?_,fun _ => AE.Iu Vy⟩⟩
   exfalso
   have low : ∀ i : Fin 12,Go.bits .or .u8 (((46 + i.1 : Nat)) : Int) 32 ≠ 120 := by decide
   have FM : 46 ≤ u1.toNat ∧ u1.toNat < 58 := by
     rcases jJ u1 (List.mem_of_getElem? AL0) with hd | rfl
     · have := Gc hd; omega
     · decide
   have := low ⟨u1.toNat - 46,by omega⟩
   rw [show 46 + (u1.toNat - 46) = u1.toNat by omega] at this
   exact this (by rw [← e4]; exact AL1)
 refine AE.start ⟨fun hh => by omega,fun _ => ⟨u0,by decide,by simpa using hg0,fun hh => by omega,fun _ => ⟨fun hh => by omega,fun _ => ALz⟩⟩⟩
theorem Vz {s : ByteArray} (ht : Ff s = true) (h : R (.returned (.tuple #[.float .f64 0,.int .i64 0,.bool false])) σ) : Spec prog 271 #[.string s] σ R := by
 obtain ⟨hs0,zt,⟨u0,zq,eI⟩,jJ,sY,AF8⟩ := LU ht
 have hn0 := Gc eI
 have hg0 : s.data[0]? = some u0 := by rw [← Array.getElem?_toList]; exact zq
 refine Ah.start ⟨fun hh => by omega,fun _ => ⟨u0,by decide,by simpa using hg0,fun hh => by omega,fun _ => Ah.VQ ⟨fun hh => ?_,fun _ => ⟨fun hh => by omega,fun _ => Ah.rO ⟨fun hh => ?_,fun _ => ⟨fun hh => by omega,fun _ => Ah.VR ⟨fun hh => ?_,fun _ => Ah.rR h⟩⟩⟩⟩⟩⟩⟩
 · have := of_decide_eq_true hh; omega
 · have := of_decide_eq_true hh; omega
 · have := of_decide_eq_true hh; omega
theorem sZ {x : Int} : YN prog 281 #[.int .u64 x] σ (.float .f64 x.toNat) := fun w _ => by
 rw [run_callFunc_extern Go.Proofs.Tryz.func281 (by kernel_rfl) (by kernel_rfl) (by kernel_rfl) (e := Extern.MathFloatBits.float64frombits) (by kernel_rfl)]
 rfl
theorem sa {s : ByteArray} (ht : Ff s = true) : -15 ≤ Sj (HT s) ∧ Sj (HT s) ≤ 0 ∧ (HT s).m < 1000000000000000 := by
 obtain ⟨hs0,zt,_,jJ,sY,_⟩ := LU ht
 have hlen : s.data.toList.length = s.size := Array.length_toList (xs := s.data)
 have H : ∀ k,k ≤ s.size → zr s k ((s.data.toList.take k).foldl Cm ⟨0,false,0,0⟩) := fun k => by
   induction k with
   | zero => intro _; exact .zero
   | succ k ih =>
     intro hk
     obtain ⟨u,hu,C1⟩ := byte_at (show k < s.size by omega)
     have := (ih (by omega)).step C1 (jJ u (List.mem_of_getElem? C1))
     rwa [Af C1,List.foldl_append]
 have hr := H s.size (Nat.le_refl _)
 rw [List.take_of_length_le (by omega)] at hr
 have hc : bZ s s.size ≤ 15 := Nat.le_trans (List.Sublist.length_le ((List.take_sublist _ _).filter _)) sY
 have h1 := hr.nd
 have h3 := hr.lo
 have h4 := hr.hi
 have hm := Nat.lt_of_lt_of_le hr.m (Yn (show _ ≤ 15 by omega))
 change (HT s).m < _ at hm
 change (HT s).nd ≤ _ at h1
 change ((HT s).nd : Int) - (HT s).dp ≤ _ at h3
 change (HT s).dp ≤ (HT s).nd at h4
 unfold Sj
 split
 · exact ⟨by decide,by decide,hm⟩
 · split <;> omega
theorem ba {m : Nat} {e : Int} (hg : Gl σ) (hm : m < 1000000000000000) (h1 : -15 ≤ e) (h2 : e ≤ 0) (h : ∀ x : Nat,(toF x : Nat) = (if e = 0 then toF (FloatKind.f64.nearest m) else Ua 4 (FloatKind.f64.nearest m) (Sg.getD (-e).toNat 0)) → R (.returned (.tuple #[.float .f64 x,.bool true])) σ) :
   Spec prog 282 #[.int .u64 (m : Nat),.int .i64 e,.bool false] σ R := by
 refine BD.start ⟨52,hg.bits,by decide,fun x11 sd => ⟨fun hh => ?_,fun _ => ?_⟩⟩
 · exfalso
   apply hh
   rw [sd]
   exact Int.ediv_eq_zero_of_lt (by omega) (by show (m : Int) < 4503599627370496; omega)
 refine Dk (v := .float .f64 (FloatKind.f64.nearest m)) (fun w => by kernel_rfl) ⟨_,rfl,fun hh => (by cases hh),fun _ => BD.rm ⟨fun h0 => h _ (by rw [if_pos h0]),fun h0 => ⟨fun hh => by omega,fun _ => ⟨fun _ => ⟨fun _ => ?_,fun hh => absurd (by omega) hh⟩,fun hh => absurd (by omega) hh⟩⟩⟩⟩
 obtain ⟨b,o,n,c,hp,hn,hl⟩ := hg.pow
 refine ⟨_,n,c,hp,fun ri e60 => ?_⟩
 have AL2 : ri = -e := by rw [e60]; simp [IntKind.wrap,IntKind.bits,IntKind.signed]; omega
 have Ax : (-e).toNat < Sg.length := by show _ < 16; omega
 refine ⟨b,o,rfl,by omega,Sg.getD (-e).toNat 0,?_,eA fun y hy => ⟨_,rfl,h y (by rw [if_neg h0]; exact hy)⟩⟩
 rw [AL2]
 exact hl _ _ (by rw [List.getD_eq_getElem?_getD,List.getElem?_eq_getElem Ax]; rfl)
theorem gh {s : ByteArray} (hg : Gl σ) (ht : Ff s = true) (h : ∀ x : Nat,((toF x : Nat) : Int) = gZ s → R (.returned (.tuple #[.float .f64 x,.int .i64 (s.size : Nat),.nilIface])) σ) : Spec prog 253 #[.string s] σ R := by
 obtain ⟨h1,h2,hm⟩ := sa ht
 refine D8.start (Vz ht ⟨_,_,_,rfl,fun hh => (by cases hh),fun _ => gb ht ⟨_,_,_,_,_,_,_,rfl,fun hh => (by cases hh),fun _ => ⟨fun hh => (by cases hh),fun _ => ⟨true,hg.opt,fun _ => CG.start ⟨fun hh => (by cases hh),fun _ => ⟨_,rfl,by decide,fun ai e67 => ?_⟩⟩,fun hh => (by cases hh)⟩⟩⟩⟩)
 have AL3 : ai = 0 := by rw [e67]; rfl
 subst AL3
 refine ⟨fun h0 => fun x71 e71 => .y sZ ⟨_,rfl,h _ ?_⟩,fun h0 => ⟨fun hh => by omega,fun _ => ⟨fun hh => by omega,fun _ => ⟨fun _ => ba hg hm h1 h2 fun x hx => ⟨_,_,rfl,fun _ => h x ?_,fun hh => (by cases hh)⟩,fun hh => (by cases hh)⟩⟩⟩⟩
 · have : x71 = 0 := by rw [e71]; decide
   rw [this]
   unfold gZ
   rw [if_pos (by omega)]; rfl
 · unfold gZ
   dsimp only
   rw [if_neg (by omega),hx]
   split <;> rfl
theorem Yo {s : ByteArray} (hg : Gl σ) (ht : Ff s = true) (h : R (.returned (.tuple #[.int .u64 (gZ s),.bool true])) σ) : Spec prog 140 #[.string s] σ R := by
 obtain ⟨_,zt,_⟩ := LU ht
 refine O4.start (Vw (by omega) ht ⟨_,rfl,fun hh => (by cases hh),fun _ => Gt.start (Cj.start (BZ.start ⟨fun hh => absurd hh (by decide),fun _ => gh hg ht fun x hx => ⟨_,_,_,rfl,_,_,_,rfl,fun hh => absurd rfl hh,fun _ => ⟨_,_,rfl,false,fun w _ => by kernel_rfl,fun hh => (by cases hh),fun _ => ⟨_,_,rfl,GN ⟨_,rfl,by rw [hx]; exact h⟩⟩⟩⟩⟩))⟩)
end
end TwW
end
section
namespace TwW
open Go Tw Go.RowKit Go.Proofs.Tryz
def AV {α : Type} (s : Nat) (E : Hp → List Value → α → Prop) (σ0 σ : Hp) (p : Option Addr) (n c : Nat) (xs : List α) : Prop := GH s E σ p n c xs ∧ Ext σ0 (σ.del p)
section
variable {α : Type} {s bs : Nat} {E : Hp → List Value → α → Prop} {σ0 σ σ' : Hp} {p : Option Addr} {n c : Nat} {xs : List α}
theorem AV.nil (hx : Ext σ0 σ) : AV s E σ0 σ none 0 0 [] := ⟨GH.nil,hx⟩
theorem AV.mono (hE : G6 E) (h : AV s E σ0 σ p n c xs) (hx : Ext σ σ') : AV s E σ0 σ' p n c xs := ⟨h.1.mono hE hx,h.2.trans (hx.del p)⟩
theorem AV.up (h : AV s E σ0 σ p n c xs) : Ext σ0 σ := h.2.trans (Ext.IS _ _)
theorem AV.rd (hE : G6 E) (h : AV s E σ0 σ p n c xs) : Ae s E σ p n xs := h.1.rd hE
theorem AV.new (h : AV s E σ0 σ p n c xs) (hx : Ext σ σ') : Ext (σ.new σ') (σ'.del p) := Ext.qQ (fun a ha => h.1.block a ha)
theorem AV.IU {P : Program} {T Et ty : TypeId} {vs : List Value} {x : α} {Φ : Value → Hp → Prop} (hE : G6 E) [Ja P T Et s bs] (h : AV s E σ0 σ p n c xs) (hl : vs.length = s) (h1 : GF vs) (hx : E (σ.del p) vs x) (hb : (n + 1) * bs ≤ 140737488355328)
   (hΦ : ∀ p' c' σ',AV s E σ0 σ' p' (n + 1) c' (xs ++ [x]) → Ext (σ.del p) (σ'.del p') → Φ (.slice p' (n + 1) c') σ') {b : Nat} (hn : σ b = none) :
   AJ P (Builtin.append_ #[T,T] ty #[.slice p n c,.slice (some ⟨b,0,none⟩) 1 1]) (σ.set b (.cells vs.toArray Et (0,0))) Φ := by
 obtain ⟨⟨hlen,cs,ho,hc⟩,qF⟩ := h
 refine Dm (ho.mono (.set hn)) ⟨by rw [hl,Nat.one_mul],by omega,.inr ⟨b,0,rfl,As.of fun j v hj => ?_⟩⟩ h1 hb fun p' c' σ' My YM => ?_
 · simp [Hp.ld,Hp.AB,hj]
 · have e : Ext (σ.del p) (σ'.del p') := ((Ext.set hn).del p).trans YM
   exact hΦ p' c' σ' ⟨⟨by simp [hlen],_,My,(hc.snoc hl hx).mono hE e⟩,qF.trans e⟩ e
end
theorem Bp.one (σ : Hp) (vs : List Value) (x : El) (h : Bp σ vs x) : GF vs := by
 obtain ⟨p,n,c,rfl,_⟩ := h
 intro u hu
 simp only [List.mem_cons,List.not_mem_nil,or_false] at hu
 rcases hu with rfl | rfl <;> rfl
theorem Bp.at {σ : Hp} {p : Option Addr} {n i : Nat} {l : List El} {x : El} (hr : Ae 2 Bp σ p n l) (hx : l[i]? = some x) : ∃ b o q m d,p = some ⟨b,o,none⟩ ∧ As σ b (o + i * 2) [.slice q m d,.int .u64 x.v] ∧ Fo σ q m x.ls := by
 obtain ⟨b,o,vs,hp,⟨q,m,d,rfl,h⟩,hl⟩ := Ae.idx hr hx
 exact ⟨b,o,q,m,d,hp,hl,h⟩
section
variable {σ σ' σ0 : Hp} {R : Rr}
theorem Yp {p : Option Addr} {n c : Nat} {xs : List Int} {Φ : Value → Hp → Prop} (hr : Ep .u8 σ p n xs) (h : Φ (.string (strOfNums xs)) σ) : AJ prog (convert 90 9 (.slice p n c)) σ Φ := by
 refine AJ.pu (fun w hs => ?_) h
 have h1 := underlying90
 have h2 := underlying9
 by_cases hn : n = 0
 · subst hn
   have hx : xs = [] := List.eq_nil_of_length_eq_zero hr.1
   subst hx
   rw [run_convert_bytes_string w 90 9 _ p 0 c h1 underlying5 h2]
   cases p <;> simp [Conv.bytesToString,loadCells] <;> rfl
 · obtain ⟨x0,qF⟩ := hr.ex (k := 0) (by omega)
   obtain ⟨b,o,rfl,_⟩ := hr.at qF
   refine run_convert_bytes_arg w 90 _ h1 underlying5 b o n c xs hr.1 (fun i hi => ?_) 9 h2
   obtain ⟨x,hx⟩ := hr.ex hi
   obtain ⟨b',o',he,hl⟩ := hr.at hx
   cases he
   have := cell_of hs hl
   simpa [Bg,hx] using this
theorem FD {p : Option Addr} {n c : Nat} {ls : List Lb} (hr : Fo σ p n ls) (hs : Ao ls) (h : ∀ σ',Ext σ σ' → R (.returned (.string (GK ls))) σ') : Spec prog 49 #[.slice p n c] σ R :=
 XK.start (Vk hr hs fun p' n' c' σ' ho hx => ⟨_,_,_,rfl,Yp (Da.rd (A6.mono (Ext.Cb _ _) ho)) ⟨_,rfl,h σ' hx⟩⟩)
theorem FE {p : Option Addr} {n c : Nat} {ls : List Lb} (hr : Fo σ p n ls) (hn : n ≤ 1000000) (h : ∀ p' n' c' σ',Fo (σ.new σ') p' n' (DP ls) → Ext σ σ' → R (.returned (.slice p' n' c')) σ') : Spec prog 146 #[.slice p n c] σ R := by
 refine UL.start fun b hb => ?_
 have hx := Ext.set (o := .cells #[(.string (ByteArray.mk #[95,95,110,97,109,101,95,95]))] 9 (0,0)) hb
 refine Iw (ns := [CH]) (hr.mono CM.mono hx) hn (SP (Hp.AB _ _ _)) fun p' n' c' σ' ho YM => ⟨_,_,_,rfl,h p' n' c' σ' ((ho.rd CM.mono).mono CM.mono (Ext.C5 hx)) (hx.trans YM)⟩
theorem Ui {p q : Option Addr} {n c m d : Nat} {ls : List Lb} {ns : List ByteArray} (hr : Fo σ p n ls) (hn : n ≤ 1000000) (hs : E4 1 σ q m (ns.map .string))
   (h : ∀ p' n' c' σ',Fo (σ.new σ') p' n' (YO ns ls) → Ext σ σ' → R (.returned (.slice p' n' c')) σ') : Spec prog 149 #[.slice p n c,.slice q m d] σ R := by
 refine Q7.start fun b3 dt => ?_
 have D1 : Ext σ (σ.set b3 (.cells #[.slice q m d] 34 (0,0))) := .set dt
 refine PK (f := 198) (g := fun x => Fb x.1 ns) GJ.en (hr.mono CM.mono D1) hn (fun σ' x R' hx LM => ?_) fun p' n' c' σ' ho hx => ⟨_,_,_,rfl,h p' n' c' σ' ?_ (D1.trans hx)⟩
 · refine GJ.start fun _ => ⟨q,m,d,AU (hx _ _ (Hp.AB _ _ _)) rfl,Km (hs.mono (D1.trans hx)) ⟨_,rfl,LM⟩⟩
 · exact (ho.rd CM.mono).mono CM.mono (Ext.C5 D1)
theorem gi {p q : Option Addr} {n c m d : Nat} {ls : List Lb} {ns : List ByteArray} (hr : Fo σ p n ls) (hn : n ≤ 1000000) (hs : E4 1 σ q m (ns.map .string))
   (h : ∀ p' n' c' σ',Fo (σ.new σ') p' n' (DP (YQ ns ls)) → Ext σ σ' → R (.returned (.slice p' n' c')) σ') {R' : Rr} (hR : ∀ p' n' c' σ',R (.returned (.slice p' n' c')) σ' → R' (.returned (.slice p' n' c')) σ') :
   Spec prog 150 #[.slice p n c,.slice q m d] σ (AA R' (CS fun dT n15 XO y => Spec prog 146 #[.slice dT n15 XO] y (AA R' (CS fun aP n16 WN AF => R' (.returned (.slice aP n16 WN)) AF)))) := by
 refine Iw hr hn hs fun p' n' c' σ1 ho hx => ⟨_,_,_,rfl,?_⟩
 have hl : n' ≤ n := by
   have h1 := ho.1
   have h2 := List.length_filter_le (fun x : Lb => !Fb x.1 ns) ls
   have h3 : ls.length = n := hr.1
   omega
 refine FE ((ho.rd CM.mono).mono CM.mono (Ext.Cb _ _)) (by omega) fun p2 n2 c2 σ2 G4 A5 => ⟨_,_,_,rfl,hR _ _ _ _ (h p2 n2 c2 σ2 (G4.mono CM.mono (Ext.C5 hx)) (hx.trans A5))⟩
theorem QR {n : Nd} {p q r : Option Addr} {k c m d j e : Nat} {ls : List Lb} (hr : Fo σ r j ls) (hj : j ≤ 1000000) (hs : E4 1 σ q m (n.names.map .string))
   (h : ∀ p' n' c' σ',Fo (σ.new σ') p' n' (N0 n ls) → Ext σ σ' → R (.returned (.slice p' n' c')) σ') : Spec prog 207 #[Ll n p k c q m d,.slice r j e] σ R := by
 refine dY.start fun _ => ⟨fun h3 => Ui hr hj hs fun p' n' c' σ' ij hx => ⟨_,_,_,rfl,h p' n' c' σ' ?_ hx⟩,fun h3 => gi hr hj hs (fun p' n' c' σ' ij hx => h p' n' c' σ' ?_ hx) fun _ _ _ _ hh => hh⟩
 · unfold N0; rw [if_pos h3]; exact ij
 · unfold N0; rw [if_neg h3]; exact ij
theorem Ao.filter {ls : List Lb} (g : Lb → Bool) (h : Ao ls) : Ao (ls.filter g) := ⟨Nat.le_trans (List.length_filter_le _ _) h.1,fun x hx => h.2 x (List.mem_filter.1 hx).1⟩
theorem Ao.bare {ls : List Lb} (h : Ao ls) : Ao (DP ls) := h.filter _
theorem Ao.N0 {n : Nd} {ls : List Lb} (h : Ao ls) : Ao (TwW.N0 n ls) := by
 unfold TwW.N0 YO DP YQ
 split
 · exact h.filter _
 · exact (h.filter _).filter _
structure IH (R : Rr) (σ : Hp) (X : Option Vv) : Prop where
 ok : ∀ x σ' p n c q m d,X = some x → Ext σ σ' → Ae 2 Bp σ' p n x.vec → Ae 2 SS σ' q m x.OF → n ≤ c → m ≤ d → R (.returned (.tuple #[.agg #[.int .i64 x.kind,.int .u64 x.v,.slice p n c,.slice q m d],.int .i64 0])) σ'
 no : X = none → ∀ σ',Ext σ σ' → R (.returned (.tuple #[.agg #[.int .i64 0,.int .u64 0,.slice none 0 0,.slice none 0 0],.int .i64 223])) σ'
theorem IH.gj {X : Option Vv} (h : IH R σ X) (hx : Ext σ σ') : IH R σ' X := ⟨fun x σ2 p n c q m d h0 h1 h2 h3 => h.ok x σ2 p n c q m d h0 (hx.trans h1) h2 h3,fun h0 σ2 h1 => h.no h0 σ2 (hx.trans h1)⟩
theorem IH.Te {X : Option Vv} (h : IH R σ X) : IH (AA R (fun z y => ∃ XP XQ XR XS XT XU XV XW kU,z = (.tuple #[.agg #[.int .i64 XP,.int .u64 XQ,.slice XR XS XT,.slice XU XV XW],.int .i64 kU]) ∧ R (.returned (.tuple #[.agg #[.int .i64 XP,.int .u64 XQ,.slice XR XS XT,.slice XU XV XW],.int .i64 kU])) y)) σ X :=
 ⟨fun x σ' p n c q m d h0 h1 h2 h3 h4 h5 => ⟨_,_,_,_,_,_,_,_,_,rfl,h.ok x σ' p n c q m d h0 h1 h2 h3 h4 h5⟩,fun h0 σ' h1 => ⟨_,_,_,_,_,_,_,_,_,rfl,h.no h0 σ' h1⟩⟩
theorem gk [Ej] {p q : Option Addr} {n c m d : Nat} {v u : Int} {ls ms : List Lb} (hr : Fo σ p n ls) (hs : Fo σ q m ms) (h : ∀ σ',Ext σ σ' → R (.returned (.int .i64 (CR ls ms))) σ') : Spec prog 196 #[.agg #[.slice p n c,.int .u64 v],.agg #[.slice q m d,.int .u64 u]] σ R :=
 Lt.start fun _ _ => LN hr hs fun σ' hx => ⟨_,rfl,h σ' hx⟩
end
end TwW
end
section
namespace TwW
open Go Tw Go.RowKit Go.Proofs.Tryz
def MG (op : Int) (vs : List Int) (w : Int) : Option Int :=
 if op = 4 then some (Oc vs) else if op = 5 then some (Kq 4 (Oc vs) (Aq vs.length)) else if op = 6 then some (HS 7 vs) else if op = 7 then some (HS 9 vs) else if op = 8 then some (Aq vs.length)
 else if op = 9 then some (nrm (vs.getLast?.getD 0)) else if op = 10 then some (QQ vs) else if vs.length < 2 then none
 else if op = 3 then some (Kq 2 (vs.getLast?.getD 0) (vs.head?.getD 0)) else if op = 2 then some (Nc vs) else some (Kq 4 (Nc vs) w)
def foldI (op : Int) (vs : List Int) : Int := if op = 1 then Oc vs else if op = 2 then HS 7 vs else if op = 3 then HS 9 vs else if op = 4 then Kq 4 (Oc vs) (Aq vs.length) else Aq vs.length
def Ks (op a b : Int) : Int × Bool := if 1 ≤ op ∧ op ≤ 4 then (Kq op a b,true) else (if Pz op a b then Aq 1 else Aq 0,Pz op a b)
def FF : Fl := { num := gZ,abs := bL,floor := Vr,whole := Aq,mq := vq,over := MG,fold := foldI,Py := Ks,bD := Kn,cmpL := CR }
structure PU (σ : Hp) (ab : Nat) (ss : List Sr) (t : Int) : Prop where
 ser : ∃ p n c,σ.ld ⟨ab,0,none⟩ = some (.slice p n c) ∧ Ae 2 GL σ p n ss
 at_ : σ.ld ⟨ab,1,none⟩ = some (.int .i64 t)
theorem PU.mono {σ σ' : Hp} {ab : Nat} {ss : List Sr} {t : Int} (h : PU σ ab ss t) (hx : Ext σ σ') : PU σ' ab ss t := ⟨let ⟨p,n,c,h1,h2⟩ := h.ser; ⟨p,n,c,hx.ld h1,h2.mono GL.mono hx⟩,hx.ld h.at_⟩
structure se (ss : List Sr) : Prop where
 ris : ∀ s ∈ ss,Yc s.ps
 sm : ∀ s ∈ ss,Ao s.ls
 len : ss.length ≤ 10000000
structure zu (n : Nd) : Prop where
 mki : ∀ x ∈ n.mt,1 ≤ x.kind ∧ x.kind ≤ 4
 mv : ∀ x ∈ n.mt,x.val.size ≤ 1000000
 back : 0 ≤ n.back ∧ n.back < 2147483648
 width : 0 ≤ n.width ∧ n.width < 2147483648
section
variable {σ σ' σ0 : Hp} {R : Rr}
theorem Ni {n : Nd} {a p q l : Option Addr} {k c m d j e : Nat} (hg : Gl σ) (ht : Ff n.text = true) (h : IH R σ (some ⟨1,gZ n.text,[],[]⟩)) : Spec prog 100 #[.pointer a,Ll n p k c q m d,.slice l j e] σ R :=
 Bj.start fun _ _ => Yo hg ht ⟨_,_,rfl,h.ok _ σ none 0 0 none 0 0 rfl (.refl _) Ae.nil Ae.nil (Nat.le_refl _) (Nat.le_refl _)⟩
theorem HU {n : Nd} {p q : Option Addr} {k c m d : Nat} {a b : Int} (h : R (.returned (.tuple #[.int .u64 (Ks n.op a b).1,.bool (Ks n.op a b).2])) σ) : Spec prog 156 #[Ll n p k c q m d,.int .u64 a,.int .u64 b] σ R := by
 refine PE.start fun _ => Iy ?_
 unfold Ks at h
 by_cases h1 : 1 ≤ n.op ∧ n.op ≤ 4
 · rw [if_pos h1] at h ⊢
   exact ⟨_,_,rfl,fun _ => h,fun hh => (by cases hh)⟩
 · rw [if_neg h1] at h ⊢
   exact ⟨_,_,rfl,fun hh => (by cases hh),fun _ => Iz ⟨_,_,rfl,bO ⟨_,rfl,h⟩⟩⟩
theorem Gd {α β : Type} {f : α → Option β} {xs : List α} {k : Nat} {x : α} (hx : xs[k]? = some x) : (xs.take (k + 1)).filterMap f = (xs.take k).filterMap f ++ (f x).toList := by
 rw [Af hx,List.filterMap_append]
 cases h : f x <;> simp [List.filterMap_cons,h]
theorem Yq {n : Nd} {p q l : Option Addr} {k c m d j e ab : Nat} {ss : List Sr} {t : Int} (hA : PU σ ab ss t) (hg : Gl σ) (hm : Ae 3 N1 σ p k n.mt) (hS : se ss) (hN : zu n) (ht : -4611686018427387904 ≤ t ∧ t ≤ 4611686018427387904)
   (h : IH R σ (some ⟨2,0,Vn FF n ss t,[]⟩)) : Spec prog 101 #[.pointer (some ⟨ab,0,none⟩),Ll n p k c q m d,.slice l j e] σ R := by
 obtain ⟨pss,P0,sf,Ek,hr⟩ := hA.ser
 have hl : ss.length = P0 := hr.1
 have hlen := hS.len
 have hb := hN.back
 let f : Sr → Option El := fun s => match (FC s.ps (t - n.back - 300) (t - n.back)).getLast? with
   | none => none
   | some p => if p.2 = Gy ∨ FF.bD n.mt s.ls = false then none else some ⟨s.ls,p.2⟩
 have hf : Vn FF n ss t = ss.filterMap f := rfl
 rw [hf] at h
 refine Ad.start fun _ _ _ => ⟨ab,0,rfl,pss,P0,sf,Ek,?_⟩
 suffices H : ∀ g i : Nat,∀ p8 n8 c8 σ',P0 - i = g → i ≤ P0 → AV 2 Bp σ σ' p8 n8 c8 ((ss.take i).filterMap f) → Ad.A1 R (aD ab 0) n.kind n.op n.text p k c n.width n.back n.EG q m d n.bool n.parts 0 0 none 0 0 none 0 0 2 0 p8 n8 c8 none 0 0 pss P0 sf P0 i σ' from H P0 0 none 0 0 σ rfl (Nat.zero_le _) (AV.nil (.refl _))
 intro g
 induction g with
 | zero =>
   intro i p8 n8 c8 σ' nU hi ho
   rw [List.take_of_length_le (by omega)] at ho
   exact Ad.Ab ⟨fun Ax => by omega,fun _ => h.ok _ σ' p8 n8 c8 none 0 0 rfl ho.up (ho.rd Bp.mono) Ae.nil (by obtain ⟨cs,WU,_⟩ := ho.1.2; exact A6.cap WU) (Nat.le_refl _)⟩
 | succ g ih =>
   intro i p8 n8 c8 σ' nU hi ho
   have BM : i < P0 := by omega
   obtain ⟨s,hs⟩ := hr.ex BM
   obtain ⟨b,o,p1,n1,c1,q1,m1,d1,rfl,YW,h1,h2,h3⟩ := GL.at hr hs
   have il := hS.sm s (List.mem_of_getElem? hs)
   have zv := hS.ris s (List.mem_of_getElem? hs)
   have hx := ho.up
   have PW : n8 ≤ i := by
     have := ho.1.1
     have h9 := List.length_filterMap_le f (ss.take i)
     rw [List.length_take] at h9
     omega
   have next : ∀ p9 n9 c9 σ2,AV 2 Bp σ σ2 p9 n9 c9 ((ss.take i).filterMap f ++ (f s).toList) → Ad.Ld R (aD ab 0) n.kind n.op n.text p k c n.width n.back n.EG q m d n.bool n.parts 0 0 none 0 0 none 0 0 2 0 p9 n9 c9 none 0 0 (aD b o) P0 sf P0 i σ2 := fun p9 n9 c9 σ2 Ba =>
     Ad.Iq ⟨AN BM hr.big,ih (i + 1) _ _ _ _ (by omega) (by omega) (by rw [Gd hs]; exact Ba)⟩
   refine Ad.Ab ⟨fun _ => ⟨b,o,rfl,by omega,p1,n1,c1,q1,m1,d1,by simpa using YW.mono hx,fun _ => ⟨ab,0,rfl,t,hx.ld hA.at_,by unfold AM; omega,by unfold AM; omega,t,hx.ld hA.at_,by unfold AM; omega,PQ (h2.mono Ey.mono hx) h3 zv fun q2 m2 d2 G4 wC => ⟨q2,m2,d2,rfl,fun h0 => ?_,fun h0 => ?_⟩⟩⟩,fun hh => by omega⟩
   · refine next _ _ _ _ ?_
     have e : f s = none := by
       show (match (FC s.ps (t - n.back - 300) (t - n.back)).getLast? with | none => none | some p => _) = none
       have Uj : (FC s.ps (t - n.back - 300) (t - n.back)).length = m2 := G4.1
       rw [List.length_eq_zero_iff.1 (show (FC s.ps (t - n.back - 300) (t - n.back)).length = 0 by omega)]; rfl
     rw [e]; simpa using ho
   have Uj : (FC s.ps (t - n.back - 300) (t - n.back)).length = m2 := G4.1
   obtain ⟨y,hy⟩ := G4.ex (k := m2 - 1) (by omega)
   obtain ⟨b2,o2,rfl,bI⟩ := Ey.at G4 hy
   have e1 : Int.toNat ((m2 : Int) - 1) = m2 - 1 := by omega
   have Hf := G4.big
   have AGD : (FC s.ps (t - n.back - 300) (t - n.back)).getLast? = some y := by rw [List.getLast?_eq_getElem?,Uj,hy]
   have ef : f s = if y.2 = Gy ∨ Kn n.mt s.ls = false then none else some ⟨s.ls,y.2⟩ := by
     show (match (FC s.ps (t - n.back - 300) (t - n.back)).getLast? with | none => none | some p => _) = _
     rw [AGD]; rfl
   refine ⟨by unfold AM; omega,b2,o2,rfl,by omega,y.2,by rw [e1]; exact bI.2.1,fun CV => ?_,fun CV => Uh ((hg.mono hx)) (hm.mono N1.mono hx) (h1.mono CM.mono hx) hN.mv (fun x hx => by have := (il.2 x hx).2; omega) hN.mki fun σ2 A5 => ⟨_,rfl,fun hf => ?_,fun htr => ?_⟩⟩
   · refine next _ _ _ _ ?_
     rw [ef,if_pos (.inl CV)]; simpa using ho
   · refine next _ _ _ _ ?_
     rw [ef,if_pos (.inr hf)]
     simpa using ho.mono Bp.mono A5
   · refine ⟨by unfold AM; omega,by omega,y.2,by rw [e1]; exact A5.ld bI.2.1,fun zC zw => ?_⟩
     have Ba := ho.mono Bp.mono A5
     have he : Bp (σ2.del p8) [.slice p1 n1 c1,.int .u64 y.2] ⟨s.ls,y.2⟩ := ⟨p1,n1,c1,rfl,h1.mono CM.mono Ba.2⟩
     refine AV.IU Bp.mono Ba rfl (Bp.one _ _ _ he) he (by omega) (fun p' c' σ3 FH _ => ⟨_,_,_,rfl,next _ _ _ _ ?_⟩) zw
     rw [ef,if_neg (by
                        rintro (h5 | h5)
                        · exact CV h5
                        · rw [htr] at h5; cases h5)]
     exact FH
theorem A6.nW {s : Nat} {p q : Option Addr} {n c : Nat} {cs : List Value} (ho : A6 s σ q n c cs) (h : ∀ a,q = some a → ∀ a',p = some a' → a.block ≠ a'.block) : A6 s (σ.del p) q n c cs :=
 ⟨ho.1,ho.2.1,ho.2.2.imp id fun ⟨b',o',arr,T,hp,hb,r⟩ => ⟨b',o',arr,T,hp,AP.2 ⟨fun a' V0 => h _ hp a' V0,hb⟩,r⟩⟩
theorem AV.sep {α : Type} {s : Nat} {E : Hp → List Value → α → Prop} {p q : Option Addr} {n c m d : Nat} {xs : List α} {ys : List Int} (h : AV s E σ0 σ p n c xs) (g : AV 1 (Pa .u64) σ σ' q m d ys) : Ep .u64 (σ'.del p) q m ys ∧ m ≤ d := by
 obtain ⟨⟨_,cs,ho,hc⟩,hx⟩ := g
 have hp := h.1.block
 refine ⟨?_,A6.cap ho⟩
 have Mq := Zn.1 hc
 subst Mq
 refine Ep.Zo (A6.rd (A6.nW ho fun a ha a' V0 e => ?_))
 cases hh : σ a'.block with
 | none => exact hp a' V0 hh
 | some u => exact (AP.1 (hx _ _ hh)).1 a ha e.symm
theorem SS.one (σ : Hp) (vs : List Value) (x : Rg) (h : SS σ vs x) : GF vs := by
 obtain ⟨p,n,c,q,m,d,rfl,_⟩ := h
 intro u hu
 simp only [List.mem_cons,List.not_mem_nil,or_false] at hu
 rcases hu with rfl | rfl <;> rfl
theorem bc {n : Nd} {p q l : Option Addr} {k c m d j e ab : Nat} {ss : List Sr} {t : Int} (hA : PU σ ab ss t) (hg : Gl σ) (hm : Ae 3 N1 σ p k n.mt) (hS : se ss) (hN : zu n) (ht : -4611686018427387904 ≤ t ∧ t ≤ 4611686018427387904) (hpl : ∀ s ∈ ss,s.ps.length ≤ 1000000000)
   (h : IH R σ (some ⟨3,Aq n.width,[],Fy FF n ss t⟩)) : Spec prog 102 #[.pointer (some ⟨ab,0,none⟩),Ll n p k c q m d,.slice l j e] σ R := by
 obtain ⟨pss,P0,sf,Ek,hr⟩ := hA.ser
 have hl : ss.length = P0 := hr.1
 have hlen := hS.len
 have hb := hN.back
 have hw := hN.width
 let fv : Sr → List Int := fun s => ((FC s.ps (t - n.back - n.width) (t - n.back)).filter fun p => decide (p.2 ≠ Gy)).map Prod.snd
 let f : Sr → Option Rg := fun s => bif !(fv s).isEmpty && FF.bD n.mt s.ls then some ⟨s.ls,fv s⟩ else none
 have hf : Fy FF n ss t = ss.filterMap f := rfl
 rw [hf] at h
 refine AS.start fun _ _ => I0 ⟨_,rfl,fun _ => ⟨ab,0,rfl,pss,P0,sf,Ek,?_⟩⟩
 suffices H : ∀ g i : Nat,∀ p8 n8 c8 σ',P0 - i = g → i ≤ P0 → AV 2 SS σ σ' p8 n8 c8 ((ss.take i).filterMap f) → AS.A1 R (aD ab 0) n.kind n.op n.text p k c n.width n.back n.EG q m d n.bool n.parts 0 0 none 0 0 none 0 0 3 (Aq n.width) none 0 0 p8 n8 c8 pss P0 sf P0 i σ' from H P0 0 none 0 0 σ rfl (Nat.zero_le _) (AV.nil (.refl _))
 intro g
 induction g with
 | zero =>
   intro i p8 n8 c8 σ' nU hi ho
   rw [List.take_of_length_le (by omega)] at ho
   exact AS.Ab ⟨fun Ax => by omega,fun _ => h.ok _ σ' none 0 0 p8 n8 c8 rfl ho.up Ae.nil (ho.rd SS.mono) (Nat.le_refl _) (by obtain ⟨cs,WU,_⟩ := ho.1.2; exact A6.cap WU)⟩
 | succ g ih =>
   intro i p8 n8 c8 σ' nU hi ho
   have BM : i < P0 := by omega
   obtain ⟨s,hs⟩ := hr.ex BM
   obtain ⟨b,o,p1,n1,c1,q1,m1,d1,rfl,YW,h1,h2,h3⟩ := GL.at hr hs
   have il := hS.sm s (List.mem_of_getElem? hs)
   have zv := hS.ris s (List.mem_of_getElem? hs)
   have AR3 := hpl s (List.mem_of_getElem? hs)
   have hx := ho.up
   have PW : n8 ≤ i := by
     have := ho.1.1
     have h9 := List.length_filterMap_le f (ss.take i)
     rw [List.length_take] at h9
     omega
   have next : ∀ p9 n9 c9 σ2,AV 2 SS σ σ2 p9 n9 c9 ((ss.take i).filterMap f ++ (f s).toList) → AS.Li R (aD ab 0) n.kind n.op n.text p k c n.width n.back n.EG q m d n.bool n.parts 0 0 none 0 0 none 0 0 3 (Aq n.width) none 0 0 p9 n9 c9 (aD b o) P0 sf P0 i σ2 := fun p9 n9 c9 σ2 Ba =>
     AS.Iu ⟨AN BM hr.big,ih (i + 1) _ _ _ _ (by omega) (by omega) (by rw [Gd hs]; exact Ba)⟩
   refine AS.Ab ⟨fun _ => ⟨b,o,rfl,by omega,p1,n1,c1,q1,m1,d1,by simpa using YW.mono hx,fun _ => ⟨ab,0,rfl,t,hx.ld hA.at_,by unfold AM; omega,by unfold AM; omega,t,hx.ld hA.at_,by unfold AM; omega,PQ (h2.mono Ey.mono hx) h3 zv fun q2 m2 d2 G4 wC => ⟨q2,m2,d2,rfl,?_⟩⟩⟩,fun hh => by omega⟩
   have Uj : (FC s.ps (t - n.back - n.width) (t - n.back)).length = m2 := G4.1
   have hm2 : m2 ≤ 1000000000 := by
     have := List.length_filter_le (fun p : Int × Int => decide (t - n.back - n.width < p.1) && decide (p.1 ≤ t - n.back)) s.ps
     rw [← Uj]; unfold FC; omega
   have hfv : fv s = ((FC s.ps (t - n.back - n.width) (t - n.back)).filter fun p => decide (p.2 ≠ Gy)).map Prod.snd := rfl
   generalize FC s.ps (t - n.back - n.width) (t - n.back) = ps at *
   let gv : Pt → Option Int := fun p => if p.2 ≠ Gy then some p.2 else none
   have hgv : ∀ l : List Pt,((l.filter fun p => decide (p.2 ≠ Gy)).map Prod.snd) = l.filterMap gv := fun l => by
     induction l with
     | nil => rfl
     | cons a l ih =>
       by_cases ha : a.2 ≠ Gy
       · rw [List.filter_cons_of_pos (by simpa using ha),List.map_cons,ih,List.filterMap_cons_some (by show (if a.2 ≠ Gy then some a.2 else none) = some a.2; rw [if_pos ha])]
       · rw [List.filter_cons_of_neg (by simpa using ha),ih,List.filterMap_cons_none (by show (if a.2 ≠ Gy then some a.2 else none) = none; rw [if_neg ha])]
   rw [hgv] at hfv
   suffices H2 : ∀ g2 i2 : Nat,∀ q2' LH n11 LJ σ2,(0 < m2 → q2' = q2) → m2 - i2 = g2 → i2 ≤ m2 → AV 1 (Pa .u64) σ' σ2 LH n11 LJ ((ps.take i2).filterMap gv) → AS.TW R (aD ab 0) n.kind n.op n.text p k c n.width n.back n.EG q m d n.bool n.parts 0 0 none 0 0 none 0 0 3 (Aq n.width) none 0 0 p8 n8 c8 p1 n1 c1 q1 m1 d1 LH n11 LJ (aD b o) P0 sf P0 i q2' m2 d2 m2 i2 σ2 from H2 m2 0 q2 none 0 0 σ' (fun _ => rfl) rfl (Nat.zero_le _) (AV.nil (.refl _))
   intro g2
   induction g2 with
   | zero =>
     intro i2 q2' LH n11 LJ σ2 hq gn hi2 Ba
     rw [List.take_of_length_le (by omega),← hfv] at Ba
     have hlv : (fv s).length = n11 := Ba.1.1
     have WU := ho.mono SS.mono Ba.up
     refine AS.QM ⟨fun Ax => by omega,fun _ => ⟨fun Qd => Uh (hg.mono (hx.trans Ba.up)) (hm.mono N1.mono (hx.trans Ba.up)) (h1.mono CM.mono (hx.trans Ba.up)) hN.mv (fun x hx => by have := (il.2 x hx).2; omega) hN.mki fun σ3 D1 => ⟨_,rfl,fun htr => ?_,fun hfa => ?_⟩,fun Qd => ?_⟩⟩
     · intro b77 AL6
       obtain ⟨hv1,hv2⟩ := ho.sep (Ba.mono (Pa.mono _) D1)
       have FH := WU.mono SS.mono D1
       have he : SS (σ3.del p8) [.slice p1 n1 c1,.slice LH n11 LJ] ⟨s.ls,fv s⟩ := ⟨p1,n1,c1,LH,n11,LJ,rfl,h1.mono CM.mono FH.2,hv1,hv2⟩
       refine AV.IU SS.mono FH rfl (SS.one _ _ _ he) he (by omega) (fun p' c' σ4 Kl _ => ⟨_,_,_,rfl,next _ _ _ _ ?_⟩) AL6
       have ef : f s = some ⟨s.ls,fv s⟩ := by
         show (bif !(fv s).isEmpty && Kn n.mt s.ls then some _ else none) = _
         rw [htr]
         cases hfe : fv s with
         | nil => rw [hfe] at hlv; simp at hlv; omega
         | cons a l => rfl
       rw [ef]; exact Kl
     · refine next _ _ _ _ ?_
       have ef : f s = none := by
         show (bif !(fv s).isEmpty && Kn n.mt s.ls then some _ else none) = _
         rw [hfa,Bool.and_false]; rfl
       rw [ef]; simpa using WU.mono SS.mono D1
     · refine next _ _ _ _ ?_
       have ef : f s = none := by
         show (bif !(fv s).isEmpty && Kn n.mt s.ls then some _ else none) = _
         rw [List.length_eq_zero_iff.1 (show (fv s).length = 0 by omega)]; rfl
       rw [ef]; simpa using WU
   | succ g2 ih2 =>
     intro i2 q2' LH n11 LJ σ2 hq gn hi2 Ba
     have AGG : i2 < m2 := by omega
     obtain ⟨y,hy⟩ := G4.ex AGG
     obtain ⟨b2,o2,qC,bI⟩ := Ey.at G4 hy
     have si : n11 ≤ i2 := by
       have := Ba.1.1
       have h9 := List.length_filterMap_le gv (ps.take i2)
       rw [List.length_take] at h9
       omega
     rw [hq (by omega),qC]
     have nx : ∀ p9 n9 c9 σ3,AV 1 (Pa .u64) σ' σ3 p9 n9 c9 ((ps.take i2).filterMap gv ++ (gv y).toList) → AS.r5 R (aD ab 0) n.kind n.op n.text p k c n.width n.back n.EG q m d n.bool n.parts 0 0 none 0 0 none 0 0 3 (Aq n.width) none 0 0 p8 n8 c8 p1 n1 c1 q1 m1 d1 p9 n9 c9 (aD b o) P0 sf P0 i (aD b2 o2) m2 d2 m2 i2 σ3 := fun p9 n9 c9 σ3 FH =>
       AS.r6 ⟨AN AGG G4.big,ih2 (i2 + 1) _ _ _ _ _ (fun _ => qC.symm) (by omega) (by omega) (by rw [Gd hy]; exact FH)⟩
     refine AS.QM ⟨fun _ => ⟨b2,o2,rfl,by omega,y.1,y.2,by simpa using bI.mono Ba.up,fun _ => ⟨fun A4 => fun b58 AL8 => ?_,fun heq => nx _ _ _ _ ?_⟩⟩,fun hh => by omega⟩
     · refine AV.IU (Pa.mono _) Ba (vs := [.int .u64 y.2]) (x := y.2) rfl (fun u hu => by rw [List.mem_singleton] at hu; subst hu; rfl) rfl (by omega) (fun p' c' σ4 Kl _ => ⟨_,_,_,rfl,nx _ _ _ _ ?_⟩) AL8
       rw [show gv y = some y.2 from if_pos A4]; exact Kl
     · rw [show gv y = none from if_neg (by simpa using heq)]; simpa using Ba
end
end TwW
end
section
namespace TwW
open Go Tw Go.RowKit Go.Proofs.Tryz
def fnT : List (Nat × Nat) := [(226,193),(226,191),(226,189),(224,151),(224,154),(224,152),(224,153),(224,155),(224,185),(224,187)]
def Sk (σ : Hp) (fb : Nat) : Prop := ∀ i g f,fnT[i]? = some (g,f) → ∃ b T,σ.ld ⟨fb,i + 1,none⟩ = some (.func (.func g) #[] #[.pointer (aD b 0)]) ∧ σ b = some (.cells #[.func (.func f) #[] #[]] T (0,0))
theorem Sk.mono {σ σ' : Hp} {fb : Nat} (h : Sk σ fb) (hx : Ext σ σ') : Sk σ' fb := fun i g f hi => let ⟨b,T,h1,h2⟩ := h i g f hi; ⟨b,T,hx.ld h1,hx _ _ h2⟩
section
variable {σ σ' σ0 : Hp} {R : Rr}
theorem Sl (h : ∀ fb σ',Sk (σ.new σ') fb → Ext σ σ' → R (.returned (.slice (aD fb 0) 11 11)) σ') : Spec prog 147 #[] σ R := by
 refine Ki.start ?_
 refine CF.start fun b1 h1 => ⟨_,_,_,rfl,?_⟩
 refine CF.start fun b2 h2 => ⟨_,_,_,rfl,?_⟩
 refine CF.start fun b3 h3 => ⟨_,_,_,rfl,?_⟩
 refine CF.start fun b4 h4 => ⟨_,_,_,rfl,?_⟩
 refine CF.start fun b5 h5 => ⟨_,_,_,rfl,?_⟩
 refine CF.start fun b6 h6 => ⟨_,_,_,rfl,?_⟩
 refine CF.start fun b7 h7 => ⟨_,_,_,rfl,?_⟩
 refine M6.start fun b8 h8 => ⟨_,_,_,rfl,?_⟩
 refine M6.start fun b9 h9 => ⟨_,_,_,rfl,?_⟩
 refine M6.start fun CW SN => ⟨_,_,_,rfl,?_⟩
 intro fb hfb
 have x10 := Ext.set (o := .cells #[.nilFunc,.func (.func 226) #[] #[.pointer (aD CW 0)],.func (.func 226) #[] #[.pointer (aD b9 0)],.func (.func 226) #[] #[.pointer (aD b8 0)],.func (.func 224) #[] #[.pointer (aD b1 0)],.func (.func 224) #[] #[.pointer (aD b2 0)],.func (.func 224) #[] #[.pointer (aD b3 0)],.func (.func 224) #[] #[.pointer (aD b4 0)],.func (.func 224) #[] #[.pointer (aD b5 0)],.func (.func 224) #[] #[.pointer (aD b6 0)],.func (.func 224) #[] #[.pointer (aD b7 0)]] 195 (0,0)) hfb
 have TV := x10 _ _ (Hp.AB _ CW _)
 have x9 := (Ext.set SN).trans x10
 have c9 := x9 _ _ (Hp.AB _ b9 _)
 have x8 := (Ext.set h9).trans x9
 have c8 := x8 _ _ (Hp.AB _ b8 _)
 have x7 := (Ext.set h8).trans x8
 have c7 := x7 _ _ (Hp.AB _ b7 _)
 have x6 := (Ext.set h7).trans x7
 have c6 := x6 _ _ (Hp.AB _ b6 _)
 have x5 := (Ext.set h6).trans x6
 have c5 := x5 _ _ (Hp.AB _ b5 _)
 have x4 := (Ext.set h5).trans x5
 have c4 := x4 _ _ (Hp.AB _ b4 _)
 have x3 := (Ext.set h4).trans x4
 have c3 := x3 _ _ (Hp.AB _ b3 _)
 have x2 := (Ext.set h3).trans x3
 have c2 := x2 _ _ (Hp.AB _ b2 _)
 have x1 := (Ext.set h2).trans x2
 have c1 := x1 _ _ (Hp.AB _ b1 _)
 have x0 := (Ext.set h1).trans x1
 have n1 : σ b1 = none := h1
 have z1 := Ext.set (o := .cells #[.func (.func 151) #[] #[]] 201 (0,0)) h1
 have n2 : σ b2 = none := A7 z1 h2
 have z2 := z1.trans (Ext.set (o := .cells #[.func (.func 154) #[] #[]] 201 (0,0)) h2)
 have n3 : σ b3 = none := A7 z2 h3
 have z3 := z2.trans (Ext.set (o := .cells #[.func (.func 152) #[] #[]] 201 (0,0)) h3)
 have n4 : σ b4 = none := A7 z3 h4
 have z4 := z3.trans (Ext.set (o := .cells #[.func (.func 153) #[] #[]] 201 (0,0)) h4)
 have n5 : σ b5 = none := A7 z4 h5
 have z5 := z4.trans (Ext.set (o := .cells #[.func (.func 155) #[] #[]] 201 (0,0)) h5)
 have n6 : σ b6 = none := A7 z5 h6
 have z6 := z5.trans (Ext.set (o := .cells #[.func (.func 185) #[] #[]] 201 (0,0)) h6)
 have n7 : σ b7 = none := A7 z6 h7
 have z7 := z6.trans (Ext.set (o := .cells #[.func (.func 187) #[] #[]] 201 (0,0)) h7)
 have n8 : σ b8 = none := A7 z7 h8
 have z8 := z7.trans (Ext.set (o := .cells #[.func (.func 189) #[] #[]] 232 (0,0)) h8)
 have n9 : σ b9 = none := A7 z8 h9
 have z9 := z8.trans (Ext.set (o := .cells #[.func (.func 191) #[] #[]] 232 (0,0)) h9)
 have n10 : σ CW = none := A7 z9 SN
 have z10 := z9.trans (Ext.set (o := .cells #[.func (.func 193) #[] #[]] 232 (0,0)) SN)
 have nf : σ fb = none := A7 z10 hfb
 refine h fb _ (fun i g f hi => ?_) x0
 clear x0 x1 x2 x3 x4 x5 x6 x7 x8 x9 x10 z1 z2 z3 z4 z5 z6 z7 z8 z9 z10
 match i,hi with
 | 0,hi => cases hi; exact ⟨CW,_,AU (Aa.2 ⟨nf,Hp.AB _ _ _⟩) rfl,Aa.2 ⟨n10,TV⟩⟩
 | 1,hi => cases hi; exact ⟨b9,_,AU (Aa.2 ⟨nf,Hp.AB _ _ _⟩) rfl,Aa.2 ⟨n9,c9⟩⟩
 | 2,hi => cases hi; exact ⟨b8,_,AU (Aa.2 ⟨nf,Hp.AB _ _ _⟩) rfl,Aa.2 ⟨n8,c8⟩⟩
 | 3,hi => cases hi; exact ⟨b1,_,AU (Aa.2 ⟨nf,Hp.AB _ _ _⟩) rfl,Aa.2 ⟨n1,c1⟩⟩
 | 4,hi => cases hi; exact ⟨b2,_,AU (Aa.2 ⟨nf,Hp.AB _ _ _⟩) rfl,Aa.2 ⟨n2,c2⟩⟩
 | 5,hi => cases hi; exact ⟨b3,_,AU (Aa.2 ⟨nf,Hp.AB _ _ _⟩) rfl,Aa.2 ⟨n3,c3⟩⟩
 | 6,hi => cases hi; exact ⟨b4,_,AU (Aa.2 ⟨nf,Hp.AB _ _ _⟩) rfl,Aa.2 ⟨n4,c4⟩⟩
 | 7,hi => cases hi; exact ⟨b5,_,AU (Aa.2 ⟨nf,Hp.AB _ _ _⟩) rfl,Aa.2 ⟨n5,c5⟩⟩
 | 8,hi => cases hi; exact ⟨b6,_,AU (Aa.2 ⟨nf,Hp.AB _ _ _⟩) rfl,Aa.2 ⟨n6,c6⟩⟩
 | 9,hi => cases hi; exact ⟨b7,_,AU (Aa.2 ⟨nf,Hp.AB _ _ _⟩) rfl,Aa.2 ⟨n7,c7⟩⟩
theorem nX {p : Option Addr} {m c : Nat} {vs : List Int} (hr : Ep .u64 σ p m vs) (h0 : 0 < m) (h : R (.returned (.int .u64 (nrm (vs.getLast?.getD 0)))) σ) : Spec prog 185 #[.slice p m c] σ R := by
 have hl : vs.length = m := hr.1
 have Hf := hr.big
 obtain ⟨z,hz⟩ := hr.ex (k := m - 1) (by omega)
 obtain ⟨b,o,rfl,vr⟩ := Ep.at hr hz
 rw [List.getLast?_eq_getElem?,hl,hz] at h
 exact DC.start ⟨by unfold AM; omega,b,o,rfl,by omega,z,by rw [show Int.toNat ((m : Int) - 1) = m - 1 by omega]; exact vr,Fe ⟨_,rfl,h⟩⟩
theorem nY {p q : Option Addr} {m c j e : Nat} {vs : List Int} (hr : Ep .u64 σ p m vs) (h0 : 0 < m) (h : R (.returned (.int .u64 (Kq 2 (vs.getLast?.getD 0) (vs.head?.getD 0)))) σ) : Spec prog 189 #[.slice p m c,.slice q j e] σ R := by
 have hl : vs.length = m := hr.1
 have Hf := hr.big
 obtain ⟨z,hz⟩ := hr.ex (k := m - 1) (by omega)
 obtain ⟨y,hy⟩ := hr.ex (k := 0) (by omega)
 obtain ⟨b,o,rfl,vr⟩ := Ep.at hr hz
 obtain ⟨_,_,he,bI⟩ := Ep.at hr hy
 cases he
 rw [List.getLast?_eq_getElem?,hl,hz,List.head?_eq_getElem?,hy] at h
 exact DD.start ⟨by unfold AM; omega,b,o,rfl,by omega,z,by rw [show Int.toNat ((m : Int) - 1) = m - 1 by omega]; exact vr,by omega,y,by simpa using bI,YZ ⟨_,rfl,h⟩⟩
theorem gq {n : Nd} {p q r : Option Addr} {k c m d lb lo j e fb u v : Nat} {vs : List Int} {w : Int} (ho : 1 ≤ n.op ∧ n.op ≤ 10) (hF : Sk σ fb) (hr : Ep .u64 σ r u vs) (h0 : 0 < u) (hc : u ≤ v) (hj : 0 < j) (hw : σ.ld ⟨lb,lo + 1,none⟩ = some (.int .u64 w))
   (h : ∀ x ok σ',(MG n.op vs w = some x ∧ ok = true ∨ MG n.op vs w = none ∧ ok = false) → Ext σ σ' → R (.returned (.tuple #[.int .u64 x,.bool ok])) σ') :
   ∃ v58,Hp.ld σ ⟨fb,(0 + Int.toNat n.op * 1),none⟩ = some v58 ∧ ∃ (f63 : Nat) (Kf Kg : Array Value),v58 = .func (.func f63) Kf Kg ∧ Enters prog f63 ∧ Spec prog f63 (Kf ++ #[.slice r u v,Ll n p k c q m d,.slice (some ⟨lb,lo,none⟩) j e] ++ Kg) σ R := by
 have hl : vs.length = u := hr.1
 have always : ∀ (i f : Nat) (x : Int),n.op = i + 1 → fnT[i]? = some (224,f) → MG n.op vs w = some x → Enters prog f → (∀ R' : Rr,(∀ σ',Ext σ σ' → R' (.returned (.int .u64 x)) σ') → Spec prog f #[.slice r u v] σ R') →
     ∃ v58,Hp.ld σ ⟨fb,(0 + Int.toNat n.op * 1),none⟩ = some v58 ∧ ∃ (f63 : Nat) (Kf Kg : Array Value),v58 = .func (.func f63) Kf Kg ∧ Enters prog f63 ∧ Spec prog f63 (Kf ++ #[.slice r u v,Ll n p k c q m d,.slice (some ⟨lb,lo,none⟩) j e] ++ Kg) σ R := fun i f x hi hf hx N6 hs => by
   obtain ⟨b,T,h1,h2⟩ := hF i _ _ hf
   refine ⟨_,by rw [show 0 + Int.toNat n.op * 1 = i + 1 by omega]; exact h1,224,#[],#[.pointer (aD b 0)],rfl,FK.en,FK.start fun _ => ⟨_,AU h2 rfl,f,#[],#[],rfl,N6,hs _ fun σ' YM => ⟨_,rfl,h x true σ' (.inl ⟨hx,rfl⟩) YM⟩⟩⟩
 have two : ∀ (i f : Nat) (x : Int),n.op = i + 1 → fnT[i]? = some (226,f) → (MG n.op vs w = if vs.length < 2 then none else some x) → Enters prog f → (2 ≤ u → ∀ R' : Rr,R' (.returned (.int .u64 x)) σ → Spec prog f #[.slice r u v,.slice (some ⟨lb,lo,none⟩) j e] σ R') →
     ∃ v58,Hp.ld σ ⟨fb,(0 + Int.toNat n.op * 1),none⟩ = some v58 ∧ ∃ (f63 : Nat) (Kf Kg : Array Value),v58 = .func (.func f63) Kf Kg ∧ Enters prog f63 ∧ Spec prog f63 (Kf ++ #[.slice r u v,Ll n p k c q m d,.slice (some ⟨lb,lo,none⟩) j e] ++ Kg) σ R := fun i f x hi hf hx N6 hs => by
   obtain ⟨b,T,h1,h2⟩ := hF i _ _ hf
   refine ⟨_,by rw [show 0 + Int.toNat n.op * 1 = i + 1 by omega]; exact h1,226,#[],#[.pointer (aD b 0)],rfl,Ip.en,Ip.start fun _ => ⟨fun Ax => h 0 false σ (.inr ⟨by rw [hx,if_pos (by omega)],rfl⟩) (.refl _),fun gE => ⟨_,AU h2 rfl,f,#[],#[],rfl,N6,hs (by omega) _ ⟨_,rfl,h x true σ (.inl ⟨by rw [hx,if_neg (by omega)],rfl⟩) (.refl _)⟩⟩⟩⟩
 have nS : n.op = 1 ∨ n.op = 2 ∨ n.op = 3 ∨ n.op = 4 ∨ n.op = 5 ∨ n.op = 6 ∨ n.op = 7 ∨ n.op = 8 ∨ n.op = 9 ∨ n.op = 10 := by omega
 rcases nS with e1 | e1 | e1 | e1 | e1 | e1 | e1 | e1 | e1 | e1
 · exact two 0 _ (Kq 4 (Nc vs) w) e1 rfl (by rw [e1]; rfl) DK.en fun h2 R' LM => DK.start ⟨lb,lo,rfl,by omega,w,hw,SZ hr h0 ⟨_,rfl,Kp.Dr (.refl _),Ya ⟨_,rfl,LM⟩⟩⟩
 · exact two 1 _ (Nc vs) e1 rfl (by rw [e1]; rfl) DG.en fun h2 R' LM => DG.start (SZ hr h0 ⟨_,rfl,LM⟩)
 · exact two 2 _ (Kq 2 (vs.getLast?.getD 0) (vs.head?.getD 0)) e1 rfl (by rw [e1]; rfl) DD.en fun h2 R' LM => nY hr h0 LM
 · exact always 3 _ (Oc vs) e1 rfl (by rw [e1]; rfl) FY.en fun R' LM => SX hr h0 hc (LM σ (.refl _))
 · exact always 4 _ (Kq 4 (Oc vs) (Aq vs.length)) e1 rfl (by rw [e1]; rfl) EZ.en fun R' LM => Na hr h0 hc (by rw [← hl]; exact LM σ (.refl _))
 · exact always 5 _ (HS 7 vs) e1 rfl (by rw [e1]; rfl) Gs.en fun R' LM => SY hr h0 hc (LM σ (.refl _))
 · exact always 6 _ (HS 9 vs) e1 rfl (by rw [e1]; rfl) Dc.en fun R' LM => MF hr h0 hc (LM σ (.refl _))
 · exact always 7 _ (Aq vs.length) e1 rfl (by rw [e1]; rfl) Gm.en fun R' LM => Mh (by rw [← hl]; exact LM σ (.refl _))
 · exact always 8 _ (nrm (vs.getLast?.getD 0)) e1 rfl (by rw [e1]; rfl) DC.en fun R' LM => nX hr h0 (LM σ (.refl _))
 · exact always 9 _ (QQ vs) e1 rfl (by rw [e1]; rfl) BJ.en fun R' LM => Td hr h0 hc LM
end
end TwW
end
section
namespace TwW
open Go Tw Go.RowKit Go.Proofs.Tryz
theorem Spec.nZ {P : Program} {f : FuncId} {args : Array Value} {R : Ending → Prop} {σ0 : Hp} (h : @Spec ⟨True⟩ P f args σ0 (fun e σ' => R e ∧ Ext σ0 σ')) {w : World} (hs : Sat σ0 w) :
   Calls P f args w (fun e w' => R e ∧ ∃ q os,w' = { w with heap := w.heap ++ os,drawn := w.drawn + q }) := by
 refine (h w (fun b => b < w.heap.size ∧ σ0 b = none) hs (fun b hb => hb)).mono ?_
 rintro e w' ⟨σ,⟨hr,hx⟩,hf⟩
 refine ⟨hr,?_⟩
 obtain ⟨h1,h2,h30⟩ := @Fin.os ⟨True⟩ _ _ _ _ hf
 have hfp := @Fin.BW ⟨True⟩ _ _ _ _ hf
 have hfs := @Fin.sat ⟨True⟩ _ _ _ _ hf
 have hfg := @Fin.grow ⟨True⟩ _ _ _ _ hf
 have hfo := @Fin.out ⟨True⟩ _ _ _ _ hf
 obtain ⟨q,h3⟩ := h30 trivial
 refine ⟨q,w'.heap.extract w.heap.size w'.heap.size,?_⟩
 have hh : w'.heap = w.heap ++ w'.heap.extract w.heap.size w'.heap.size := by
   apply Array.ext_getElem?
   intro i
   rw [Array.getElem?_append]
   split
   · rename_i hi
     cases hσ : σ0 i with
     | none => exact (hfp i ⟨hi,hσ⟩).2
     | some o => exact (hfs i o (hx i o hσ)).trans (hs i o hσ).symm
   · rename_i hi
     rw [Array.getElem?_extract]
     have := hfg
     split
     · congr 1; omega
     · rename_i h2
       exact Array.getElem?_eq_none (by omega)
 cases w with
 | mk heap tape drawn os output =>
   cases w' with
   | mk APO APP AMA os' AIT =>
     have h4 := hfo
     simp only at h1 h2 h3 h4 hh ⊢
     subst h1 h2 h3 h4
     rw [← hh]
theorem Sm {α : Type} {enc : α → List Value} {k : Nat} (hk : ∀ x,(enc x).length = k) (h0 : 0 < k) : ∀ (xs : List α) (j : Nat),(xs.flatMap enc)[j]? = (xs[j / k]?).bind fun x => (enc x)[j % k]?
 | [],j => by simp
 | x :: xs,j => by
   rw [List.flatMap_cons,List.getElem?_append,hk]
   by_cases hj : j < k
   · rw [if_pos hj,Nat.div_eq_of_lt hj,Nat.mod_eq_of_lt hj]; simp
   · rw [if_neg hj,Sm hk h0 xs,show j / k = (j - k) / k + 1 by rw [← Nat.add_div_right _ h0]; congr 1; omega,show (j - k) % k = j % k by rw [Nat.mod_eq_sub_mod (by omega : j ≥ k)]]
     simp
theorem Om {α : Type} {enc : α → List Value} {k : Nat} (hk : ∀ x,(enc x).length = k) : ∀ (xs : List α),(xs.flatMap enc).length = xs.length * k
 | [] => by simp
 | x :: xs => by rw [List.flatMap_cons,List.length_append,Om hk xs,hk,List.length_cons,Nat.add_mul]; omega
theorem Uk {α : Type} [Inhabited α] {enc : α → List Value} (hk : ∀ x,(enc x).length = 2) (d : List α) (j : Nat) (hj : j < d.length * 2) : (d.flatMap enc)[j]? = some (Sort.flatK enc 2 d.toArray)[j]! := by
 rw [Sm (k := 2) hk (by decide),Sort.get_flatK _ _ _ _ (by simpa using hj)]
 have Ax : j / 2 < d.length := by omega
 rw [List.getElem?_eq_getElem Ax]
 have h2 : j % 2 < (enc d[j / 2]).length := by rw [hk]; exact Nat.mod_lt _ (by decide)
 simp only [Option.bind_some]
 rw [List.getElem?_eq_getElem h2]
 have e1 : d.toArray[j / 2]! = d[j / 2] := by simp [Ax]
 rw [e1,getElem!_pos (enc d[j / 2]) (j % 2) h2]
theorem V1 (F arr : Array Value) (o j : Nat) : (Sort.putCells id o F arr)[j]? = if o ≤ j ∧ j < o + F.size then (arr[j]?).map fun _ => F[j - o]! else arr[j]? := by
 simp only [Sort.putCells,Array.getElem?_mapIdx,id]
 by_cases h : o ≤ j ∧ j < o + F.size
 · rw [if_pos h]; simp [h]
 · rw [if_neg h]
   cases arr[j]? with
   | none => rfl
   | some v => simp only [Option.map_some]; rw [if_neg h]
section
variable {σ : Hp} {R : Rr}
theorem eJ {ρ : Go.Shelf.Ren} (L : Go.Proofs.SlLaysF0.n6 prog ρ) (aE : ∀ w,(isAgg (ρ.t 24)).run prog w = .ok true w) (zE : ∀ w,(Go.sizeOf (ρ.t 24)).run prog w = .ok 2 w) {α : Type} [Inhabited α] {enc : α → List Value} (hk : ∀ x,(enc x).length = 2) (h1 : ∀ x,∀ v ∈ enc x,v.oneCell' = true) {cf : α → α → Int} (hO : Sort.SWO (Proofs.ltOf cf)) {g : Nat}
   (eg : ∀ args w,(callFunc g args).run prog w = .ok (.enter g args) w) {b o m d : Nat} {ds : List α} (ho : A6 2 σ (some ⟨b,o,none⟩) m d (ds.flatMap enc)) (hm : ds.length = m) (hm0 : m ≠ 0) (HY : m < 4611686018427387904)
   (sL : ∀ w,Sat (σ.del (some ⟨b,o,none⟩)) w → ∀ x y,Calls prog g #[.agg (enc x).toArray,.agg (enc y).toArray] w fun e w' => e = .returned (.int .i64 (cf x y)) ∧ ∃ n os,w' = Sort.grow (w.drewN n) os)
   (h : ∀ (σ' : Hp) (ds' : List α),ds'.Perm ds → ds'.Pairwise (fun x y => Proofs.ltOf cf y x = false) → A6 2 σ' (some ⟨b,o,none⟩) m d (ds'.flatMap enc) → Ext (σ.del (some ⟨b,o,none⟩)) (σ'.del (some ⟨b,o,none⟩)) → R (.returned (.tuple #[])) σ') :
   Spec prog (ρ.f 6) #[.slice (some ⟨b,o,none⟩) m d,.func (.func g) #[] #[]] σ R := by
 intro w F hs hF
 obtain ⟨arr,T,hb,hw,wC,qN,Mq⟩ : ∃ arr T,σ b = some (.cells arr T (0,0)) ∧ w.heap[b]? = some (.cells arr T (0,0)) ∧ m ≤ d ∧ o + d * 2 ≤ arr.size ∧ (arr.toList.drop o).take (m * 2) = ds.flatMap enc := by
   rcases ho.2.2 with ⟨h1,h2,_⟩ | ⟨b',o',arr,T,hp,hb,wC,HY,Mq⟩
   · exact absurd h2 hm0
   · cases hp
     exact ⟨arr,T,hb,hs _ _ hb,wC,HY,Mq⟩
 have AGH : ∀ j,j < m * 2 → arr[o + j]? = some (Sort.flatK enc 2 ds.toArray)[j]! := fun j hj => by
   rw [← Uk hk ds j (by omega),← Mq,List.getElem?_take,if_pos hj,List.getElem?_drop,Array.getElem?_toList]
 have hH : Sort.HoldsK enc 2 w b o ds.toArray := fun j hj => by
   have Qc : j < m * 2 := by simpa [hm] using hj
   refine ⟨?_,by simp [World.frozen?,hw]⟩
   simp only [World.cell?,hw,id]
   simpa using AGH j Qc
 have hblk : b < w.heap.size := (Array.getElem?_eq_some_iff.1 hw).1
 have Mw : ∀ (n : Nat) (dk : Array α) (os : Array Obj) k,(Proofs.sortWorldK enc 2 w b o n dk os).heap[k]? = if k < w.heap.size then (if b = k then (w.heap[k]?).map (Sort.onCells (Sort.putCells id o (Sort.flatK enc 2 dk))) else w.heap[k]?) else os[k - w.heap.size]? := fun n dk os k => by
   simp only [Proofs.sortWorldK,Sort.grow,Sort.putRowK,Sort.putRow,Sort.mapBlock,Sort.ahead,Array.getElem?_append,Array.size_modify,Array.getElem?_modify]
 have hcm : Proofs.CmpLays prog g #[] enc 2 cf b o ds.toArray.size w := fun n os dk _ x y => sL _ (fun k u hk => by
   obtain ⟨GG,hku⟩ := AP.1 hk
   have AMC : b ≠ k := fun e => GG _ rfl e.symm
   have := hs k u hku
   rw [Mw,if_pos (Array.getElem?_eq_some_iff.1 this).1,if_neg AMC]; exact this) x y
 have AGI := Proofs.AnyQ.slices_SortFunc L 2 aE zE enc hk h1 cf hO g #[] b o d ds.toArray w eg hcm hH hblk (by simpa [hm] using HY)
 rw [show ds.toArray.size = m by simpa using hm] at AGI
 refine AGI.mono ?_
 rintro e w' ⟨rfl,d',n,os,AGJ,AGK,rfl⟩
 obtain ⟨hp1,_,hp3⟩ := AGJ
 have zx : d'.size = m := by rw [hp1]; simpa using hm
 have hP : d'.toList.Perm ds := by
   rw [show m = d'.size from zx.symm] at hp3
   rw [Array.extract_size] at hp3
   rw [show d'.size = ds.toArray.size from hp1,Array.extract_size] at hp3
   exact hp3
 have WM : d'.toList.length = m := by simpa using zx
 have hF2 : (Sort.flatK enc 2 d').size = m * 2 := by simp [zx]
 have qD : d'.toList.Pairwise (fun x y => Proofs.ltOf cf y x = false) := List.pairwise_iff_getElem.2 fun i j hi hj ca => by
   have Qc : j < d'.size := by simpa using hj
   have BM : i < d'.size := by simpa using hi
   have := AGK i j (Nat.zero_le _) ca (by omega)
   rw [getElem!_pos d' j Qc,getElem!_pos d' i BM] at this
   simpa using this
 have aL : ((Sort.putCells id o (Sort.flatK enc 2 d') arr).toList.drop o).take (m * 2) = d'.toList.flatMap enc := by
   refine List.ext_getElem? fun j => ?_
   rw [List.getElem?_take]
   by_cases hj : j < m * 2
   · have := Uk hk d'.toList j (by omega)
     rw [if_pos hj,List.getElem?_drop,Array.getElem?_toList,V1,if_pos (by omega),this,AGH j hj]
     simp
   · rw [if_neg hj,List.getElem?_eq_none (by rw [Om (k := 2) hk,WM]; omega)]
 refine ⟨σ.set b (.cells (Sort.putCells id o (Sort.flatK enc 2 d') arr) T (0,0)),h _ d'.toList hP qD ⟨by rw [Om (k := 2) hk,WM],by have := ho.2.1; omega,.inr ⟨b,o,_,T,rfl,Hp.AB _ _ _,wC,by simpa [Sort.putCells] using qN,aL⟩⟩ (by rw [Hp.IT]; exact Ext.refl _),?_⟩
 · refine ⟨fun k u hk => ?_,fun k hk => ?_,⟨rfl,rfl,fun _ => ⟨n,rfl⟩⟩,rfl,by simp [Proofs.sortWorldK,Sort.grow,Sort.putRowK,Sort.putRow,Sort.mapBlock,Sort.ahead]⟩
   · rw [Mw]
     by_cases GG : k = b
     · subst GG
       rw [Hp.AB] at hk; cases hk
       rw [if_pos hblk,if_pos rfl,hw]; rfl
     · rw [Hp.AI GG] at hk
       have := hs k u hk
       rw [if_pos (Array.getElem?_eq_some_iff.1 this).1,if_neg (Ne.symm GG)]; exact this
   · have GG : k ≠ b := fun e => by have := (hF k hk).2; rw [e,hb] at this; cases this
     refine ⟨by rw [Hp.AI GG]; exact (hF k hk).2,?_⟩
     rw [Mw,if_pos (hF k hk).1,if_neg (Ne.symm GG)]
end
end TwW
end
section
namespace Go.Proofs
open Go.Shelf
def Tryz.Sn : Go.Shelf.Ren := ⟨fun | 6 => 195 | 15 => 74 | 14 => 227 | 28 => 117 | 29 => 118 | 20 => 242 | 21 => 243 | 22 => 244 | 23 => 245 | 24 => 246 | 25 => 247 | 26 => 248 | 27 => 249 | 46 => 264 | 47 => 164 | 48 => 165 | 49 => 265 | 50 => 266 | 57 => 293 | n => n,fun | 22 => 67 | 24 => 71 | 25 => 234 | 3 => 3 | 39 => 141 | 0 => 0 | 53 => 168 | 55 => 48 | 4 => 4 | 46 => 162 | 45 => 161 | 50 => 102 | 5 => 5 | 9 => 9 | 66 => 207 | 70 => 211 | 76 => 248 | 77 => 249 | n => n,fun | n => n⟩
theorem Tryz.na : Go.Proofs.SlLaysF0.n6 Tryz.prog Tryz.Sn := {
 mixed := by kernel_rfl
 f6 := ⟨Tryz.f195.name,by decide,Tryz.func195.trans (congrArg some (by kernel_rfl))⟩
 f14 := ⟨Tryz.f227.name,by decide,Tryz.func227.trans (congrArg some (by kernel_rfl))⟩
 f15 := Tryz.func74.trans (congrArg some (by kernel_rfl))
 f20 := ⟨Tryz.f242.name,by decide,Tryz.func242.trans (congrArg some (by kernel_rfl))⟩
 f21 := ⟨Tryz.f243.name,by decide,Tryz.func243.trans (congrArg some (by kernel_rfl))⟩
 f22 := ⟨Tryz.f244.name,by decide,Tryz.func244.trans (congrArg some (by kernel_rfl))⟩
 f23 := ⟨Tryz.f245.name,by decide,Tryz.func245.trans (congrArg some (by kernel_rfl))⟩
 f24 := ⟨Tryz.f246.name,by decide,Tryz.func246.trans (congrArg some (by kernel_rfl))⟩
 f25 := ⟨Tryz.f247.name,by decide,Tryz.func247.trans (congrArg some (by kernel_rfl))⟩
 f26 := ⟨Tryz.f248.name,by decide,Tryz.func248.trans (congrArg some (by kernel_rfl))⟩
 f27 := ⟨Tryz.f249.name,by decide,Tryz.func249.trans (congrArg some (by kernel_rfl))⟩
 f28 := Tryz.func117.trans (congrArg some (by kernel_rfl))
 f29 := Tryz.func118.trans (congrArg some (by kernel_rfl))
 f46 := ⟨Tryz.f264.name,by decide,Tryz.func264.trans (congrArg some (by kernel_rfl))⟩
 f47 := Tryz.func164.trans (congrArg some (by kernel_rfl))
 f48 := Tryz.func165.trans (congrArg some (by kernel_rfl))
 f49 := ⟨Tryz.f265.name,by decide,Tryz.func265.trans (congrArg some (by kernel_rfl))⟩
 f50 := ⟨Tryz.f266.name,by decide,Tryz.func266.trans (congrArg some (by kernel_rfl))⟩
 f57 := ⟨Tryz.f293.name,by decide,Tryz.func293.trans (congrArg some (by kernel_rfl))⟩
 t0 := Tryz.underlying0
 a0 := Tryz.isAgg0
 z0 := Tryz.sizeOf0
 v0 := Tryz.zeroValue0
 t3 := Tryz.underlying3
 a3 := Tryz.isAgg3
 z3 := Tryz.sizeOf3
 v3 := Tryz.zeroValue3
 t4 := Tryz.underlying4
 a4 := Tryz.isAgg4
 z4 := Tryz.sizeOf4
 v4 := Tryz.zeroValue4
 t5 := Tryz.underlying5
 a5 := Tryz.isAgg5
 z5 := Tryz.sizeOf5
 v5 := Tryz.zeroValue5
 t9 := Tryz.underlying9
 a9 := Tryz.isAgg9
 z9 := Tryz.sizeOf9
 v9 := Tryz.zeroValue9
 t22 := Tryz.underlying67
 a22 := Tryz.isAgg67
 z22 := Tryz.sizeOf67
 v22 := Tryz.zeroValue67
 t25 := Tryz.underlying234
 a25 := Tryz.isAgg234
 z25 := Tryz.sizeOf234
 v25 := Tryz.zeroValue234
 t39 := Tryz.underlying141
 a39 := Tryz.isAgg141
 z39 := Tryz.sizeOf141
 v39 := Tryz.zeroValue141
 t45 := Tryz.underlying161
 a45 := Tryz.isAgg161
 z45 := Tryz.sizeOf161
 v45 := Tryz.zeroValue161
 t46 := Tryz.underlying162
 a46 := Tryz.isAgg162
 z46 := Tryz.sizeOf162
 v46 := Tryz.zeroValue162
 t50 := Tryz.underlying102
 a50 := Tryz.isAgg102
 z50 := Tryz.sizeOf102
 v50 := Tryz.zeroValue102
 t53 := Tryz.underlying168
 a53 := Tryz.isAgg168
 z53 := Tryz.sizeOf168
 v53 := Tryz.zeroValue168
 t55 := Tryz.underlying48
 a55 := Tryz.isAgg48
 z55 := Tryz.sizeOf48
 v55 := Tryz.zeroValue48
 t66 := Tryz.underlying207
 a66 := Tryz.isAgg207
 z66 := Tryz.sizeOf207
 v66 := Tryz.zeroValue207
 t70 := Tryz.underlying211
 a70 := Tryz.isAgg211
 z70 := Tryz.sizeOf211
 v70 := Tryz.zeroValue211
 t76 := Tryz.underlying248
 a76 := Tryz.isAgg248
 z76 := Tryz.sizeOf248
 v76 := Tryz.zeroValue248
 t77 := Tryz.underlying249
 a77 := Tryz.isAgg249
 z77 := Tryz.sizeOf249
 v77 := Tryz.zeroValue249 }
def Tryz.Sp : Go.Shelf.Ren := ⟨fun | 6 => 50 | 15 => 74 | 14 => 73 | 28 => 117 | 29 => 118 | 20 => 109 | 21 => 110 | 22 => 111 | 23 => 112 | 24 => 113 | 25 => 114 | 26 => 115 | 27 => 116 | 46 => 163 | 47 => 164 | 48 => 165 | 49 => 166 | 50 => 167 | 57 => 208 | n => n,fun | 22 => 23 | 24 => 40 | 25 => 106 | 3 => 3 | 39 => 141 | 0 => 0 | 53 => 168 | 55 => 48 | 4 => 4 | 46 => 162 | 45 => 161 | 50 => 102 | 5 => 5 | 9 => 9 | 66 => 207 | 70 => 211 | 76 => 248 | 77 => 249 | n => n,fun | n => n⟩
theorem Tryz.zy : Go.Proofs.SlLaysF0.n6 Tryz.prog Tryz.Sp := {
 mixed := by kernel_rfl
 f6 := ⟨Tryz.f50.name,by decide,Tryz.func50.trans (congrArg some (by kernel_rfl))⟩
 f14 := ⟨Tryz.f73.name,by decide,Tryz.func73.trans (congrArg some (by kernel_rfl))⟩
 f15 := Tryz.func74.trans (congrArg some (by kernel_rfl))
 f20 := ⟨Tryz.f109.name,by decide,Tryz.func109.trans (congrArg some (by kernel_rfl))⟩
 f21 := ⟨Tryz.f110.name,by decide,Tryz.func110.trans (congrArg some (by kernel_rfl))⟩
 f22 := ⟨Tryz.f111.name,by decide,Tryz.func111.trans (congrArg some (by kernel_rfl))⟩
 f23 := ⟨Tryz.f112.name,by decide,Tryz.func112.trans (congrArg some (by kernel_rfl))⟩
 f24 := ⟨Tryz.f113.name,by decide,Tryz.func113.trans (congrArg some (by kernel_rfl))⟩
 f25 := ⟨Tryz.f114.name,by decide,Tryz.func114.trans (congrArg some (by kernel_rfl))⟩
 f26 := ⟨Tryz.f115.name,by decide,Tryz.func115.trans (congrArg some (by kernel_rfl))⟩
 f27 := ⟨Tryz.f116.name,by decide,Tryz.func116.trans (congrArg some (by kernel_rfl))⟩
 f28 := Tryz.func117.trans (congrArg some (by kernel_rfl))
 f29 := Tryz.func118.trans (congrArg some (by kernel_rfl))
 f46 := ⟨Tryz.f163.name,by decide,Tryz.func163.trans (congrArg some (by kernel_rfl))⟩
 f47 := Tryz.func164.trans (congrArg some (by kernel_rfl))
 f48 := Tryz.func165.trans (congrArg some (by kernel_rfl))
 f49 := ⟨Tryz.f166.name,by decide,Tryz.func166.trans (congrArg some (by kernel_rfl))⟩
 f50 := ⟨Tryz.f167.name,by decide,Tryz.func167.trans (congrArg some (by kernel_rfl))⟩
 f57 := ⟨Tryz.f208.name,by decide,Tryz.func208.trans (congrArg some (by kernel_rfl))⟩
 t0 := Tryz.underlying0
 a0 := Tryz.isAgg0
 z0 := Tryz.sizeOf0
 v0 := Tryz.zeroValue0
 t3 := Tryz.underlying3
 a3 := Tryz.isAgg3
 z3 := Tryz.sizeOf3
 v3 := Tryz.zeroValue3
 t4 := Tryz.underlying4
 a4 := Tryz.isAgg4
 z4 := Tryz.sizeOf4
 v4 := Tryz.zeroValue4
 t5 := Tryz.underlying5
 a5 := Tryz.isAgg5
 z5 := Tryz.sizeOf5
 v5 := Tryz.zeroValue5
 t9 := Tryz.underlying9
 a9 := Tryz.isAgg9
 z9 := Tryz.sizeOf9
 v9 := Tryz.zeroValue9
 t22 := Tryz.underlying23
 a22 := Tryz.isAgg23
 z22 := Tryz.sizeOf23
 v22 := Tryz.zeroValue23
 t25 := Tryz.underlying106
 a25 := Tryz.isAgg106
 z25 := Tryz.sizeOf106
 v25 := Tryz.zeroValue106
 t39 := Tryz.underlying141
 a39 := Tryz.isAgg141
 z39 := Tryz.sizeOf141
 v39 := Tryz.zeroValue141
 t45 := Tryz.underlying161
 a45 := Tryz.isAgg161
 z45 := Tryz.sizeOf161
 v45 := Tryz.zeroValue161
 t46 := Tryz.underlying162
 a46 := Tryz.isAgg162
 z46 := Tryz.sizeOf162
 v46 := Tryz.zeroValue162
 t50 := Tryz.underlying102
 a50 := Tryz.isAgg102
 z50 := Tryz.sizeOf102
 v50 := Tryz.zeroValue102
 t53 := Tryz.underlying168
 a53 := Tryz.isAgg168
 z53 := Tryz.sizeOf168
 v53 := Tryz.zeroValue168
 t55 := Tryz.underlying48
 a55 := Tryz.isAgg48
 z55 := Tryz.sizeOf48
 v55 := Tryz.zeroValue48
 t66 := Tryz.underlying207
 a66 := Tryz.isAgg207
 z66 := Tryz.sizeOf207
 v66 := Tryz.zeroValue207
 t70 := Tryz.underlying211
 a70 := Tryz.isAgg211
 z70 := Tryz.sizeOf211
 v70 := Tryz.zeroValue211
 t76 := Tryz.underlying248
 a76 := Tryz.isAgg248
 z76 := Tryz.sizeOf248
 v76 := Tryz.zeroValue248
 t77 := Tryz.underlying249
 a77 := Tryz.isAgg249
 z77 := Tryz.sizeOf249
 v77 := Tryz.zeroValue249 }
end Go.Proofs
end
section
namespace TwW
open Go Tw Go.RowKit Go.Proofs.Tryz
section
variable {σ σ' σ0 : Hp} {R : Rr}
theorem AMD {α : Type} {f : α → List Lb} : Sort.SWO (Proofs.ltOf fun x y => CR (f x) (f y)) where
 irrefl x := by
   have h1 : CR (f x) (f x) = 0 := (A2.eq _ _).2 rfl
   exact decide_eq_false (by show ¬ CR (f x) (f x) < 0; omega)
 trans x y z h1 h2 := by
   unfold Proofs.ltOf at *
   exact decide_eq_true (A2.trans _ _ _ (of_decide_eq_true h1) (of_decide_eq_true h2))
 ntrans x y z h1 h2 := by
   unfold Proofs.ltOf at *
   have h1 := of_decide_eq_false h1
   have h2 := of_decide_eq_false h2
   dsimp only at h1 h2
   refine decide_eq_false fun h3 => ?_
   dsimp only at h3
   rcases Int.lt_trichotomy (CR (f x) (f y)) 0 with h | h | h
   · exact h1 h
   · rw [(A2.eq _ _).1 h] at h3; exact h2 h3
   · have h4 := (A2.Vp _ _).2 h
     exact h2 (A2.trans _ _ _ h4 h3)
theorem ng {cs : List Value} {m : Nat} (h : cs.length = m * 2) : (List.finRange m).flatMap (fun i => (cs.drop (i.1 * 2)).take 2) = cs := by
 have hk : ∀ i : Fin m,((cs.drop (i.1 * 2)).take 2).length = 2 := fun i => by
   have := i.2
   rw [List.length_take,List.length_drop]; omega
 refine List.ext_getElem? fun j => ?_
 rw [Sm hk (by decide)]
 by_cases hj : j < m * 2
 · have Ax : j / 2 < m := by omega
   rw [List.getElem?_eq_getElem (by rw [List.length_finRange]; exact Ax)]
   simp only [List.getElem_finRange,Option.bind_some,Fin.val_cast]
   rw [List.getElem?_take,if_pos (Nat.mod_lt _ (by decide)),List.getElem?_drop]
   congr 1
   omega
 · rw [List.getElem?_eq_none (by rw [List.length_finRange]; omega),List.getElem?_eq_none (by omega)]; rfl
theorem eM {α : Type} {enc : α → List Value} (hk : ∀ x,(enc x).length = 2) : ∀ (xs : List α) (i : Nat) (x : α),xs[i]? = some x → ((xs.flatMap enc).drop (i * 2)).take 2 = enc x
 | [],i,x,h => by simp at h
 | a :: xs,0,x,h => by
   simp only [List.getElem?_cons_zero,Option.some.injEq] at h
   subst h
   rw [List.flatMap_cons,Nat.zero_mul,List.drop_zero,← hk a,List.take_left]
 | a :: xs,i + 1,x,h => by
   rw [List.flatMap_cons,show (i + 1) * 2 = (enc a).length + i * 2 by rw [hk]; omega,List.drop_append]
   simp only [Nat.add_sub_cancel_left,List.drop_eq_nil_of_le (Nat.le_add_right _ _),List.nil_append]
   exact eM hk xs i x (by simpa using h)
theorem sj {α : Type} (l : List α) {n : Nat} (hn : l.length = n) : (List.finRange n).map (fun i => l[i.1]'(by rw [hn]; exact i.2)) = l := by
 subst hn
 refine List.ext_getElem (by simp) fun i h1 h2 => ?_
 simp
theorem gu {l : List El} (h : ∀ i a b,l[i]? = some a → l[i + 1]? = some b → CR a.ls b.ls < 0) : l.Pairwise fun a b => CR a.ls b.ls < 0 := by
 rw [List.pairwise_iff_getElem]
 intro i j hi hj ca
 induction j with
 | zero => omega
 | succ j ih =>
   have hs := h j l[j] l[j + 1] (List.getElem?_eq_getElem _) (List.getElem?_eq_getElem _)
   by_cases he : i = j
   · subst he; exact hs
   · exact A2.trans _ _ _ (ih (by omega) (by omega)) hs
theorem nh : DL FF [] = some [] := by unfold DL; rw [if_pos List.Pairwise.nil]; rfl
theorem EB {p : Option Addr} {n c : Nat} {l : List El} (ho : AV 2 Bp σ0 σ p n c l) (hn : n ≤ 1000000000000) (h : IH R σ0 ((DL FF l).map fun l => ⟨2,0,l,[]⟩)) : Spec prog 148 #[.slice p n c] σ R := by
 have qF := ho.up
 obtain ⟨⟨hl,cs,WU,hc⟩,hx⟩ := ho
 refine D9.start fun _ => ?_
 by_cases h0 : n = 0
 · subst h0
   have sF : l = [] := List.length_eq_zero_iff.1 hl
   subst sF
   rw [nh] at h
   refine Spec.same (v := .tuple #[]) (fun w _ => Go.Proofs.AnyF.slices_SortFunc_none Go.Proofs.Tryz.na p c _ w) ⟨rfl,D9.Ay ⟨fun Ax => by omega,fun _ => ?_⟩⟩
   exact h.ok _ σ p 0 c none 0 0 rfl qF Ae.nil Ae.nil (Nat.zero_le _) (Nat.le_refl _)
 obtain ⟨b,o,rfl⟩ : ∃ b o,p = some ⟨b,o,none⟩ := by
   rcases WU.2.2 with ⟨_,h2,_⟩ | ⟨b,o,_,_,hp,_⟩
   · exact absurd h2 h0
   · exact ⟨b,o,hp⟩
 have aL : cs.length = n * 2 := WU.1
 let enc : Fin n → List Value := fun i => (cs.drop (i.1 * 2)).take 2
 let at_ : Fin n → El := fun i => l[i.1]'(by rw [hl]; exact i.2)
 have hE : ∀ i : Fin n,Bp (σ.del (some ⟨b,o,none⟩)) (enc i) (at_ i) := fun i => hc.2 i.1 (at_ i) (List.getElem?_eq_getElem _)
 have hk : ∀ i,(enc i).length = 2 := fun i => by
   have := i.2
   show ((cs.drop (i.1 * 2)).take 2).length = 2
   rw [List.length_take,List.length_drop]; omega
 have wD : (List.finRange n).flatMap enc = cs := ng aL
 haveI : Inhabited (Fin n) := ⟨⟨0,by omega⟩⟩
 refine eJ (ρ := Go.Proofs.Tryz.Sn) Go.Proofs.Tryz.na (fun w => by kernel_rfl) (fun w => by kernel_rfl) (α := Fin n) (enc := enc) hk (fun i => Bp.one _ _ _ (hE i)) (cf := fun i j => CR (at_ i).ls (at_ j).ls) AMD (g := 196) (fun args w => call196 args w) (b := b) (o := o) (ds := List.finRange n) (by rw [wD]; exact WU) List.length_finRange h0 (by omega) (fun w hw i j => ?_) fun σ1 ds hp qD BN Iv => ⟨rfl,?_⟩
 · obtain ⟨q1,m1,d1,hv1,FM⟩ := hE i
   obtain ⟨q2,m2,d2,hv2,G4⟩ := hE j
   rw [hv1,hv2]
   exact Spec.nZ (R := fun e => e = .returned (.int .i64 (CR (at_ i).ls (at_ j).ls))) (@gk _ _ ⟨True⟩ _ _ _ _ _ _ _ _ _ _ FM G4 fun σ' YM => ⟨rfl,YM⟩) hw
 let l2 : List El := ds.map at_
 have hp2 : l2.Perm l := by
   have := hp.map at_
   rwa [sj l hl] at this
 have Uj : l2.length = n := hp2.length_eq.trans hl
 have hdl : ds.length = n := by have h9 : (ds.map at_).length = n := Uj; rwa [List.length_map] at h9
 have hO : AV 2 Bp σ0 σ1 (some ⟨b,o,none⟩) n c l2 := by
   refine ⟨⟨Uj,_,BN,?_,fun i x hi => ?_⟩,hx.trans Iv⟩
   · rw [BN.1,Uj]
   · have BM : (ds.map at_)[i]? = some x := hi
     rw [List.getElem?_map] at BM
     cases hd : ds[i]? with
     | none => rw [hd] at BM; cases BM
     | some k =>
       rw [hd] at BM
       simp only [Option.map_some,Option.some.injEq] at BM
       rw [eM hk ds i k hd,← BM]
       exact Bp.mono _ _ _ _ Iv (hE k)
 have hle : ∀ i a b',l2[i]? = some a → l2[i + 1]? = some b' → ¬ CR b'.ls a.ls < 0 := fun i a b' ha hb => by
   have hq : l2.Pairwise (fun a b' => ¬ CR b'.ls a.ls < 0) := by
     refine List.pairwise_map.2 (qD.imp fun {x y} YS => ?_)
     exact of_decide_eq_false YS
   obtain ⟨h1,rfl⟩ := List.getElem?_eq_some_iff.1 ha
   obtain ⟨h2,rfl⟩ := List.getElem?_eq_some_iff.1 hb
   exact List.pairwise_iff_getElem.1 hq i (i + 1) h1 h2 (by omega)
 clear_value l2
 clear BN qD hp wD hE hk hdl
 suffices H : ∀ g k : Nat,∀ σ',n - k = g → 1 ≤ k → k ≤ n → AV 2 Bp σ0 σ' (some ⟨b,o,none⟩) n c l2 → (∀ i a b',i + 1 < k → l2[i]? = some a → l2[i + 1]? = some b' → CR a.ls b'.ls < 0) → D9.BF R (some ⟨b,o,none⟩) n c 0 0 none 0 0 none 0 0 k σ' from H (n - 1) 1 σ1 rfl (Nat.le_refl _) (by omega) hO (fun i a b' hi => by omega)
 intro g
 induction g with
 | zero =>
   intro k σ' hg h1 cZ zz Ax
   have hr : DL FF l = some l2 := gK rfl hp2 (gu fun i a b' ha hb => Ax i a b' (by have := (List.getElem?_eq_some_iff.1 hb).1; omega) ha hb)
   rw [hr] at h
   exact D9.Ay ⟨fun Ax => by omega,fun _ => h.ok _ σ' _ n c none 0 0 rfl zz.up (zz.rd Bp.mono) Ae.nil (by obtain ⟨cs',AME,_⟩ := zz.1.2; exact A6.cap AME) (Nat.le_refl _)⟩
 | succ g ih =>
   intro k σ' hg h1 cZ zz Ax
   have hr := zz.rd Bp.mono
   obtain ⟨y,hy⟩ := hr.ex (k := k) (by omega)
   obtain ⟨x,YM⟩ := hr.ex (k := k - 1) (by omega)
   obtain ⟨_,_,q1,m1,d1,WV,Ov,FM⟩ := Bp.at hr YM
   cases WV
   obtain ⟨_,_,q2,m2,d2,qC,AMF,G4⟩ := Bp.at hr hy
   cases qC
   have e1 : Int.toNat ((k : Int) - 1) = k - 1 := by omega
   refine D9.Ay ⟨fun _ => ⟨by unfold AM; omega,b,o,rfl,by omega,q1,m1,d1,by rw [e1]; exact Ov.1,by omega,q2,m2,d2,by simpa using AMF.1,LN FM G4 fun σ2 A5 => ⟨_,rfl,fun hz => ?_,fun hnz => ⟨by unfold AM; omega,?_⟩⟩⟩,fun hh => by omega⟩
   · refine h.no ?_ σ2 (zz.up.trans A5)
     have : DL FF l = none := gL rfl hp2 fun qD => by
       obtain ⟨h3,rfl⟩ := List.getElem?_eq_some_iff.1 YM
       obtain ⟨h4,rfl⟩ := List.getElem?_eq_some_iff.1 hy
       exact List.pairwise_iff_getElem.1 qD (k - 1) k h3 h4 (by omega) hz
     rw [this]; rfl
   · have := ih (k + 1) σ2 (by omega) (by omega) (by omega) (zz.mono Bp.mono A5) fun i a b' hi ha hb => by
       by_cases hik : i + 1 = k
       · rw [hik,hy] at hb; cases hb
         rw [show i = k - 1 by omega,YM] at ha; cases ha
         have h5 := hle (k - 1) _ _ YM (by rw [show k - 1 + 1 = k by omega]; exact hy)
         have h6 := (A2.Vp x.ls y.ls)
         have h7 := (A2.Vp y.ls x.ls)
         omega
       · exact Ax i a b' (by omega) ha hb
     exact_mod_cast this
end
end TwW
end
section
namespace TwW
open Go Tw Go.RowKit Go.Proofs.Tryz
structure gw (x : Vv) : Prop where
 el : ∀ e ∈ x.vec,Ao e.ls ∧ 0 ≤ e.v
 rg : ∀ r ∈ x.OF,Ao r.ls ∧ 0 < r.vs.length
 len : x.vec.length + x.OF.length ≤ 100000000000
theorem Ao.rd {σ : Hp} {p : Option Addr} {n : Nat} {ls : List Lb} (h : Ao ls) (hr : Fo σ p n ls) : n ≤ 1000000 := by
 have h1 := h.1
 have h2 : ls.length = n := hr.1
 omega
theorem sk : ∀ w,(zeroValue 190).run prog w = .ok .nilFunc w := fun w => by
 have h : prog.info? 190 = some t190 := by kernel_rfl
 simp [zeroValue,typeInfo,h]
 rfl
section
variable {σ σ' σ0 : Hp} {R : Rr}
theorem Me.at {p2 : Option Addr} {n2 i : Nat} {l : List Vv} {x : Vv} (hr : Ae 4 Me σ p2 n2 l) (hx : l[i]? = some x) : ∃ b o p n c q m d,p2 = some ⟨b,o,none⟩ ∧ σ.ld ⟨b,o + i * 4,none⟩ = some (.int .i64 x.kind) ∧ σ.ld ⟨b,o + i * 4 + 1,none⟩ = some (.int .u64 x.v) ∧ σ.ld ⟨b,o + i * 4 + 2,none⟩ = some (.slice p n c) ∧ σ.ld ⟨b,o + i * 4 + 3,none⟩ = some (.slice q m d) ∧ Ae 2 Bp σ p n x.vec ∧ Ae 2 SS σ q m x.OF := by
 obtain ⟨b,o,vs,hp,⟨p,n,c,q,m,d,rfl,h1,h2⟩,hl⟩ := Ae.idx hr hx
 exact ⟨b,o,p,n,c,q,m,d,hp,hl.1,hl.2.1,hl.2.2.1,hl.2.2.2.1,h1,h2⟩
theorem SS.at {p : Option Addr} {n i : Nat} {l : List Rg} {x : Rg} (hr : Ae 2 SS σ p n l) (hx : l[i]? = some x) : ∃ b o q m d q2 m2 d2,p = some ⟨b,o,none⟩ ∧ As σ b (o + i * 2) [.slice q m d,.slice q2 m2 d2] ∧ Fo σ q m x.ls ∧ Ep .u64 σ q2 m2 x.vs ∧ m2 ≤ d2 := by
 obtain ⟨b,o,vs,hp,⟨q,m,d,q2,m2,d2,rfl,h1,h2,h3⟩,hl⟩ := Ae.idx hr hx
 exact ⟨b,o,q,m,d,q2,m2,d2,hp,hl,h1,h2,h3⟩
theorem AV.el {p : Option Addr} {n c : Nat} {xs : List El} {q : Option Addr} {m d : Nat} {ls : List Lb} {v : Int} {ty : TypeId} {Φ : Value → Hp → Prop} (ho : AV 2 Bp σ0 σ p n c xs) (hr : Fo (σ.del p) q m ls) (hn : n ≤ 1000000000000)
   (hΦ : ∀ p' c' σ',AV 2 Bp σ0 σ' p' (n + 1) c' (xs ++ [⟨ls,v⟩]) → Ext (σ.del p) (σ'.del p') → Φ (.slice p' (n + 1) c') σ') {b : Nat} (hb : σ b = none) :
   AJ prog (Builtin.append_ #[67,67] ty #[.slice p n c,.slice (some ⟨b,0,none⟩) 1 1]) (σ.set b (.cells #[.slice q m d,.int .u64 v] 71 (0,0))) Φ := by
 have he : Bp (σ.del p) [.slice q m d,.int .u64 v] ⟨ls,v⟩ := ⟨q,m,d,rfl,hr⟩
 exact AV.IU Bp.mono ho rfl (Bp.one _ _ _ he) he (by omega) hΦ hb
theorem ni {n : Nd} {p q a l : Option Addr} {k c m d j e : Nat} {L : List Vv} {x : Vv} (hr : Ae 4 Me σ l j L) (hx : L[0]? = some x) (hV : gw x) (h : IH R σ (mu FF x)) : Spec prog 106 #[.pointer a,Ll n p k c q m d,.slice l j e] σ R := by
 have hj : 0 < j := by have h1 : L.length = j := hr.1; have := (List.getElem?_eq_some_iff.1 hx).1; omega
 obtain ⟨b,o,pv,nv,cv,qv,mv,dv,rfl,h1,h2,h3,h4,h5,h6⟩ := Me.at hr hx
 simp only [Nat.zero_mul,Nat.add_zero] at h1 h2 h3 h4
 refine BA.start fun _ _ => ⟨b,o,rfl,by omega,x.kind,h1,fun hk => ⟨by omega,x.v,h2,PO ⟨_,rfl,?_⟩⟩,fun hk => ⟨by omega,pv,nv,cv,h3,?_⟩⟩
 · unfold mu at h; rw [if_pos hk] at h
   exact h.ok _ σ none 0 0 none 0 0 rfl (.refl _) Ae.nil Ae.nil (Nat.le_refl _) (Nat.le_refl _)
 unfold mu at h
 rw [if_neg hk] at h
 have hl : x.vec.length = nv := h5.1
 have hlen := hV.len
 suffices H : ∀ g i : Nat,∀ p8 n8 c8 σ',nv - i = g → i ≤ nv → AV 2 Bp σ σ' p8 n8 c8 ((x.vec.take i).map fun x => ⟨DP x.ls,FF.mq x.v⟩) → BA.rk R 0 0 none 0 0 none 0 0 p8 n8 c8 pv nv cv nv i σ' from H nv 0 none 0 0 σ rfl (Nat.zero_le _) (AV.nil (.refl _))
 intro g
 induction g with
 | zero =>
   intro i p8 n8 c8 σ' hg hi ho
   rw [List.take_of_length_le (by omega)] at ho
   have PW := ho.1.1
   rw [List.length_map] at PW
   exact BA.dZ ⟨fun Ax => by omega,fun _ => EB ho (by omega) h.Te⟩
 | succ g ih =>
   intro i p8 n8 c8 σ' hg hi ho
   have BM : i < nv := by omega
   obtain ⟨y,hy⟩ := h5.ex BM
   obtain ⟨b1,o1,q1,m1,d1,rfl,Ov,FM⟩ := Bp.at h5 hy
   have JR := hV.el y (List.mem_of_getElem? hy)
   have PW := ho.1.1
   rw [List.length_map,List.length_take] at PW
   refine BA.dZ ⟨fun _ => ⟨b1,o1,rfl,by omega,q1,m1,d1,y.v,by simpa using Ov.mono ho.up,fun _ => FE (FM.mono CM.mono ho.up) (JR.1.rd FM) fun p' n' c' σ2 G4 A5 => ⟨_,_,_,rfl,PO ⟨_,rfl,fun pw AMG => ?_⟩⟩⟩,fun hh => by omega⟩
   refine AV.el (ho.mono Bp.mono A5) (G4.mono CM.mono (ho.new A5)) (by omega) (fun p9 c9 σ3 FH _ => ⟨_,_,_,rfl,AN BM h5.big,ih (i + 1) _ _ _ _ (by omega) (by omega) ?_⟩) AMG
   rw [Af hy,List.map_append]; exact FH
theorem gx {n : Nd} {p q a l : Option Addr} {k c m d j e : Nat} {L : List Vv} {x : Vv} (hr : Ae 4 Me σ l j L) (hx : L[0]? = some x) (hV : gw x) (hv : x.vec ≠ [] → n.op = 11 ∨ n.op = 12) (hw : x.OF ≠ [] → 1 ≤ n.op ∧ n.op ≤ 10)
   (h : IH R σ ((DL FF (MB FF n x)).map fun l => ⟨2,0,l,[]⟩)) : Spec prog 103 #[.pointer a,Ll n p k c q m d,.slice l j e] σ R := by
 have hj : 0 < j := by have h1 : L.length = j := hr.1; have := (List.getElem?_eq_some_iff.1 hx).1; omega
 obtain ⟨b,o,pv,nv,cv,qv,mv,dv,rfl,h1,h2,h3,h4,h5,h6⟩ := Me.at hr hx
 simp only [Nat.zero_mul,Nat.add_zero] at h1 h2 h3 h4
 have hl : x.vec.length = nv := h5.1
 have hlr : x.OF.length = mv := h6.1
 have hlen := hV.len
 refine AW.start fun _ _ => EA fun mb nN => ⟨mb,rfl,?_⟩
 have s0 := nM.fresh nN
 refine s0.put (by simp) fun σ1 s1 => s1.put (by simp) fun σ2 s2 => ?_
 have A5 := s2.1
 have hml := s2.2.2
 have cont : ∀ v21,(n.op = 11 → v21 = .func (.func 144) #[] #[]) → (n.op = 12 → v21 = .func (.func 145) #[] #[]) → ∃ v,v = v21 ∧ Pq (some ⟨b,o,none⟩) fun Pr lI => In 0 (j : Int) ∧ LS σ2 Pr (lI + 2) fun fp n25 fq => AW.Ew R (aD Pr lI) j e n.kind n.op n.text p k c n.width n.back n.EG q m d n.bool n.parts 0 0 none 0 0 none 0 0 none 0 0 v fp n25 fq (n25 : Int) 0 σ2 := fun v21 ha hf => by
   refine ⟨v21,rfl,b,o,rfl,by omega,pv,nv,cv,A5.ld h3,?_⟩
   let g1 : El → El := fun x => ⟨DP x.ls,if n.op = 11 then FF.abs x.v else FF.floor x.v⟩
   let g2 : Rg → Option El := fun s => (FF.over n.op s.vs x.v).map fun v => ⟨DP s.ls,v⟩
   have hc : MB FF n x = x.vec.map g1 ++ x.OF.filterMap g2 := rfl
   rw [hc] at h
   have second : ∀ g i : Nat,∀ fb p8 n8 c8 σ',mv - i = g → i ≤ mv → Sk (σ'.del p8) fb → AV 2 Bp σ σ' p8 n8 c8 (x.vec.map g1 ++ (x.OF.take i).filterMap g2) → AW.G9 R (aD b o) j e n.kind n.op n.text p k c n.width n.back n.EG q m d n.bool n.parts 0 0 none 0 0 none 0 0 p8 n8 c8 (aD fb 0) 11 11 qv mv dv mv i σ' := by
     intro g
     induction g with
     | zero =>
       intro i fb p8 n8 c8 σ' hg hi hF ho
       rw [List.take_of_length_le (by omega)] at ho
       have PW := ho.1.1
       rw [List.length_append,List.length_map] at PW
       have h9 := List.length_filterMap_le g2 x.OF
       exact AW.Is ⟨fun Ax => by omega,fun _ => EB ho (by omega) h.Te⟩
     | succ g ih =>
       intro i fb p8 n8 c8 σ' hg hi hF ho
       have BM : i < mv := by omega
       obtain ⟨y,hy⟩ := h6.ex BM
       obtain ⟨b1,o1,q1,m1,d1,q2,m2,d2,rfl,Ov,FM,G4,wC⟩ := SS.at h6 hy
       have JR := hV.rg y (List.mem_of_getElem? hy)
       have G5 := hw fun e => by rw [e] at hlr; simp at hlr; omega
       have hlv : y.vs.length = m2 := G4.1
       have PW := ho.1.1
       rw [List.length_append,List.length_map] at PW
       have h9 := List.length_filterMap_le g2 (x.OF.take i)
       rw [List.length_take] at h9
       have next : ∀ p9 n9 c9 σ3,Sk (σ3.del p9) fb → AV 2 Bp σ σ3 p9 n9 c9 (x.vec.map g1 ++ (x.OF.take i).filterMap g2 ++ (g2 y).toList) → AW.Li R (aD b o) j e n.kind n.op n.text p k c n.width n.back n.EG q m d n.bool n.parts 0 0 none 0 0 none 0 0 p9 n9 c9 (aD fb 0) 11 11 (aD b1 o1) mv dv mv i σ3 := fun p9 n9 c9 σ3 hF3 FH =>
         AW.Iu ⟨AN BM h6.big,ih (i + 1) _ _ _ _ _ (by omega) (by omega) hF3 (by rw [Gd hy,← List.append_assoc]; exact FH)⟩
       refine AW.Is ⟨fun _ => ⟨b1,o1,rfl,by omega,q1,m1,d1,q2,m2,d2,by simpa using Ov.mono ho.up,fun _ => ⟨fb,0,rfl,by omega,gq (w := x.v) G5 (hF.mono (Ext.IS _ _)) (G4.mono ho.up) (by omega) wC hj (ho.up.ld h2) fun z ok σ3 hz D1 => ⟨z,ok,rfl,fun D3 => ?_,fun D3 => next _ _ _ _ (hF.mono (D1.del _)) ?_⟩⟩⟩,fun hh => by omega⟩
       · have hz' : FF.over n.op y.vs x.v = some z := by
           rcases hz with ⟨h7,_⟩ | ⟨_,h8⟩
           · exact h7
           · rw [D3] at h8; cases h8
         refine FE (FM.mono CM.mono (ho.up.trans D1)) (JR.1.rd FM) fun p' n' c' σ4 hr4 Mu => ⟨_,_,_,rfl,fun zC zw => ?_⟩
         have FH := ho.mono Bp.mono D1
         refine AV.el (FH.mono Bp.mono Mu) (hr4.mono CM.mono (FH.new Mu)) (by omega) (fun p9 c9 σ5 QO Ta => ⟨_,_,_,rfl,next _ _ _ _ (hF.mono (((D1.trans Mu).del _).trans Ta)) ?_⟩) zw
         rw [show g2 y = some ⟨DP y.ls,z⟩ by show (FF.over n.op y.vs x.v).map _ = _; rw [hz']; rfl]; exact QO
       · have hz' : FF.over n.op y.vs x.v = none := by
           rcases hz with ⟨_,h8⟩ | ⟨h7,_⟩
           · rw [D3] at h8; cases h8
           · exact h7
         rw [show g2 y = none by show (FF.over n.op y.vs x.v).map _ = _; rw [hz']; rfl]
         simpa using ho.mono Bp.mono D1
   suffices H : ∀ g i : Nat,∀ p8 n8 c8 σ',nv - i = g → i ≤ nv → AV 2 Bp σ σ' p8 n8 c8 ((x.vec.take i).map g1) → AW.Ew R (aD b o) j e n.kind n.op n.text p k c n.width n.back n.EG q m d n.bool n.parts 0 0 none 0 0 none 0 0 p8 n8 c8 v21 pv nv cv nv i σ' from H nv 0 none 0 0 σ2 rfl (Nat.zero_le _) (AV.nil A5)
   intro g
   induction g with
   | zero =>
     intro i p8 n8 c8 σ' hg hi ho
     rw [List.take_of_length_le (by omega)] at ho
     refine AW.FJ ⟨fun Ax => by omega,fun _ => Sl fun fb σ3 hF D1 => ⟨_,_,_,rfl,b,o,rfl,by omega,qv,mv,dv,(ho.up.trans D1).ld h4,second mv 0 fb p8 n8 c8 σ3 rfl (Nat.zero_le _) (hF.mono (ho.new D1)) (by simpa using ho.mono Bp.mono D1)⟩⟩
   | succ g ih =>
     intro i p8 n8 c8 σ' hg hi ho
     have BM : i < nv := by omega
     obtain ⟨y,hy⟩ := h5.ex BM
     obtain ⟨b1,o1,q1,m1,d1,rfl,Ov,FM⟩ := Bp.at h5 hy
     have JR := hV.el y (List.mem_of_getElem? hy)
     have PW := ho.1.1
     rw [List.length_map,List.length_take] at PW
     have G5 := hv fun e => by rw [e] at hl; simp at hl; omega
     refine AW.FJ ⟨fun _ => ⟨b1,o1,rfl,by omega,q1,m1,d1,y.v,by simpa using Ov.mono ho.up,fun _ => FE (FM.mono CM.mono ho.up) (JR.1.rd FM) fun p' n' c' σ3 bd D1 => ⟨_,_,_,rfl,?_⟩⟩,fun hh => by omega⟩
     have app : ∀ z,(g1 y).v = z → AA R (CI .u64 fun vC AF => Al AF fun WQ => AJ prog (Builtin.append_ #[67,67] 67 #[.slice p8 n8 c8,(.slice (aD WQ 0) 1 1)]) (Hp.set AF WQ (.cells #[.slice p' n' c',.int .u64 vC] 71 (0,0))) (CS fun uY n41 jA AH => AM ((i : Int) + 1) ∧ AW.Ew R (aD b o) j e n.kind n.op n.text p k c n.width n.back n.EG q m d n.bool n.parts 0 0 none 0 0 none 0 0 uY n41 jA v21 (aD b1 o1) nv cv nv ((i : Int) + 1) AH)) (.returned (.int .u64 z)) σ3 := fun z hz => by
       refine ⟨z,rfl,fun WQ gy => AV.el (ho.mono Bp.mono D1) (bd.mono CM.mono (ho.new D1)) (by omega) (fun p9 c9 σ5 QO Ta => ⟨_,_,_,rfl,AN BM h5.big,ih (i + 1) _ _ _ _ (by omega) (by omega) ?_⟩) gy⟩
       rw [Af hy,List.map_append]
       have : g1 y = ⟨DP y.ls,z⟩ := by rw [← hz]
       simpa [this] using QO
     rcases G5 with G5 | G5
     · exact ⟨144,#[],#[],ha G5,NN.en,nC JR.2 (app _ (by show (if n.op = 11 then bL y.v else _) = _; rw [if_pos G5]))⟩
     · exact ⟨145,#[],#[],hf G5,Ir.en,bN (app _ (by show (if n.op = 11 then bL y.v else Vr y.v) = _; rw [if_neg (by omega)]))⟩
 refine hml.look sk (fun DQ => cont _ (fun h9 => ?_) fun h9 => ?_) fun v hv => ?_
 · exact absurd h9.symm (DQ (11,.func (.func 144) #[] #[]) (by simp))
 · exact absurd h9.symm (DQ (12,.func (.func 145) #[] #[]) (by simp))
 · simp only [List.nil_append,List.cons_append,List.mem_cons,List.not_mem_nil,or_false,Prod.mk.injEq] at hv
   rcases hv with ⟨h9,rfl⟩ | ⟨h9,rfl⟩
   · exact cont _ (fun _ => rfl) fun h8 => by omega
   · exact cont _ (fun h8 => by omega) fun _ => rfl
end
end TwW
end
section
namespace TwW
open Go Tw Go.RowKit Go.Proofs.Tryz
theorem bg : ∀ w,(zeroValue 71).run prog w = .ok (.agg #[.slice none 0 0,.int .u64 0]) w := fun w => by
 have h : prog.info? 71 = some t71 := by kernel_rfl
 simp [zeroValue,typeInfo,h]
 rfl
def E0 (σ0 : Hp) (v : Value) (x : El) : Prop := ∃ p n c,v = .agg #[.slice p n c,.int .u64 x.v] ∧ Fo σ0 p n x.ls
theorem Ul {α : Type} {f : α → Bool} {xs : List α} {k : Nat} {x : α} (hx : xs[k]? = some x) : (xs.take (k + 1)).filter f = (xs.take k).filter f ++ if f x then [x] else [] := by
 rw [Af hx,List.filter_append]
 by_cases h : f x = true <;> simp [h]
section
variable {σ σ' σ0 : Hp} {R : Rr}
theorem Ext.put {m : Nat} {o : Obj} (hx : Ext σ0 σ) (hm : σ0 m = none) : Ext σ0 (σ.set m o) := fun k u hk => by rw [Hp.AI (fun e => by rw [e,hm] at hk; cases hk)]; exact hx _ _ hk
theorem I2 {n : Nd} {p q pv : Option Addr} {k c m d nv cv : Nat} {vec : List El} (hs : E4 1 σ q m (n.names.map .string)) (hr : Ae 2 Bp σ pv nv vec) (il : ∀ e ∈ vec,Ao e.ls)
   (h : ∀ mb σ',MS (E0 σ) σ' mb (Vo n vec) → Ext σ σ' → R (.returned (.tuple #[.map (some mb),.bool (gJ n vec)])) σ') : Spec prog 206 #[Ll n p k c q m d,.slice pv nv cv] σ R := by
 have hl : vec.length = nv := hr.1
 refine Gw.start fun _ => EA fun mb nN => ⟨mb,rfl,?_⟩
 let st : List (ByteArray × El) → El → List (ByteArray × El) := fun m x => Vm m (GK (N0 n x.ls)) x
 have hk : Vo n vec = vec.foldl st [] := rfl
 suffices H : ∀ g i : Nat,∀ σ',nv - i = g → i ≤ nv → MS (E0 σ) σ' mb ((vec.take i).foldl st []) → Ext σ σ' → Gw.A1 R pv nv cv n.kind n.op n.text p k c n.width n.back n.EG q m d n.bool n.parts (some mb) pv nv cv nv i σ' from H nv 0 _ rfl (Nat.zero_le _) MS.fresh (.set nN)
 intro g
 induction g with
 | zero =>
   intro i σ' hg hi hM hx
   rw [List.take_of_length_le (by omega)] at hM
   refine Gw.Ab ⟨fun Ax => by omega,fun _ => ⟨_,hM.len,?_⟩⟩
   have := h mb σ' hM hx
   unfold gJ at this
   rw [hk,hl] at this
   rw [show decide ((((vec.foldl st []).length : Nat) : Int) = (nv : Int)) = decide ((vec.foldl st []).length = nv) from decide_eq_decide.2 (by omega)]
   exact this
 | succ g ih =>
   intro i σ' hg hi hM hx
   have BM : i < nv := by omega
   obtain ⟨y,hy⟩ := hr.ex BM
   obtain ⟨b1,o1,q1,m1,d1,rfl,Ov,FM⟩ := Bp.at hr hy
   have JR := il y (List.mem_of_getElem? hy)
   refine Gw.Ab ⟨fun _ => ⟨b1,o1,rfl,by omega,q1,m1,d1,y.v,by simpa using Ov.mono hx,fun _ => QR (FM.mono CM.mono hx) (JR.rd FM) (hs.mono hx) fun p' n' c' σ2 G4 A5 => ⟨_,_,_,rfl,FD (G4.mono CM.mono (Ext.Cb _ _)) JR.N0 fun σ3 D1 => ⟨_,rfl,?_⟩⟩⟩,fun hh => by omega⟩
   refine (hM.mono (A5.trans D1)).put (x := y) ⟨q1,m1,d1,rfl,FM⟩ fun o hM' => ⟨AN BM hr.big,ih (i + 1) _ (by omega) (by omega) ?_ (Ext.put (hx.trans (A5.trans D1)) nN)⟩
   rw [Af hy,List.foldl_append]; exact hM'
theorem hJ {n : Nd} {p q a px py : Option Addr} {k c m d nx cx ny cy : Nat} {x y : List El} (hs : E4 1 σ q m (n.names.map .string)) (V2 : Ae 2 Bp σ px nx x) (wE : Ae 2 Bp σ py ny y) (nj : ∀ e ∈ x,Ao e.ls) (jE : ∀ e ∈ y,Ao e.ls) (hlen : x.length + y.length ≤ 1000000000000)
   (h : IH R σ ((DL FF (SQ n x y)).map fun l => ⟨2,0,l,[]⟩)) : Spec prog 160 #[.pointer a,Ll n p k c q m d,.slice px nx cx,.slice py ny cy] σ R := by
 have ZZ : x.length = nx := V2.1
 have bI : y.length = ny := wE.1
 refine AY.start fun _ _ => I2 hs V2 nj fun mx σ1 hM1 Cg => ⟨_,_,rfl,I2 (hs.mono Cg) (wE.mono Bp.mono Cg) jE fun my σ2 hM2 A5 => ⟨_,_,rfl,?_⟩⟩
 have hX := Cg.trans A5
 have hMx := hM1.mono A5
 replace h := h.gj hX
 let f1 : El → Bool := fun e => decide (n.op = 12) || ((UX n y (N0 n e.ls)).isSome == decide (n.op = 11))
 let f2 : El → Bool := fun e => (UX n x (N0 n e.ls)).isNone && decide (n.op = 12)
 have hf : SQ n x y = x.filter f1 ++ y.filter f2 := rfl
 rw [hf] at h
 have second : ∀ g i : Nat,∀ p8 n8 c8 σ',ny - i = g → i ≤ ny → AV 2 Bp σ2 σ' p8 n8 c8 (x.filter f1 ++ (y.take i).filter f2) → AY.Jf R n.kind n.op n.text p k c n.width n.back n.EG q m d n.bool n.parts 0 0 none 0 0 none 0 0 (some mx) p8 n8 c8 py ny cy ny i σ' := by
   intro g
   induction g with
   | zero =>
     intro i p8 n8 c8 σ' hg hi ho
     rw [List.take_of_length_le (by omega)] at ho
     have PW := ho.1.1
     rw [List.length_append] at PW
     have h9 := List.length_filter_le f1 x
     have SN := List.length_filter_le f2 y
     exact AY.LG ⟨fun Ax => by omega,fun _ => EB ho (by omega) h.Te⟩
   | succ g ih =>
     intro i p8 n8 c8 σ' hg hi ho
     have BM : i < ny := by omega
     obtain ⟨z,hz⟩ := wE.ex BM
     obtain ⟨b1,o1,q1,m1,d1,rfl,Ov,FM⟩ := Bp.at wE hz
     have JR := jE z (List.mem_of_getElem? hz)
     have PW := ho.1.1
     rw [List.length_append] at PW
     have h9 := List.length_filter_le f1 x
     have SN := List.length_filter_le f2 (y.take i)
     rw [List.length_take] at SN
     have next : ∀ p9 n9 c9 σ3,AV 2 Bp σ2 σ3 p9 n9 c9 (x.filter f1 ++ (y.take i).filter f2 ++ if f2 z then [z] else []) → AY.M8 R n.kind n.op n.text p k c n.width n.back n.EG q m d n.bool n.parts 0 0 none 0 0 none 0 0 (some mx) p9 n9 c9 (aD b1 o1) ny cy ny i σ3 := fun p9 n9 c9 σ3 FH =>
       AY.VM ⟨AN BM wE.big,ih (i + 1) _ _ _ _ (by omega) (by omega) (by rw [Ul hz,← List.append_assoc]; exact FH)⟩
     have bC := hX.trans ho.up
     refine AY.LG ⟨fun _ => ⟨b1,o1,rfl,by omega,q1,m1,d1,z.v,by simpa using Ov.mono bC,fun _ => QR (FM.mono CM.mono bC) (JR.rd FM) (hs.mono bC) fun p' n' c' σ3 bd D1 => ⟨_,_,_,rfl,FD (bd.mono CM.mono (Ext.Cb _ _)) JR.N0 fun σ4 Mu => ⟨_,rfl,?_⟩⟩⟩,fun hh => by omega⟩
     have Kl := ho.mono Bp.mono (D1.trans Mu)
     refine MS.Yh (hMx.mono (ho.up.trans (D1.trans Mu))) bg (fun F6 => ⟨_,_,_,_,_,rfl,fun _ => ⟨fun _ => ⟨fun WT => fun Lq nk => ?_,fun WT => next _ _ _ _ ?_⟩,fun hh => (by cases hh)⟩⟩) fun v e he hE => ?_
     · refine AV.el Kl (FM.mono CM.mono (hX.trans Kl.2)) (by omega) (fun p9 c9 σ5 QO _ => ⟨_,_,_,rfl,next _ _ _ _ ?_⟩) nk
       have : f2 z = true := by
         show ((DO (Vo n x) (GK (N0 n z.ls))).isNone && decide (n.op = 12)) = true
         rw [F6,decide_eq_true WT]; rfl
       rw [this]; exact QO
     · have : f2 z = false := by
         show ((DO (Vo n x) (GK (N0 n z.ls))).isNone && decide (n.op = 12)) = false
         rw [decide_eq_false WT,Bool.and_false]
       rw [this]; simpa using Kl
     · obtain ⟨p5,n5,c5,rfl,_⟩ := hE
       refine ⟨_,_,_,_,_,rfl,fun _ => ⟨fun hh => (by cases hh),fun _ => next _ _ _ _ ?_⟩⟩
       have : f2 z = false := by
         show ((DO (Vo n x) (GK (N0 n z.ls))).isNone && decide (n.op = 12)) = false
         rw [he]; rfl
       rw [this]; simpa using Kl
 suffices H : ∀ g i : Nat,∀ p8 n8 c8 σ',nx - i = g → i ≤ nx → AV 2 Bp σ2 σ' p8 n8 c8 ((x.take i).filter f1) → AY.rz R py ny cy n.kind n.op n.text p k c n.width n.back n.EG q m d n.bool n.parts 0 0 none 0 0 none 0 0 (some mx) (some my) p8 n8 c8 px nx cx nx i σ' from H nx 0 none 0 0 σ2 rfl (Nat.zero_le _) (AV.nil (.refl _))
 intro g
 induction g with
 | zero =>
   intro i p8 n8 c8 σ' hg hi ho
   rw [List.take_of_length_le (by omega)] at ho
   exact AY.de ⟨fun Ax => by omega,fun _ => second ny 0 p8 n8 c8 σ' rfl (Nat.zero_le _) (by simpa using ho)⟩
 | succ g ih =>
   intro i p8 n8 c8 σ' hg hi ho
   have BM : i < nx := by omega
   obtain ⟨z,hz⟩ := V2.ex BM
   obtain ⟨b1,o1,q1,m1,d1,rfl,Ov,FM⟩ := Bp.at V2 hz
   have JR := nj z (List.mem_of_getElem? hz)
   have PW := ho.1.1
   have h9 := List.length_filter_le f1 (x.take i)
   rw [List.length_take] at h9
   have next : ∀ p9 n9 c9 σ3,AV 2 Bp σ2 σ3 p9 n9 c9 ((x.take i).filter f1 ++ if f1 z then [z] else []) → AY.Vj R py ny cy n.kind n.op n.text p k c n.width n.back n.EG q m d n.bool n.parts 0 0 none 0 0 none 0 0 (some mx) (some my) p9 n9 c9 (aD b1 o1) nx cx nx i σ3 := fun p9 n9 c9 σ3 FH =>
     AY.r4 ⟨AN BM V2.big,ih (i + 1) _ _ _ _ (by omega) (by omega) (by rw [Ul hz]; exact FH)⟩
   have bC := hX.trans ho.up
   refine AY.de ⟨fun _ => ⟨b1,o1,rfl,by omega,q1,m1,d1,z.v,by simpa using Ov.mono bC,fun _ => QR (FM.mono CM.mono bC) (JR.rd FM) (hs.mono bC) fun p' n' c' σ3 bd D1 => ⟨_,_,_,rfl,FD (bd.mono CM.mono (Ext.Cb _ _)) JR.N0 fun σ4 Mu => ⟨_,rfl,?_⟩⟩⟩,fun hh => by omega⟩
   have Kl := ho.mono Bp.mono (D1.trans Mu)
   have app : f1 z = true → ∀ ft,σ4 ft = none → AJ prog (Builtin.append_ #[67,67] 67 #[.slice p8 n8 c8,(.slice (aD ft 0) 1 1)]) (Hp.set σ4 ft (.cells #[.slice q1 m1 d1,.int .u64 z.v] 71 (0,0))) (CS fun fc XN fe AZ => AY.Vj R py ny cy n.kind n.op n.text p k c n.width n.back n.EG q m d n.bool n.parts 0 0 none 0 0 none 0 0 (some mx) (some my) fc XN fe (aD b1 o1) nx cx nx i AZ) := fun ht ft AMI => by
     refine AV.el Kl (FM.mono CM.mono (hX.trans Kl.2)) (by omega) (fun p9 c9 σ5 QO _ => ⟨_,_,_,rfl,next _ _ _ _ ?_⟩) AMI
     rw [ht]; exact QO
   have skip : f1 z = false → AY.Vj R py ny cy n.kind n.op n.text p k c n.width n.back n.EG q m d n.bool n.parts 0 0 none 0 0 none 0 0 (some mx) (some my) p8 n8 c8 (aD b1 o1) nx cx nx i σ4 := fun ht => next _ _ _ _ (by rw [ht]; simpa using Kl)
   have e1 : f1 z = (decide (n.op = 12) || ((DO (Vo n y) (GK (N0 n z.ls))).isSome == decide (n.op = 11))) := rfl
   refine MS.Yh ((hM2.imp fun v x hE => hE).mono (ho.up.trans (D1.trans Mu))) bg (fun F6 => ⟨_,_,_,_,_,rfl,fun _ => ⟨fun WT => app ?_,fun WT => ⟨fun hh => (by cases hh),fun _ => ⟨fun Za => skip ?_,fun Za => app ?_⟩⟩⟩⟩) fun v e he hE => ?_
   · rw [e1,decide_eq_true WT]; rfl
   · rw [e1,decide_eq_false WT,F6,decide_eq_true Za]; rfl
   · rw [e1,decide_eq_false WT,F6,decide_eq_false Za]; rfl
   · obtain ⟨p5,n5,c5,rfl,_⟩ := hE
     refine ⟨_,_,_,_,_,rfl,fun _ => ⟨fun WT => app ?_,fun WT => ⟨fun _ => ⟨fun Za => app ?_,fun Za => skip ?_⟩,fun hh => (by cases hh)⟩⟩⟩
     · rw [e1,decide_eq_true WT]; rfl
     · rw [e1,decide_eq_false WT,he,decide_eq_true Za]; rfl
     · rw [e1,decide_eq_false WT,he,decide_eq_false Za]; rfl
end
end TwW
end
section
namespace TwW
open Go Tw Go.RowKit Go.Proofs.Tryz
section
variable {σ σ' σ0 : Hp} {R : Rr}
theorem Ss {n : Nd} {p q a px : Option Addr} {k c m d nx cx f : Nat} {cap : Array Value} {x : List El} {g : Int → Int × Bool} (V2 : Ae 2 Bp σ px nx x) (nj : ∀ e ∈ x,Ao e.ls) (hlen : x.length ≤ 1000000000000) (N6 : Enters prog f)
   (hC : ∀ (σ2 : Hp) (v : Int) (R' : Rr),Ext σ σ2 → R' (.returned (.tuple #[.int .u64 (g v).1,.bool (g v).2])) σ2 → Spec prog f (#[] ++ #[.int .u64 v] ++ cap) σ2 R')
   (h : IH R σ ((DL FF (YR n x g)).map fun l => ⟨2,0,l,[]⟩)) : Spec prog 157 #[.pointer a,Ll n p k c q m d,.slice px nx cx,.func (.func f) #[] cap] σ R := by
 have ZZ : x.length = nx := V2.1
 let f1 : El → Option El := fun x => if Fc n.op = false ∨ n.bool = true then some ⟨DP x.ls,(g x.v).1⟩ else if (g x.v).2 then some x else none
 have hf : YR n x g = x.filterMap f1 := rfl
 rw [hf] at h
 refine Az.start fun _ _ => ?_
 suffices H : ∀ gg i : Nat,∀ p8 n8 c8 σ',nx - i = gg → i ≤ nx → AV 2 Bp σ σ' p8 n8 c8 ((x.take i).filterMap f1) → Az.A1 R (.func (.func f) #[] cap) n.kind n.op n.text p k c n.width n.back n.EG q m d n.bool n.parts 0 0 none 0 0 none 0 0 p8 n8 c8 px nx cx nx i σ' from H nx 0 none 0 0 σ rfl (Nat.zero_le _) (AV.nil (.refl _))
 intro gg
 induction gg with
 | zero =>
   intro i p8 n8 c8 σ' hg hi ho
   rw [List.take_of_length_le (by omega)] at ho
   have PW := ho.1.1
   have h9 := List.length_filterMap_le f1 x
   exact Az.Ab ⟨fun Ax => by omega,fun _ => EB ho (by omega) h.Te⟩
 | succ gg ih =>
   intro i p8 n8 c8 σ' hg hi ho
   have BM : i < nx := by omega
   obtain ⟨z,hz⟩ := V2.ex BM
   obtain ⟨b1,o1,q1,m1,d1,rfl,Ov,FM⟩ := Bp.at V2 hz
   have JR := nj z (List.mem_of_getElem? hz)
   have PW := ho.1.1
   have h9 := List.length_filterMap_le f1 (x.take i)
   rw [List.length_take] at h9
   have next : ∀ tb p9 n9 c9 σ3,tb = n.bool → AV 2 Bp σ σ3 p9 n9 c9 ((x.take i).filterMap f1 ++ (f1 z).toList) → Az.G9 R (.func (.func f) #[] cap) n.kind n.op n.text p k c n.width n.back n.EG q m d tb n.parts 0 0 none 0 0 none 0 0 p9 n9 c9 (aD b1 o1) nx cx nx i σ3 := fun tb p9 n9 c9 σ3 qS FH => by
     subst qS
     exact Az.Is ⟨AN BM V2.big,ih (i + 1) _ _ _ _ (by omega) (by omega) (by rw [Gd hz]; exact FH)⟩
   have e1 : f1 z = if Fc n.op = false ∨ n.bool = true then some ⟨DP z.ls,(g z.v).1⟩ else if (g z.v).2 then some z else none := rfl
   refine Az.Ab ⟨fun _ => ⟨b1,o1,rfl,by omega,q1,m1,d1,z.v,by simpa using Ov.mono ho.up,fun _ => ⟨f,#[],cap,rfl,N6,hC σ' z.v _ ho.up ⟨_,_,rfl,CX ⟨_,rfl,?_⟩⟩⟩⟩,fun hh => by omega⟩
   have bare : (Fc n.op = false ∨ n.bool = true) → ∀ tb,tb = n.bool → Spec prog 146 #[.slice q1 m1 d1] σ' (AA R (CS fun yT n40 yU AH => Al AH fun dM => AJ prog (Builtin.append_ #[67,67] 67 #[.slice p8 n8 c8,(.slice (aD dM 0) 1 1)]) (Hp.set AH dM (.cells #[.slice yT n40 yU,.int .u64 (g z.v).1] 71 (0,0))) (CS fun yV n44 yW AZ => Az.G9 R (.func (.func f) #[] cap) n.kind n.op n.text p k c n.width n.back n.EG q m d tb n.parts 0 0 none 0 0 none 0 0 yV n44 yW (aD b1 o1) nx cx nx i AZ))) := fun hc tb qS =>
     FE (FM.mono CM.mono ho.up) (JR.rd FM) fun p' n' c' σ3 bd D1 => ⟨_,_,_,rfl,fun dM AAA => AV.el (ho.mono Bp.mono D1) (bd.mono CM.mono (ho.new D1)) (by omega) (fun p9 c9 σ5 QO _ => ⟨_,_,_,rfl,next _ _ _ _ _ qS (by rw [e1,if_pos hc]; exact QO)⟩) AAA⟩
   refine ⟨fun hcf => bare (.inl hcf) _ rfl,fun hct => ⟨fun hb => bare (.inr hb) _ hb.symm,fun hb => ⟨fun gn => fun EE nq => ?_,fun gn => next _ _ _ _ _ hb.symm ?_⟩⟩⟩
   · refine AV.el ho (FM.mono CM.mono ho.2) (by omega) (fun p9 c9 σ5 QO _ => ⟨_,_,_,rfl,next _ _ _ _ _ hb.symm ?_⟩) nq
     rw [e1,if_neg (by rw [hct,hb]; simp),if_pos gn]; exact QO
   · rw [e1,if_neg (by rw [hct,hb]; simp),if_neg (by rw [gn]; simp)]; simpa using ho
theorem V3 {n : Nd} {p q a px py : Option Addr} {k c m d nx cx ny cy : Nat} {x y : List El} (hs : E4 1 σ q m (n.names.map .string)) (V2 : Ae 2 Bp σ px nx x) (wE : Ae 2 Bp σ py ny y) (nj : ∀ e ∈ x,Ao e.ls) (jE : ∀ e ∈ y,Ao e.ls) (hlen : x.length + y.length ≤ 1000000000000)
   (h : IH R σ (((UY FF n x y).bind (DL FF)).map fun l => ⟨2,0,l,[]⟩)) : Spec prog 161 #[.pointer a,Ll n p k c q m d,.slice px nx cx,.slice py ny cy] σ R := by
 have ZZ : x.length = nx := V2.1
 have bI : y.length = ny := wE.1
 let f1 : El → Option El := fun e => match UX n y (N0 n e.ls) with
   | none => none
   | some o => if Fc n.op = false ∨ n.bool = true then some ⟨N0 n e.ls,(FF.Py n.op e.v o.v).1⟩ else if (FF.Py n.op e.v o.v).2 then some e else none
 have hf : UY FF n x y = if gJ n x && gJ n y then some (x.filterMap f1) else none := rfl
 rw [hf] at h
 refine An.start fun _ _ => I2 hs V2 nj fun mx σ1 hM1 Cg => ⟨_,_,rfl,I2 (hs.mono Cg) (wE.mono Bp.mono Cg) jE fun my σ2 hM2 A5 => ⟨_,_,rfl,fun h1 => ?_,fun h1 => ⟨fun h2 => ?_,fun h2 => ?_⟩⟩⟩
 · rw [h1] at h; exact h.no rfl _ (Cg.trans A5)
 · rw [h2,Bool.and_false] at h; exact h.no rfl _ (Cg.trans A5)
 rw [h1,h2] at h
 have hX := Cg.trans A5
 replace h : IH R σ2 ((DL FF (x.filterMap f1)).map fun l => ⟨2,0,l,[]⟩) := h.gj hX
 suffices H : ∀ gg i : Nat,∀ p8 n8 c8 σ',nx - i = gg → i ≤ nx → AV 2 Bp σ2 σ' p8 n8 c8 ((x.take i).filterMap f1) → An.VL R n.kind n.op n.text p k c n.width n.back n.EG q m d n.bool n.parts 0 0 none 0 0 none 0 0 (some my) p8 n8 c8 px nx cx nx i σ' from H nx 0 none 0 0 σ2 rfl (Nat.zero_le _) (AV.nil (.refl _))
 intro gg
 induction gg with
 | zero =>
   intro i p8 n8 c8 σ' hg hi ho
   rw [List.take_of_length_le (by omega)] at ho
   have PW := ho.1.1
   have h9 := List.length_filterMap_le f1 x
   exact An.QJ ⟨fun Ax => by omega,fun _ => EB ho (by omega) h.Te⟩
 | succ gg ih =>
   intro i p8 n8 c8 σ' hg hi ho
   have BM : i < nx := by omega
   obtain ⟨z,hz⟩ := V2.ex BM
   obtain ⟨b1,o1,q1,m1,d1,rfl,Ov,FM⟩ := Bp.at V2 hz
   have JR := nj z (List.mem_of_getElem? hz)
   have PW := ho.1.1
   have h9 := List.length_filterMap_le f1 (x.take i)
   rw [List.length_take] at h9
   have next : ∀ tb p9 n9 c9 σ3,tb = n.bool → AV 2 Bp σ2 σ3 p9 n9 c9 ((x.take i).filterMap f1 ++ (f1 z).toList) → An.M8 R n.kind n.op n.text p k c n.width n.back n.EG q m d tb n.parts 0 0 none 0 0 none 0 0 (some my) p9 n9 c9 (aD b1 o1) nx cx nx i σ3 := fun tb p9 n9 c9 σ3 qS FH => by
     subst qS
     exact An.VM ⟨AN BM V2.big,ih (i + 1) _ _ _ _ (by omega) (by omega) (by rw [Gd hz]; exact FH)⟩
   have bC := hX.trans ho.up
   refine An.QJ ⟨fun _ => ⟨b1,o1,rfl,by omega,q1,m1,d1,z.v,by simpa using Ov.mono bC,fun _ => QR (FM.mono CM.mono bC) (JR.rd FM) (hs.mono bC) fun p' n' c' σ3 bd D1 => ⟨_,_,_,rfl,FD (bd.mono CM.mono (Ext.Cb _ _)) JR.N0 fun σ4 Mu => ⟨_,rfl,?_⟩⟩⟩,fun hh => by omega⟩
   have Kl := ho.mono Bp.mono (D1.trans Mu)
   have hrk : Fo (σ4.del p8) p' n' (N0 n z.ls) := bd.mono CM.mono ((Ext.JZ Mu).trans (ho.new (D1.trans Mu)))
   have e1 : f1 z = match DO (Vo n y) (GK (N0 n z.ls)) with
     | none => none
     | some o => if Fc n.op = false ∨ n.bool = true then some ⟨N0 n z.ls,(Ks n.op z.v o.v).1⟩ else if (Ks n.op z.v o.v).2 then some z else none := rfl
   refine MS.Yh (hM2.mono (ho.up.trans (D1.trans Mu))) bg (fun F6 => ⟨_,_,_,_,_,rfl,fun _ => ⟨fun _ => next _ _ _ _ _ rfl ?_,fun hh => (by cases hh)⟩⟩) fun v e he hE => ?_
   · rw [e1,F6]; simpa using Kl
   obtain ⟨p5,n5,c5,rfl,_⟩ := hE
   rw [he] at e1
   dsimp only at e1
   refine ⟨_,_,_,_,_,rfl,fun _ => ⟨fun hh => (by cases hh),fun _ => HU ⟨_,_,rfl,CX ⟨_,rfl,?_⟩⟩⟩⟩
   have bare : (Fc n.op = false ∨ n.bool = true) → ∀ tb,tb = n.bool → Al σ4 fun ua => AJ prog (Builtin.append_ #[67,67] 67 #[.slice p8 n8 c8,(.slice (aD ua 0) 1 1)]) (Hp.set σ4 ua (.cells #[.slice p' n' c',.int .u64 (Ks n.op z.v e.v).1] 71 (0,0))) (CS fun qp XF qq Fv => An.M8 R n.kind n.op n.text p k c n.width n.back n.EG q m d tb n.parts 0 0 none 0 0 none 0 0 (some my) qp XF qq (aD b1 o1) nx cx nx i Fv) := fun hc tb qS =>
     fun dM AAA => AV.el Kl hrk (by omega) (fun p9 c9 σ5 QO _ => ⟨_,_,_,rfl,next _ _ _ _ _ qS (by rw [e1,if_pos hc]; exact QO)⟩) AAA
   refine ⟨fun hcf => bare (.inl hcf) _ rfl,fun hct => ⟨fun hb => bare (.inr hb) _ hb.symm,fun hb => ⟨fun gn => fun EE nq => ?_,fun gn => next _ _ _ _ _ hb.symm ?_⟩⟩⟩
   · refine AV.el Kl (FM.mono CM.mono (hX.trans Kl.2)) (by omega) (fun p9 c9 σ5 QO _ => ⟨_,_,_,rfl,next _ _ _ _ _ hb.symm ?_⟩) nq
     rw [e1,if_neg (by rw [hct,hb]; simp),if_pos gn]; exact QO
   · rw [e1,if_neg (by rw [hct,hb]; simp),if_neg (by rw [gn]; simp)]; simpa using Kl
end
end TwW
end
section
namespace TwW
open Go Tw Go.RowKit Go.Proofs.Tryz
theorem AAB : ∀ w,(Go.sizeOf 93).run prog w = .ok 4 w := fun w => by kernel_rfl
abbrev WW (x : Vv) (p : Option Addr) (n c : Nat) (q : Option Addr) (m d : Nat) : Array Value := #[.int .i64 x.kind,.int .u64 x.v,.slice p n c,.slice q m d]
abbrev ndC (n : Nd) (p : Option Addr) (k c : Nat) (q : Option Addr) (m d : Nat) : Array Value := #[.int .i64 n.kind,.int .i64 n.op,.string n.text,.slice p k c,.int .i64 n.width,.int .i64 n.back,.int .i64 n.EG,.slice q m d,.bool n.bool,.int .i64 n.parts]
section
variable {σ σ' σ0 : Hp} {R : Rr}
theorem Su {b : Nat} {c : Array Value} {v0 v1 v2 v3 : Value} {Φ : Unit → Hp → Prop} (hc : c.size = 4) (hb : σ b = some (.cells c 93 (0,0))) (h1 : ∀ u ∈ [v0,v1,v2,v3],u.oneCell' = true) (hv : (Value.agg #[v0,v1,v2,v3]).cells = #[v0,v1,v2,v3])
   (h : Φ () (σ.set b (.cells #[v0,v1,v2,v3] 93 (0,0)))) : AJ prog (Instr.storeAt 93 (.pointer (some ⟨b,0,none⟩)) (.agg #[v0,v1,v2,v3])) σ Φ := by
 refine AJ.store AAB hb (by rw [hv]; rfl) (by omega) (by rw [hv]; simpa using h1) ?_
 rw [hv,Sc (by rw [hc]; rfl)]
 exact h
theorem As.Fi {b : Nat} {c : List Value} {T : TypeId} (h : σ b = some (.cells c.toArray T (0,0))) : As σ b 0 c := As.of fun j v hj => by
 rw [Nat.zero_add]; exact AU h (by simpa using hj)
theorem nr {n : Nd} {p q a l : Option Addr} {k c m d j e : Nat} {L : List Vv} {x y : Vv} (hs : E4 1 σ q m (n.names.map .string)) (hr : Ae 4 Me σ l j L) (hx : L[0]? = some x) (hy : L[1]? = some y) (hVx : gw x) (hVy : gw y) (h : IH R σ (sG FF n x y)) :
   Spec prog 105 #[.pointer a,Ll n p k c q m d,.slice l j e] σ R := by
 have hj : 1 < j := by have h1 : L.length = j := hr.1; have := (List.getElem?_eq_some_iff.1 hy).1; omega
 obtain ⟨b,o,px,nx,cx,qx,mx,dx,rfl,h1,h2,h3,h4,h5,h6⟩ := Me.at hr hx
 obtain ⟨_,_,py,ny,cy,qy,my,dy,he,g1,g2,g3,g4,g5,g6⟩ := Me.at hr hy
 cases he
 simp only [Nat.zero_mul,Nat.add_zero,Nat.one_mul] at h1 h2 h3 h4 g1 g2 g3 g4
 have ZZ := hVx.len
 have bI := hVy.len
 have nj := fun z hz => (hVx.el z hz).1
 have jE := fun z hz => (hVy.el z hz).1
 refine Cz.start fun b4 hb4 _ => ?_
 have x4 := Ext.set (o := .cells (ndC n p k c q m d) 36 (0,0)) hb4
 have c4 := Hp.AB σ b4 (.cells (ndC n p k c q m d) 36 (0,0))
 generalize AAC : σ.set b4 (.cells (ndC n p k c q m d) 36 (0,0)) = σ4 at *
 refine ⟨b,o,rfl,by omega,x.kind,x.v,px,nx,cx,qx,mx,dx,⟨x4.ld h1,x4.ld h2,x4.ld h3,x4.ld h4,trivial⟩,by omega,y.kind,y.v,py,ny,cy,qy,my,dy,⟨x4.ld g1,x4.ld g2,x4.ld g3,x4.ld g4,trivial⟩,fun b8 hb8 b9 hb9 => ?_,fun b9 hb9 b8 hb8 => ?_⟩
 focus
   have n8 : b8 ≠ b9 := fun e => by rw [e,Hp.AB] at hb9; cases hb9
   have n9 := (Hp.AX hb9).2
   have nb : ∀ k o,σ4 k = some o → k ≠ b8 ∧ k ≠ b9 := fun k o hk => ⟨fun e => (by rw [e,hb8] at hk; cases hk),fun e => (by rw [e,n9] at hk; cases hk)⟩
   refine Su rfl (by rw [Hp.AI n8]; exact Hp.AB _ _ _) (by simp [Value.oneCell']) rfl ?_
   refine ⟨fun kb GG u hu => ?_,Su rfl (by rw [Hp.AI (Ne.symm n8)]; exact Hp.AB _ _ _) (by simp [Value.oneCell']) rfl ?_⟩
   · rw [List.mem_singleton] at GG
     subst GG
     have Zf : ∃ u,σ4 kb = some u := by
       have := x4.ld h1
       unfold Hp.ld at this
       cases hq : σ4 kb with
       | none => rw [hq] at this; cases this
       | some u => exact ⟨u,rfl⟩
     obtain ⟨u',C1⟩ := Zf
     rw [Hp.AI (nb _ _ C1).1]; exact hu
   have F8 : ((((σ4.set b8 (.cells #[.int .i64 0,.int .u64 0,.slice none 0 0,.slice none 0 0] 93 (0,0))).set b9 (.cells #[.int .i64 0,.int .u64 0,.slice none 0 0,.slice none 0 0] 93 (0,0))).set b8 (.cells (WW x px nx cx qx mx dx) 93 (0,0))).set b9 (.cells (WW y py ny cy qy my dy) 93 (0,0))) b8 = some (.cells (WW x px nx cx qx mx dx) 93 (0,0)) := by rw [Hp.AI n8,Hp.AB]
   have F9 := Hp.AB (((σ4.set b8 (.cells #[.int .i64 0,.int .u64 0,.slice none 0 0,.slice none 0 0] 93 (0,0))).set b9 (.cells #[.int .i64 0,.int .u64 0,.slice none 0 0,.slice none 0 0] 93 (0,0))).set b8 (.cells (WW x px nx cx qx mx dx) 93 (0,0))) b9 (.cells (WW y py ny cy qy my dy) 93 (0,0))
   have X2 : Ext σ4 ((((σ4.set b8 (.cells #[.int .i64 0,.int .u64 0,.slice none 0 0,.slice none 0 0] 93 (0,0))).set b9 (.cells #[.int .i64 0,.int .u64 0,.slice none 0 0,.slice none 0 0] 93 (0,0))).set b8 (.cells (WW x px nx cx qx mx dx) 93 (0,0))).set b9 (.cells (WW y py ny cy qy my dy) 93 (0,0))) := fun k o hk => by
     obtain ⟨a1,a2⟩ := nb k o hk
     rw [Hp.AI a2,Hp.AI a1,Hp.AI a2,Hp.AI a1]; exact hk
   generalize ((((σ4.set b8 (.cells #[.int .i64 0,.int .u64 0,.slice none 0 0,.slice none 0 0] 93 (0,0))).set b9 (.cells #[.int .i64 0,.int .u64 0,.slice none 0 0,.slice none 0 0] 93 (0,0))).set b8 (.cells (WW x px nx cx qx mx dx) 93 (0,0))).set b9 (.cells (WW y py ny cy qy my dy) 93 (0,0))) = y2 at *
 rotate_left
 focus
   have n8 : b9 ≠ b8 := fun e => by rw [e,Hp.AB] at hb8; cases hb8
   have n9 := (Hp.AX hb8).2
   have nb : ∀ k o,σ4 k = some o → k ≠ b8 ∧ k ≠ b9 := fun k o hk => ⟨fun e => (by rw [e,n9] at hk; cases hk),fun e => (by rw [e,hb9] at hk; cases hk)⟩
   refine Su rfl (Hp.AB _ _ _) (by simp [Value.oneCell']) rfl ?_
   refine ⟨fun kb GG u hu => ?_,Su rfl (by rw [Hp.AI n8,Hp.AI n8]; exact Hp.AB _ _ _) (by simp [Value.oneCell']) rfl ?_⟩
   · rw [List.mem_singleton] at GG
     subst GG
     have Zf : ∃ u,σ4 kb = some u := by
       have := x4.ld h1
       unfold Hp.ld at this
       cases hq : σ4 kb with
       | none => rw [hq] at this; cases this
       | some u => exact ⟨u,rfl⟩
     obtain ⟨u',C1⟩ := Zf
     rw [Hp.AI (nb _ _ C1).1]; exact hu
   have F8 : ((((σ4.set b9 (.cells #[.int .i64 0,.int .u64 0,.slice none 0 0,.slice none 0 0] 93 (0,0))).set b8 (.cells #[.int .i64 0,.int .u64 0,.slice none 0 0,.slice none 0 0] 93 (0,0))).set b8 (.cells (WW x px nx cx qx mx dx) 93 (0,0))).set b9 (.cells (WW y py ny cy qy my dy) 93 (0,0))) b8 = some (.cells (WW x px nx cx qx mx dx) 93 (0,0)) := by rw [Hp.AI (Ne.symm n8),Hp.AB]
   have F9 := Hp.AB (((σ4.set b9 (.cells #[.int .i64 0,.int .u64 0,.slice none 0 0,.slice none 0 0] 93 (0,0))).set b8 (.cells #[.int .i64 0,.int .u64 0,.slice none 0 0,.slice none 0 0] 93 (0,0))).set b8 (.cells (WW x px nx cx qx mx dx) 93 (0,0))) b9 (.cells (WW y py ny cy qy my dy) 93 (0,0))
   have X2 : Ext σ4 ((((σ4.set b9 (.cells #[.int .i64 0,.int .u64 0,.slice none 0 0,.slice none 0 0] 93 (0,0))).set b8 (.cells #[.int .i64 0,.int .u64 0,.slice none 0 0,.slice none 0 0] 93 (0,0))).set b8 (.cells (WW x px nx cx qx mx dx) 93 (0,0))).set b9 (.cells (WW y py ny cy qy my dy) 93 (0,0))) := fun k o hk => by
     obtain ⟨a1,a2⟩ := nb k o hk
     rw [Hp.AI a2,Hp.AI a1,Hp.AI a1,Hp.AI a2]; exact hk
   generalize ((((σ4.set b9 (.cells #[.int .i64 0,.int .u64 0,.slice none 0 0,.slice none 0 0] 93 (0,0))).set b8 (.cells #[.int .i64 0,.int .u64 0,.slice none 0 0,.slice none 0 0] 93 (0,0))).set b8 (.cells (WW x px nx cx qx mx dx) 93 (0,0))).set b9 (.cells (WW y py ny cy qy my dy) 93 (0,0))) = y2 at *
 all_goals
   have F4 := X2 _ _ c4
   have X := x4.trans X2
   have F4' := As.Fi (c := [.int .i64 n.kind,.int .i64 n.op,.string n.text,.slice p k c,.int .i64 n.width,.int .i64 n.back,.int .i64 n.EG,.slice q m d,.bool n.bool,.int .i64 n.parts]) F4
   have hn := h.gj X
   unfold sG at hn
   refine ⟨x.kind,AU F8 rfl,fun nu => ⟨y.kind,AU F9 rfl,fun wF => ?_,fun wF => ?_⟩,fun nu => ?_⟩
   · rw [if_pos ⟨nu,wF⟩] at hn
     exact ⟨_,_,_,_,_,_,_,_,_,_,_,_,_,_,F4',x.v,AU F8 rfl,y.v,AU F9 rfl,HU ⟨_,_,rfl,hn.ok _ y2 none 0 0 none 0 0 rfl (.refl _) Ae.nil Ae.nil (Nat.le_refl _) (Nat.le_refl _)⟩⟩
   · rw [if_neg (fun hh => wF hh.2),if_pos nu] at hn
     refine ⟨x.kind,AU F8 rfl,fun _ => ⟨_,_,_,_,_,_,_,_,_,_,_,_,_,_,F4',py,ny,cy,AU F9 rfl,Ss (g := fun v => Ks n.op x.v v) (g5.mono Bp.mono X) jE (by omega) DE.en (fun σ2 v R' A5 LM => ?_) hn.Te⟩,fun hh => absurd nu hh⟩
     exact DE.start ⟨_,_,_,_,_,_,_,_,_,_,_,_,_,_,F4'.mono A5,x.v,AU (A5 _ _ F8) rfl,HU ⟨_,_,rfl,LM⟩⟩
   · rw [if_neg (fun hh => nu hh.1),if_neg nu] at hn
     refine ⟨x.kind,AU F8 rfl,fun hh => absurd hh nu,fun _ => ⟨y.kind,AU F9 rfl,fun wF => ?_,fun wF => ⟨n.op,AU F4 rfl,PR ⟨_,rfl,fun CV => ?_,fun CV => ?_⟩⟩⟩⟩
     · rw [if_pos wF] at hn
       refine ⟨_,_,_,_,_,_,_,_,_,_,_,_,_,_,F4',px,nx,cx,AU F8 rfl,Ss (g := fun v => Ks n.op v y.v) (h5.mono Bp.mono X) nj (by omega) C9.en (fun σ2 v R' A5 LM => ?_) hn.Te⟩
       exact C9.start ⟨_,_,_,_,_,_,_,_,_,_,_,_,_,_,F4'.mono A5,y.v,AU (A5 _ _ F9) rfl,HU ⟨_,_,rfl,LM⟩⟩
     · rw [if_neg wF,if_pos (of_decide_eq_true CV)] at hn
       exact ⟨_,_,_,_,_,_,_,_,_,_,_,_,_,_,F4',px,nx,cx,AU F8 rfl,py,ny,cy,AU F9 rfl,hJ (hs.mono X) (h5.mono Bp.mono X) (g5.mono Bp.mono X) nj jE (by omega) hn.Te⟩
     · rw [if_neg wF,if_neg (of_decide_eq_false CV)] at hn
       exact ⟨_,_,_,_,_,_,_,_,_,_,_,_,_,_,F4',px,nx,cx,AU F8 rfl,py,ny,cy,AU F9 rfl,V3 (hs.mono X) (h5.mono Bp.mono X) (g5.mono Bp.mono X) nj jE (by omega) hn.Te⟩
end
end TwW
end
section
namespace TwW
open Go Tw Go.RowKit Go.Proofs.Tryz
structure GR where
 b : Nat
 lp : Option Addr
 ln : Nat
 lc : Nat
 vp : Option Addr
 vn : Nat
 vc : Nat
def GR.cl (r : GR) : List Nat := r.b :: Qh r.vp
def GR.cell (r : GR) : Obj := .cells #[.slice r.lp r.ln r.lc,.slice r.vp r.vn r.vc] 189 (0,0)
def E1 : List Rg → List GR → List (ByteArray × Nat)
 | g :: gs,r :: rs => (GK g.ls,r.b) :: E1 gs rs
 | _,_ => []
structure GS (τ σ : Hp) (m : Nat) (op : Option Addr) (on oc : Nat) (rs : List GR) (gs : List Rg) : Prop where
 len : rs.length = gs.length
 map : MS (fun v b => v = .pointer (aD b 0)) σ m (E1 gs rs)
 ord : A6 1 σ op on oc (rs.map fun r => .pointer (aD r.b 0))
 box : ∀ (i : Nat) (r : GR) (g : Rg),rs[i]? = some r → gs[i]? = some g → σ r.b = some r.cell ∧ Fo τ r.lp r.ln g.ls ∧ Da .u64 σ r.vp r.vn r.vc g.vs
 om : ∀ a,op = some a → a.block ≠ m ∧ τ a.block = none
 dm : ∀ (i : Nat) (r : GR),rs[i]? = some r → ∀ k ∈ r.cl,k ≠ m ∧ (∀ a,op = some a → k ≠ a.block) ∧ τ k = none
 vb : ∀ (i : Nat) (r : GR),rs[i]? = some r → ∀ a,r.vp = some a → a.block ≠ r.b
 dr : ∀ (i j : Nat) (r r' : GR),i ≠ j → rs[i]? = some r → rs[j]? = some r' → ∀ k ∈ r.cl,k ∉ r'.cl
 tm : τ m = none
 ext : Ext τ σ
theorem sn : ∀ w,(Go.sizeOf 187).run prog w = .ok 1 w := fun w => by kernel_rfl
theorem so {p : Option Addr} {k : Nat} : k ∈ Qh p ↔ ∃ a,p = some a ∧ k = a.block := by
 cases p with
 | none => simp [Qh]
 | some a => simp [Qh]
theorem I3 {r : GR} {k : Nat} : k ∈ r.cl ↔ k = r.b ∨ ∃ a,r.vp = some a ∧ k = a.block := by
 unfold GR.cl
 rw [List.mem_cons,so]
theorem A6.of_eq {s : Nat} {σ σ' : Hp} {p : Option Addr} {n c : Nat} {cs : List Value} (ho : A6 s σ p n c cs) (h : ∀ a,p = some a → σ' a.block = σ a.block) : A6 s σ' p n c cs :=
 ⟨ho.1,ho.2.1,ho.2.2.imp id fun ⟨b',o',arr,T,hp,hb,r⟩ => ⟨b',o',arr,T,hp,by rw [h _ hp]; exact hb,r⟩⟩
theorem Um : ∀ {gs : List Rg} {rs : List GR} {i : Nat} {g g' : Rg} {r r' : GR},gs[i]? = some g → rs[i]? = some r → g'.ls = g.ls → r'.b = r.b → E1 (gs.set i g') (rs.set i r') = E1 gs rs
 | [],_,i,_,_,_,_,hg,_,_,_ => by simp at hg
 | _ :: _,[],i,_,_,_,_,_,hr,_,_ => by simp at hr
 | a :: gs,b :: rs,0,g,g',r,r',hg,hr,h1,h2 => by
   simp only [List.getElem?_cons_zero,Option.some.injEq] at hg hr
   subst hg; subst hr
   simp only [List.set_cons_zero,E1,h1,h2]
 | a :: gs,b :: rs,i + 1,g,g',r,r',hg,hr,h1,h2 => by
   simp only [List.set_cons_succ,E1]
   rw [Um (by simpa using hg) (by simpa using hr) h1 h2]
theorem Un : ∀ {gs : List Rg} {rs : List GR} {g : Rg} {r : GR},rs.length = gs.length → E1 (gs ++ [g]) (rs ++ [r]) = E1 gs rs ++ [(GK g.ls,r.b)]
 | [],[],g,r,_ => rfl
 | [],_ :: _,g,r,h => by simp at h
 | _ :: _,[],g,r,h => by simp at h
 | a :: gs,b :: rs,g,r,h => by
   simp only [List.cons_append,E1]
   rw [Un (by simpa using h)]
theorem Sv : ∀ {gs : List Rg} {rs : List GR} {ls : List Lb} {v : Int} {b : Nat},rs.length = gs.length → DO (E1 gs rs) (GK ls) = some b → ∃ (i : Nat) (g : Rg) (r : GR),gs[i]? = some g ∧ rs[i]? = some r ∧ r.b = b ∧ Lj ls v gs = gs.set i ⟨g.ls,g.vs ++ [v]⟩
 | [],_,ls,v,b,_,h => by simp [E1,DO] at h
 | _ :: _,[],ls,v,b,hl,h => by simp at hl
 | g :: gs,r :: rs,ls,v,b,hl,h => by
   unfold E1 DO at h
   by_cases hk : GK g.ls = GK ls
   · rw [if_pos hk] at h
     exact ⟨0,g,r,rfl,rfl,by simpa using h,by unfold Lj; rw [if_pos hk]; rfl⟩
   · rw [if_neg hk] at h
     obtain ⟨i,g',r',h1,h2,h3,h4⟩ := Sv (v := v) (by simpa using hl) h
     exact ⟨i + 1,g',r',by simpa using h1,by simpa using h2,h3,by unfold Lj; rw [if_neg hk,h4]; rfl⟩
theorem Sx : ∀ {gs : List Rg} {rs : List GR} {ls : List Lb} {v : Int},rs.length = gs.length → DO (E1 gs rs) (GK ls) = none → Lj ls v gs = gs ++ [⟨ls,[v]⟩] ∧ ∀ a ∈ E1 gs rs,a.1 ≠ GK ls
 | [],_,ls,v,_,h => ⟨rfl,fun a ha => by simp [E1] at ha⟩
 | _ :: _,[],ls,v,hl,h => by simp at hl
 | g :: gs,r :: rs,ls,v,hl,h => by
   unfold E1 DO at h
   by_cases hk : GK g.ls = GK ls
   · rw [if_pos hk] at h; cases h
   · rw [if_neg hk] at h
     obtain ⟨h1,h2⟩ := Sx (v := v) (by simpa using hl) h
     refine ⟨by unfold Lj; rw [if_neg hk,h1]; rfl,fun a ha => ?_⟩
     unfold E1 at ha
     rcases List.mem_cons.1 ha with rfl | ha
     · exact hk
     · exact h2 a ha
section
variable {τ σ σ' σ0 : Hp} {R : Rr} {m on oc : Nat} {op : Option Addr} {rs : List GR} {gs : List Rg}
theorem GS.known (h : GS τ σ m op on oc rs gs) {i : Nat} {r : GR} (hr : rs[i]? = some r) : ∀ k ∈ r.cl,∃ u,σ k = some u := fun k hk => by
 have Ax := (List.getElem?_eq_some_iff.1 hr).1
 obtain ⟨g,hg⟩ : ∃ g,gs[i]? = some g := ⟨_,List.getElem?_eq_getElem (by rw [← h.len]; exact Ax)⟩
 obtain ⟨h1,_,h3⟩ := h.box i r g hr hg
 rcases I3.1 hk with rfl | ⟨a,ha,rfl⟩
 · exact ⟨_,h1⟩
 · have := A6.block h3 a ha
   cases hh : σ a.block with
   | none => exact absurd hh this
   | some u => exact ⟨u,rfl⟩
theorem GS.grow (h : GS τ σ m op on oc rs gs) (hx : Ext σ σ') : ∃ τ',GS τ' σ' m op on oc rs gs ∧ Ext τ τ' ∧ Ext (σ.new σ') τ' := by
 have ht : Ext τ (τ.or (σ.new σ')) := Ext.sD _ _
 have kn : ∀ k,(∃ u,σ k = some u) → τ k = none → (τ.or (σ.new σ')) k = none := fun k ⟨u,hu⟩ hk => by
   rw [Hp.bB hk]
   cases hh : (σ.new σ') k with
   | none => rfl
   | some v => rw [(Aa.1 hh).1] at hu; cases hu
 have ne : ∀ k,σ k ≠ none → ∃ u,σ k = some u := fun k hk => by
   cases hh : σ k with
   | none => exact absurd hh hk
   | some u => exact ⟨u,rfl⟩
 refine ⟨τ.or (σ.new σ'),⟨h.len,h.map.mono hx,h.ord.mono hx,fun i r g hr hg => ?_,fun a ha => ⟨(h.om a ha).1,kn _ (ne _ (h.ord.block a ha)) (h.om a ha).2⟩,fun i r hr k hk => ?_,h.vb,h.dr,kn _ (ne _ h.map.known) h.tm,?_⟩,ht,?_⟩
 · obtain ⟨h1,h2,h3⟩ := h.box i r g hr hg
   exact ⟨hx _ _ h1,h2.mono CM.mono ht,h3.mono hx⟩
 · obtain ⟨h1,h2,h3⟩ := h.dm i r hr k hk
   exact ⟨h1,h2,kn k (h.known hr k hk) h3⟩
 · exact Ext.mi (h.ext.trans hx) (Ext.Cb _ _)
 · refine Ext.bB fun k hk => ?_
   cases hh : τ k with
   | none => rfl
   | some u =>
     have h1 := h.ext _ _ hh
     cases h2 : (σ.new σ') k with
     | none => exact absurd h2 hk
     | some v => rw [(Aa.1 h2).1] at h1; cases h1
theorem GS.push {i : Nat} {r : GR} {g : Rg} {v : Int} (h : GS τ σ m op on oc rs gs) (hr : rs[i]? = some r) (hg : gs[i]? = some g) (hb : r.vn ≤ 1000000000000) {Φ : Hp → Prop}
   (hΦ : ∀ σ' r',GS τ σ' m op on oc (rs.set i r') (gs.set i ⟨g.ls,g.vs ++ [v]⟩) → Φ σ') :
   Al σ fun b69 => AJ prog (Builtin.append_ #[187,187] 187 #[.slice r.vp r.vn r.vc,(.slice (aD b69 0) 1 1)]) (Hp.set σ b69 (.cells #[.int .u64 v] 48 (0,0))) (CS fun p70 n70 c70 y => AJ prog (Instr.storeAt 187 (.pointer (aD r.b 1)) (.slice p70 n70 c70)) y (fun _ AF => Φ AF)) := fun b69 AML => by
 obtain ⟨h1,h2,h3⟩ := h.box i r g hr hg
 have vw := (List.getElem?_eq_some_iff.1 hr).1
 have hig := (List.getElem?_eq_some_iff.1 hg).1
 have x1 := Ext.set (o := .cells #[.int .u64 v] 48 (0,0)) AML
 refine Dm (A6.mono x1 h3) (SP (f := .int .u64) (x := v) (Hp.AB _ _ _)) GF.QA (by omega) fun vp' vc' σ2 Ba A5 => ⟨_,_,_,rfl,?_⟩
 have hvb := h.vb i r hr
 have TJ : ∀ k u,σ k = some u → (∀ a,r.vp = some a → k ≠ a.block) → σ2 k = some u ∧ ∀ a,vp' = some a → k ≠ a.block := fun k u hk A4 => by
   obtain ⟨a1,a2⟩ := AP.1 (A5 k u (AP.2 ⟨A4,x1 _ _ hk⟩))
   exact ⟨a2,a1⟩
 obtain ⟨c1,c2⟩ := TJ r.b _ h1 fun a ha e => hvb a ha e.symm
 refine AJ.store sn c1 rfl (by simp) (by simp [Value.cells,Value.oneCell']) ?_
 let r' : GR := ⟨r.b,r.lp,r.ln,r.lc,vp',r.vn + 1,vc'⟩
 have Ti : (Obj.cells (Mp #[.slice r.lp r.ln r.lc,.slice r.vp r.vn r.vc] 1 (Value.slice vp' (r.vn + 1) vc').cells.toList) 189 (0,0)) = r'.cell := by simp [Mp,Value.cells,GR.cell,r']
 rw [Ti]
 have T : ∀ k u,σ k = some u → k ∉ r.cl → (σ2.set r.b r'.cell) k = some u ∧ k ∉ r'.cl := fun k u hk ik => by
   have Mv : k ≠ r.b := fun e => ik (I3.2 (.inl e))
   obtain ⟨a1,a2⟩ := TJ k u hk fun a ha e => ik (I3.2 (.inr ⟨a,ha,e⟩))
   exact ⟨by rw [Hp.AI Mv]; exact a1,fun hc => by
     rcases I3.1 hc with e | ⟨a,ha,e⟩
     · exact Mv e
     · exact a2 a ha e⟩
 have TK : ∀ k,(∃ u,σ k = some u) → k ∉ r.cl → (σ2.set r.b r'.cell) k = σ k ∧ k ∉ r'.cl := fun k ⟨u,hu⟩ ik => ⟨by rw [(T k u hu ik).1,hu],(T k u hu ik).2⟩
 have ne : ∀ k,σ k ≠ none → ∃ u,σ k = some u := fun k hk => by
   cases hh : σ k with
   | none => exact absurd hh hk
   | some u => exact ⟨u,rfl⟩
 have mk := TK m (ne _ h.map.known) fun hc => (h.dm i r hr m hc).1 rfl
 have ok : ∀ a,op = some a → (σ2.set r.b r'.cell) a.block = σ a.block ∧ a.block ∉ r'.cl := fun a ha => TK _ (ne _ (h.ord.block a ha)) fun hc => (h.dm i r hr _ hc).2.1 a ha rfl
 have jk : ∀ j s,j ≠ i → rs[j]? = some s → ∀ k ∈ s.cl,(σ2.set r.b r'.cell) k = σ k ∧ k ∉ r'.cl := fun j s hj hs k hk => TK k (h.known hs k hk) (h.dr j i s r hj hs hr k hk)
 have hY : ∀ j s,(rs.set i r')[j]? = some s → (j = i ∧ s = r') ∨ (j ≠ i ∧ rs[j]? = some s) := fun j s hs => by
   by_cases hj : j = i
   · subst hj
     rw [List.getElem?_set_self vw] at hs
     exact .inl ⟨rfl,by simpa using hs.symm⟩
   · rw [List.getElem?_set_ne (Ne.symm hj)] at hs
     exact .inr ⟨hj,hs⟩
 refine hΦ _ r' ⟨by simp [h.len],?_,?_,fun j s t hs ht => ?_,fun a ha => h.om a ha,fun j s hs k hk => ?_,fun j s hs a ha => ?_,fun j l s s' hjl hs TN k hk => ?_,h.tm,fun k u hk => ?_⟩
 · rw [Um (g' := ⟨g.ls,g.vs ++ [v]⟩) (r' := r') hg hr rfl rfl]; exact h.map.loc mk.1
 · have : (rs.set i r').map (fun r => Value.pointer (aD r.b 0)) = rs.map fun r => Value.pointer (aD r.b 0) := by
     rw [List.map_set]
     obtain ⟨_,e⟩ := List.getElem?_eq_some_iff.1 hr
     have : Value.pointer (aD r'.b 0) = (rs.map fun r => Value.pointer (aD r.b 0))[i]'(by simpa using vw) := by simp [e,r']
     rw [this,List.set_getElem_self]
   rw [this]; exact A6.of_eq h.ord fun a ha => (ok a ha).1
 · rcases hY j s hs with ⟨rfl,rfl⟩ | ⟨hj,TN⟩
   · rw [List.getElem?_set_self hig] at ht
     cases ht
     refine ⟨Hp.AB _ _ _,h2,?_⟩
     have := A6.AI (b := r.b) (o := r'.cell) Ba (fun a ha e => c2 a ha e.symm)
     unfold Da
     rw [List.map_append]; exact this
   · rw [List.getElem?_set_ne (Ne.symm hj)] at ht
     obtain ⟨a1,a2,a3⟩ := h.box j s t TN ht
     refine ⟨?_,a2,A6.of_eq a3 fun a ha => (jk j s hj TN _ (I3.2 (.inr ⟨a,ha,rfl⟩))).1⟩
     rw [(jk j s hj TN _ (I3.2 (.inl rfl))).1]; exact a1
 · rcases hY j s hs with ⟨rfl,rfl⟩ | ⟨hj,TN⟩
   · refine ⟨fun e => mk.2 (e ▸ hk),fun a ha e => (ok a ha).2 (e ▸ hk),?_⟩
     cases hq : τ k with
     | none => rfl
     | some u => exact absurd hk (T k u (h.ext _ _ hq) fun hc => by rw [(h.dm j r hr k hc).2.2] at hq; cases hq).2
   · exact h.dm j s TN k hk
 · rcases hY j s hs with ⟨rfl,rfl⟩ | ⟨hj,TN⟩
   · exact fun e => c2 a ha e.symm
   · exact h.vb j s TN a ha
 · rcases hY j s hs with ⟨rfl,rfl⟩ | ⟨hj,JR⟩
   · rcases hY l s' TN with ⟨rfl,rfl⟩ | ⟨hl,hs2⟩
     · exact absurd rfl hjl
     · exact fun hc => (jk l s' hl hs2 k hc).2 hk
   · rcases hY l s' TN with ⟨rfl,rfl⟩ | ⟨hl,hs2⟩
     · exact (jk j s hj JR k hk).2
     · exact h.dr j l s s' hjl JR hs2 k hk
 · exact (T k u (h.ext _ _ hk) fun hc => by rw [(h.dm i r hr k hc).2.2] at hk; cases hk).1
end
end TwW
end
section
namespace TwW
open Go Tw Go.RowKit Go.Proofs.Tryz
theorem sq : ∀ w,(zeroValue 200).run prog w = .ok (.pointer none) w := fun w => by
 have h : prog.info? 200 = some t200 := by kernel_rfl
 simp [zeroValue,typeInfo,h]
 rfl
theorem su : ∀ w,(zeroValue 201).run prog w = .ok .nilFunc w := fun w => by
 have h : prog.info? 201 = some t201 := by kernel_rfl
 simp [zeroValue,typeInfo,h]
 rfl
section
variable {τ σ σ' σ0 : Hp} {R : Rr} {m on oc : Nat} {op : Option Addr} {rs : List GR} {gs : List Rg}
theorem GS.mono (h : GS τ σ m op on oc rs gs) (hx : Ext σ σ') : GS τ σ' m op on oc rs gs :=
 ⟨h.len,h.map.mono hx,h.ord.mono hx,fun i r g hr hg => let ⟨h1,h2,h3⟩ := h.box i r g hr hg; ⟨hx _ _ h1,h2,h3.mono hx⟩,h.om,h.dm,h.vb,h.dr,h.tm,h.ext.trans hx⟩
theorem GS.add {ls : List Lb} {lp : Option Addr} {ln lc : Nat} (h : GS τ σ m op on oc rs gs) (DQ : ∀ a ∈ E1 gs rs,a.1 ≠ GK ls) (hr : Fo τ lp ln ls) (il : Ao ls) (hon : on ≤ 1000000000000) {Φ : Nat → Option Addr → Nat → Nat → Hp → Prop}
   (hΦ : ∀ b sv oc' σ',GS τ σ' m sv (on + 1) oc' (rs ++ [⟨b,lp,ln,lc,none,0,0⟩]) (gs ++ [⟨ls,[]⟩]) → Φ b sv (on + 1) oc' σ') :
   Al σ fun OP => Spec prog 49 #[.slice lp ln lc] (Hp.set σ OP (.cells #[.slice lp ln lc,.slice none 0 0] 189 (0,0))) (AA R (CT fun s56 AH => AJ prog (Instr.mapUpdate 197 (.map (some m)) (.string s56) (.pointer (aD OP 0))) AH (fun _ AZ => Al AZ fun b60 => AJ prog (Builtin.append_ #[198,198] 198 #[.slice op on oc,(.slice (aD b60 0) 1 1)]) (Hp.set AZ b60 (.cells #[(.pointer (aD OP 0))] 200 (0,0))) (CS fun p61 n61 c61 CE => Φ OP p61 n61 c61 CE)))) := fun OP nw => by
 have x1 := Ext.set (o := .cells #[.slice lp ln lc,.slice none 0 0] 189 (0,0)) nw
 have tb : τ OP = none := A7 h.ext nw
 have ne : ∀ k,σ k ≠ none → ∃ u,σ k = some u := fun k hk => by
   cases hh : σ k with
   | none => exact absurd hh hk
   | some u => exact ⟨u,rfl⟩
 have nem : OP ≠ m := fun e => h.map.known (by rw [← e]; exact nw)
 have neo : ∀ a,op = some a → OP ≠ a.block := fun a ha e => h.ord.block a ha (by rw [← e]; exact nw)
 have ncl : ∀ (i : Nat) (r : GR),rs[i]? = some r → OP ∉ r.cl := fun i r hr hc => by obtain ⟨u,hu⟩ := h.known hr _ hc; rw [nw] at hu; cases hu
 refine FD (hr.mono CM.mono (h.ext.trans x1)) il fun σ2 A5 => ⟨_,rfl,?_⟩
 have h2 := h.mono (x1.trans A5)
 have c2 := A5 _ _ (Hp.AB σ OP (.cells #[.slice lp ln lc,.slice none 0 0] 189 (0,0)))
 refine h2.map.put (x := OP) rfl fun o hM => fun b60 AGR => ?_
 rw [Og DQ] at hM
 have AMN : A6 1 (σ2.set m o) op on oc (rs.map fun r => .pointer (aD r.b 0)) := A6.of_eq h2.ord fun a ha => Hp.AI (h.om a ha).1
 refine Dm (AMN.mono (.set AGR)) (SP (f := fun v => v) (x := .pointer (aD OP 0)) (Hp.AB _ _ _)) (fun u hu => by simp at hu; subst hu; rfl) (by omega) fun sv oc' σ5 QO Ta => ⟨_,_,_,rfl,?_⟩
 have T : ∀ k u,(σ2.set m o) k = some u → (∀ a,op = some a → k ≠ a.block) → σ5 k = some u ∧ ∀ a,sv = some a → k ≠ a.block := fun k u hk A4 => by
   obtain ⟨a1,a2⟩ := AP.1 (Ta k u (AP.2 ⟨A4,(Ext.set AGR) _ _ hk⟩))
   exact ⟨a2,a1⟩
 have T2 : ∀ k u,σ2 k = some u → k ≠ m → (∀ a,op = some a → k ≠ a.block) → σ5 k = some u ∧ ∀ a,sv = some a → k ≠ a.block := fun k u hk vm => T k u (by rw [Hp.AI vm]; exact hk)
 have Tr : ∀ (i : Nat) (r : GR),rs[i]? = some r → ∀ k ∈ r.cl,σ5 k = σ2 k ∧ ∀ a,sv = some a → k ≠ a.block := fun i r hr k hk => by
   obtain ⟨u,hu⟩ := h2.known hr k hk
   obtain ⟨d1,d2,_⟩ := h.dm i r hr k hk
   obtain ⟨a1,a2⟩ := T2 k u hu d1 d2
   exact ⟨by rw [a1,hu],a2⟩
 have hm2 : ∃ u,(σ2.set m o) m = some u := ⟨_,Hp.AB _ _ _⟩
 obtain ⟨um,hum⟩ := hm2
 obtain ⟨m1,m2⟩ := T m um hum fun a ha e => (h.om a ha).1 e.symm
 have hY : ∀ (i : Nat) (r : GR),(rs ++ [(⟨OP,lp,ln,lc,none,0,0⟩ : GR)])[i]? = some r → rs[i]? = some r ∨ (i = rs.length ∧ r = ⟨OP,lp,ln,lc,none,0,0⟩) := fun i r hr => by
   rw [List.getElem?_append] at hr
   split at hr
   · exact .inl hr
   · rename_i Ax
     have tA := (List.getElem?_eq_some_iff.1 hr).1
     simp only [List.length_singleton] at tA
     have : i - rs.length = 0 := by omega
     rw [this] at hr
     exact .inr ⟨by omega,by simpa using hr.symm⟩
 have cn : ∀ k,k ∈ (⟨OP,lp,ln,lc,none,0,0⟩ : GR).cl → k = OP := fun k hk => by
   rcases I3.1 hk with e | ⟨a,ha,_⟩
   · exact e
   · cases ha
 obtain ⟨b1,b2⟩ := T2 OP _ c2 nem neo
 refine hΦ OP sv oc' σ5 ⟨by simp [h.len],?_,?_,fun i r g hi hg => ?_,fun a ha => ⟨fun e => m2 a ha e.symm,?_⟩,fun i r hi k hk => ?_,fun i r hi a ha => ?_,fun i j r r' ca hi hj k hk => ?_,h.tm,fun k u hk => ?_⟩
 · rw [Un h.len]
   exact hM.loc (by rw [m1,hum])
 · rw [List.map_append]; exact QO
 · rcases hY i r hi with BM | ⟨rfl,rfl⟩
   · have Ax := (List.getElem?_eq_some_iff.1 BM).1
     rw [List.getElem?_append_left (by rw [← h.len]; exact Ax)] at hg
     obtain ⟨a1,a2,a3⟩ := h2.box i r g BM hg
     refine ⟨?_,a2,A6.of_eq a3 fun a ha => (Tr i r BM _ (I3.2 (.inr ⟨a,ha,rfl⟩))).1⟩
     rw [(Tr i r BM _ (I3.2 (.inl rfl))).1]; exact a1
   · rw [h.len,List.getElem?_append_right (Nat.le_refl _),Nat.sub_self] at hg
     simp only [List.getElem?_cons_zero,Option.some.injEq] at hg
     subst hg
     exact ⟨b1,hr,Da.nil⟩
 · cases hq : τ a.block with
   | none => rfl
   | some u =>
     obtain ⟨_,e2⟩ := T2 a.block u (h2.ext _ _ hq) (fun e => by rw [e,h.tm] at hq; cases hq) (fun a' V0 e => by rw [e,(h.om a' V0).2] at hq; cases hq)
     exact absurd rfl (e2 a ha)
 · rcases hY i r hi with BM | ⟨rfl,rfl⟩
   · exact ⟨(h.dm i r BM k hk).1,(Tr i r BM k hk).2,(h.dm i r BM k hk).2.2⟩
   · rw [cn k hk]; exact ⟨nem,b2,tb⟩
 · rcases hY i r hi with BM | ⟨rfl,rfl⟩
   · exact h.vb i r BM a ha
   · cases ha
 · rcases hY i r hi with BM | ⟨rfl,rfl⟩
   · rcases hY j r' hj with Qc | ⟨rfl,rfl⟩
     · exact h.dr i j r r' ca BM Qc k hk
     · exact fun hc => ncl i r BM (by rw [← cn k hc]; exact hk)
   · rcases hY j r' hj with Qc | ⟨rfl,rfl⟩
     · exact fun hc => ncl j r' Qc (by rw [← cn k hk]; exact hc)
     · exact absurd rfl ca
 · exact (T2 k u (h2.ext _ _ hk) (fun e => by rw [e,h.tm] at hk; cases hk) (fun a ha e => by rw [e,(h.om a ha).2] at hk; cases hk)).1
end
end TwW
end
