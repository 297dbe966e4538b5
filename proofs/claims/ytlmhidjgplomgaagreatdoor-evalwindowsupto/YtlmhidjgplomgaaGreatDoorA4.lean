/-
  Part 4 of the proof that the law EvalWindowsUptoCardSaid of the given program answers true for every input of the given statement; the input reads behind the call as it did. (The texts: packed from 29 texts. Names are shortened by the packing program, for the bound on size.)
-/
import Derived.Test.YtlmhidjgplomgaaGreatDoorA3
import Derived.Shelf.Strings.Search3
import Derived.Shelf.Strings.Split
import Derived.Test.YtlmhidjgplomgaaGreatDoorProg
import Derived.Lib.IndexMore
import Derived.Shelf.SlSortCmp.NoneTotal
import Derived.Shelf.SlGeneric
import Derived.Ground.SlsfProg
set_option linter.all false
section
namespace TwW
open Go Tw Go.RowKit Go.Proofs.Tryz
section
variable [Er] {σ : Hp} {R : Rr}
def Ty : List Int → Int
 | [] => 0
 | v :: l => l.foldl (QT 1) (nrm v)
theorem Su {p : Option Addr} {n c : Nat} {vs : List Int} (hr : E3 .u64 σ p n vs) (h0 : 0 < n) (hc : n ≤ c) (h : R (.returned (.int .u64 (Ty vs))) σ) : Spec prog 151 #[.slice p n c] σ R := by
 have hl : vs.length = n := hr.1
 obtain ⟨v,hv⟩ := hr.ex h0
 obtain ⟨b,o,rfl,D6⟩ := E3.at hr hv
 refine FZ.start ⟨b,o,rfl,by omega,v,by simpa using D6,Fi ⟨_,rfl,by omega,?_⟩⟩
 have hs : E3 .u64 σ (Jg (aD b o) 1 c 1) (n - 1) ((vs.drop 1).take (n - 1)) := Aa.sub hr (by decide) (by omega) hc
 have hd : (vs.drop 1).take (n - 1) = vs.tail := by rw [List.drop_one,List.take_of_length_le (by rw [List.length_tail]; omega)]
 rw [hd] at hs
 have cQ : vs = v :: vs.tail := by
   cases vs with
   | nil => cases hv
   | cons a l => simp only [List.getElem?_cons_zero,Option.some.injEq] at hv; rw [hv]; rfl
 rw [cQ] at h
 change R (.returned (.int .u64 (vs.tail.foldl (QT 1) (nrm v)))) σ at h
 generalize Jg (aD b o) 1 c 1 = q at *
 suffices H : ∀ g k : Nat,∀ (q' : Option Addr) (a : Int),(0 < n - 1 → q' = q) → n - 1 - k = g → k ≤ n - 1 → vs.tail.foldl (QT 1) (nrm v) = (vs.tail.drop k).foldl (QT 1) a → FZ.BA R a q (n - 1) (c - 1) ((n - 1 : Nat) : Int) k σ from H (n - 1) 0 q (nrm v) (fun _ => rfl) (by omega) (by omega) rfl
 intro g
 induction g with
 | zero =>
   intro k q' a _ hg hk he
   refine FZ.Ac ⟨fun Az => by omega,fun _ => ?_⟩
   rw [List.drop_eq_nil_of_le (by rw [List.length_tail]; omega)] at he
   rw [he] at h; exact h
 | succ g ih =>
   intro k q' a hq hg hk he
   obtain ⟨x,hx⟩ := hs.ex (k := k) (by omega)
   obtain ⟨b',o',rfl,LM⟩ := E3.at hs hx
   rw [BC hx] at he
   refine FZ.Ac ⟨fun _ => ⟨b',o',rfl,by omega,x,by simpa using LM,YK ⟨_,rfl,AF (by omega : k < n - 1) hs.big,ih (k + 1) _ _ (fun _ => rfl) (by omega) (by omega) he⟩⟩,fun hh => by omega⟩
theorem Mi {p : Option Addr} {n c : Nat} (h : R (.returned (.int .u64 (BP n))) σ) : Spec prog 155 #[.slice p n c] σ R :=
 Gr.start (JD ⟨_,rfl,h⟩)
theorem Nq {p : Option Addr} {n c : Nat} {vs : List Int} (hr : E3 .u64 σ p n vs) (h0 : 0 < n) (hc : n ≤ c) (h : R (.returned (.int .u64 (QT 4 (Ty vs) (BP n)))) σ) : Spec prog 154 #[.slice p n c] σ R :=
 EZ.start (Su hr h0 hc ⟨_,rfl,Mi ⟨_,rfl,YM ⟨_,rfl,h⟩⟩⟩)
def YO (op : Int) (out v : Int) : Int := if YJ op v out = true ∨ nrm out = 9221120237041090560 then v else out
def Kl (op : Int) : List Int → Int
 | [] => 0
 | v :: l => nrm (l.foldl (YO op) v)
theorem Ur {op : Int} {p : Option Addr} {n c : Nat} {vs : List Int} (hr : E3 .u64 σ p n vs) (h0 : 0 < n) (hc : n ≤ c) (h : R (.returned (.int .u64 (Kl op vs))) σ) : Spec prog 202 #[.int .i64 op,.slice p n c] σ R := by
 have hl : vs.length = n := hr.1
 obtain ⟨v,hv⟩ := hr.ex h0
 obtain ⟨b,o,rfl,D6⟩ := E3.at hr hv
 refine FG.start ⟨b,o,rfl,by omega,v,by simpa using D6,by omega,?_⟩
 have hs : E3 .u64 σ (Jg (aD b o) 1 c 1) (n - 1) ((vs.drop 1).take (n - 1)) := Aa.sub hr (by decide) (by omega) hc
 have hd : (vs.drop 1).take (n - 1) = vs.tail := by rw [List.drop_one,List.take_of_length_le (by rw [List.length_tail]; omega)]
 rw [hd] at hs
 have cQ : vs = v :: vs.tail := by
   cases vs with
   | nil => cases hv
   | cons a l => simp only [List.getElem?_cons_zero,Option.some.injEq] at hv; rw [hv]; rfl
 rw [cQ] at h
 change R (.returned (.int .u64 (nrm (vs.tail.foldl (YO op) v)))) σ at h
 generalize Jg (aD b o) 1 c 1 = q at *
 suffices H : ∀ g k : Nat,∀ (a : Int),n - 1 - k = g → k ≤ n - 1 → vs.tail.foldl (YO op) v = (vs.tail.drop k).foldl (YO op) a → FG.BA R op a q (n - 1) (c - 1) ((n - 1 : Nat) : Int) k σ from H (n - 1) 0 v (by omega) (by omega) rfl
 intro g
 induction g with
 | zero =>
   intro k a hg hk he
   refine FG.Ac ⟨fun Az => by omega,fun _ => Fi ⟨_,rfl,?_⟩⟩
   rw [List.drop_eq_nil_of_le (by rw [List.length_tail]; omega)] at he
   rw [he] at h; exact h
 | succ g ih =>
   intro k a hg hk he
   obtain ⟨x,hx⟩ := hs.ex (k := k) (by omega)
   obtain ⟨b',o',rfl,LM⟩ := E3.at hs hx
   rw [BC hx,List.foldl_cons] at he
   have go : ∀ y,YO op a x = y → FG.kP R op y (aD b' o') (n - 1) (c - 1) ((n - 1 : Nat) : Int) k σ := fun y hy => FG.rO ⟨AF (by omega : k < n - 1) hs.big,ih (k + 1) y (by omega) (by omega) (by rw [← hy]; exact he)⟩
   refine FG.Ac ⟨fun _ => ⟨b',o',rfl,by omega,x,by simpa using LM,JC ⟨_,_,rfl,fun ht => go x (by unfold YO; rw [if_pos (.inl ht)]),fun hf => nR ⟨_,rfl,fun ht => go x ?_,fun hn => go a ?_⟩⟩⟩,fun hh => by omega⟩
   · unfold YO; rw [if_pos (.inr (of_decide_eq_true ht))]
   · unfold YO; rw [if_neg (by
                                 rintro (h1 | h1)
                                 · rw [h1] at hf; cases hf
                                 · exact absurd h1 (of_decide_eq_false hn))]
theorem Sv {p : Option Addr} {n c : Nat} {vs : List Int} (hr : E3 .u64 σ p n vs) (h0 : 0 < n) (hc : n ≤ c) (h : R (.returned (.int .u64 (Kl 7 vs))) σ) : Spec prog 152 #[.slice p n c] σ R := Gt.start (Ur hr h0 hc ⟨_,rfl,h⟩)
theorem ML {p : Option Addr} {n c : Nat} {vs : List Int} (hr : E3 .u64 σ p n vs) (h0 : 0 < n) (hc : n ≤ c) (h : R (.returned (.int .u64 (Kl 9 vs))) σ) : Spec prog 153 #[.slice p n c] σ R := Db.start (Ur hr h0 hc ⟨_,rfl,h⟩)
def Km (out : Int) (p : Int × Int) : Int := if YJ 7 p.2 p.1 = true then QT 1 out p.1 else out
def Kn (vs : List Int) : Int := (vs.zip vs.tail).foldl Km (QT 2 (vs.getLast?.getD 0) (vs.head?.getD 0))
theorem Sx {p : Option Addr} {n c : Nat} {vs : List Int} (hr : E3 .u64 σ p n vs) (h0 : 0 < n) (h : R (.returned (.int .u64 (Kn vs))) σ) : Spec prog 192 #[.slice p n c] σ R := by
 have hl : vs.length = n := hr.1
 have Si := hr.big
 obtain ⟨v,hv⟩ := hr.ex h0
 obtain ⟨z,hz⟩ := hr.ex (k := n - 1) (by omega)
 obtain ⟨b,o,rfl,D6⟩ := E3.at hr hv
 obtain ⟨_,_,he,we⟩ := E3.at hr hz
 cases he
 have e1 : Int.toNat ((n : Int) - 1) = n - 1 := by omega
 refine D2.start ⟨by unfold AG; omega,b,o,rfl,by omega,z,by rw [e1]; exact we,by omega,v,by simpa using D6,YL ⟨_,rfl,?_⟩⟩
 have AG2 : Kn vs = (vs.zip vs.tail).foldl Km (QT 2 z v) := by
   unfold Kn
   rw [List.getLast?_eq_getElem?,hl,hz,List.head?_eq_getElem?,hv]; rfl
 rw [AG2] at h
 suffices H : ∀ g k : Nat,∀ a : Int,n - 1 - k = g → k ≤ n - 1 → (vs.zip vs.tail).foldl Km (QT 2 z v) = ((vs.zip vs.tail).drop k).foldl Km a → D2.Ak R (aD b o) n c a ((k + 1 : Nat) : Int) σ from H (n - 1) 0 _ (by omega) (by omega) rfl
 have hlen : (vs.zip vs.tail).length = n - 1 := by rw [List.length_zip,List.length_tail]; omega
 intro g
 induction g with
 | zero =>
   intro k a hg hk he
   refine D2.AX ⟨fun Az => by omega,fun _ => ?_⟩
   rw [List.drop_eq_nil_of_le (by omega)] at he
   rw [he] at h; exact h
 | succ g ih =>
   intro k a hg hk he
   obtain ⟨x,hx⟩ := hr.ex (k := k) (by omega)
   obtain ⟨y,hy⟩ := hr.ex (k := k + 1) (by omega)
   obtain ⟨_,_,h1,LM⟩ := E3.at hr hx
   obtain ⟨_,_,h2,Mx⟩ := E3.at hr hy
   cases h1; cases h2
   have AMg : (vs.zip vs.tail)[k]? = some (x,y) := by
     rw [List.getElem?_zip_eq_some]
     exact ⟨hx,by rw [List.getElem?_tail]; exact hy⟩
   rw [BC AMg,List.foldl_cons] at he
   have e2 : Int.toNat (((k + 1 : Nat) : Int) - 1) = k := by omega
   have e3 : Int.toNat ((k + 1 : Nat) : Int) = k + 1 := by omega
   have go : ∀ w,Km a (x,y) = w → D2.XO R (aD b o) n c w ((k + 1 : Nat) : Int) σ := fun w hw => D2.QI ⟨AF (by omega : k + 1 < n) hr.big,ih (k + 1) w (by omega) (by omega) (by rw [← hw]; exact he)⟩
   refine D2.AX ⟨fun _ => ⟨b,o,rfl,by omega,y,by rw [e3]; exact Mx,by unfold AG; omega,by omega,x,by rw [e2]; exact LM,JC ⟨_,_,rfl,fun ht => ⟨by unfold AG; omega,by omega,x,by rw [e2]; exact LM,YK ⟨_,rfl,go _ ?_⟩⟩,fun hf => go _ ?_⟩⟩,fun hh => by omega⟩
   · unfold Km; rw [if_pos ht]
   · unfold Km; rw [if_neg (by rw [hf]; decide)]
end
end TwW
end
section
namespace TwW
open Go Tw Go.RowKit Go.Proofs.Tryz
theorem YQ {x : Nat} (h : IJ x = true) : ∃ s t,Ieee.double.read x = .nan s t := by
 rw [Uq] at h
 cases hd : Ieee.double.read x with
 | nan s t => exact ⟨s,t,rfl⟩
 | number => rw [hd] at h; cases h
 | infinity => rw [hd] at h; cases h
theorem wg {op : Int} {a b : Nat} (h : IJ a = true) : fAr op a b = none := by
 obtain ⟨s,t,hr⟩ := YQ h
 unfold fAr Ieee.Format.add Ieee.Format.sub Ieee.Format.mul Ieee.Format.div
 rw [hr]
 simp [Ieee.Datum.sum,Ieee.Datum.product,Ieee.Datum.quotient]
theorem wh {op : Int} {a b : Nat} (h : IJ b = true) : fAr op a b = none := by
 obtain ⟨s,t,hr⟩ := YQ h
 unfold fAr Ieee.Format.add Ieee.Format.sub Ieee.Format.mul Ieee.Format.div
 rw [hr]
 cases Ieee.double.read a <;> simp [Ieee.Datum.sum,Ieee.Datum.product,Ieee.Datum.quotient,Ieee.Datum.opposite]
theorem Sz (op : Int) (a b : Nat) : Vz op (toF a) (toF b) = Vz op a b := by
 unfold Vz
 by_cases ha : IJ a = true
 · rw [wg ha,show toF a = 9221120237041090560 by unfold toF; rw [ha]; rfl,wg YI]
 · rw [show toF a = a by unfold toF; rw [if_neg ha]]
   by_cases hb : IJ b = true
   · rw [wh hb,show toF b = 9221120237041090560 by unfold toF; rw [hb]; rfl,wh YI]
   · rw [show toF b = b by unfold toF; rw [if_neg hb]]
abbrev cN : Nat := 4604544271217802189
abbrev dN : Nat := 13827916308072577997
abbrev AG3 : Nat := 4607182418800017408
abbrev AG4 : Nat := 13830554455654793216
def ax : List (Nat × Nat) := [(AG3,0),(cN,dN),(0,AG4),(dN,dN),(AG4,0),(dN,cN),(0,AG3),(cN,cN)]
def S0 (j n : Nat) : List Int → Nat → Nat × Nat → Nat × Nat
 | [],_,a => a
 | x :: l,k,a =>
   let w := ax.getD ((j * k % n) * (8 / n)) (0,0)
   S0 j n l (k + 1) (Vz 1 a.1 (Vz 3 x.toNat w.1),Vz 1 a.2 (Vz 3 x.toNat w.2))
def sP (vs : List Int) : Nat :=
 let l := S0 (1 % vs.length) vs.length vs 0 (0,0)
 Vz 1 (Vz 3 l.1 l.1) (Vz 3 l.2 l.2)
section
variable [Er] {σ : Hp} {R : Rr}
theorem V1 {x y : Nat} (h : x ^^^ 9223372036854775808 = y) : YF prog (Op.unary .neg (.float .f64 x)) σ (.float .f64 y) := fun w _ => by subst h; rfl
theorem Tz (h : ∀ b T σ',σ b = none → σ' = σ.set b (.cells (ax.map fun p => .complex .f64 p.1 p.2).toArray T (0,0)) → R (.returned (.slice (aD b 0) 8 8)) σ') : Spec prog 263 #[] σ R := by
 refine MF.start (GL ⟨_,rfl,dN,V1 (by decide),_,_,fun w _ => rfl,dN,V1 (by decide),dN,V1 (by decide),_,_,fun w _ => rfl,dN,V1 (by decide),_,_,fun w _ => rfl,_,_,fun w _ => rfl,fun b hb => ?_⟩)
 exact h b _ _ hb rfl
theorem gA {j : Nat} (hj : j ≤ 1) {p : Option Addr} {n c : Nat} {vs : List Int} (hr : E3 .u64 σ p n vs) (hn : n = 1 ∨ n = 2 ∨ n = 4 ∨ n = 8)
   (h : ∀ re im σ',Ext σ σ' → toF re = (S0 j n vs 0 (0,0)).1 → toF im = (S0 j n vs 0 (0,0)).2 → R (.returned (.complex .f64 re im)) σ') : Spec prog 241 #[.slice p n c,.int .i64 j] σ R := by
 have hl : vs.length = n := hr.1
 have z0 : toF 0 = 0 := by
   unfold toF
   rw [if_neg]
   rw [Kj]; decide
 refine IB.start (Tz fun b T σ1 hb JY => ⟨_,_,_,rfl,?_⟩)
 have CO : Ext σ σ1 := by rw [JY]; exact .set hb
 have hlb : ∀ k,k < 8 → ∀ re im,ax[k]? = some (re,im) → σ1.ld ⟨b,0 + k * 1,none⟩ = some (.complex .f64 re im) := fun k hk re im hw => by
   rw [JY]
   unfold Hp.ld
   simp only [Hp.AB]
   have : (ax.map fun p => Value.complex .f64 p.1 p.2)[k]? = some (.complex .f64 re im) := by rw [List.getElem?_map,hw]; rfl
   simpa using this
 clear JY
 suffices H : ∀ g k : Nat,∀ re im,∀ a : Nat × Nat,n - k = g → k ≤ n → toF re = a.1 → toF im = a.2 → S0 j n vs 0 (0,0) = S0 j n (vs.drop k) k a → IB.P3 R p n c j (aD b 0) 8 8 (.complex .f64 re im) k σ1 from H n 0 0 0 (0,0) rfl (Nat.zero_le _) z0 z0 rfl
 intro g
 induction g with
 | zero =>
   intro k re im a hg hk h1 h2 he
   have Wi : k = n := by omega
   subst Wi
   rw [List.drop_eq_nil_of_le (by omega)] at he
   refine IB.NZ ⟨fun _ => ?_,fun hh => by omega⟩
   rw [he] at h
   exact h re im σ1 CO h1 h2
 | succ g ih =>
   intro k re im a hg hk h1 h2 he
   have Wi : k < n := by omega
   obtain ⟨x,hx⟩ := hr.ex Wi
   obtain ⟨b',o',rfl,D6⟩ := E3.at hr hx
   rw [BC hx] at he
   have ht : (j : Int) * k = ((j * k : Nat) : Int) := by push_cast; rfl
   have qP : j * k ≤ 8 := by
     rcases Nat.le_one_iff_eq_zero_or_eq_one.1 hj with h | h <;> subst h <;> omega
   refine IB.NZ ⟨fun hh => by omega,fun _ => ⟨b',o',rfl,by omega,x,by simpa using CO.ld D6,by unfold AG; omega,by omega,fun Lm h27 => ⟨by omega,fun RL h30 => ?_⟩⟩⟩
   have e27 : Lm = ((j * k % n : Nat) : Int) := by rw [h27,ht,Int.tmod_eq_emod_of_nonneg (by omega)]; omega
   have e30 : RL = ((8 / n : Nat) : Int) := by rw [h30]; rcases hn with h | h | h | h <;> subst h <;> rfl
   have hm : (j * k % n) * (8 / n) < 8 := by
     have := Nat.mod_lt (j * k) (show 0 < n by omega)
     rcases hn with h | h | h | h <;> subst h <;> simp at * <;> omega
   have ep : Lm * RL = (((j * k % n) * (8 / n) : Nat) : Int) := by rw [e27,e30]; push_cast; rfl
   dsimp only
   rw [ep]
   generalize hq : (j * k % n) * (8 / n) = q at *
   obtain ⟨⟨wr,wi⟩,hw⟩ : ∃ w,ax[q]? = some w := ⟨_,List.getElem?_eq_getElem (show q < ax.length from hm)⟩
   have hgd : ax.getD q (0,0) = (wr,wi) := by rw [List.getD_eq_getElem?_getD,hw]; rfl
   rw [S0,hq,hgd] at he
   refine ⟨by unfold AG; omega,b,0,rfl,by omega,wr,wi,by simpa using hlb q hm wr wi hw,GL ⟨_,rfl,fun _ _ _ h => h,re,fun w _ => rfl,wr,fun w _ => rfl,Np fun y hy => ⟨_,rfl,QS fun z hz => ⟨_,rfl,im,fun w _ => rfl,wi,fun w _ => rfl,Np fun y' hy' => ⟨_,rfl,QS fun z' hz' => ⟨_,rfl,z,z',fun w _ => rfl,AF Wi hr.big,?_⟩⟩⟩⟩⟩⟩
   refine ih (k + 1) z z' _ (by omega) (by omega) ?_ ?_ he
   · rw [hz,← Sz,h1,hy]
   · rw [hz',← Sz,h2,hy']
theorem ay {p : Option Addr} {n c : Nat} {vs : List Int} (hr : E3 .u64 σ p n vs) (hn : n = 1 ∨ n = 2 ∨ n = 4 ∨ n = 8)
   (h : ∀ σ',Ext σ σ' → R (.returned (.tuple #[.int .u64 (sP vs : Nat),.int .i64 0])) σ') : Spec prog 225 #[.slice p n c] σ R := by
 have hl : vs.length = n := hr.1
 have Ld : ∀ {t : Bool} {Q : Rr},Q (.returned (.bool true)) σ → Spec prog 240 #[.int .i64 n] σ Q := fun hq => Uf.start ⟨fun _ => hq,fun h1 => ⟨fun _ => hq,fun h2 => ⟨fun _ => hq,fun h4 => by rw [show decide ((n : Int) = 8) = true from decide_eq_true (by omega)]; exact hq⟩⟩⟩
 refine SQ.start (Ld (t := true) ?_)
 refine ⟨true,rfl,fun hf => (by cases hf),fun _ => ⟨by omega,fun x12 YC => ?_⟩⟩
 have e12 : x12 = ((1 % n : Nat) : Int) := by rw [YC,Int.tmod_eq_emod_of_nonneg (by omega)]; exact (Int.natCast_emod 1 n).symm
 rw [e12]
 refine gA (Nat.mod_le 1 n) hr hn fun re im σ1 hx h1 h2 => ⟨_,_,rfl,re,fun w _ => rfl,re,fun w _ => rfl,Np fun y hy => ⟨_,rfl,im,fun w _ => rfl,im,fun w _ => rfl,Np fun z hz => ⟨_,rfl,QS fun u hu => ⟨_,rfl,GM ⟨_,rfl,?_⟩⟩⟩⟩⟩
 have e : toF u = sP vs := by
   rw [hu,← Sz,hy,hz]
   unfold sP
   rw [hl]
   dsimp only
   rw [← h1,← h2,Sz,Sz]
 rw [e]
 exact h σ1 hx
def Us (n : Nat) : Nat := if 8 ≤ n then 8 else if 4 ≤ n then 4 else if 2 ≤ n then 2 else 1
def QU (vs : List Int) : Int := (sP (vs.drop (vs.length - Us vs.length)) : Nat)
theorem T1 {p : Option Addr} {n c : Nat} {vs : List Int} (hr : E3 .u64 σ p n vs) (h0 : 0 < n) (hc : n ≤ c)
   (h : ∀ σ',Ext σ σ' → R (.returned (.int .u64 (QU vs))) σ') : Spec prog 187 #[.slice p n c] σ R := by
 have hl : vs.length = n := hr.1
 have Si := hr.big
 have last : ∀ m : Nat,Us n = m → m ≤ n → (m = 1 ∨ m = 2 ∨ m = 4 ∨ m = 8) → AG ((n : Int) - m) ∧ ((0 : Int) ≤ ((n : Int) - m) ∧ ((n : Int) - m) ≤ (n : Int)) ∧ Spec prog 225 #[(.slice (Jg p (Int.toNat ((n : Int) - m)) c 1) (n - Int.toNat ((n : Int) - m)) (c - Int.toNat ((n : Int) - m)))] σ (AA R (fun z y => ∃ Od Vj,z = (.tuple #[.int .u64 Od,.int .i64 Vj]) ∧ R (.returned (.int .u64 Od)) y)) := fun m hm hmn hk => by
   have e : Int.toNat ((n : Int) - m) = n - m := by omega
   rw [e]
   refine ⟨by unfold AG; omega,by omega,?_⟩
   have hs := Aa.sub (i := n - m) (m := m) hr (by decide) (by omega) hc
   rw [List.take_of_length_le (by rw [List.length_drop]; omega)] at hs
   rw [show n - (n - m) = m by omega]
   refine ay hs hk fun σ' hx => ⟨_,_,rfl,?_⟩
   have := h σ' hx
   unfold QU at this
   rw [hl,hm] at this
   exact this
 have two : ∀ m x : Int,x = IntKind.i64.wrap (Int.tdiv m 2) → (m = 8 ∨ m = 4 ∨ m = 2) → x = m / 2 := fun m x hx hm => by
   rw [hx]; rcases hm with h | h | h <;> subst h <;> rfl
 refine BU.start (BU.As ⟨fun h8 => ⟨by decide,fun x1 e1 => ?_⟩,fun h8 => last 8 (by unfold Us; rw [if_pos (by omega)]) (by omega) (by omega)⟩)
 have e1 := two _ _ e1 (.inl rfl)
 subst e1
 refine BU.As ⟨fun h4 => ⟨by decide,fun x2 e2 => ?_⟩,fun h4 => last 4 (by unfold Us; rw [if_neg (by omega),if_pos (by omega)]) (by omega) (by omega)⟩
 have e2 := two _ _ e2 (.inr (.inl (by decide)))
 subst e2
 refine BU.As ⟨fun h2 => ⟨by decide,fun x3 e3 => ?_⟩,fun h2 => last 2 (by unfold Us; rw [if_neg (by omega),if_neg (by omega),if_pos (by omega)]) (by omega) (by omega)⟩
 have e3 := two _ _ e3 (.inr (.inr (by decide)))
 subst e3
 exact BU.As ⟨fun h1 => by omega,fun h1 => last 1 (by unfold Us; rw [if_neg (by omega),if_neg (by omega),if_neg (by omega)]) (by omega) (by omega)⟩
end
end TwW
end
section
namespace TwW
open Go Tw Go.RowKit Go.Proofs.Tryz
def GN (ps : List Pt) (x : Int) : Nat := ps.countP fun q => decide (q.1 ≤ x)
theorem dV {ps : List Pt} {x : Int} {i : Nat} (hi : i ≤ ps.length) (h1 : ∀ k q,k < i → ps[k]? = some q → q.1 ≤ x) (h2 : ∀ k q,i ≤ k → ps[k]? = some q → x < q.1) : GN ps x = i := by
 unfold GN
 rw [← List.take_append_drop i ps,List.countP_append]
 have e1 : (ps.take i).countP (fun q => decide (q.1 ≤ x)) = (ps.take i).length := List.countP_eq_length.2 fun q hq => by
   obtain ⟨k,hk⟩ := List.mem_iff_getElem?.1 hq
   rw [List.getElem?_take] at hk
   split at hk
   · rename_i hki; exact decide_eq_true (h1 k q hki hk)
   · cases hk
 have e2 : (ps.drop i).countP (fun q => decide (q.1 ≤ x)) = 0 := List.countP_eq_zero.2 fun q hq => by
   obtain ⟨k,hk⟩ := List.mem_iff_getElem?.1 hq
   rw [List.getElem?_drop] at hk
   have := h2 _ q (Nat.le_add_right i k) hk
   simp; omega
 rw [e1,e2,List.length_take]; omega
def YR (ps : List Pt) : Prop := ps.Pairwise fun a b => a.1 < b.1
theorem gB {ps : List Pt} (h : GK ps = true) : YR ps := by
 have hh := ((Ef ps).1 h).2
 unfold YR
 rw [List.pairwise_iff_getElem]
 intro i j hi hj M1
 induction j with
 | zero => omega
 | succ j ih =>
   have hs := hh j ps[j] ps[j + 1] (List.getElem?_eq_getElem _) (List.getElem?_eq_getElem _)
   by_cases h : i = j
   · subst h; exact hs
   · exact Int.lt_trans (ih (by omega) (by omega)) hs
theorem dW {ps : List Pt} (h : YR ps) {i j : Nat} {a b : Pt} (M1 : i < j) (ha : ps[i]? = some a) (hb : ps[j]? = some b) : a.1 < b.1 := by
 obtain ⟨h1,rfl⟩ := List.getElem?_eq_some_iff.1 ha
 obtain ⟨h2,rfl⟩ := List.getElem?_eq_some_iff.1 hb
 exact List.pairwise_iff_getElem.1 h i j h1 h2 M1
theorem AG8 {x : Int} (h0 : 0 ≤ x) (h1 : x < 18446744073709551616) : IntKind.u64.wrap x = x := by simp [IntKind.wrap,IntKind.bits,IntKind.signed]; omega
theorem AG9 {x : Int} (h0 : 0 ≤ x) (h1 : x < 9223372036854775808) : IntKind.i64.wrap x = x := by simp [IntKind.wrap,IntKind.bits,IntKind.signed]; omega
section
variable [Er] {σ : Hp} {R : Rr}
theorem dX {f : Nat} (hf : Enters prog f) (sQ : ∀ a b x σ' R',R' (.returned (.int .i64 (if a ≤ x then -1 else 1))) σ' → Spec prog f #[.agg #[.int .i64 a,.int .u64 b],.int .i64 x] σ' R') {p : Option Addr} {n c : Nat} {ps : List Pt} {x : Int} (hr : Aa 2 Co σ p n ps) (hs : YR ps)
   (h : ∀ t,R (.returned (.tuple #[.int .i64 (GN ps x),.bool t])) σ) : Spec prog 175 #[.slice p n c,.int .i64 x,.func (.func f) #[] #[]] σ R := by
 have hl : ps.length = n := hr.1
 have Si := hr.big
 refine A2.start ?_
 suffices H : ∀ g i j : Nat,j - i = g → i ≤ j → j ≤ n → (∀ k q,k < i → ps[k]? = some q → q.1 ≤ x) → (∀ k q,j ≤ k → ps[k]? = some q → x < q.1) → A2.Ak R p n c x (.func (.func f) #[] #[]) n i j σ from
   H n 0 n rfl (Nat.zero_le _) (Nat.le_refl _) (fun k q hk => by omega) (fun k q hk hq => by have := (List.getElem?_eq_some_iff.1 hq).1; omega)
 intro g
 induction g using Nat.strongRecOn with
 | _ g ih =>
   intro i j hg M1 hj h1 h2
   refine A2.AX ⟨fun Az => ⟨by unfold AG; omega,fun MC e21 => ⟨by decide,fun Jd e22 C6 e23 => ?_⟩⟩,fun Ul => ⟨fun Lv => ?_,fun Lv => ?_⟩⟩
   · rw [AG8 (by omega) (by omega)] at e21
     have AMi : Jd = ((i + j) / 2 : Nat) := by rw [e22,e21]; show ((i : Int) + j) / 2 ^ 1 = _; omega
     rw [AMi,AG9 (by omega) (by omega)] at e23
     generalize hm : (i + j) / 2 = m at *
     have him : i ≤ m ∧ m < j := by omega
     obtain ⟨q,hq⟩ := hr.ex (k := m) (by omega)
     obtain ⟨b,o,rfl,D6⟩ := Co.at hr hq
     rw [e23]
     refine ⟨b,o,rfl,by omega,q.1,q.2,by simpa using D6,f,#[],#[],rfl,hf,sQ _ _ _ _ _ ⟨_,rfl,fun AAQ => ⟨by unfold AG; omega,?_⟩,fun MR => ?_⟩⟩
     · have hq1 : q.1 ≤ x := by
         by_cases hh : q.1 ≤ x
         · exact hh
         · rw [if_neg hh] at AAQ; omega
       refine ih (j - (m + 1)) (by omega) (m + 1) j rfl (by omega) hj (fun k r hk qI => ?_) h2
       by_cases Sn : k = m
       · rw [Sn,hq] at qI; cases qI; exact hq1
       · have := dW hs (by omega : k < m) qI hq; omega
     · have hq1 : x < q.1 := by
         by_cases hh : q.1 ≤ x
         · rw [if_pos hh] at MR; omega
         · omega
       refine ih (m - i) (by omega) i m rfl (by omega) (by omega) h1 (fun k r hk qI => ?_)
       by_cases Sn : k = m
       · rw [Sn,hq] at qI; cases qI; exact hq1
       · have := dW hs (by omega : m < k) hq qI; omega
   · have e : i = j := by omega
     subst e
     have hc := dV (by omega) h1 h2
     obtain ⟨q,hq⟩ := hr.ex (k := i) (by omega)
     obtain ⟨b,o,rfl,D6⟩ := Co.at hr hq
     refine ⟨b,o,rfl,by omega,q.1,q.2,by simpa using D6,f,#[],#[],rfl,hf,sQ _ _ _ _ _ ⟨_,rfl,?_⟩⟩
     have := h (decide ((if q.1 ≤ x then (-1 : Int) else 1) = 0))
     rw [hc] at this; exact this
   · have e : i = j := by omega
     subst e
     have hc := dV (by omega) h1 h2
     have := h false
     rw [hc] at this; exact this
omit [Er] in
theorem IK {x : Int} : ∀ {ps : List Pt},YR ps → GN ps x ≤ ps.length ∧ (∀ k q,k < GN ps x → ps[k]? = some q → q.1 ≤ x) ∧ (∀ k q,GN ps x ≤ k → ps[k]? = some q → x < q.1)
 | [],_ => ⟨Nat.le_refl _,fun k q hk => by simp [GN] at hk,fun k q _ hq => by simp at hq⟩
 | a :: l,h => by
   have hl := List.pairwise_cons.1 h
   obtain ⟨h1,h2,h3⟩ := IK (x := x) (ps := l) hl.2
   by_cases ha : a.1 ≤ x
   · have e : GN (a :: l) x = GN l x + 1 := by unfold GN; rw [List.countP_cons_of_pos (by simpa using ha)]
     rw [e]
     refine ⟨by simp; exact h1,fun k q hk hq => ?_,fun k q hk hq => ?_⟩
     · cases k with
       | zero => simp at hq; subst hq; exact ha
       | succ k => exact h2 k q (by omega) (by simpa using hq)
     · cases k with
       | zero => omega
       | succ k => exact h3 k q (by omega) (by simpa using hq)
   · have e : GN (a :: l) x = 0 := by
       unfold GN
       rw [List.countP_eq_zero]
       intro q hq
       rcases List.mem_cons.1 hq with rfl | hq
       · simpa using ha
       · have := hl.1 q hq
         simp; omega
     rw [e]
     refine ⟨Nat.zero_le _,fun k q hk => by omega,fun k q _ hq => ?_⟩
     cases k with
     | zero => simp at hq; subst hq; omega
     | succ k =>
       have := hl.1 q (List.mem_of_getElem? (by simpa using hq))
       omega
omit [Er] in
theorem sR {ps : List Pt} (hs : YR ps) (DW Gy : Int) {i m : Nat} (hi : i = min (GN ps DW) (GN ps Gy)) (hm : m = GN ps Gy - i) : (ps.drop i).take m = D3 ps DW Gy := by
 obtain ⟨a1,a2,a3⟩ := IK (x := DW) hs
 obtain ⟨m1,m2,m3⟩ := IK (x := Gy) hs
 have e : ps = ps.take i ++ ((ps.drop i).take m ++ (ps.drop i).drop m) := by rw [List.take_append_drop,List.take_append_drop]
 have hf : D3 ps DW Gy = D3 (ps.take i) DW Gy ++ (D3 ((ps.drop i).take m) DW Gy ++ D3 ((ps.drop i).drop m) DW Gy) := by
   conv => lhs; rw [e]
   unfold D3
   rw [List.filter_append,List.filter_append]
 rw [hf]
 have f1 : D3 (ps.take i) DW Gy = [] := List.filter_eq_nil_iff.2 fun q hq => by
   obtain ⟨k,hk⟩ := List.mem_iff_getElem?.1 hq
   rw [List.getElem?_take] at hk
   split at hk
   · have := a2 k q (by omega) hk; simp; omega
   · cases hk
 have f2 : D3 ((ps.drop i).take m) DW Gy = (ps.drop i).take m := List.filter_eq_self.2 fun q hq => by
   obtain ⟨k,hk⟩ := List.mem_iff_getElem?.1 hq
   rw [List.getElem?_take] at hk
   split at hk
   · rename_i Sn
     rw [List.getElem?_drop] at hk
     have g1 := m2 _ q (by omega) hk
     have g2 := a3 _ q (by omega) hk
     simp; omega
   · cases hk
 have f3 : D3 ((ps.drop i).drop m) DW Gy = [] := List.filter_eq_nil_iff.2 fun q hq => by
   obtain ⟨k,hk⟩ := List.mem_iff_getElem?.1 hq
   rw [List.getElem?_drop,List.getElem?_drop] at hk
   have := m3 _ q (by omega) hk
   simp; omega
 rw [f1,f2,f3]; simp
theorem Pf {p : Option Addr} {n c : Nat} {ps : List Pt} {DW Gy : Int} (hr : Aa 2 Co σ p n ps) (hc : n ≤ c) (hs : YR ps)
   (h : ∀ q m d,Aa 2 Co σ q m (D3 ps DW Gy) → m ≤ d → R (.returned (.slice q m d)) σ) : Spec prog 141 #[.slice p n c,.int .i64 DW,.int .i64 Gy] σ R := by
 have hl : ps.length = n := hr.1
 have c1 : ∀ a b x σ' R',R' (.returned (.int .i64 (if a ≤ x then -1 else 1))) σ' → Spec prog 176 #[.agg #[.int .i64 a,.int .u64 b],.int .i64 x] σ' R' := fun a b x σ' R' hh => MH.start fun _ => ⟨fun hle => by rw [if_pos hle] at hh; exact hh,fun hle => by rw [if_neg hle] at hh; exact hh⟩
 have c2 : ∀ a b x σ' R',R' (.returned (.int .i64 (if a ≤ x then -1 else 1))) σ' → Spec prog 177 #[.agg #[.int .i64 a,.int .u64 b],.int .i64 x] σ' R' := fun a b x σ' R' hh => ME.start fun _ => ⟨fun hle => by rw [if_pos hle] at hh; exact hh,fun hle => by rw [if_neg hle] at hh; exact hh⟩
 have ha := (IK (x := DW) hs).1
 have hm := (IK (x := Gy) hs).1
 refine PM.start (dX (fun args w => call176 args w) c1 hr hs fun t => ⟨_,_,rfl,dX (fun args w => call177 args w) c2 hr hs fun t' => ⟨_,_,rfl,?_⟩⟩)
 have e : (if ((GN ps Gy : Nat) : Int) < (GN ps DW : Nat) then ((GN ps Gy : Nat) : Int) else (GN ps DW : Nat)) = ((min (GN ps DW) (GN ps Gy) : Nat) : Int) := by split <;> omega
 rw [e]
 generalize hi : min (GN ps DW) (GN ps Gy) = i
 have V2 := Aa.sub (i := i) (m := GN ps Gy - i) hr (by decide) (by omega) hc
 rw [sR hs DW Gy hi.symm rfl] at V2
 refine ⟨by omega,?_⟩
 have := h _ _ (c - i) V2 (by omega)
 simpa using this
end
end TwW
end
section
namespace TwW
open Go Tw Go.RowKit Go.Proofs.Tryz
theorem IL {α : Type} {P : α → Bool} : ∀ {l : List α} {k : Nat},k ≤ l.length → (∀ j u,j < k → l[j]? = some u → P u = true) → (∀ u,l[k]? = some u → P u = false) → (l.takeWhile P).length = k
 | [],k,hk,_,_ => by simp at hk; subst hk; rfl
 | a :: l,0,_,_,h2 => by simp [List.takeWhile,h2 a rfl]
 | a :: l,k + 1,hk,h1,h2 => by
   have ha : P a = true := h1 0 a (by omega) rfl
   simp only [List.takeWhile,ha,List.length_cons]
   rw [IL (k := k) (by simp at hk; omega) (fun j u hj hu => h1 (j + 1) u (by omega) (by simpa using hu)) (fun u hu => h2 u (by simpa using hu))]
def AV (s : ByteArray) : Nat := (s.data.toList.takeWhile Fh).length
theorem Nr (s : ByteArray) : AV s ≤ s.size := by
 unfold AV
 exact Nat.le_trans (List.Sublist.length_le (List.takeWhile_sublist _)) (Nat.le_of_eq (Array.length_toList (xs := s.data)))
section
variable [Er] {σ : Hp} {R : Rr}
omit [Er] in
theorem wj {s : ByteArray} {h : Nat} (hh : h ≤ s.size) : YF prog (Instr.sliceAt 9 (.string s) none (some (.int .i64 (h : Int))) none) σ (.string (s.extract 0 h)) := fun w _ => by
 rw [run_sliceAt_string (h := underlying9)]
 have h1 : (h : Int) ≤ s.size := by omega
 simp [Instr.slice,run_underlying underlying9,Instr.sliceBounds,run_sliceBound,h1,Result.andThen]
omit [Er] in
theorem QV {s : ByteArray} {l : Nat} (hl : l ≤ s.size) : YF prog (Instr.sliceAt 9 (.string s) (some (.int .i64 (l : Int))) none none) σ (.string (s.extract l s.size)) := fun w _ => by
 rw [run_sliceAt_string (h := underlying9)]
 have h1 : (l : Int) ≤ s.size := by omega
 simp [Instr.slice,run_underlying underlying9,Instr.sliceBounds,run_sliceBound,h1,Result.andThen]
omit [Er] in
theorem byte_at {s : ByteArray} {k : Nat} (hk : k < s.size) : ∃ u,s.data[k]? = some u ∧ s.data.toList[k]? = some u := ⟨s.data[k]'hk,by rw [Array.getElem?_eq_getElem],by rw [Array.getElem?_toList,Array.getElem?_eq_getElem]⟩
theorem Ko {s : ByteArray} (hb : s.size ≤ 4611686018427387904) (h : R (.returned (.int .i64 (AV s))) σ) : Spec prog 131 #[.string s] σ R := by
 have hlen : s.data.toList.length = s.size := Array.length_toList (xs := s.data)
 refine Gs.start ?_
 suffices H : ∀ g k : Nat,s.size - k = g → k ≤ s.size → (∀ j u,j < k → s.data.toList[j]? = some u → Fh u = true) → Gs.F3 R s k σ from H s.size 0 rfl (Nat.zero_le _) (fun j u hj => by omega)
 intro g
 induction g with
 | zero =>
   intro k hg hk h1
   have e : AV s = k := IL (by omega) h1 (fun u hu => by have := (List.getElem?_eq_some_iff.1 hu).1; omega)
   rw [e] at h
   exact Gs.As ⟨fun Az => by omega,fun _ => h⟩
 | succ g ih =>
   intro k hg hk h1
   obtain ⟨u,hu,DY⟩ := byte_at (show k < s.size by omega)
   have stop : Fh u = false → R (.returned (.int .i64 k)) σ := fun hd => by
     have e : AV s = k := IL (by omega) h1 (fun v hv => by rw [DY] at hv; cases hv; exact hd)
     rw [e] at h; exact h
   refine Gs.As ⟨fun _ => ⟨u,by omega,by simpa using hu,Ui.start ⟨fun gC => ⟨_,rfl,fun ht => ?_,fun hf => stop ?_⟩,fun gC => ⟨false,rfl,⟨fun ht => (by cases ht),fun _ => stop ?_⟩⟩⟩⟩,fun hh => by omega⟩
   · refine ⟨AF (by omega : k < s.size) hb,ih (k + 1) (by omega) (by omega) fun j v hj hv => ?_⟩
     by_cases qP : j = k
     · rw [qP,DY] at hv; cases hv
       have := of_decide_eq_true ht
       exact decide_eq_true (by omega)
     · exact h1 j v (by omega) hv
   · have := of_decide_eq_false hf
     exact decide_eq_false (by omega)
   · exact decide_eq_false (by omega)
end
end TwW
end
section
namespace TwW
open Go Tw Go.RowKit Go.Proofs.Tryz
abbrev My (n : Nd) (p : Option Addr) (k c : Nat) (q : Option Addr) (m d : Nat) : Value := .agg #[.int .i64 n.kind,.int .i64 n.op,.string n.text,.slice p k c,.int .i64 n.width,.int .i64 n.back,.int .i64 n.EH,.slice q m d,.bool n.bool,.int .i64 n.parts]
def BL (n : Nd) : Nd :=
 if n.kind = 1 then ⟨n.kind,0,n.text,[],0,0,0,[],false,0⟩
 else if n.kind = 2 then ⟨n.kind,0,ByteArray.mk #[],[],0,n.back,0,[],false,0⟩
 else if n.kind = 3 then ⟨n.kind,0,ByteArray.mk #[],[],n.width,n.back,0,[],false,0⟩
 else if n.kind = 4 then ⟨n.kind,n.op,ByteArray.mk #[],[],0,0,0,[],false,n.parts⟩
 else if n.kind = 5 then ⟨n.kind,n.op,ByteArray.mk #[],[],0,0,n.EH,[],false,n.parts⟩
 else if n.kind = 6 then ⟨n.kind,n.op,ByteArray.mk #[],[],0,0,n.EH,[],n.bool,n.parts⟩
 else ⟨n.kind,0,ByteArray.mk #[],[],0,0,0,[],false,n.parts⟩
theorem nT : ∀ w,(Go.sizeOf 2).run prog w = .ok 1 w := fun w => by kernel_rfl
theorem Ns : ∀ w,(Go.sizeOf 3).run prog w = .ok 1 w := fun w => by kernel_rfl
theorem wk : ∀ w,(Go.sizeOf 4).run prog w = .ok 1 w := fun w => by kernel_rfl
theorem AHA : ∀ w,(Go.sizeOf 9).run prog w = .ok 1 w := fun w => by kernel_rfl
theorem AAR : ∀ w,(Go.sizeOf 36).run prog w = .ok 10 w := fun w => by kernel_rfl
theorem YS {c : Array Value} {l : List Value} (h : l.length = c.size) : Mz c 0 l = l.toArray := by
 apply Array.ext_getElem?
 intro j
 rw [QB l c 0 j (by omega)]
 split
 · simp
 · rename_i hj
   rw [Array.getElem?_eq_none (by omega),List.getElem?_toArray,List.getElem?_eq_none (by omega)]
section
variable [Er] {σ : Hp} {R : Rr}
omit [Er] in
theorem nU {τ : Hp} {b T : Nat} : ∀ {l : List Value} {c : Array Value} {o : Nat},τ b = some (.cells c T (0,0)) → (∀ j v,l[j]? = some v → c[o + j]? = some v) → Au τ b o l
 | [],_,_,_,_ => trivial
 | v :: l,c,o,hb,h => ⟨by unfold Hp.ld; rw [hb]; simpa using h 0 v rfl,nU hb fun j u hu => by have := h (j + 1) u (by simpa using hu); rwa [show o + (j + 1) = o + 1 + j by omega] at this⟩
omit [Er] in
theorem dY {τ : Hp} {b : Nat} {o : Obj} (hb : σ b = none) (h : Ext σ τ) : Ext σ (τ.set b o) := fun k u hk => by
 rw [Hp.AO (fun e => by rw [e,hb] at hk; cases hk)]; exact h k u hk
set_option maxHeartbeats 4000000 in
theorem gD {n : Nd} {p q : Option Addr} {k c m d : Nat} (h : ∀ σ',Ext σ σ' → R (.returned (My (BL n) none 0 0 none 0 0)) σ') : Spec prog 121 #[My n p k c q m d] σ R := by
 refine Sb.start fun _ _ b hb => ?_
 have fin : ∀ (τ : Hp) (c : Array Value) (T : Nat),τ b = some (.cells c T (0,0)) → Ext σ τ → c = #[.int .i64 (BL n).kind,.int .i64 (BL n).op,.string (BL n).text,.slice none 0 0,.int .i64 (BL n).width,.int .i64 (BL n).back,.int .i64 (BL n).EH,.slice none 0 0,.bool (BL n).bool,.int .i64 (BL n).parts] →
     ∃ mT mU mV mW mX mY mZ mc me mg mh mi mj ml,Au τ b 0 [.int .i64 mT,.int .i64 mU,.string mV,.slice mW mX mY,.int .i64 mZ,.int .i64 mc,.int .i64 me,.slice mg mh mi,.bool mj,.int .i64 ml] ∧ R (.returned (.agg #[.int .i64 mT,.int .i64 mU,.string mV,.slice mW mX mY,.int .i64 mZ,.int .i64 mc,.int .i64 me,.slice mg mh mi,.bool mj,.int .i64 ml])) τ := fun τ c T hτ hx hc =>
   ⟨_,_,_,_,_,_,_,_,_,_,_,_,_,_,nU hτ fun j v hv => by rw [hc,Nat.zero_add]; simpa using hv,h τ hx⟩
 have st : ∀ {τ : Hp} {c : Array Value} {T U o : Nat} {v : Value} {Φ : Unit → Hp → Prop},(∀ w,(Go.sizeOf U).run prog w = .ok 1 w) → τ b = some (.cells c T (0,0)) → Ext σ τ → o + 1 ≤ c.size → v.cells = #[v] → v.oneCell' = true →
     (∀ (τ' : Hp) (c' : Array Value),c' = Mz c o [v] → c'.size = c.size → τ' b = some (.cells c' T (0,0)) → Ext σ τ' → Φ () τ') → AK prog (Instr.storeAt U (.pointer (aD b o)) v) τ Φ := fun {τ c T U o v Φ} hz hτ hx ho h1 h2 hk => by
   refine AK.store hz hτ (by rw [h1]; rfl) (by simpa using ho) (fun u hu => by rw [h1] at hu; simp at hu; rw [hu]; exact h2) ?_
   rw [h1]
   exact hk _ _ rfl (Hw _ _ _) (Hp.AB _ _ _) (dY hb hx)
 have st0 : ∀ {Φ : Unit → Hp → Prop},(∀ (τ : Hp) (c : Array Value),c = #[.int .i64 n.kind,.int .i64 0,(.string (ByteArray.mk #[])),.slice none 0 0,.int .i64 0,.int .i64 0,.int .i64 0,.slice none 0 0,.bool false,.int .i64 0] → c.size = 10 → τ b = some (.cells c 36 (0,0)) → Ext σ τ → Φ () τ) →
     AK prog (Instr.storeAt 36 (.pointer (aD b 0)) (.agg #[.int .i64 n.kind,.int .i64 0,(.string (ByteArray.mk #[])),.slice none 0 0,.int .i64 0,.int .i64 0,.int .i64 0,.slice none 0 0,.bool false,.int .i64 0])) (Hp.set σ b (.cells #[.int .i64 0,.int .i64 0,(.string (ByteArray.mk #[])),.slice none 0 0,.int .i64 0,.int .i64 0,.int .i64 0,.slice none 0 0,.bool false,.int .i64 0] 36 (0,0))) Φ := fun {Φ} hk => by
   refine AK.store AAR (Hp.AB _ _ _) rfl (by simp) (by simp [Value.cells,Value.oneCell']) ?_
   exact hk _ _ (YS rfl) (by rw [Hw]; rfl) (Hp.AB _ _ _) (dY hb (Ext.set hb))
 refine st0 fun τ c0 e0 z0 g0 x0 => ?_
 refine ⟨fun h1 => ?_,fun h1 => ⟨fun h2 => ?_,fun h2 => ⟨fun h3 => ?_,fun h3 => ⟨fun h4 => ?_,fun h4 => ⟨fun h5 => ?_,fun h5 => ⟨fun h6 => ?_,fun h6 => ?_⟩⟩⟩⟩⟩⟩
 · refine st AHA g0 x0 (by omega) rfl rfl fun τ1 c1 e1 z1 g1 x1 => fin τ1 c1 _ g1 x1 ?_
   subst e0 e1; unfold BL; simp only [h1,if_true]; rfl
 · refine st nT g0 x0 (by omega) rfl rfl fun τ1 c1 e1 z1 g1 x1 => fin τ1 c1 _ g1 x1 ?_
   subst e0 e1; unfold BL; simp only [h2,if_true]; rfl
 · refine st nT g0 x0 (by omega) rfl rfl fun τ1 c1 e1 z1 g1 x1 => ?_
   refine st nT g1 x1 (by omega) rfl rfl fun τ2 c2 e2 z2 g2 x2 => fin τ2 c2 _ g2 x2 ?_
   subst e0 e1 e2; unfold BL; simp only [h3,if_true]; rfl
 · refine st Ns g0 x0 (by omega) rfl rfl fun τ1 c1 e1 z1 g1 x1 => ?_
   refine st Ns g1 x1 (by omega) rfl rfl fun τ2 c2 e2 z2 g2 x2 => fin τ2 c2 _ g2 x2 ?_
   subst e0 e1 e2; unfold BL; simp only [h4,if_true]; rfl
 · refine st Ns g0 x0 (by omega) rfl rfl fun τ1 c1 e1 z1 g1 x1 => ?_
   refine st Ns g1 x1 (by omega) rfl rfl fun τ2 c2 e2 z2 g2 x2 => ?_
   refine st Ns g2 x2 (by omega) rfl rfl fun τ3 c3 e3 z3 g3 x3 => fin τ3 c3 _ g3 x3 ?_
   subst e0 e1 e2 e3; unfold BL; simp only [h5,if_true]; rfl
 · refine st Ns g0 x0 (by omega) rfl rfl fun τ1 c1 e1 z1 g1 x1 => ?_
   refine st Ns g1 x1 (by omega) rfl rfl fun τ2 c2 e2 z2 g2 x2 => ?_
   refine st wk g2 x2 (by omega) rfl rfl fun τ3 c3 e3 z3 g3 x3 => ?_
   refine st Ns g3 x3 (by omega) rfl rfl fun τ4 c4 e4 z4 g4 x4 => fin τ4 c4 _ g4 x4 ?_
   subst e0 e1 e2 e3 e4; unfold BL; simp only [h6,if_true]; rfl
 · refine st Ns g0 x0 (by omega) rfl rfl fun τ1 c1 e1 z1 g1 x1 => fin τ1 c1 _ g1 x1 ?_
   subst e0 e1; unfold BL; simp only [h1,h2,h3,h4,h5,h6,if_false]; rfl
end
end TwW
end
section
namespace TwW
open Go Tw Go.RowKit Go.Proofs.Tryz
section
variable {σ : Hp} {R : Rr}
theorem Cd {k : Int} (h : R (.returned (.bool (Ff k))) σ) : Spec prog 124 #[.int .i64 k] σ R := by
 refine Jq.start ⟨fun h1 => ?_,fun h1 => ?_⟩
 · rw [show Ff k = decide (k ≤ 10) by unfold Ff; rw [decide_eq_true h1]; rfl] at h; exact h
 · rw [show Ff k = false by unfold Ff; rw [decide_eq_false h1]; rfl] at h; exact h
theorem Pg {k : Int} (h : R (.returned (.bool (decide (11 ≤ k ∧ k ≤ 13)))) σ) : Spec prog 128 #[.int .i64 k] σ R := by
 refine SN.start ⟨fun h1 => ?_,fun h1 => ?_⟩
 · rw [show decide (11 ≤ k ∧ k ≤ 13) = decide (k ≤ 13) from decide_eq_decide.2 ⟨fun h => h.2,fun h => ⟨h1,h⟩⟩] at h; exact h
 · rw [show decide (11 ≤ k ∧ k ≤ 13) = false from decide_eq_false (fun hh => h1 hh.1)] at h; exact h
theorem On {v l : Int} (h : R (.returned (.bool (JT v l))) σ) : Spec prog 123 #[.int .i64 v,.int .i64 l] σ R := by
 refine SR.start ⟨fun h1 => ?_,fun h1 => ?_⟩
 · rw [show JT v l = decide (v < 2147483648) by unfold JT; rw [decide_eq_true h1]; rfl] at h; exact h
 · rw [show JT v l = false by unfold JT; rw [decide_eq_false h1]; rfl] at h; exact h
theorem Ut {k : Int} (h : R (.returned (.bool (decide (1 ≤ k ∧ k ≤ 4)))) σ) : Spec prog 125 #[.int .i64 k] σ R := by
 refine RE.start ⟨fun h1 => ?_,fun h1 => ?_⟩
 · rw [show decide (1 ≤ k ∧ k ≤ 4) = decide (k ≤ 4) from decide_eq_decide.2 ⟨fun h => h.2,fun h => ⟨h1,h⟩⟩] at h; exact h
 · rw [show decide (1 ≤ k ∧ k ≤ 4) = false from decide_eq_false (fun hh => h1 hh.1)] at h; exact h
theorem Uu {s : ByteArray} (h : R (.returned (.bool (Cj s))) σ) : Spec prog 126 #[.string s] σ R := by
 refine SS.start (Kf ?_)
 exact ⟨_,rfl,h⟩
theorem JZ.at {p : Option Addr} {n i : Nat} {ms : List Mt} {x : Mt} (hr : Aa 3 JZ σ p n ms) (hx : ms[i]? = some x) : ∃ b o,p = some ⟨b,o,none⟩ ∧ Au σ b (o + i * 3) [.int .i64 x.kind,.string x.name,.string x.val] := by
 obtain ⟨b,o,vs,hp,rfl,hl⟩ := Aa.idx hr hx
 exact ⟨b,o,hp,hl⟩
def az (m : Mt) : Bool := decide (1 ≤ m.kind ∧ m.kind ≤ 4) && Cj m.name && decide (m.val.size ≤ 256)
theorem YT {p : Option Addr} {n c : Nat} {ms : List Mt} (hr : Aa 3 JZ σ p n ms) (h : R (.returned (.int .i64 (II Cj ms))) σ) : Spec prog 80 #[.slice p n c] σ R := by
 have hl : ms.length = n := hr.1
 refine FX.start ⟨fun h8 => ?_,fun h8 => ?_⟩
 · rw [show II Cj ms = 41 by unfold II; rw [if_pos (by omega)]] at h; exact h
 have hm : II Cj ms = if ms.all az then 0 else 40 := by unfold II; rw [if_neg (by omega)]; rfl
 rw [hm] at h
 suffices H : ∀ g k : Nat,n - k = g → k ≤ n → ms.all az = (ms.drop k).all az → FX.Q6 R p n c n k σ from H n 0 rfl (Nat.zero_le _) rfl
 intro g
 induction g with
 | zero =>
   intro k hg hk he
   rw [List.drop_eq_nil_of_le (by omega)] at he
   rw [he] at h
   exact FX.NA ⟨fun Az => by omega,fun _ => h⟩
 | succ g ih =>
   intro k hg hk he
   have E4 : k < n := by omega
   obtain ⟨x,hx⟩ := hr.ex E4
   obtain ⟨b,o,rfl,D6⟩ := JZ.at hr hx
   rw [BC hx,List.all_cons] at he
   have bad : az x = false → R (.returned (.int .i64 40)) σ := fun hf => by
     rw [hf] at he
     rw [he] at h; exact h
   refine FX.NA ⟨fun _ => ⟨b,o,rfl,by omega,x.kind,x.name,x.val,by simpa using D6,fun _ => Ut ⟨_,rfl,fun hf => bad ?_,fun ht => Uu ⟨_,rfl,fun hf => bad ?_,fun hn => ⟨fun hv => bad ?_,fun hv => ⟨AF E4 hr.big,ih (k + 1) (by omega) (by omega) ?_⟩⟩⟩⟩⟩,fun hh => by omega⟩
   · unfold az; rw [hf]; rfl
   · unfold az; rw [hf]; simp
   · unfold az; rw [show decide (x.val.size ≤ 256) = false from decide_eq_false (by omega)]; simp
   · rw [he,show az x = true by unfold az; rw [ht,hn,show decide (x.val.size ≤ 256) = true from decide_eq_true (by omega)]; rfl,Bool.true_and]
end
end TwW
end
section
namespace TwW
open Go Tw Go.RowKit Go.Proofs.Tryz
section
variable {σ : Hp} {R : Rr}
theorem bA {n : Nd} {p q : Option Addr} {k c m d : Nat} (hr : G6 1 σ q m (n.names.map .string)) (h : R (.returned (.bool (Om Cj n))) σ) : Spec prog 122 #[My n p k c q m d] σ R := by
 have hl : n.names.length = m := by have := hr.1; simpa using this
 refine FY.start fun _ => ?_
 suffices H : ∀ g i : Nat,m - i = g → i ≤ m → n.names.all Cj = (n.names.drop i).all Cj → FY.MY R n.kind n.op n.text p k c n.width n.back n.EH q m d n.bool n.parts q m d m i σ from H m 0 rfl (Nat.zero_le _) rfl
 have Si : m ≤ 4611686018427387904 := hr.2.1
 intro g
 induction g with
 | zero =>
   intro i hg hi he
   rw [List.drop_eq_nil_of_le (by omega)] at he
   have e : Om Cj n = (decide (m = 0) || decide (n.EH ≠ 0)) := by unfold Om; rw [he,hl]; rfl
   rw [e] at h
   refine FY.C3 ⟨fun Az => by omega,fun _ => ⟨fun h0 => ?_,fun h0 => ?_⟩⟩
   · rw [decide_eq_true (show m = 0 by omega)] at h; exact h
   · rw [decide_eq_false (show ¬ m = 0 by omega)] at h; exact h
 | succ g ih =>
   intro i hg hi he
   have BI : i < m := by omega
   obtain ⟨x,hx⟩ : ∃ x,n.names[i]? = some x := ⟨_,List.getElem?_eq_getElem (by omega)⟩
   obtain ⟨b,o,rfl,D6⟩ := G6.at1 hr (k := i) (v := .string x) (by rw [List.getElem?_map,hx]; rfl)
   rw [BC hx,List.all_cons] at he
   refine FY.C3 ⟨fun _ => ⟨b,o,rfl,by omega,x,by simpa using D6,Uu ⟨_,rfl,fun hf => ?_,fun ht => ⟨AF BI Si,ih (i + 1) (by omega) (by omega) ?_⟩⟩⟩,fun hh => by omega⟩
   · have e : Om Cj n = false := by unfold Om; rw [he,hf]; rfl
     rw [e] at h; exact h
   · rw [he,ht,Bool.true_and]
theorem nW {a b : ByteArray} : (ByteArray.toList a == ByteArray.toList b) = decide (a.data.toList = b.data.toList) := by
 rw [ByteArray.toList_eq,ByteArray.toList_eq]
 by_cases h : a.data.toList = b.data.toList
 · simp [h]
 · rw [decide_eq_false h]; exact beq_eq_false_iff_ne.2 h
theorem AHB {a b : ByteArray} : (ByteArray.toList a == ByteArray.toList b) = decide (a = b) := by
 rw [nW]
 exact decide_eq_decide.2 ⟨fun h => ByteArray.ext (Array.toList_inj.1 h),fun h => by rw [h]⟩
def FL (a b : Nd) : Bool := decide (a.kind = b.kind ∧ a.op = b.op ∧ a.text = b.text ∧ a.width = b.width ∧ a.back = b.back ∧ a.EH = b.EH ∧ a.bool = b.bool ∧ a.parts = b.parts)
theorem bB {a b : Nd} {p p' q q' : Option Addr} {k c k' c' m d m' d' : Nat} (h : R (.returned (.bool (FL a b))) σ) : Spec prog 120 #[My a p k c q m d,My b p' k' c' q' m' d'] σ R := by
 have no : ¬ (a.kind = b.kind ∧ a.op = b.op ∧ a.text = b.text ∧ a.width = b.width ∧ a.back = b.back ∧ a.EH = b.EH ∧ a.bool = b.bool ∧ a.parts = b.parts) → R (.returned (.bool false)) σ := fun hn => by
   rw [show FL a b = false from decide_eq_false hn] at h; exact h
 have last : a.kind = b.kind ∧ a.op = b.op ∧ a.text = b.text ∧ a.width = b.width ∧ a.back = b.back ∧ a.EH = b.EH ∧ a.bool = b.bool → R (.returned (.bool (decide (a.parts = b.parts)))) σ := fun hh => by
   rw [show FL a b = decide (a.parts = b.parts) from decide_eq_decide.2 ⟨fun g => g.2.2.2.2.2.2.2,fun g => ⟨hh.1,hh.2.1,hh.2.2.1,hh.2.2.2.1,hh.2.2.2.2.1,hh.2.2.2.2.2.1,hh.2.2.2.2.2.2,g⟩⟩] at h; exact h
 refine PK.start fun _ _ => ⟨fun h1 => ⟨fun h2 => ⟨fun h3 => ?_,fun h3 => no ?_⟩,fun h2 => no fun g => h2 g.2.1⟩,fun h1 => no fun g => h1 g.1⟩
 · rw [AHB] at h3
   have h3 := of_decide_eq_true h3
   refine ⟨fun h4 => ⟨fun h5 => ⟨fun h6 => ⟨fun t1 => ⟨fun t2 => last ⟨h1,h2,h3,h4,h5,h6,t1.trans t2.symm⟩,fun t2 => no fun g => ?_⟩,fun t1 => ⟨fun t2 => no fun g => ?_,fun t2 => last ⟨h1,h2,h3,h4,h5,h6,t1.trans t2.symm⟩⟩⟩,fun h6 => no fun g => h6 g.2.2.2.2.2.1⟩,fun h5 => no fun g => h5 g.2.2.2.2.1⟩,fun h4 => no fun g => h4 g.2.2.2.1⟩
   · have := g.2.2.2.2.2.2.1; rw [t1,t2] at this; cases this
   · have := g.2.2.2.2.2.2.1; rw [t1,t2] at this; cases this
 · rw [AHB] at h3
   exact fun g => of_decide_eq_false h3 g.2.2.1
end
end TwW
end
section
namespace TwW
open Go Tw Go.RowKit Go.Proofs.Tryz
def GO (s : ByteArray) : Bool :=
 if AV s = 0 then false else if 1 < AV s ∧ s.data[0]? = some 48 then false else if AV s = s.size then decide (AV s ≤ 15)
 else decide (s.data[AV s]? = some 46 ∧ 0 < AV (s.extract (AV s + 1) s.size) ∧ AV s + 1 + AV (s.extract (AV s + 1) s.size) = s.size ∧ AV s + AV (s.extract (AV s + 1) s.size) ≤ 15)
theorem JE {u : UInt8} {k : Nat} (hk : k < 256) : ((u.toNat : Nat) : Int) = k ↔ u = UInt8.ofNat k := by
 constructor
 · intro h
   apply UInt8.toNat_inj.1
   rw [UInt8.toNat_ofNat']
   omega
 · rintro rfl
   rw [UInt8.toNat_ofNat']
   omega
section
variable {σ : Hp} {R : Rr}
theorem S1 {s : ByteArray} (hb : s.size ≤ 4611686018427387904) (h : R (.returned (.bool (GO s))) σ) : Spec prog 94 #[.string s] σ R := by
 have hle := Nr s
 refine Sa.start (Ko hb ⟨_,rfl,fun h0 => ?_,fun h0 => ⟨_,wj hle,?_⟩⟩)
 · rw [show GO s = false by unfold GO; rw [if_pos (by omega)]] at h; exact h
 have Ld : (s.extract 0 (AV s)).size = AV s := by rw [ByteArray.size_extract]; omega
 have tail : ¬ (1 < AV s ∧ s.data[0]? = some 48) → Br ((AV s : Int) = ((ByteArray.size s : Nat) : Int)) (R (.returned (.bool (decide ((AV s : Int) ≤ 15)))) σ) (AG ((AV s : Int) + 1) ∧ ∃ s24,YF prog (Instr.sliceAt 9 (.string s) (some (.int .i64 ((AV s : Int) + 1))) none none) σ (.string s24) ∧ Spec prog 131 #[.string s24] σ (AA R (CI .i64 fun Lo AL => ∃ u28 : UInt8,0 ≤ (AV s : Int) ∧ (ByteArray.data s)[Int.toNat (AV s : Int)]? = some u28 ∧ Br ((((UInt8.toNat u28 : Nat) : Int) : Int) = 46) (Br (0 < Lo) (AG ((AV s : Int) + 1) ∧ AG (((AV s : Int) + 1) + Lo) ∧ Br (((((AV s : Int) + 1) + Lo) : Int) = ((ByteArray.size s : Nat) : Int)) (AG ((AV s : Int) + Lo) ∧ R (.returned (.bool (decide ((((AV s : Int) + Lo) : Int) ≤ 15)))) AL) (R (.returned (.bool false)) AL)) (R (.returned (.bool false)) AL)) (R (.returned (.bool false)) AL)))) := fun hn => by
   refine ⟨fun he => ?_,fun he => ⟨by unfold AG; omega,s.extract (AV s + 1) s.size,QV (l := AV s + 1) (by omega),?_⟩⟩
   · rw [show GO s = decide ((AV s : Int) ≤ 15) by unfold GO; rw [if_neg (by omega),if_neg hn,if_pos (by omega)]; exact decide_eq_decide.2 (by omega)] at h; exact h
   have AMk : (s.extract (AV s + 1) s.size).size = s.size - (AV s + 1) := by rw [ByteArray.size_extract]; omega
   have hm := Nr (s.extract (AV s + 1) s.size)
   refine Ko (by omega) ?_
   obtain ⟨u,hu,_⟩ := byte_at (show AV s < s.size by omega)
   have hO : GO s = decide (s.data[AV s]? = some 46 ∧ 0 < AV (s.extract (AV s + 1) s.size) ∧ AV s + 1 + AV (s.extract (AV s + 1) s.size) = s.size ∧ AV s + AV (s.extract (AV s + 1) s.size) ≤ 15) := by unfold GO; rw [if_neg (by omega),if_neg hn,if_neg (by omega)]
   rw [hO,hu] at h
   generalize AV (s.extract (AV s + 1) s.size) = m at *
   have b46 := JE (u := u) (k := 46) (by decide)
   have no : ¬ (u = 46 ∧ 0 < m ∧ AV s + 1 + m = s.size ∧ AV s + m ≤ 15) → R (.returned (.bool false)) σ := fun hh => by
     rw [decide_eq_false (by rw [Option.some.injEq]; exact hh)] at h; exact h
   refine ⟨_,rfl,u,by omega,by simpa using hu,fun YU => ⟨fun h0m => ⟨by unfold AG; omega,by unfold AG; omega,fun hs => ⟨by unfold AG; omega,?_⟩,fun hs => no fun g => hs (by omega)⟩,fun h0m => no fun g => h0m (by omega)⟩,fun YU => no fun g => YU (b46.2 g.1)⟩
   rw [show decide (some u = some 46 ∧ 0 < m ∧ AV s + 1 + m = s.size ∧ AV s + m ≤ 15) = decide (((AV s : Int) + m) ≤ 15) from decide_eq_decide.2 ⟨fun g => by omega,fun g => ⟨by rw [b46.1 YU]; rfl,by omega,by omega,by omega⟩⟩] at h
   exact h
 refine NG.start ⟨fun h1 => ?_,fun h1 => ⟨false,rfl,fun ht => (by cases ht),fun _ => tail (by omega)⟩⟩
 obtain ⟨u,hu,_⟩ := byte_at (show 0 < s.size by omega)
 have P1 := JE (u := u) (k := 48) (by decide)
 have DY : (s.extract 0 (AV s)).data[0]? = some u := by
   rw [ByteArray.data_extract,Array.getElem?_extract]
   rw [if_pos (by have : s.data.size = s.size := rfl; omega)]
   simpa using hu
 refine ⟨u,by omega,by simpa using DY,_,rfl,fun ht => ?_,fun hf => tail ?_⟩
 · have := P1.1 (of_decide_eq_true ht)
   rw [show GO s = false by unfold GO; rw [if_neg (by omega),if_pos ⟨by omega,by rw [hu,this]; rfl⟩]] at h; exact h
 · rintro ⟨_,g⟩
   rw [hu,Option.some.injEq] at g
   exact of_decide_eq_false hf (P1.2 g)
end
end TwW
end
section
namespace TwW
open Go Tw Go.RowKit Go.Proofs.Tryz
def E5 (n : Nd) : Bool :=
 if n.kind = 1 then GO n.text else if n.kind = 2 then JT n.back 0 else if n.kind = 3 then JT n.width 1 && JT n.back 0
 else if n.kind = 4 then decide (n.parts = 1 ∧ 1 ≤ n.op ∧ n.op ≤ 12)
 else if n.kind = 5 then decide (n.parts = 1 ∧ 1 ≤ n.op ∧ n.op ≤ 5 ∧ (n.EH = 0 ∨ n.EH = 1 ∨ n.EH = 2))
 else if n.kind = 6 then decide (n.parts = 2 ∧ 1 ≤ n.op ∧ n.op ≤ 13 ∧ (n.EH = 0 ∨ n.EH = 3 ∨ n.EH = 4)) && (!n.bool || Ff n.op)
 else decide (n.kind = 7 ∧ n.parts = 1)
def Dh (n : Nd) : Bool := FL n (BL n) && Om Cj n && !(decide (0 < n.mt.length) && decide (n.kind ≠ 2) && decide (n.kind ≠ 3)) && E5 n
section
variable {σ : Hp} {R : Rr}
theorem gE {n : Nd} {p q : Option Addr} {k c m d : Nat} (hk : n.mt.length = k) (hr : G6 1 σ q m (n.names.map .string)) (hb : n.text.size ≤ 4611686018427387904) (h : ∀ σ',Ext σ σ' → R (.returned (.bool (Dh n))) σ') : Spec prog 79 #[My n p k c q m d] σ R := by
 refine RB.start fun _ => gD fun σ1 hx => ⟨_,_,_,_,_,_,_,_,_,_,_,_,_,_,rfl,bB ⟨_,rfl,fun hf => ?_,fun ht => bA (hr.mono hx) ⟨_,rfl,fun hf => ?_,fun hn => ?_⟩⟩⟩
 · have := h σ1 hx; rw [show Dh n = false by unfold Dh; rw [hf]; rfl] at this; exact this
 · have := h σ1 hx; rw [show Dh n = false by unfold Dh; rw [ht,hf]; rfl] at this; exact this
 have hh := h σ1 hx
 have e : Dh n = (!(decide (0 < n.mt.length) && decide (n.kind ≠ 2) && decide (n.kind ≠ 3)) && E5 n) := by unfold Dh; rw [ht,hn]; rfl
 rw [e] at hh
 clear e h
 have fin : ¬ (0 < n.mt.length ∧ n.kind ≠ 2 ∧ n.kind ≠ 3) → ∀ t,E5 n = t → R (.returned (.bool t)) σ1 := fun Bc t ht => by
   have e2 : (!(decide (0 < n.mt.length) && decide (n.kind ≠ 2) && decide (n.kind ≠ 3))) = true := by
     rw [Bool.not_eq_true',Bool.eq_false_iff]
     intro hc
     simp only [Bool.and_eq_true,decide_eq_true_eq] at hc
     exact Bc ⟨hc.1.1,hc.1.2,hc.2⟩
   rw [e2,Bool.true_and,ht] at hh; exact hh
 refine ⟨fun hm => ⟨fun h2 => ⟨fun h3 => ?_,fun h3 => ?_⟩,fun h2 => ?_⟩,fun hm => ?_⟩
 · rw [show (!(decide (0 < n.mt.length) && decide (n.kind ≠ 2) && decide (n.kind ≠ 3))) = false by rw [decide_eq_true (show 0 < n.mt.length by omega),decide_eq_true h2,decide_eq_true h3]; rfl,Bool.false_and] at hh
   exact hh
 all_goals
   have fin := fin (by omega)
   clear hh ht hn
   refine ⟨fun k1 => S1 hb ⟨_,rfl,?_⟩,fun k1 => ⟨fun k2 => On ⟨_,rfl,?_⟩,fun k2 => ⟨fun k3 => On ⟨_,rfl,fun ht => On ⟨_,rfl,?_⟩,fun hf => ?_⟩,fun k3 => ⟨fun k4 => ⟨fun hp => ⟨fun ho => ?_,fun ho => ?_⟩,fun hp => ?_⟩,fun k4 => ⟨fun k5 => ⟨fun hp => ⟨fun ho => ⟨fun BM => ⟨fun g0 => ?_,fun g0 => ⟨fun g1 => ?_,fun g1 => ?_⟩⟩,fun BM => ?_⟩,fun ho => ?_⟩,fun hp => ?_⟩,fun k5 => ⟨fun k6 => ⟨fun hp => ⟨fun ho => ⟨fun BM => ⟨fun g0 => ⟨fun bf => ?_,fun bt => Cd ⟨_,rfl,?_⟩⟩,fun g0 => ⟨fun g3 => ⟨fun bf => ?_,fun bt => Cd ⟨_,rfl,?_⟩⟩,fun g3 => ⟨fun g4 => ⟨fun bf => ?_,fun bt => Cd ⟨_,rfl,?_⟩⟩,fun g4 => ?_⟩⟩⟩,fun BM => ?_⟩,fun ho => ?_⟩,fun hp => ?_⟩,fun k6 => ⟨fun k7 => ?_,fun k7 => ?_⟩⟩⟩⟩⟩⟩⟩ <;> (refine fin _ ?_; clear fin; unfold E5; simp [*])
end
end TwW
end
section
namespace TwW
open Go Tw Go.RowKit Go.Proofs.Tryz
section
variable {σ : Hp} {R : Rr}
abbrev tyV (x : Int × Int) : Value := .tuple #[.int .i64 x.1,.int .i64 x.2]
def YV (n : Nd) (a : Int) : Int × Int := if a = (if n.op = 11 ∨ n.op = 12 then 2 else 3) then (2,0) else (0,191)
def dZ (a : Int) : Int × Int := if a = 2 then (2,0) else (0,191)
def nX (a : Int) : Int × Int := if a = 3 then (0,191) else (a,0)
theorem bC {w : Option Addr} {n : Nd} {p q r : Option Addr} {k c m d s t : Nat} {l : List Int} {a : Int} (hr : E3 .i64 σ r s l) (ha : l[0]? = some a) (h : R (.returned (tyV (YV n a))) σ) : Spec prog 82 #[.pointer w,My n p k c q m d,.slice r s t] σ R := by
 have hs : l.length = s := hr.1
 have h0 := (List.getElem?_eq_some_iff.1 ha).1
 obtain ⟨b,o,rfl,D6⟩ := E3.at hr ha
 have go : ∀ z : Int,(if n.op = 11 ∨ n.op = 12 then 2 else 3) = z → Bi.E1 R (some ⟨b,o,none⟩) s t z σ := fun z hz => by
   unfold YV at h
   rw [hz] at h
   refine Bi.FP ⟨b,o,rfl,by omega,a,by simpa using D6,fun BD => ?_,fun heq => ?_⟩
   · rw [if_neg BD] at h; exact h
   · rw [if_pos (Decidable.not_not.1 heq)] at h; exact h
 exact Bi.start fun _ => ⟨fun h1 => go 2 (if_pos (.inl h1)),fun h1 => ⟨fun h2 => go 2 (if_pos (.inr h2)),fun h2 => go 3 (if_neg (by omega))⟩⟩
theorem gF {w : Option Addr} {n : Nd} {p q r : Option Addr} {k c m d s t : Nat} {l : List Int} {a : Int} (hr : E3 .i64 σ r s l) (ha : l[0]? = some a) (h : R (.returned (tyV (dZ a))) σ) : Spec prog 83 #[.pointer w,My n p k c q m d,.slice r s t] σ R := by
 have hs : l.length = s := hr.1
 have h0 := (List.getElem?_eq_some_iff.1 ha).1
 obtain ⟨b,o,rfl,D6⟩ := E3.at hr ha
 unfold dZ at h
 refine ET.start fun _ => ⟨b,o,rfl,by omega,a,by simpa using D6,fun BD => ?_,fun heq => ?_⟩
 · rw [if_neg BD] at h; exact h
 · rw [if_pos (Decidable.not_not.1 heq)] at h; exact h
theorem gG {w : Option Addr} {n : Nd} {p q r : Option Addr} {k c m d s t : Nat} {l : List Int} {a : Int} (hr : E3 .i64 σ r s l) (ha : l[0]? = some a) (h : R (.returned (tyV (nX a))) σ) : Spec prog 85 #[.pointer w,My n p k c q m d,.slice r s t] σ R := by
 have hs : l.length = s := hr.1
 have h0 := (List.getElem?_eq_some_iff.1 ha).1
 obtain ⟨b,o,rfl,D6⟩ := E3.at hr ha
 unfold nX at h
 refine Ec.start fun _ => ⟨b,o,rfl,by omega,a,by simpa using D6,fun heq => ?_,fun BD => ⟨by omega,a,by simpa using D6,?_⟩⟩
 · rw [if_pos heq] at h; exact h
 · rw [if_neg BD] at h; exact h
end
end TwW
end
section
namespace TwW
open Go Tw Go.RowKit Go.Proofs.Tryz
section
variable {σ : Hp} {R : Rr}
def gH (n : Nd) (a b : Int) : Int × Int := if a = 3 ∨ b = 3 ∨ ((11 ≤ n.op ∧ n.op ≤ 13 ∨ n.EH ≠ 0) ∧ ¬ (a = 2 ∧ b = 2)) ∨ (a = 1 ∧ b = 1 ∧ Ff n.op = true ∧ n.bool = false) then (0,192) else (if a < b then b else a,0)
theorem gI {w : Option Addr} {n : Nd} {p q r : Option Addr} {k c m d s t : Nat} {l : List Int} {a b : Int} (hr : E3 .i64 σ r s l) (ha : l[0]? = some a) (hb : l[1]? = some b) (h : R (.returned (tyV (gH n a b))) σ) : Spec prog 84 #[.pointer w,My n p k c q m d,.slice r s t] σ R := by
 have hs : l.length = s := hr.1
 have h1 := (List.getElem?_eq_some_iff.1 hb).1
 obtain ⟨b1,o,rfl,D6⟩ := E3.at hr ha
 obtain ⟨_,_,he,AMl⟩ := E3.at hr hb
 cases he
 have bad : a = 3 ∨ b = 3 ∨ ((11 ≤ n.op ∧ n.op ≤ 13 ∨ n.EH ≠ 0) ∧ ¬ (a = 2 ∧ b = 2)) ∨ (a = 1 ∧ b = 1 ∧ Ff n.op = true ∧ n.bool = false) → R (.returned (.tuple #[.int .i64 0,.int .i64 192])) σ := fun hh => by
   unfold gH at h; rw [if_pos hh] at h; exact h
 have good : ¬ (a = 3 ∨ b = 3 ∨ ((11 ≤ n.op ∧ n.op ≤ 13 ∨ n.EH ≠ 0) ∧ ¬ (a = 2 ∧ b = 2)) ∨ (a = 1 ∧ b = 1 ∧ Ff n.op = true ∧ n.bool = false)) → R (.returned (.tuple #[.int .i64 (if a < b then b else a),.int .i64 0])) σ := fun hh => by
   unfold gH at h; rw [if_neg hh] at h; exact h
 clear h
 refine EY.start fun _ => ⟨b1,o,rfl,by omega,a,by simpa using D6,by omega,b,by simpa using AMl,?_⟩
 repeat' first
   | (apply Pg; refine Exists.intro _ (And.intro rfl ?_))
   | (apply Cd; refine Exists.intro _ (And.intro rfl ?_))
   | (apply And.intro <;> intro _)
 all_goals first
   | (refine bad ?_; simp_all; done)
   | (refine good ?_; simp_all; done)
   | (refine bad ?_; simp_all; omega)
   | (refine good ?_; simp_all; omega)
end
end TwW
end
section
namespace TwW
open Go Tw Go.RowKit Go.Proofs.Tryz
theorem Db.en : Enters prog 153 := fun args w => call153 args w
theorem DE.en : Enters prog 159 := fun args w => call159 args w
theorem ET.en : Enters prog 83 := fun args w => call83 args w
theorem Gr.en : Enters prog 155 := fun args w => call155 args w
theorem BU.en : Enters prog 187 := fun args w => call187 args w
theorem I2.en : Enters prog 226 := fun args w => call226 args w
theorem I4.en : Enters prog 145 := fun args w => call145 args w
theorem Bi.en : Enters prog 82 := fun args w => call82 args w
theorem C5.en : Enters prog 105 := fun args w => call105 args w
theorem DG.en : Enters prog 185 := fun args w => call185 args w
theorem DH.en : Enters prog 189 := fun args w => call189 args w
theorem FQ.en : Enters prog 224 := fun args w => call224 args w
theorem AW.en : Enters prog 103 := fun args w => call103 args w
theorem BJ.en : Enters prog 106 := fun args w => call106 args w
theorem DJ.en : Enters prog 158 := fun args w => call158 args w
theorem DK.en : Enters prog 191 := fun args w => call191 args w
theorem EX.en : Enters prog 217 := fun args w => call217 args w
theorem EY.en : Enters prog 84 := fun args w => call84 args w
theorem Bp.en : Enters prog 100 := fun args w => call100 args w
theorem EZ.en : Enters prog 154 := fun args w => call154 args w
theorem GI.en : Enters prog 198 := fun args w => call198 args w
theorem Ea.en : Enters prog 218 := fun args w => call218 args w
theorem Ah.en : Enters prog 101 := fun args w => call101 args w
theorem AT.en : Enters prog 102 := fun args w => call102 args w
theorem DM.en : Enters prog 127 := fun args w => call127 args w
theorem Nc.en : Enters prog 144 := fun args w => call144 args w
theorem FZ.en : Enters prog 151 := fun args w => call151 args w
theorem Gt.en : Enters prog 152 := fun args w => call152 args w
theorem Dp.en : Enters prog 220 := fun args w => call220 args w
theorem CG.en : Enters prog 71 := fun args w => call71 args w
theorem Ec.en : Enters prog 85 := fun args w => call85 args w
theorem AQ.en : Enters prog 104 := fun args w => call104 args w
theorem DO.en : Enters prog 193 := fun args w => call193 args w
theorem Dq.en : Enters prog 219 := fun args w => call219 args w
instance : mn prog 99 9 3 := ⟨underlying99,underlying9⟩
instance : mu.qE prog 150 3 148 := ⟨underlying150,underlying3⟩
instance : mu.qE prog 191 3 190 := ⟨underlying191,underlying3⟩
instance : mn prog 197 9 200 := ⟨underlying197,underlying9⟩
instance : mu.qE prog 202 3 201 := ⟨underlying202,underlying3⟩
instance : mn prog 243 9 71 := ⟨underlying243,underlying9⟩
end TwW
end
section
namespace TwW
open Go Go.MapKept Tw Go.RowKit Go.Proofs.Tryz
section
variable {P : Program} {σ σ' : Hp} {R : Rr}
def bD (x : Int × Value) (n : Nat) : MapEntry := { key := .int .i64 x.1,val := x.2,born := n }
def MI (σ : Hp) (m : Nat) (l : List (Int × Value)) : Prop := ∃ (bs : List Nat) (clock : Nat),bs.length = l.length ∧ mu.BV σ m (List.zipWith bD l bs) clock
theorem MI.loc {m : Nat} {l : List (Int × Value)} (h : MI σ m l) (hx : σ' m = σ m) : MI σ' m l := let ⟨bs,c,h1,h2⟩ := h; ⟨bs,c,h1,h2.loc hx⟩
theorem MI.known {m : Nat} {l : List (Int × Value)} (h : MI σ m l) : σ m ≠ none := let ⟨bs,c,h1,h2⟩ := h; by rw [h2.1]; simp
theorem MI.fresh {m : Nat} : MI (σ.set m (.map #[] 0)) m [] := ⟨[],0,rfl,mu.BV.fresh⟩
theorem MI.put {T K V : TypeId} [mu.qE P T K V] {m : Nat} {l : List (Int × Value)} {x : Int} {v : Value} {Φ : Unit → Hp → Prop} (h : MI σ m l) (hn : ∀ a ∈ l,a.1 ≠ x)
   (hΦ : ∀ o,MI (σ.set m o) m (l ++ [(x,v)]) → Φ () (σ.set m o)) : AK P (Instr.mapUpdate T (.map (some m)) (.int .i64 x) v) σ Φ := by
 obtain ⟨bs,clock,hb,hm⟩ := h
 refine mu.Hh hm (fun Bc σ' hσ wm => ?_) fun l1 e l2 hl he σ' hσ wm => ?_
 · subst hσ
   refine hΦ _ ⟨bs ++ [clock],clock + 1,by simp [hb],?_⟩
   rw [List.zipWith_append hb.symm]
   exact wm
 · have nY : e ∈ List.zipWith bD l bs := by rw [hl]; simp
   obtain ⟨i,hi⟩ := List.mem_iff_getElem?.1 nY
   rw [List.getElem?_zipWith] at hi
   cases sS : l[i]? with
   | none => rw [sS] at hi; cases hi
   | some a =>
     cases hbi : bs[i]? with
     | none => rw [sS,hbi] at hi; cases hi
     | some b =>
       rw [sS,hbi] at hi
       simp only [Option.some.injEq] at hi
       subst hi
       have := hn a (List.mem_of_getElem? sS)
       simp only [bD,Value.int.injEq,true_and] at he
       exact absurd he this
theorem MI.look {T K V : TypeId} [mu.qE P T K V] {m : Nat} {l : List (Int × Value)} {x : Int} {z : Value} {Φ : Value → Hp → Prop} (h : MI σ m l) (hz : ∀ w,(zeroValue V).run P w = .ok z w)
   (h0 : (∀ a ∈ l,a.1 ≠ x) → Φ z σ) (h1 : ∀ v,(x,v) ∈ l → Φ v σ) : AK P (Instr.lookup T (.map (some m)) (.int .i64 x) false) σ Φ := by
 obtain ⟨bs,clock,hb,hm⟩ := h
 refine mu.Mf hm hz (fun Bc => h0 fun a ha hax => ?_) fun l1 e l2 hl he => ?_
 · obtain ⟨i,hi⟩ := List.mem_iff_getElem?.1 ha
   have Az := (List.getElem?_eq_some_iff.1 hi).1
   have hm : bD a (bs[i]'(by omega)) ∈ List.zipWith bD l bs := List.mem_iff_getElem?.2 ⟨i,by rw [List.getElem?_zipWith,hi,List.getElem?_eq_getElem (by omega)]⟩
   exact Bc _ hm (by rw [← hax]; rfl)
 · have nY : e ∈ List.zipWith bD l bs := by rw [hl]; simp
   obtain ⟨i,hi⟩ := List.mem_iff_getElem?.1 nY
   rw [List.getElem?_zipWith] at hi
   cases sS : l[i]? with
   | none => rw [sS] at hi; cases hi
   | some a =>
     cases hbi : bs[i]? with
     | none => rw [sS,hbi] at hi; cases hi
     | some b =>
       rw [sS,hbi] at hi
       simp only [Option.some.injEq] at hi
       subst hi
       simp only [bD,Value.int.injEq,true_and] at he
       subst he
       exact h1 a.2 (List.mem_of_getElem? sS)
def nZ (τ σ : Hp) (m : Nat) (l : List (Int × Value)) : Prop := Ext τ σ ∧ τ m = none ∧ MI σ m l
theorem nZ.fresh {τ : Hp} {m : Nat} (h : τ m = none) : nZ τ (τ.set m (.map #[] 0)) m [] := ⟨.set h,h,MI.fresh⟩
theorem nZ.alloc {τ : Hp} {m b : Nat} {l : List (Int × Value)} {o : Obj} (h : nZ τ σ m l) (hb : σ b = none) : nZ (τ.set b o) (σ.set b o) m l := by
 have BD : m ≠ b := fun e => h.2.2.known (by rw [e]; exact hb)
 refine ⟨fun k u hk => ?_,by rw [Hp.AO BD]; exact h.2.1,h.2.2.loc (Hp.AO BD)⟩
 by_cases Gj : k = b
 · subst Gj; rw [Hp.AB] at hk ⊢; exact hk
 · rw [Hp.AO Gj] at hk ⊢; exact h.1 _ _ hk
theorem nZ.put {τ : Hp} {T K V : TypeId} [mu.qE P T K V] {m : Nat} {l : List (Int × Value)} {x : Int} {v : Value} {Φ : Unit → Hp → Prop} (h : nZ τ σ m l) (hn : ∀ a ∈ l,a.1 ≠ x)
   (hΦ : ∀ σ',nZ τ σ' m (l ++ [(x,v)]) → Φ () σ') : AK P (Instr.mapUpdate T (.map (some m)) (.int .i64 x) v) σ Φ :=
 h.2.2.put hn fun o ho => hΦ _ ⟨fun k u hk => by rw [Hp.AO (fun e => by rw [e,h.2.1] at hk; cases hk)]; exact h.1 _ _ hk,h.2.1,ho⟩
section
variable {α : Type}
theorem S2 {l : List (ByteArray × α)} {k : ByteArray} (h : ∀ a ∈ l,a.1 ≠ k) : DV l k = none := by
 induction l with
 | nil => rfl
 | cons a l ih => rw [DV,if_neg (h a (by simp))]; exact ih fun b hb => h b (List.mem_cons_of_mem _ hb)
theorem Uv {l m : List (ByteArray × α)} {k : ByteArray} {y : α} (h : ∀ a ∈ l,a.1 ≠ k) : DV (l ++ (k,y) :: m) k = some y := by
 induction l with
 | nil => simp [DV]
 | cons a l ih => rw [List.cons_append,DV,if_neg (h a (by simp))]; exact ih fun b hb => h b (List.mem_cons_of_mem _ hb)
theorem Oo {l : List (ByteArray × α)} {k : ByteArray} {y : α} (h : ∀ a ∈ l,a.1 ≠ k) : Vw l k y = l ++ [(k,y)] := by
 induction l with
 | nil => rfl
 | cons a l ih => rw [Vw,if_neg (h a (by simp)),ih fun b hb => h b (List.mem_cons_of_mem _ hb)]; rfl
theorem YW {l m : List (ByteArray × α)} {k : ByteArray} {y z : α} (h : ∀ a ∈ l,a.1 ≠ k) : Vw (l ++ (k,z) :: m) k y = l ++ (k,y) :: m := by
 induction l with
 | nil => simp [Vw]
 | cons a l ih => rw [List.cons_append,Vw,if_neg (h a (by simp)),ih fun b hb => h b (List.mem_cons_of_mem _ hb)]; rfl
def MS (E : Value → α → Prop) (σ : Hp) (m : Nat) (L : List (ByteArray × α)) : Prop :=
 ∃ (l : List MapEntry) (clock : Nat),BV σ m l clock ∧ l.length = L.length ∧ ∀ (i : Nat) (e : MapEntry) (x : ByteArray × α),l[i]? = some e → L[i]? = some x → e.key = .string x.1 ∧ E e.val x.2
theorem MS.mono {E : Value → α → Prop} {m : Nat} {L : List (ByteArray × α)} (h : MS E σ m L) (hx : Ext σ σ') : MS E σ' m L := let ⟨l,c,h1,h2⟩ := h; ⟨l,c,h1.mono hx,h2⟩
theorem MS.loc {E : Value → α → Prop} {m : Nat} {L : List (ByteArray × α)} (h : MS E σ m L) (hx : σ' m = σ m) : MS E σ' m L := let ⟨l,c,h1,h2⟩ := h; ⟨l,c,h1.loc hx,h2⟩
theorem MS.imp {E E' : Value → α → Prop} {m : Nat} {L : List (ByteArray × α)} (h : MS E σ m L) (hE : ∀ v x,E v x → E' v x) : MS E' σ m L := let ⟨l,c,h1,h2,h3⟩ := h; ⟨l,c,h1,h2,fun i e x he hx => ⟨(h3 i e x he hx).1,hE _ _ (h3 i e x he hx).2⟩⟩
theorem MS.known {E : Value → α → Prop} {m : Nat} {L : List (ByteArray × α)} (h : MS E σ m L) : σ m ≠ none := let ⟨l,c,h1,h2⟩ := h; by rw [h1.1]; simp
theorem MS.fresh {E : Value → α → Prop} {m : Nat} : MS E (σ.set m (.map #[] 0)) m [] := ⟨[],0,BV.fresh,rfl,fun i e x he => by simp at he⟩
theorem MS.len {E : Value → α → Prop} {T K V ty : TypeId} [mn P T K V] {m : Nat} {L : List (ByteArray × α)} (h : MS E σ m L) : YF P (Builtin.len_ #[T] ty #[.map (some m)]) σ (.int .i64 L.length) := by
 obtain ⟨l,c,h1,h2,h3⟩ := h
 rw [← h2]; exact mq h1
theorem S3 {E : Value → α → Prop} {l l1 l2 : List MapEntry} {e : MapEntry} {L : List (ByteArray × α)} {s : ByteArray} (hn : (l.map (·.key)).Nodup) (h2 : l.length = L.length) (h3 : ∀ (i : Nat) (e : MapEntry) (x : ByteArray × α),l[i]? = some e → L[i]? = some x → e.key = .string x.1 ∧ E e.val x.2) (hl : l = l1 ++ e :: l2) (he : e.key = .string s) :
   ∃ L1 x L2,L = L1 ++ (s,x) :: L2 ∧ L1.length = l1.length ∧ (∀ a ∈ L1,a.1 ≠ s) ∧ E e.val x := by
 subst hl
 have Az : l1.length < L.length := by rw [← h2]; simp
 have Mj : L = L.take l1.length ++ L[l1.length] :: L.drop (l1.length + 1) := by rw [List.getElem_cons_drop,List.take_append_drop]
 have hx := h3 l1.length e L[l1.length] (by simp) (List.getElem?_eq_getElem _)
 rw [he] at hx
 have hk : L[l1.length].1 = s := by simpa using hx.1.symm
 refine ⟨L.take l1.length,L[l1.length].2,L.drop (l1.length + 1),?_,by rw [List.length_take]; omega,fun a ha has => ?_,hx.2⟩
 · rw [← hk]; exact Mj
 · obtain ⟨i,hi⟩ := List.mem_iff_getElem?.1 ha
   rw [List.getElem?_take] at hi
   split at hi
   · rename_i wo
     have hle : (l1 ++ e :: l2)[i]? = some (l1[i]'wo) := by rw [List.getElem?_append_left wo,List.getElem?_eq_getElem wo]
     have h4 := (h3 i _ a hle hi).1
     rw [List.map_append,List.map_cons,List.nodup_append] at hn
     exact hn.2.2 _ (List.mem_map.2 ⟨l1[i]'wo,List.getElem_mem wo,rfl⟩) _ (by simp; exact .inl rfl) (by rw [h4,he,has])
   · cases hi
theorem MS.sT {E : Value → α → Prop} {l : List MapEntry} {L : List (ByteArray × α)} {s : ByteArray} (h2 : l.length = L.length) (h3 : ∀ (i : Nat) (e : MapEntry) (x : ByteArray × α),l[i]? = some e → L[i]? = some x → e.key = .string x.1 ∧ E e.val x.2) (Bc : ∀ e ∈ l,e.key ≠ .string s) : ∀ a ∈ L,a.1 ≠ s := fun a ha has => by
 obtain ⟨i,hi⟩ := List.mem_iff_getElem?.1 ha
 have Az := (List.getElem?_eq_some_iff.1 hi).1
 have := (h3 i (l[i]'(by omega)) a (List.getElem?_eq_getElem _) hi).1
 exact Bc _ (List.getElem_mem _) (by rw [this,has])
theorem MS.look {E : Value → α → Prop} {T K V : TypeId} [mn P T K V] {m : Nat} {L : List (ByteArray × α)} {s : ByteArray} {z : Value} {Φ : Value → Hp → Prop} (h : MS E σ m L) (hz : ∀ w,(zeroValue V).run P w = .ok z w)
   (h0 : DV L s = none → Φ z σ) (h1 : ∀ v x,DV L s = some x → E v x → Φ v σ) : AK P (Instr.lookup T (.map (some m)) (.string s) false) σ Φ := by
 obtain ⟨l,c,hm,h2,h3⟩ := h
 refine Mf hm hz (fun Bc => h0 (S2 (MS.sT h2 h3 Bc))) fun l1 e l2 hl he => ?_
 obtain ⟨L1,x,L2,rfl,_,Bc,hE⟩ := S3 hm.nodup h2 h3 hl he
 exact h1 e.val x (Uv Bc) hE
theorem MS.YX {E : Value → α → Prop} {T K V : TypeId} [t : mn P T K V] {m : Nat} {L : List (ByteArray × α)} {s : ByteArray} {z : Value} {Φ : Value → Hp → Prop} (h : MS E σ m L) (hz : ∀ w,(zeroValue V).run P w = .ok z w)
   (h0 : DV L s = none → Φ (.tuple #[z,.bool false]) σ) (h1 : ∀ v x,DV L s = some x → E v x → Φ (.tuple #[v,.bool true]) σ) : AK P (Instr.lookup T (.map (some m)) (.string s) true) σ Φ := by
 obtain ⟨l,c,hm,h2,h3⟩ := h
 rcases FJ (s := s) hm.2.2 with ⟨hf,Bc⟩ | ⟨l1,e,l2,hl,he,hf⟩
 · refine AK.pu (fun w hs => ?_) (h0 (S2 (MS.sT h2 h3 Bc)))
   have := hs _ _ hm.1
   simp [Instr.lookup,run_underlying t.cB,run_getObj_map this,run_checkKey t.key (k := .string s) trivial,run_findKey t.key hf,hz,Result.andThen]
 · obtain ⟨L1,x,L2,rfl,_,Bc,hE⟩ := S3 hm.nodup h2 h3 hl he
   refine AK.pu (fun w hs => ?_) (h1 e.val x (Uv Bc) hE)
   have := hs _ _ hm.1
   simp [Instr.lookup,run_underlying t.cB,run_getObj_map this,run_checkKey t.key (k := .string s) trivial,run_findKey t.key hf,Result.andThen]
theorem MS.put {E : Value → α → Prop} {T K V : TypeId} [mn P T K V] {m : Nat} {L : List (ByteArray × α)} {s : ByteArray} {v : Value} {x : α} {Φ : Unit → Hp → Prop} (h : MS E σ m L) (hv : E v x)
   (hΦ : ∀ o,MS E (σ.set m o) m (Vw L s x) → Φ () (σ.set m o)) : AK P (Instr.mapUpdate T (.map (some m)) (.string s) v) σ Φ := by
 obtain ⟨l,c,hm,h2,h3⟩ := h
 refine Hh hm (fun Bc σ' hσ wm => ?_) fun l1 e l2 hl he σ' hσ wm => ?_
 · subst hσ
   refine hΦ _ ⟨_,_,wm,?_,fun i e y hi hy => ?_⟩
   · rw [Oo (MS.sT h2 h3 Bc)]; simp [h2]
   · rw [Oo (MS.sT h2 h3 Bc)] at hy
     rw [List.getElem?_append] at hi hy
     split at hi
     · rename_i Az
       rw [if_pos (by omega)] at hy
       exact h3 i e y hi hy
     · rename_i Az
       rw [if_neg (by omega)] at hy
       rw [← h2] at hy
       cases hj : i - l.length with
       | zero =>
         rw [hj] at hi hy
         simp only [List.getElem?_cons_zero,Option.some.injEq] at hi hy
         subst hi; subst hy
         exact ⟨rfl,hv⟩
       | succ j => rw [hj] at hi; simp at hi
 · obtain ⟨L1,y,L2,rfl,hlen,Bc,hE⟩ := S3 hm.nodup h2 h3 hl he
   subst hσ
   subst hl
   refine hΦ _ ⟨_,_,wm,?_,fun i e' z hi hz => ?_⟩
   · rw [YW Bc]; simp at h2 ⊢; omega
   · rw [YW Bc] at hz
     by_cases wo : i = l1.length
     · subst wo
       rw [← hlen] at hz
       simp at hi hz
       subst hi; subst hz
       exact ⟨rfl,hv⟩
     · have e1 : (l1 ++ Tw.M6 s v e.born :: l2)[i]? = (l1 ++ e :: l2)[i]? := by
         rcases Nat.lt_or_ge i l1.length with h | h
         · rw [List.getElem?_append_left h,List.getElem?_append_left h]
         · obtain ⟨k,rfl⟩ : ∃ k,i = l1.length + (k + 1) := ⟨i - l1.length - 1,by omega⟩
           simp [List.getElem?_append_right]
       have e2 : (L1 ++ (s,x) :: L2)[i]? = (L1 ++ (s,y) :: L2)[i]? := by
         rcases Nat.lt_or_ge i L1.length with h | h
         · rw [List.getElem?_append_left h,List.getElem?_append_left h]
         · obtain ⟨k,rfl⟩ : ∃ k,i = L1.length + (k + 1) := ⟨i - L1.length - 1,by omega⟩
           simp [List.getElem?_append_right]
       exact h3 i e' z (by rw [← e1]; exact hi) (by rw [← e2]; exact hz)
end
end
end TwW
end
section
namespace TwW
open Go Tw Go.RowKit Go.Proofs.Tryz
def Oq (n : Nd) (l : List Int) : Int × Int :=
 if n.kind = 1 then (1,0) else if n.kind = 2 then (2,0) else if n.kind = 3 then (3,0) else if n.kind = 4 then YV n (l[0]?.getD 0) else if n.kind = 5 then dZ (l[0]?.getD 0)
 else if n.kind = 6 then gH n (l[0]?.getD 0) (l[1]?.getD 0) else nX (l[0]?.getD 0)
def BQ (n : Nd) (st : List Int) : Int × List Int :=
 if Dh n = false ∨ (st.length : Int) < n.parts then (190,st) else if II Cj n.mt ≠ 0 then (193,st) else
   ((Oq n (st.drop (st.length - n.parts.toNat))).2,st.take (st.length - n.parts.toNat) ++ [(Oq n (st.drop (st.length - n.parts.toNat))).1])
theorem Gz {n : Nd} (h : Dh n = true) : E5 n = true := by
 unfold Dh at h
 simp only [Bool.and_eq_true] at h
 exact h.2
theorem LO {n : Nd} (h : Dh n = true) : FL n (BL n) = true := by
 unfold Dh at h
 simp only [Bool.and_eq_true] at h
 exact h.1.1.1
theorem A8.AO {s b : Nat} {o : Obj} {σ : Hp} {p : Option Addr} {n c : Nat} {cs : List Value} (ho : A8 s σ p n c cs) (h : ∀ a,p = some a → a.block ≠ b) : A8 s (σ.set b o) p n c cs :=
 ⟨ho.1,ho.2.1,ho.2.2.imp id fun ⟨b',o',arr,T,hp,hb,r⟩ => ⟨b',o',arr,T,hp,by rw [Hp.AO (h _ hp)]; exact hb,r⟩⟩
theorem sU : ∀ w,(zeroValue 148).run prog w = .ok .nilFunc w := fun w => by
 have h : prog.info? 148 = some t148 := by kernel_rfl
 simp [zeroValue,typeInfo,h]
 rfl
structure bE (σ0 σ : Hp) (wb : Nat) (p : Option Addr) (n c : Nat) (st : List Int) : Prop where
 cell : σ wb = some (.cells #[.slice p n c] 110 (0,0))
 own : DZ .i64 σ p n c st
 off : ∀ a,p = some a → a.block ≠ wb ∧ σ0 a.block = none
 new : σ0 wb = none
 ext : Ext σ0 σ
section
variable {σ σ' σ0 : Hp} {R : Rr}
theorem bE.mono {wb : Nat} {p : Option Addr} {n c : Nat} {st : List Int} (h : bE σ0 σ wb p n c st) (hx : Ext σ σ') : bE σ0 σ' wb p n c st := ⟨hx _ _ h.cell,h.own.mono hx,h.off,h.new,h.ext.trans hx⟩
theorem Ot {k : Int} (h : ∀ b,σ b = none → R (.returned (.func (.func 127) #[] #[.pointer (aD b 0)])) (σ.set b (.cells #[.int .i64 k] 3 (0,0)))) : Spec prog 81 #[.int .i64 k] σ R := SM.start h
theorem Mk {n : Nd} {p q r : Option Addr} {k c m d s t b : Nat} {v : Int} (hb : σ b = some (.cells #[.int .i64 v] 3 (0,0))) (h : R (.returned (tyV (v,0))) σ) : Spec prog 127 #[My n p k c q m d,.slice r s t,.pointer (aD b 0)] σ R :=
 DM.start fun _ => ⟨v,Ai hb rfl,h⟩
theorem sV : ∀ w,(Go.sizeOf 108).run prog w = .ok 1 w := fun w => by kernel_rfl
theorem gJ {wb : Nat} {p q r : Option Addr} {k c m d j e : Nat} {st : List Int} {n : Nd} (hW : bE σ0 σ wb r j e st) (hm : Aa 3 JZ σ0 p k n.mt) (hr : G6 1 σ0 q m (n.names.map .string)) (hb : n.text.size ≤ 4611686018427387904) (hj : j ≤ 1000000000000)
   (h : ∀ r' j' e' σ',(BQ n st).1 = 0 → bE σ0 σ' wb r' j' e' (BQ n st).2 → R (.returned (.int .i64 0)) σ') (h' : ∀ σ',(BQ n st).1 ≠ 0 → Ext σ0 σ' → R (.returned (.int .i64 (BQ n st).1)) σ') :
   Spec prog 53 #[.pointer (some ⟨wb,0,none⟩),My n p k c q m d] σ R := by
 have hk : n.mt.length = k := hm.1
 have hsl : st.length = j := by have := hW.own.1; simpa using this
 refine JN.start fun _ => gE hk (hr.mono hW.ext) hb fun σ1 CO => ⟨_,rfl,fun hf => ?_,fun ht => ?_⟩
 · have e1 : BQ n st = (190,st) := by unfold BQ; rw [if_pos (.inl hf)]
   rw [e1] at h'
   exact h' σ1 (by dsimp only; decide) (hW.ext.trans CO)
 have hW1 := hW.mono CO
 refine ⟨wb,0,rfl,r,j,e,Ai hW1.cell rfl,fun Az => ?_,fun Ul => YT (hm.mono JZ.mono hW1.ext) ⟨_,rfl,fun BD => ?_,fun h0 => ?_⟩⟩
 · have e1 : BQ n st = (190,st) := by unfold BQ; rw [if_pos (.inr (by omega))]
   rw [e1] at h'
   exact h' σ1 (by dsimp only; decide) hW1.ext
 · have e1 : BQ n st = (193,st) := by unfold BQ; rw [if_neg (by rw [ht]; simp; omega),if_pos BD]
   rw [e1] at h'
   exact h' σ1 (by dsimp only; decide) hW1.ext
 have Pd := Decidable.not_not.1 h0
 have eS : BQ n st = ((Oq n (st.drop (st.length - n.parts.toNat))).2,st.take (st.length - n.parts.toNat) ++ [(Oq n (st.drop (st.length - n.parts.toNat))).1]) := by
   unfold BQ; rw [if_neg (by rw [ht]; simp; omega),if_neg h0]
 rw [eS] at h h'
 dsimp only at h h'
 have Cs := Gz ht
 have AMn : 0 ≤ n.parts := by
   unfold E5 at Cs
   have hp := LO ht
   by_cases h1 : n.kind = 1
   · unfold FL BL at hp; simp [h1] at hp; omega
   by_cases h2 : n.kind = 2
   · unfold FL BL at hp; simp [h2] at hp; omega
   by_cases h3 : n.kind = 3
   · unfold FL BL at hp; simp [h3] at hp; omega
   rw [if_neg h1,if_neg h2,if_neg h3] at Cs
   split at Cs
   · simp at Cs; omega
   · split at Cs
     · simp at Cs; omega
     · split at Cs
       · simp at Cs; omega
       · simp at Cs; omega
 obtain ⟨t,hpt⟩ : ∃ t : Nat,n.parts = t := ⟨n.parts.toNat,by omega⟩
 have htj : t ≤ j := by omega
 have htn : n.parts.toNat = t := by omega
 rw [htn,hsl] at h h'
 refine EF fun mb na => ⟨mb,rfl,?_⟩
 have s0 := nZ.fresh na
 refine Ot fun b1 hb1 => ⟨_,_,_,rfl,?_⟩
 have s1 := s0.alloc (o := .cells #[.int .i64 1] 3 (0,0)) hb1
 refine s1.put (by simp) fun σ2 s2 => Ot fun b2 Y5 => ⟨_,_,_,rfl,?_⟩
 have s3 := s2.alloc (o := .cells #[.int .i64 2] 3 (0,0)) Y5
 refine s3.put (by simp) fun σ4 s4 => Ot fun b3 hb3 => ⟨_,_,_,rfl,?_⟩
 have s5 := s4.alloc (o := .cells #[.int .i64 3] 3 (0,0)) hb3
 refine s5.put (by simp) fun σ6 s6 => s6.put (by simp) fun σ7 s7 => s7.put (by simp) fun σ8 s8 => s8.put (by simp) fun σ9 s9 => s9.put (by simp) fun σA sA => ?_
 clear s0 s1 s3 s5 s6 s7 s8 s9
 have n1 : σ1 b1 = none := (Hp.Bq hb1).2
 have n2 : (σ1.set b1 (.cells #[.int .i64 1] 3 (0,0))) b2 = none := BF s2.1 Y5
 have n3 : ((σ1.set b1 (.cells #[.int .i64 1] 3 (0,0))).set b2 (.cells #[.int .i64 2] 3 (0,0))) b3 = none := BF s4.1 hb3
 have x1 : Ext σ1 σA := (Ext.set n1).trans ((Ext.set n2).trans ((Ext.set n3).trans sA.1))
 have c3 := sA.1 b3 _ (Hp.AB _ _ _)
 have c2 := sA.1 b2 _ ((Ext.set n3) _ _ (Hp.AB _ _ _))
 have c1 := sA.1 b1 _ ((Ext.set n3) _ _ ((Ext.set n2) _ _ (Hp.AB _ _ _)))
 have gK := hW1.mono x1
 have hlA := sA.2.2
 clear s2 s4 sA n1 n2 n3 hb1 Y5 hb3
 simp only [List.nil_append,List.cons_append] at hlA
 have e1 : Int.toNat ((j : Int) - n.parts) = j - t := by omega
 refine ⟨r,j,e,Ai gK.cell rfl,by unfold AG; omega,r,j,e,Ai gK.cell rfl,by omega,?_⟩
 have hce : j ≤ e := A8.cap gK.own
 have V2 : E3 .i64 σA (Jg r (j - t) e 1) (j - (j - t)) (st.drop (j - t)) := by
   have := Aa.sub (i := j - t) (m := j - (j - t)) (DZ.rd gK.own) (by decide) (by omega) hce
   rwa [List.take_of_length_le (by rw [List.length_drop]; omega)] at this
 have V2 : E3 .i64 σA (Jg r (Int.toNat ((j : Int) - n.parts)) e 1) (j - Int.toNat ((j : Int) - n.parts)) (st.drop (j - t)) := by rw [e1]; exact V2
 have fin : ∀ x : Int × Int,x = Oq n (st.drop (j - t)) → AA R (fun z aF => ∃ kK Jt,z = (.tuple #[.int .i64 kK,.int .i64 Jt]) ∧ LS aF wb 0 fun po kL ct => ((0 : Int) ≤ ((j : Int) - n.parts) ∧ ((j : Int) - n.parts) ≤ (ct : Int)) ∧ Al aF fun MX => AK prog (Builtin.append_ #[108,108] 108 #[(.slice po (Int.toNat ((j : Int) - n.parts)) ct),(.slice (aD MX 0) 1 1)]) (Hp.set aF MX (.cells #[.int .i64 kK] 113 (0,0))) (CS fun kM kN kO yp => AK prog (Instr.storeAt 108 (.pointer (aD wb 0)) (.slice kM kN kO)) yp (fun _ yq => R (.returned (.int .i64 Jt)) yq))) (.returned (tyV x)) σA := fun x hx => by
   rw [← hx] at h h'
   refine ⟨x.1,x.2,rfl,r,j,e,Ai gK.cell rfl,by omega,fun MX nc => ?_⟩
   rw [e1]
   have Bd := (A8.take (m := j - t) gK.own (by omega)).mono (Ext.set (o := .cells #[.int .i64 x.1] 113 (0,0)) nc)
   refine DB Bd (Vu (f := .int .i64) (x := x.1) (Hp.AB _ _ _)) Fq.QC (by omega) fun p' c' σB hoB wq => ⟨_,_,_,rfl,?_⟩
   have hwb : ∀ a,r = some a → wb ≠ a.block := fun a ha => Ne.symm (gK.off a ha).1
   have hnb : wb ≠ MX := fun e => by rw [← e,gK.cell] at nc; cases nc
   obtain ⟨g1,g2⟩ := AU.1 (wq wb _ (AU.2 ⟨hwb,(Ext.set nc) _ _ gK.cell⟩))
   have hE0 : Ext σ0 (σB.del p') := fun k u hk => wq k u (AU.2 ⟨fun a ha jB => (by rw [jB,(gK.off a ha).2] at hk; cases hk),(Ext.set nc) _ _ (gK.ext _ _ hk)⟩)
   refine AK.store sV g2 rfl (by simp) (by simp [Value.cells,Value.oneCell']) ?_
   have sW : bE σ0 (σB.set wb (.cells (Mz #[.slice r j e] 0 (Value.slice p' (j - t + 1) c').cells.toList) 110 (0,0))) wb p' (j - t + 1) c' (st.take (j - t) ++ [x.1]) := by
     refine ⟨by rw [Hp.AB]; simp [Mz,Value.cells],?_,fun a ha => ⟨fun e => g1 a ha e.symm,?_⟩,gK.new,fun k u hk => ?_⟩
     · have := A8.AO (b := wb) (o := .cells (Mz #[.slice r j e] 0 (Value.slice p' (j - t + 1) c').cells.toList) 110 (0,0)) hoB (fun a ha e => g1 a ha e.symm)
       unfold DZ
       rw [List.map_append,List.map_take]
       simpa using this
     · cases hh : σ0 a.block with
       | none => rfl
       | some u => exact absurd rfl ((AU.1 (hE0 _ _ hh)).1 a ha)
     · rw [Hp.AO (fun e => by rw [e,gK.new] at hk; cases hk)]
       exact (AU.1 (hE0 _ _ hk)).2
   by_cases hz : x.2 = 0
   · rw [hz]; exact h _ _ _ _ hz sW
   · exact h' _ hz sW.ext
 have part : ∀ i,i < t → ∃ v,(st.drop (j - t))[i]? = some v := fun i hi => ⟨_,List.getElem?_eq_getElem (by rw [List.length_drop]; omega)⟩
 refine hlA.look sU (fun Bc => ?_) fun v hv => ⟨v,rfl,Kp.HY (.refl _),?_⟩
 · exfalso
   unfold E5 at Cs
   have g := fun i => Bc i
   simp only [List.mem_cons,List.not_mem_nil,or_false,forall_eq_or_imp,forall_eq] at Bc
   obtain ⟨a1,a2,a3,a4,a5,a6,a7⟩ := Bc
   rw [if_neg (Ne.symm a1),if_neg (Ne.symm a2),if_neg (Ne.symm a3),if_neg (Ne.symm a4),if_neg (Ne.symm a5),if_neg (Ne.symm a6)] at Cs
   exact a7 (of_decide_eq_true Cs).1.symm
 simp only [List.mem_cons,List.not_mem_nil,or_false,Prod.mk.injEq] at hv
 rcases hv with ⟨hn,rfl⟩ | ⟨hn,rfl⟩ | ⟨hn,rfl⟩ | ⟨hn,rfl⟩ | ⟨hn,rfl⟩ | ⟨hn,rfl⟩ | ⟨hn,rfl⟩
 · exact ⟨127,_,_,rfl,DM.en,Mk c1 (fin _ (by unfold Oq; rw [if_pos hn]))⟩
 · exact ⟨127,_,_,rfl,DM.en,Mk c2 (fin _ (by unfold Oq; rw [if_neg (by omega),if_pos hn]))⟩
 · exact ⟨127,_,_,rfl,DM.en,Mk c3 (fin _ (by unfold Oq; rw [if_neg (by omega),if_neg (by omega),if_pos hn]))⟩
 · have ht1 : t = 1 := by unfold E5 at Cs; simp [hn] at Cs; omega
   obtain ⟨v,hv⟩ := part 0 (by omega)
   exact ⟨82,_,_,rfl,Bi.en,bC V2 hv (fin _ (by unfold Oq; rw [if_neg (by omega),if_neg (by omega),if_neg (by omega),if_pos hn,hv]; rfl))⟩
 · have ht1 : t = 1 := by unfold E5 at Cs; simp [hn] at Cs; omega
   obtain ⟨v,hv⟩ := part 0 (by omega)
   exact ⟨83,_,_,rfl,ET.en,gF V2 hv (fin _ (by unfold Oq; rw [if_neg (by omega),if_neg (by omega),if_neg (by omega),if_neg (by omega),if_pos hn,hv]; rfl))⟩
 · have ht1 : t = 2 := by unfold E5 at Cs; simp [hn] at Cs; omega
   obtain ⟨v,hv⟩ := part 0 (by omega)
   obtain ⟨u,hu⟩ := part 1 (by omega)
   exact ⟨84,_,_,rfl,EY.en,gI V2 hv hu (fin _ (by unfold Oq; rw [if_neg (by omega),if_neg (by omega),if_neg (by omega),if_neg (by omega),if_neg (by omega),if_pos hn,hv,hu]; rfl))⟩
 · have ht1 : t = 1 := by unfold E5 at Cs; simp [hn] at Cs; omega
   obtain ⟨v,hv⟩ := part 0 (by omega)
   exact ⟨85,_,_,rfl,Ec.en,gG V2 hv (fin _ (by unfold Oq; rw [if_neg (by omega),if_neg (by omega),if_neg (by omega),if_neg (by omega),if_neg (by omega),if_neg (by omega),hv]; rfl))⟩
def DA : List Nd → List Int → Option (List Int)
 | [],st => some st
 | n :: t,st => if (BQ n st).1 = 0 then DA t (BQ n st).2 else none
def wu (t : List Nd) : Option (List Int) → Option Int
 | some [k] => if t.length ≤ 4096 then some k else none
 | _ => none
def Jb (t : List Nd) : Option Int := wu t (DA t [])
theorem EI.at {p : Option Addr} {n i : Nat} {t : List Nd} {x : Nd} (hr : Aa 10 EI σ p n t) (hx : t[i]? = some x) : ∃ b o p1 k c q m d,p = some ⟨b,o,none⟩ ∧ Au σ b (o + i * 10) [.int .i64 x.kind,.int .i64 x.op,.string x.text,.slice p1 k c,.int .i64 x.width,.int .i64 x.back,.int .i64 x.EH,.slice q m d,.bool x.bool,.int .i64 x.parts] ∧ Aa 3 JZ σ p1 k x.mt ∧ G6 1 σ q m (x.names.map .string) := by
 obtain ⟨b,o,vs,hp,⟨p1,k,c,q,m,d,rfl,h1,h2⟩,hl⟩ := Aa.idx hr hx
 exact ⟨b,o,p1,k,c,q,m,d,hp,hl,h1,h2⟩
theorem ng {n : Nd} {st : List Int} : (BQ n st).2.length ≤ st.length + 1 := by
 unfold BQ
 split
 · exact Nat.le_succ _
 · split
   · exact Nat.le_succ _
   · simp only [List.length_append,List.length_take,List.length_singleton]; omega
theorem Ml {p : Option Addr} {n c : Nat} {t : List Nd} (hr : Aa 10 EI σ p n t) (hn : n ≤ 1000000000) (hb : ∀ x ∈ t,x.text.size ≤ 4611686018427387904)
   (h : ∀ k σ',Jb t = some k → Ext σ σ' → R (.returned (.tuple #[.int .i64 k,.int .i64 0,.int .i64 0])) σ') (h' : ∀ k j e σ',Jb t = none → e ≠ 0 → Ext σ σ' → R (.returned (.tuple #[.int .i64 k,.int .i64 j,.int .i64 e])) σ') :
   Spec prog 37 #[.slice p n c] σ R := by
 have hl : t.length = n := hr.1
 refine FV.start fun wb hwb => ?_
 suffices H : ∀ g k : Nat,∀ r j e st σ',n - k = g → k ≤ n → j ≤ k → bE σ σ' wb r j e st → DA t [] = DA (t.drop k) st → FV.BA R p n c (aD wb 0) p n c n k σ' from
   H n 0 none 0 0 [] _ rfl (Nat.zero_le _) (Nat.le_refl _) ⟨Hp.AB _ _ _,DZ.nil,fun a ha => (by cases ha),hwb,.set hwb⟩ rfl
 intro g
 induction g with
 | zero =>
   intro k r j e st σ' hg hk hj hW he
   rw [List.drop_eq_nil_of_le (by omega)] at he
   have Fp : st.length = j := by have := hW.own.1; simpa using this
   have ht : Jb t = wu t (some st) := by unfold Jb; rw [he]; rfl
   refine FV.Ac ⟨fun Az => by omega,fun _ => ⟨wb,0,rfl,r,j,e,Ai hW.cell rfl,fun h1 => h' _ _ _ σ' ?_ (by decide) hW.ext,fun h1 => ⟨fun Si => h' _ _ _ σ' ?_ (by decide) hW.ext,fun JK => ?_⟩⟩⟩
   · rw [ht]
     match st,Fp with
     | [],_ => rfl
     | [_],Fp => simp at Fp; omega
     | _ :: _ :: _,_ => rfl
   · rw [ht]
     match st,Fp with
     | [],_ => rfl
     | [_],Fp => exact if_neg (by omega)
     | _ :: _ :: _,_ => rfl
   · have qU : j = 1 := by omega
     subst qU
     match st,Fp with
     | [x],_ =>
       obtain ⟨b,o,rfl,D6⟩ := E3.at (DZ.rd hW.own) (i := 0) (x := x) rfl
       exact ⟨_,1,e,Ai hW.cell rfl,b,o,rfl,by omega,x,by simpa using D6,h x σ' (by rw [ht]; exact if_pos (by omega)) hW.ext⟩
 | succ g ih =>
   intro k r j e st σ' hg hk hj hW he
   have E4 : k < n := by omega
   obtain ⟨x,hx⟩ := hr.ex E4
   obtain ⟨b,o,p1,k1,c1,q1,m1,d1,rfl,D6,h1,h2⟩ := EI.at hr hx
   rw [BC hx,DA] at he
   refine FV.Ac ⟨fun _ => ⟨b,o,rfl,by omega,_,_,_,_,_,_,_,_,_,_,_,_,_,_,by simpa using D6.mono hW.ext,fun _ => ?_⟩,fun hh => by omega⟩
   refine gJ hW h1 h2 (hb x (List.mem_of_getElem? hx)) (by omega) (fun r' j' e' σ2 h0 hW2 => ⟨0,rfl,fun hh => absurd rfl hh,fun _ => ⟨AF E4 hr.big,ih (k + 1) r' j' e' _ σ2 (by omega) (by omega) ?_ hW2 ?_⟩⟩) fun σ2 h0 A1 => ⟨_,rfl,fun _ => h' _ _ _ σ2 ?_ h0 A1,fun hh => absurd h0 hh⟩
   · have h3 := ng (n := x) (st := st)
     have h4 : (BQ x st).2.length = j' := by have := hW2.own.1; simpa using this
     have h5 : st.length = j := by have := hW.own.1; simpa using this
     omega
   · rw [he,if_pos h0]
   · unfold Jb; rw [he,if_neg h0]; rfl
end
end TwW
end
section
namespace Go.Proofs
open Go.Shelf
def Tryz.YY : Go.Shelf.Ren := ⟨fun | 143 => 260 | 219 => 290 | 217 => 169 | 225 => 318 | 224 => 319 | 267 => 320 | 266 => 209 | 314 => 329 | n => n,fun | 9 => 9 | 3 => 3 | 4 => 4 | 5 => 5 | 46 => 141 | 146 => 355 | 51 => 168 | n => n,fun | 1 => 1 | n => n⟩
theorem Tryz.sY : Go.Proofs.Lays.n143 Tryz.prog Tryz.YY := {
 mixed := by kernel_rfl
 f143 := Tryz.func260.trans (congrArg some (by kernel_rfl))
 f217 := Tryz.func169.trans (congrArg some (by kernel_rfl))
 f219 := Tryz.func290.trans (congrArg some (by kernel_rfl))
 f224 := Tryz.func319.trans (congrArg some (by kernel_rfl))
 f225 := Tryz.func318.trans (congrArg some (by kernel_rfl))
 f266 := Tryz.func209.trans (congrArg some (by kernel_rfl))
 f267 := Tryz.func320.trans (congrArg some (by kernel_rfl))
 f314 := Tryz.func329.trans (congrArg some (by kernel_rfl))
 t3 := Tryz.underlying3
 a3 := Tryz.isAgg3
 z3 := Tryz.sizeOf3
 v3 := Tryz.zeroValue3
 t4 := Tryz.underlying4
 a4 := Tryz.isAgg4
 z4 := Tryz.sizeOf4
 v4 := Tryz.zeroValue4
 t5 := Tryz.underlying5
 a5 := Tryz.isAgg5
 z5 := Tryz.sizeOf5
 v5 := Tryz.zeroValue5
 t9 := Tryz.underlying9
 a9 := Tryz.isAgg9
 z9 := Tryz.sizeOf9
 v9 := Tryz.zeroValue9
 t46 := Tryz.underlying141
 a46 := Tryz.isAgg141
 z46 := Tryz.sizeOf141
 v46 := Tryz.zeroValue141
 t51 := Tryz.underlying168
 a51 := Tryz.isAgg168
 z51 := Tryz.sizeOf168
 v51 := Tryz.zeroValue168
 t146 := Tryz.underlying355
 a146 := Tryz.isAgg355
 z146 := Tryz.sizeOf355
 v146 := Tryz.zeroValue355
 g1 := by kernel_rfl }
open Go.RowKit Go.Lib in
theorem Tryz.strings_Index (s sub : ByteArray) (m : Int) (w : World) (hs : s.size < 4294967281) (hm : w.cell? ⟨1,0,none⟩ = some (.int .i64 m)) :
   Calls Tryz.prog 260 #[.string s,.string sub] w fun e w' => e = .returned (.int .i64 (Lib.index s.data.toList sub.data.toList)) ∧ w' = w := Any.strings_Index Tryz.sY s sub m w hs hm
def Tryz.YZ : Go.Shelf.Ren := ⟨fun | 146 => 221 | 221 => 237 | 268 => 258 | 138 => 259 | 143 => 260 | 195 => 287 | 197 => 288 | 218 => 289 | 219 => 290 | 260 => 317 | 217 => 169 | 225 => 318 | 224 => 319 | 267 => 320 | 266 => 209 | 314 => 329 | n => n,fun | 9 => 9 | 31 => 34 | 3 => 3 | 4 => 4 | 0 => 0 | 105 => 318 | 21 => 21 | 5 => 5 | 46 => 141 | 119 => 351 | 139 => 354 | 138 => 353 | 146 => 355 | 51 => 168 | n => n,fun | 1 => 1 | 3 => 11 | 4 => 12 | n => n⟩
theorem Tryz.sZ : Go.Proofs.Lays.n146 Tryz.prog Tryz.YZ := {
 mixed := by kernel_rfl
 f138 := Tryz.func259.trans (congrArg some (by kernel_rfl))
 f143 := Tryz.func260.trans (congrArg some (by kernel_rfl))
 f146 := Tryz.func221.trans (congrArg some (by kernel_rfl))
 f195 := Tryz.func287.trans (congrArg some (by kernel_rfl))
 f197 := Tryz.func288.trans (congrArg some (by kernel_rfl))
 f217 := Tryz.func169.trans (congrArg some (by kernel_rfl))
 f218 := Tryz.func289.trans (congrArg some (by kernel_rfl))
 f219 := Tryz.func290.trans (congrArg some (by kernel_rfl))
 f221 := Tryz.func237.trans (congrArg some (by kernel_rfl))
 f224 := Tryz.func319.trans (congrArg some (by kernel_rfl))
 f225 := Tryz.func318.trans (congrArg some (by kernel_rfl))
 f260 := Tryz.func317.trans (congrArg some (by kernel_rfl))
 f266 := Tryz.func209.trans (congrArg some (by kernel_rfl))
 f267 := Tryz.func320.trans (congrArg some (by kernel_rfl))
 f268 := Tryz.func258.trans (congrArg some (by kernel_rfl))
 f314 := Tryz.func329.trans (congrArg some (by kernel_rfl))
 t0 := Tryz.underlying0
 a0 := Tryz.isAgg0
 z0 := Tryz.sizeOf0
 v0 := Tryz.zeroValue0
 t3 := Tryz.underlying3
 a3 := Tryz.isAgg3
 z3 := Tryz.sizeOf3
 v3 := Tryz.zeroValue3
 t4 := Tryz.underlying4
 a4 := Tryz.isAgg4
 z4 := Tryz.sizeOf4
 v4 := Tryz.zeroValue4
 t5 := Tryz.underlying5
 a5 := Tryz.isAgg5
 z5 := Tryz.sizeOf5
 v5 := Tryz.zeroValue5
 t9 := Tryz.underlying9
 a9 := Tryz.isAgg9
 z9 := Tryz.sizeOf9
 v9 := Tryz.zeroValue9
 t21 := Tryz.underlying21
 a21 := Tryz.isAgg21
 z21 := Tryz.sizeOf21
 v21 := Tryz.zeroValue21
 t31 := Tryz.underlying34
 a31 := Tryz.isAgg34
 z31 := Tryz.sizeOf34
 v31 := Tryz.zeroValue34
 t46 := Tryz.underlying141
 a46 := Tryz.isAgg141
 z46 := Tryz.sizeOf141
 v46 := Tryz.zeroValue141
 t51 := Tryz.underlying168
 a51 := Tryz.isAgg168
 z51 := Tryz.sizeOf168
 v51 := Tryz.zeroValue168
 t105 := Tryz.underlying318
 a105 := Tryz.isAgg318
 z105 := Tryz.sizeOf318
 v105 := Tryz.zeroValue318
 t119 := Tryz.underlying351
 a119 := Tryz.isAgg351
 z119 := Tryz.sizeOf351
 t138 := Tryz.underlying353
 a138 := Tryz.isAgg353
 z138 := Tryz.sizeOf353
 v138 := Tryz.zeroValue353
 t139 := Tryz.underlying354
 a139 := Tryz.isAgg354
 z139 := Tryz.sizeOf354
 v139 := Tryz.zeroValue354
 t146 := Tryz.underlying355
 a146 := Tryz.isAgg355
 z146 := Tryz.sizeOf355
 v146 := Tryz.zeroValue355
 g1 := by kernel_rfl
 g3 := by kernel_rfl
 g4 := by kernel_rfl }
open Go.RowKit Go.Lib in
theorem Tryz.strings_Split (s sep : ByteArray) (m : Int) (w : World) (hs : s.size < 4294967281) (hm : w.cell? ⟨1,0,none⟩ = some (.int .i64 m)) (h1 : 1 ≤ sep.size) :
   Calls Tryz.prog 221 #[.string s,.string sep] w fun e w' =>
     e = .returned (.slice (some ⟨w.heap.size,0,none⟩) (Lib.countB s sep + 1) (Lib.countB s sep + 1)) ∧ w' = w.alloc (.cells ((Lib.splitB sep 0 (Lib.countB s sep) s).map Value.string).toArray 9) := Any.strings_Split Tryz.sZ (by kernel_rfl) s sep m w hs hm h1
end Go.Proofs
end
section
namespace TwW
open Go Tw Go.RowKit Go.Proofs.Tryz
section
variable {P : Program} {f : FuncId} {args : Array Value} {σ σ' : Hp} {R : Rr}
theorem Spec.below {v : Value} (h : ∀ w,Sat σ w → Calls P f args w fun e w' => e = .returned v ∧ Below w.heap.size w w') (hR : R (.returned v) σ) : Spec P f args σ R := fun w F hs hF =>
 (h w hs).mono fun e w' ⟨he,hb⟩ => ⟨σ,he ▸ hR,fun b o ho => by
   have h1 := hs b o ho
   rw [hb.block b (Array.getElem?_eq_some_iff.1 h1).1]; exact h1,fun b hFb => ⟨(hF b hFb).2,hb.block b (hF b hFb).1⟩,⟨hb.os,hb.tape,fun h => h.elim⟩,hb.output,hb.size⟩
theorem Spec.same {v : Value} (h : ∀ w,Sat σ w → Calls P f args w fun e w' => e = .returned v ∧ w' = w) (hR : R (.returned v) σ) : Spec P f args σ R :=
 Spec.below (fun w hs => (h w hs).mono fun e w' ⟨he,hw⟩ => ⟨he,hw ▸ Below.refl _ _⟩) hR
theorem Spec.AAU {o : Obj} {v : Nat → Value} (h : ∀ w,Sat σ w → Calls P f args w fun e w' => e = .returned (v w.heap.size) ∧ w' = w.alloc o) (hR : ∀ b,σ b = none → R (.returned (v b)) (σ.set b o)) : Spec P f args σ R := fun w F hs hF =>
 (h w hs).mono fun e w' ⟨he,hw⟩ => ⟨σ.set w.heap.size o,he ▸ hR _ (FT hs),by subst hw; exact Fin.alloc hs hF _ rfl (.same rfl rfl rfl) rfl⟩
theorem cell_of {w : World} {b o : Nat} {v : Value} (hs : Sat σ w) (h : σ.ld ⟨b,o,none⟩ = some v) : w.cell? ⟨b,o,none⟩ = some v := by
 have := T8 (ys := [v]) hs ⟨h,trivial⟩ 0 v rfl
 simpa [Bj] using this
end
def S4 : List Nat := [4607182418800017408,4621819117588971520,4636737291354636288,4652007308841189376,4666723172467343360,4681608360884174848,4696837146684686336,4711630319722168320,4726483295884279808,4741671816366391296,4756540486875873280,4771362005757984768,4786511204640096256,4801453603149578240,4816244402031689728,4831355200913801216]
structure Gl (σ : Hp) : Prop where
 len : ∃ m : Int,σ.ld ⟨1,0,none⟩ = some (.int .i64 m)
 opt : σ.ld ⟨5,0,none⟩ = some (.bool true)
 bits : σ.ld ⟨6,0,none⟩ = some (.int .u64 52)
 pow : ∃ b o n c,σ.ld ⟨9,0,none⟩ = some (.slice (some ⟨b,o,none⟩) n c) ∧ 16 ≤ n ∧ ∀ i v,S4[i]? = some v → σ.ld ⟨b,o + i * 1,none⟩ = some (.float .f64 v)
theorem Gl.mono {σ σ' : Hp} (h : Gl σ) (hx : Ext σ σ') : Gl σ' := ⟨h.len.imp fun _ => hx.ld,hx.ld h.opt,hx.ld h.bits,let ⟨b,o,n,c,h1,h2,h3⟩ := h.pow; ⟨b,o,n,c,hx.ld h1,h2,fun i v hv => hx.ld (h3 i v hv)⟩⟩
section
variable {σ σ' : Hp} {R : Rr}
theorem index_spec {s t : ByteArray} (hg : Gl σ) (hs : s.size < 4294967281) (h : R (.returned (.int .i64 (Lib.index s.data.toList t.data.toList))) σ) : Spec prog 260 #[.string s,.string t] σ R := by
 obtain ⟨m,hm⟩ := hg.len
 exact Spec.same (fun w hw => Go.Proofs.Tryz.strings_Index s t m w hs (cell_of hw hm)) h
theorem S5 {s : ByteArray} {c : UInt8} (hg : Gl σ) (hs : s.size < 4294967281) (h : ∀ b T,σ b = none → R (.returned (.slice (aD b 0) (Dg c s).length (Dg c s).length)) (σ.set b (.cells ((Dg c s).map Value.string).toArray T (0,0)))) : Spec prog 221 #[.string s,.string ⟨#[c]⟩] σ R := by
 obtain ⟨m,hm⟩ := hg.len
 have hl : (Dg c s).length = Lib.countB s ⟨#[c]⟩ + 1 := Lib.splitB_all ⟨#[c]⟩ (Nat.le_refl 1) 0 _ s rfl
 have h' := fun b => h b 9
 rw [hl] at h'
 exact Spec.AAU (v := fun b => .slice (aD b 0) _ _) (fun w hw => Go.Proofs.Tryz.strings_Split s ⟨#[c]⟩ m w hs (cell_of hw hm) (Nat.le_refl 1)) h'
theorem bF {s : ByteArray} {l h : Nat} (hl : l ≤ h) (hh : h ≤ s.size) : YF prog (Instr.sliceAt 9 (.string s) (some (.int .i64 (l : Int))) (some (.int .i64 (h : Int))) none) σ (.string (s.extract l h)) := fun w _ => by
 rw [run_sliceAt_string (h := underlying9)]
 have h1 : (h : Int) ≤ s.size := by omega
 have h2 : (l : Int) ≤ h := by omega
 simp [Instr.slice,run_underlying underlying9,Instr.sliceBounds,run_sliceBound,h1,h2,Result.andThen]
theorem Ya {s t : ByteArray} (h : R (.returned (.bool (decide (t.size ≤ s.size ∧ s.extract 0 t.size = t)))) σ) : Spec prog 285 #[.string s,.string t] σ R := by
 refine HM.start (CF.start ⟨fun hle => ⟨_,wj (by omega),_,rfl,?_⟩,fun hgt => ⟨_,rfl,?_⟩⟩)
 · rw [fm,show decide (s.extract 0 t.size = t) = decide (t.size ≤ s.size ∧ s.extract 0 t.size = t) from decide_eq_decide.2 ⟨fun h => ⟨by omega,h⟩,fun h => h.2⟩]; exact h
 · rw [show false = decide (t.size ≤ s.size ∧ s.extract 0 t.size = t) from (decide_eq_false fun hh => hgt (by omega)).symm]; exact h
theorem Yb {s t : ByteArray} (hs : s.size ≤ 4611686018427387904) (h : R (.returned (.bool (decide (t.size ≤ s.size ∧ s.extract (s.size - t.size) s.size = t)))) σ) : Spec prog 286 #[.string s,.string t] σ R := by
 refine HP.start (CD.start ⟨fun hle => ⟨by unfold AG; omega,s.extract (s.size - t.size) s.size,?_,_,rfl,?_⟩,fun hgt => ⟨_,rfl,?_⟩⟩)
 · rw [show ((s.size : Nat) : Int) - ((t.size : Nat) : Int) = ((s.size - t.size : Nat) : Int) by omega]; exact QV (by omega)
 · rw [fm,show decide (s.extract (s.size - t.size) s.size = t) = decide (t.size ≤ s.size ∧ s.extract (s.size - t.size) s.size = t) from decide_eq_decide.2 ⟨fun h => ⟨by omega,h⟩,fun h => h.2⟩]; exact h
 · rw [show false = decide (t.size ≤ s.size ∧ s.extract (s.size - t.size) s.size = t) from (decide_eq_false fun hh => hgt (by omega)).symm]; exact h
def ETx (_ : Hp) (vs : List Value) (x : ByteArray) : Prop := vs = [.string x]
theorem ETx.mono : Ha ETx := fun _ _ _ _ _ h => h
abbrev da := Aa 1 ETx
theorem da.at {p : Option Addr} {n i : Nat} {ls : List ByteArray} {x : ByteArray} (hr : da σ p n ls) (hx : ls[i]? = some x) : ∃ b o,p = some ⟨b,o,none⟩ ∧ σ.ld ⟨b,o + i * 1,none⟩ = some (.string x) := by
 obtain ⟨b,o,vs,hp,rfl,hl⟩ := Aa.idx hr hx
 exact ⟨b,o,hp,hl.1⟩
theorem da.nh {b : Nat} {T : TypeId} {L : List ByteArray} (h : σ b = some (.cells (L.map Value.string).toArray T (0,0))) (hb : L.length ≤ 4611686018427387904) : da σ (aD b 0) L.length L := by
 refine ⟨rfl,L.map .string,⟨by simp,hb,.inr ⟨b,0,rfl,Au.of fun j v hj => ?_⟩⟩,by simp,fun i x hx => ?_⟩
 · rw [Nat.zero_add]; exact Ai h (by simpa using hj)
 · have h1 : (L.map Value.string)[i]? = some (.string x) := by rw [List.getElem?_map,hx]; rfl
   rw [Nat.mul_one,BC h1]; rfl
theorem sa {p : Option Addr} {n c : Nat} {l : List ByteArray} {s : ByteArray} (hg : Gl σ) (hr : da σ p n l) (h0 : 0 < n) (hc : n ≤ c) (hs : s.size < 4294967281) (hl : ∀ x ∈ l,x.size ≤ 4294967296) (h : R (.returned (.bool (jA l s))) σ) :
   Spec prog 257 #[.agg #[.slice p n c],.string s] σ R := by
 have hn : l.length = n := hr.1
 have Si := hr.big
 obtain ⟨a,ha⟩ := hr.ex h0
 obtain ⟨z,hz⟩ := hr.ex (k := n - 1) (by omega)
 obtain ⟨b,o,rfl,hla⟩ := da.at hr ha
 obtain ⟨_,_,he,we⟩ := da.at hr hz
 cases he
 have ea : l.head?.getD ⟨#[]⟩ = a := by rw [List.head?_eq_getElem?,ha]; rfl
 have ez : l.getLast?.getD ⟨#[]⟩ = z := by rw [List.getLast?_eq_getElem?,hn,hz]; rfl
 have e1 : Int.toNat ((n : Int) - 1) = n - 1 := by omega
 have hsa := hl a (List.mem_of_getElem? ha)
 have Ld := hl z (List.mem_of_getElem? hz)
 have eK : jA l s = if n = 1 then decide (s = a) else if s.size < a.size + z.size ∨ s.extract 0 a.size ≠ a ∨ s.extract (s.size - z.size) s.size ≠ z then false else Tx l.tail.dropLast (s.extract a.size (s.size - z.size)) := by
   unfold jA; rw [ea,ez,hn]
 rw [eK] at h
 refine C4.start fun _ => ⟨b,o,rfl,by omega,a,by simpa using hla,by unfold AG; omega,by omega,z,by rw [e1]; exact we,fun h1 => ?_,fun h1 => ?_⟩
 · rw [if_pos (by omega)] at h; rw [fm]; exact h
 rw [if_neg (by omega)] at h
 refine ⟨by unfold AG; omega,fun Az => ?_,fun Ul => Ya ⟨_,rfl,fun hp => ?_,fun hp => Yb (by omega) ⟨_,rfl,fun hq => ?_,fun hq => ?_⟩⟩⟩
 · rw [if_pos (.inl (by omega))] at h; exact h
 · have := of_decide_eq_false hp
   rw [if_pos (.inr (.inl fun e => this ⟨by omega,e⟩))] at h; exact h
 · have := of_decide_eq_false hq
   rw [if_pos (.inr (.inr fun e => this ⟨by omega,e⟩))] at h; exact h
 have hp' := of_decide_eq_true hp
 have hq' := of_decide_eq_true hq
 rw [if_neg (by
                rintro (h3 | h3 | h3)
                · omega
                · exact h3 hp'.2
                · exact h3 hq'.2)] at h
 have sb : da σ (Jg (aD b o) 1 c 1) (n - 2) (l.tail.dropLast) := by
   have := Aa.sub (i := 1) (m := n - 2) hr (by decide) (by omega) hc
   rwa [List.drop_one,show n - 2 = l.tail.length - 1 by rw [List.length_tail]; omega,← List.dropLast_eq_take,List.length_tail,show l.length - 1 - 1 = n - 2 by omega] at this
 refine ⟨by unfold AG; omega,s.extract a.size (s.size - z.size),?_,by unfold AG; omega,by omega,?_⟩
 · rw [show ((s.size : Nat) : Int) - ((z.size : Nat) : Int) = ((s.size - z.size : Nat) : Int) by omega]; exact bF (by omega) (by omega)
 rw [e1,show n - 1 - 1 = n - 2 by omega]
 generalize hu : s.extract a.size (s.size - z.size) = u at *
 have hus : u.size < 4294967281 := by rw [← hu,ByteArray.size_extract]; omega
 generalize Jg (aD b o) 1 c 1 = q at *
 generalize l.tail.dropLast = ms at *
 clear hu hla we ha hz ea ez eK
 suffices H : ∀ g k : Nat,∀ (q' : Option Addr) (v : ByteArray),(0 < n - 2 → q' = q) → n - 2 - k = g → k ≤ n - 2 → v.size < 4294967281 → Tx ms u = Tx (ms.drop k) v → C4.JW R v q' (n - 2) (c - 1) ((n - 2 : Nat) : Int) k σ from H (n - 2) 0 q u (fun _ => rfl) rfl (Nat.zero_le _) hus rfl
 have hml : ms.length = n - 2 := sb.1
 intro g
 induction g with
 | zero =>
   intro k q' v hq hgk hk hv he
   rw [List.drop_eq_nil_of_le (by omega)] at he
   rw [he] at h
   exact C4.I3 ⟨fun Az => by omega,fun _ => h⟩
 | succ g ih =>
   intro k q' v hq hgk hk hv he
   have E4 : k < n - 2 := by omega
   obtain ⟨t,ht⟩ := sb.ex E4
   obtain ⟨b2,o2,gL,Az⟩ := da.at sb ht
   rw [hq (by omega),gL]
   rw [BC ht,Tx] at he
   refine C4.I3 ⟨fun _ => ⟨b2,o2,rfl,by omega,t,by simpa using Az,index_spec hg hv ⟨_,rfl,fun AAQ => ?_,fun MR => ?_⟩⟩,fun hh => by omega⟩
   · rw [if_pos AAQ] at he; rw [he] at h; exact h
   · rw [if_neg MR] at he
     have HJ := Lib.index_room v.data.toList t.data.toList (by omega)
     have hv1 : v.data.toList.length = v.size := Array.length_toList (xs := v.data)
     have ht1 : t.data.toList.length = t.size := Array.length_toList (xs := t.data)
     generalize hi : Lib.index v.data.toList t.data.toList = i at *
     refine ⟨by unfold AG; omega,v.extract (i.toNat + t.size) v.size,?_,AF E4 sb.big,ih (k + 1) _ _ (fun _ => gL.symm) (by omega) (by omega) (by rw [ByteArray.size_extract]; omega) he⟩
     rw [show i + ((t.size : Nat) : Int) = ((i.toNat + t.size : Nat) : Int) by omega]; exact QV (by omega)
def ni (σ : Hp) (vs : List Value) (l : List ByteArray) : Prop := ∃ p n c,vs = [.slice p n c] ∧ da σ p n l ∧ 0 < n ∧ n ≤ c
theorem ni.mono : Ha ni := fun _ _ _ _ hx ⟨p,n,c,hv,h1,h2⟩ => ⟨p,n,c,hv,h1.mono ETx.mono hx,h2⟩
theorem gM {p : Option Addr} {n c : Nat} {L : List (List ByteArray)} {s : ByteArray} (hg : Gl σ) (hr : Aa 1 ni σ p n L) (hs : s.size < 4294967281) (hl : ∀ l ∈ L,∀ x ∈ l,x.size ≤ 4294967296) (h : R (.returned (.bool (L.any fun l => jA l s))) σ) :
   Spec prog 236 #[.agg #[.slice p n c],.string s] σ R := by
 have hn : L.length = n := hr.1
 refine BZ.start fun _ => ?_
 suffices H : ∀ g k : Nat,n - k = g → k ≤ n → (L.any fun l => jA l s) = ((L.drop k).any fun l => jA l s) → BZ.MY R s p n c n k σ from H n 0 rfl (Nat.zero_le _) rfl
 intro g
 induction g with
 | zero =>
   intro k hg' hk he
   rw [List.drop_eq_nil_of_le (by omega)] at he
   rw [he] at h
   exact BZ.C3 ⟨fun Az => by omega,fun _ => h⟩
 | succ g ih =>
   intro k hg' hk he
   have E4 : k < n := by omega
   obtain ⟨l,hx⟩ := hr.ex E4
   obtain ⟨b,o,vs,rfl,⟨p1,n1,c1,rfl,h1,h2,h3⟩,D6⟩ := Aa.idx hr hx
   rw [BC hx,List.any_cons] at he
   refine BZ.C3 ⟨fun _ => ⟨b,o,rfl,by omega,p1,n1,c1,by simpa using D6,fun _ => sa hg h1 h2 h3 hs (hl l (List.mem_of_getElem? hx)) ⟨_,rfl,fun ht => ?_,fun hf => ⟨AF E4 hr.big,ih (k + 1) (by omega) (by omega) ?_⟩⟩⟩,fun hh => by omega⟩
   · rw [ht] at he; rw [he] at h; exact h
   · rw [hf] at he; exact he
theorem Ou {c : UInt8} {s : ByteArray} : ∀ x ∈ Dg c s,x.size ≤ s.size := by
 unfold Dg
 generalize Lib.countB s ⟨#[c]⟩ = k
 induction k generalizing s with
 | zero => intro x hx; rw [Lib.splitB_zero,List.mem_singleton] at hx; rw [hx]; exact Nat.le_refl _
 | succ k ih =>
   intro x hx
   unfold Lib.splitB at hx
   split at hx
   · rw [List.mem_singleton] at hx; rw [hx]; exact Nat.le_refl _
   · rcases List.mem_cons.1 hx with rfl | hx
     · rw [ByteArray.size_extract]; omega
     · have := ih x hx
       rw [ByteArray.size_extract] at this; omega
theorem Yc {c : UInt8} {s : ByteArray} : (Dg c s).length ≤ s.size + 1 ∧ 0 < (Dg c s).length := by
 have h1 := Lib.splitB_all ⟨#[c]⟩ (Nat.le_refl 1) 0 _ s rfl
 have h2 := Lib.countB_le ⟨#[c]⟩ (Nat.le_refl 1) s.size s (Nat.le_refl _)
 unfold Dg
 omega
theorem V3 {s : ByteArray} (hg : Gl σ) (hs : s.size ≤ 1000000) (h : ∀ p n c σ',Aa 1 ni σ' p n ((Dg 124 s).map (Dg 42)) → Ext σ σ' → R (.returned (.agg #[.slice p n c])) σ') : Spec prog 179 #[.string s] σ R := by
 refine Dd.start fun _ _ => S5 hg (by omega) fun b T hb => ⟨_,_,_,rfl,?_⟩
 have CO : Ext σ (σ.set b (.cells ((Dg 124 s).map Value.string).toArray T (0,0))) := .set hb
 obtain ⟨hlen,_⟩ := Yc (c := 124) (s := s)
 have hr : da (σ.set b (.cells ((Dg 124 s).map Value.string).toArray T (0,0))) (aD b 0) (Dg 124 s).length (Dg 124 s) := da.nh (Hp.AB _ _ _) (by omega)
 generalize AMo : σ.set b (.cells ((Dg 124 s).map Value.string).toArray T (0,0)) = σ1 at *
 have Ld := Ou (c := 124) (s := s)
 generalize Dg 124 s = L at *
 suffices H : ∀ g k : Nat,∀ p3 n3 c3 σ',L.length - k = g → k ≤ L.length → GD 1 ni (σ1.new σ') p3 n3 c3 ((L.take k).map (Dg 42)) → Ext σ1 σ' → Dd.BA R none 0 0 p3 n3 c3 (aD b 0) L.length L.length L.length k σ' from H L.length 0 none 0 0 σ1 rfl (Nat.zero_le _) GD.nil (.refl _)
 intro g
 induction g with
 | zero =>
   intro k p3 n3 c3 σ' hg' hk ho hx
   rw [List.take_of_length_le (by omega)] at ho
   exact Dd.Ac ⟨fun Az => by omega,fun _ => h p3 n3 c3 σ' ((ho.rd ni.mono).mono ni.mono (Ext.Cw _ _)) (CO.trans hx)⟩
 | succ g ih =>
   intro k p3 n3 c3 σ' hg' hk ho hx
   have E4 : k < L.length := by omega
   obtain ⟨x,fq⟩ := hr.ex E4
   obtain ⟨b2,o2,he,LM⟩ := da.at hr fq
   cases he
   have hxs := Ld x (List.mem_of_getElem? fq)
   have hn3 : n3 = k := by have := ho.1; rw [List.length_map,List.length_take] at this; omega
   refine Dd.Ac ⟨fun _ => ⟨b,0,rfl,by omega,x,by simpa using hx.ld LM,S5 (hg.mono (CO.trans hx)) (by omega) fun b4 T4 hb4 => ⟨_,_,_,rfl,fun Uc AMp => ?_⟩⟩,fun hh => by omega⟩
   obtain ⟨AQA,AHJ⟩ := Yc (c := 42) (s := x)
   have Mu : Ext σ' (σ'.set b4 (.cells ((Dg 42 x).map Value.string).toArray T4 (0,0))) := .set hb4
   have hp3 : ∀ a,p3 = some a → σ' a.block ≠ none := fun a ha => by
     have := ho.block a ha
     cases hh : (σ1.new σ') a.block with
     | none => exact absurd hh this
     | some oo => rw [(AY.1 hh).2]; simp
   have AMq : (σ1.new (σ'.set b4 (.cells ((Dg 42 x).map Value.string).toArray T4 (0,0))) |>.del p3) b4 = some (.cells ((Dg 42 x).map Value.string).toArray T4 (0,0)) := AU.2 ⟨fun a ha e => hp3 a ha (by rw [← e]; exact hb4),AY.2 ⟨BF hx hb4,Hp.AB _ _ _⟩⟩
   refine GD.Hb ni.mono (vs := [.slice (aD b4 0) (Dg 42 x).length (Dg 42 x).length]) (x := Dg 42 x) (hx.trans Mu) (ho.mono ni.mono (Ext.EL Mu)) rfl (fun u hu => by rw [List.mem_singleton] at hu; subst hu; rfl) ⟨_,_,_,rfl,da.nh AMq (by omega),AHJ,Nat.le_refl _⟩ (by omega) (fun p' c' σ2 BM A1 => ⟨_,_,_,rfl,AF E4 hr.big,ih (k + 1) _ _ _ _ (by omega) (by omega) ?_ A1⟩) AMp
   rw [AS fq,List.map_append]; exact BM
theorem Uw {p q : Option Addr} {n c m d : Nat} {ms : List Mt} {ls : List Lb} (hg : Gl σ) (hr : Aa 3 JZ σ p n ms) (hq : Cq σ q m ls) (hm : ∀ x ∈ ms,x.val.size ≤ 1000000) (Ja : ∀ x ∈ ls,x.2.size ≤ 1000000) (hk : ∀ x ∈ ms,1 ≤ x.kind ∧ x.kind ≤ 4) (h : ∀ σ',Ext σ σ' → R (.returned (.bool (Fg ms ls))) σ') :
   Spec prog 142 #[.slice p n c,.slice q m d] σ R := by
 have hl : ms.length = n := hr.1
 refine D1.start (PN.start fun kb Gj => ⟨_,_,_,rfl,?_⟩)
 have CO := Ext.set (o := .cells #[.nilFunc,(.func (.func 217) #[] #[]),(.func (.func 218) #[] #[]),(.func (.func 219) #[] #[]),(.func (.func 220) #[] #[])] 221 (0,0)) Gj
 have hc := Hp.AB σ kb (.cells #[.nilFunc,(.func (.func 217) #[] #[]),(.func (.func 218) #[] #[]),(.func (.func 219) #[] #[]),(.func (.func 220) #[] #[])] 221 (0,0))
 generalize AMo : σ.set kb (.cells #[.nilFunc,(.func (.func 217) #[] #[]),(.func (.func 218) #[] #[]),(.func (.func 219) #[] #[]),(.func (.func 220) #[] #[])] 221 (0,0)) = σ1 at *
 have hgs : ∀ k : ByteArray,(Bz ls k).size ≤ 1000000 := fun k => by
   clear hq h
   induction ls with
   | nil => unfold Bz; decide
   | cons a l ih =>
     unfold Bz
     split
     · exact Ja a (by simp)
     · exact ih fun x hx => Ja x (List.mem_cons_of_mem _ hx)
 suffices H : ∀ g k : Nat,∀ σ',n - k = g → k ≤ n → Ext σ1 σ' → Fg ms ls = Fg (ms.drop k) ls → D1.BA R q m d (aD kb 0) 5 5 p n c n k σ' from H n 0 σ1 rfl (Nat.zero_le _) (.refl _) rfl
 intro g
 induction g with
 | zero =>
   intro k σ' hg' E4 hx he
   have := h σ' (CO.trans hx)
   rw [he,List.drop_eq_nil_of_le (by omega)] at this
   exact D1.Ac ⟨fun Az => by omega,fun _ => this⟩
 | succ g ih =>
   intro k σ' hg' Wi hx he
   have E4 : k < n := by omega
   obtain ⟨x,fq⟩ := hr.ex E4
   obtain ⟨b,o,rfl,D6⟩ := JZ.at hr fq
   have Ux := List.mem_of_getElem? fq
   have hk4 := hk x Ux
   have QQ : Fg ms ls = (Ki x ls && Fg (ms.drop (k + 1)) ls) := by rw [he,BC fq]; rfl
   have step : ∀ (t : Bool) (σ2 : Hp),t = Ki x ls → Ext σ1 σ2 → AA R (CB fun t35 Av => Bn t35 (R (.returned (.bool false)) Av) (AG ((k : Int) + 1) ∧ D1.BA R q m d (aD kb 0) 5 5 (aD b o) n c n ((k : Int) + 1) Av)) (.returned (.bool t)) σ2 := fun t σ2 ht A1 => by
     refine ⟨t,rfl,fun hf => ?_,fun htt => ⟨AF E4 hr.big,ih (k + 1) σ2 (by omega) (by omega) A1 ?_⟩⟩
     · have := h σ2 (CO.trans A1)
       rw [QQ,← ht,hf] at this; exact this
     · rw [QQ,← ht,htt]; rfl
   refine D1.Ac ⟨fun _ => ⟨b,o,rfl,by omega,x.kind,x.name,x.val,by simpa using (D6.mono (CO.trans hx)),fun _ => Ut ⟨_,rfl,fun hf => ?_,fun ht => ⟨kb,0,rfl,by omega,?_⟩⟩⟩,fun hh => by omega⟩
   · exact absurd hk4 (of_decide_eq_false hf)
   have Hv : ∀ σ2 p1 n1 c1,Aa 1 ni σ2 p1 n1 ((Dg 124 x.val).map (Dg 42)) → Ext σ1 σ2 → ∀ R2 : Rr,R2 (.returned (.bool (IH x.val (Bz ls x.name)))) σ2 → Spec prog 236 #[.agg #[.slice p1 n1 c1],.string (Bz ls x.name)] σ2 R2 := fun σ2 p1 n1 c1 qt A1 R2 sd => by
     refine gM (hg.mono (CO.trans A1)) qt (by have := hgs x.name; omega) (fun l hl y hy => ?_) ?_
     · obtain ⟨z,hz,rfl⟩ := List.mem_map.1 hl
       have h1 := Ou y hy
       have h2 := Ou z hz
       have h3 := hm x Ux
       omega
     · rw [List.any_map]; exact sd
   have row : ∀ (i : Nat) (f : FuncId) (t : Bool),x.kind = i → (#[.nilFunc,(.func (.func 217) #[] #[]),(.func (.func 218) #[] #[]),(.func (.func 219) #[] #[]),(.func (.func 220) #[] #[])] : Array Value)[i]? = some (.func (.func f) #[] #[]) → Enters prog f → t = Ki x ls →
       (∀ p1 n1 c1 σ2 (R2 : Rr),Aa 1 ni σ2 p1 n1 ((Dg 124 x.val).map (Dg 42)) → Ext σ1 σ2 → R2 (.returned (.bool t)) σ2 → Spec prog f #[.agg #[.slice p1 n1 c1,.string x.val],.string (Bz ls x.name)] σ2 R2) →
       ∃ v24,Hp.ld σ' ⟨kb,(0 + Int.toNat x.kind * 1),none⟩ = some v24 ∧ Spec prog 179 #[.string x.val] σ' (AA R (fun z AH => ∃ Md Ll Me,z = (.agg #[.slice Md Ll Me]) ∧ Kp [kb] σ' AH ∧ Spec prog 180 #[.slice q m d,.string x.name] AH (AA R (CT fun s34 AL => Kp [kb] AH AL ∧ ∃ (f35 : Nat) (Xk Xl : Array Value),v24 = .func (.func f35) Xk Xl ∧ Enters prog f35 ∧ Spec prog f35 (Xk ++ #[.agg #[.slice Md Ll Me,.string x.val],.string s34] ++ Xl) AL (AA R (CB fun t35 Av => Bn t35 (R (.returned (.bool false)) Av) (AG ((k : Int) + 1) ∧ D1.BA R q m d (aD kb 0) 5 5 (aD b o) n c n ((k : Int) + 1) Av)))))) ) := fun i f t hi hv Pr ht hf => by
     refine ⟨.func (.func f) #[] #[],?_,?_⟩
     rotate_left
     · refine V3 (hg.mono (CO.trans hx)) (hm x Ux) fun p1 n1 c1 σ2 qt A1 => ⟨p1,n1,c1,rfl,Kp.HY A1,Tt (hq.mono BT.mono (CO.trans (hx.trans A1))) ⟨_,rfl,Kp.HY (.refl _),f,#[],#[],rfl,Pr,hf p1 n1 c1 σ2 _ qt (hx.trans A1) (step t σ2 ht (hx.trans A1))⟩⟩
     rw [hi]
     exact Ai (hx _ _ hc) (by simpa using hv)
   have nj : x.kind = 1 ∨ x.kind = 2 ∨ x.kind = 3 ∨ x.kind = 4 := by omega
   rcases nj with h1 | h1 | h1 | h1
   · exact row 1 217 (decide (Bz ls x.name = x.val)) h1 rfl EX.en (by unfold Ki; rw [if_pos h1]) fun p1 n1 c1 σ2 R2 _ _ sd => EX.start fun _ => by rw [fm]; exact sd
   · exact row 2 218 (!decide (Bz ls x.name = x.val)) h1 rfl Ea.en (by unfold Ki; rw [if_neg (by omega),if_pos h1]; simp) fun p1 n1 c1 σ2 R2 _ _ sd => Ea.start fun _ => by rw [fm]; exact sd
   · exact row 3 219 (IH x.val (Bz ls x.name)) h1 rfl Dq.en (by unfold Ki; rw [if_neg (by omega),if_neg (by omega),if_pos h1]) fun p1 n1 c1 σ2 R2 qt A1 sd => Dq.start fun _ => Hv σ2 p1 n1 c1 qt A1 _ ⟨_,rfl,sd⟩
   · exact row 4 220 (!IH x.val (Bz ls x.name)) h1 rfl Dp.en (by unfold Ki; rw [if_neg (by omega),if_neg (by omega),if_neg (by omega),if_pos h1]) fun p1 n1 c1 σ2 R2 qt A1 sd => Dp.start fun _ => Hv σ2 p1 n1 c1 qt A1 _ ⟨_,rfl,sd⟩
end
end TwW
end
section
namespace TwW
open Go Tw Go.RowKit Go.Proofs.Tryz
structure Rs where
 m : Nat
 dot : Bool
 nd : Nat
 dp : Int
def Cp (st : Rs) (u : UInt8) : Rs := if u = 46 then { st with dot := true,dp := st.nd } else if u = 48 ∧ st.nd = 0 then { st with dp := st.dp - 1 } else { st with m := st.m * 10 + (u.toNat - 48),nd := st.nd + 1 }
def HU (s : ByteArray) : Rs := s.data.toList.foldl Cp ⟨0,false,0,0⟩
def S6 (r : Rs) : Int := if r.m = 0 then 0 else (if r.dot then r.dp else r.nd) - r.nd
def Ye (s : ByteArray) : Int :=
 let r := HU s
 if r.m = 0 then (toF 0 : Nat) else if S6 r = 0 then (toF (FloatKind.f64.nearest r.m) : Nat) else (Vz 4 (FloatKind.f64.nearest r.m) (S4.getD (-S6 r).toNat 0) : Nat)
section
variable {σ σ' : Hp} {R : Rr}
theorem Nt {s : ByteArray} (hb : s.size ≤ 4611686018427387904) (h : R (.returned (.int .i64 (AV s))) σ) : Spec prog 213 #[.string s] σ R := by
 have hlen : s.data.toList.length = s.size := Array.length_toList (xs := s.data)
 refine Fa.start ?_
 suffices H : ∀ g k : Nat,s.size - k = g → k ≤ s.size → (∀ j u,j < k → s.data.toList[j]? = some u → Fh u = true) → Fa.F3 R s k σ from H s.size 0 rfl (Nat.zero_le _) (fun j u hj => by omega)
 intro g
 induction g with
 | zero =>
   intro k hg hk h1
   have e : AV s = k := IL (by omega) h1 (fun u hu => by have := (List.getElem?_eq_some_iff.1 hu).1; omega)
   rw [e] at h
   exact Fa.As ⟨fun Az => by omega,fun _ => h⟩
 | succ g ih =>
   intro k hg hk h1
   obtain ⟨u,hu,DY⟩ := byte_at (show k < s.size by omega)
   have stop : Fh u = false → R (.returned (.int .i64 k)) σ := fun hd => by
     have e : AV s = k := IL (by omega) h1 (fun v hv => by rw [DY] at hv; cases hv; exact hd)
     rw [e] at h; exact h
   refine Fa.As ⟨fun _ => ⟨u,by omega,by simpa using hu,fun gC => ⟨u,by omega,by simpa using hu,fun h57 => ?_,fun h57 => stop ?_⟩,fun gC => stop ?_⟩,fun hh => by omega⟩
   · refine ⟨AF (by omega : k < s.size) hb,ih (k + 1) (by omega) (by omega) fun j v hj hv => ?_⟩
     by_cases qP : j = k
     · rw [qP,DY] at hv; cases hv
       exact decide_eq_true (by omega)
     · exact h1 j v (by omega) hv
   · exact decide_eq_false (by omega)
   · exact decide_eq_false (by omega)
theorem V4 {s : ByteArray} (hb : s.size ≤ 4611686018427387904) (ht : GO s = true) (h : R (.returned (.bool true)) σ) : Spec prog 172 #[.string s] σ R := by
 have hle := Nr s
 have h0 : AV s ≠ 0 := fun e => by unfold GO at ht; rw [if_pos e] at ht; cases ht
 have h1 : ¬ (1 < AV s ∧ s.data[0]? = some 48) := fun e => by unfold GO at ht; rw [if_neg h0,if_pos e] at ht; cases ht
 obtain ⟨u0,hu0,_⟩ := byte_at (show 0 < s.size by omega)
 have P1 := JE (u := u0) (k := 48) (by decide)
 have tail : Br ((AV s : Int) = ((ByteArray.size s : Nat) : Int)) (R (.returned (.bool (decide ((AV s : Int) ≤ 15)))) σ) (AG ((AV s : Int) + 1) ∧ ∃ ui,YF prog (Instr.sliceAt 9 (.string s) (some (.int .i64 ((AV s : Int) + 1))) none none) σ (.string ui) ∧ Spec prog 213 #[.string ui] σ (AA R (CI .i64 fun MZ AH => ∃ L9 : UInt8,0 ≤ (AV s : Int) ∧ (ByteArray.data s)[Int.toNat (AV s : Int)]? = some L9 ∧ Br ((((UInt8.toNat L9 : Nat) : Int) : Int) = 46) (Br (0 < MZ) (AG ((AV s : Int) + 1) ∧ AG (((AV s : Int) + 1) + MZ) ∧ Br (((((AV s : Int) + 1) + MZ) : Int) = ((ByteArray.size s : Nat) : Int)) (AG ((AV s : Int) + MZ) ∧ R (.returned (.bool (decide ((((AV s : Int) + MZ) : Int) ≤ 15)))) AH) (R (.returned (.bool false)) AH)) (R (.returned (.bool false)) AH)) (R (.returned (.bool false)) AH)))) := by
   unfold GO at ht
   rw [if_neg h0,if_neg h1] at ht
   refine ⟨fun he => ?_,fun he => ⟨by unfold AG; omega,s.extract (AV s + 1) s.size,QV (l := AV s + 1) (by omega),?_⟩⟩
   · rw [if_pos (by omega)] at ht
     rw [decide_eq_true (by have := of_decide_eq_true ht; omega)]; exact h
   · rw [if_neg (by omega)] at ht
     have ht := of_decide_eq_true ht
     have AMk : (s.extract (AV s + 1) s.size).size = s.size - (AV s + 1) := by rw [ByteArray.size_extract]; omega
     have hm := Nr (s.extract (AV s + 1) s.size)
     refine Nt (by omega) ?_
     obtain ⟨u,hu,_⟩ := byte_at (show AV s < s.size by omega)
     rw [hu] at ht
     have b46 := JE (u := u) (k := 46) (by decide)
     generalize AV (s.extract (AV s + 1) s.size) = m at *
     refine ⟨_,rfl,u,by omega,by simpa using hu,fun YU => ⟨fun h0m => ⟨by unfold AG; omega,by unfold AG; omega,fun hs => ⟨by unfold AG; omega,?_⟩,fun hs => absurd (by omega) hs⟩,fun h0m => absurd (by omega) h0m⟩,fun YU => absurd (b46.2 (by have := ht.1; simpa using this)) YU⟩
     rw [decide_eq_true (by omega)]; exact h
 refine PI.start (Nt hb ⟨_,rfl,fun hh => absurd hh (by omega),fun _ => ⟨fun h1n => ⟨u0,by omega,by simpa using hu0,fun gC => ?_,fun _ => tail⟩,fun _ => tail⟩⟩)
 exact absurd ⟨by omega,by rw [hu0,P1.1 gC]; rfl⟩ h1
theorem bG {α : Type} {p : α → Bool} : ∀ {l : List α} {u : α},u ∈ l.takeWhile p → p u = true
 | [],u,h => by cases h
 | a :: l,u,h => by
   unfold List.takeWhile at h
   split at h
   · rename_i ha
     rcases List.mem_cons.1 h with rfl | h
     · exact ha
     · exact bG h
   · cases h
theorem LP {s : ByteArray} (h : GO s = true) : 0 < s.size ∧ s.size ≤ 16 ∧ (∃ u,s.data.toList[0]? = some u ∧ Fh u = true) ∧ (∀ u ∈ s.data.toList,Fh u = true ∨ u = 46) ∧ (s.data.toList.filter Fh).length ≤ 15 ∧ (∀ j k : Nat,s.data.toList[j]? = some 46 → s.data.toList[k]? = some 46 → j = k) := by
 have hlen : s.data.toList.length = s.size := Array.length_toList (xs := s.data)
 have hle := Nr s
 have h0 : AV s ≠ 0 := fun e => by unfold GO at h; rw [if_pos e] at h; cases h
 have h1 : ¬ (1 < AV s ∧ s.data[0]? = some 48) := fun e => by unfold GO at h; rw [if_neg h0,if_pos e] at h; cases h
 unfold GO at h
 rw [if_neg h0,if_neg h1] at h
 have hT : s.data.toList.takeWhile Fh = s.data.toList.take (AV s) := by
   unfold AV
   exact (List.prefix_iff_eq_take.1 (List.takeWhile_prefix _))
 have V5 : ∀ u ∈ s.data.toList.take (AV s),Fh u = true := fun u hu => by rw [← hT] at hu; exact bG hu
 have d46 : Fh 46 = false := by decide
 have ex0 : ∃ u,s.data.toList[0]? = some u ∧ Fh u = true := by
   obtain ⟨u,_,DY⟩ := byte_at (show 0 < s.size by omega)
   refine ⟨u,DY,V5 u (List.mem_of_getElem? (i := 0) ?_)⟩
   rw [List.getElem?_take,if_pos (by omega)]; exact DY
 by_cases he : AV s = s.size
 · rw [if_pos he] at h
   have h15 := of_decide_eq_true h
   have Hv : ∀ u ∈ s.data.toList,Fh u = true := fun u hu => V5 u (by rw [List.take_of_length_le (by omega)]; exact hu)
   refine ⟨by omega,by omega,ex0,fun u hu => .inl (Hv u hu),by have := List.length_filter_le Fh s.data.toList; omega,fun j k hj _ => ?_⟩
   have := Hv 46 (List.mem_of_getElem? hj)
   rw [d46] at this; cases this
 · rw [if_neg he] at h
   have hh := of_decide_eq_true h
   generalize hm : AV (s.extract (AV s + 1) s.size) = m at hh
   have hm2 : m ≤ 15 := by omega
   have Mj : s.data.toList = s.data.toList.take (AV s) ++ 46 :: s.data.toList.drop (AV s + 1) := by
     obtain ⟨u,hu,DY⟩ := byte_at (show AV s < s.size by omega)
     have e46 : u = 46 := by have := hh.1; rw [hu] at this; simpa using this
     rw [← e46,← BC DY,List.take_append_drop]
   have I6 : (s.extract (AV s + 1) s.size).data.toList = s.data.toList.drop (AV s + 1) := by
     rw [ByteArray.data_extract,Array.toList_extract,List.extract_eq_take_drop]
     rw [List.take_of_length_le (by rw [List.length_drop]; omega)]
   have wv : ∀ u ∈ s.data.toList.drop (AV s + 1),Fh u = true := fun u hu => by
     rw [← I6] at hu
     have hp := List.takeWhile_prefix (p := Fh) (l := (s.extract (AV s + 1) s.size).data.toList)
     have hl : ((s.extract (AV s + 1) s.size).data.toList.takeWhile Fh).length = (s.extract (AV s + 1) s.size).data.toList.length := by
       rw [show ((s.extract (AV s + 1) s.size).data.toList.takeWhile Fh).length = AV (s.extract (AV s + 1) s.size) from rfl,hm,I6,List.length_drop]; omega
     have := hp.eq_of_length hl
     rw [← this] at hu
     exact bG hu
   refine ⟨by omega,by omega,ex0,fun u hu => ?_,?_,fun j k hj hk => ?_⟩
   · rw [Mj] at hu
     rcases List.mem_append.1 hu with hu | hu
     · exact .inl (V5 u hu)
     · rcases List.mem_cons.1 hu with rfl | hu
       · exact .inr rfl
       · exact .inl (wv u hu)
   · rw [Mj,List.filter_append,List.filter_cons,d46]
     have a1 := List.length_filter_le Fh (s.data.toList.take (AV s))
     have a2 := List.length_filter_le Fh (s.data.toList.drop (AV s + 1))
     rw [List.length_take] at a1
     rw [List.length_drop] at a2
     simp only [List.length_append]
     simp
     omega
   · have only : ∀ i : Nat,s.data.toList[i]? = some 46 → i = AV s := fun i hi => by
       rw [Mj] at hi
       have cA : (s.data.toList.take (AV s)).length = AV s := by rw [List.length_take]; omega
       rcases Nat.lt_trichotomy i (AV s) with Az | Az | Az
       · rw [List.getElem?_append_left (by omega)] at hi
         have := V5 46 (List.mem_of_getElem? hi)
         rw [d46] at this; cases this
       · exact Az
       · rw [List.getElem?_append_right (by omega),cA] at hi
         obtain ⟨d,hd⟩ : ∃ d,i - AV s = d + 1 := ⟨i - AV s - 1,by omega⟩
         rw [hd,List.getElem?_cons_succ] at hi
         have := wv 46 (List.mem_of_getElem? hi)
         rw [d46] at this; cases this
     rw [only j hj,only k hk]
def bH (s : ByteArray) (k : Nat) : Nat := ((s.data.toList.take k).filter Fh).length
structure ROk (s : ByteArray) (k : Nat) (r : Rs) : Prop where
 is : r = (s.data.toList.take k).foldl Cp ⟨0,false,0,0⟩
 nd : r.nd ≤ bH s k
 m : r.m < 10 ^ r.nd
 lo : (r.nd : Int) - r.dp ≤ bH s k
 hi : r.dp ≤ r.nd
 sw : r.dot = true → ∃ j,j < k ∧ s.data.toList[j]? = some 46
theorem Ga {u : UInt8} (h : Fh u = true) : 48 ≤ u.toNat ∧ u.toNat ≤ 57 := of_decide_eq_true h
theorem ROk.zero {s : ByteArray} : ROk s 0 ⟨0,false,0,0⟩ := ⟨rfl,Nat.zero_le _,by decide,by simp,by simp,fun h => by cases h⟩
theorem gN {s : ByteArray} {k : Nat} {u : UInt8} (hu : s.data.toList[k]? = some u) : bH s (k + 1) = bH s k + if Fh u then 1 else 0 := by
 unfold bH
 rw [AS hu,List.filter_append,List.length_append]
 congr 1
 by_cases h : Fh u = true <;> simp [h]
theorem ROk.step {s : ByteArray} {k : Nat} {r : Rs} {u : UInt8} (h : ROk s k r) (hu : s.data.toList[k]? = some u) (hd : Fh u = true ∨ u = 46) : ROk s (k + 1) (Cp r u) := by
 have hc := gN hu
 have his : Cp r u = (s.data.toList.take (k + 1)).foldl Cp ⟨0,false,0,0⟩ := by rw [AS hu,List.foldl_append,← h.is]; rfl
 have h1 := h.nd
 have h2 := h.m
 have h3 := h.lo
 have h4 := h.hi
 by_cases YU : u = 46
 · subst YU
   have e : Cp r 46 = { r with dot := true,dp := r.nd } := by unfold Cp; rw [if_pos rfl]
   rw [show Fh 46 = false from by decide] at hc
   simp only [Bool.false_eq_true,if_false,Nat.add_zero] at hc
   rw [e] at his ⊢
   exact ⟨his,by rw [hc]; exact h1,h2,by dsimp only; omega,Int.le_refl _,fun _ => ⟨k,by omega,hu⟩⟩
 have hdg := hd.resolve_right YU
 have hn := Ga hdg
 rw [hdg] at hc
 simp only [if_true] at hc
 by_cases gC : u = 48 ∧ r.nd = 0
 · have e : Cp r u = { r with dp := r.dp - 1 } := by unfold Cp; rw [if_neg YU,if_pos gC]
   rw [e] at his ⊢
   exact ⟨his,by dsimp only; omega,h2,by dsimp only; omega,by dsimp only; omega,fun hh => let ⟨j,h5,h6⟩ := h.sw hh; ⟨j,by omega,h6⟩⟩
 · have e : Cp r u = { r with m := r.m * 10 + (u.toNat - 48),nd := r.nd + 1 } := by unfold Cp; rw [if_neg YU,if_neg gC]
   rw [e] at his ⊢
   exact ⟨his,by dsimp only; omega,by dsimp only; rw [Nat.pow_succ]; omega,by dsimp only; omega,by dsimp only; omega,fun hh => let ⟨j,h5,h6⟩ := h.sw hh; ⟨j,by omega,h6⟩⟩
theorem nk {x : Int} (h0 : 0 ≤ x) (h1 : x < 18446744073709551616) : IntKind.u64.wrap x = x := by simp [IntKind.wrap,IntKind.bits,IntKind.signed]; omega
theorem AHL {x : Int} (h0 : 0 ≤ x) (h1 : x < 256) : IntKind.u8.wrap x = x := by simp [IntKind.wrap,IntKind.bits,IntKind.signed]; omega
theorem Yf {n : Nat} (h : n ≤ 15) : 10 ^ n ≤ 1000000000000000 := Nat.le_trans (Nat.pow_le_pow_right (by decide) h) (by decide)
theorem gO {s : ByteArray} (ht : GO s = true) (h : R (.returned (.tuple #[.int .u64 ((HU s).m : Nat),.int .i64 (S6 (HU s)),.bool false,.bool false,.bool false,.int .i64 (s.size : Nat),.bool true])) σ) : Spec prog 272 #[.string s] σ R := by
 obtain ⟨hs0,AAZ,⟨u0,hu0,hd0⟩,hby,se,AHO⟩ := LP ht
 have hlen : s.data.toList.length = s.size := Array.length_toList (xs := s.data)
 have hn0 := Ga hd0
 have hg0 : s.data[0]? = some u0 := by rw [← Array.getElem?_toList]; exact hu0
 have AHP : ∀ k,bH s k ≤ 15 := fun k => Nat.le_trans (List.Sublist.length_le ((List.take_sublist _ _).filter _)) se
 have V6 : AE.lg R s 0 0 false false false 0 false false 10 19 101 false false 0 0 0 σ := by
   suffices H : ∀ g k : Nat,∀ r : Rs,s.size - k = g → k ≤ s.size → ROk s k r → AE.lg R s (r.m : Nat) 0 false false false (k : Nat) false false 10 19 101 r.dot (decide (0 < k)) (r.nd : Nat) (r.nd : Nat) r.dp σ from H s.size 0 ⟨0,false,0,0⟩ rfl (Nat.zero_le _) .zero
   intro g
   induction g with
   | zero =>
     intro k r hg hk hr
     have Wi : k = s.size := by omega
     have er : r = HU s := by rw [hr.is,List.take_of_length_le (by omega)]; rfl
     have hc := AHP k
     have h1 := hr.nd
     have h3 := hr.lo
     have h4 := hr.hi
     refine AE.dI ⟨fun Az => by omega,fun _ => ?_⟩
     rw [show decide (0 < k) = true from decide_eq_true (by omega)]
     have fin : ∀ x17 : Int,(r.m ≠ 0 → x17 - r.nd = S6 r) → -100 ≤ x17 → x17 ≤ 100 → AE.dH R s (r.m : Nat) 0 false false false (k : Nat) false false 10 101 (r.nd : Nat) x17 σ := fun x17 hx wx wy => by
       refine AE.lr ⟨fun hh => absurd hh (by decide),fun _ => AE.lu ⟨fun Az => by omega,fun _ => ⟨fun hh => absurd hh (by decide),fun _ => AE.lv ⟨fun hm => ⟨by unfold AG; omega,AE.Xp ⟨fun hh => (by cases hh),fun _ => ?_⟩⟩,fun hm => AE.Xp ⟨fun hh => (by cases hh),fun _ => ?_⟩⟩⟩⟩⟩
       · rw [hx (by omega),Wi,er]; exact h
       · have hm0 : r.m = 0 := by omega
         have : S6 (HU s) = 0 := by rw [← er]; unfold S6; rw [if_pos hm0]
         rw [this,← Wi,← er] at h; exact h
     refine AE.lq ⟨fun hh => (by cases hh),fun _ => ⟨fun hf => fin _ (fun hm => ?_) (by omega) (by omega),fun hf => fin _ (fun hm => ?_) (by omega) (by omega)⟩⟩
     · unfold S6; rw [if_neg hm,hf]; rfl
     · unfold S6; rw [if_neg hm,hf]; rfl
   | succ g ih =>
     intro k r hg hk hr
     obtain ⟨u,hu,DY⟩ := byte_at (show k < s.size by omega)
     have UR := hby u (List.mem_of_getElem? DY)
     have Fp := hr.step DY UR
     have Ph := fun h64 => AE.lz (R := R) (σ := σ) (s0 := s) (x2 := ((Cp r u).m : Nat)) (x3 := 0) (t4 := false) (t5 := false) (t6 := false) (x7 := (k : Nat)) (t8 := false) (t9 := false) (x10 := 10) (x11 := 19) (x12 := 101) (t13 := (Cp r u).dot) (t14 := true) (x15 := ((Cp r u).nd : Nat)) (x16 := ((Cp r u).nd : Nat)) (x17 := (Cp r u).dp) ⟨h64,by
       have := ih (k + 1) (Cp r u) (by omega) (by omega) Fp
       rw [show decide (0 < k + 1) = true from decide_eq_true (by omega)] at this
       exact_mod_cast this⟩
     have Ph := Ph (by unfold AG; omega)
     have hc := AHP k
     have h1 := hr.nd
     have h3 := hr.lo
     have h4 := hr.hi
     refine AE.dI ⟨fun _ => ⟨u,by omega,by simpa using hu,fun h95 => ?_,fun h95 => ⟨fun YU => ⟨fun AHQ => ?_,fun AHQ => ?_⟩,fun YU => ?_⟩⟩,fun hh => by omega⟩
     · exfalso
       rcases UR with hd | rfl
       · have := Ga hd; omega
       · exact absurd h95 (by decide)
     · exfalso
       obtain ⟨j,hj,eY⟩ := hr.sw AHQ
       have e : u = 46 := (JE (k := 46) (by decide)).1 YU
       rw [e] at DY
       have := AHO j k eY DY
       omega
     · have e : u = 46 := (JE (k := 46) (by decide)).1 YU
       have hk0 : 0 < k := by
         rcases Nat.eq_zero_or_pos k with h0 | h0
         · subst h0
           rw [hu0] at DY; cases DY
           rw [e] at hd0; exact absurd hd0 (by decide)
         · exact h0
       rw [show decide (0 < k) = true from decide_eq_true hk0]
       rw [show Cp r u = { r with dot := true,dp := r.nd } by unfold Cp; rw [if_pos e]] at Ph
       exact Ph
     have hd := UR.resolve_right fun e => YU ((JE (k := 46) (by decide)).2 e)
     have hn := Ga hd
     have wz : u ≠ 46 := fun e => YU ((JE (k := 46) (by decide)).2 e)
     have P1 := JE (u := u) (k := 48) (by decide)
     refine ⟨fun _ => ⟨fun _ => ?_,fun hh => by omega⟩,fun hh => by omega⟩
     have ASo := Nat.lt_of_lt_of_le hr.m (Yf (show r.nd ≤ 15 by omega))
     have digit : ¬ (u = 48 ∧ r.nd = 0) → AG ((r.nd : Int) + 1) ∧ Br ((r.nd : Int) < 19) (Df (IntKind.u64.wrap ((r.m : Int) * 10)) fun x99 => Df (IntKind.u8.wrap (((UInt8.toNat u : Nat) : Int) - 48)) fun fh => Df (IntKind.u64.wrap fh) fun fi => Df (IntKind.u64.wrap (x99 + fi)) fun aU => AG ((r.nd : Int) + 1) ∧ AE.Fb R s aU 0 false false false (k : Nat) false false 10 19 101 r.dot true ((r.nd : Int) + 1) ((r.nd : Int) + 1) r.dp σ) (Br ((((UInt8.toNat u : Nat) : Int) : Int) ≠ 48) (AE.Fb R s (r.m : Nat) 0 false true false (k : Nat) false false 10 19 101 r.dot true ((r.nd : Int) + 1) (r.nd : Nat) r.dp σ) (AE.Fb R s (r.m : Nat) 0 false false false (k : Nat) false false 10 19 101 r.dot true ((r.nd : Int) + 1) (r.nd : Nat) r.dp σ)) := fun Bc => by
       refine ⟨by unfold AG; omega,fun _ => fun x99 e99 fh AMr fi AMs aU AMt => ⟨by unfold AG; omega,?_⟩,fun hh => absurd (by omega) hh⟩
       rw [nk (by omega) (by omega)] at e99
       rw [AHL (by omega) (by omega)] at AMr
       rw [nk (by omega) (by omega)] at AMs
       rw [nk (by omega) (by omega)] at AMt
       rw [show Cp r u = { r with m := r.m * 10 + (u.toNat - 48),nd := r.nd + 1 } by unfold Cp; rw [if_neg wz,if_neg Bc]] at Ph
       have : aU = ((r.m * 10 + (u.toNat - 48) : Nat) : Int) := by omega
       rw [this]
       exact_mod_cast Ph
     refine ⟨fun gC => ⟨fun hz => ⟨by unfold AG; omega,?_⟩,fun hz => digit fun hh => hz (by omega)⟩,fun gC => digit fun hh => gC (P1.2 hh.1)⟩
     rw [show Cp r u = { r with dp := r.dp - 1 } by unfold Cp; rw [if_neg wz,if_pos ⟨P1.1 gC,by omega⟩]] at Ph
     exact Ph
 have AMu : AE.Tq R s 0 0 false false false 0 false false σ := by
   refine AE.QP ⟨by unfold AG; omega,fun Az => ⟨u0,by omega,by simpa using hg0,fun gC => ⟨by unfold AG; omega,?_⟩,fun _ => AE.I5 V6⟩,fun _ => AE.I5 V6⟩
   obtain ⟨u1,hu1,AMv⟩ := byte_at (show 1 < s.size by omega)
   refine ⟨u1,by decide,by simpa using hu1,EW.start fun x4 e4 => ⟨_,rfl,fun AMw => ?_,fun _ => AE.I5 V6⟩⟩
   exfalso
   have low : ∀ i : Fin 12,Go.bits .or .u8 (((46 + i.1 : Nat)) : Int) 32 ≠ 120 := by decide
   have E6 : 46 ≤ u1.toNat ∧ u1.toNat < 58 := by
     rcases hby u1 (List.mem_of_getElem? AMv) with hd | rfl
     · have := Ga hd; omega
     · decide
   have := low ⟨u1.toNat - 46,by omega⟩
   rw [show 46 + (u1.toNat - 46) = u1.toNat by omega] at this
   exact this (by rw [← e4]; exact AMw)
 refine AE.start ⟨fun hh => by omega,fun _ => ⟨u0,by decide,by simpa using hg0,fun hh => by omega,fun _ => ⟨fun hh => by omega,fun _ => AMu⟩⟩⟩
theorem V7 {s : ByteArray} (ht : GO s = true) (h : R (.returned (.tuple #[.float .f64 0,.int .i64 0,.bool false])) σ) : Spec prog 271 #[.string s] σ R := by
 obtain ⟨hs0,AAZ,⟨u0,hu0,hd0⟩,hby,se,AHO⟩ := LP ht
 have hn0 := Ga hd0
 have hg0 : s.data[0]? = some u0 := by rw [← Array.getElem?_toList]; exact hu0
 refine Ao.start ⟨fun hh => by omega,fun _ => ⟨u0,by decide,by simpa using hg0,fun hh => by omega,fun _ => Ao.QJ ⟨fun hh => ?_,fun _ => ⟨fun hh => by omega,fun _ => Ao.rU ⟨fun hh => ?_,fun _ => ⟨fun hh => by omega,fun _ => Ao.HN ⟨fun hh => ?_,fun _ => Ao.rV h⟩⟩⟩⟩⟩⟩⟩
 · have := of_decide_eq_true hh; omega
 · have := of_decide_eq_true hh; omega
 · have := of_decide_eq_true hh; omega
theorem sf {x : Int} : YN prog 281 #[.int .u64 x] σ (.float .f64 x.toNat) := fun w _ => by
 rw [run_callFunc_extern Go.Proofs.Tryz.func281 (by kernel_rfl) (by kernel_rfl) (by kernel_rfl) (e := Extern.MathFloatBits.float64frombits) (by kernel_rfl)]
 rfl
theorem sg {s : ByteArray} (ht : GO s = true) : -15 ≤ S6 (HU s) ∧ S6 (HU s) ≤ 0 ∧ (HU s).m < 1000000000000000 := by
 obtain ⟨hs0,AAZ,_,hby,se,_⟩ := LP ht
 have hlen : s.data.toList.length = s.size := Array.length_toList (xs := s.data)
 have H : ∀ k,k ≤ s.size → ROk s k ((s.data.toList.take k).foldl Cp ⟨0,false,0,0⟩) := fun k => by
   induction k with
   | zero => intro _; exact .zero
   | succ k ih =>
     intro hk
     obtain ⟨u,hu,DY⟩ := byte_at (show k < s.size by omega)
     have := (ih (by omega)).step DY (hby u (List.mem_of_getElem? DY))
     rwa [AS DY,List.foldl_append]
 have hr := H s.size (Nat.le_refl _)
 rw [List.take_of_length_le (by omega)] at hr
 have hc : bH s s.size ≤ 15 := Nat.le_trans (List.Sublist.length_le ((List.take_sublist _ _).filter _)) se
 have h1 := hr.nd
 have h3 := hr.lo
 have h4 := hr.hi
 have hm := Nat.lt_of_lt_of_le hr.m (Yf (show _ ≤ 15 by omega))
 change (HU s).m < _ at hm
 change (HU s).nd ≤ _ at h1
 change ((HU s).nd : Int) - (HU s).dp ≤ _ at h3
 change (HU s).dp ≤ (HU s).nd at h4
 unfold S6
 split
 · exact ⟨by decide,by decide,hm⟩
 · split <;> omega
theorem bI {m : Nat} {e : Int} (hg : Gl σ) (hm : m < 1000000000000000) (h1 : -15 ≤ e) (h2 : e ≤ 0) (h : ∀ x : Nat,(toF x : Nat) = (if e = 0 then toF (FloatKind.f64.nearest m) else Vz 4 (FloatKind.f64.nearest m) (S4.getD (-e).toNat 0)) → R (.returned (.tuple #[.float .f64 x,.bool true])) σ) :
   Spec prog 282 #[.int .u64 (m : Nat),.int .i64 e,.bool false] σ R := by
 refine BO.start ⟨52,hg.bits,by decide,fun x11 e11 => ⟨fun hh => ?_,fun _ => ?_⟩⟩
 · exfalso
   apply hh
   rw [e11]
   exact Int.ediv_eq_zero_of_lt (by omega) (by show (m : Int) < 4503599627370496; omega)
 refine Ss (v := .float .f64 (FloatKind.f64.nearest m)) (fun w => by kernel_rfl) ⟨_,rfl,fun hh => (by cases hh),fun _ => BO.rq ⟨fun h0 => h _ (by rw [if_pos h0]),fun h0 => ⟨fun hh => by omega,fun _ => ⟨fun _ => ⟨fun _ => ?_,fun hh => absurd (by omega) hh⟩,fun hh => absurd (by omega) hh⟩⟩⟩⟩
 obtain ⟨b,o,n,c,hp,hn,hl⟩ := hg.pow
 refine ⟨_,n,c,hp,fun rj e60 => ?_⟩
 have AMx : rj = -e := by rw [e60]; simp [IntKind.wrap,IntKind.bits,IntKind.signed]; omega
 have Az : (-e).toNat < S4.length := by show _ < 16; omega
 refine ⟨b,o,rfl,by omega,S4.getD (-e).toNat 0,?_,dU fun y hy => ⟨_,rfl,h y (by rw [if_neg h0]; exact hy)⟩⟩
 rw [AMx]
 exact hl _ _ (by rw [List.getD_eq_getElem?_getD,List.getElem?_eq_getElem Az]; rfl)
theorem gP {s : ByteArray} (hg : Gl σ) (ht : GO s = true) (h : ∀ x : Nat,((toF x : Nat) : Int) = Ye s → R (.returned (.tuple #[.float .f64 x,.int .i64 (s.size : Nat),.nilIface])) σ) : Spec prog 253 #[.string s] σ R := by
 obtain ⟨h1,h2,hm⟩ := sg ht
 refine ED.start (V7 ht ⟨_,_,_,rfl,fun hh => (by cases hh),fun _ => gO ht ⟨_,_,_,_,_,_,_,rfl,fun hh => (by cases hh),fun _ => ⟨fun hh => (by cases hh),fun _ => ⟨true,hg.opt,fun _ => CN.start ⟨fun hh => (by cases hh),fun _ => ⟨_,rfl,by decide,fun aJ e67 => ?_⟩⟩,fun hh => (by cases hh)⟩⟩⟩⟩)
 have AMy : aJ = 0 := by rw [e67]; rfl
 subst AMy
 refine ⟨fun h0 => fun vL e71 => .y sf ⟨_,rfl,h _ ?_⟩,fun h0 => ⟨fun hh => by omega,fun _ => ⟨fun hh => by omega,fun _ => ⟨fun _ => bI hg hm h1 h2 fun x hx => ⟨_,_,rfl,fun _ => h x ?_,fun hh => (by cases hh)⟩,fun hh => (by cases hh)⟩⟩⟩⟩
 · have : vL = 0 := by rw [e71]; decide
   rw [this]
   unfold Ye
   rw [if_pos (by omega)]; rfl
 · unfold Ye
   dsimp only
   rw [if_neg (by omega),hx]
   split <;> rfl
theorem Yg {s : ByteArray} (hg : Gl σ) (ht : GO s = true) (h : R (.returned (.tuple #[.int .u64 (Ye s),.bool true])) σ) : Spec prog 140 #[.string s] σ R := by
 obtain ⟨_,AAZ,_⟩ := LP ht
 refine PH.start (V4 (by omega) ht ⟨_,rfl,fun hh => (by cases hh),fun _ => Gu.start (Cn.start (Bf.start ⟨fun hh => absurd hh (by decide),fun _ => gP hg ht fun x hx => ⟨_,_,_,rfl,_,_,_,rfl,fun hh => absurd rfl hh,fun _ => ⟨_,_,rfl,false,fun w _ => by kernel_rfl,fun hh => (by cases hh),fun _ => ⟨_,_,rfl,GM ⟨_,rfl,by rw [hx]; exact h⟩⟩⟩⟩⟩))⟩)
end
end TwW
end
section
namespace TwW
open Go Tw Go.RowKit Go.Proofs.Tryz
def AP {α : Type} (s : Nat) (E : Hp → List Value → α → Prop) (σ0 σ : Hp) (p : Option Addr) (n c : Nat) (xs : List α) : Prop := GD s E σ p n c xs ∧ Ext σ0 (σ.del p)
section
variable {α : Type} {s bs : Nat} {E : Hp → List Value → α → Prop} {σ0 σ σ' : Hp} {p : Option Addr} {n c : Nat} {xs : List α}
theorem AP.nil (hx : Ext σ0 σ) : AP s E σ0 σ none 0 0 [] := ⟨GD.nil,hx⟩
theorem AP.mono (hE : Ha E) (h : AP s E σ0 σ p n c xs) (hx : Ext σ σ') : AP s E σ0 σ' p n c xs := ⟨h.1.mono hE hx,h.2.trans (hx.del p)⟩
theorem AP.up (h : AP s E σ0 σ p n c xs) : Ext σ0 σ := h.2.trans (Ext.Jh _ _)
theorem AP.rd (hE : Ha E) (h : AP s E σ0 σ p n c xs) : Aa s E σ p n xs := h.1.rd hE
theorem AP.new (h : AP s E σ0 σ p n c xs) (hx : Ext σ σ') : Ext (σ.new σ') (σ'.del p) := Ext.qT (fun a ha => h.1.block a ha)
theorem AP.Hb {P : Program} {T Et ty : TypeId} {vs : List Value} {x : α} {Φ : Value → Hp → Prop} (hE : Ha E) [Ji P T Et s bs] (h : AP s E σ0 σ p n c xs) (hl : vs.length = s) (h1 : Fq vs) (hx : E (σ.del p) vs x) (hb : (n + 1) * bs ≤ 140737488355328)
   (hΦ : ∀ p' c' σ',AP s E σ0 σ' p' (n + 1) c' (xs ++ [x]) → Ext (σ.del p) (σ'.del p') → Φ (.slice p' (n + 1) c') σ') {b : Nat} (hn : σ b = none) :
   AK P (Builtin.append_ #[T,T] ty #[.slice p n c,.slice (some ⟨b,0,none⟩) 1 1]) (σ.set b (.cells vs.toArray Et (0,0))) Φ := by
 obtain ⟨⟨hlen,cs,ho,hc⟩,w4⟩ := h
 refine DB (ho.mono (.set hn)) ⟨by rw [hl,Nat.one_mul],by omega,.inr ⟨b,0,rfl,Au.of fun j v hj => ?_⟩⟩ h1 hb fun p' c' σ' Es Kh => ?_
 · simp [Hp.ld,Hp.AB,hj]
 · have e : Ext (σ.del p) (σ'.del p') := ((Ext.set hn).del p).trans Kh
   exact hΦ p' c' σ' ⟨⟨by simp [hlen],_,Es,(hc.snoc hl hx).mono hE e⟩,w4.trans e⟩ e
end
theorem By.one (σ : Hp) (vs : List Value) (x : El) (h : By σ vs x) : Fq vs := by
 obtain ⟨p,n,c,rfl,_⟩ := h
 intro u hu
 simp only [List.mem_cons,List.not_mem_nil,or_false] at hu
 rcases hu with rfl | rfl <;> rfl
theorem By.at {σ : Hp} {p : Option Addr} {n i : Nat} {l : List El} {x : El} (hr : Aa 2 By σ p n l) (hx : l[i]? = some x) : ∃ b o q m d,p = some ⟨b,o,none⟩ ∧ Au σ b (o + i * 2) [.slice q m d,.int .u64 x.v] ∧ Cq σ q m x.ls := by
 obtain ⟨b,o,vs,hp,⟨q,m,d,rfl,h⟩,hl⟩ := Aa.idx hr hx
 exact ⟨b,o,q,m,d,hp,hl,h⟩
section
variable {σ σ' σ0 : Hp} {R : Rr}
theorem nq {p : Option Addr} {n c : Nat} {xs : List Int} {Φ : Value → Hp → Prop} (hr : E3 .u8 σ p n xs) (h : Φ (.string (strOfNums xs)) σ) : AK prog (convert 90 9 (.slice p n c)) σ Φ := by
 refine AK.pu (fun w hs => ?_) h
 have h1 := underlying90
 have h2 := underlying9
 by_cases hn : n = 0
 · subst hn
   have hx : xs = [] := List.eq_nil_of_length_eq_zero hr.1
   subst hx
   rw [run_convert_bytes_string w 90 9 _ p 0 c h1 underlying5 h2]
   cases p <;> simp [Conv.bytesToString,loadCells] <;> rfl
 · obtain ⟨x0,w4⟩ := hr.ex (k := 0) (by omega)
   obtain ⟨b,o,rfl,_⟩ := hr.at w4
   refine run_convert_bytes_arg w 90 _ h1 underlying5 b o n c xs hr.1 (fun i hi => ?_) 9 h2
   obtain ⟨x,hx⟩ := hr.ex hi
   obtain ⟨b',o',he,hl⟩ := hr.at hx
   cases he
   have := cell_of hs hl
   simpa [Bj,hx] using this
theorem FM {p : Option Addr} {n c : Nat} {ls : List Lb} (hr : Cq σ p n ls) (hs : Aq ls) (h : ∀ σ',Ext σ σ' → R (.returned (.string (GJ ls))) σ') : Spec prog 49 #[.slice p n c] σ R :=
 XS.start (Vt hr hs fun p' n' c' σ' ho hx => ⟨_,_,_,rfl,nq (DZ.rd (A8.mono (Ext.Cw _ _) ho)) ⟨_,rfl,h σ' hx⟩⟩)
theorem FN {p : Option Addr} {n c : Nat} {ls : List Lb} (hr : Cq σ p n ls) (hn : n ≤ 1000000) (h : ∀ p' n' c' σ',Cq (σ.new σ') p' n' (C9 ls) → Ext σ σ' → R (.returned (.slice p' n' c')) σ') : Spec prog 146 #[.slice p n c] σ R := by
 refine Ue.start fun b hb => ?_
 have hx := Ext.set (o := .cells #[(.string (ByteArray.mk #[95,95,110,97,109,101,95,95]))] 9 (0,0)) hb
 refine I7 (ns := [Uo]) (hr.mono BT.mono hx) hn (Vu (Hp.AB _ _ _)) fun p' n' c' σ' ho Kh => ⟨_,_,_,rfl,h p' n' c' σ' ((ho.rd BT.mono).mono BT.mono (Ext.CA hx)) (hx.trans Kh)⟩
theorem Uy {p q : Option Addr} {n c m d : Nat} {ls : List Lb} {ns : List ByteArray} (hr : Cq σ p n ls) (hn : n ≤ 1000000) (hs : G6 1 σ q m (ns.map .string))
   (h : ∀ p' n' c' σ',Cq (σ.new σ') p' n' (YD ns ls) → Ext σ σ' → R (.returned (.slice p' n' c')) σ') : Spec prog 149 #[.slice p n c,.slice q m d] σ R := by
 refine Q7.start fun b3 hb3 => ?_
 have CV : Ext σ (σ.set b3 (.cells #[.slice q m d] 34 (0,0))) := .set hb3
 refine Pa (f := 198) (g := fun x => P7 x.1 ns) GI.en (hr.mono BT.mono CV) hn (fun σ' x R' hx Mv => ?_) fun p' n' c' σ' ho hx => ⟨_,_,_,rfl,h p' n' c' σ' ?_ (CV.trans hx)⟩
 · refine GI.start fun _ => ⟨q,m,d,Ai (hx _ _ (Hp.AB _ _ _)) rfl,Kg (hs.mono (CV.trans hx)) ⟨_,rfl,Mv⟩⟩
 · exact (ho.rd BT.mono).mono BT.mono (Ext.CA CV)
theorem gQ {p q : Option Addr} {n c m d : Nat} {ls : List Lb} {ns : List ByteArray} (hr : Cq σ p n ls) (hn : n ≤ 1000000) (hs : G6 1 σ q m (ns.map .string))
   (h : ∀ p' n' c' σ',Cq (σ.new σ') p' n' (C9 (YE ns ls)) → Ext σ σ' → R (.returned (.slice p' n' c')) σ') {R' : Rr} (hR : ∀ p' n' c' σ',R (.returned (.slice p' n' c')) σ' → R' (.returned (.slice p' n' c')) σ') :
   Spec prog 150 #[.slice p n c,.slice q m d] σ (AA R' (CS fun EA n15 Dt y => Spec prog 146 #[.slice EA n15 Dt] y (AA R' (CS fun Em n16 ER AH => R' (.returned (.slice Em n16 ER)) AH)))) := by
 refine I7 hr hn hs fun p' n' c' σ1 ho hx => ⟨_,_,_,rfl,?_⟩
 have hl : n' ≤ n := by
   have h1 := ho.1
   have h2 := List.length_filter_le (fun x : Lb => !P7 x.1 ns) ls
   have h3 : ls.length = n := hr.1
   omega
 refine FN ((ho.rd BT.mono).mono BT.mono (Ext.Cw _ _)) (by omega) fun p2 n2 c2 σ2 IM A1 => ⟨_,_,_,rfl,hR _ _ _ _ (h p2 n2 c2 σ2 (IM.mono BT.mono (Ext.CA hx)) (hx.trans A1))⟩
theorem QW {n : Nd} {p q r : Option Addr} {k c m d j e : Nat} {ls : List Lb} (hr : Cq σ r j ls) (hj : j ≤ 1000000) (hs : G6 1 σ q m (n.names.map .string))
   (h : ∀ p' n' c' σ',Cq (σ.new σ') p' n' (Mw n ls) → Ext σ σ' → R (.returned (.slice p' n' c')) σ') : Spec prog 207 #[My n p k c q m d,.slice r j e] σ R := by
 refine dA.start fun _ => ⟨fun h3 => Uy hr hj hs fun p' n' c' σ' iT hx => ⟨_,_,_,rfl,h p' n' c' σ' ?_ hx⟩,fun h3 => gQ hr hj hs (fun p' n' c' σ' iT hx => h p' n' c' σ' ?_ hx) fun _ _ _ _ hh => hh⟩
 · unfold Mw; rw [if_pos h3]; exact iT
 · unfold Mw; rw [if_neg h3]; exact iT
theorem Aq.filter {ls : List Lb} (g : Lb → Bool) (h : Aq ls) : Aq (ls.filter g) := ⟨Nat.le_trans (List.length_filter_le _ _) h.1,fun x hx => h.2 x (List.mem_filter.1 hx).1⟩
theorem Aq.bare {ls : List Lb} (h : Aq ls) : Aq (C9 ls) := h.filter _
theorem Aq.Mw {n : Nd} {ls : List Lb} (h : Aq ls) : Aq (TwW.Mw n ls) := by
 unfold TwW.Mw YD C9 YE
 split
 · exact h.filter _
 · exact (h.filter _).filter _
structure IN (R : Rr) (σ : Hp) (X : Option Vv) : Prop where
 ok : ∀ x σ' p n c q m d,X = some x → Ext σ σ' → Aa 2 By σ' p n x.vec → Aa 2 Sm σ' q m x.OU → n ≤ c → m ≤ d → R (.returned (.tuple #[.agg #[.int .i64 x.kind,.int .u64 x.v,.slice p n c,.slice q m d],.int .i64 0])) σ'
 no : X = none → ∀ σ',Ext σ σ' → R (.returned (.tuple #[.agg #[.int .i64 0,.int .u64 0,.slice none 0 0,.slice none 0 0],.int .i64 223])) σ'
theorem IN.gR {X : Option Vv} (h : IN R σ X) (hx : Ext σ σ') : IN R σ' X := ⟨fun x σ2 p n c q m d h0 h1 h2 h3 => h.ok x σ2 p n c q m d h0 (hx.trans h1) h2 h3,fun h0 σ2 h1 => h.no h0 σ2 (hx.trans h1)⟩
theorem IN.T3 {X : Option Vv} (h : IN R σ X) : IN (AA R (fun z y => ∃ XV XW XX XY XZ Xa Xb Xc XR,z = (.tuple #[.agg #[.int .i64 XV,.int .u64 XW,.slice XX XY XZ,.slice Xa Xb Xc],.int .i64 XR]) ∧ R (.returned (.tuple #[.agg #[.int .i64 XV,.int .u64 XW,.slice XX XY XZ,.slice Xa Xb Xc],.int .i64 XR])) y)) σ X :=
 ⟨fun x σ' p n c q m d h0 h1 h2 h3 h4 h5 => ⟨_,_,_,_,_,_,_,_,_,rfl,h.ok x σ' p n c q m d h0 h1 h2 h3 h4 h5⟩,fun h0 σ' h1 => ⟨_,_,_,_,_,_,_,_,_,rfl,h.no h0 σ' h1⟩⟩
theorem gS [Er] {p q : Option Addr} {n c m d : Nat} {v u : Int} {ls ms : List Lb} (hr : Cq σ p n ls) (hs : Cq σ q m ms) (h : ∀ σ',Ext σ σ' → R (.returned (.int .i64 (Aj ls ms))) σ') : Spec prog 196 #[.agg #[.slice p n c,.int .u64 v],.agg #[.slice q m d,.int .u64 u]] σ R :=
 MB.start fun _ _ => LL hr hs fun σ' hx => ⟨_,rfl,h σ' hx⟩
end
end TwW
end
section
namespace TwW
open Go Tw Go.RowKit Go.Proofs.Tryz
def IP (op : Int) (vs : List Int) (w : Int) : Option Int :=
 if op = 4 then some (Ty vs) else if op = 5 then some (QT 4 (Ty vs) (BP vs.length)) else if op = 6 then some (Kl 7 vs) else if op = 7 then some (Kl 9 vs) else if op = 8 then some (BP vs.length)
 else if op = 9 then some (nrm (vs.getLast?.getD 0)) else if op = 10 then some (QU vs) else if vs.length < 2 then none
 else if op = 3 then some (QT 2 (vs.getLast?.getD 0) (vs.head?.getD 0)) else if op = 2 then some (Kn vs) else some (QT 4 (Kn vs) w)
def foldI (op : Int) (vs : List Int) : Int := if op = 1 then Ty vs else if op = 2 then Kl 7 vs else if op = 3 then Kl 9 vs else if op = 4 then QT 4 (Ty vs) (BP vs.length) else BP vs.length
def IQ (op a b : Int) : Int × Bool := if 1 ≤ op ∧ op ≤ 4 then (QT op a b,true) else (if YJ op a b then BP 1 else BP 0,YJ op a b)
def FF : Fl := { num := Ye,abs := V0,floor := Mh,whole := BP,nK := nS,over := IP,fold := foldI,Nl := IQ,Hi := Fg,cmpL := Aj }
structure Pj (σ : Hp) (ab : Nat) (ss : List Sr) (t : Int) : Prop where
 ser : ∃ p n c,σ.ld ⟨ab,0,none⟩ = some (.slice p n c) ∧ Aa 2 Ay σ p n ss
 at_ : σ.ld ⟨ab,1,none⟩ = some (.int .i64 t)
theorem Pj.mono {σ σ' : Hp} {ab : Nat} {ss : List Sr} {t : Int} (h : Pj σ ab ss t) (hx : Ext σ σ') : Pj σ' ab ss t := ⟨let ⟨p,n,c,h1,h2⟩ := h.ser; ⟨p,n,c,hx.ld h1,h2.mono Ay.mono hx⟩,hx.ld h.at_⟩
structure si (ss : List Sr) : Prop where
 ris : ∀ s ∈ ss,YR s.ps
 sm : ∀ s ∈ ss,Aq s.ls
 len : ss.length ≤ 10000000
structure AAa (n : Nd) : Prop where
 mki : ∀ x ∈ n.mt,1 ≤ x.kind ∧ x.kind ≤ 4
 mv : ∀ x ∈ n.mt,x.val.size ≤ 1000000
 back : 0 ≤ n.back ∧ n.back < 2147483648
 width : 0 ≤ n.width ∧ n.width < 2147483648
section
variable {σ σ' σ0 : Hp} {R : Rr}
theorem Nu {n : Nd} {a p q l : Option Addr} {k c m d j e : Nat} (hg : Gl σ) (ht : GO n.text = true) (h : IN R σ (some ⟨1,Ye n.text,[],[]⟩)) : Spec prog 100 #[.pointer a,My n p k c q m d,.slice l j e] σ R :=
 Bp.start fun _ _ => Yg hg ht ⟨_,_,rfl,h.ok _ σ none 0 0 none 0 0 rfl (.refl _) Aa.nil Aa.nil (Nat.le_refl _) (Nat.le_refl _)⟩
theorem HV {n : Nd} {p q : Option Addr} {k c m d : Nat} {a b : Int} (h : R (.returned (.tuple #[.int .u64 (IQ n.op a b).1,.bool (IQ n.op a b).2])) σ) : Spec prog 156 #[My n p k c q m d,.int .u64 a,.int .u64 b] σ R := by
 refine PT.start fun _ => JB ?_
 unfold IQ at h
 by_cases h1 : 1 ≤ n.op ∧ n.op ≤ 4
 · rw [if_pos h1] at h ⊢
   exact ⟨_,_,rfl,fun _ => h,fun hh => (by cases hh)⟩
 · rw [if_neg h1] at h ⊢
   exact ⟨_,_,rfl,fun hh => (by cases hh),fun _ => JC ⟨_,_,rfl,aw ⟨_,rfl,h⟩⟩⟩
theorem Gb {α β : Type} {f : α → Option β} {xs : List α} {k : Nat} {x : α} (hx : xs[k]? = some x) : (xs.take (k + 1)).filterMap f = (xs.take k).filterMap f ++ (f x).toList := by
 rw [AS hx,List.filterMap_append]
 cases h : f x <;> simp [List.filterMap_cons,h]
theorem Yh {n : Nd} {p q l : Option Addr} {k c m d j e ab : Nat} {ss : List Sr} {t : Int} (hA : Pj σ ab ss t) (hg : Gl σ) (hm : Aa 3 JZ σ p k n.mt) (hS : si ss) (hN : AAa n) (ht : -4611686018427387904 ≤ t ∧ t ≤ 4611686018427387904)
   (h : IN R σ (some ⟨2,0,BE FF n ss t,[]⟩)) : Spec prog 101 #[.pointer (some ⟨ab,0,none⟩),My n p k c q m d,.slice l j e] σ R := by
 obtain ⟨pss,P8,sj,D6,hr⟩ := hA.ser
 have hl : ss.length = P8 := hr.1
 have hlen := hS.len
 have hb := hN.back
 let f : Sr → Option El := fun s => match (D3 s.ps (t - n.back - 300) (t - n.back)).getLast? with
   | none => none
   | some p => if p.2 = IE ∨ FF.Hi n.mt s.ls = false then none else some ⟨s.ls,p.2⟩
 have hf : BE FF n ss t = ss.filterMap f := rfl
 rw [hf] at h
 refine Ah.start fun _ _ _ => ⟨ab,0,rfl,pss,P8,sj,D6,?_⟩
 suffices H : ∀ g i : Nat,∀ p8 n8 c8 σ',P8 - i = g → i ≤ P8 → AP 2 By σ σ' p8 n8 c8 ((ss.take i).filterMap f) → Ah.BA R (aD ab 0) n.kind n.op n.text p k c n.width n.back n.EH q m d n.bool n.parts 0 0 none 0 0 none 0 0 2 0 p8 n8 c8 none 0 0 pss P8 sj P8 i σ' from H P8 0 none 0 0 σ rfl (Nat.zero_le _) (AP.nil (.refl _))
 intro g
 induction g with
 | zero =>
   intro i p8 n8 c8 σ' nr hi ho
   rw [List.take_of_length_le (by omega)] at ho
   exact Ah.Ac ⟨fun Az => by omega,fun _ => h.ok _ σ' p8 n8 c8 none 0 0 rfl ho.up (ho.rd By.mono) Aa.nil (by obtain ⟨cs,Ov,_⟩ := ho.1.2; exact A8.cap Ov) (Nat.le_refl _)⟩
 | succ g ih =>
   intro i p8 n8 c8 σ' nr hi ho
   have BI : i < P8 := by omega
   obtain ⟨s,hs⟩ := hr.ex BI
   obtain ⟨b,o,p1,n1,c1,q1,m1,d1,rfl,Ja,h1,h2,h3⟩ := Ay.at hr hs
   have JK := hS.sm s (List.mem_of_getElem? hs)
   have bJ := hS.ris s (List.mem_of_getElem? hs)
   have hx := ho.up
   have QX : n8 ≤ i := by
     have := ho.1.1
     have h9 := List.length_filterMap_le f (ss.take i)
     rw [List.length_take] at h9
     omega
   have next : ∀ p9 n9 c9 σ2,AP 2 By σ σ2 p9 n9 c9 ((ss.take i).filterMap f ++ (f s).toList) → Ah.JW R (aD ab 0) n.kind n.op n.text p k c n.width n.back n.EH q m d n.bool n.parts 0 0 none 0 0 none 0 0 2 0 p9 n9 c9 none 0 0 (aD b o) P8 sj P8 i σ2 := fun p9 n9 c9 σ2 BM =>
     Ah.I3 ⟨AF BI hr.big,ih (i + 1) _ _ _ _ (by omega) (by omega) (by rw [Gb hs]; exact BM)⟩
   refine Ah.Ac ⟨fun _ => ⟨b,o,rfl,by omega,p1,n1,c1,q1,m1,d1,by simpa using Ja.mono hx,fun _ => ⟨ab,0,rfl,t,hx.ld hA.at_,by unfold AG; omega,by unfold AG; omega,t,hx.ld hA.at_,by unfold AG; omega,Pf (h2.mono Co.mono hx) h3 bJ fun q2 m2 d2 IM w5 => ⟨q2,m2,d2,rfl,fun h0 => ?_,fun h0 => ?_⟩⟩⟩,fun hh => by omega⟩
   · refine next _ _ _ _ ?_
     have e : f s = none := by
       show (match (D3 s.ps (t - n.back - 300) (t - n.back)).getLast? with | none => none | some p => _) = none
       have gT : (D3 s.ps (t - n.back - 300) (t - n.back)).length = m2 := IM.1
       rw [List.length_eq_zero_iff.1 (show (D3 s.ps (t - n.back - 300) (t - n.back)).length = 0 by omega)]; rfl
     rw [e]; simpa using ho
   have gT : (D3 s.ps (t - n.back - 300) (t - n.back)).length = m2 := IM.1
   obtain ⟨y,hy⟩ := IM.ex (k := m2 - 1) (by omega)
   obtain ⟨b2,o2,rfl,Mx⟩ := Co.at IM hy
   have e1 : Int.toNat ((m2 : Int) - 1) = m2 - 1 := by omega
   have Si := IM.big
   have AHS : (D3 s.ps (t - n.back - 300) (t - n.back)).getLast? = some y := by rw [List.getLast?_eq_getElem?,gT,hy]
   have ef : f s = if y.2 = IE ∨ Fg n.mt s.ls = false then none else some ⟨s.ls,y.2⟩ := by
     show (match (D3 s.ps (t - n.back - 300) (t - n.back)).getLast? with | none => none | some p => _) = _
     rw [AHS]; rfl
   refine ⟨by unfold AG; omega,b2,o2,rfl,by omega,y.2,by rw [e1]; exact Mx.2.1,fun Fp => ?_,fun Fp => Uw ((hg.mono hx)) (hm.mono JZ.mono hx) (h1.mono BT.mono hx) hN.mv (fun x hx => by have := (JK.2 x hx).2; omega) hN.mki fun σ2 A1 => ⟨_,rfl,fun hf => ?_,fun htr => ?_⟩⟩
   · refine next _ _ _ _ ?_
     rw [ef,if_pos (.inl Fp)]; simpa using ho
   · refine next _ _ _ _ ?_
     rw [ef,if_pos (.inr hf)]
     simpa using ho.mono By.mono A1
   · refine ⟨by unfold AG; omega,by omega,y.2,by rw [e1]; exact A1.ld Mx.2.1,fun zV AAb => ?_⟩
     have BM := ho.mono By.mono A1
     have he : By (σ2.del p8) [.slice p1 n1 c1,.int .u64 y.2] ⟨s.ls,y.2⟩ := ⟨p1,n1,c1,rfl,h1.mono BT.mono BM.2⟩
     refine AP.Hb By.mono BM rfl (By.one _ _ _ he) he (by omega) (fun p' c' σ3 Ct _ => ⟨_,_,_,rfl,next _ _ _ _ ?_⟩) AAb
     rw [ef,if_neg (by
                        rintro (h5 | h5)
                        · exact Fp h5
                        · rw [htr] at h5; cases h5)]
     exact Ct
theorem A8.nu {s : Nat} {p q : Option Addr} {n c : Nat} {cs : List Value} (ho : A8 s σ q n c cs) (h : ∀ a,q = some a → ∀ a',p = some a' → a.block ≠ a'.block) : A8 s (σ.del p) q n c cs :=
 ⟨ho.1,ho.2.1,ho.2.2.imp id fun ⟨b',o',arr,T,hp,hb,r⟩ => ⟨b',o',arr,T,hp,AU.2 ⟨fun a' ZI => h _ hp a' ZI,hb⟩,r⟩⟩
theorem AP.sep {α : Type} {s : Nat} {E : Hp → List Value → α → Prop} {p q : Option Addr} {n c m d : Nat} {xs : List α} {ys : List Int} (h : AP s E σ0 σ p n c xs) (g : AP 1 (Pu .u64) σ σ' q m d ys) : E3 .u64 (σ'.del p) q m ys ∧ m ≤ d := by
 obtain ⟨⟨_,cs,ho,hc⟩,hx⟩ := g
 have hp := h.1.block
 refine ⟨?_,A8.cap ho⟩
 have Mr := ZV.1 hc
 subst Mr
 refine E3.jQ (A8.rd (A8.nu ho fun a ha a' ZI e => ?_))
 cases hh : σ a'.block with
 | none => exact hp a' ZI hh
 | some u => exact (AU.1 (hx _ _ hh)).1 a ha e.symm
theorem Sm.one (σ : Hp) (vs : List Value) (x : Rg) (h : Sm σ vs x) : Fq vs := by
 obtain ⟨p,n,c,q,m,d,rfl,_⟩ := h
 intro u hu
 simp only [List.mem_cons,List.not_mem_nil,or_false] at hu
 rcases hu with rfl | rfl <;> rfl
theorem bK {n : Nd} {p q l : Option Addr} {k c m d j e ab : Nat} {ss : List Sr} {t : Int} (hA : Pj σ ab ss t) (hg : Gl σ) (hm : Aa 3 JZ σ p k n.mt) (hS : si ss) (hN : AAa n) (ht : -4611686018427387904 ≤ t ∧ t ≤ 4611686018427387904) (hpl : ∀ s ∈ ss,s.ps.length ≤ 1000000000)
   (h : IN R σ (some ⟨3,BP n.width,[],Bh FF n ss t⟩)) : Spec prog 102 #[.pointer (some ⟨ab,0,none⟩),My n p k c q m d,.slice l j e] σ R := by
 obtain ⟨pss,P8,sj,D6,hr⟩ := hA.ser
 have hl : ss.length = P8 := hr.1
 have hlen := hS.len
 have hb := hN.back
 have hw := hN.width
 let fv : Sr → List Int := fun s => ((D3 s.ps (t - n.back - n.width) (t - n.back)).filter fun p => decide (p.2 ≠ IE)).map Prod.snd
 let f : Sr → Option Rg := fun s => bif !(fv s).isEmpty && FF.Hi n.mt s.ls then some ⟨s.ls,fv s⟩ else none
 have hf : Bh FF n ss t = ss.filterMap f := rfl
 rw [hf] at h
 refine AT.start fun _ _ => JD ⟨_,rfl,fun _ => ⟨ab,0,rfl,pss,P8,sj,D6,?_⟩⟩
 suffices H : ∀ g i : Nat,∀ p8 n8 c8 σ',P8 - i = g → i ≤ P8 → AP 2 Sm σ σ' p8 n8 c8 ((ss.take i).filterMap f) → AT.BA R (aD ab 0) n.kind n.op n.text p k c n.width n.back n.EH q m d n.bool n.parts 0 0 none 0 0 none 0 0 3 (BP n.width) none 0 0 p8 n8 c8 pss P8 sj P8 i σ' from H P8 0 none 0 0 σ rfl (Nat.zero_le _) (AP.nil (.refl _))
 intro g
 induction g with
 | zero =>
   intro i p8 n8 c8 σ' nr hi ho
   rw [List.take_of_length_le (by omega)] at ho
   exact AT.Ac ⟨fun Az => by omega,fun _ => h.ok _ σ' none 0 0 p8 n8 c8 rfl ho.up Aa.nil (ho.rd Sm.mono) (Nat.le_refl _) (by obtain ⟨cs,Ov,_⟩ := ho.1.2; exact A8.cap Ov)⟩
 | succ g ih =>
   intro i p8 n8 c8 σ' nr hi ho
   have BI : i < P8 := by omega
   obtain ⟨s,hs⟩ := hr.ex BI
   obtain ⟨b,o,p1,n1,c1,q1,m1,d1,rfl,Ja,h1,h2,h3⟩ := Ay.at hr hs
   have JK := hS.sm s (List.mem_of_getElem? hs)
   have bJ := hS.ris s (List.mem_of_getElem? hs)
   have ASu := hpl s (List.mem_of_getElem? hs)
   have hx := ho.up
   have QX : n8 ≤ i := by
     have := ho.1.1
     have h9 := List.length_filterMap_le f (ss.take i)
     rw [List.length_take] at h9
     omega
   have next : ∀ p9 n9 c9 σ2,AP 2 Sm σ σ2 p9 n9 c9 ((ss.take i).filterMap f ++ (f s).toList) → AT.Ln R (aD ab 0) n.kind n.op n.text p k c n.width n.back n.EH q m d n.bool n.parts 0 0 none 0 0 none 0 0 3 (BP n.width) none 0 0 p9 n9 c9 (aD b o) P8 sj P8 i σ2 := fun p9 n9 c9 σ2 BM =>
     AT.I5 ⟨AF BI hr.big,ih (i + 1) _ _ _ _ (by omega) (by omega) (by rw [Gb hs]; exact BM)⟩
   refine AT.Ac ⟨fun _ => ⟨b,o,rfl,by omega,p1,n1,c1,q1,m1,d1,by simpa using Ja.mono hx,fun _ => ⟨ab,0,rfl,t,hx.ld hA.at_,by unfold AG; omega,by unfold AG; omega,t,hx.ld hA.at_,by unfold AG; omega,Pf (h2.mono Co.mono hx) h3 bJ fun q2 m2 d2 IM w5 => ⟨q2,m2,d2,rfl,?_⟩⟩⟩,fun hh => by omega⟩
   have gT : (D3 s.ps (t - n.back - n.width) (t - n.back)).length = m2 := IM.1
   have hm2 : m2 ≤ 1000000000 := by
     have := List.length_filter_le (fun p : Int × Int => decide (t - n.back - n.width < p.1) && decide (p.1 ≤ t - n.back)) s.ps
     rw [← gT]; unfold D3; omega
   have hfv : fv s = ((D3 s.ps (t - n.back - n.width) (t - n.back)).filter fun p => decide (p.2 ≠ IE)).map Prod.snd := rfl
   generalize D3 s.ps (t - n.back - n.width) (t - n.back) = ps at *
   let gv : Pt → Option Int := fun p => if p.2 ≠ IE then some p.2 else none
   have hgv : ∀ l : List Pt,((l.filter fun p => decide (p.2 ≠ IE)).map Prod.snd) = l.filterMap gv := fun l => by
     induction l with
     | nil => rfl
     | cons a l ih =>
       by_cases ha : a.2 ≠ IE
       · rw [List.filter_cons_of_pos (by simpa using ha),List.map_cons,ih,List.filterMap_cons_some (by show (if a.2 ≠ IE then some a.2 else none) = some a.2; rw [if_pos ha])]
       · rw [List.filter_cons_of_neg (by simpa using ha),ih,List.filterMap_cons_none (by show (if a.2 ≠ IE then some a.2 else none) = none; rw [if_neg ha])]
   rw [hgv] at hfv
   suffices H2 : ∀ g2 i2 : Nat,∀ q2' Lx n11 Ly σ2,(0 < m2 → q2' = q2) → m2 - i2 = g2 → i2 ≤ m2 → AP 1 (Pu .u64) σ' σ2 Lx n11 Ly ((ps.take i2).filterMap gv) → AT.Tq R (aD ab 0) n.kind n.op n.text p k c n.width n.back n.EH q m d n.bool n.parts 0 0 none 0 0 none 0 0 3 (BP n.width) none 0 0 p8 n8 c8 p1 n1 c1 q1 m1 d1 Lx n11 Ly (aD b o) P8 sj P8 i q2' m2 d2 m2 i2 σ2 from H2 m2 0 q2 none 0 0 σ' (fun _ => rfl) rfl (Nat.zero_le _) (AP.nil (.refl _))
   intro g2
   induction g2 with
   | zero =>
     intro i2 q2' Lx n11 Ly σ2 hq bL hi2 BM
     rw [List.take_of_length_le (by omega),← hfv] at BM
     have hlv : (fv s).length = n11 := BM.1.1
     have Ov := ho.mono Sm.mono BM.up
     refine AT.QP ⟨fun Az => by omega,fun _ => ⟨fun MR => Uw (hg.mono (hx.trans BM.up)) (hm.mono JZ.mono (hx.trans BM.up)) (h1.mono BT.mono (hx.trans BM.up)) hN.mv (fun x hx => by have := (JK.2 x hx).2; omega) hN.mki fun σ3 CV => ⟨_,rfl,fun htr => ?_,fun hfa => ?_⟩,fun MR => ?_⟩⟩
     · intro b77 AM2
       obtain ⟨hv1,hv2⟩ := ho.sep (BM.mono (Pu.mono _) CV)
       have Ct := Ov.mono Sm.mono CV
       have he : Sm (σ3.del p8) [.slice p1 n1 c1,.slice Lx n11 Ly] ⟨s.ls,fv s⟩ := ⟨p1,n1,c1,Lx,n11,Ly,rfl,h1.mono BT.mono Ct.2,hv1,hv2⟩
       refine AP.Hb Sm.mono Ct rfl (Sm.one _ _ _ he) he (by omega) (fun p' c' σ4 JS _ => ⟨_,_,_,rfl,next _ _ _ _ ?_⟩) AM2
       have ef : f s = some ⟨s.ls,fv s⟩ := by
         show (bif !(fv s).isEmpty && Fg n.mt s.ls then some _ else none) = _
         rw [htr]
         cases hfe : fv s with
         | nil => rw [hfe] at hlv; simp at hlv; omega
         | cons a l => rfl
       rw [ef]; exact JS
     · refine next _ _ _ _ ?_
       have ef : f s = none := by
         show (bif !(fv s).isEmpty && Fg n.mt s.ls then some _ else none) = _
         rw [hfa,Bool.and_false]; rfl
       rw [ef]; simpa using Ov.mono Sm.mono CV
     · refine next _ _ _ _ ?_
       have ef : f s = none := by
         show (bif !(fv s).isEmpty && Fg n.mt s.ls then some _ else none) = _
         rw [List.length_eq_zero_iff.1 (show (fv s).length = 0 by omega)]; rfl
       rw [ef]; simpa using Ov
   | succ g2 ih2 =>
     intro i2 q2' Lx n11 Ly σ2 hq bL hi2 BM
     have AHT : i2 < m2 := by omega
     obtain ⟨y,hy⟩ := IM.ex AHT
     obtain ⟨b2,o2,QR,Mx⟩ := Co.at IM hy
     have sk : n11 ≤ i2 := by
       have := BM.1.1
       have h9 := List.length_filterMap_le gv (ps.take i2)
       rw [List.length_take] at h9
       omega
     rw [hq (by omega),QR]
     have nx : ∀ p9 n9 c9 σ3,AP 1 (Pu .u64) σ' σ3 p9 n9 c9 ((ps.take i2).filterMap gv ++ (gv y).toList) → AT.P2 R (aD ab 0) n.kind n.op n.text p k c n.width n.back n.EH q m d n.bool n.parts 0 0 none 0 0 none 0 0 3 (BP n.width) none 0 0 p8 n8 c8 p1 n1 c1 q1 m1 d1 p9 n9 c9 (aD b o) P8 sj P8 i (aD b2 o2) m2 d2 m2 i2 σ3 := fun p9 n9 c9 σ3 Ct =>
       AT.Vr ⟨AF AHT IM.big,ih2 (i2 + 1) _ _ _ _ _ (fun _ => QR.symm) (by omega) (by omega) (by rw [Gb hy]; exact Ct)⟩
     refine AT.QP ⟨fun _ => ⟨b2,o2,rfl,by omega,y.1,y.2,by simpa using Mx.mono BM.up,fun _ => ⟨fun BD => fun b58 AM4 => ?_,fun heq => nx _ _ _ _ ?_⟩⟩,fun hh => by omega⟩
     · refine AP.Hb (Pu.mono _) BM (vs := [.int .u64 y.2]) (x := y.2) rfl (fun u hu => by rw [List.mem_singleton] at hu; subst hu; rfl) rfl (by omega) (fun p' c' σ4 JS _ => ⟨_,_,_,rfl,nx _ _ _ _ ?_⟩) AM4
       rw [show gv y = some y.2 from if_pos BD]; exact JS
     · rw [show gv y = none from if_neg (by simpa using heq)]; simpa using BM
end
end TwW
end
section
namespace TwW
open Go Tw Go.RowKit Go.Proofs.Tryz
def fnT : List (Nat × Nat) := [(226,193),(226,191),(226,189),(224,151),(224,154),(224,152),(224,153),(224,155),(224,185),(224,187)]
def S7 (σ : Hp) (fb : Nat) : Prop := ∀ i g f,fnT[i]? = some (g,f) → ∃ b T,σ.ld ⟨fb,i + 1,none⟩ = some (.func (.func g) #[] #[.pointer (aD b 0)]) ∧ σ b = some (.cells #[.func (.func f) #[] #[]] T (0,0))
theorem S7.mono {σ σ' : Hp} {fb : Nat} (h : S7 σ fb) (hx : Ext σ σ') : S7 σ' fb := fun i g f hi => let ⟨b,T,h1,h2⟩ := h i g f hi; ⟨b,T,hx.ld h1,hx _ _ h2⟩
section
variable {σ σ' σ0 : Hp} {R : Rr}
theorem S8 (h : ∀ fb σ',S7 (σ.new σ') fb → Ext σ σ' → R (.returned (.slice (aD fb 0) 11 11)) σ') : Spec prog 147 #[] σ R := by
 refine Kc.start ?_
 refine CM.start fun b1 h1 => ⟨_,_,_,rfl,?_⟩
 refine CM.start fun b2 h2 => ⟨_,_,_,rfl,?_⟩
 refine CM.start fun b3 h3 => ⟨_,_,_,rfl,?_⟩
 refine CM.start fun b4 h4 => ⟨_,_,_,rfl,?_⟩
 refine CM.start fun b5 h5 => ⟨_,_,_,rfl,?_⟩
 refine CM.start fun b6 h6 => ⟨_,_,_,rfl,?_⟩
 refine CM.start fun b7 h7 => ⟨_,_,_,rfl,?_⟩
 refine NB.start fun b8 h8 => ⟨_,_,_,rfl,?_⟩
 refine NB.start fun b9 h9 => ⟨_,_,_,rfl,?_⟩
 refine NB.start fun DD ad => ⟨_,_,_,rfl,?_⟩
 intro fb hfb
 have x10 := Ext.set (o := .cells #[.nilFunc,.func (.func 226) #[] #[.pointer (aD DD 0)],.func (.func 226) #[] #[.pointer (aD b9 0)],.func (.func 226) #[] #[.pointer (aD b8 0)],.func (.func 224) #[] #[.pointer (aD b1 0)],.func (.func 224) #[] #[.pointer (aD b2 0)],.func (.func 224) #[] #[.pointer (aD b3 0)],.func (.func 224) #[] #[.pointer (aD b4 0)],.func (.func 224) #[] #[.pointer (aD b5 0)],.func (.func 224) #[] #[.pointer (aD b6 0)],.func (.func 224) #[] #[.pointer (aD b7 0)]] 195 (0,0)) hfb
 have NH := x10 _ _ (Hp.AB _ DD _)
 have x9 := (Ext.set ad).trans x10
 have c9 := x9 _ _ (Hp.AB _ b9 _)
 have x8 := (Ext.set h9).trans x9
 have c8 := x8 _ _ (Hp.AB _ b8 _)
 have x7 := (Ext.set h8).trans x8
 have c7 := x7 _ _ (Hp.AB _ b7 _)
 have x6 := (Ext.set h7).trans x7
 have c6 := x6 _ _ (Hp.AB _ b6 _)
 have x5 := (Ext.set h6).trans x6
 have c5 := x5 _ _ (Hp.AB _ b5 _)
 have x4 := (Ext.set h5).trans x5
 have c4 := x4 _ _ (Hp.AB _ b4 _)
 have x3 := (Ext.set h4).trans x4
 have c3 := x3 _ _ (Hp.AB _ b3 _)
 have x2 := (Ext.set h3).trans x3
 have c2 := x2 _ _ (Hp.AB _ b2 _)
 have x1 := (Ext.set h2).trans x2
 have c1 := x1 _ _ (Hp.AB _ b1 _)
 have x0 := (Ext.set h1).trans x1
 have n1 : σ b1 = none := h1
 have z1 := Ext.set (o := .cells #[.func (.func 151) #[] #[]] 201 (0,0)) h1
 have n2 : σ b2 = none := BF z1 h2
 have z2 := z1.trans (Ext.set (o := .cells #[.func (.func 154) #[] #[]] 201 (0,0)) h2)
 have n3 : σ b3 = none := BF z2 h3
 have z3 := z2.trans (Ext.set (o := .cells #[.func (.func 152) #[] #[]] 201 (0,0)) h3)
 have n4 : σ b4 = none := BF z3 h4
 have z4 := z3.trans (Ext.set (o := .cells #[.func (.func 153) #[] #[]] 201 (0,0)) h4)
 have n5 : σ b5 = none := BF z4 h5
 have z5 := z4.trans (Ext.set (o := .cells #[.func (.func 155) #[] #[]] 201 (0,0)) h5)
 have n6 : σ b6 = none := BF z5 h6
 have z6 := z5.trans (Ext.set (o := .cells #[.func (.func 185) #[] #[]] 201 (0,0)) h6)
 have n7 : σ b7 = none := BF z6 h7
 have z7 := z6.trans (Ext.set (o := .cells #[.func (.func 187) #[] #[]] 201 (0,0)) h7)
 have n8 : σ b8 = none := BF z7 h8
 have z8 := z7.trans (Ext.set (o := .cells #[.func (.func 189) #[] #[]] 232 (0,0)) h8)
 have n9 : σ b9 = none := BF z8 h9
 have z9 := z8.trans (Ext.set (o := .cells #[.func (.func 191) #[] #[]] 232 (0,0)) h9)
 have n10 : σ DD = none := BF z9 ad
 have z10 := z9.trans (Ext.set (o := .cells #[.func (.func 193) #[] #[]] 232 (0,0)) ad)
 have nf : σ fb = none := BF z10 hfb
 refine h fb _ (fun i g f hi => ?_) x0
 clear x0 x1 x2 x3 x4 x5 x6 x7 x8 x9 x10 z1 z2 z3 z4 z5 z6 z7 z8 z9 z10
 match i,hi with
 | 0,hi => cases hi; exact ⟨DD,_,Ai (AY.2 ⟨nf,Hp.AB _ _ _⟩) rfl,AY.2 ⟨n10,NH⟩⟩
 | 1,hi => cases hi; exact ⟨b9,_,Ai (AY.2 ⟨nf,Hp.AB _ _ _⟩) rfl,AY.2 ⟨n9,c9⟩⟩
 | 2,hi => cases hi; exact ⟨b8,_,Ai (AY.2 ⟨nf,Hp.AB _ _ _⟩) rfl,AY.2 ⟨n8,c8⟩⟩
 | 3,hi => cases hi; exact ⟨b1,_,Ai (AY.2 ⟨nf,Hp.AB _ _ _⟩) rfl,AY.2 ⟨n1,c1⟩⟩
 | 4,hi => cases hi; exact ⟨b2,_,Ai (AY.2 ⟨nf,Hp.AB _ _ _⟩) rfl,AY.2 ⟨n2,c2⟩⟩
 | 5,hi => cases hi; exact ⟨b3,_,Ai (AY.2 ⟨nf,Hp.AB _ _ _⟩) rfl,AY.2 ⟨n3,c3⟩⟩
 | 6,hi => cases hi; exact ⟨b4,_,Ai (AY.2 ⟨nf,Hp.AB _ _ _⟩) rfl,AY.2 ⟨n4,c4⟩⟩
 | 7,hi => cases hi; exact ⟨b5,_,Ai (AY.2 ⟨nf,Hp.AB _ _ _⟩) rfl,AY.2 ⟨n5,c5⟩⟩
 | 8,hi => cases hi; exact ⟨b6,_,Ai (AY.2 ⟨nf,Hp.AB _ _ _⟩) rfl,AY.2 ⟨n6,c6⟩⟩
 | 9,hi => cases hi; exact ⟨b7,_,Ai (AY.2 ⟨nf,Hp.AB _ _ _⟩) rfl,AY.2 ⟨n7,c7⟩⟩
theorem nw {p : Option Addr} {m c : Nat} {vs : List Int} (hr : E3 .u64 σ p m vs) (h0 : 0 < m) (h : R (.returned (.int .u64 (nrm (vs.getLast?.getD 0)))) σ) : Spec prog 185 #[.slice p m c] σ R := by
 have hl : vs.length = m := hr.1
 have Si := hr.big
 obtain ⟨z,hz⟩ := hr.ex (k := m - 1) (by omega)
 obtain ⟨b,o,rfl,we⟩ := E3.at hr hz
 rw [List.getLast?_eq_getElem?,hl,hz] at h
 exact DG.start ⟨by unfold AG; omega,b,o,rfl,by omega,z,by rw [show Int.toNat ((m : Int) - 1) = m - 1 by omega]; exact we,Fi ⟨_,rfl,h⟩⟩
theorem nz {p q : Option Addr} {m c j e : Nat} {vs : List Int} (hr : E3 .u64 σ p m vs) (h0 : 0 < m) (h : R (.returned (.int .u64 (QT 2 (vs.getLast?.getD 0) (vs.head?.getD 0)))) σ) : Spec prog 189 #[.slice p m c,.slice q j e] σ R := by
 have hl : vs.length = m := hr.1
 have Si := hr.big
 obtain ⟨z,hz⟩ := hr.ex (k := m - 1) (by omega)
 obtain ⟨y,hy⟩ := hr.ex (k := 0) (by omega)
 obtain ⟨b,o,rfl,we⟩ := E3.at hr hz
 obtain ⟨_,_,he,Mx⟩ := E3.at hr hy
 cases he
 rw [List.getLast?_eq_getElem?,hl,hz,List.head?_eq_getElem?,hy] at h
 exact DH.start ⟨by unfold AG; omega,b,o,rfl,by omega,z,by rw [show Int.toNat ((m : Int) - 1) = m - 1 by omega]; exact we,by omega,y,by simpa using Mx,YL ⟨_,rfl,h⟩⟩
theorem gU {n : Nd} {p q r : Option Addr} {k c m d lb lo j e fb u v : Nat} {vs : List Int} {w : Int} (ho : 1 ≤ n.op ∧ n.op ≤ 10) (hF : S7 σ fb) (hr : E3 .u64 σ r u vs) (h0 : 0 < u) (hc : u ≤ v) (hj : 0 < j) (hw : σ.ld ⟨lb,lo + 1,none⟩ = some (.int .u64 w))
   (h : ∀ x ok σ',(IP n.op vs w = some x ∧ ok = true ∨ IP n.op vs w = none ∧ ok = false) → Ext σ σ' → R (.returned (.tuple #[.int .u64 x,.bool ok])) σ') :
   ∃ v58,Hp.ld σ ⟨fb,(0 + Int.toNat n.op * 1),none⟩ = some v58 ∧ ∃ (f63 : Nat) (KZ Ka : Array Value),v58 = .func (.func f63) KZ Ka ∧ Enters prog f63 ∧ Spec prog f63 (KZ ++ #[.slice r u v,My n p k c q m d,.slice (some ⟨lb,lo,none⟩) j e] ++ Ka) σ R := by
 have hl : vs.length = u := hr.1
 have always : ∀ (i f : Nat) (x : Int),n.op = i + 1 → fnT[i]? = some (224,f) → IP n.op vs w = some x → Enters prog f → (∀ R' : Rr,(∀ σ',Ext σ σ' → R' (.returned (.int .u64 x)) σ') → Spec prog f #[.slice r u v] σ R') →
     ∃ v58,Hp.ld σ ⟨fb,(0 + Int.toNat n.op * 1),none⟩ = some v58 ∧ ∃ (f63 : Nat) (KZ Ka : Array Value),v58 = .func (.func f63) KZ Ka ∧ Enters prog f63 ∧ Spec prog f63 (KZ ++ #[.slice r u v,My n p k c q m d,.slice (some ⟨lb,lo,none⟩) j e] ++ Ka) σ R := fun i f x hi hf hx Pr hs => by
   obtain ⟨b,T,h1,h2⟩ := hF i _ _ hf
   refine ⟨_,by rw [show 0 + Int.toNat n.op * 1 = i + 1 by omega]; exact h1,224,#[],#[.pointer (aD b 0)],rfl,FQ.en,FQ.start fun _ => ⟨_,Ai h2 rfl,f,#[],#[],rfl,Pr,hs _ fun σ' Kh => ⟨_,rfl,h x true σ' (.inl ⟨hx,rfl⟩) Kh⟩⟩⟩
 have two : ∀ (i f : Nat) (x : Int),n.op = i + 1 → fnT[i]? = some (226,f) → (IP n.op vs w = if vs.length < 2 then none else some x) → Enters prog f → (2 ≤ u → ∀ R' : Rr,R' (.returned (.int .u64 x)) σ → Spec prog f #[.slice r u v,.slice (some ⟨lb,lo,none⟩) j e] σ R') →
     ∃ v58,Hp.ld σ ⟨fb,(0 + Int.toNat n.op * 1),none⟩ = some v58 ∧ ∃ (f63 : Nat) (KZ Ka : Array Value),v58 = .func (.func f63) KZ Ka ∧ Enters prog f63 ∧ Spec prog f63 (KZ ++ #[.slice r u v,My n p k c q m d,.slice (some ⟨lb,lo,none⟩) j e] ++ Ka) σ R := fun i f x hi hf hx Pr hs => by
   obtain ⟨b,T,h1,h2⟩ := hF i _ _ hf
   refine ⟨_,by rw [show 0 + Int.toNat n.op * 1 = i + 1 by omega]; exact h1,226,#[],#[.pointer (aD b 0)],rfl,I2.en,I2.start fun _ => ⟨fun Az => h 0 false σ (.inr ⟨by rw [hx,if_pos (by omega)],rfl⟩) (.refl _),fun Ul => ⟨_,Ai h2 rfl,f,#[],#[],rfl,Pr,hs (by omega) _ ⟨_,rfl,h x true σ (.inl ⟨by rw [hx,if_neg (by omega)],rfl⟩) (.refl _)⟩⟩⟩⟩
 have nj : n.op = 1 ∨ n.op = 2 ∨ n.op = 3 ∨ n.op = 4 ∨ n.op = 5 ∨ n.op = 6 ∨ n.op = 7 ∨ n.op = 8 ∨ n.op = 9 ∨ n.op = 10 := by omega
 rcases nj with e1 | e1 | e1 | e1 | e1 | e1 | e1 | e1 | e1 | e1
 · exact two 0 _ (QT 4 (Kn vs) w) e1 rfl (by rw [e1]; rfl) DO.en fun h2 R' Mv => DO.start ⟨lb,lo,rfl,by omega,w,hw,Sx hr h0 ⟨_,rfl,Kp.HY (.refl _),YM ⟨_,rfl,Mv⟩⟩⟩
 · exact two 1 _ (Kn vs) e1 rfl (by rw [e1]; rfl) DK.en fun h2 R' Mv => DK.start (Sx hr h0 ⟨_,rfl,Mv⟩)
 · exact two 2 _ (QT 2 (vs.getLast?.getD 0) (vs.head?.getD 0)) e1 rfl (by rw [e1]; rfl) DH.en fun h2 R' Mv => nz hr h0 Mv
 · exact always 3 _ (Ty vs) e1 rfl (by rw [e1]; rfl) FZ.en fun R' Mv => Su hr h0 hc (Mv σ (.refl _))
 · exact always 4 _ (QT 4 (Ty vs) (BP vs.length)) e1 rfl (by rw [e1]; rfl) EZ.en fun R' Mv => Nq hr h0 hc (by rw [← hl]; exact Mv σ (.refl _))
 · exact always 5 _ (Kl 7 vs) e1 rfl (by rw [e1]; rfl) Gt.en fun R' Mv => Sv hr h0 hc (Mv σ (.refl _))
 · exact always 6 _ (Kl 9 vs) e1 rfl (by rw [e1]; rfl) Db.en fun R' Mv => ML hr h0 hc (Mv σ (.refl _))
 · exact always 7 _ (BP vs.length) e1 rfl (by rw [e1]; rfl) Gr.en fun R' Mv => Mi (by rw [← hl]; exact Mv σ (.refl _))
 · exact always 8 _ (nrm (vs.getLast?.getD 0)) e1 rfl (by rw [e1]; rfl) DG.en fun R' Mv => nw hr h0 (Mv σ (.refl _))
 · exact always 9 _ (QU vs) e1 rfl (by rw [e1]; rfl) BU.en fun R' Mv => T1 hr h0 hc Mv
end
end TwW
end
section
namespace TwW
open Go Tw Go.RowKit Go.Proofs.Tryz
theorem Spec.oA {P : Program} {f : FuncId} {args : Array Value} {R : Ending → Prop} {σ0 : Hp} (h : @Spec ⟨True⟩ P f args σ0 (fun e σ' => R e ∧ Ext σ0 σ')) {w : World} (hs : Sat σ0 w) :
   Calls P f args w (fun e w' => R e ∧ ∃ q os,w' = { w with heap := w.heap ++ os,drawn := w.drawn + q }) := by
 refine (h w (fun b => b < w.heap.size ∧ σ0 b = none) hs (fun b hb => hb)).mono ?_
 rintro e w' ⟨σ,⟨hr,hx⟩,hf⟩
 refine ⟨hr,?_⟩
 obtain ⟨h1,h2,h30⟩ := @Fin.os ⟨True⟩ _ _ _ _ hf
 have hfp := @Fin.Cu ⟨True⟩ _ _ _ _ hf
 have hfs := @Fin.sat ⟨True⟩ _ _ _ _ hf
 have hfg := @Fin.grow ⟨True⟩ _ _ _ _ hf
 have hfo := @Fin.out ⟨True⟩ _ _ _ _ hf
 obtain ⟨q,h3⟩ := h30 trivial
 refine ⟨q,w'.heap.extract w.heap.size w'.heap.size,?_⟩
 have hh : w'.heap = w.heap ++ w'.heap.extract w.heap.size w'.heap.size := by
   apply Array.ext_getElem?
   intro i
   rw [Array.getElem?_append]
   split
   · rename_i hi
     cases hσ : σ0 i with
     | none => exact (hfp i ⟨hi,hσ⟩).2
     | some o => exact (hfs i o (hx i o hσ)).trans (hs i o hσ).symm
   · rename_i hi
     rw [Array.getElem?_extract]
     have := hfg
     split
     · congr 1; omega
     · rename_i h2
       exact Array.getElem?_eq_none (by omega)
 cases w with
 | mk heap tape drawn os output =>
   cases w' with
   | mk AQI AQJ AM6 os' AJS =>
     have h4 := hfo
     simp only at h1 h2 h3 h4 hh ⊢
     subst h1 h2 h3 h4
     rw [← hh]
theorem S9 {α : Type} {enc : α → List Value} {k : Nat} (hk : ∀ x,(enc x).length = k) (h0 : 0 < k) : ∀ (xs : List α) (j : Nat),(xs.flatMap enc)[j]? = (xs[j / k]?).bind fun x => (enc x)[j % k]?
 | [],j => by simp
 | x :: xs,j => by
   rw [List.flatMap_cons,List.getElem?_append,hk]
   by_cases hj : j < k
   · rw [if_pos hj,Nat.div_eq_of_lt hj,Nat.mod_eq_of_lt hj]; simp
   · rw [if_neg hj,S9 hk h0 xs,show j / k = (j - k) / k + 1 by rw [← Nat.add_div_right _ h0]; congr 1; omega,show (j - k) % k = j % k by rw [Nat.mod_eq_sub_mod (by omega : j ≥ k)]]
     simp
theorem Ow {α : Type} {enc : α → List Value} {k : Nat} (hk : ∀ x,(enc x).length = k) : ∀ (xs : List α),(xs.flatMap enc).length = xs.length * k
 | [] => by simp
 | x :: xs => by rw [List.flatMap_cons,List.length_append,Ow hk xs,hk,List.length_cons,Nat.add_mul]; omega
theorem Uz {α : Type} [Inhabited α] {enc : α → List Value} (hk : ∀ x,(enc x).length = 2) (d : List α) (j : Nat) (hj : j < d.length * 2) : (d.flatMap enc)[j]? = some (Sort.flatK enc 2 d.toArray)[j]! := by
 rw [S9 (k := 2) hk (by decide),Sort.get_flatK _ _ _ _ (by simpa using hj)]
 have Az : j / 2 < d.length := by omega
 rw [List.getElem?_eq_getElem Az]
 have h2 : j % 2 < (enc d[j / 2]).length := by rw [hk]; exact Nat.mod_lt _ (by decide)
 simp only [Option.bind_some]
 rw [List.getElem?_eq_getElem h2]
 have e1 : d.toArray[j / 2]! = d[j / 2] := by simp [Az]
 rw [e1,getElem!_pos (enc d[j / 2]) (j % 2) h2]
theorem V8 (F arr : Array Value) (o j : Nat) : (Sort.putCells id o F arr)[j]? = if o ≤ j ∧ j < o + F.size then (arr[j]?).map fun _ => F[j - o]! else arr[j]? := by
 simp only [Sort.putCells,Array.getElem?_mapIdx,id]
 by_cases h : o ≤ j ∧ j < o + F.size
 · rw [if_pos h]; simp [h]
 · rw [if_neg h]
   cases arr[j]? with
   | none => rfl
   | some v => simp only [Option.map_some]; rw [if_neg h]
section
variable {σ : Hp} {R : Rr}
theorem dc {ρ : Go.Shelf.Ren} (L : Go.Proofs.SlLaysF0.n6 prog ρ) (aE : ∀ w,(isAgg (ρ.t 24)).run prog w = .ok true w) (zE : ∀ w,(Go.sizeOf (ρ.t 24)).run prog w = .ok 2 w) {α : Type} [Inhabited α] {enc : α → List Value} (hk : ∀ x,(enc x).length = 2) (h1 : ∀ x,∀ v ∈ enc x,v.oneCell' = true) {cf : α → α → Int} (hO : Sort.SWO (Proofs.ltOf cf)) {g : Nat}
   (eg : ∀ args w,(callFunc g args).run prog w = .ok (.enter g args) w) {b o m d : Nat} {ds : List α} (ho : A8 2 σ (some ⟨b,o,none⟩) m d (ds.flatMap enc)) (hm : ds.length = m) (hm0 : m ≠ 0) (Ld : m < 4611686018427387904)
   (sQ : ∀ w,Sat (σ.del (some ⟨b,o,none⟩)) w → ∀ x y,Calls prog g #[.agg (enc x).toArray,.agg (enc y).toArray] w fun e w' => e = .returned (.int .i64 (cf x y)) ∧ ∃ n os,w' = Sort.grow (w.drewN n) os)
   (h : ∀ (σ' : Hp) (ds' : List α),ds'.Perm ds → ds'.Pairwise (fun x y => Proofs.ltOf cf y x = false) → A8 2 σ' (some ⟨b,o,none⟩) m d (ds'.flatMap enc) → Ext (σ.del (some ⟨b,o,none⟩)) (σ'.del (some ⟨b,o,none⟩)) → R (.returned (.tuple #[])) σ') :
   Spec prog (ρ.f 6) #[.slice (some ⟨b,o,none⟩) m d,.func (.func g) #[] #[]] σ R := by
 intro w F hs hF
 obtain ⟨arr,T,hb,hw,w5,qQ,Mr⟩ : ∃ arr T,σ b = some (.cells arr T (0,0)) ∧ w.heap[b]? = some (.cells arr T (0,0)) ∧ m ≤ d ∧ o + d * 2 ≤ arr.size ∧ (arr.toList.drop o).take (m * 2) = ds.flatMap enc := by
   rcases ho.2.2 with ⟨h1,h2,_⟩ | ⟨b',o',arr,T,hp,hb,w5,Ld,Mr⟩
   · exact absurd h2 hm0
   · cases hp
     exact ⟨arr,T,hb,hs _ _ hb,w5,Ld,Mr⟩
 have AHU : ∀ j,j < m * 2 → arr[o + j]? = some (Sort.flatK enc 2 ds.toArray)[j]! := fun j hj => by
   rw [← Uz hk ds j (by omega),← Mr,List.getElem?_take,if_pos hj,List.getElem?_drop,Array.getElem?_toList]
 have hH : Sort.HoldsK enc 2 w b o ds.toArray := fun j hj => by
   have eY : j < m * 2 := by simpa [hm] using hj
   refine ⟨?_,by simp [World.frozen?,hw]⟩
   simp only [World.cell?,hw,id]
   simpa using AHU j eY
 have hblk : b < w.heap.size := (Array.getElem?_eq_some_iff.1 hw).1
 have M0 : ∀ (n : Nat) (dk : Array α) (os : Array Obj) k,(Proofs.sortWorldK enc 2 w b o n dk os).heap[k]? = if k < w.heap.size then (if b = k then (w.heap[k]?).map (Sort.onCells (Sort.putCells id o (Sort.flatK enc 2 dk))) else w.heap[k]?) else os[k - w.heap.size]? := fun n dk os k => by
   simp only [Proofs.sortWorldK,Sort.grow,Sort.putRowK,Sort.putRow,Sort.mapBlock,Sort.ahead,Array.getElem?_append,Array.size_modify,Array.getElem?_modify]
 have hcm : Proofs.CmpLays prog g #[] enc 2 cf b o ds.toArray.size w := fun n os dk _ x y => sQ _ (fun k u hk => by
   obtain ⟨Gj,hku⟩ := AU.1 hk
   have AM7 : b ≠ k := fun e => Gj _ rfl e.symm
   have := hs k u hku
   rw [M0,if_pos (Array.getElem?_eq_some_iff.1 this).1,if_neg AM7]; exact this) x y
 have AHV := Proofs.AnyQ.slices_SortFunc L 2 aE zE enc hk h1 cf hO g #[] b o d ds.toArray w eg hcm hH hblk (by simpa [hm] using Ld)
 rw [show ds.toArray.size = m by simpa using hm] at AHV
 refine AHV.mono ?_
 rintro e w' ⟨rfl,d',n,os,AHW,AHX,rfl⟩
 obtain ⟨hp1,_,hp3⟩ := AHW
 have hd' : d'.size = m := by rw [hp1]; simpa using hm
 have hP : d'.toList.Perm ds := by
   rw [show m = d'.size from hd'.symm] at hp3
   rw [Array.extract_size] at hp3
   rw [show d'.size = ds.toArray.size from hp1,Array.extract_size] at hp3
   exact hp3
 have fE : d'.toList.length = m := by simpa using hd'
 have hF2 : (Sort.flatK enc 2 d').size = m * 2 := by simp [hd']
 have qG : d'.toList.Pairwise (fun x y => Proofs.ltOf cf y x = false) := List.pairwise_iff_getElem.2 fun i j hi hj M1 => by
   have eY : j < d'.size := by simpa using hj
   have BI : i < d'.size := by simpa using hi
   have := AHX i j (Nat.zero_le _) M1 (by omega)
   rw [getElem!_pos d' j eY,getElem!_pos d' i BI] at this
   simpa using this
 have UR : ((Sort.putCells id o (Sort.flatK enc 2 d') arr).toList.drop o).take (m * 2) = d'.toList.flatMap enc := by
   refine List.ext_getElem? fun j => ?_
   rw [List.getElem?_take]
   by_cases hj : j < m * 2
   · have := Uz hk d'.toList j (by omega)
     rw [if_pos hj,List.getElem?_drop,Array.getElem?_toList,V8,if_pos (by omega),this,AHU j hj]
     simp
   · rw [if_neg hj,List.getElem?_eq_none (by rw [Ow (k := 2) hk,fE]; omega)]
 refine ⟨σ.set b (.cells (Sort.putCells id o (Sort.flatK enc 2 d') arr) T (0,0)),h _ d'.toList hP qG ⟨by rw [Ow (k := 2) hk,fE],by have := ho.2.1; omega,.inr ⟨b,o,_,T,rfl,Hp.AB _ _ _,w5,by simpa [Sort.putCells] using qQ,UR⟩⟩ (by rw [Hp.GC]; exact Ext.refl _),?_⟩
 · refine ⟨fun k u hk => ?_,fun k hk => ?_,⟨rfl,rfl,fun _ => ⟨n,rfl⟩⟩,rfl,by simp [Proofs.sortWorldK,Sort.grow,Sort.putRowK,Sort.putRow,Sort.mapBlock,Sort.ahead]⟩
   · rw [M0]
     by_cases Gj : k = b
     · subst Gj
       rw [Hp.AB] at hk; cases hk
       rw [if_pos hblk,if_pos rfl,hw]; rfl
     · rw [Hp.AO Gj] at hk
       have := hs k u hk
       rw [if_pos (Array.getElem?_eq_some_iff.1 this).1,if_neg (Ne.symm Gj)]; exact this
   · have Gj : k ≠ b := fun e => by have := (hF k hk).2; rw [e,hb] at this; cases this
     refine ⟨by rw [Hp.AO Gj]; exact (hF k hk).2,?_⟩
     rw [M0,if_pos (hF k hk).1,if_neg (Ne.symm Gj)]
end
end TwW
end
section
namespace Go.Proofs
open Go.Shelf
def Tryz.TA : Go.Shelf.Ren := ⟨fun | 6 => 195 | 15 => 74 | 14 => 227 | 28 => 117 | 29 => 118 | 20 => 242 | 21 => 243 | 22 => 244 | 23 => 245 | 24 => 246 | 25 => 247 | 26 => 248 | 27 => 249 | 46 => 264 | 47 => 164 | 48 => 165 | 49 => 265 | 50 => 266 | 57 => 293 | n => n,fun | 22 => 67 | 24 => 71 | 25 => 234 | 3 => 3 | 39 => 141 | 0 => 0 | 53 => 168 | 55 => 48 | 4 => 4 | 46 => 162 | 45 => 161 | 50 => 102 | 5 => 5 | 9 => 9 | 66 => 207 | 70 => 211 | 76 => 248 | 77 => 249 | n => n,fun | n => n⟩
theorem Tryz.oB : Go.Proofs.SlLaysF0.n6 Tryz.prog Tryz.TA := {
 mixed := by kernel_rfl
 f6 := ⟨Tryz.f195.name,by decide,Tryz.func195.trans (congrArg some (by kernel_rfl))⟩
 f14 := ⟨Tryz.f227.name,by decide,Tryz.func227.trans (congrArg some (by kernel_rfl))⟩
 f15 := Tryz.func74.trans (congrArg some (by kernel_rfl))
 f20 := ⟨Tryz.f242.name,by decide,Tryz.func242.trans (congrArg some (by kernel_rfl))⟩
 f21 := ⟨Tryz.f243.name,by decide,Tryz.func243.trans (congrArg some (by kernel_rfl))⟩
 f22 := ⟨Tryz.f244.name,by decide,Tryz.func244.trans (congrArg some (by kernel_rfl))⟩
 f23 := ⟨Tryz.f245.name,by decide,Tryz.func245.trans (congrArg some (by kernel_rfl))⟩
 f24 := ⟨Tryz.f246.name,by decide,Tryz.func246.trans (congrArg some (by kernel_rfl))⟩
 f25 := ⟨Tryz.f247.name,by decide,Tryz.func247.trans (congrArg some (by kernel_rfl))⟩
 f26 := ⟨Tryz.f248.name,by decide,Tryz.func248.trans (congrArg some (by kernel_rfl))⟩
 f27 := ⟨Tryz.f249.name,by decide,Tryz.func249.trans (congrArg some (by kernel_rfl))⟩
 f28 := Tryz.func117.trans (congrArg some (by kernel_rfl))
 f29 := Tryz.func118.trans (congrArg some (by kernel_rfl))
 f46 := ⟨Tryz.f264.name,by decide,Tryz.func264.trans (congrArg some (by kernel_rfl))⟩
 f47 := Tryz.func164.trans (congrArg some (by kernel_rfl))
 f48 := Tryz.func165.trans (congrArg some (by kernel_rfl))
 f49 := ⟨Tryz.f265.name,by decide,Tryz.func265.trans (congrArg some (by kernel_rfl))⟩
 f50 := ⟨Tryz.f266.name,by decide,Tryz.func266.trans (congrArg some (by kernel_rfl))⟩
 f57 := ⟨Tryz.f293.name,by decide,Tryz.func293.trans (congrArg some (by kernel_rfl))⟩
 t0 := Tryz.underlying0
 a0 := Tryz.isAgg0
 z0 := Tryz.sizeOf0
 v0 := Tryz.zeroValue0
 t3 := Tryz.underlying3
 a3 := Tryz.isAgg3
 z3 := Tryz.sizeOf3
 v3 := Tryz.zeroValue3
 t4 := Tryz.underlying4
 a4 := Tryz.isAgg4
 z4 := Tryz.sizeOf4
 v4 := Tryz.zeroValue4
 t5 := Tryz.underlying5
 a5 := Tryz.isAgg5
 z5 := Tryz.sizeOf5
 v5 := Tryz.zeroValue5
 t9 := Tryz.underlying9
 a9 := Tryz.isAgg9
 z9 := Tryz.sizeOf9
 v9 := Tryz.zeroValue9
 t22 := Tryz.underlying67
 a22 := Tryz.isAgg67
 z22 := Tryz.sizeOf67
 v22 := Tryz.zeroValue67
 t25 := Tryz.underlying234
 a25 := Tryz.isAgg234
 z25 := Tryz.sizeOf234
 v25 := Tryz.zeroValue234
 t39 := Tryz.underlying141
 a39 := Tryz.isAgg141
 z39 := Tryz.sizeOf141
 v39 := Tryz.zeroValue141
 t45 := Tryz.underlying161
 a45 := Tryz.isAgg161
 z45 := Tryz.sizeOf161
 v45 := Tryz.zeroValue161
 t46 := Tryz.underlying162
 a46 := Tryz.isAgg162
 z46 := Tryz.sizeOf162
 v46 := Tryz.zeroValue162
 t50 := Tryz.underlying102
 a50 := Tryz.isAgg102
 z50 := Tryz.sizeOf102
 v50 := Tryz.zeroValue102
 t53 := Tryz.underlying168
 a53 := Tryz.isAgg168
 z53 := Tryz.sizeOf168
 v53 := Tryz.zeroValue168
 t55 := Tryz.underlying48
 a55 := Tryz.isAgg48
 z55 := Tryz.sizeOf48
 v55 := Tryz.zeroValue48
 t66 := Tryz.underlying207
 a66 := Tryz.isAgg207
 z66 := Tryz.sizeOf207
 v66 := Tryz.zeroValue207
 t70 := Tryz.underlying211
 a70 := Tryz.isAgg211
 z70 := Tryz.sizeOf211
 v70 := Tryz.zeroValue211
 t76 := Tryz.underlying248
 a76 := Tryz.isAgg248
 z76 := Tryz.sizeOf248
 v76 := Tryz.zeroValue248
 t77 := Tryz.underlying249
 a77 := Tryz.isAgg249
 z77 := Tryz.sizeOf249
 v77 := Tryz.zeroValue249 }
def Tryz.TB : Go.Shelf.Ren := ⟨fun | 6 => 50 | 15 => 74 | 14 => 73 | 28 => 117 | 29 => 118 | 20 => 109 | 21 => 110 | 22 => 111 | 23 => 112 | 24 => 113 | 25 => 114 | 26 => 115 | 27 => 116 | 46 => 163 | 47 => 164 | 48 => 165 | 49 => 166 | 50 => 167 | 57 => 208 | n => n,fun | 22 => 23 | 24 => 40 | 25 => 106 | 3 => 3 | 39 => 141 | 0 => 0 | 53 => 168 | 55 => 48 | 4 => 4 | 46 => 162 | 45 => 161 | 50 => 102 | 5 => 5 | 9 => 9 | 66 => 207 | 70 => 211 | 76 => 248 | 77 => 249 | n => n,fun | n => n⟩
theorem Tryz.AAd : Go.Proofs.SlLaysF0.n6 Tryz.prog Tryz.TB := {
 mixed := by kernel_rfl
 f6 := ⟨Tryz.f50.name,by decide,Tryz.func50.trans (congrArg some (by kernel_rfl))⟩
 f14 := ⟨Tryz.f73.name,by decide,Tryz.func73.trans (congrArg some (by kernel_rfl))⟩
 f15 := Tryz.func74.trans (congrArg some (by kernel_rfl))
 f20 := ⟨Tryz.f109.name,by decide,Tryz.func109.trans (congrArg some (by kernel_rfl))⟩
 f21 := ⟨Tryz.f110.name,by decide,Tryz.func110.trans (congrArg some (by kernel_rfl))⟩
 f22 := ⟨Tryz.f111.name,by decide,Tryz.func111.trans (congrArg some (by kernel_rfl))⟩
 f23 := ⟨Tryz.f112.name,by decide,Tryz.func112.trans (congrArg some (by kernel_rfl))⟩
 f24 := ⟨Tryz.f113.name,by decide,Tryz.func113.trans (congrArg some (by kernel_rfl))⟩
 f25 := ⟨Tryz.f114.name,by decide,Tryz.func114.trans (congrArg some (by kernel_rfl))⟩
 f26 := ⟨Tryz.f115.name,by decide,Tryz.func115.trans (congrArg some (by kernel_rfl))⟩
 f27 := ⟨Tryz.f116.name,by decide,Tryz.func116.trans (congrArg some (by kernel_rfl))⟩
 f28 := Tryz.func117.trans (congrArg some (by kernel_rfl))
 f29 := Tryz.func118.trans (congrArg some (by kernel_rfl))
 f46 := ⟨Tryz.f163.name,by decide,Tryz.func163.trans (congrArg some (by kernel_rfl))⟩
 f47 := Tryz.func164.trans (congrArg some (by kernel_rfl))
 f48 := Tryz.func165.trans (congrArg some (by kernel_rfl))
 f49 := ⟨Tryz.f166.name,by decide,Tryz.func166.trans (congrArg some (by kernel_rfl))⟩
 f50 := ⟨Tryz.f167.name,by decide,Tryz.func167.trans (congrArg some (by kernel_rfl))⟩
 f57 := ⟨Tryz.f208.name,by decide,Tryz.func208.trans (congrArg some (by kernel_rfl))⟩
 t0 := Tryz.underlying0
 a0 := Tryz.isAgg0
 z0 := Tryz.sizeOf0
 v0 := Tryz.zeroValue0
 t3 := Tryz.underlying3
 a3 := Tryz.isAgg3
 z3 := Tryz.sizeOf3
 v3 := Tryz.zeroValue3
 t4 := Tryz.underlying4
 a4 := Tryz.isAgg4
 z4 := Tryz.sizeOf4
 v4 := Tryz.zeroValue4
 t5 := Tryz.underlying5
 a5 := Tryz.isAgg5
 z5 := Tryz.sizeOf5
 v5 := Tryz.zeroValue5
 t9 := Tryz.underlying9
 a9 := Tryz.isAgg9
 z9 := Tryz.sizeOf9
 v9 := Tryz.zeroValue9
 t22 := Tryz.underlying23
 a22 := Tryz.isAgg23
 z22 := Tryz.sizeOf23
 v22 := Tryz.zeroValue23
 t25 := Tryz.underlying106
 a25 := Tryz.isAgg106
 z25 := Tryz.sizeOf106
 v25 := Tryz.zeroValue106
 t39 := Tryz.underlying141
 a39 := Tryz.isAgg141
 z39 := Tryz.sizeOf141
 v39 := Tryz.zeroValue141
 t45 := Tryz.underlying161
 a45 := Tryz.isAgg161
 z45 := Tryz.sizeOf161
 v45 := Tryz.zeroValue161
 t46 := Tryz.underlying162
 a46 := Tryz.isAgg162
 z46 := Tryz.sizeOf162
 v46 := Tryz.zeroValue162
 t50 := Tryz.underlying102
 a50 := Tryz.isAgg102
 z50 := Tryz.sizeOf102
 v50 := Tryz.zeroValue102
 t53 := Tryz.underlying168
 a53 := Tryz.isAgg168
 z53 := Tryz.sizeOf168
 v53 := Tryz.zeroValue168
 t55 := Tryz.underlying48
 a55 := Tryz.isAgg48
 z55 := Tryz.sizeOf48
 v55 := Tryz.zeroValue48
 t66 := Tryz.underlying207
 a66 := Tryz.isAgg207
 z66 := Tryz.sizeOf207
 v66 := Tryz.zeroValue207
 t70 := Tryz.underlying211
 a70 := Tryz.isAgg211
 z70 := Tryz.sizeOf211
 v70 := Tryz.zeroValue211
 t76 := Tryz.underlying248
 a76 := Tryz.isAgg248
 z76 := Tryz.sizeOf248
 v76 := Tryz.zeroValue248
 t77 := Tryz.underlying249
 a77 := Tryz.isAgg249
 z77 := Tryz.sizeOf249
 v77 := Tryz.zeroValue249 }
end Go.Proofs
end
section
namespace TwW
open Go Tw Go.RowKit Go.Proofs.Tryz
section
variable {σ σ' σ0 : Hp} {R : Rr}
theorem AM8 {α : Type} {f : α → List Lb} : Sort.SWO (Proofs.ltOf fun x y => Aj (f x) (f y)) where
 irrefl x := by
   have h1 : Aj (f x) (f x) = 0 := (Af.eq _ _).2 rfl
   exact decide_eq_false (by show ¬ Aj (f x) (f x) < 0; omega)
 trans x y z h1 h2 := by
   unfold Proofs.ltOf at *
   exact decide_eq_true (Af.trans _ _ _ (of_decide_eq_true h1) (of_decide_eq_true h2))
 ntrans x y z h1 h2 := by
   unfold Proofs.ltOf at *
   have h1 := of_decide_eq_false h1
   have h2 := of_decide_eq_false h2
   dsimp only at h1 h2
   refine decide_eq_false fun h3 => ?_
   dsimp only at h3
   rcases Int.lt_trichotomy (Aj (f x) (f y)) 0 with h | h | h
   · exact h1 h
   · rw [(Af.eq _ _).1 h] at h3; exact h2 h3
   · have h4 := (Af.Tv _ _).2 h
     exact h2 (Af.trans _ _ _ h4 h3)
theorem oC {cs : List Value} {m : Nat} (h : cs.length = m * 2) : (List.finRange m).flatMap (fun i => (cs.drop (i.1 * 2)).take 2) = cs := by
 have hk : ∀ i : Fin m,((cs.drop (i.1 * 2)).take 2).length = 2 := fun i => by
   have := i.2
   rw [List.length_take,List.length_drop]; omega
 refine List.ext_getElem? fun j => ?_
 rw [S9 hk (by decide)]
 by_cases hj : j < m * 2
 · have Az : j / 2 < m := by omega
   rw [List.getElem?_eq_getElem (by rw [List.length_finRange]; exact Az)]
   simp only [List.getElem_finRange,Option.bind_some,Fin.val_cast]
   rw [List.getElem?_take,if_pos (Nat.mod_lt _ (by decide)),List.getElem?_drop]
   congr 1
   omega
 · rw [List.getElem?_eq_none (by rw [List.length_finRange]; omega),List.getElem?_eq_none (by omega)]; rfl
theorem de {α : Type} {enc : α → List Value} (hk : ∀ x,(enc x).length = 2) : ∀ (xs : List α) (i : Nat) (x : α),xs[i]? = some x → ((xs.flatMap enc).drop (i * 2)).take 2 = enc x
 | [],i,x,h => by simp at h
 | a :: xs,0,x,h => by
   simp only [List.getElem?_cons_zero,Option.some.injEq] at h
   subst h
   rw [List.flatMap_cons,Nat.zero_mul,List.drop_zero,← hk a,List.take_left]
 | a :: xs,i + 1,x,h => by
   rw [List.flatMap_cons,show (i + 1) * 2 = (enc a).length + i * 2 by rw [hk]; omega,List.drop_append]
   simp only [Nat.add_sub_cancel_left,List.drop_eq_nil_of_le (Nat.le_add_right _ _),List.nil_append]
   exact de hk xs i x (by simpa using h)
theorem sn {α : Type} (l : List α) {n : Nat} (hn : l.length = n) : (List.finRange n).map (fun i => l[i.1]'(by rw [hn]; exact i.2)) = l := by
 subst hn
 refine List.ext_getElem (by simp) fun i h1 h2 => ?_
 simp
theorem gV {l : List El} (h : ∀ i a b,l[i]? = some a → l[i + 1]? = some b → Aj a.ls b.ls < 0) : l.Pairwise fun a b => Aj a.ls b.ls < 0 := by
 rw [List.pairwise_iff_getElem]
 intro i j hi hj M1
 induction j with
 | zero => omega
 | succ j ih =>
   have hs := h j l[j] l[j + 1] (List.getElem?_eq_getElem _) (List.getElem?_eq_getElem _)
   by_cases he : i = j
   · subst he; exact hs
   · exact Af.trans _ _ _ (ih (by omega) (by omega)) hs
theorem oD : DQ FF [] = some [] := by unfold DQ; rw [if_pos List.Pairwise.nil]; rfl
theorem EG {p : Option Addr} {n c : Nat} {l : List El} (ho : AP 2 By σ0 σ p n c l) (hn : n ≤ 1000000000000) (h : IN R σ0 ((DQ FF l).map fun l => ⟨2,0,l,[]⟩)) : Spec prog 148 #[.slice p n c] σ R := by
 have w4 := ho.up
 obtain ⟨⟨hl,cs,Ov,hc⟩,hx⟩ := ho
 refine EE.start fun _ => ?_
 by_cases h0 : n = 0
 · subst h0
   have nJ : l = [] := List.length_eq_zero_iff.1 hl
   subst nJ
   rw [oD] at h
   refine Spec.same (v := .tuple #[]) (fun w _ => Go.Proofs.AnyF.slices_SortFunc_none Go.Proofs.Tryz.oB p c _ w) ⟨rfl,EE.AX ⟨fun Az => by omega,fun _ => ?_⟩⟩
   exact h.ok _ σ p 0 c none 0 0 rfl w4 Aa.nil Aa.nil (Nat.zero_le _) (Nat.le_refl _)
 obtain ⟨b,o,rfl⟩ : ∃ b o,p = some ⟨b,o,none⟩ := by
   rcases Ov.2.2 with ⟨_,h2,_⟩ | ⟨b,o,_,_,hp,_⟩
   · exact absurd h2 h0
   · exact ⟨b,o,hp⟩
 have UR : cs.length = n * 2 := Ov.1
 let enc : Fin n → List Value := fun i => (cs.drop (i.1 * 2)).take 2
 let at_ : Fin n → El := fun i => l[i.1]'(by rw [hl]; exact i.2)
 have hE : ∀ i : Fin n,By (σ.del (some ⟨b,o,none⟩)) (enc i) (at_ i) := fun i => hc.2 i.1 (at_ i) (List.getElem?_eq_getElem _)
 have hk : ∀ i,(enc i).length = 2 := fun i => by
   have := i.2
   show ((cs.drop (i.1 * 2)).take 2).length = 2
   rw [List.length_take,List.length_drop]; omega
 have w6 : (List.finRange n).flatMap enc = cs := oC UR
 haveI : Inhabited (Fin n) := ⟨⟨0,by omega⟩⟩
 refine dc (ρ := Go.Proofs.Tryz.TA) Go.Proofs.Tryz.oB (fun w => by kernel_rfl) (fun w => by kernel_rfl) (α := Fin n) (enc := enc) hk (fun i => By.one _ _ _ (hE i)) (cf := fun i j => Aj (at_ i).ls (at_ j).ls) AM8 (g := 196) (fun args w => call196 args w) (b := b) (o := o) (ds := List.finRange n) (by rw [w6]; exact Ov) List.length_finRange h0 (by omega) (fun w hw i j => ?_) fun σ1 ds hp qG Bd I6 => ⟨rfl,?_⟩
 · obtain ⟨q1,m1,d1,hv1,E6⟩ := hE i
   obtain ⟨q2,m2,d2,hv2,IM⟩ := hE j
   rw [hv1,hv2]
   exact Spec.oA (R := fun e => e = .returned (.int .i64 (Aj (at_ i).ls (at_ j).ls))) (@gS _ _ ⟨True⟩ _ _ _ _ _ _ _ _ _ _ E6 IM fun σ' Kh => ⟨rfl,Kh⟩) hw
 let l2 : List El := ds.map at_
 have hp2 : l2.Perm l := by
   have := hp.map at_
   rwa [sn l hl] at this
 have gT : l2.length = n := hp2.length_eq.trans hl
 have hdl : ds.length = n := by have h9 : (ds.map at_).length = n := gT; rwa [List.length_map] at h9
 have hO : AP 2 By σ0 σ1 (some ⟨b,o,none⟩) n c l2 := by
   refine ⟨⟨gT,_,Bd,?_,fun i x hi => ?_⟩,hx.trans I6⟩
   · rw [Bd.1,gT]
   · have BI : (ds.map at_)[i]? = some x := hi
     rw [List.getElem?_map] at BI
     cases hd : ds[i]? with
     | none => rw [hd] at BI; cases BI
     | some k =>
       rw [hd] at BI
       simp only [Option.map_some,Option.some.injEq] at BI
       rw [de hk ds i k hd,← BI]
       exact By.mono _ _ _ _ I6 (hE k)
 have hle : ∀ i a b',l2[i]? = some a → l2[i + 1]? = some b' → ¬ Aj b'.ls a.ls < 0 := fun i a b' ha hb => by
   have hq : l2.Pairwise (fun a b' => ¬ Aj b'.ls a.ls < 0) := by
     refine List.pairwise_map.2 (qG.imp fun {x y} Sl => ?_)
     exact of_decide_eq_false Sl
   obtain ⟨h1,rfl⟩ := List.getElem?_eq_some_iff.1 ha
   obtain ⟨h2,rfl⟩ := List.getElem?_eq_some_iff.1 hb
   exact List.pairwise_iff_getElem.1 hq i (i + 1) h1 h2 (by omega)
 clear_value l2
 clear Bd qG hp w6 hE hk hdl
 suffices H : ∀ g k : Nat,∀ σ',n - k = g → 1 ≤ k → k ≤ n → AP 2 By σ0 σ' (some ⟨b,o,none⟩) n c l2 → (∀ i a b',i + 1 < k → l2[i]? = some a → l2[i + 1]? = some b' → Aj a.ls b'.ls < 0) → EE.Ak R (some ⟨b,o,none⟩) n c 0 0 none 0 0 none 0 0 k σ' from H (n - 1) 1 σ1 rfl (Nat.le_refl _) (by omega) hO (fun i a b' hi => by omega)
 intro g
 induction g with
 | zero =>
   intro k σ' hg h1 Wi hO' Az
   have hr : DQ FF l = some l2 := fx rfl hp2 (gV fun i a b' ha hb => Az i a b' (by have := (List.getElem?_eq_some_iff.1 hb).1; omega) ha hb)
   rw [hr] at h
   exact EE.AX ⟨fun Az => by omega,fun _ => h.ok _ σ' _ n c none 0 0 rfl hO'.up (hO'.rd By.mono) Aa.nil (by obtain ⟨cs',ANA,_⟩ := hO'.1.2; exact A8.cap ANA) (Nat.le_refl _)⟩
 | succ g ih =>
   intro k σ' hg h1 Wi hO' Az
   have hr := hO'.rd By.mono
   obtain ⟨y,hy⟩ := hr.ex (k := k) (by omega)
   obtain ⟨x,Kh⟩ := hr.ex (k := k - 1) (by omega)
   obtain ⟨_,_,q1,m1,d1,Wg,Ps,E6⟩ := By.at hr Kh
   cases Wg
   obtain ⟨_,_,q2,m2,d2,QR,ANB,IM⟩ := By.at hr hy
   cases QR
   have e1 : Int.toNat ((k : Int) - 1) = k - 1 := by omega
   refine EE.AX ⟨fun _ => ⟨by unfold AG; omega,b,o,rfl,by omega,q1,m1,d1,by rw [e1]; exact Ps.1,by omega,q2,m2,d2,by simpa using ANB.1,LL E6 IM fun σ2 A1 => ⟨_,rfl,fun hz => ?_,fun hnz => ⟨by unfold AG; omega,?_⟩⟩⟩,fun hh => by omega⟩
   · refine h.no ?_ σ2 (hO'.up.trans A1)
     have : DQ FF l = none := fy rfl hp2 fun qG => by
       obtain ⟨h3,rfl⟩ := List.getElem?_eq_some_iff.1 Kh
       obtain ⟨h4,rfl⟩ := List.getElem?_eq_some_iff.1 hy
       exact List.pairwise_iff_getElem.1 qG (k - 1) k h3 h4 (by omega) hz
     rw [this]; rfl
   · have := ih (k + 1) σ2 (by omega) (by omega) (by omega) (hO'.mono By.mono A1) fun i a b' hi ha hb => by
       by_cases hik : i + 1 = k
       · rw [hik,hy] at hb; cases hb
         rw [show i = k - 1 by omega,Kh] at ha; cases ha
         have h5 := hle (k - 1) _ _ Kh (by rw [show k - 1 + 1 = k by omega]; exact hy)
         have h6 := (Af.Tv x.ls y.ls)
         have h7 := (Af.Tv y.ls x.ls)
         omega
       · exact Az i a b' (by omega) ha hb
     exact_mod_cast this
end
end TwW
end
section
namespace TwW
open Go Tw Go.RowKit Go.Proofs.Tryz
structure gW (x : Vv) : Prop where
 el : ∀ e ∈ x.vec,Aq e.ls ∧ 0 ≤ e.v
 rg : ∀ r ∈ x.OU,Aq r.ls ∧ 0 < r.vs.length
 len : x.vec.length + x.OU.length ≤ 100000000000
theorem Aq.rd {σ : Hp} {p : Option Addr} {n : Nat} {ls : List Lb} (h : Aq ls) (hr : Cq σ p n ls) : n ≤ 1000000 := by
 have h1 := h.1
 have h2 : ls.length = n := hr.1
 omega
theorem so : ∀ w,(zeroValue 190).run prog w = .ok .nilFunc w := fun w => by
 have h : prog.info? 190 = some t190 := by kernel_rfl
 simp [zeroValue,typeInfo,h]
 rfl
section
variable {σ σ' σ0 : Hp} {R : Rr}
theorem Mg.at {p2 : Option Addr} {n2 i : Nat} {l : List Vv} {x : Vv} (hr : Aa 4 Mg σ p2 n2 l) (hx : l[i]? = some x) : ∃ b o p n c q m d,p2 = some ⟨b,o,none⟩ ∧ σ.ld ⟨b,o + i * 4,none⟩ = some (.int .i64 x.kind) ∧ σ.ld ⟨b,o + i * 4 + 1,none⟩ = some (.int .u64 x.v) ∧ σ.ld ⟨b,o + i * 4 + 2,none⟩ = some (.slice p n c) ∧ σ.ld ⟨b,o + i * 4 + 3,none⟩ = some (.slice q m d) ∧ Aa 2 By σ p n x.vec ∧ Aa 2 Sm σ q m x.OU := by
 obtain ⟨b,o,vs,hp,⟨p,n,c,q,m,d,rfl,h1,h2⟩,hl⟩ := Aa.idx hr hx
 exact ⟨b,o,p,n,c,q,m,d,hp,hl.1,hl.2.1,hl.2.2.1,hl.2.2.2.1,h1,h2⟩
theorem Sm.at {p : Option Addr} {n i : Nat} {l : List Rg} {x : Rg} (hr : Aa 2 Sm σ p n l) (hx : l[i]? = some x) : ∃ b o q m d q2 m2 d2,p = some ⟨b,o,none⟩ ∧ Au σ b (o + i * 2) [.slice q m d,.slice q2 m2 d2] ∧ Cq σ q m x.ls ∧ E3 .u64 σ q2 m2 x.vs ∧ m2 ≤ d2 := by
 obtain ⟨b,o,vs,hp,⟨q,m,d,q2,m2,d2,rfl,h1,h2,h3⟩,hl⟩ := Aa.idx hr hx
 exact ⟨b,o,q,m,d,q2,m2,d2,hp,hl,h1,h2,h3⟩
theorem AP.el {p : Option Addr} {n c : Nat} {xs : List El} {q : Option Addr} {m d : Nat} {ls : List Lb} {v : Int} {ty : TypeId} {Φ : Value → Hp → Prop} (ho : AP 2 By σ0 σ p n c xs) (hr : Cq (σ.del p) q m ls) (hn : n ≤ 1000000000000)
   (hΦ : ∀ p' c' σ',AP 2 By σ0 σ' p' (n + 1) c' (xs ++ [⟨ls,v⟩]) → Ext (σ.del p) (σ'.del p') → Φ (.slice p' (n + 1) c') σ') {b : Nat} (hb : σ b = none) :
   AK prog (Builtin.append_ #[67,67] ty #[.slice p n c,.slice (some ⟨b,0,none⟩) 1 1]) (σ.set b (.cells #[.slice q m d,.int .u64 v] 71 (0,0))) Φ := by
 have he : By (σ.del p) [.slice q m d,.int .u64 v] ⟨ls,v⟩ := ⟨q,m,d,rfl,hr⟩
 exact AP.Hb By.mono ho rfl (By.one _ _ _ he) he (by omega) hΦ hb
theorem oE {n : Nd} {p q a l : Option Addr} {k c m d j e : Nat} {L : List Vv} {x : Vv} (hr : Aa 4 Mg σ l j L) (hx : L[0]? = some x) (hV : gW x) (h : IN R σ (fw FF x)) : Spec prog 106 #[.pointer a,My n p k c q m d,.slice l j e] σ R := by
 have hj : 0 < j := by have h1 : L.length = j := hr.1; have := (List.getElem?_eq_some_iff.1 hx).1; omega
 obtain ⟨b,o,pv,nv,cv,qv,mv,dv,rfl,h1,h2,h3,h4,h5,h6⟩ := Mg.at hr hx
 simp only [Nat.zero_mul,Nat.add_zero] at h1 h2 h3 h4
 refine BJ.start fun _ _ => ⟨b,o,rfl,by omega,x.kind,h1,fun hk => ⟨by omega,x.v,h2,Pe ⟨_,rfl,?_⟩⟩,fun hk => ⟨by omega,pv,nv,cv,h3,?_⟩⟩
 · unfold fw at h; rw [if_pos hk] at h
   exact h.ok _ σ none 0 0 none 0 0 rfl (.refl _) Aa.nil Aa.nil (Nat.le_refl _) (Nat.le_refl _)
 unfold fw at h
 rw [if_neg hk] at h
 have hl : x.vec.length = nv := h5.1
 have hlen := hV.len
 suffices H : ∀ g i : Nat,∀ p8 n8 c8 σ',nv - i = g → i ≤ nv → AP 2 By σ σ' p8 n8 c8 ((x.vec.take i).map fun x => ⟨C9 x.ls,FF.nK x.v⟩) → BJ.rn R 0 0 none 0 0 none 0 0 p8 n8 c8 pv nv cv nv i σ' from H nv 0 none 0 0 σ rfl (Nat.zero_le _) (AP.nil (.refl _))
 intro g
 induction g with
 | zero =>
   intro i p8 n8 c8 σ' hg hi ho
   rw [List.take_of_length_le (by omega)] at ho
   have QX := ho.1.1
   rw [List.length_map] at QX
   exact BJ.dB ⟨fun Az => by omega,fun _ => EG ho (by omega) h.T3⟩
 | succ g ih =>
   intro i p8 n8 c8 σ' hg hi ho
   have BI : i < nv := by omega
   obtain ⟨y,hy⟩ := h5.ex BI
   obtain ⟨b1,o1,q1,m1,d1,rfl,Ps,E6⟩ := By.at h5 hy
   have JY := hV.el y (List.mem_of_getElem? hy)
   have QX := ho.1.1
   rw [List.length_map,List.length_take] at QX
   refine BJ.dB ⟨fun _ => ⟨b1,o1,rfl,by omega,q1,m1,d1,y.v,by simpa using Ps.mono ho.up,fun _ => FN (E6.mono BT.mono ho.up) (JY.1.rd E6) fun p' n' c' σ2 IM A1 => ⟨_,_,_,rfl,Pe ⟨_,rfl,fun We ANC => ?_⟩⟩⟩,fun hh => by omega⟩
   refine AP.el (ho.mono By.mono A1) (IM.mono BT.mono (ho.new A1)) (by omega) (fun p9 c9 σ3 Ct _ => ⟨_,_,_,rfl,AF BI h5.big,ih (i + 1) _ _ _ _ (by omega) (by omega) ?_⟩) ANC
   rw [AS hy,List.map_append]; exact Ct
theorem gX {n : Nd} {p q a l : Option Addr} {k c m d j e : Nat} {L : List Vv} {x : Vv} (hr : Aa 4 Mg σ l j L) (hx : L[0]? = some x) (hV : gW x) (hv : x.vec ≠ [] → n.op = 11 ∨ n.op = 12) (hw : x.OU ≠ [] → 1 ≤ n.op ∧ n.op ≤ 10)
   (h : IN R σ ((DQ FF (Sj FF n x)).map fun l => ⟨2,0,l,[]⟩)) : Spec prog 103 #[.pointer a,My n p k c q m d,.slice l j e] σ R := by
 have hj : 0 < j := by have h1 : L.length = j := hr.1; have := (List.getElem?_eq_some_iff.1 hx).1; omega
 obtain ⟨b,o,pv,nv,cv,qv,mv,dv,rfl,h1,h2,h3,h4,h5,h6⟩ := Mg.at hr hx
 simp only [Nat.zero_mul,Nat.add_zero] at h1 h2 h3 h4
 have hl : x.vec.length = nv := h5.1
 have hlr : x.OU.length = mv := h6.1
 have hlen := hV.len
 refine AW.start fun _ _ => EF fun mb na => ⟨mb,rfl,?_⟩
 have s0 := nZ.fresh na
 refine s0.put (by simp) fun σ1 s1 => s1.put (by simp) fun σ2 s2 => ?_
 have A1 := s2.1
 have hml := s2.2.2
 have cont : ∀ v21,(n.op = 11 → v21 = .func (.func 144) #[] #[]) → (n.op = 12 → v21 = .func (.func 145) #[] #[]) → ∃ v,v = v21 ∧ Pq (some ⟨b,o,none⟩) fun Lh Vf => In 0 (j : Int) ∧ LS σ2 Lh (Vf + 2) fun fU n25 fV => AW.E1 R (aD Lh Vf) j e n.kind n.op n.text p k c n.width n.back n.EH q m d n.bool n.parts 0 0 none 0 0 none 0 0 none 0 0 v fU n25 fV (n25 : Int) 0 σ2 := fun v21 ha hf => by
   refine ⟨v21,rfl,b,o,rfl,by omega,pv,nv,cv,A1.ld h3,?_⟩
   let g1 : El → El := fun x => ⟨C9 x.ls,if n.op = 11 then FF.abs x.v else FF.floor x.v⟩
   let g2 : Rg → Option El := fun s => (FF.over n.op s.vs x.v).map fun v => ⟨C9 s.ls,v⟩
   have hc : Sj FF n x = x.vec.map g1 ++ x.OU.filterMap g2 := rfl
   rw [hc] at h
   have second : ∀ g i : Nat,∀ fb p8 n8 c8 σ',mv - i = g → i ≤ mv → S7 (σ'.del p8) fb → AP 2 By σ σ' p8 n8 c8 (x.vec.map g1 ++ (x.OU.take i).filterMap g2) → AW.HA R (aD b o) j e n.kind n.op n.text p k c n.width n.back n.EH q m d n.bool n.parts 0 0 none 0 0 none 0 0 p8 n8 c8 (aD fb 0) 11 11 qv mv dv mv i σ' := by
     intro g
     induction g with
     | zero =>
       intro i fb p8 n8 c8 σ' hg hi hF ho
       rw [List.take_of_length_le (by omega)] at ho
       have QX := ho.1.1
       rw [List.length_append,List.length_map] at QX
       have h9 := List.length_filterMap_le g2 x.OU
       exact AW.HO ⟨fun Az => by omega,fun _ => EG ho (by omega) h.T3⟩
     | succ g ih =>
       intro i fb p8 n8 c8 σ' hg hi hF ho
       have BI : i < mv := by omega
       obtain ⟨y,hy⟩ := h6.ex BI
       obtain ⟨b1,o1,q1,m1,d1,q2,m2,d2,rfl,Ps,E6,IM,w5⟩ := Sm.at h6 hy
       have JY := hV.rg y (List.mem_of_getElem? hy)
       have E2 := hw fun e => by rw [e] at hlr; simp at hlr; omega
       have hlv : y.vs.length = m2 := IM.1
       have QX := ho.1.1
       rw [List.length_append,List.length_map] at QX
       have h9 := List.length_filterMap_le g2 (x.OU.take i)
       rw [List.length_take] at h9
       have next : ∀ p9 n9 c9 σ3,S7 (σ3.del p9) fb → AP 2 By σ σ3 p9 n9 c9 (x.vec.map g1 ++ (x.OU.take i).filterMap g2 ++ (g2 y).toList) → AW.Ln R (aD b o) j e n.kind n.op n.text p k c n.width n.back n.EH q m d n.bool n.parts 0 0 none 0 0 none 0 0 p9 n9 c9 (aD fb 0) 11 11 (aD b1 o1) mv dv mv i σ3 := fun p9 n9 c9 σ3 hF3 Ct =>
         AW.I5 ⟨AF BI h6.big,ih (i + 1) _ _ _ _ _ (by omega) (by omega) hF3 (by rw [Gb hy,← List.append_assoc]; exact Ct)⟩
       refine AW.HO ⟨fun _ => ⟨b1,o1,rfl,by omega,q1,m1,d1,q2,m2,d2,by simpa using Ps.mono ho.up,fun _ => ⟨fb,0,rfl,by omega,gU (w := x.v) E2 (hF.mono (Ext.Jh _ _)) (IM.mono ho.up) (by omega) w5 hj (ho.up.ld h2) fun z ok σ3 hz CV => ⟨z,ok,rfl,fun Ck => ?_,fun Ck => next _ _ _ _ (hF.mono (CV.del _)) ?_⟩⟩⟩,fun hh => by omega⟩
       · have hz' : FF.over n.op y.vs x.v = some z := by
           rcases hz with ⟨h7,_⟩ | ⟨_,h8⟩
           · exact h7
           · rw [Ck] at h8; cases h8
         refine FN (E6.mono BT.mono (ho.up.trans CV)) (JY.1.rd E6) fun p' n' c' σ4 hr4 Mu => ⟨_,_,_,rfl,fun zV AAb => ?_⟩
         have Ct := ho.mono By.mono CV
         refine AP.el (Ct.mono By.mono Mu) (hr4.mono BT.mono (Ct.new Mu)) (by omega) (fun p9 c9 σ5 OF Tu => ⟨_,_,_,rfl,next _ _ _ _ (hF.mono (((CV.trans Mu).del _).trans Tu)) ?_⟩) AAb
         rw [show g2 y = some ⟨C9 y.ls,z⟩ by show (FF.over n.op y.vs x.v).map _ = _; rw [hz']; rfl]; exact OF
       · have hz' : FF.over n.op y.vs x.v = none := by
           rcases hz with ⟨_,h8⟩ | ⟨h7,_⟩
           · rw [Ck] at h8; cases h8
           · exact h7
         rw [show g2 y = none by show (FF.over n.op y.vs x.v).map _ = _; rw [hz']; rfl]
         simpa using ho.mono By.mono CV
   suffices H : ∀ g i : Nat,∀ p8 n8 c8 σ',nv - i = g → i ≤ nv → AP 2 By σ σ' p8 n8 c8 ((x.vec.take i).map g1) → AW.E1 R (aD b o) j e n.kind n.op n.text p k c n.width n.back n.EH q m d n.bool n.parts 0 0 none 0 0 none 0 0 p8 n8 c8 v21 pv nv cv nv i σ' from H nv 0 none 0 0 σ2 rfl (Nat.zero_le _) (AP.nil A1)
   intro g
   induction g with
   | zero =>
     intro i p8 n8 c8 σ' hg hi ho
     rw [List.take_of_length_le (by omega)] at ho
     refine AW.FP ⟨fun Az => by omega,fun _ => S8 fun fb σ3 hF CV => ⟨_,_,_,rfl,b,o,rfl,by omega,qv,mv,dv,(ho.up.trans CV).ld h4,second mv 0 fb p8 n8 c8 σ3 rfl (Nat.zero_le _) (hF.mono (ho.new CV)) (by simpa using ho.mono By.mono CV)⟩⟩
   | succ g ih =>
     intro i p8 n8 c8 σ' hg hi ho
     have BI : i < nv := by omega
     obtain ⟨y,hy⟩ := h5.ex BI
     obtain ⟨b1,o1,q1,m1,d1,rfl,Ps,E6⟩ := By.at h5 hy
     have JY := hV.el y (List.mem_of_getElem? hy)
     have QX := ho.1.1
     rw [List.length_map,List.length_take] at QX
     have E2 := hv fun e => by rw [e] at hl; simp at hl; omega
     refine AW.FP ⟨fun _ => ⟨b1,o1,rfl,by omega,q1,m1,d1,y.v,by simpa using Ps.mono ho.up,fun _ => FN (E6.mono BT.mono ho.up) (JY.1.rd E6) fun p' n' c' σ3 V9 CV => ⟨_,_,_,rfl,?_⟩⟩,fun hh => by omega⟩
     have app : ∀ z,(g1 y).v = z → AA R (CI .u64 fun vR AH => Al AH fun Wf => AK prog (Builtin.append_ #[67,67] 67 #[.slice p8 n8 c8,(.slice (aD Wf 0) 1 1)]) (Hp.set AH Wf (.cells #[.slice p' n' c',.int .u64 vR] 71 (0,0))) (CS fun kE n41 aB AL => AG ((i : Int) + 1) ∧ AW.E1 R (aD b o) j e n.kind n.op n.text p k c n.width n.back n.EH q m d n.bool n.parts 0 0 none 0 0 none 0 0 kE n41 aB v21 (aD b1 o1) nv cv nv ((i : Int) + 1) AL)) (.returned (.int .u64 z)) σ3 := fun z hz => by
       refine ⟨z,rfl,fun Wf gY => AP.el (ho.mono By.mono CV) (V9.mono BT.mono (ho.new CV)) (by omega) (fun p9 c9 σ5 OF Tu => ⟨_,_,_,rfl,AF BI h5.big,ih (i + 1) _ _ _ _ (by omega) (by omega) ?_⟩) gY⟩
       rw [AS hy,List.map_append]
       have : g1 y = ⟨C9 y.ls,z⟩ := by rw [← hz]
       simpa [this] using OF
     rcases E2 with E2 | E2
     · exact ⟨144,#[],#[],ha E2,Nc.en,nP JY.2 (app _ (by show (if n.op = 11 then V0 y.v else _) = _; rw [if_pos E2]))⟩
     · exact ⟨145,#[],#[],hf E2,I4.en,au (app _ (by show (if n.op = 11 then V0 y.v else Mh y.v) = _; rw [if_neg (by omega)]))⟩
 refine hml.look so (fun Bc => cont _ (fun h9 => ?_) fun h9 => ?_) fun v hv => ?_
 · exact absurd h9.symm (Bc (11,.func (.func 144) #[] #[]) (by simp))
 · exact absurd h9.symm (Bc (12,.func (.func 145) #[] #[]) (by simp))
 · simp only [List.nil_append,List.cons_append,List.mem_cons,List.not_mem_nil,or_false,Prod.mk.injEq] at hv
   rcases hv with ⟨h9,rfl⟩ | ⟨h9,rfl⟩
   · exact cont _ (fun _ => rfl) fun h8 => by omega
   · exact cont _ (fun h8 => by omega) fun _ => rfl
end
end TwW
end
section
namespace TwW
open Go Tw Go.RowKit Go.Proofs.Tryz
theorem bM : ∀ w,(zeroValue 71).run prog w = .ok (.agg #[.slice none 0 0,.int .u64 0]) w := fun w => by
 have h : prog.info? 71 = some t71 := by kernel_rfl
 simp [zeroValue,typeInfo,h]
 rfl
def E0 (σ0 : Hp) (v : Value) (x : El) : Prop := ∃ p n c,v = .agg #[.slice p n c,.int .u64 x.v] ∧ Cq σ0 p n x.ls
theorem U0 {α : Type} {f : α → Bool} {xs : List α} {k : Nat} {x : α} (hx : xs[k]? = some x) : (xs.take (k + 1)).filter f = (xs.take k).filter f ++ if f x then [x] else [] := by
 rw [AS hx,List.filter_append]
 by_cases h : f x = true <;> simp [h]
section
variable {σ σ' σ0 : Hp} {R : Rr}
theorem Ext.put {m : Nat} {o : Obj} (hx : Ext σ0 σ) (hm : σ0 m = none) : Ext σ0 (σ.set m o) := fun k u hk => by rw [Hp.AO (fun e => by rw [e,hm] at hk; cases hk)]; exact hx _ _ hk
theorem JF {n : Nd} {p q pv : Option Addr} {k c m d nv cv : Nat} {vec : List El} (hs : G6 1 σ q m (n.names.map .string)) (hr : Aa 2 By σ pv nv vec) (JK : ∀ e ∈ vec,Aq e.ls)
   (h : ∀ mb σ',MS (E0 σ) σ' mb (Vx n vec) → Ext σ σ' → R (.returned (.tuple #[.map (some mb),.bool (ft n vec)])) σ') : Spec prog 206 #[My n p k c q m d,.slice pv nv cv] σ R := by
 have hl : vec.length = nv := hr.1
 refine Gw.start fun _ => EF fun mb na => ⟨mb,rfl,?_⟩
 let st : List (ByteArray × El) → El → List (ByteArray × El) := fun m x => Vw m (GJ (Mw n x.ls)) x
 have hk : Vx n vec = vec.foldl st [] := rfl
 suffices H : ∀ g i : Nat,∀ σ',nv - i = g → i ≤ nv → MS (E0 σ) σ' mb ((vec.take i).foldl st []) → Ext σ σ' → Gw.BA R pv nv cv n.kind n.op n.text p k c n.width n.back n.EH q m d n.bool n.parts (some mb) pv nv cv nv i σ' from H nv 0 _ rfl (Nat.zero_le _) MS.fresh (.set na)
 intro g
 induction g with
 | zero =>
   intro i σ' hg hi hM hx
   rw [List.take_of_length_le (by omega)] at hM
   refine Gw.Ac ⟨fun Az => by omega,fun _ => ⟨_,hM.len,?_⟩⟩
   have := h mb σ' hM hx
   unfold ft at this
   rw [hk,hl] at this
   rw [show decide ((((vec.foldl st []).length : Nat) : Int) = (nv : Int)) = decide ((vec.foldl st []).length = nv) from decide_eq_decide.2 (by omega)]
   exact this
 | succ g ih =>
   intro i σ' hg hi hM hx
   have BI : i < nv := by omega
   obtain ⟨y,hy⟩ := hr.ex BI
   obtain ⟨b1,o1,q1,m1,d1,rfl,Ps,E6⟩ := By.at hr hy
   have JY := JK y (List.mem_of_getElem? hy)
   refine Gw.Ac ⟨fun _ => ⟨b1,o1,rfl,by omega,q1,m1,d1,y.v,by simpa using Ps.mono hx,fun _ => QW (E6.mono BT.mono hx) (JY.rd E6) (hs.mono hx) fun p' n' c' σ2 IM A1 => ⟨_,_,_,rfl,FM (IM.mono BT.mono (Ext.Cw _ _)) JY.Mw fun σ3 CV => ⟨_,rfl,?_⟩⟩⟩,fun hh => by omega⟩
   refine (hM.mono (A1.trans CV)).put (x := y) ⟨q1,m1,d1,rfl,E6⟩ fun o hM' => ⟨AF BI hr.big,ih (i + 1) _ (by omega) (by omega) ?_ (Ext.put (hx.trans (A1.trans CV)) na)⟩
   rw [AS hy,List.foldl_append]; exact hM'
theorem gZ {n : Nd} {p q a px py : Option Addr} {k c m d nx cx ny cy : Nat} {x y : List El} (hs : G6 1 σ q m (n.names.map .string)) (WA : Aa 2 By σ px nx x) (w7 : Aa 2 By σ py ny y) (oF : ∀ e ∈ x,Aq e.ls) (iz : ∀ e ∈ y,Aq e.ls) (hlen : x.length + y.length ≤ 1000000000000)
   (h : IN R σ ((DQ FF (MJ n x y)).map fun l => ⟨2,0,l,[]⟩)) : Spec prog 160 #[.pointer a,My n p k c q m d,.slice px nx cx,.slice py ny cy] σ R := by
 have LM : x.length = nx := WA.1
 have Mx : y.length = ny := w7.1
 refine Ab.start fun _ _ => JF hs WA oF fun mx σ1 hM1 CO => ⟨_,_,rfl,JF (hs.mono CO) (w7.mono By.mono CO) iz fun my σ2 hM2 A1 => ⟨_,_,rfl,?_⟩⟩
 have hX := CO.trans A1
 have hMx := hM1.mono A1
 replace h := h.gR hX
 let f1 : El → Bool := fun e => decide (n.op = 12) || ((Up n y (Mw n e.ls)).isSome == decide (n.op = 11))
 let f2 : El → Bool := fun e => (Up n x (Mw n e.ls)).isNone && decide (n.op = 12)
 have hf : MJ n x y = x.filter f1 ++ y.filter f2 := rfl
 rw [hf] at h
 have second : ∀ g i : Nat,∀ p8 n8 c8 σ',ny - i = g → i ≤ ny → AP 2 By σ2 σ' p8 n8 c8 (x.filter f1 ++ (y.take i).filter f2) → Ab.Fs R n.kind n.op n.text p k c n.width n.back n.EH q m d n.bool n.parts 0 0 none 0 0 none 0 0 (some mx) p8 n8 c8 py ny cy ny i σ' := by
   intro g
   induction g with
   | zero =>
     intro i p8 n8 c8 σ' hg hi ho
     rw [List.take_of_length_le (by omega)] at ho
     have QX := ho.1.1
     rw [List.length_append] at QX
     have h9 := List.length_filter_le f1 x
     have ad := List.length_filter_le f2 y
     exact Ab.GF ⟨fun Az => by omega,fun _ => EG ho (by omega) h.T3⟩
   | succ g ih =>
     intro i p8 n8 c8 σ' hg hi ho
     have BI : i < ny := by omega
     obtain ⟨z,hz⟩ := w7.ex BI
     obtain ⟨b1,o1,q1,m1,d1,rfl,Ps,E6⟩ := By.at w7 hz
     have JY := iz z (List.mem_of_getElem? hz)
     have QX := ho.1.1
     rw [List.length_append] at QX
     have h9 := List.length_filter_le f1 x
     have ad := List.length_filter_le f2 (y.take i)
     rw [List.length_take] at ad
     have next : ∀ p9 n9 c9 σ3,AP 2 By σ2 σ3 p9 n9 c9 (x.filter f1 ++ (y.take i).filter f2 ++ if f2 z then [z] else []) → Ab.ND R n.kind n.op n.text p k c n.width n.back n.EH q m d n.bool n.parts 0 0 none 0 0 none 0 0 (some mx) p9 n9 c9 (aD b1 o1) ny cy ny i σ3 := fun p9 n9 c9 σ3 Ct =>
       Ab.Vi ⟨AF BI w7.big,ih (i + 1) _ _ _ _ (by omega) (by omega) (by rw [U0 hz,← List.append_assoc]; exact Ct)⟩
     have aZ := hX.trans ho.up
     refine Ab.GF ⟨fun _ => ⟨b1,o1,rfl,by omega,q1,m1,d1,z.v,by simpa using Ps.mono aZ,fun _ => QW (E6.mono BT.mono aZ) (JY.rd E6) (hs.mono aZ) fun p' n' c' σ3 V9 CV => ⟨_,_,_,rfl,FM (V9.mono BT.mono (Ext.Cw _ _)) JY.Mw fun σ4 Mu => ⟨_,rfl,?_⟩⟩⟩,fun hh => by omega⟩
     have JS := ho.mono By.mono (CV.trans Mu)
     refine MS.YX (hMx.mono (ho.up.trans (CV.trans Mu))) bM (fun HT => ⟨_,_,_,_,_,rfl,fun _ => ⟨fun _ => ⟨fun YC => fun iW ANE => ?_,fun YC => next _ _ _ _ ?_⟩,fun hh => (by cases hh)⟩⟩) fun v e he hE => ?_
     · refine AP.el JS (E6.mono BT.mono (hX.trans JS.2)) (by omega) (fun p9 c9 σ5 OF _ => ⟨_,_,_,rfl,next _ _ _ _ ?_⟩) ANE
       have : f2 z = true := by
         show ((DV (Vx n x) (GJ (Mw n z.ls))).isNone && decide (n.op = 12)) = true
         rw [HT,decide_eq_true YC]; rfl
       rw [this]; exact OF
     · have : f2 z = false := by
         show ((DV (Vx n x) (GJ (Mw n z.ls))).isNone && decide (n.op = 12)) = false
         rw [decide_eq_false YC,Bool.and_false]
       rw [this]; simpa using JS
     · obtain ⟨p5,n5,c5,rfl,_⟩ := hE
       refine ⟨_,_,_,_,_,rfl,fun _ => ⟨fun hh => (by cases hh),fun _ => next _ _ _ _ ?_⟩⟩
       have : f2 z = false := by
         show ((DV (Vx n x) (GJ (Mw n z.ls))).isNone && decide (n.op = 12)) = false
         rw [he]; rfl
       rw [this]; simpa using JS
 suffices H : ∀ g i : Nat,∀ p8 n8 c8 σ',nx - i = g → i ≤ nx → AP 2 By σ2 σ' p8 n8 c8 ((x.take i).filter f1) → Ab.sB R py ny cy n.kind n.op n.text p k c n.width n.back n.EH q m d n.bool n.parts 0 0 none 0 0 none 0 0 (some mx) (some my) p8 n8 c8 px nx cx nx i σ' from H nx 0 none 0 0 σ2 rfl (Nat.zero_le _) (AP.nil (.refl _))
 intro g
 induction g with
 | zero =>
   intro i p8 n8 c8 σ' hg hi ho
   rw [List.take_of_length_le (by omega)] at ho
   exact Ab.dF ⟨fun Az => by omega,fun _ => second ny 0 p8 n8 c8 σ' rfl (Nat.zero_le _) (by simpa using ho)⟩
 | succ g ih =>
   intro i p8 n8 c8 σ' hg hi ho
   have BI : i < nx := by omega
   obtain ⟨z,hz⟩ := WA.ex BI
   obtain ⟨b1,o1,q1,m1,d1,rfl,Ps,E6⟩ := By.at WA hz
   have JY := oF z (List.mem_of_getElem? hz)
   have QX := ho.1.1
   have h9 := List.length_filter_le f1 (x.take i)
   rw [List.length_take] at h9
   have next : ∀ p9 n9 c9 σ3,AP 2 By σ2 σ3 p9 n9 c9 ((x.take i).filter f1 ++ if f1 z then [z] else []) → Ab.NT R py ny cy n.kind n.op n.text p k c n.width n.back n.EH q m d n.bool n.parts 0 0 none 0 0 none 0 0 (some mx) (some my) p9 n9 c9 (aD b1 o1) nx cx nx i σ3 := fun p9 n9 c9 σ3 Ct =>
     Ab.NU ⟨AF BI WA.big,ih (i + 1) _ _ _ _ (by omega) (by omega) (by rw [U0 hz]; exact Ct)⟩
   have aZ := hX.trans ho.up
   refine Ab.dF ⟨fun _ => ⟨b1,o1,rfl,by omega,q1,m1,d1,z.v,by simpa using Ps.mono aZ,fun _ => QW (E6.mono BT.mono aZ) (JY.rd E6) (hs.mono aZ) fun p' n' c' σ3 V9 CV => ⟨_,_,_,rfl,FM (V9.mono BT.mono (Ext.Cw _ _)) JY.Mw fun σ4 Mu => ⟨_,rfl,?_⟩⟩⟩,fun hh => by omega⟩
   have JS := ho.mono By.mono (CV.trans Mu)
   have app : f1 z = true → ∀ fg,σ4 fg = none → AK prog (Builtin.append_ #[67,67] 67 #[.slice p8 n8 c8,(.slice (aD fg 0) 1 1)]) (Hp.set σ4 fg (.cells #[.slice q1 m1 d1,.int .u64 z.v] 71 (0,0))) (CS fun pj kG pk Av => Ab.NT R py ny cy n.kind n.op n.text p k c n.width n.back n.EH q m d n.bool n.parts 0 0 none 0 0 none 0 0 (some mx) (some my) pj kG pk (aD b1 o1) nx cx nx i Av) := fun ht fg ANF => by
     refine AP.el JS (E6.mono BT.mono (hX.trans JS.2)) (by omega) (fun p9 c9 σ5 OF _ => ⟨_,_,_,rfl,next _ _ _ _ ?_⟩) ANF
     rw [ht]; exact OF
   have skip : f1 z = false → Ab.NT R py ny cy n.kind n.op n.text p k c n.width n.back n.EH q m d n.bool n.parts 0 0 none 0 0 none 0 0 (some mx) (some my) p8 n8 c8 (aD b1 o1) nx cx nx i σ4 := fun ht => next _ _ _ _ (by rw [ht]; simpa using JS)
   have e1 : f1 z = (decide (n.op = 12) || ((DV (Vx n y) (GJ (Mw n z.ls))).isSome == decide (n.op = 11))) := rfl
   refine MS.YX ((hM2.imp fun v x hE => hE).mono (ho.up.trans (CV.trans Mu))) bM (fun HT => ⟨_,_,_,_,_,rfl,fun _ => ⟨fun YC => app ?_,fun YC => ⟨fun hh => (by cases hh),fun _ => ⟨fun df => skip ?_,fun df => app ?_⟩⟩⟩⟩) fun v e he hE => ?_
   · rw [e1,decide_eq_true YC]; rfl
   · rw [e1,decide_eq_false YC,HT,decide_eq_true df]; rfl
   · rw [e1,decide_eq_false YC,HT,decide_eq_false df]; rfl
   · obtain ⟨p5,n5,c5,rfl,_⟩ := hE
     refine ⟨_,_,_,_,_,rfl,fun _ => ⟨fun YC => app ?_,fun YC => ⟨fun _ => ⟨fun df => app ?_,fun df => skip ?_⟩,fun hh => (by cases hh)⟩⟩⟩
     · rw [e1,decide_eq_true YC]; rfl
     · rw [e1,decide_eq_false YC,he,decide_eq_true df]; rfl
     · rw [e1,decide_eq_false YC,he,decide_eq_false df]; rfl
end
end TwW
end
section
namespace TwW
open Go Tw Go.RowKit Go.Proofs.Tryz
section
variable {σ σ' σ0 : Hp} {R : Rr}
theorem TC {n : Nd} {p q a px : Option Addr} {k c m d nx cx f : Nat} {cap : Array Value} {x : List El} {g : Int → Int × Bool} (WA : Aa 2 By σ px nx x) (oF : ∀ e ∈ x,Aq e.ls) (hlen : x.length ≤ 1000000000000) (Pr : Enters prog f)
   (hC : ∀ (σ2 : Hp) (v : Int) (R' : Rr),Ext σ σ2 → R' (.returned (.tuple #[.int .u64 (g v).1,.bool (g v).2])) σ2 → Spec prog f (#[] ++ #[.int .u64 v] ++ cap) σ2 R')
   (h : IN R σ ((DQ FF (Sk n x g)).map fun l => ⟨2,0,l,[]⟩)) : Spec prog 157 #[.pointer a,My n p k c q m d,.slice px nx cx,.func (.func f) #[] cap] σ R := by
 have LM : x.length = nx := WA.1
 let f1 : El → Option El := fun x => if Ff n.op = false ∨ n.bool = true then some ⟨C9 x.ls,(g x.v).1⟩ else if (g x.v).2 then some x else none
 have hf : Sk n x g = x.filterMap f1 := rfl
 rw [hf] at h
 refine A6.start fun _ _ => ?_
 suffices H : ∀ gg i : Nat,∀ p8 n8 c8 σ',nx - i = gg → i ≤ nx → AP 2 By σ σ' p8 n8 c8 ((x.take i).filterMap f1) → A6.BA R (.func (.func f) #[] cap) n.kind n.op n.text p k c n.width n.back n.EH q m d n.bool n.parts 0 0 none 0 0 none 0 0 p8 n8 c8 px nx cx nx i σ' from H nx 0 none 0 0 σ rfl (Nat.zero_le _) (AP.nil (.refl _))
 intro gg
 induction gg with
 | zero =>
   intro i p8 n8 c8 σ' hg hi ho
   rw [List.take_of_length_le (by omega)] at ho
   have QX := ho.1.1
   have h9 := List.length_filterMap_le f1 x
   exact A6.Ac ⟨fun Az => by omega,fun _ => EG ho (by omega) h.T3⟩
 | succ gg ih =>
   intro i p8 n8 c8 σ' hg hi ho
   have BI : i < nx := by omega
   obtain ⟨z,hz⟩ := WA.ex BI
   obtain ⟨b1,o1,q1,m1,d1,rfl,Ps,E6⟩ := By.at WA hz
   have JY := oF z (List.mem_of_getElem? hz)
   have QX := ho.1.1
   have h9 := List.length_filterMap_le f1 (x.take i)
   rw [List.length_take] at h9
   have next : ∀ tb p9 n9 c9 σ3,tb = n.bool → AP 2 By σ σ3 p9 n9 c9 ((x.take i).filterMap f1 ++ (f1 z).toList) → A6.HA R (.func (.func f) #[] cap) n.kind n.op n.text p k c n.width n.back n.EH q m d tb n.parts 0 0 none 0 0 none 0 0 p9 n9 c9 (aD b1 o1) nx cx nx i σ3 := fun tb p9 n9 c9 σ3 qW Ct => by
     subst qW
     exact A6.HO ⟨AF BI WA.big,ih (i + 1) _ _ _ _ (by omega) (by omega) (by rw [Gb hz]; exact Ct)⟩
   have e1 : f1 z = if Ff n.op = false ∨ n.bool = true then some ⟨C9 z.ls,(g z.v).1⟩ else if (g z.v).2 then some z else none := rfl
   refine A6.Ac ⟨fun _ => ⟨b1,o1,rfl,by omega,q1,m1,d1,z.v,by simpa using Ps.mono ho.up,fun _ => ⟨f,#[],cap,rfl,Pr,hC σ' z.v _ ho.up ⟨_,_,rfl,Cd ⟨_,rfl,?_⟩⟩⟩⟩,fun hh => by omega⟩
   have bare : (Ff n.op = false ∨ n.bool = true) → ∀ tb,tb = n.bool → Spec prog 146 #[.slice q1 m1 d1] σ' (AA R (CS fun yt n40 yu AL => Al AL fun cb => AK prog (Builtin.append_ #[67,67] 67 #[.slice p8 n8 c8,(.slice (aD cb 0) 1 1)]) (Hp.set AL cb (.cells #[.slice yt n40 yu,.int .u64 (g z.v).1] 71 (0,0))) (CS fun pq n44 yw Av => A6.HA R (.func (.func f) #[] cap) n.kind n.op n.text p k c n.width n.back n.EH q m d tb n.parts 0 0 none 0 0 none 0 0 pq n44 yw (aD b1 o1) nx cx nx i Av))) := fun hc tb qW =>
     FN (E6.mono BT.mono ho.up) (JY.rd E6) fun p' n' c' σ3 V9 CV => ⟨_,_,_,rfl,fun cb AAf => AP.el (ho.mono By.mono CV) (V9.mono BT.mono (ho.new CV)) (by omega) (fun p9 c9 σ5 OF _ => ⟨_,_,_,rfl,next _ _ _ _ _ qW (by rw [e1,if_pos hc]; exact OF)⟩) AAf⟩
   refine ⟨fun hcf => bare (.inl hcf) _ rfl,fun hct => ⟨fun hb => bare (.inr hb) _ hb.symm,fun hb => ⟨fun bL => fun PJ oG => ?_,fun bL => next _ _ _ _ _ hb.symm ?_⟩⟩⟩
   · refine AP.el ho (E6.mono BT.mono ho.2) (by omega) (fun p9 c9 σ5 OF _ => ⟨_,_,_,rfl,next _ _ _ _ _ hb.symm ?_⟩) oG
     rw [e1,if_neg (by rw [hct,hb]; simp),if_pos bL]; exact OF
   · rw [e1,if_neg (by rw [hct,hb]; simp),if_neg (by rw [bL]; simp)]; simpa using ho
theorem WB {n : Nd} {p q a px py : Option Addr} {k c m d nx cx ny cy : Nat} {x y : List El} (hs : G6 1 σ q m (n.names.map .string)) (WA : Aa 2 By σ px nx x) (w7 : Aa 2 By σ py ny y) (oF : ∀ e ∈ x,Aq e.ls) (iz : ∀ e ∈ y,Aq e.ls) (hlen : x.length + y.length ≤ 1000000000000)
   (h : IN R σ (((Nn FF n x y).bind (DQ FF)).map fun l => ⟨2,0,l,[]⟩)) : Spec prog 161 #[.pointer a,My n p k c q m d,.slice px nx cx,.slice py ny cy] σ R := by
 have LM : x.length = nx := WA.1
 have Mx : y.length = ny := w7.1
 let f1 : El → Option El := fun e => match Up n y (Mw n e.ls) with
   | none => none
   | some o => if Ff n.op = false ∨ n.bool = true then some ⟨Mw n e.ls,(FF.Nl n.op e.v o.v).1⟩ else if (FF.Nl n.op e.v o.v).2 then some e else none
 have hf : Nn FF n x y = if ft n x && ft n y then some (x.filterMap f1) else none := rfl
 rw [hf] at h
 refine Ax.start fun _ _ => JF hs WA oF fun mx σ1 hM1 CO => ⟨_,_,rfl,JF (hs.mono CO) (w7.mono By.mono CO) iz fun my σ2 hM2 A1 => ⟨_,_,rfl,fun h1 => ?_,fun h1 => ⟨fun h2 => ?_,fun h2 => ?_⟩⟩⟩
 · rw [h1] at h; exact h.no rfl _ (CO.trans A1)
 · rw [h2,Bool.and_false] at h; exact h.no rfl _ (CO.trans A1)
 rw [h1,h2] at h
 have hX := CO.trans A1
 replace h : IN R σ2 ((DQ FF (x.filterMap f1)).map fun l => ⟨2,0,l,[]⟩) := h.gR hX
 suffices H : ∀ gg i : Nat,∀ p8 n8 c8 σ',nx - i = gg → i ≤ nx → AP 2 By σ2 σ' p8 n8 c8 ((x.take i).filterMap f1) → Ax.rG R n.kind n.op n.text p k c n.width n.back n.EH q m d n.bool n.parts 0 0 none 0 0 none 0 0 (some my) p8 n8 c8 px nx cx nx i σ' from H nx 0 none 0 0 σ2 rfl (Nat.zero_le _) (AP.nil (.refl _))
 intro gg
 induction gg with
 | zero =>
   intro i p8 n8 c8 σ' hg hi ho
   rw [List.take_of_length_le (by omega)] at ho
   have QX := ho.1.1
   have h9 := List.length_filterMap_le f1 x
   exact Ax.cm ⟨fun Az => by omega,fun _ => EG ho (by omega) h.T3⟩
 | succ gg ih =>
   intro i p8 n8 c8 σ' hg hi ho
   have BI : i < nx := by omega
   obtain ⟨z,hz⟩ := WA.ex BI
   obtain ⟨b1,o1,q1,m1,d1,rfl,Ps,E6⟩ := By.at WA hz
   have JY := oF z (List.mem_of_getElem? hz)
   have QX := ho.1.1
   have h9 := List.length_filterMap_le f1 (x.take i)
   rw [List.length_take] at h9
   have next : ∀ tb p9 n9 c9 σ3,tb = n.bool → AP 2 By σ2 σ3 p9 n9 c9 ((x.take i).filterMap f1 ++ (f1 z).toList) → Ax.ND R n.kind n.op n.text p k c n.width n.back n.EH q m d tb n.parts 0 0 none 0 0 none 0 0 (some my) p9 n9 c9 (aD b1 o1) nx cx nx i σ3 := fun tb p9 n9 c9 σ3 qW Ct => by
     subst qW
     exact Ax.Vi ⟨AF BI WA.big,ih (i + 1) _ _ _ _ (by omega) (by omega) (by rw [Gb hz]; exact Ct)⟩
   have aZ := hX.trans ho.up
   refine Ax.cm ⟨fun _ => ⟨b1,o1,rfl,by omega,q1,m1,d1,z.v,by simpa using Ps.mono aZ,fun _ => QW (E6.mono BT.mono aZ) (JY.rd E6) (hs.mono aZ) fun p' n' c' σ3 V9 CV => ⟨_,_,_,rfl,FM (V9.mono BT.mono (Ext.Cw _ _)) JY.Mw fun σ4 Mu => ⟨_,rfl,?_⟩⟩⟩,fun hh => by omega⟩
   have JS := ho.mono By.mono (CV.trans Mu)
   have hrk : Cq (σ4.del p8) p' n' (Mw n z.ls) := V9.mono BT.mono ((Ext.EL Mu).trans (ho.new (CV.trans Mu)))
   have e1 : f1 z = match DV (Vx n y) (GJ (Mw n z.ls)) with
     | none => none
     | some o => if Ff n.op = false ∨ n.bool = true then some ⟨Mw n z.ls,(IQ n.op z.v o.v).1⟩ else if (IQ n.op z.v o.v).2 then some z else none := rfl
   refine MS.YX (hM2.mono (ho.up.trans (CV.trans Mu))) bM (fun HT => ⟨_,_,_,_,_,rfl,fun _ => ⟨fun _ => next _ _ _ _ _ rfl ?_,fun hh => (by cases hh)⟩⟩) fun v e he hE => ?_
   · rw [e1,HT]; simpa using JS
   obtain ⟨p5,n5,c5,rfl,_⟩ := hE
   rw [he] at e1
   dsimp only at e1
   refine ⟨_,_,_,_,_,rfl,fun _ => ⟨fun hh => (by cases hh),fun _ => HV ⟨_,_,rfl,Cd ⟨_,rfl,?_⟩⟩⟩⟩
   have bare : (Ff n.op = false ∨ n.bool = true) → ∀ tb,tb = n.bool → Al σ4 fun uw => AK prog (Builtin.append_ #[67,67] 67 #[.slice p8 n8 c8,(.slice (aD uw 0) 1 1)]) (Hp.set σ4 uw (.cells #[.slice p' n' c',.int .u64 (IQ n.op z.v e.v).1] 71 (0,0))) (CS fun qu XM qw Mc => Ax.ND R n.kind n.op n.text p k c n.width n.back n.EH q m d tb n.parts 0 0 none 0 0 none 0 0 (some my) qu XM qw (aD b1 o1) nx cx nx i Mc) := fun hc tb qW =>
     fun cb AAf => AP.el JS hrk (by omega) (fun p9 c9 σ5 OF _ => ⟨_,_,_,rfl,next _ _ _ _ _ qW (by rw [e1,if_pos hc]; exact OF)⟩) AAf
   refine ⟨fun hcf => bare (.inl hcf) _ rfl,fun hct => ⟨fun hb => bare (.inr hb) _ hb.symm,fun hb => ⟨fun bL => fun PJ oG => ?_,fun bL => next _ _ _ _ _ hb.symm ?_⟩⟩⟩
   · refine AP.el JS (E6.mono BT.mono (hX.trans JS.2)) (by omega) (fun p9 c9 σ5 OF _ => ⟨_,_,_,rfl,next _ _ _ _ _ hb.symm ?_⟩) oG
     rw [e1,if_neg (by rw [hct,hb]; simp),if_pos bL]; exact OF
   · rw [e1,if_neg (by rw [hct,hb]; simp),if_neg (by rw [bL]; simp)]; simpa using JS
end
end TwW
end
section
namespace TwW
open Go Tw Go.RowKit Go.Proofs.Tryz
theorem AAg : ∀ w,(Go.sizeOf 93).run prog w = .ok 4 w := fun w => by kernel_rfl
abbrev Wh (x : Vv) (p : Option Addr) (n c : Nat) (q : Option Addr) (m d : Nat) : Array Value := #[.int .i64 x.kind,.int .u64 x.v,.slice p n c,.slice q m d]
abbrev ndC (n : Nd) (p : Option Addr) (k c : Nat) (q : Option Addr) (m d : Nat) : Array Value := #[.int .i64 n.kind,.int .i64 n.op,.string n.text,.slice p k c,.int .i64 n.width,.int .i64 n.back,.int .i64 n.EH,.slice q m d,.bool n.bool,.int .i64 n.parts]
section
variable {σ σ' σ0 : Hp} {R : Rr}
theorem TD {b : Nat} {c : Array Value} {v0 v1 v2 v3 : Value} {Φ : Unit → Hp → Prop} (hc : c.size = 4) (hb : σ b = some (.cells c 93 (0,0))) (h1 : ∀ u ∈ [v0,v1,v2,v3],u.oneCell' = true) (hv : (Value.agg #[v0,v1,v2,v3]).cells = #[v0,v1,v2,v3])
   (h : Φ () (σ.set b (.cells #[v0,v1,v2,v3] 93 (0,0)))) : AK prog (Instr.storeAt 93 (.pointer (some ⟨b,0,none⟩)) (.agg #[v0,v1,v2,v3])) σ Φ := by
 refine AK.store AAg hb (by rw [hv]; rfl) (by omega) (by rw [hv]; simpa using h1) ?_
 rw [hv,YS (by rw [hc]; rfl)]
 exact h
theorem Au.Fj {b : Nat} {c : List Value} {T : TypeId} (h : σ b = some (.cells c.toArray T (0,0))) : Au σ b 0 c := Au.of fun j v hj => by
 rw [Nat.zero_add]; exact Ai h (by simpa using hj)
theorem oH {n : Nd} {p q a l : Option Addr} {k c m d j e : Nat} {L : List Vv} {x y : Vv} (hs : G6 1 σ q m (n.names.map .string)) (hr : Aa 4 Mg σ l j L) (hx : L[0]? = some x) (hy : L[1]? = some y) (hVx : gW x) (hVy : gW y) (h : IN R σ (fu FF n x y)) :
   Spec prog 105 #[.pointer a,My n p k c q m d,.slice l j e] σ R := by
 have hj : 1 < j := by have h1 : L.length = j := hr.1; have := (List.getElem?_eq_some_iff.1 hy).1; omega
 obtain ⟨b,o,px,nx,cx,qx,mx,dx,rfl,h1,h2,h3,h4,h5,h6⟩ := Mg.at hr hx
 obtain ⟨_,_,py,ny,cy,qy,my,dy,he,g1,g2,g3,g4,g5,g6⟩ := Mg.at hr hy
 cases he
 simp only [Nat.zero_mul,Nat.add_zero,Nat.one_mul] at h1 h2 h3 h4 g1 g2 g3 g4
 have LM := hVx.len
 have Mx := hVy.len
 have oF := fun z hz => (hVx.el z hz).1
 have iz := fun z hz => (hVy.el z hz).1
 refine C5.start fun b4 hb4 _ => ?_
 have x4 := Ext.set (o := .cells (ndC n p k c q m d) 36 (0,0)) hb4
 have c4 := Hp.AB σ b4 (.cells (ndC n p k c q m d) 36 (0,0))
 generalize AAh : σ.set b4 (.cells (ndC n p k c q m d) 36 (0,0)) = σ4 at *
 refine ⟨b,o,rfl,by omega,x.kind,x.v,px,nx,cx,qx,mx,dx,⟨x4.ld h1,x4.ld h2,x4.ld h3,x4.ld h4,trivial⟩,by omega,y.kind,y.v,py,ny,cy,qy,my,dy,⟨x4.ld g1,x4.ld g2,x4.ld g3,x4.ld g4,trivial⟩,fun b8 hb8 b9 hb9 => ?_,fun b9 hb9 b8 hb8 => ?_⟩
 focus
   have n8 : b8 ≠ b9 := fun e => by rw [e,Hp.AB] at hb9; cases hb9
   have n9 := (Hp.Bq hb9).2
   have nb : ∀ k o,σ4 k = some o → k ≠ b8 ∧ k ≠ b9 := fun k o hk => ⟨fun e => (by rw [e,hb8] at hk; cases hk),fun e => (by rw [e,n9] at hk; cases hk)⟩
   refine TD rfl (by rw [Hp.AO n8]; exact Hp.AB _ _ _) (by simp [Value.oneCell']) rfl ?_
   refine ⟨fun kb Gj u hu => ?_,TD rfl (by rw [Hp.AO (Ne.symm n8)]; exact Hp.AB _ _ _) (by simp [Value.oneCell']) rfl ?_⟩
   · rw [List.mem_singleton] at Gj
     subst Gj
     have ZN : ∃ u,σ4 kb = some u := by
       have := x4.ld h1
       unfold Hp.ld at this
       cases hq : σ4 kb with
       | none => rw [hq] at this; cases this
       | some u => exact ⟨u,rfl⟩
     obtain ⟨u',DY⟩ := ZN
     rw [Hp.AO (nb _ _ DY).1]; exact hu
   have F8 : ((((σ4.set b8 (.cells #[.int .i64 0,.int .u64 0,.slice none 0 0,.slice none 0 0] 93 (0,0))).set b9 (.cells #[.int .i64 0,.int .u64 0,.slice none 0 0,.slice none 0 0] 93 (0,0))).set b8 (.cells (Wh x px nx cx qx mx dx) 93 (0,0))).set b9 (.cells (Wh y py ny cy qy my dy) 93 (0,0))) b8 = some (.cells (Wh x px nx cx qx mx dx) 93 (0,0)) := by rw [Hp.AO n8,Hp.AB]
   have F9 := Hp.AB (((σ4.set b8 (.cells #[.int .i64 0,.int .u64 0,.slice none 0 0,.slice none 0 0] 93 (0,0))).set b9 (.cells #[.int .i64 0,.int .u64 0,.slice none 0 0,.slice none 0 0] 93 (0,0))).set b8 (.cells (Wh x px nx cx qx mx dx) 93 (0,0))) b9 (.cells (Wh y py ny cy qy my dy) 93 (0,0))
   have X2 : Ext σ4 ((((σ4.set b8 (.cells #[.int .i64 0,.int .u64 0,.slice none 0 0,.slice none 0 0] 93 (0,0))).set b9 (.cells #[.int .i64 0,.int .u64 0,.slice none 0 0,.slice none 0 0] 93 (0,0))).set b8 (.cells (Wh x px nx cx qx mx dx) 93 (0,0))).set b9 (.cells (Wh y py ny cy qy my dy) 93 (0,0))) := fun k o hk => by
     obtain ⟨a1,a2⟩ := nb k o hk
     rw [Hp.AO a2,Hp.AO a1,Hp.AO a2,Hp.AO a1]; exact hk
   generalize ((((σ4.set b8 (.cells #[.int .i64 0,.int .u64 0,.slice none 0 0,.slice none 0 0] 93 (0,0))).set b9 (.cells #[.int .i64 0,.int .u64 0,.slice none 0 0,.slice none 0 0] 93 (0,0))).set b8 (.cells (Wh x px nx cx qx mx dx) 93 (0,0))).set b9 (.cells (Wh y py ny cy qy my dy) 93 (0,0))) = y2 at *
 rotate_left
 focus
   have n8 : b9 ≠ b8 := fun e => by rw [e,Hp.AB] at hb8; cases hb8
   have n9 := (Hp.Bq hb8).2
   have nb : ∀ k o,σ4 k = some o → k ≠ b8 ∧ k ≠ b9 := fun k o hk => ⟨fun e => (by rw [e,n9] at hk; cases hk),fun e => (by rw [e,hb9] at hk; cases hk)⟩
   refine TD rfl (Hp.AB _ _ _) (by simp [Value.oneCell']) rfl ?_
   refine ⟨fun kb Gj u hu => ?_,TD rfl (by rw [Hp.AO n8,Hp.AO n8]; exact Hp.AB _ _ _) (by simp [Value.oneCell']) rfl ?_⟩
   · rw [List.mem_singleton] at Gj
     subst Gj
     have ZN : ∃ u,σ4 kb = some u := by
       have := x4.ld h1
       unfold Hp.ld at this
       cases hq : σ4 kb with
       | none => rw [hq] at this; cases this
       | some u => exact ⟨u,rfl⟩
     obtain ⟨u',DY⟩ := ZN
     rw [Hp.AO (nb _ _ DY).1]; exact hu
   have F8 : ((((σ4.set b9 (.cells #[.int .i64 0,.int .u64 0,.slice none 0 0,.slice none 0 0] 93 (0,0))).set b8 (.cells #[.int .i64 0,.int .u64 0,.slice none 0 0,.slice none 0 0] 93 (0,0))).set b8 (.cells (Wh x px nx cx qx mx dx) 93 (0,0))).set b9 (.cells (Wh y py ny cy qy my dy) 93 (0,0))) b8 = some (.cells (Wh x px nx cx qx mx dx) 93 (0,0)) := by rw [Hp.AO (Ne.symm n8),Hp.AB]
   have F9 := Hp.AB (((σ4.set b9 (.cells #[.int .i64 0,.int .u64 0,.slice none 0 0,.slice none 0 0] 93 (0,0))).set b8 (.cells #[.int .i64 0,.int .u64 0,.slice none 0 0,.slice none 0 0] 93 (0,0))).set b8 (.cells (Wh x px nx cx qx mx dx) 93 (0,0))) b9 (.cells (Wh y py ny cy qy my dy) 93 (0,0))
   have X2 : Ext σ4 ((((σ4.set b9 (.cells #[.int .i64 0,.int .u64 0,.slice none 0 0,.slice none 0 0] 93 (0,0))).set b8 (.cells #[.int .i64 0,.int .u64 0,.slice none 0 0,.slice none 0 0] 93 (0,0))).set b8 (.cells (Wh x px nx cx qx mx dx) 93 (0,0))).set b9 (.cells (Wh y py ny cy qy my dy) 93 (0,0))) := fun k o hk => by
     obtain ⟨a1,a2⟩ := nb k o hk
     rw [Hp.AO a2,Hp.AO a1,Hp.AO a1,Hp.AO a2]; exact hk
   generalize ((((σ4.set b9 (.cells #[.int .i64 0,.int .u64 0,.slice none 0 0,.slice none 0 0] 93 (0,0))).set b8 (.cells #[.int .i64 0,.int .u64 0,.slice none 0 0,.slice none 0 0] 93 (0,0))).set b8 (.cells (Wh x px nx cx qx mx dx) 93 (0,0))).set b9 (.cells (Wh y py ny cy qy my dy) 93 (0,0))) = y2 at *
 all_goals
   have F4 := X2 _ _ c4
   have X := x4.trans X2
   have F4' := Au.Fj (c := [.int .i64 n.kind,.int .i64 n.op,.string n.text,.slice p k c,.int .i64 n.width,.int .i64 n.back,.int .i64 n.EH,.slice q m d,.bool n.bool,.int .i64 n.parts]) F4
   have hn := h.gR X
   unfold fu at hn
   refine ⟨x.kind,Ai F8 rfl,fun sq => ⟨y.kind,Ai F9 rfl,fun qJ => ?_,fun qJ => ?_⟩,fun sq => ?_⟩
   · rw [if_pos ⟨sq,qJ⟩] at hn
     exact ⟨_,_,_,_,_,_,_,_,_,_,_,_,_,_,F4',x.v,Ai F8 rfl,y.v,Ai F9 rfl,HV ⟨_,_,rfl,hn.ok _ y2 none 0 0 none 0 0 rfl (.refl _) Aa.nil Aa.nil (Nat.le_refl _) (Nat.le_refl _)⟩⟩
   · rw [if_neg (fun hh => qJ hh.2),if_pos sq] at hn
     refine ⟨x.kind,Ai F8 rfl,fun _ => ⟨_,_,_,_,_,_,_,_,_,_,_,_,_,_,F4',py,ny,cy,Ai F9 rfl,TC (g := fun v => IQ n.op x.v v) (g5.mono By.mono X) iz (by omega) DJ.en (fun σ2 v R' A1 Mv => ?_) hn.T3⟩,fun hh => absurd sq hh⟩
     exact DJ.start ⟨_,_,_,_,_,_,_,_,_,_,_,_,_,_,F4'.mono A1,x.v,Ai (A1 _ _ F8) rfl,HV ⟨_,_,rfl,Mv⟩⟩
   · rw [if_neg (fun hh => sq hh.1),if_neg sq] at hn
     refine ⟨x.kind,Ai F8 rfl,fun hh => absurd hh sq,fun _ => ⟨y.kind,Ai F9 rfl,fun qJ => ?_,fun qJ => ⟨n.op,Ai F4 rfl,Pg ⟨_,rfl,fun Fp => ?_,fun Fp => ?_⟩⟩⟩⟩
     · rw [if_pos qJ] at hn
       refine ⟨_,_,_,_,_,_,_,_,_,_,_,_,_,_,F4',px,nx,cx,Ai F8 rfl,TC (g := fun v => IQ n.op v y.v) (h5.mono By.mono X) oF (by omega) DE.en (fun σ2 v R' A1 Mv => ?_) hn.T3⟩
       exact DE.start ⟨_,_,_,_,_,_,_,_,_,_,_,_,_,_,F4'.mono A1,y.v,Ai (A1 _ _ F9) rfl,HV ⟨_,_,rfl,Mv⟩⟩
     · rw [if_neg qJ,if_pos (of_decide_eq_true Fp)] at hn
       exact ⟨_,_,_,_,_,_,_,_,_,_,_,_,_,_,F4',px,nx,cx,Ai F8 rfl,py,ny,cy,Ai F9 rfl,gZ (hs.mono X) (h5.mono By.mono X) (g5.mono By.mono X) oF iz (by omega) hn.T3⟩
     · rw [if_neg qJ,if_neg (of_decide_eq_false Fp)] at hn
       exact ⟨_,_,_,_,_,_,_,_,_,_,_,_,_,_,F4',px,nx,cx,Ai F8 rfl,py,ny,cy,Ai F9 rfl,WB (hs.mono X) (h5.mono By.mono X) (g5.mono By.mono X) oF iz (by omega) hn.T3⟩
end
end TwW
end
section
namespace TwW
open Go Tw Go.RowKit Go.Proofs.Tryz
structure GR where
 b : Nat
 lp : Option Addr
 ln : Nat
 lc : Nat
 vp : Option Addr
 vn : Nat
 vc : Nat
def GR.cl (r : GR) : List Nat := r.b :: Qg r.vp
def GR.cell (r : GR) : Obj := .cells #[.slice r.lp r.ln r.lc,.slice r.vp r.vn r.vc] 189 (0,0)
def E7 : List Rg → List GR → List (ByteArray × Nat)
 | g :: gs,r :: rs => (GJ g.ls,r.b) :: E7 gs rs
 | _,_ => []
structure GS (τ σ : Hp) (m : Nat) (op : Option Addr) (on oc : Nat) (rs : List GR) (gs : List Rg) : Prop where
 len : rs.length = gs.length
 map : MS (fun v b => v = .pointer (aD b 0)) σ m (E7 gs rs)
 ord : A8 1 σ op on oc (rs.map fun r => .pointer (aD r.b 0))
 box : ∀ (i : Nat) (r : GR) (g : Rg),rs[i]? = some r → gs[i]? = some g → σ r.b = some r.cell ∧ Cq τ r.lp r.ln g.ls ∧ DZ .u64 σ r.vp r.vn r.vc g.vs
 om : ∀ a,op = some a → a.block ≠ m ∧ τ a.block = none
 dm : ∀ (i : Nat) (r : GR),rs[i]? = some r → ∀ k ∈ r.cl,k ≠ m ∧ (∀ a,op = some a → k ≠ a.block) ∧ τ k = none
 vb : ∀ (i : Nat) (r : GR),rs[i]? = some r → ∀ a,r.vp = some a → a.block ≠ r.b
 dr : ∀ (i j : Nat) (r r' : GR),i ≠ j → rs[i]? = some r → rs[j]? = some r' → ∀ k ∈ r.cl,k ∉ r'.cl
 tm : τ m = none
 ext : Ext τ σ
theorem sr : ∀ w,(Go.sizeOf 187).run prog w = .ok 1 w := fun w => by kernel_rfl
theorem su {p : Option Addr} {k : Nat} : k ∈ Qg p ↔ ∃ a,p = some a ∧ k = a.block := by
 cases p with
 | none => simp [Qg]
 | some a => simp [Qg]
theorem JG {r : GR} {k : Nat} : k ∈ r.cl ↔ k = r.b ∨ ∃ a,r.vp = some a ∧ k = a.block := by
 unfold GR.cl
 rw [List.mem_cons,su]
theorem A8.of_eq {s : Nat} {σ σ' : Hp} {p : Option Addr} {n c : Nat} {cs : List Value} (ho : A8 s σ p n c cs) (h : ∀ a,p = some a → σ' a.block = σ a.block) : A8 s σ' p n c cs :=
 ⟨ho.1,ho.2.1,ho.2.2.imp id fun ⟨b',o',arr,T,hp,hb,r⟩ => ⟨b',o',arr,T,hp,by rw [h _ hp]; exact hb,r⟩⟩
theorem U1 : ∀ {gs : List Rg} {rs : List GR} {i : Nat} {g g' : Rg} {r r' : GR},gs[i]? = some g → rs[i]? = some r → g'.ls = g.ls → r'.b = r.b → E7 (gs.set i g') (rs.set i r') = E7 gs rs
 | [],_,i,_,_,_,_,hg,_,_,_ => by simp at hg
 | _ :: _,[],i,_,_,_,_,_,hr,_,_ => by simp at hr
 | a :: gs,b :: rs,0,g,g',r,r',hg,hr,h1,h2 => by
   simp only [List.getElem?_cons_zero,Option.some.injEq] at hg hr
   subst hg; subst hr
   simp only [List.set_cons_zero,E7,h1,h2]
 | a :: gs,b :: rs,i + 1,g,g',r,r',hg,hr,h1,h2 => by
   simp only [List.set_cons_succ,E7]
   rw [U1 (by simpa using hg) (by simpa using hr) h1 h2]
theorem U2 : ∀ {gs : List Rg} {rs : List GR} {g : Rg} {r : GR},rs.length = gs.length → E7 (gs ++ [g]) (rs ++ [r]) = E7 gs rs ++ [(GJ g.ls,r.b)]
 | [],[],g,r,_ => rfl
 | [],_ :: _,g,r,h => by simp at h
 | _ :: _,[],g,r,h => by simp at h
 | a :: gs,b :: rs,g,r,h => by
   simp only [List.cons_append,E7]
   rw [U2 (by simpa using h)]
theorem TE : ∀ {gs : List Rg} {rs : List GR} {ls : List Lb} {v : Int} {b : Nat},rs.length = gs.length → DV (E7 gs rs) (GJ ls) = some b → ∃ (i : Nat) (g : Rg) (r : GR),gs[i]? = some g ∧ rs[i]? = some r ∧ r.b = b ∧ IF ls v gs = gs.set i ⟨g.ls,g.vs ++ [v]⟩
 | [],_,ls,v,b,_,h => by simp [E7,DV] at h
 | _ :: _,[],ls,v,b,hl,h => by simp at hl
 | g :: gs,r :: rs,ls,v,b,hl,h => by
   unfold E7 DV at h
   by_cases hk : GJ g.ls = GJ ls
   · rw [if_pos hk] at h
     exact ⟨0,g,r,rfl,rfl,by simpa using h,by unfold IF; rw [if_pos hk]; rfl⟩
   · rw [if_neg hk] at h
     obtain ⟨i,g',r',h1,h2,h3,h4⟩ := TE (v := v) (by simpa using hl) h
     exact ⟨i + 1,g',r',by simpa using h1,by simpa using h2,h3,by unfold IF; rw [if_neg hk,h4]; rfl⟩
theorem TF : ∀ {gs : List Rg} {rs : List GR} {ls : List Lb} {v : Int},rs.length = gs.length → DV (E7 gs rs) (GJ ls) = none → IF ls v gs = gs ++ [⟨ls,[v]⟩] ∧ ∀ a ∈ E7 gs rs,a.1 ≠ GJ ls
 | [],_,ls,v,_,h => ⟨rfl,fun a ha => by simp [E7] at ha⟩
 | _ :: _,[],ls,v,hl,h => by simp at hl
 | g :: gs,r :: rs,ls,v,hl,h => by
   unfold E7 DV at h
   by_cases hk : GJ g.ls = GJ ls
   · rw [if_pos hk] at h; cases h
   · rw [if_neg hk] at h
     obtain ⟨h1,h2⟩ := TF (v := v) (by simpa using hl) h
     refine ⟨by unfold IF; rw [if_neg hk,h1]; rfl,fun a ha => ?_⟩
     unfold E7 at ha
     rcases List.mem_cons.1 ha with rfl | ha
     · exact hk
     · exact h2 a ha
section
variable {τ σ σ' σ0 : Hp} {R : Rr} {m on oc : Nat} {op : Option Addr} {rs : List GR} {gs : List Rg}
theorem GS.known (h : GS τ σ m op on oc rs gs) {i : Nat} {r : GR} (hr : rs[i]? = some r) : ∀ k ∈ r.cl,∃ u,σ k = some u := fun k hk => by
 have Az := (List.getElem?_eq_some_iff.1 hr).1
 obtain ⟨g,hg⟩ : ∃ g,gs[i]? = some g := ⟨_,List.getElem?_eq_getElem (by rw [← h.len]; exact Az)⟩
 obtain ⟨h1,_,h3⟩ := h.box i r g hr hg
 rcases JG.1 hk with rfl | ⟨a,ha,rfl⟩
 · exact ⟨_,h1⟩
 · have := A8.block h3 a ha
   cases hh : σ a.block with
   | none => exact absurd hh this
   | some u => exact ⟨u,rfl⟩
theorem GS.grow (h : GS τ σ m op on oc rs gs) (hx : Ext σ σ') : ∃ τ',GS τ' σ' m op on oc rs gs ∧ Ext τ τ' ∧ Ext (σ.new σ') τ' := by
 have ht : Ext τ (τ.or (σ.new σ')) := Ext.sL _ _
 have kn : ∀ k,(∃ u,σ k = some u) → τ k = none → (τ.or (σ.new σ')) k = none := fun k ⟨u,hu⟩ hk => by
   rw [Hp.aY hk]
   cases hh : (σ.new σ') k with
   | none => rfl
   | some v => rw [(AY.1 hh).1] at hu; cases hu
 have ne : ∀ k,σ k ≠ none → ∃ u,σ k = some u := fun k hk => by
   cases hh : σ k with
   | none => exact absurd hh hk
   | some u => exact ⟨u,rfl⟩
 refine ⟨τ.or (σ.new σ'),⟨h.len,h.map.mono hx,h.ord.mono hx,fun i r g hr hg => ?_,fun a ha => ⟨(h.om a ha).1,kn _ (ne _ (h.ord.block a ha)) (h.om a ha).2⟩,fun i r hr k hk => ?_,h.vb,h.dr,kn _ (ne _ h.map.known) h.tm,?_⟩,ht,?_⟩
 · obtain ⟨h1,h2,h3⟩ := h.box i r g hr hg
   exact ⟨hx _ _ h1,h2.mono BT.mono ht,h3.mono hx⟩
 · obtain ⟨h1,h2,h3⟩ := h.dm i r hr k hk
   exact ⟨h1,h2,kn k (h.known hr k hk) h3⟩
 · exact Ext.nB (h.ext.trans hx) (Ext.Cw _ _)
 · refine Ext.aY fun k hk => ?_
   cases hh : τ k with
   | none => rfl
   | some u =>
     have h1 := h.ext _ _ hh
     cases h2 : (σ.new σ') k with
     | none => exact absurd h2 hk
     | some v => rw [(AY.1 h2).1] at h1; cases h1
theorem GS.push {i : Nat} {r : GR} {g : Rg} {v : Int} (h : GS τ σ m op on oc rs gs) (hr : rs[i]? = some r) (hg : gs[i]? = some g) (hb : r.vn ≤ 1000000000000) {Φ : Hp → Prop}
   (hΦ : ∀ σ' r',GS τ σ' m op on oc (rs.set i r') (gs.set i ⟨g.ls,g.vs ++ [v]⟩) → Φ σ') :
   Al σ fun iu => AK prog (Builtin.append_ #[187,187] 187 #[.slice r.vp r.vn r.vc,(.slice (aD iu 0) 1 1)]) (Hp.set σ iu (.cells #[.int .u64 v] 48 (0,0))) (CS fun p70 n70 c70 y => AK prog (Instr.storeAt 187 (.pointer (aD r.b 1)) (.slice p70 n70 c70)) y (fun _ AH => Φ AH)) := fun iu ANI => by
 obtain ⟨h1,h2,h3⟩ := h.box i r g hr hg
 have wo := (List.getElem?_eq_some_iff.1 hr).1
 have hig := (List.getElem?_eq_some_iff.1 hg).1
 have x1 := Ext.set (o := .cells #[.int .u64 v] 48 (0,0)) ANI
 refine DB (A8.mono x1 h3) (Vu (f := .int .u64) (x := v) (Hp.AB _ _ _)) Fq.QC (by omega) fun vp' vc' σ2 BM A1 => ⟨_,_,_,rfl,?_⟩
 have hvb := h.vb i r hr
 have Te : ∀ k u,σ k = some u → (∀ a,r.vp = some a → k ≠ a.block) → σ2 k = some u ∧ ∀ a,vp' = some a → k ≠ a.block := fun k u hk BD => by
   obtain ⟨a1,a2⟩ := AU.1 (A1 k u (AU.2 ⟨BD,x1 _ _ hk⟩))
   exact ⟨a2,a1⟩
 obtain ⟨c1,c2⟩ := Te r.b _ h1 fun a ha e => hvb a ha e.symm
 refine AK.store sr c1 rfl (by simp) (by simp [Value.cells,Value.oneCell']) ?_
 let r' : GR := ⟨r.b,r.lp,r.ln,r.lc,vp',r.vn + 1,vc'⟩
 have T7 : (Obj.cells (Mz #[.slice r.lp r.ln r.lc,.slice r.vp r.vn r.vc] 1 (Value.slice vp' (r.vn + 1) vc').cells.toList) 189 (0,0)) = r'.cell := by simp [Mz,Value.cells,GR.cell,r']
 rw [T7]
 have T : ∀ k u,σ k = some u → k ∉ r.cl → (σ2.set r.b r'.cell) k = some u ∧ k ∉ r'.cl := fun k u hk iU => by
   have hnb : k ≠ r.b := fun e => iU (JG.2 (.inl e))
   obtain ⟨a1,a2⟩ := Te k u hk fun a ha e => iU (JG.2 (.inr ⟨a,ha,e⟩))
   exact ⟨by rw [Hp.AO hnb]; exact a1,fun hc => by
     rcases JG.1 hc with e | ⟨a,ha,e⟩
     · exact hnb e
     · exact a2 a ha e⟩
 have TK : ∀ k,(∃ u,σ k = some u) → k ∉ r.cl → (σ2.set r.b r'.cell) k = σ k ∧ k ∉ r'.cl := fun k ⟨u,hu⟩ iU => ⟨by rw [(T k u hu iU).1,hu],(T k u hu iU).2⟩
 have ne : ∀ k,σ k ≠ none → ∃ u,σ k = some u := fun k hk => by
   cases hh : σ k with
   | none => exact absurd hh hk
   | some u => exact ⟨u,rfl⟩
 have mk := TK m (ne _ h.map.known) fun hc => (h.dm i r hr m hc).1 rfl
 have ok : ∀ a,op = some a → (σ2.set r.b r'.cell) a.block = σ a.block ∧ a.block ∉ r'.cl := fun a ha => TK _ (ne _ (h.ord.block a ha)) fun hc => (h.dm i r hr _ hc).2.1 a ha rfl
 have jk : ∀ j s,j ≠ i → rs[j]? = some s → ∀ k ∈ s.cl,(σ2.set r.b r'.cell) k = σ k ∧ k ∉ r'.cl := fun j s hj hs k hk => TK k (h.known hs k hk) (h.dr j i s r hj hs hr k hk)
 have ga : ∀ j s,(rs.set i r')[j]? = some s → (j = i ∧ s = r') ∨ (j ≠ i ∧ rs[j]? = some s) := fun j s hs => by
   by_cases hj : j = i
   · subst hj
     rw [List.getElem?_set_self wo] at hs
     exact .inl ⟨rfl,by simpa using hs.symm⟩
   · rw [List.getElem?_set_ne (Ne.symm hj)] at hs
     exact .inr ⟨hj,hs⟩
 refine hΦ _ r' ⟨by simp [h.len],?_,?_,fun j s t hs ht => ?_,fun a ha => h.om a ha,fun j s hs k hk => ?_,fun j s hs a ha => ?_,fun j l s s' hjl hs OM k hk => ?_,h.tm,fun k u hk => ?_⟩
 · rw [U1 (g' := ⟨g.ls,g.vs ++ [v]⟩) (r' := r') hg hr rfl rfl]; exact h.map.loc mk.1
 · have : (rs.set i r').map (fun r => Value.pointer (aD r.b 0)) = rs.map fun r => Value.pointer (aD r.b 0) := by
     rw [List.map_set]
     obtain ⟨_,e⟩ := List.getElem?_eq_some_iff.1 hr
     have : Value.pointer (aD r'.b 0) = (rs.map fun r => Value.pointer (aD r.b 0))[i]'(by simpa using wo) := by simp [e,r']
     rw [this,List.set_getElem_self]
   rw [this]; exact A8.of_eq h.ord fun a ha => (ok a ha).1
 · rcases ga j s hs with ⟨rfl,rfl⟩ | ⟨hj,OM⟩
   · rw [List.getElem?_set_self hig] at ht
     cases ht
     refine ⟨Hp.AB _ _ _,h2,?_⟩
     have := A8.AO (b := r.b) (o := r'.cell) BM (fun a ha e => c2 a ha e.symm)
     unfold DZ
     rw [List.map_append]; exact this
   · rw [List.getElem?_set_ne (Ne.symm hj)] at ht
     obtain ⟨a1,a2,a3⟩ := h.box j s t OM ht
     refine ⟨?_,a2,A8.of_eq a3 fun a ha => (jk j s hj OM _ (JG.2 (.inr ⟨a,ha,rfl⟩))).1⟩
     rw [(jk j s hj OM _ (JG.2 (.inl rfl))).1]; exact a1
 · rcases ga j s hs with ⟨rfl,rfl⟩ | ⟨hj,OM⟩
   · refine ⟨fun e => mk.2 (e ▸ hk),fun a ha e => (ok a ha).2 (e ▸ hk),?_⟩
     cases hq : τ k with
     | none => rfl
     | some u => exact absurd hk (T k u (h.ext _ _ hq) fun hc => by rw [(h.dm j r hr k hc).2.2] at hq; cases hq).2
   · exact h.dm j s OM k hk
 · rcases ga j s hs with ⟨rfl,rfl⟩ | ⟨hj,OM⟩
   · exact fun e => c2 a ha e.symm
   · exact h.vb j s OM a ha
 · rcases ga j s hs with ⟨rfl,rfl⟩ | ⟨hj,JY⟩
   · rcases ga l s' OM with ⟨rfl,rfl⟩ | ⟨hl,hs2⟩
     · exact absurd rfl hjl
     · exact fun hc => (jk l s' hl hs2 k hc).2 hk
   · rcases ga l s' OM with ⟨rfl,rfl⟩ | ⟨hl,hs2⟩
     · exact (jk j s hj JY k hk).2
     · exact h.dr j l s s' hjl JY hs2 k hk
 · exact (T k u (h.ext _ _ hk) fun hc => by rw [(h.dm i r hr k hc).2.2] at hk; cases hk).1
end
end TwW
end
section
namespace TwW
open Go Tw Go.RowKit Go.Proofs.Tryz
theorem sv : ∀ w,(zeroValue 200).run prog w = .ok (.pointer none) w := fun w => by
 have h : prog.info? 200 = some t200 := by kernel_rfl
 simp [zeroValue,typeInfo,h]
 rfl
theorem tA : ∀ w,(zeroValue 201).run prog w = .ok .nilFunc w := fun w => by
 have h : prog.info? 201 = some t201 := by kernel_rfl
 simp [zeroValue,typeInfo,h]
 rfl
section
variable {τ σ σ' σ0 : Hp} {R : Rr} {m on oc : Nat} {op : Option Addr} {rs : List GR} {gs : List Rg}
theorem GS.mono (h : GS τ σ m op on oc rs gs) (hx : Ext σ σ') : GS τ σ' m op on oc rs gs :=
 ⟨h.len,h.map.mono hx,h.ord.mono hx,fun i r g hr hg => let ⟨h1,h2,h3⟩ := h.box i r g hr hg; ⟨hx _ _ h1,h2,h3.mono hx⟩,h.om,h.dm,h.vb,h.dr,h.tm,h.ext.trans hx⟩
theorem GS.add {ls : List Lb} {lp : Option Addr} {ln lc : Nat} (h : GS τ σ m op on oc rs gs) (Bc : ∀ a ∈ E7 gs rs,a.1 ≠ GJ ls) (hr : Cq τ lp ln ls) (JK : Aq ls) (hon : on ≤ 1000000000000) {Φ : Nat → Option Addr → Nat → Nat → Hp → Prop}
   (hΦ : ∀ b tB oc' σ',GS τ σ' m tB (on + 1) oc' (rs ++ [⟨b,lp,ln,lc,none,0,0⟩]) (gs ++ [⟨ls,[]⟩]) → Φ b tB (on + 1) oc' σ') :
   Al σ fun Oe => Spec prog 49 #[.slice lp ln lc] (Hp.set σ Oe (.cells #[.slice lp ln lc,.slice none 0 0] 189 (0,0))) (AA R (CT fun s56 AL => AK prog (Instr.mapUpdate 197 (.map (some m)) (.string s56) (.pointer (aD Oe 0))) AL (fun _ Av => Al Av fun Ms => AK prog (Builtin.append_ #[198,198] 198 #[.slice op on oc,(.slice (aD Ms 0) 1 1)]) (Hp.set Av Ms (.cells #[(.pointer (aD Oe 0))] 200 (0,0))) (CS fun zz n61 c61 Hl => Φ Oe zz n61 c61 Hl)))) := fun Oe oI => by
 have x1 := Ext.set (o := .cells #[.slice lp ln lc,.slice none 0 0] 189 (0,0)) oI
 have tb : τ Oe = none := BF h.ext oI
 have ne : ∀ k,σ k ≠ none → ∃ u,σ k = some u := fun k hk => by
   cases hh : σ k with
   | none => exact absurd hh hk
   | some u => exact ⟨u,rfl⟩
 have nem : Oe ≠ m := fun e => h.map.known (by rw [← e]; exact oI)
 have neo : ∀ a,op = some a → Oe ≠ a.block := fun a ha e => h.ord.block a ha (by rw [← e]; exact oI)
 have ncl : ∀ (i : Nat) (r : GR),rs[i]? = some r → Oe ∉ r.cl := fun i r hr hc => by obtain ⟨u,hu⟩ := h.known hr _ hc; rw [oI] at hu; cases hu
 refine FM (hr.mono BT.mono (h.ext.trans x1)) JK fun σ2 A1 => ⟨_,rfl,?_⟩
 have h2 := h.mono (x1.trans A1)
 have c2 := A1 _ _ (Hp.AB σ Oe (.cells #[.slice lp ln lc,.slice none 0 0] 189 (0,0)))
 refine h2.map.put (x := Oe) rfl fun o hM => fun Ms AHd => ?_
 rw [Oo Bc] at hM
 have ANK : A8 1 (σ2.set m o) op on oc (rs.map fun r => .pointer (aD r.b 0)) := A8.of_eq h2.ord fun a ha => Hp.AO (h.om a ha).1
 refine DB (ANK.mono (.set AHd)) (Vu (f := fun v => v) (x := .pointer (aD Oe 0)) (Hp.AB _ _ _)) (fun u hu => by simp at hu; subst hu; rfl) (by omega) fun tB oc' σ5 OF Tu => ⟨_,_,_,rfl,?_⟩
 have T : ∀ k u,(σ2.set m o) k = some u → (∀ a,op = some a → k ≠ a.block) → σ5 k = some u ∧ ∀ a,tB = some a → k ≠ a.block := fun k u hk BD => by
   obtain ⟨a1,a2⟩ := AU.1 (Tu k u (AU.2 ⟨BD,(Ext.set AHd) _ _ hk⟩))
   exact ⟨a2,a1⟩
 have T2 : ∀ k u,σ2 k = some u → k ≠ m → (∀ a,op = some a → k ≠ a.block) → σ5 k = some u ∧ ∀ a,tB = some a → k ≠ a.block := fun k u hk Sn => T k u (by rw [Hp.AO Sn]; exact hk)
 have Tr : ∀ (i : Nat) (r : GR),rs[i]? = some r → ∀ k ∈ r.cl,σ5 k = σ2 k ∧ ∀ a,tB = some a → k ≠ a.block := fun i r hr k hk => by
   obtain ⟨u,hu⟩ := h2.known hr k hk
   obtain ⟨d1,d2,_⟩ := h.dm i r hr k hk
   obtain ⟨a1,a2⟩ := T2 k u hu d1 d2
   exact ⟨by rw [a1,hu],a2⟩
 have hm2 : ∃ u,(σ2.set m o) m = some u := ⟨_,Hp.AB _ _ _⟩
 obtain ⟨um,hum⟩ := hm2
 obtain ⟨m1,m2⟩ := T m um hum fun a ha e => (h.om a ha).1 e.symm
 have ga : ∀ (i : Nat) (r : GR),(rs ++ [(⟨Oe,lp,ln,lc,none,0,0⟩ : GR)])[i]? = some r → rs[i]? = some r ∨ (i = rs.length ∧ r = ⟨Oe,lp,ln,lc,none,0,0⟩) := fun i r hr => by
   rw [List.getElem?_append] at hr
   split at hr
   · exact .inl hr
   · rename_i Az
     have AAj := (List.getElem?_eq_some_iff.1 hr).1
     simp only [List.length_singleton] at AAj
     have : i - rs.length = 0 := by omega
     rw [this] at hr
     exact .inr ⟨by omega,by simpa using hr.symm⟩
 have cn : ∀ k,k ∈ (⟨Oe,lp,ln,lc,none,0,0⟩ : GR).cl → k = Oe := fun k hk => by
   rcases JG.1 hk with e | ⟨a,ha,_⟩
   · exact e
   · cases ha
 obtain ⟨b1,b2⟩ := T2 Oe _ c2 nem neo
 refine hΦ Oe tB oc' σ5 ⟨by simp [h.len],?_,?_,fun i r g hi hg => ?_,fun a ha => ⟨fun e => m2 a ha e.symm,?_⟩,fun i r hi k hk => ?_,fun i r hi a ha => ?_,fun i j r r' M1 hi hj k hk => ?_,h.tm,fun k u hk => ?_⟩
 · rw [U2 h.len]
   exact hM.loc (by rw [m1,hum])
 · rw [List.map_append]; exact OF
 · rcases ga i r hi with BI | ⟨rfl,rfl⟩
   · have Az := (List.getElem?_eq_some_iff.1 BI).1
     rw [List.getElem?_append_left (by rw [← h.len]; exact Az)] at hg
     obtain ⟨a1,a2,a3⟩ := h2.box i r g BI hg
     refine ⟨?_,a2,A8.of_eq a3 fun a ha => (Tr i r BI _ (JG.2 (.inr ⟨a,ha,rfl⟩))).1⟩
     rw [(Tr i r BI _ (JG.2 (.inl rfl))).1]; exact a1
   · rw [h.len,List.getElem?_append_right (Nat.le_refl _),Nat.sub_self] at hg
     simp only [List.getElem?_cons_zero,Option.some.injEq] at hg
     subst hg
     exact ⟨b1,hr,DZ.nil⟩
 · cases hq : τ a.block with
   | none => rfl
   | some u =>
     obtain ⟨_,e2⟩ := T2 a.block u (h2.ext _ _ hq) (fun e => by rw [e,h.tm] at hq; cases hq) (fun a' ZI e => by rw [e,(h.om a' ZI).2] at hq; cases hq)
     exact absurd rfl (e2 a ha)
 · rcases ga i r hi with BI | ⟨rfl,rfl⟩
   · exact ⟨(h.dm i r BI k hk).1,(Tr i r BI k hk).2,(h.dm i r BI k hk).2.2⟩
   · rw [cn k hk]; exact ⟨nem,b2,tb⟩
 · rcases ga i r hi with BI | ⟨rfl,rfl⟩
   · exact h.vb i r BI a ha
   · cases ha
 · rcases ga i r hi with BI | ⟨rfl,rfl⟩
   · rcases ga j r' hj with eY | ⟨rfl,rfl⟩
     · exact h.dr i j r r' M1 BI eY k hk
     · exact fun hc => ncl i r BI (by rw [← cn k hc]; exact hk)
   · rcases ga j r' hj with eY | ⟨rfl,rfl⟩
     · exact fun hc => ncl j r' eY (by rw [← cn k hk]; exact hc)
     · exact absurd rfl M1
 · exact (T2 k u (h2.ext _ _ hk) (fun e => by rw [e,h.tm] at hk; cases hk) (fun a ha e => by rw [e,(h.om a ha).2] at hk; cases hk)).1
end
end TwW
end
