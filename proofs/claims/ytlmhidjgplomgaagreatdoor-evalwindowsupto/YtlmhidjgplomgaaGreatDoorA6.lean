/-
  Part 6 of the proof that the law EvalWindowsUptoCardSaid of the given program answers true for every input of the given statement; the input reads behind the call as it did. (The texts: packed from 13 texts. Names are shortened by the packing program, for the bound on size.)
-/
import Derived.Test.YtlmhidjgplomgaaGreatDoorA5
set_option linter.all false
section
namespace TwW
open Go Tw
section
variable {F : Fl} {ss bc : List Sr} {t : Int}
theorem IV {α β : Type} {f g : α → Option β} : ∀ {l : List α},(∀ x ∈ l,f x = g x) → l.filterMap f = l.filterMap g
 | [],_ => rfl
 | x :: l,h => by rw [List.filterMap_cons,List.filterMap_cons,h x (by simp),IV fun y hy => h y (List.mem_cons_of_mem _ hy)]
theorem bd {n : Nd} {l : List Vv} (h2 : n.kind = 2 → BE F n bc t = BE F n ss t) (h3 : n.kind = 3 → Bh F n bc t = Bh F n ss t) : F6 F bc t n l = F6 F ss t n l := by
 unfold F6
 by_cases k1 : n.kind = 1
 · rw [if_pos k1,if_pos k1]
 rw [if_neg k1,if_neg k1]
 by_cases k2 : n.kind = 2
 · rw [if_pos k2,if_pos k2,h2 k2]
 rw [if_neg k2,if_neg k2]
 by_cases k3 : n.kind = 3
 · rw [if_pos k3,if_pos k3,h3 k3]
 rw [if_neg k3,if_neg k3]
theorem VB : ∀ (T : List Nd) (st : List Vv),(∀ n ∈ T,(n.kind = 2 → BE F n bc t = BE F n ss t) ∧ (n.kind = 3 → Bh F n bc t = Bh F n ss t)) → HG F bc t T st = HG F ss t T st
 | [],st,_ => rfl
 | n :: T,st,h => by
   rw [HG,HG,bd (h n (by simp)).1 (h n (by simp)).2]
   congr 1
   funext v
   exact VB T _ fun m hm => h m (List.mem_cons_of_mem _ hm)
theorem WT {T : List Nd} (h : ∀ n ∈ T,(n.kind = 2 → BE F n bc t = BE F n ss t) ∧ (n.kind = 3 → Bh F n bc t = Bh F n ss t)) : BB F T bc t = BB F T ss t := by
 unfold BB
 rw [VB T [] h]
def F0 (lo hi : Int) (ps : List (Int × Int)) : List (Int × Int) := ps.filter fun p => decide (lo ≤ p.1) && decide (p.1 ≤ hi)
def WU (lo hi : Int) (ss : List Sr) : List Sr := ss.filterMap fun s => if (F0 lo hi s.ps).isEmpty then none else some ⟨s.ls,F0 lo hi s.ps⟩
theorem WV {lo hi a m : Int} {ps : List (Int × Int)} (h1 : lo ≤ a + 1) (h2 : m ≤ hi) : D3 (F0 lo hi ps) a m = D3 ps a m := by
 unfold D3 F0
 rw [List.filter_filter]
 refine List.filter_congr fun p _ => ?_
 by_cases h3 : a < p.1 ∧ p.1 ≤ m
 · simp only [decide_eq_true h3.1,decide_eq_true h3.2,decide_eq_true (show lo ≤ p.1 by omega),decide_eq_true (show p.1 ≤ hi by omega),Bool.and_self]
 · have : (decide (a < p.1) && decide (p.1 ≤ m)) = false := by
     by_cases h4 : a < p.1
     · rw [decide_eq_false (show ¬ p.1 ≤ m from fun h5 => h3 ⟨h4,h5⟩),Bool.and_false]
     · rw [decide_eq_false h4,Bool.false_and]
   rw [this,Bool.false_and]
theorem Yz {lo hi a m : Int} {ps : List (Int × Int)} (h1 : lo ≤ a + 1) (h2 : m ≤ hi) (h : (F0 lo hi ps).isEmpty = true) : D3 ps a m = [] := by
 rw [← WV h1 h2 (ps := ps),List.isEmpty_iff.1 h]; rfl
theorem bg {n : Nd} {IW : Int} (h1 : n.back + 300 ≤ IW) (h0 : 0 ≤ n.back) : BE F n (WU (t - IW + 1) t ss) t = BE F n ss t := by
 unfold BE WU
 rw [List.filterMap_filterMap]
 refine IV fun s _ => ?_
 by_cases he : (F0 (t - IW + 1) t s.ps).isEmpty = true
 · rw [if_pos he,Yz (show t - IW + 1 ≤ t - n.back - 300 + 1 by omega) (show t - n.back ≤ t by omega) he]; rfl
 · rw [if_neg he]
   simp only [Option.bind_some]
   rw [WV (by omega) (by omega)]
theorem iL {n : Nd} {IW : Int} (h1 : n.back + n.width ≤ IW) (h0 : 0 ≤ n.back) : Bh F n (WU (t - IW + 1) t ss) t = Bh F n ss t := by
 unfold Bh WU
 rw [List.filterMap_filterMap]
 refine IV fun s _ => ?_
 by_cases he : (F0 (t - IW + 1) t s.ps).isEmpty = true
 · rw [if_pos he,Yz (show t - IW + 1 ≤ t - n.back - n.width + 1 by omega) (show t - n.back ≤ t by omega) he]; rfl
 · rw [if_neg he]
   simp only [Option.bind_some]
   rw [WV (by omega) (by omega)]
theorem N6 {n : Nd} {g : Sr → Bool} (h : ∀ s ∈ ss,g s = false → F.Hi n.mt s.ls = false ∨ s.ps = []) : BE F n (ss.filter g) t = BE F n ss t := by
 unfold BE
 rw [List.filterMap_filter]
 refine IV fun s hs => ?_
 by_cases hg : g s = true
 · rw [if_pos hg]
 · rw [if_neg hg]
   rcases h s hs (by simpa using hg) with h1 | h1
   · cases (D3 s.ps (t - n.back - 300) (t - n.back)).getLast? with
     | none => rfl
     | some p => simp only [h1,or_true,if_true]
   · rw [h1]; rfl
theorem Po {n : Nd} {g : Sr → Bool} (h : ∀ s ∈ ss,g s = false → F.Hi n.mt s.ls = false ∨ s.ps = []) : Bh F n (ss.filter g) t = Bh F n ss t := by
 unfold Bh
 rw [List.filterMap_filter]
 refine IV fun s hs => ?_
 by_cases hg : g s = true
 · rw [if_pos hg]
 · rw [if_neg hg]
   rcases h s hs (by simpa using hg) with h1 | h1
   · dsimp only; rw [h1,Bool.and_false]; rfl
   · rw [h1]; rfl
def Eg : List (Int × Int) → List (Int × Int) → List (Int × Int)
 | [],b => b
 | a,[] => a
 | x :: a,y :: b => if x.1 < y.1 then x :: Eg a (y :: b) else if y.1 < x.1 then y :: Eg (x :: a) b else (x.1,if x.2 < y.2 then y.2 else x.2) :: Eg a b
termination_by a b => a.length + b.length
def DS : List Sr → List Sr → List Sr
 | [],b => b
 | a,[] => a
 | x :: a,y :: b => if Aj x.ls y.ls < 0 then x :: DS a (y :: b) else if 0 < Aj x.ls y.ls then y :: DS (x :: a) b else ⟨x.ls,Eg x.ps y.ps⟩ :: DS a b
termination_by a b => a.length + b.length
theorem GQ (b : List Sr) : DS [] b = b := by rw [DS]
theorem G2 (g : List Lb → Bool) : ∀ a b : List Sr,(∀ s ∈ b,g s.ls = false) → (DS a b).filter (fun s => g s.ls) = a.filter fun s => g s.ls
 | [],b,h => by
   rw [GQ]
   exact List.filter_eq_nil_iff.2 fun s hs => by rw [h s hs]; decide
 | x :: a,[],h => by rw [DS]; simp
 | x :: a,y :: b,h => by
   rw [DS]
   have hy := h y (by simp)
   have hb : ∀ s ∈ b,g s.ls = false := fun s hs => h s (List.mem_cons_of_mem _ hs)
   split
   · rw [List.filter_cons,List.filter_cons,G2 g a (y :: b) h]
   · rename_i h1
     split
     · rw [List.filter_cons,if_neg (by rw [hy]; decide),G2 g (x :: a) b hb]
     · rename_i h2
       have e : x.ls = y.ls := (Af.eq _ _).1 (by omega)
       rw [List.filter_cons,List.filter_cons,if_neg (by rw [e,hy]; decide),if_neg (by rw [e,hy]; decide),G2 g a b hb]
termination_by a b => a.length + b.length
theorem Pp {n : Nd} : BE F n (ss.filter fun s => F.Hi n.mt s.ls) t = BE F n ss t := N6 fun s _ h => .inl h
theorem TX {n : Nd} : Bh F n (ss.filter fun s => F.Hi n.mt s.ls) t = Bh F n ss t := Po fun s _ h => .inl h
theorem bh {n : Nd} {b : List Sr} (h : ∀ s ∈ b,F.Hi n.mt s.ls = false) : BE F n (DS ss b) t = BE F n ss t := by
 rw [← Pp (ss := DS ss b),G2 (fun ls => F.Hi n.mt ls) ss b h,Pp]
theorem iM {n : Nd} {b : List Sr} (h : ∀ s ∈ b,F.Hi n.mt s.ls = false) : Bh F n (DS ss b) t = Bh F n ss t := by
 rw [← TX (ss := DS ss b),G2 (fun ls => F.Hi n.mt ls) ss b h,TX]
end
end TwW
end
section
namespace TwW
open Go Tw
theorem A8.ABI {s : Nat} {σ σ' : Hp} {p : Option Addr} {n c : Nat} {cs : List Value} (ho : A8 s σ p n c cs) (h : ∀ a,p = some a → σ' a.block = σ a.block) : A8 s σ' p n c cs :=
 ⟨ho.1,ho.2.1,ho.2.2.imp id fun ⟨b',o',arr,T,hp,hb,r⟩ => ⟨b',o',arr,T,hp,by rw [h _ hp]; exact hb,r⟩⟩
theorem Hp.pM {σ σ' : Hp} {p : Option Addr} (hx : Ext σ (σ'.del p)) : ∀ a,p = some a → (σ.new σ') a.block = σ' a.block := fun a ha => by
 subst ha
 cases h1 : σ a.block with
 | none => simp only [Hp.new,h1]
 | some u =>
   have := hx _ _ h1
   simp [Hp.del] at this
theorem AP.eQ {α : Type} {s : Nat} {E : Hp → List Value → α → Prop} {σ0 σ : Hp} {p : Option Addr} {n c : Nat} {xs : List α} (hE : ∀ σ σ' vs x,E σ vs x → E σ' vs x) (h : AP s E σ0 σ p n c xs) : Aa s E (σ0.new σ) p n xs := by
 obtain ⟨⟨h1,cs,h2,h3⟩,h4⟩ := h
 exact ⟨h1,cs,(A8.ABI h2 (Hp.pM h4)).rd,h3.1,fun i x hi => hE _ _ _ _ (h3.2 i x hi)⟩
end TwW
end
section
namespace TwW
open Go Tw Go.RowKit Go.Proofs.Tryz
def Hj (ms : List Mt) (lo hi : Int) (s : Sr) : Option Sr := if Fg ms s.ls = false then none else if (F0 lo hi s.ps).isEmpty then none else some ⟨s.ls,F0 lo hi s.ps⟩
def N7 (ms : List Mt) (lo hi : Int) (ss : List Sr) : List Sr := ss.filterMap (Hj ms lo hi)
theorem te (lo hi : Int) (ss : List Sr) : N7 [] lo hi ss = WU lo hi ss := by
 unfold N7 WU
 refine IV fun s _ => ?_
 unfold Hj
 rw [if_neg (by show ¬ (true = false); decide)]
theorem pN {lo hi : Int} {l : List Pt} {x : Pt} : F0 lo hi (l ++ [x]) = if lo ≤ x.1 ∧ x.1 ≤ hi then F0 lo hi l ++ [x] else F0 lo hi l := by
 unfold F0
 rw [List.filter_append]
 by_cases h : lo ≤ x.1 ∧ x.1 ≤ hi
 · rw [if_pos h,List.filter_cons,decide_eq_true h.1,decide_eq_true h.2]; rfl
 · rw [if_neg h,List.filter_cons]
   have : (decide (lo ≤ x.1) && decide (x.1 ≤ hi)) = false := by
     rw [Bool.and_eq_false_iff,decide_eq_false_iff_not,decide_eq_false_iff_not]
     omega
   rw [this]
   simp
theorem tf {lo hi : Int} {l : List Pt} : (F0 lo hi l).length ≤ l.length := List.length_filter_le ..
section
variable {σ τ : Hp} {R : Rr}
theorem JI {p q : Option Addr} {n c m d : Nat} {ss : List Sr} {ms : List Mt} {lo hi : Int} (hr : Aa 2 Ay σ p n ss) (hm : Aa 3 JZ σ q m ms) (hv : ∀ x ∈ ms,x.val.size ≤ 100000) (Ja : ∀ s ∈ ss,∀ x ∈ s.ls,x.2.size ≤ 4611686018427387904) (mo : pI ss)
   (h : ∀ p' n' c' σ',Aa 2 Ay σ' p' n' (N7 ms lo hi ss) → Ext σ σ' → R (.returned (.slice p' n' c')) σ') : Spec prog 16 #[.slice p n c,.slice q m d,.int .i64 lo,.int .i64 hi] σ R := by
 have hn : ss.length = n := hr.1
 have hlen := mo.len
 refine A0.start ?_
 suffices H : ∀ (g i : Nat) (τ : Hp) (p9 : Option Addr) (n9 c9 : Nat),n - i = g → i ≤ n → AP 2 Ay σ τ p9 n9 c9 (N7 ms lo hi (ss.take i)) → A0.Ak R p n c q m d lo hi p9 n9 c9 (i : Int) τ from H n 0 σ none 0 0 rfl (Nat.zero_le _) (AP.nil (.refl _))
 intro g
 induction g with
 | zero =>
   intro i τ p9 n9 c9 hg hib ho
   rw [List.take_of_length_le (by omega)] at ho
   exact A0.AX ⟨fun hh => by omega,fun _ => h p9 n9 c9 τ (ho.rd Ay.mono) ho.up⟩
 | succ g ih =>
   intro i τ p9 n9 c9 hg hib ho
   have BI : i < n := by omega
   have hol : (N7 ms lo hi (ss.take i)).length = n9 := ho.1.1
   have pO : (N7 ms lo hi (ss.take i)).length ≤ (ss.take i).length := List.length_filterMap_le ..
   rw [List.length_take] at pO
   obtain ⟨s,hs⟩ := hr.ex BI
   have JK := List.mem_of_getElem? hs
   obtain ⟨b,o,p1,n1,c1,q1,m1,d1,rfl,D6,h1,h2,h3⟩ := Ay.at hr hs
   obtain ⟨z1,z2⟩ := mo.each s JK
   have tL : s.ls.length = n1 := h1.1
   have du : s.ps.length = m1 := h2.1
   have Mo := ho.up
   have step : N7 ms lo hi (ss.take (i + 1)) = N7 ms lo hi (ss.take i) ++ (Hj ms lo hi s).toList := by
     rw [AS hs]
     unfold N7
     rw [List.filterMap_append,List.filterMap_cons,List.filterMap_nil]
     cases Hj ms lo hi s <;> rfl
   have next : ∀ (ρ : Hp) (p' : Option Addr) (n' c' : Nat),AP 2 Ay σ ρ p' n' c' (N7 ms lo hi (ss.take (i + 1))) → A0.Hg R (aD b o) n c q m d lo hi p' n' c' (i : Int) ρ := fun ρ p' n' c' Es => by
     have := ih (i + 1) ρ p' n' c' (by omega) (by omega) Es
     rw [show ((i + 1 : Nat) : Int) = (i : Int) + 1 by omega] at this
     exact A0.HN ⟨AF BI hr.big,this⟩
   have TJ := D6.mono Mo
   refine A0.AX ⟨fun _ => ⟨b,o,rfl,by unfold In; omega,p1,n1,c1,by simpa using TJ.1,ba (hm.mono JZ.mono Mo) (h1.mono BT.mono Mo) hv (Ja s JK) fun τ1 x1 => ⟨_,rfl,fun hf => ?_,fun ht => ?_⟩⟩,fun hh => by omega⟩
   · refine next τ1 p9 n9 c9 ?_
     rw [step]
     have : Hj ms lo hi s = none := by unfold Hj; rw [if_pos hf]
     rw [this]
     show AP 2 Ay σ τ1 p9 n9 c9 (N7 ms lo hi (ss.take i) ++ [])
     rw [List.append_nil]
     exact ho.mono Ay.mono x1
   · intro b28 h28
     have MZ := Ext.set (o := .cells #[] 56 (0,0)) h28
     have iN := Mo.trans x1
     refine ⟨by unfold In; omega,p1,n1,c1,by simpa using ((D6.mono iN).mono MZ).1,DP (h1.mono BT.mono iN) (by omega) (fun p4 c4 τ2 JS x2 => ⟨_,_,_,rfl,fun _ => ?_⟩) h28⟩
     have tg := iN.trans x2
     have BM := ho.mono Ay.mono (x1.trans x2)
     have loop : ∀ (g k : Nat) (ρ : Hp) (pp : Option Addr) (kk cc : Nat),m1 - k = g → k ≤ m1 → AP 2 Co τ2 ρ pp kk cc (F0 lo hi (s.ps.take k)) → A0.XP R (aD b o) n c q m d lo hi p9 n9 c9 (i : Int) p4 n1 c4 pp kk cc (k : Int) ρ := by
       intro g
       induction g with
       | zero =>
         intro k ρ pp kk cc hgk hk E2
         rw [List.take_of_length_le (by omega)] at E2
         have pP := tg.trans E2.up
         have xF : (F0 lo hi s.ps).length = kk := E2.1.1
         refine A0.QJ ⟨b,o,rfl,by unfold In; omega,q1,m1,d1,by simpa using (D6.mono pP).2.1,fun hh => by omega,fun _ => ⟨fun MR => fun b76 h76 => ?_,fun hz => ?_⟩⟩
         · have hb1 : Hj ms lo hi s = some ⟨s.ls,F0 lo hi s.ps⟩ := by
             unfold Hj
             rw [if_neg (by rw [ht]; decide),if_neg]
             intro he
             rw [List.isEmpty_iff] at he
             rw [he] at xF
             have : kk = 0 := xF.symm
             omega
           have Ct := BM.mono Ay.mono E2.up
           have eN := BM.new E2.up
           have eT := ho.new ((x1.trans x2).trans E2.up)
           have oQ : kk ≤ cc := by obtain ⟨cs,Ov,_⟩ := E2.1.2; exact A8.cap Ov
           have rl : Cq (ρ.del p9) p4 n1 s.ls := (JS.rd BT.mono).mono BT.mono (((Ext.EL E2.up).trans (Ext.CA x1)).trans eT)
           have rp : Aa 2 Co (ρ.del p9) pp kk (F0 lo hi s.ps) := (AP.eQ (fun _ _ _ _ h => h) E2).mono Co.mono eN
           have he : Ay (ρ.del p9) [.slice p4 n1 c4,.slice pp kk cc] ⟨s.ls,F0 lo hi s.ps⟩ := ⟨p4,n1,c4,pp,kk,cc,rfl,rl,rp,oQ⟩
           refine AP.Hb Ay.mono Ct rfl (Ay.one _ _ _ he) he (by omega) (fun p' c' ρ' Es _ => ⟨_,_,_,rfl,next ρ' p' (n9 + 1) c' ?_⟩) h76
           rw [step,hb1]
           exact Es
         · have hb1 : Hj ms lo hi s = none := by
             unfold Hj
             rw [if_neg (by rw [ht]; decide),if_pos]
             rw [List.isEmpty_iff]
             exact List.eq_nil_of_length_eq_zero (by omega)
           refine next ρ p9 n9 c9 ?_
           rw [step,hb1]
           show AP 2 Ay σ ρ p9 n9 c9 (N7 ms lo hi (ss.take i) ++ [])
           rw [List.append_nil]
           exact BM.mono Ay.mono E2.up
       | succ g ihp =>
         intro k ρ pp kk cc hgk hk E2
         have E4 : k < m1 := by omega
         obtain ⟨x,hx⟩ := h2.ex E4
         obtain ⟨b2,o2,hq,gT⟩ := Co.at h2 hx
         have pP := tg.trans E2.up
         have xF : (F0 lo hi (s.ps.take k)).length = kk := E2.1.1
         have AOI := tf (lo := lo) (hi := hi) (l := s.ps.take k)
         rw [List.length_take] at AOI
         have Y5 := h2.big
         have st : F0 lo hi (s.ps.take (k + 1)) = if lo ≤ x.1 ∧ x.1 ≤ hi then F0 lo hi (s.ps.take k) ++ [x] else F0 lo hi (s.ps.take k) := by rw [AS hx]; exact pN
         have nx : ∀ ρ' p' k' c',AP 2 Co τ2 ρ' p' k' c' (F0 lo hi (s.ps.take (k + 1))) → A0.GG R (aD b o) n c q m d lo hi p9 n9 c9 (i : Int) p4 n1 c4 p' k' c' (k : Int) ρ' := fun ρ' p' k' c' AOJ => by
           have := ihp (k + 1) ρ' p' k' c' (by omega) (by omega) AOJ
           rw [show ((k + 1 : Nat) : Int) = (k : Int) + 1 by omega] at this
           exact A0.Dk ⟨by unfold AG; omega,this⟩
         have skip : ¬ (lo ≤ x.1 ∧ x.1 ≤ hi) → A0.GG R (aD b o) n c q m d lo hi p9 n9 c9 (i : Int) p4 n1 c4 pp kk cc (k : Int) ρ := fun Bc => nx ρ pp kk cc (by rw [st,if_neg Bc]; exact E2)
         subst hq
         refine A0.QJ ⟨b,o,rfl,by unfold In; omega,_,m1,d1,by simpa using (D6.mono pP).2.1,fun _ => ⟨by unfold In; omega,_,m1,d1,by simpa using (D6.mono pP).2.1,b2,o2,rfl,by unfold In; omega,x.1,x.2,by simpa using gT.mono pP,fun _ => ⟨fun a1 => ⟨fun a2 => fun b67 h67 => ?_,fun a2 => skip fun hh => a2 hh.2⟩,fun a1 => skip fun hh => a1 hh.1⟩⟩,fun hh => by omega⟩
         refine AP.Hb (vs := [.int .i64 x.1,.int .u64 x.2]) (x := x) Co.mono E2 rfl (Co.one ρ _ x rfl) rfl (by omega) (fun p' c' ρ' Es _ => ⟨_,_,_,rfl,nx ρ' p' (kk + 1) c' ?_⟩) h67
         rw [st,if_pos ⟨a1,a2⟩]
         exact Es
     exact loop m1 0 τ2 none 0 0 rfl (Nat.zero_le _) (AP.nil (.refl _))
end
end TwW
end
section
namespace TwW
open Go Tw Go.RowKit Go.Proofs.Tryz
section
variable {σ : Hp} {R : Rr}
abbrev ChA (s : ByteArray) (k : Nat) : Prop := ∃ m : Nat,((m = 0 ∧ vl 0 128 191 (s.data.toList.drop k) = false) ∨ (1 ≤ m ∧ k + m ≤ s.size ∧ vl 0 128 191 (s.data.toList.drop k) = vl 0 128 191 (s.data.toList.drop (k + m)))) ∧ ∀ {σ : Hp} {R : Rr},R (.returned (.int .i64 (m : Int))) σ → Spec prog 129 #[.string s,.int .i64 (k : Int)] σ R
theorem Eh {s : ByteArray} {k i n v : Nat} {least : Int} {u : UInt8} (hk : k + i ≤ 1000000000) (hi : i < n) (hu : s.data.toList[k + i]? = some u) (h1 : ¬ (128 ≤ u.toNat ∧ u.toNat ≤ 191)) (h : R (.returned (.int .i64 0)) σ) : AM.SU R s (k : Int) (n : Int) least (v : Int) (i : Int) σ := by
 have DY : s.data[Int.toNat ((k : Int) + (i : Int))]? = some u := by
   rw [show Int.toNat ((k : Int) + (i : Int)) = k + i by omega]; simpa using hu
 refine AM.QO ⟨fun _ => ⟨by unfold AG; omega,u,by omega,DY,fun Xm xR => ⟨fun BD => h,fun heq => ?_⟩⟩,fun hh => by omega⟩
 rw [xR,pH] at heq
 have Az : u.toNat < 256 := u.toNat_lt
 exact absurd (show ((u.toNat / 64 * 64 : Nat) : Int) ≠ 128 by omega) heq
theorem G3 {s : ByteArray} {k : Int} {n : Nat} {least v : Int} (h0 : (least ≤ v ∧ v ≤ 1114111 ∧ ¬ (55296 ≤ v ∧ v ≤ 57343)) → R (.returned (.int .i64 (n : Int))) σ) (h1 : ¬ (least ≤ v ∧ v ≤ 1114111 ∧ ¬ (55296 ≤ v ∧ v ≤ 57343)) → R (.returned (.int .i64 0)) σ) : AM.SU R s k (n : Int) least v (n : Int) σ := by
 refine AM.QO ⟨fun hh => by omega,fun _ => ⟨fun h2 => h1 (by omega),fun h2 => ⟨fun h3 => h1 (by omega),fun h3 => ⟨fun h4 => ⟨fun h5 => h1 (by omega),fun h5 => h0 (by omega)⟩,fun h4 => h0 (by omega)⟩⟩⟩⟩
theorem Ei {m lo hi : Nat} {L : List UInt8} {k : Nat} {u : UInt8} (hu : L[k]? = some u) : vl (m + 1) lo hi (L.drop k) = if u.toNat < lo ∨ hi < u.toNat then false else vl m 128 191 (L.drop (k + 1)) := by
 rw [An hu,vl]
theorem IX {m lo hi : Nat} {L : List UInt8} {k : Nat} (h : L.length ≤ k) : vl (m + 1) lo hi (L.drop k) = false := by
 rw [List.drop_eq_nil_of_le h]; rfl
theorem LY {m lo hi : Nat} {L : List UInt8} {k : Nat} {u : UInt8} (hu : L[k]? = some u) (h1 : ¬ (128 ≤ u.toNat ∧ u.toNat ≤ 191)) (wx : 128 ≤ lo) (wy : hi ≤ 191) : vl (m + 1) lo hi (L.drop k) = false := by
 rw [Ei hu,if_pos (by omega)]
theorem pQ {s : ByteArray} {k : Nat} (hk : k < s.size) (hs : s.size ≤ 1000000) : ChA s k := by
 have Ld : s.data.toList.length = s.size := rfl
 obtain ⟨u,hu⟩ : ∃ u,s.data.toList[k]? = some u := ⟨_,List.getElem?_eq_getElem (by omega)⟩
 have DY : s.data[Int.toNat (k : Int)]? = some u := by simpa using hu
 have Az : u.toNat < 256 := u.toNat_lt
 have get : ∀ j,j < s.size → ∃ w,s.data.toList[j]? = some w := fun j hj => ⟨_,List.getElem?_eq_getElem (by omega)⟩
 have hv : vl 0 128 191 (s.data.toList.drop k) = if u.toNat < 128 then vl 0 128 191 (s.data.toList.drop (k + 1)) else if 194 ≤ u.toNat ∧ u.toNat ≤ 223 then vl 1 128 191 (s.data.toList.drop (k + 1)) else if 224 ≤ u.toNat ∧ u.toNat ≤ 239 then (if u.toNat = 224 then vl 2 160 191 (s.data.toList.drop (k + 1)) else if u.toNat = 237 then vl 2 128 159 (s.data.toList.drop (k + 1)) else vl 2 128 191 (s.data.toList.drop (k + 1))) else if 240 ≤ u.toNat ∧ u.toNat ≤ 244 then (if u.toNat = 240 then vl 3 144 191 (s.data.toList.drop (k + 1)) else if u.toNat = 244 then vl 3 128 143 (s.data.toList.drop (k + 1)) else vl 3 128 191 (s.data.toList.drop (k + 1))) else false := by
   rw [An hu,vl]
 by_cases h1 : u.toNat < 128
 · rw [if_pos h1] at hv
   exact ⟨1,.inr ⟨by decide,by omega,hv⟩,fun {σ R} h => AM.start ⟨u,by omega,DY,fun _ => h,fun hh => by omega⟩⟩
 rw [if_neg h1] at hv
 by_cases h2 : 192 ≤ u.toNat ∧ u.toNat < 224
 · -- two bytes
   have enter : ∀ {σ : Hp} {R : Rr},AM.GG R s (k : Int) 2 128 ((u.toNat % 32 : Nat) : Int) σ → Spec prog 129 #[.string s,.int .i64 (k : Int)] σ R := fun {σ R} h => AM.start ⟨u,by omega,DY,fun hh => by omega,fun _ => ⟨fun _ => ⟨fun _ Ia h24 Lo h25 => by
     rw [xD] at h24
     have e : Lo = ((u.toNat % 32 : Nat) : Int) := by rw [h25,h24]; exact wrap32 (by omega)
     rw [e]; exact h,fun hh => by omega⟩,fun hh => by omega⟩⟩
   have bad : vl 0 128 191 (s.data.toList.drop k) = false → (∀ {σ : Hp} {R : Rr},R (.returned (.int .i64 0)) σ → AM.GG R s (k : Int) 2 128 ((u.toNat % 32 : Nat) : Int) σ) → ChA s k := fun hf hb => ⟨0,.inl ⟨rfl,hf⟩,fun {σ R} h => enter (hb h)⟩
   by_cases bj : s.size < k + 2
   · refine bad ?_ fun {σ R} h => AM.Dk ⟨by unfold AG; omega,fun _ => h,fun hh => by omega⟩
     rw [hv]
     split
     · exact IX (by omega)
     · rw [if_neg (by omega),if_neg (by omega)]
   obtain ⟨u1,a1⟩ := get (k + 1) (by omega)
   have AUJ : u1.toNat < 256 := u1.toNat_lt
   have bk : ∀ {σ : Hp} {R : Rr},AM.SU R s (k : Int) ((2 : Nat) : Int) 128 ((u.toNat % 32 : Nat) : Int) ((1 : Nat) : Int) σ → AM.GG R s (k : Int) 2 128 ((u.toNat % 32 : Nat) : Int) σ := fun {σ R} h => AM.Dk ⟨by unfold AG; omega,fun hh => by omega,fun _ => h⟩
   by_cases c1 : 128 ≤ u1.toNat ∧ u1.toNat ≤ 191
   · by_cases h94 : 194 ≤ u.toNat
     · rw [if_pos (by omega),Ei a1,if_neg (by omega)] at hv
       exact ⟨2,.inr ⟨by decide,by omega,hv⟩,fun {σ R} h => enter (bk (AZ (by omega) (by decide) a1 c1 (by omega) (G3 (n := 2) (fun _ => h) fun Bc => absurd (by omega) Bc)))⟩
     · rw [if_neg (by omega),if_neg (by omega),if_neg (by omega)] at hv
       exact bad hv fun {σ R} h => bk (AZ (by omega) (by decide) a1 c1 (by omega) (G3 (n := 2) (fun ABJ => by omega) fun _ => h))
   · refine bad ?_ fun {σ R} h => bk (Eh (by omega) (by decide) a1 c1 h)
     rw [hv]
     split
     · exact LY a1 c1 (by decide) (by decide)
     · rw [if_neg (by omega),if_neg (by omega)]
 rw [if_neg (by omega)] at hv
 by_cases h3 : 224 ≤ u.toNat ∧ u.toNat < 240
 · -- three bytes
   rw [if_pos (by omega)] at hv
   have enter : ∀ {σ : Hp} {R : Rr},AM.GG R s (k : Int) 3 2048 ((u.toNat % 16 : Nat) : Int) σ → Spec prog 129 #[.string s,.int .i64 (k : Int)] σ R := fun {σ R} h => AM.start ⟨u,by omega,DY,fun hh => by omega,fun _ => ⟨fun _ => ⟨fun hh => by omega,fun _ => ⟨fun _ => ⟨fun _ fY h34 PQ h35 => by
     rw [xE] at h34
     have e : PQ = ((u.toNat % 16 : Nat) : Int) := by rw [h35,h34]; exact wrap32 (by omega)
     rw [e]; exact h,fun hh => by omega⟩,fun hh => by omega⟩⟩,fun hh => by omega⟩⟩
   have bad : vl 0 128 191 (s.data.toList.drop k) = false → (∀ {σ : Hp} {R : Rr},R (.returned (.int .i64 0)) σ → AM.GG R s (k : Int) 3 2048 ((u.toNat % 16 : Nat) : Int) σ) → ChA s k := fun hf hb => ⟨0,.inl ⟨rfl,hf⟩,fun {σ R} h => enter (hb h)⟩
   obtain ⟨lo,hi,wx,wy,hlh,hv⟩ : ∃ lo hi,128 ≤ lo ∧ hi ≤ 191 ∧ ((u.toNat = 224 ∧ lo = 160 ∧ hi = 191) ∨ (u.toNat = 237 ∧ lo = 128 ∧ hi = 159) ∨ (u.toNat ≠ 224 ∧ u.toNat ≠ 237 ∧ lo = 128 ∧ hi = 191)) ∧ vl 0 128 191 (s.data.toList.drop k) = vl 2 lo hi (s.data.toList.drop (k + 1)) := by
     by_cases e1 : u.toNat = 224
     · rw [if_pos e1] at hv; exact ⟨160,191,by decide,by decide,.inl ⟨e1,rfl,rfl⟩,hv⟩
     · rw [if_neg e1] at hv
       by_cases e2 : u.toNat = 237
       · rw [if_pos e2] at hv; exact ⟨128,159,by decide,by decide,.inr (.inl ⟨e2,rfl,rfl⟩),hv⟩
       · rw [if_neg e2] at hv; exact ⟨128,191,by decide,by decide,.inr (.inr ⟨e1,e2,rfl,rfl⟩),hv⟩
   have bk : s.size ≥ k + 3 → ∀ {σ : Hp} {R : Rr},AM.SU R s (k : Int) ((3 : Nat) : Int) 2048 ((u.toNat % 16 : Nat) : Int) ((1 : Nat) : Int) σ → AM.GG R s (k : Int) 3 2048 ((u.toNat % 16 : Nat) : Int) σ := fun hh {σ R} h => AM.Dk ⟨by unfold AG; omega,fun hh => by omega,fun _ => h⟩
   by_cases bj : s.size < k + 3
   · refine bad ?_ fun {σ R} h => AM.Dk ⟨by unfold AG; omega,fun _ => h,fun hh => by omega⟩
     rw [hv]
     by_cases hs2 : s.size < k + 2
     · exact IX (by omega)
     · obtain ⟨u1,a1⟩ := get (k + 1) (by omega)
       rw [Ei a1]
       split
       · rfl
       · exact IX (by omega)
   obtain ⟨u1,a1⟩ := get (k + 1) (by omega)
   obtain ⟨u2,a2⟩ := get (k + 2) (by omega)
   by_cases c1 : 128 ≤ u1.toNat ∧ u1.toNat ≤ 191
   · by_cases c2 : 128 ≤ u2.toNat ∧ u2.toNat ≤ 191
     · rw [Ei a1] at hv
       by_cases Lv : u1.toNat < lo ∨ hi < u1.toNat
       · rw [if_pos Lv] at hv
         exact bad hv fun {σ R} h => bk (by omega) (AZ (by omega) (by decide) a1 c1 (by omega) (AZ (by omega) (by decide) a2 c2 (by omega) (G3 (n := 3) (fun ABJ => by omega) fun _ => h)))
       · rw [if_neg Lv,Ei a2,if_neg (by omega)] at hv
         exact ⟨3,.inr ⟨by decide,by omega,hv⟩,fun {σ R} h => enter (bk (by omega) (AZ (by omega) (by decide) a1 c1 (by omega) (AZ (by omega) (by decide) a2 c2 (by omega) (G3 (n := 3) (fun _ => h) fun Bc => absurd (by omega) Bc))))⟩
     · refine bad ?_ fun {σ R} h => bk (by omega) (AZ (by omega) (by decide) a1 c1 (by omega) (Eh (by omega) (by decide) a2 c2 h))
       rw [hv,Ei a1]
       split
       · rfl
       · exact LY a2 c2 (by decide) (by decide)
   · refine bad ?_ fun {σ R} h => bk (by omega) (Eh (by omega) (by decide) a1 c1 h)
     rw [hv]
     exact LY a1 c1 wx wy
 rw [if_neg (by omega)] at hv
 by_cases h4 : 240 ≤ u.toNat ∧ u.toNat < 248
 · -- four bytes
   have enter : ∀ {σ : Hp} {R : Rr},AM.GG R s (k : Int) 4 65536 ((u.toNat % 8 : Nat) : Int) σ → Spec prog 129 #[.string s,.int .i64 (k : Int)] σ R := fun {σ R} h => AM.start ⟨u,by omega,DY,fun hh => by omega,fun _ => ⟨fun _ => ⟨fun hh => by omega,fun _ => ⟨fun _ => ⟨fun hh => by omega,fun _ => ⟨fun _ => ⟨fun _ il h44 Y9 h45 => by
     rw [AIC] at h44
     have e : Y9 = ((u.toNat % 8 : Nat) : Int) := by rw [h45,h44]; exact wrap32 (by omega)
     rw [e]; exact h,fun hh => by omega⟩,fun hh => by omega⟩⟩,fun hh => by omega⟩⟩,fun hh => by omega⟩⟩
   have bad : vl 0 128 191 (s.data.toList.drop k) = false → (∀ {σ : Hp} {R : Rr},R (.returned (.int .i64 0)) σ → AM.GG R s (k : Int) 4 65536 ((u.toNat % 8 : Nat) : Int) σ) → ChA s k := fun hf hb => ⟨0,.inl ⟨rfl,hf⟩,fun {σ R} h => enter (hb h)⟩
   have bk : s.size ≥ k + 4 → ∀ {σ : Hp} {R : Rr},AM.SU R s (k : Int) ((4 : Nat) : Int) 65536 ((u.toNat % 8 : Nat) : Int) ((1 : Nat) : Int) σ → AM.GG R s (k : Int) 4 65536 ((u.toNat % 8 : Nat) : Int) σ := fun hh {σ R} h => AM.Dk ⟨by unfold AG; omega,fun hh => by omega,fun _ => h⟩
   by_cases h44 : u.toNat ≤ 244
   · rw [if_pos (by omega)] at hv
     obtain ⟨lo,hi,wx,wy,hlh,hv⟩ : ∃ lo hi,128 ≤ lo ∧ hi ≤ 191 ∧ ((u.toNat = 240 ∧ lo = 144 ∧ hi = 191) ∨ (u.toNat = 244 ∧ lo = 128 ∧ hi = 143) ∨ (u.toNat ≠ 240 ∧ u.toNat ≠ 244 ∧ lo = 128 ∧ hi = 191)) ∧ vl 0 128 191 (s.data.toList.drop k) = vl 3 lo hi (s.data.toList.drop (k + 1)) := by
       by_cases e1 : u.toNat = 240
       · rw [if_pos e1] at hv; exact ⟨144,191,by decide,by decide,.inl ⟨e1,rfl,rfl⟩,hv⟩
       · rw [if_neg e1] at hv
         by_cases e2 : u.toNat = 244
         · rw [if_pos e2] at hv; exact ⟨128,143,by decide,by decide,.inr (.inl ⟨e2,rfl,rfl⟩),hv⟩
         · rw [if_neg e2] at hv; exact ⟨128,191,by decide,by decide,.inr (.inr ⟨e1,e2,rfl,rfl⟩),hv⟩
     by_cases bj : s.size < k + 4
     · refine bad ?_ fun {σ R} h => AM.Dk ⟨by unfold AG; omega,fun _ => h,fun hh => by omega⟩
       rw [hv]
       by_cases hs2 : s.size < k + 2
       · exact IX (by omega)
       obtain ⟨u1,a1⟩ := get (k + 1) (by omega)
       rw [Ei a1]
       split
       · rfl
       by_cases hs3 : s.size < k + 3
       · exact IX (by omega)
       obtain ⟨u2,a2⟩ := get (k + 2) (by omega)
       rw [Ei a2]
       split
       · rfl
       · exact IX (by omega)
     obtain ⟨u1,a1⟩ := get (k + 1) (by omega)
     obtain ⟨u2,a2⟩ := get (k + 2) (by omega)
     obtain ⟨u3,a3⟩ := get (k + 3) (by omega)
     by_cases c1 : 128 ≤ u1.toNat ∧ u1.toNat ≤ 191
     · by_cases c2 : 128 ≤ u2.toNat ∧ u2.toNat ≤ 191
       · by_cases c3 : 128 ≤ u3.toNat ∧ u3.toNat ≤ 191
         · rw [Ei a1] at hv
           by_cases Lv : u1.toNat < lo ∨ hi < u1.toNat
           · rw [if_pos Lv] at hv
             exact bad hv fun {σ R} h => bk (by omega) (AZ (by omega) (by decide) a1 c1 (by omega) (AZ (by omega) (by decide) a2 c2 (by omega) (AZ (by omega) (by decide) a3 c3 (by omega) (G3 (n := 4) (fun ABJ => by omega) fun _ => h))))
           · rw [if_neg Lv,Ei a2,if_neg (by omega),Ei a3,if_neg (by omega)] at hv
             exact ⟨4,.inr ⟨by decide,by omega,hv⟩,fun {σ R} h => enter (bk (by omega) (AZ (by omega) (by decide) a1 c1 (by omega) (AZ (by omega) (by decide) a2 c2 (by omega) (AZ (by omega) (by decide) a3 c3 (by omega) (G3 (n := 4) (fun _ => h) fun Bc => absurd (by omega) Bc)))))⟩
         · refine bad ?_ fun {σ R} h => bk (by omega) (AZ (by omega) (by decide) a1 c1 (by omega) (AZ (by omega) (by decide) a2 c2 (by omega) (Eh (by omega) (by decide) a3 c3 h)))
           rw [hv,Ei a1]
           split
           · rfl
           rw [Ei a2]
           split
           · rfl
           · exact LY a3 c3 (by decide) (by decide)
       · refine bad ?_ fun {σ R} h => bk (by omega) (AZ (by omega) (by decide) a1 c1 (by omega) (Eh (by omega) (by decide) a2 c2 h))
         rw [hv,Ei a1]
         split
         · rfl
         · exact LY a2 c2 (by decide) (by decide)
     · refine bad ?_ fun {σ R} h => bk (by omega) (Eh (by omega) (by decide) a1 c1 h)
       rw [hv]
       exact LY a1 c1 wx wy
   · -- DW all ABK
     rw [if_neg (by omega)] at hv
     refine bad hv fun {σ R} h => ?_
     by_cases bj : s.size < k + 4
     · exact AM.Dk ⟨by unfold AG; omega,fun _ => h,fun hh => by omega⟩
     obtain ⟨u1,a1⟩ := get (k + 1) (by omega)
     obtain ⟨u2,a2⟩ := get (k + 2) (by omega)
     obtain ⟨u3,a3⟩ := get (k + 3) (by omega)
     refine bk (by omega) ?_
     by_cases c1 : 128 ≤ u1.toNat ∧ u1.toNat ≤ 191
     · by_cases c2 : 128 ≤ u2.toNat ∧ u2.toNat ≤ 191
       · by_cases c3 : 128 ≤ u3.toNat ∧ u3.toNat ≤ 191
         · exact AZ (by omega) (by decide) a1 c1 (by omega) (AZ (by omega) (by decide) a2 c2 (by omega) (AZ (by omega) (by decide) a3 c3 (by omega) (G3 (n := 4) (fun ABJ => by omega) fun _ => h)))
         · exact AZ (by omega) (by decide) a1 c1 (by omega) (AZ (by omega) (by decide) a2 c2 (by omega) (Eh (by omega) (by decide) a3 c3 h))
       · exact AZ (by omega) (by decide) a1 c1 (by omega) (Eh (by omega) (by decide) a2 c2 h)
     · exact Eh (by omega) (by decide) a1 c1 h
 · rw [if_neg (by omega)] at hv
   refine ⟨0,.inl ⟨rfl,hv⟩,fun {σ R} h => AM.start ⟨u,by omega,DY,fun hh => by omega,fun _ => ⟨fun _ => ⟨fun hh => by omega,fun _ => ⟨fun _ => ⟨fun hh => by omega,fun _ => ⟨fun _ => ⟨fun hh => by omega,fun _ => h⟩,fun hh => by omega⟩⟩,fun hh => by omega⟩⟩,fun _ => ⟨fun hh => by omega,fun _ => ⟨fun hh => by omega,fun _ => h⟩⟩⟩⟩⟩
theorem bm {s : ByteArray} (h : R (.returned (.bool (decide (1 ≤ s.size ∧ s.size ≤ 256) && ID s))) σ) : Spec prog 88 #[.string s] σ R := by
 refine CU.start ⟨fun hh => ?_,fun h1 => ⟨fun hh => ?_,fun h2 => ?_⟩⟩
 · rw [decide_eq_false (by omega),Bool.false_and] at h; exact h
 · rw [decide_eq_false (by omega),Bool.false_and] at h; exact h
 rw [decide_eq_true (by omega),Bool.true_and] at h
 suffices H : ∀ g k : Nat,s.size - k = g → k ≤ s.size → ID s = vl 0 128 191 (s.data.toList.drop k) → CU.A5 R s (k : Int) σ from H s.size 0 rfl (Nat.zero_le _) rfl
 intro g
 induction g using Nat.strongRecOn with
 | ind g ih =>
   intro k hg hk hv
   by_cases Az : k < s.size
   · obtain ⟨m,hm,m4⟩ := pQ Az (by omega)
     refine CU.A7 ⟨fun _ => m4 ⟨_,rfl,fun h0 => ?_,fun BD => ?_⟩,fun hh => by omega⟩
     · rcases hm with ⟨_,hf⟩ | ⟨h3,_⟩
       · rw [hv,hf] at h; exact h
       · omega
     · rcases hm with ⟨h3,_⟩ | ⟨m1,m2,m3⟩
       · subst h3; exact absurd rfl BD
       · refine ⟨by unfold AG; omega,?_⟩
         have := ih (s.size - (k + m)) (by omega) (k + m) rfl m2 (hv.trans m3)
         rw [show ((k + m : Nat) : Int) = (k : Int) + (m : Int) by omega] at this
         exact this
   · refine CU.A7 ⟨fun hh => by omega,fun _ => ?_⟩
     rw [List.drop_eq_nil_of_le (by show s.size ≤ k; omega)] at hv
     rw [hv] at h; exact h
end
end TwW
end
section
namespace TwW
open Go Tw Go.RowKit Go.Proofs.Tryz
section
variable {σ : Hp} {R : Rr}
theorem bn {p : Option Addr} {n c : Nat} {ls : List Lb} (hr : Cq σ p n ls) (h : R (.returned (.int .i64 (Cr ls))) σ) : Spec prog 56 #[.slice p n c] σ R := by
 have hn : ls.length = n := hr.1
 refine Ba.start ⟨fun h1 => ?_,fun h1 => ?_⟩
 · rw [Cr,if_pos (by omega)] at h; exact h
 rw [Cr,if_neg (by omega)] at h
 suffices H : ∀ g k : Nat,n - k = g → k ≤ n → C8 none ls = C8 (if k = 0 then none else (ls[k - 1]?).map (·.1)) (ls.drop k) → Ba.A5 R p n c (k : Int) σ from H n 0 rfl (Nat.zero_le _) rfl
 intro g
 induction g with
 | zero =>
   intro k hg hk he
   refine Ba.A7 ⟨fun hh => by omega,fun _ => ?_⟩
   rw [List.drop_eq_nil_of_le (by omega)] at he
   have e : C8 none ls = 0 := by
     rw [he]
     cases (if k = 0 then none else (ls[k - 1]?).map (·.1)) <;> rfl
   rw [e] at h; exact h
 | succ g ih =>
   intro k hg hk he
   have E4 : k < n := by omega
   obtain ⟨x,hx⟩ := hr.ex E4
   obtain ⟨b,o,rfl,LM⟩ := Cq.at hr hx
   rw [An hx] at he
   have QR : C8 none ls = if Cj x.1 = false then 31 else if x.2.size = 0 ∨ 256 < x.2.size ∨ ID x.2 = false then 32 else if (if k = 0 then none else (ls[k - 1]?).map (·.1)).any (sle x.1 ·) = true then 33 else C8 (some x.1) (ls.drop (k + 1)) := by
     rw [he]
     cases (if k = 0 then none else (ls[k - 1]?).map (·.1)) <;> rfl
   have next : Cj x.1 = true → ¬ (x.2.size = 0 ∨ 256 < x.2.size ∨ ID x.2 = false) → ¬ (if k = 0 then none else (ls[k - 1]?).map (·.1)).any (sle x.1 ·) = true → AG ((k : Int) + 1) ∧ Ba.A5 R (aD b o) n c ((k : Int) + 1) σ := fun e1 e2 e3 => by
     rw [if_neg (by rw [e1]; decide),if_neg e2,if_neg e3] at QR
     have := ih (k + 1) (by omega) (by omega) (by rw [if_neg (by omega),Nat.add_sub_cancel,hx]; exact QR)
     rw [show ((k + 1 : Nat) : Int) = (k : Int) + 1 by omega] at this
     exact ⟨AF E4 hr.big,this⟩
   refine Ba.A7 ⟨fun _ => ⟨b,o,rfl,by unfold In; omega,x.1,by simpa using LM.1,TT ⟨_,rfl,fun hf => ?_,fun e1 => ⟨by unfold In; omega,x.2,by simpa using LM.2.1,bm ⟨_,rfl,fun hf => ?_,fun ht => ?_⟩⟩⟩⟩,fun hh => by omega⟩
   · rw [if_pos hf] at QR
     rw [QR] at h; exact h
   · rw [if_neg (by rw [e1]; decide),if_pos] at QR
     · rw [QR] at h; exact h
     · rw [Bool.and_eq_false_iff,decide_eq_false_iff_not] at hf
       rcases hf with hf | hf
       · omega
       · exact .inr (.inr hf)
   · rw [Bool.and_eq_true,decide_eq_true_eq] at ht
     have e2 : ¬ (x.2.size = 0 ∨ 256 < x.2.size ∨ ID x.2 = false) := by
       rintro (h4 | h4 | h4)
       · omega
       · omega
       · rw [ht.2] at h4; cases h4
     refine ⟨fun MR => ?_,fun h0 => next e1 e2 ?_⟩
     · obtain ⟨y,hy⟩ := hr.ex (show k - 1 < n by omega)
       obtain ⟨b',o',hp',Mx⟩ := Cq.at hr hy
       cases hp'
       have ek : Int.toNat ((k : Int) - 1) = k - 1 := by omega
       have wc : (if k = 0 then none else (ls[k - 1]?).map (·.1)) = some y.1 := by rw [if_neg (by omega),hy]; rfl
       rw [wc] at QR
       refine ⟨by unfold In; omega,x.1,by simpa using LM.1,by unfold AG; omega,by unfold In; omega,y.1,by rw [ek]; simpa using Mx.1,_,ae,fun ht2 => ?_,fun pX => next e1 e2 ?_⟩
       · rw [if_neg (by rw [e1]; decide),if_neg e2,if_pos (show (some y.1).any (sle x.1 ·) = true from ht2)] at QR
         rw [QR] at h; exact h
       · rw [wc]
         show ¬ sle x.1 y.1 = true
         rw [pX]; decide
     · have hk0 : k = 0 := by omega
       rw [if_pos hk0]
       simp
def th (q : Option (List Lb)) (l : List Lb) : Bool := match q with
 | none => true
 | some q => decide (Aj q l < 0)
theorem ti {ps : List Pt} {i : Nat} {x y : Pt} (hx : ps[i]? = some x) (hy : ps[i + 1]? = some y) (h : y.1 ≤ x.1) : GK ps = false := by
 cases hq : GK ps with
 | false => rfl
 | true =>
   have := ((Ef _).1 hq).2 i x y hx hy
   omega
theorem Y0 {p : Option Addr} {n c : Nat} {ss : List Sr} (hr : Aa 2 Ay σ p n ss) (h : R (.returned (.int .i64 (if BN none ss then 0 else 100))) σ) : Spec prog 39 #[.slice p n c] σ R := by
 have hn : ss.length = n := hr.1
 refine Ag.start ?_
 suffices H : ∀ g k : Nat,n - k = g → k ≤ n → BN none ss = BN (if k = 0 then none else (ss[k - 1]?).map (·.ls)) (ss.drop k) → Ag.F3 R p n c (k : Int) σ from H n 0 rfl (Nat.zero_le _) rfl
 intro g
 induction g with
 | zero =>
   intro k hg hk he
   refine Ag.As ⟨fun hh => by omega,fun _ => ?_⟩
   rw [List.drop_eq_nil_of_le (by omega)] at he
   have e : BN none ss = true := by
     rw [he]
     cases (if k = 0 then none else (ss[k - 1]?).map (·.ls)) <;> rfl
   rw [e] at h; exact h
 | succ g ih =>
   intro k hg hk he
   have E4 : k < n := by omega
   obtain ⟨s,hs⟩ := hr.ex E4
   obtain ⟨b,o,p1,n1,c1,q,m,d,rfl,Ja,h1,h2,h3⟩ := Ay.at hr hs
   have he : BN none ss = (decide (Cr s.ls = 0) && GK s.ps && th (if k = 0 then none else (ss[k - 1]?).map (·.ls)) s.ls && BN (some s.ls) (ss.drop (k + 1))) := by
     rw [he,BC hs,FK]
     cases (if k = 0 then none else (ss[k - 1]?).map (·.ls)) <;> rfl
   have hm : s.ps.length = m := h2.1
   have bad : (decide (Cr s.ls = 0) && GK s.ps && (th (if k = 0 then none else (ss[k - 1]?).map (·.ls)) s.ls)) = false → R (.returned (.int .i64 100)) σ := fun hf => by
     rw [hf,Bool.false_and] at he
     rw [he] at h; exact h
   have next : Cr s.ls = 0 → GK s.ps = true → (th (if k = 0 then none else (ss[k - 1]?).map (·.ls)) s.ls) = true → Ag.F3 R (aD b o) n c ((k : Int) + 1) σ := fun e1 e2 e3 => by
     rw [e3,e2,decide_eq_true e1] at he
     have := ih (k + 1) (by omega) (by omega) (by rw [if_neg (by omega),Nat.add_sub_cancel,hs]; simpa using he)
     rw [show ((k + 1 : Nat) : Int) = (k : Int) + 1 by omega] at this
     exact this
   have tK : Cr s.ls = 0 → 0 < m → (th (if k = 0 then none else (ss[k - 1]?).map (·.ls)) s.ls) = true → ∀ g i : Nat,m - i = g → 1 ≤ i → i ≤ m → (∀ j a b,j + 1 < i → s.ps[j]? = some a → s.ps[j + 1]? = some b → a.1 < b.1) → Ag.aC R (aD b o) n c (k : Int) (i : Int) σ := by
     intro e1 hm0 e3 g
     induction g with
     | zero =>
       intro i nr h1i hi bJ
       have E6 : GK s.ps = true := (Ef _).2 ⟨by omega,fun j a b ha hb => bJ j a b (by have := (List.getElem?_eq_some_iff.1 hb).1; omega) ha hb⟩
       exact Ag.QK ⟨b,o,rfl,by unfold In; omega,q,m,d,by simpa using Ja.2.1,fun hh => by omega,fun _ => ⟨AF E4 hr.big,next e1 E6 e3⟩⟩
     | succ g ihp =>
       intro i nr h1i hi bJ
       obtain ⟨x,hx⟩ := h2.ex (show i < m by omega)
       obtain ⟨y,hy⟩ := h2.ex (show i - 1 < m by omega)
       obtain ⟨b2,o2,gL,LM⟩ := Co.at h2 hx
       obtain ⟨b3,o3,hq,Mx⟩ := Co.at h2 hy
       rw [gL] at hq
       cases hq
       subst gL
       have ei : Int.toNat ((i : Int) - 1) = i - 1 := by omega
       have Y5 := h2.big
       refine Ag.QK ⟨b,o,rfl,by unfold In; omega,_,m,d,by simpa using Ja.2.1,fun _ => ⟨by unfold In; omega,_,m,d,by simpa using Ja.2.1,b2,o2,rfl,by unfold In; omega,x.1,by simpa using LM.1,by unfold In; omega,_,m,d,by simpa using Ja.2.1,by unfold AG; omega,b2,o2,rfl,by unfold In; omega,y.1,by rw [ei]; simpa using Mx.1,fun hle => bad ?_,fun hgt => ⟨by unfold AG; omega,?_⟩⟩,fun hh => by omega⟩
       · rw [ti hy (by rw [show i - 1 + 1 = i by omega]; exact hx) hle]
         simp
       · have := ihp (i + 1) (by omega) (by omega) (by omega) fun j a b hj ha hb => by
           by_cases ZR : j + 1 = i
           · have qU : j = i - 1 := by omega
             subst qU
             rw [hy] at ha
             rw [show i - 1 + 1 = i by omega,hx] at hb
             cases ha; cases hb
             omega
           · exact bJ j a b (by omega) ha hb
         rw [show ((i + 1 : Nat) : Int) = (i : Int) + 1 by omega] at this
         exact this
   refine Ag.As ⟨fun _ => ⟨b,o,rfl,by unfold In; omega,p1,n1,c1,by simpa using Ja.1,bn h1 ⟨_,rfl,fun BD => bad (by simp [BD]),fun h0 => ⟨by unfold In; omega,q,m,d,by simpa using Ja.2.1,fun hz => bad ?_,fun hnz => ⟨fun MR => ⟨by unfold AG; have := hr.big; omega,by unfold In; omega,?_⟩,fun hz => tK (Decidable.not_not.1 h0) (by omega) ?_ (m - 1) 1 rfl (Nat.le_refl _) (by omega) fun j a b hj => by omega⟩⟩⟩⟩,fun hh => by omega⟩
   · have : s.ps = [] := List.eq_nil_of_length_eq_zero (by omega)
     rw [this]
     show (decide (Cr s.ls = 0) && false && _) = false
     simp
   · obtain ⟨s',OM⟩ := hr.ex (k := k - 1) (by omega)
     obtain ⟨_,_,p1',n1',c1',_,_,_,QQ,ak,qH,_,_⟩ := Ay.at hr OM
     cases QQ
     have e1 : Int.toNat ((k : Int) - 1) = k - 1 := by omega
     have wc : (if k = 0 then none else (ss[k - 1]?).map (·.ls)) = some s'.ls := by rw [if_neg (by omega),OM]; rfl
     refine ⟨p1',n1',c1',by rw [e1]; simpa using ak.1,by unfold In; omega,p1,n1,c1,by simpa using Ja.1,O3 qH h1 ⟨_,rfl,fun Ul => bad ?_,fun Az => tK (Decidable.not_not.1 h0) (by omega) ?_ (m - 1) 1 rfl (Nat.le_refl _) (by omega) fun j a b hj => by omega⟩⟩
     · rw [wc]
       show (decide (Cr s.ls = 0) && GK s.ps && decide (Aj s'.ls s.ls < 0)) = false
       rw [show decide (Aj s'.ls s.ls < 0) = false from decide_eq_false (by omega),Bool.and_false]
     · rw [wc]
       show decide (Aj s'.ls s.ls < 0) = true
       exact decide_eq_true (by omega)
   · rw [if_pos (by omega)]; rfl
end
end TwW
end
section
namespace TwW
open Go Tw Go.RowKit Go.Proofs.Tryz
theorem Ej (a : List Pt) : Eg a [] = a := by cases a <;> rw [Eg]; intro h; cases h
theorem Ge (b : List Pt) : Eg [] b = b := by rw [Eg]
theorem Gf {x y : Pt} {a b : List Pt} : Eg (x :: a) (y :: b) = if x.1 < y.1 then x :: Eg a (y :: b) else if y.1 < x.1 then y :: Eg (x :: a) b else (x.1,if x.2 < y.2 then y.2 else x.2) :: Eg a b := by rw [Eg]
theorem Kx (a : List Sr) : DS a [] = a := by cases a <;> rw [DS]; intro h; cases h
theorem LZ {x y : Sr} {a b : List Sr} : DS (x :: a) (y :: b) = if Aj x.ls y.ls < 0 then x :: DS a (y :: b) else if 0 < Aj x.ls y.ls then y :: DS (x :: a) b else ⟨x.ls,Eg x.ps y.ps⟩ :: DS a b := by rw [DS]
theorem N8 : ∀ (a b : List Pt),(Eg a b).length ≤ a.length + b.length
 | [],b => by rw [Ge]; simp
 | x :: a,[] => by rw [Ej]; simp
 | x :: a,y :: b => by
   rw [Gf]
   have h1 := N8 a (y :: b)
   have h2 := N8 (x :: a) b
   have h3 := N8 a b
   simp only [List.length_cons] at *
   split
   · simp only [List.length_cons]; omega
   · split
     · simp only [List.length_cons]; omega
     · simp only [List.length_cons]; omega
termination_by a b => a.length + b.length
section
variable {σ τ : Hp} {R : Rr}
theorem bo {p q : Option Addr} {n c m d : Nat} {a b : List Pt} (hr : Aa 2 Co σ p n a) (hs : Aa 2 Co σ q m b) (tL : n ≤ 1000000000) (du : m ≤ 1000000000)
   (h : ∀ p' n' c' σ',AP 2 Co σ σ' p' n' c' (Eg a b) → R (.returned (.slice p' n' c')) σ') : Spec prog 59 #[.slice p n c,.slice q m d] σ R := by
 have hn : a.length = n := hr.1
 have hm : b.length = m := hs.1
 refine BH.start ?_
 suffices H : ∀ g i k : Nat,∀ (τ : Hp) (p5 : Option Addr) (n5 c5 : Nat) (out : List Pt),(n - i) + (m - k) ≤ g → i ≤ n → k ≤ m → AP 2 Co σ τ p5 n5 c5 out → n5 ≤ i + k → out ++ Eg (a.drop i) (b.drop k) = Eg a b → BH.Ak R p n c q m d p5 n5 c5 (i : Int) (k : Int) τ from
   H (n + m) 0 0 σ none 0 0 [] (by omega) (Nat.zero_le _) (Nat.zero_le _) (AP.nil (.refl _)) (Nat.le_refl _) (by simp)
 intro g
 induction g with
 | zero =>
   intro i k τ p5 n5 c5 out hg hi hk ho h5 he
   rw [List.drop_eq_nil_of_le (by omega),List.drop_eq_nil_of_le (by omega),Ej,List.append_nil] at he
   subst he
   exact BH.AX ⟨fun hh => by omega,fun _ => ⟨fun hh => by omega,fun _ => h p5 n5 c5 τ ho⟩⟩
 | succ g ih =>
   intro i k τ p5 n5 c5 out hg hi hk ho h5 he
   have Mo := ho.up
   have qO := hr.big
   have push : ∀ (x : Pt) (i' k' : Nat),(n - i') + (m - k') ≤ g → i' ≤ n → k' ≤ m → i + k + 1 ≤ i' + k' → (out ++ [x]) ++ Eg (a.drop i') (b.drop k') = Eg a b → ∀ {F : Option Addr → Nat → Nat → Hp → Prop},(∀ p' c' τ',BH.Ak R p n c q m d p' (n5 + 1) c' (i' : Int) (k' : Int) τ' → F p' (n5 + 1) c' τ') → ∀ bb,τ bb = none → AK prog (Builtin.append_ #[38,38] 38 #[.slice p5 n5 c5,(.slice (aD bb 0) 1 1)]) (Hp.set τ bb (.cells #[.int .i64 x.1,.int .u64 x.2] 50 (0,0))) (CS F) := fun x i' k' h1 h2 h3 h4 h6 {F} hF bb hbb =>
     AP.Hb (vs := [.int .i64 x.1,.int .u64 x.2]) (x := x) Co.mono ho rfl (Co.one τ _ x rfl) rfl (by omega) (fun p' c' τ' Es _ => ⟨_,_,_,rfl,hF p' c' τ' (ih i' k' τ' p' (n5 + 1) c' (out ++ [x]) h1 h2 h3 Es (by omega) h6)⟩) hbb
   by_cases Lv : i < n
   · obtain ⟨x,hx⟩ := hr.ex Lv
     obtain ⟨bb,o,eZ,LM⟩ := Co.at hr hx
     have ix : AG ((i : Int) + 1) := AF Lv hr.big
     by_cases Sn : k < m
     · obtain ⟨y,hy⟩ := hs.ex Sn
       obtain ⟨tj,o',hqe,Mx⟩ := Co.at hs hy
       have iy : AG ((k : Int) + 1) := AF Sn hs.big
       have lx := LM.mono Mo
       have ly := Mx.mono Mo
       rw [An hx,An hy,Gf] at he
       subst eZ
       subst hqe
       refine BH.AX ⟨fun _ => ⟨fun hh => by omega,fun _ => ⟨fun _ => ⟨bb,o,rfl,by unfold In; omega,x.1,by simpa using lx.1,tj,o',rfl,by unfold In; omega,y.1,by simpa using ly.1,fun Az => ?_,fun Ul => ⟨fun hh => by omega,fun _ => ⟨by unfold In; omega,y.1,by simpa using ly.1,by unfold In; omega,x.1,by simpa using lx.1,fun AAj => ?_,fun AOK => ?_⟩⟩⟩,fun hh => by omega⟩⟩,fun hh => by omega⟩
       · rw [if_pos Az] at he
         refine ⟨by unfold In; omega,x.1,x.2,by simpa using lx,push x (i + 1) k (by omega) (by omega) hk (by omega) ?_ fun p' c' τ' hh => ⟨ix,?_⟩⟩
         · rw [An hy,List.append_assoc]; exact he
         · rw [show ((i + 1 : Nat) : Int) = (i : Int) + 1 by omega] at hh; exact hh
       · rw [if_neg Ul,if_pos AAj] at he
         refine ⟨by unfold In; omega,y.1,y.2,by simpa using ly,push y i (k + 1) (by omega) hi (by omega) (by omega) ?_ fun p' c' τ' hh => ⟨iy,?_⟩⟩
         · rw [An hx,List.append_assoc]; exact he
         · rw [show ((k + 1 : Nat) : Int) = (k : Int) + 1 by omega] at hh; exact hh
       · rw [if_neg Ul,if_neg AOK] at he
         refine ⟨by unfold In; omega,x.1,by simpa using lx.1,by unfold In; omega,x.2,by simpa using lx.2.1,by unfold In; omega,y.2,by simpa using ly.2.1,push (x.1,if x.2 < y.2 then y.2 else x.2) (i + 1) (k + 1) (by omega) (by omega) (by omega) (by omega) ?_ fun p' c' τ' hh => ⟨ix,iy,?_⟩⟩
         · rw [List.append_assoc]; exact he
         · rw [show ((i + 1 : Nat) : Int) = (i : Int) + 1 by omega,show ((k + 1 : Nat) : Int) = (k : Int) + 1 by omega] at hh; exact hh
     · have AOL : k = m := by omega
       have lx := LM.mono Mo
       rw [An hx,show b.drop k = [] from List.drop_eq_nil_of_le (by omega),Ej] at he
       subst eZ
       refine BH.AX ⟨fun _ => ⟨fun _ => ⟨bb,o,rfl,by unfold In; omega,x.1,x.2,by simpa using lx,push x (i + 1) k (by omega) (by omega) hk (by omega) ?_ fun p' c' τ' hh => ⟨ix,?_⟩⟩,fun hh => by omega⟩,fun hh => by omega⟩
       · rw [show b.drop k = [] from List.drop_eq_nil_of_le (by omega),Ej,List.append_assoc]; exact he
       · rw [show ((i + 1 : Nat) : Int) = (i : Int) + 1 by omega] at hh; exact hh
   · by_cases Sn : k < m
     · obtain ⟨y,hy⟩ := hs.ex Sn
       obtain ⟨tj,o',hqe,Mx⟩ := Co.at hs hy
       have iy : AG ((k : Int) + 1) := AF Sn hs.big
       have ly := Mx.mono Mo
       rw [An hy,show a.drop i = [] from List.drop_eq_nil_of_le (by omega),Ge] at he
       subst hqe
       have fin : In (k : Int) (m : Int) ∧ ∃ Fc Fe,Au τ tj (o' + Int.toNat (k : Int) * 2) [.int .i64 Fc,.int .u64 Fe] ∧ Al τ fun PU => AK prog (Builtin.append_ #[38,38] 38 #[.slice p5 n5 c5,(.slice (aD PU 0) 1 1)]) (Hp.set τ PU (.cells #[.int .i64 Fc,.int .u64 Fe] 50 (0,0))) (CS fun Xx n99 Xy y => AG ((k : Int) + 1) ∧ BH.Ak R p n c (aD tj o') m d Xx n99 Xy (i : Int) ((k : Int) + 1) y) := by
         refine ⟨by unfold In; omega,y.1,y.2,by simpa using ly,push y i (k + 1) (by omega) hi (by omega) (by omega) ?_ fun p' c' τ' hh => ⟨iy,?_⟩⟩
         · rw [show a.drop i = [] from List.drop_eq_nil_of_le (by omega),Ge,List.append_assoc]; exact he
         · rw [show ((k + 1 : Nat) : Int) = (k : Int) + 1 by omega] at hh; exact hh
       exact BH.AX ⟨fun hh => by omega,fun _ => ⟨fun _ => ⟨fun hh => by omega,fun _ => ⟨fun hh => by omega,fun _ => ⟨fun _ => ⟨tj,o',rfl,fin⟩,fun hh => by omega⟩⟩⟩,fun hh => by omega⟩⟩
     · rw [List.drop_eq_nil_of_le (by omega),List.drop_eq_nil_of_le (by omega),Ej,List.append_nil] at he
       subst he
       exact BH.AX ⟨fun hh => by omega,fun _ => ⟨fun hh => by omega,fun _ => h p5 n5 c5 τ ho⟩⟩
end
end TwW
end
section
namespace TwW
open Go Tw Go.RowKit Go.Proofs.Tryz
section
variable {σ τ : Hp} {R : Rr}
theorem VC {p q : Option Addr} {n c m d : Nat} {a b : List Sr} (hr : Aa 2 Ay σ p n a) (hs : Aa 2 Ay σ q m b) (ma : pI a) (mb : pI b)
   (h : ∀ p' n' c' σ',Aa 2 Ay σ' p' n' (DS a b) → Ext σ σ' → R (.returned (.slice p' n' c')) σ') : Spec prog 40 #[.slice p n c,.slice q m d] σ R := by
 have hn : a.length = n := hr.1
 have hm : b.length = m := hs.1
 have la := ma.len
 have lb := mb.len
 refine BW.start ?_
 suffices H : ∀ g i k : Nat,∀ (τ : Hp) (p5 : Option Addr) (n5 c5 : Nat) (out : List Sr),(n - i) + (m - k) ≤ g → i ≤ n → k ≤ m → AP 2 Ay σ τ p5 n5 c5 out → n5 ≤ i + k → out ++ DS (a.drop i) (b.drop k) = DS a b → BW.Ak R p n c q m d p5 n5 c5 (i : Int) (k : Int) τ from
   H (n + m) 0 0 σ none 0 0 [] (by omega) (Nat.zero_le _) (Nat.zero_le _) (AP.nil (.refl _)) (Nat.le_refl _) (by simp)
 intro g
 induction g with
 | zero =>
   intro i k τ p5 n5 c5 out hg hi hk ho h5 he
   rw [List.drop_eq_nil_of_le (by omega),List.drop_eq_nil_of_le (by omega),GQ,List.append_nil] at he
   subst he
   exact BW.AX ⟨fun hh => by omega,fun _ => ⟨fun hh => by omega,fun _ => h p5 n5 c5 τ (ho.rd Ay.mono) ho.up⟩⟩
 | succ g ih =>
   intro i k τ p5 n5 c5 out hg hi hk ho h5 he
   have Mo := ho.up
   have left : ∀ x,a[i]? = some x → out ++ x :: DS (a.drop (i + 1)) (b.drop k) = DS a b → ∀ v : Int,v < 0 → BW.HA R p n c q m d p5 n5 c5 (i : Int) (k : Int) v τ := fun x hx QR v hv => by
     have Lv : i < n := by have := (List.getElem?_eq_some_iff.1 hx).1; omega
     obtain ⟨bb,o,p1,n1,c1,q1,m1,d1,eZ,Ja,h1,h2,h3⟩ := Ay.at hr hx
     obtain ⟨z1,z2⟩ := ma.each x (List.mem_of_getElem? hx)
     have tL : x.ls.length = n1 := h1.1
     have du : x.ps.length = m1 := h2.1
     subst eZ
     refine BW.HO ⟨fun _ => ⟨bb,o,rfl,by unfold In; omega,_,_,_,_,_,_,by simpa using Ja.mono Mo,eO ho (by omega) (h1.mono BT.mono Mo) (h2.mono Co.mono Mo) (by omega) (by omega) fun p' c' τ' Es Kh => ⟨AF Lv hr.big,?_⟩⟩,fun hh => absurd hv hh⟩
     have := ih (i + 1) k τ' p' (n5 + 1) c' (out ++ [x]) (by omega) (by omega) hk Es (by omega) (by rw [List.append_assoc]; exact QR)
     rw [show ((i + 1 : Nat) : Int) = (i : Int) + 1 by omega] at this
     exact this
   have right : ∀ x,b[k]? = some x → out ++ x :: DS (a.drop i) (b.drop (k + 1)) = DS a b → ∀ v : Int,0 < v → BW.HA R p n c q m d p5 n5 c5 (i : Int) (k : Int) v τ := fun x hx QR v hv => by
     have Sn : k < m := by have := (List.getElem?_eq_some_iff.1 hx).1; omega
     obtain ⟨bb,o,p1,n1,c1,q1,m1,d1,hqe,Ja,h1,h2,h3⟩ := Ay.at hs hx
     obtain ⟨z1,z2⟩ := mb.each x (List.mem_of_getElem? hx)
     have tL : x.ls.length = n1 := h1.1
     have du : x.ps.length = m1 := h2.1
     subst hqe
     refine BW.HO ⟨fun hh => by omega,fun _ => ⟨fun _ => ⟨bb,o,rfl,by unfold In; omega,_,_,_,_,_,_,by simpa using Ja.mono Mo,eO ho (by omega) (h1.mono BT.mono Mo) (h2.mono Co.mono Mo) (by omega) (by omega) fun p' c' τ' Es Kh => ⟨AF Sn hs.big,?_⟩⟩,fun hh => absurd hv hh⟩⟩
     have := ih i (k + 1) τ' p' (n5 + 1) c' (out ++ [x]) (by omega) hi (by omega) Es (by omega) (by rw [List.append_assoc]; exact QR)
     rw [show ((k + 1 : Nat) : Int) = (k : Int) + 1 by omega] at this
     exact this
   by_cases Lv : i < n
   · obtain ⟨x,hx⟩ := hr.ex Lv
     by_cases Sn : k < m
     · obtain ⟨y,hy⟩ := hs.ex Sn
       obtain ⟨bb,o,p1,n1,c1,q1,m1,d1,eZ,Ja,h1,h2,h3⟩ := Ay.at hr hx
       obtain ⟨tj,o',p1',n1',c1',q1',m1',d1',hqe,ak,qH,h2',h3'⟩ := Ay.at hs hy
       obtain ⟨z1,z2⟩ := ma.each x (List.mem_of_getElem? hx)
       obtain ⟨z1',z2'⟩ := mb.each y (List.mem_of_getElem? hy)
       have tL : x.ls.length = n1 := h1.1
       have du : x.ps.length = m1 := h2.1
       have AUP : y.ps.length = m1' := h2'.1
       rw [An hx,An hy,LZ] at he
       have L := left x hx
       have Rr := right y hy
       have lx := Ja.mono Mo
       have ly := ak.mono Mo
       subst eZ
       subst hqe
       refine BW.AX ⟨fun _ => ⟨fun hh => by omega,fun _ => ⟨fun hh => by omega,fun _ => ⟨bb,o,rfl,by unfold In; omega,p1,n1,c1,by simpa using lx.1,tj,o',rfl,by unfold In; omega,p1',n1',c1',by simpa using ly.1,O3 (h1.mono BT.mono Mo) (qH.mono BT.mono Mo) ⟨_,rfl,?_⟩⟩⟩⟩,fun hh => by omega⟩
       by_cases c1 : Aj x.ls y.ls < 0
       · rw [if_pos c1] at he
         exact L (by rw [An hy]; exact he) _ c1
       rw [if_neg c1] at he
       by_cases c2 : 0 < Aj x.ls y.ls
       · rw [if_pos c2] at he
         exact Rr (by rw [An hx]; exact he) _ c2
       rw [if_neg c2] at he
       refine BW.HO ⟨fun hh => absurd hh c1,fun _ => ⟨fun hh => absurd hh c2,fun _ => ⟨bb,o,rfl,by unfold In; omega,p1,n1,_,by simpa using lx.1,by unfold In; omega,q1,m1,d1,by simpa using lx.2.1,tj,o',rfl,by unfold In; omega,q1',m1',d1',by simpa using ly.2.1,fun b41 h41 => DP (h1.mono BT.mono Mo) (by omega) (fun p4 c4 τ1 JS x1 => ⟨_,_,_,rfl,?_,?_⟩) h41⟩⟩⟩
       · intro kb Gj ko hko
         have k1 : τ bb ≠ none := fun e => by have := lx.1; simp [Hp.ld,e] at this
         have k2 : τ tj ≠ none := fun e => by have := ly.1; simp [Hp.ld,e] at this
         have BD : kb ≠ b41 := fun e => by
           simp only [List.mem_cons,List.not_mem_nil,or_false] at Gj
           rcases Gj with e2 | e2
           · rw [← e2,e] at k2; exact k2 h41
           · rw [← e2,e] at k1; exact k1 h41
         rw [Hp.AO BD] at hko
         exact x1 kb ko hko
       · have iN := Mo.trans x1
         refine bo (h2.mono Co.mono iN) (h2'.mono Co.mono iN) (by omega) (by omega) fun p6 n6 c6 ρ E2 => ⟨_,_,_,rfl,fun Ms h60 => ?_⟩
         have oQ : n6 ≤ c6 := by obtain ⟨cs,Ov,_⟩ := E2.1.2; exact A8.cap Ov
         have Ct := ho.mono Ay.mono (x1.trans E2.up)
         have eT := ho.new (x1.trans E2.up)
         have rl : Cq (ρ.del p5) p4 n1 x.ls := (JS.rd BT.mono).mono BT.mono ((Ext.EL E2.up).trans eT)
         have rp : Aa 2 Co (ρ.del p5) p6 n6 (Eg x.ps y.ps) := (AP.eQ (fun _ _ _ _ h => h) E2).mono Co.mono ((Ext.CA x1).trans eT)
         have hee : Ay (ρ.del p5) [.slice p4 n1 c4,.slice p6 n6 c6] ⟨x.ls,Eg x.ps y.ps⟩ := ⟨p4,n1,c4,p6,n6,c6,rfl,rl,rp,oQ⟩
         refine AP.Hb Ay.mono Ct rfl (Ay.one _ _ _ hee) hee (by omega) (fun p' c' τ' Es _ => ⟨_,_,_,rfl,AF Lv hr.big,AF Sn hs.big,?_⟩) h60
         have := ih (i + 1) (k + 1) τ' p' (n5 + 1) c' (out ++ [⟨x.ls,Eg x.ps y.ps⟩]) (by omega) (by omega) (by omega) Es (by omega) (by rw [List.append_assoc]; exact he)
         rw [show ((i + 1 : Nat) : Int) = (i : Int) + 1 by omega,show ((k + 1 : Nat) : Int) = (k : Int) + 1 by omega] at this
         exact this
     · have AOL : k = m := by omega
       rw [An hx,show b.drop k = [] from List.drop_eq_nil_of_le (by omega),Kx] at he
       exact BW.AX ⟨fun _ => ⟨fun _ => left x hx (by rw [show b.drop k = [] from List.drop_eq_nil_of_le (by omega),Kx]; exact he) (-1) (by decide),fun hh => by omega⟩,fun hh => by omega⟩
   · by_cases Sn : k < m
     · obtain ⟨y,hy⟩ := hs.ex Sn
       rw [An hy,show a.drop i = [] from List.drop_eq_nil_of_le (by omega),GQ] at he
       exact BW.AX ⟨fun hh => by omega,fun _ => ⟨fun _ => ⟨fun hh => by omega,fun _ => ⟨fun _ => right y hy (by rw [show a.drop i = [] from List.drop_eq_nil_of_le (by omega),GQ]; exact he) 1 (by decide),fun hh => by omega⟩⟩,fun hh => by omega⟩⟩
     · rw [List.drop_eq_nil_of_le (by omega),List.drop_eq_nil_of_le (by omega),GQ,List.append_nil] at he
       subst he
       exact BW.AX ⟨fun hh => by omega,fun _ => ⟨fun hh => by omega,fun _ => h p5 n5 c5 τ (ho.rd Ay.mono) ho.up⟩⟩
theorem Y1 {p q : Option Addr} {n c m d lb : Nat} {a b : List Sr} {T : TypeId} (hlb : σ lb = some (.cells #[.slice p n c,.slice q m d] T (0,0))) (hr : Aa 2 Ay σ p n a) (hs : Aa 2 Ay σ q m b) (ma : pI a) (mb : pI b) (oa : BN none a = true)
   (h : BN none b = true → ∀ p' n' c' σ',Aa 2 Ay σ' p' n' (DS a b) → Ext σ σ' → R (.returned (.tuple #[.slice p' n' c',.int .i64 0])) σ') (h' : BN none b = false → R (.returned (.tuple #[.slice none 0 0,.int .i64 100])) σ) : Spec prog 17 #[.slice (aD lb 0) 2 2] σ R := by
 have l0 : Hp.ld σ ⟨lb,0,none⟩ = some (.slice p n c) := Ai hlb rfl
 have l1 : Hp.ld σ ⟨lb,1,none⟩ = some (.slice q m d) := Ai hlb rfl
 refine Bl.start (Bl.As ⟨fun _ => ⟨lb,0,rfl,by decide,p,n,c,l0,N5 hr oa ⟨_,rfl,fun hh => absurd rfl hh,fun _ => ⟨by unfold AG; omega,?_⟩⟩⟩,fun hh => absurd (by decide) hh⟩)
 cases ob : BN none b with
 | false => exact Bl.As ⟨fun _ => ⟨lb,0,rfl,by decide,q,m,d,l1,Y0 hs ⟨_,rfl,fun hh => by rw [ob]; exact h' ob,fun hh => by rw [ob] at hh; exact absurd (by decide) hh⟩⟩,fun hh => absurd (by decide) hh⟩
 | true =>
   refine Bl.As ⟨fun _ => ⟨lb,0,rfl,by decide,q,m,d,l1,N5 hs ob ⟨_,rfl,fun hh => absurd rfl hh,fun _ => ⟨by unfold AG; omega,?_⟩⟩⟩,fun hh => absurd (by decide) hh⟩
   refine Bl.As ⟨fun hh => absurd hh (by decide),fun _ => ?_⟩
   refine Bl.Vm ⟨fun _ => ⟨lb,0,rfl,by decide,p,n,c,l0,?_⟩,fun hh => absurd (by decide) hh⟩
   refine VC (a := []) Aa.nil hr ⟨by decide,fun s hs => (by cases hs)⟩ ma fun p1 n1 c1 σ1 E6 CO => ⟨_,_,_,rfl,by unfold AG; omega,?_⟩
   rw [GQ] at E6
   refine Bl.Vm ⟨fun _ => ⟨lb,0,rfl,by decide,q,m,d,by simpa using CO.ld l1,?_⟩,fun hh => absurd (by decide) hh⟩
   refine VC E6 (hs.mono Ay.mono CO) ma mb fun p2 n2 c2 σ2 IM A1 => ⟨_,_,_,rfl,by unfold AG; omega,?_⟩
   exact Bl.Vm ⟨fun hh => absurd hh (by decide),fun _ => h ob p2 n2 c2 σ2 IM (CO.trans A1)⟩
end
end TwW
end
section
namespace TwW
open Go Tw Go.RowKit Go.Proofs.Tryz
theorem WW : ∀ {T : List Nd} {st r : List Int},DA T st = some r → ∀ n ∈ T,Dh n = true ∧ II Cj n.mt = 0
 | [],_,_,_,n,hn => by cases hn
 | x :: T,st,r,h,n,hn => by
   rw [DA] at h
   by_cases h0 : (BQ x st).1 = 0
   · rw [if_pos h0] at h
     rcases List.mem_cons.1 hn with rfl | hn
     · unfold BQ at h0
       by_cases h1 : Dh n = false ∨ (st.length : Int) < n.parts
       · rw [if_pos h1] at h0; exact absurd h0 (by show ¬ (190 : Int) = 0; decide)
       · rw [if_neg h1] at h0
         by_cases h2 : II Cj n.mt ≠ 0
         · rw [if_pos h2] at h0; exact absurd h0 (by show ¬ (193 : Int) = 0; decide)
         · exact ⟨by cases hq : Dh n with
             | true => rfl
             | false => exact absurd (.inl hq) h1,Decidable.not_not.1 h2⟩
     · exact WW h n hn
   · rw [if_neg h0] at h; cases h
theorem AIR {n : Nd} (h : Dh n = true) : (n.kind = 2 → 0 ≤ n.back ∧ n.back ≤ 2147483647 ∧ n.width = 0) ∧ (n.kind = 3 → 0 ≤ n.back ∧ n.back ≤ 2147483647 ∧ 0 ≤ n.width ∧ n.width ≤ 2147483647) := by
 have hk := Gz h
 have hp := LO h
 unfold E5 at hk
 unfold FL at hp
 have hp := of_decide_eq_true hp
 constructor
 · intro h2
   rw [if_neg (by omega),if_pos h2] at hk
   have hw := hp.2.2.2.1
   unfold BL at hw
   rw [if_neg (by omega),if_pos h2] at hw
   unfold JT at hk
   simp only [Bool.and_eq_true,decide_eq_true_eq] at hk
   exact ⟨by omega,by omega,hw⟩
 · intro h3
   rw [if_neg (by omega),if_neg (by omega),if_pos h3] at hk
   unfold JT at hk
   simp only [Bool.and_eq_true,decide_eq_true_eq] at hk
   omega
abbrev ABM (T : List Nd) (IW : Int) : Prop := ∀ n ∈ T,(n.kind = 2 → 0 ≤ n.back ∧ n.back + 300 ≤ IW) ∧ (n.kind = 3 → 0 ≤ n.back ∧ n.back + n.width ≤ IW)
section
variable {σ : Hp} {R : Rr}
theorem Y2 {p : Option Addr} {n c : Nat} {T : List Nd} {kk : Int} (hr : Aa 10 EI σ p n T) (hn : n ≤ 1000000000) (htx : ∀ x ∈ T,x.text.size ≤ 4611686018427387904) (tH : Jb T = some kk)
   (h : ∀ IW x σ',ABM T IW → 0 ≤ IW → IW ≤ 4294967294 → Ext σ σ' → R (.returned (.tuple #[.int .i64 IW,.int .i64 x])) σ') : Spec prog 15 #[.slice p n c] σ R := by
 have hl : T.length = n := hr.1
 have hf := WW (Kr tH).1
 refine Ad.start (Ml hr hn htx (fun k σ1 hk hx => ⟨_,_,_,rfl,fun hh => absurd rfl hh,fun _ => ?_⟩) fun k j e σ' hk => by rw [tH] at hk; cases hk)
 have E6 := hr.mono EI.mono hx
 suffices H : ∀ (g i : Nat) (IW x8 : Int) (t9 : Bool),n - i = g → i ≤ n → ABM (T.take i) IW → 0 ≤ IW → IW ≤ 4294967294 → Ad.rv R IW x8 t9 p n c (n : Int) (i : Int) σ1 from H n 0 0 0 false rfl (Nat.zero_le _) (fun n hn => by cases hn) (Int.le_refl _) (by decide)
 intro g
 induction g with
 | zero =>
   intro i IW x8 t9 hg hi h1 h2 h3
   rw [List.take_of_length_le (by omega)] at h1
   exact Ad.NV ⟨fun hh => by omega,fun _ => h IW x8 σ1 h1 h2 h3 hx⟩
 | succ g ih =>
   intro i IW x8 t9 hg hi h1 h2 h3
   have BI : i < n := by omega
   obtain ⟨x,hxi⟩ := E6.ex BI
   have Ux := List.mem_of_getElem? hxi
   obtain ⟨b,o,p1,k1,c1,q1,m1,d1,rfl,nJ,_,_⟩ := EI.at E6 hxi
   obtain ⟨n2,n3⟩ := AIR (hf x Ux).1
   have next : ∀ bp x8' t9',IW ≤ bp → bp ≤ 4294967294 → (x.kind = 2 → x.back + 300 ≤ bp) → (x.kind = 3 → x.back + x.width ≤ bp) → Ad.ry R bp x8' t9' (aD b o) n c (n : Int) (i : Int) σ1 := fun bp x8' t9' l1 l2 l3 l4 => by
     have := ih (i + 1) bp x8' t9' (by omega) (by omega) (fun y hy => by
       rw [AS hxi] at hy
       rcases List.mem_append.1 hy with hy | hy
       · obtain ⟨g1,g2⟩ := h1 y hy
         exact ⟨fun hk => ⟨(g1 hk).1,by have := (g1 hk).2; omega⟩,fun hk => ⟨(g2 hk).1,by have := (g2 hk).2; omega⟩⟩
       · obtain rfl := List.mem_singleton.1 hy
         exact ⟨fun hk => ⟨(n2 hk).1,l3 hk⟩,fun hk => ⟨(n3 hk).1,l4 hk⟩⟩) (by omega) l2
     rw [show ((i + 1 : Nat) : Int) = (i : Int) + 1 by omega] at this
     exact Ad.Vq ⟨AF BI E6.big,this⟩
   have pq : ∀ {AOO AOP : Int} {AOQ : ByteArray} {AOR : Option Addr} {y2 y3 : Nat} {y4 y5 y6 : Int} {y7 : Option Addr} {y8 y9 : Nat} {y10 : Bool} {y12 : Int} (v : Int),v ≤ 4294967294 → (x.kind = 2 → x.back + 300 ≤ v) → (x.kind = 3 → x.back + x.width ≤ v) → Ad.fc R IW x8 t9 AOO AOP AOQ AOR y2 y3 y4 y5 y6 y7 y8 y9 y10 y12 v (aD b o) n c (n : Int) (i : Int) σ1 := fun v l1 l2 l3 => by
     have e : IW ≤ (if IW < v then v else IW) ∧ (if IW < v then v else IW) ≤ 4294967294 ∧ v ≤ (if IW < v then v else IW) := by split <;> omega
     have go : ∀ z,Ad.Hg R (if IW < v then v else IW) z (aD b o) n c (n : Int) (i : Int) σ1 := fun z => Ad.HN (next _ _ _ e.1 e.2.1 (fun hk => Int.le_trans (l2 hk) e.2.2) fun hk => Int.le_trans (l3 hk) e.2.2)
     exact Ad.dC ⟨fun _ => go _,fun _ => ⟨fun _ => go _,fun _ => go _⟩⟩
   refine Ad.NV ⟨fun _ => ⟨b,o,rfl,by unfold In; omega,_,_,_,_,_,_,_,_,_,_,_,_,_,_,by simpa using nJ,fun _ => ⟨fun k2 => ⟨fun k3 => next IW x8 t9 (Int.le_refl _) h3 (fun hk => absurd hk k2) (fun hk => absurd hk k3),fun k3 => ?_⟩,fun k2 => ?_⟩⟩,fun hh => by omega⟩
   · have k3 := Decidable.not_not.1 k3
     obtain ⟨a1,a2,a3,a4⟩ := n3 k3
     exact ⟨by unfold AG; omega,fun hk => absurd hk k2,fun _ => pq _ (by omega) (fun hk => absurd hk k2) fun _ => Int.le_refl _⟩
   · have k2 := Decidable.not_not.1 k2
     obtain ⟨a1,a2,a3⟩ := n2 k2
     exact ⟨by unfold AG; omega,fun _ => ⟨by unfold AG; omega,pq _ (by omega) (fun _ => by omega) fun hk => by omega⟩,fun hk => absurd k2 hk⟩
end
end TwW
end
section
namespace TwW
open Go Tw
theorem WX : ∀ {l : List Sr} {q : Option (List Lb)},(∀ s ∈ l,Cr s.ls = 0 ∧ GK s.ps = true) → l.Pairwise ltS → (∀ k,q = some k → ∀ s ∈ l,Aj k s.ls < 0) → BN q l = true
 | [],q,_,_,_ => by cases q <;> rfl
 | e :: l,q,h1,h2,h3 => by
   have h2 := List.pairwise_cons.1 h2
   rw [FK]
   simp only [Bool.and_eq_true,decide_eq_true_eq]
   refine ⟨⟨h1 e (by simp),?_⟩,WX (fun u hu => h1 u (List.mem_cons_of_mem _ hu)) h2.2 fun k hk u hu => by cases hk; exact h2.1 u hu⟩
   cases q with
   | none => rfl
   | some k => exact decide_eq_true (h3 k rfl e (by simp))
abbrev ltP (x y : Pt) : Prop := x.1 < y.1
theorem pR {ps : List Pt} (h0 : ps ≠ []) (h : ps.Pairwise ltP) : GK ps = true := (Ef _).2 ⟨List.length_pos_iff.2 h0,fun j a b ha hb => by
 obtain ⟨i1,i2⟩ := List.getElem?_eq_some_iff.1 ha
 obtain ⟨k1,k2⟩ := List.getElem?_eq_some_iff.1 hb
 have := List.pairwise_iff_getElem.1 h j (j + 1) i1 k1 (by omega)
 rwa [i2,k2] at this⟩
theorem bq {ps : List Pt} (h : GK ps = true) : ps ≠ [] ∧ ps.Pairwise ltP := by
 refine ⟨fun e => (by rw [e] at h; cases h),?_⟩
 have hs := ((Ef _).1 h).2
 refine List.pairwise_iff_getElem.2 fun i j hi hj M1 => ?_
 have key : ∀ d i (hi : i < ps.length) (hj : i + d + 1 < ps.length),ps[i].1 < ps[i + d + 1].1 := fun d => by
   induction d with
   | zero => exact fun i hi hj => hs i _ _ (List.getElem?_eq_getElem hi) (List.getElem?_eq_getElem hj)
   | succ d ih =>
     intro i hi hj
     have h1 := ih i hi (by omega)
     have h2 := hs (i + d + 1) _ _ (List.getElem?_eq_getElem (by omega)) (List.getElem?_eq_getElem (by omega : i + d + 1 + 1 < ps.length))
     have e : i + (d + 1) + 1 = i + d + 1 + 1 := by omega
     simp only [e]
     omega
 have := key (j - i - 1) i hi (by omega)
 have e : i + (j - i - 1) + 1 = j := by omega
 simp only [e] at this
 exact this
theorem IY : ∀ (a b : List Pt),∀ z ∈ Eg a b,(∃ x ∈ a,z.1 = x.1) ∨ ∃ y ∈ b,z.1 = y.1
 | [],b => fun z hz => by rw [Ge] at hz; exact .inr ⟨z,hz,rfl⟩
 | x :: a,[] => fun z hz => by rw [Ej] at hz; exact .inl ⟨z,hz,rfl⟩
 | x :: a,y :: b => fun z hz => by
   rw [Gf] at hz
   split at hz
   · rcases List.mem_cons.1 hz with rfl | hz
     · exact .inl ⟨_,List.mem_cons_self ..,rfl⟩
     · rcases IY a (y :: b) z hz with ⟨w,h1,h2⟩ | h1
       · exact .inl ⟨w,List.mem_cons_of_mem _ h1,h2⟩
       · exact .inr h1
   · split at hz
     · rcases List.mem_cons.1 hz with rfl | hz
       · exact .inr ⟨_,List.mem_cons_self ..,rfl⟩
       · rcases IY (x :: a) b z hz with h1 | ⟨w,h1,h2⟩
         · exact .inl h1
         · exact .inr ⟨w,List.mem_cons_of_mem _ h1,h2⟩
     · rcases List.mem_cons.1 hz with rfl | hz
       · exact .inl ⟨x,List.mem_cons_self ..,rfl⟩
       · rcases IY a b z hz with ⟨w,h1,h2⟩ | ⟨w,h1,h2⟩
         · exact .inl ⟨w,List.mem_cons_of_mem _ h1,h2⟩
         · exact .inr ⟨w,List.mem_cons_of_mem _ h1,h2⟩
termination_by a b => a.length + b.length
theorem La : ∀ (a b : List Pt),a.Pairwise ltP → b.Pairwise ltP → (Eg a b).Pairwise ltP
 | [],b,_,hb => by rw [Ge]; exact hb
 | x :: a,[],ha,_ => by rw [Ej]; exact ha
 | x :: a,y :: b,ha,hb => by
   obtain ⟨a1,a2⟩ := List.pairwise_cons.1 ha
   obtain ⟨b1,b2⟩ := List.pairwise_cons.1 hb
   rw [Gf]
   split
   · rename_i h
     refine List.pairwise_cons.2 ⟨fun z hz => ?_,La a (y :: b) a2 hb⟩
     rcases IY a (y :: b) z hz with ⟨w,h1,h2⟩ | ⟨w,h1,h2⟩
     · show x.1 < z.1
       rw [h2]; exact a1 w h1
     · show x.1 < z.1
       rw [h2]
       rcases List.mem_cons.1 h1 with rfl | h1
       · exact h
       · have : y.1 < w.1 := b1 w h1
         omega
   · rename_i h
     split
     · rename_i h'
       refine List.pairwise_cons.2 ⟨fun z hz => ?_,La (x :: a) b ha b2⟩
       rcases IY (x :: a) b z hz with ⟨w,h1,h2⟩ | ⟨w,h1,h2⟩
       · show y.1 < z.1
         rw [h2]
         rcases List.mem_cons.1 h1 with rfl | h1
         · exact h'
         · have : x.1 < w.1 := a1 w h1
           omega
       · show y.1 < z.1
         rw [h2]; exact b1 w h1
     · rename_i h'
       refine List.pairwise_cons.2 ⟨fun z hz => ?_,La a b a2 b2⟩
       rcases IY a b z hz with ⟨w,h1,h2⟩ | ⟨w,h1,h2⟩
       · show x.1 < z.1
         rw [h2]; exact a1 w h1
       · show x.1 < z.1
         have : y.1 < w.1 := b1 w h1
         rw [h2]; omega
termination_by a b => a.length + b.length
theorem N9 : ∀ (a b : List Pt),∀ z ∈ Eg a b,(∃ x ∈ a,z.2 = x.2) ∨ ∃ y ∈ b,z.2 = y.2
 | [],b => fun z hz => by rw [Ge] at hz; exact .inr ⟨z,hz,rfl⟩
 | x :: a,[] => fun z hz => by rw [Ej] at hz; exact .inl ⟨z,hz,rfl⟩
 | x :: a,y :: b => fun z hz => by
   rw [Gf] at hz
   split at hz
   · rcases List.mem_cons.1 hz with rfl | hz
     · exact .inl ⟨_,List.mem_cons_self ..,rfl⟩
     · rcases N9 a (y :: b) z hz with ⟨w,h1,h2⟩ | h1
       · exact .inl ⟨w,List.mem_cons_of_mem _ h1,h2⟩
       · exact .inr h1
   · split at hz
     · rcases List.mem_cons.1 hz with rfl | hz
       · exact .inr ⟨_,List.mem_cons_self ..,rfl⟩
       · rcases N9 (x :: a) b z hz with h1 | ⟨w,h1,h2⟩
         · exact .inl h1
         · exact .inr ⟨w,List.mem_cons_of_mem _ h1,h2⟩
     · rcases List.mem_cons.1 hz with rfl | hz
       · dsimp only
         split
         · exact .inr ⟨y,List.mem_cons_self ..,rfl⟩
         · exact .inl ⟨x,List.mem_cons_self ..,rfl⟩
       · rcases N9 a b z hz with ⟨w,h1,h2⟩ | ⟨w,h1,h2⟩
         · exact .inl ⟨w,List.mem_cons_of_mem _ h1,h2⟩
         · exact .inr ⟨w,List.mem_cons_of_mem _ h1,h2⟩
termination_by a b => a.length + b.length
theorem tn {a b : List Pt} (h : a ≠ []) : Eg a b ≠ [] := by
 cases a with
 | nil => exact absurd rfl h
 | cons x a =>
   cases b with
   | nil => rw [Ej]; exact h
   | cons y b =>
     rw [Gf]
     split
     · exact List.cons_ne_nil _ _
     · split <;> exact List.cons_ne_nil _ _
theorem Ek : ∀ (a b : List Sr),∀ s ∈ DS a b,s ∈ a ∨ s ∈ b ∨ ∃ x ∈ a,∃ y ∈ b,s = ⟨x.ls,Eg x.ps y.ps⟩ ∧ x.ls = y.ls
 | [],b => fun s hs => by rw [GQ] at hs; exact .inr (.inl hs)
 | x :: a,[] => fun s hs => by rw [Kx] at hs; exact .inl hs
 | x :: a,y :: b => fun s hs => by
   rw [LZ] at hs
   split at hs
   · rcases List.mem_cons.1 hs with rfl | hs
     · exact .inl (List.mem_cons_self ..)
     · rcases Ek a (y :: b) s hs with h1 | h1 | ⟨w,h1,v,h2,h3⟩
       · exact .inl (List.mem_cons_of_mem _ h1)
       · exact .inr (.inl h1)
       · exact .inr (.inr ⟨w,List.mem_cons_of_mem _ h1,v,h2,h3⟩)
   · rename_i h
     split at hs
     · rcases List.mem_cons.1 hs with rfl | hs
       · exact .inr (.inl (List.mem_cons_self ..))
       · rcases Ek (x :: a) b s hs with h1 | h1 | ⟨w,h1,v,h2,h3⟩
         · exact .inl h1
         · exact .inr (.inl (List.mem_cons_of_mem _ h1))
         · exact .inr (.inr ⟨w,h1,v,List.mem_cons_of_mem _ h2,h3⟩)
     · rename_i h'
       rcases List.mem_cons.1 hs with rfl | hs
       · exact .inr (.inr ⟨x,List.mem_cons_self ..,y,List.mem_cons_self ..,rfl,(Af.eq _ _).1 (by omega)⟩)
       · rcases Ek a b s hs with h1 | h1 | ⟨w,h1,v,h2,h3⟩
         · exact .inl (List.mem_cons_of_mem _ h1)
         · exact .inr (.inl (List.mem_cons_of_mem _ h1))
         · exact .inr (.inr ⟨w,List.mem_cons_of_mem _ h1,v,List.mem_cons_of_mem _ h2,h3⟩)
termination_by a b => a.length + b.length
theorem Lc : ∀ (a b : List Sr),a.Pairwise ltS → b.Pairwise ltS → (DS a b).Pairwise ltS
 | [],b,_,hb => by rw [GQ]; exact hb
 | x :: a,[],ha,_ => by rw [Kx]; exact ha
 | x :: a,y :: b,ha,hb => by
   obtain ⟨a1,a2⟩ := List.pairwise_cons.1 ha
   obtain ⟨b1,b2⟩ := List.pairwise_cons.1 hb
   rw [LZ]
   split
   · rename_i h
     refine List.pairwise_cons.2 ⟨fun z hz => ?_,Lc a (y :: b) a2 hb⟩
     rcases Ek a (y :: b) z hz with h1 | h1 | ⟨w,h1,v,h2,h3,_⟩
     · exact a1 z h1
     · rcases List.mem_cons.1 h1 with rfl | h1
       · exact h
       · exact Af.trans _ _ _ h (b1 z h1)
     · subst h3; exact a1 w h1
   · rename_i h
     split
     · rename_i h'
       have h4 : ltS y x := (Af.Tv _ _).2 h'
       refine List.pairwise_cons.2 ⟨fun z hz => ?_,Lc (x :: a) b ha b2⟩
       rcases Ek (x :: a) b z hz with h1 | h1 | ⟨w,h1,v,h2,h3,h5⟩
       · rcases List.mem_cons.1 h1 with rfl | h1
         · exact h4
         · exact Af.trans _ _ _ h4 (a1 z h1)
       · exact b1 z h1
       · subst h3
         show Aj y.ls w.ls < 0
         rw [h5]; exact b1 v h2
     · rename_i h'
       have Sl : x.ls = y.ls := (Af.eq _ _).1 (by omega)
       refine List.pairwise_cons.2 ⟨fun z hz => ?_,Lc a b a2 b2⟩
       rcases Ek a b z hz with h1 | h1 | ⟨w,h1,v,h2,h3,h5⟩
       · exact a1 z h1
       · show Aj x.ls z.ls < 0
         rw [Sl]; exact b1 z h1
       · subst h3; exact a1 w h1
termination_by a b => a.length + b.length
theorem tq {a b : List Sr} (ha : BN none a = true) (hb : BN none b = true) : BN none (DS a b) = true := by
 refine WX (fun s hs => ?_) (Lc a b (Gd ha).2 (Gd hb).2) fun k hk => by cases hk
 rcases Ek a b s hs with h1 | h1 | ⟨x,h1,y,h2,rfl,h3⟩
 · exact CJ ha s h1
 · exact CJ hb s h1
 · obtain ⟨c1,c2⟩ := CJ ha x h1
   obtain ⟨d1,d2⟩ := CJ hb y h2
   obtain ⟨e1,e2⟩ := bq c2
   obtain ⟨f1,f2⟩ := bq d2
   exact ⟨c1,pR (tn e1) (La _ _ e2 f2)⟩
theorem br {ss : List Sr} {g : Sr → Bool} (h : BN none ss = true) : BN none (ss.filter g) = true :=
 WX (fun s hs => CJ h s (List.mem_filter.1 hs).1) ((Gd h).2.sublist List.filter_sublist) fun k hk => by cases hk
theorem tr {ss : List Sr} {lo hi : Int} (h : BN none ss = true) : BN none (WU lo hi ss) = true := by
 refine WX (fun s hs => ?_) ?_ fun k hk => by cases hk
 · obtain ⟨x,hx,h1⟩ := List.mem_filterMap.1 hs
   split at h1
   · cases h1
   · rename_i BD
     cases h1
     obtain ⟨c1,c2⟩ := CJ h x hx
     exact ⟨c1,pR (fun e => BD (List.isEmpty_iff.2 e)) ((bq c2).2.sublist List.filter_sublist)⟩
 · refine List.Pairwise.filterMap _ (fun x y Sl x' Kh y' hy' => ?_) (Gd h).2
   have e1 : x'.ls = x.ls := by
     split at Kh
     · cases Kh
     · cases Kh; rfl
   have e2 : y'.ls = y.ls := by
     split at hy'
     · cases hy'
     · cases hy'; rfl
   show Aj x'.ls y'.ls < 0
   rw [e1,e2]; exact Sl
theorem inst_alike {T : List Nd} {ss bc : List Sr} {t : Int} {L : List El} (h0 : instF T ss t = (0,L)) (Ck : BN none bc = true) (ha : ∀ n ∈ T,(n.kind = 2 → BE FF n bc t = BE FF n ss t) ∧ (n.kind = 3 → Bh FF n bc t = Bh FF n ss t)) : instF T bc t = (0,L) := by
 obtain ⟨hs,_⟩ := inst_ok (T := T) (ss := ss) (t := t) (by rw [h0])
 have e1 : Di T bc = Di T ss := by unfold Di; rw [Ck,hs]
 have e2 := WT (F := FF) (T := T) ha
 rw [← h0]
 unfold instF
 rw [e1,e2]
abbrev Lr : Int := -9223372036854775808
abbrev Ls : Int := 9223372036854775807
def Mp (s : Sr) (n : Nd) : Bool := (decide (n.kind = 2) || decide (n.kind = 3)) && (Hj n.mt Lr Ls s).isSome
def DX (T : List Nd) (s : Sr) : Bool := T.any (Mp s)
theorem tu {ps : List Pt} (h : ∀ p ∈ ps,Lr ≤ p.1 ∧ p.1 ≤ Ls) : F0 Lr Ls ps = ps := List.filter_eq_self.2 fun p hp => by
 rw [decide_eq_true (h p hp).1,decide_eq_true (h p hp).2]; rfl
theorem O4 {T : List Nd} {s : Sr} (h : ∀ p ∈ s.ps,Lr ≤ p.1 ∧ p.1 ≤ Ls) (hg : DX T s = false) {n : Nd} (hn : n ∈ T) (hk : n.kind = 2 ∨ n.kind = 3) : FF.Hi n.mt s.ls = false ∨ s.ps = [] := by
 have h1 := List.any_eq_false.1 hg n hn
 unfold Mp at h1
 have qJ : (decide (n.kind = 2) || decide (n.kind = 3)) = true := by
   rcases hk with hk | hk <;> simp [hk]
 rw [qJ,Bool.true_and] at h1
 unfold Hj at h1
 rw [tu h] at h1
 cases hq : Fg n.mt s.ls with
 | false => exact .inl hq
 | true =>
   rw [hq,if_neg (by decide)] at h1
   cases hp : s.ps with
   | nil => exact .inr rfl
   | cons x l =>
     rw [hp] at h1
     exact absurd rfl h1
theorem Y3 {T : List Nd} {ss others : List Sr} {t IW : Int} {L : List El} (h0 : instF T ss t = (0,L)) (iO : ABM T IW) (hT : ∀ s ∈ ss,∀ p ∈ s.ps,Lr ≤ p.1 ∧ p.1 ≤ Ls) (Wk : ∀ s ∈ others,∀ p ∈ s.ps,Lr ≤ p.1 ∧ p.1 ≤ Ls) (ho : ∀ s ∈ others,DX T s = false) :
   instF T (WU (t - IW + 1) t ss) t = (0,L) ∧ instF T (ss.filter (DX T)) t = (0,L) ∧ (BN none others = true → instF T (DS ss others) t = (0,L)) := by
 obtain ⟨hs,_⟩ := inst_ok (T := T) (ss := ss) (t := t) (by rw [h0])
 refine ⟨inst_alike h0 (tr hs) fun n hn => ⟨fun hk => bg ((iO n hn).1 hk).2 ((iO n hn).1 hk).1,fun hk => iL ((iO n hn).2 hk).2 ((iO n hn).2 hk).1⟩,
   inst_alike h0 (br hs) fun n hn => ⟨fun hk => N6 fun s JK hg => O4 (hT s JK) hg hn (.inl hk),fun hk => Po fun s JK hg => O4 (hT s JK) hg hn (.inr hk)⟩,fun Ov => inst_alike h0 (tq hs Ov) fun n hn => ?_⟩
 have Hi : n.kind = 2 ∨ n.kind = 3 → ∀ s ∈ others,FF.Hi n.mt s.ls = false := fun hk s JK => by
   rcases O4 (Wk s JK) (ho s JK) hn hk with h1 | h1
   · exact h1
   · have := (CJ Ov s JK).2
     rw [h1] at this; cases this
 exact ⟨fun hk => bh (Hi (.inl hk)),fun hk => iM (Hi (.inr hk))⟩
end TwW
end
section
namespace TwW
open Go Tw Go.RowKit Go.Proofs.Tryz
section
variable {σ σ0 τ : Hp} {R : Rr}
theorem instA_spec {p q : Option Addr} {n c m d : Nat} {T : List Nd} {ss : List Sr} {t : Int} (hg : Gl σ) (hr : Aa 10 EI σ p n T) (hs : Aa 2 Ay σ q m ss) (hM : Modest T ss)
   (h : ∀ (σ' : Hp) (p' : Option Addr) (n' c' : Nat),Aa 2 Ay σ' p' n' (iH T ss t) → Ext σ σ' → R (.returned (.tuple #[.slice p' n' c',.int .i64 (instF T ss t).1])) σ') : Spec prog 11 #[.slice p n c,.slice q m d,.int .i64 t] σ R :=
 inst_spec hg hr hs hM (fun τ p' n' c' σ' bs h0 hA hx => by rw [← h0]; exact h σ' p' n' c' hA.rd (hx.trans hA.ext)) fun σ' BD hx => h σ' none 0 0 (by unfold iH; rw [inst_err BD]; exact Aa.nil) hx
structure iP (T : List Nd) (ss more : List Sr) (c1 n1 c3 n3 : Nat) : Prop where
 t : TOk T
 m : Modest T ss
 s : SOk ss
 ms : pI ss
 mm : pI more
 ts : ∀ s ∈ ss,∀ p ∈ s.ps,Lr ≤ p.1 ∧ p.1 ≤ Ls
 tm : ∀ s ∈ more,∀ p ∈ s.ps,Lr ≤ p.1 ∧ p.1 ≤ Ls
 vm : ∀ s ∈ more,∀ p ∈ s.ps,0 ≤ p.2
 lm : ∀ s ∈ more,∀ x ∈ s.ls,x.2.size ≤ 4611686018427387904
 h1 : n1 ≤ c1
 h3 : n3 ≤ c3
 lt : T.length ≤ 1000000000
 sz : more.length ≤ 2000000 ∧ ss.length ≤ 2000000
 pz : (∀ s ∈ ss,s.ps.length ≤ 2000000) ∧ ∀ s ∈ more,s.ps.length ≤ 2000000
theorem eR {ss : List Sr} {s : Sr} (h : pI ss) (hs : s ∈ ss) : pI [s] := ⟨(by show 1 ≤ 10000000; decide),fun x hx => by
 obtain rfl := List.mem_singleton.1 hx
 exact h.each _ hs⟩
theorem drop_one {α : Type} {l : List α} {i : Nat} {x : α} (h : l[i]? = some x) : (l.drop i).take 1 = [x] := by
 rw [An h]; rfl
theorem WY {ms : List Mt} {lo hi : Int} {s : Sr} : (N7 ms lo hi [s]).length = if (Hj ms lo hi s).isSome then 1 else 0 := by
 unfold N7
 rw [List.filterMap_cons,List.filterMap_nil]
 cases Hj ms lo hi s <;> rfl
theorem VD {T : List Nd} {s : Sr} {k : Nat} {x : Nd} (hx : T[k]? = some x) : (T.take (k + 1)).any (Mp s) = ((T.take k).any (Mp s) || Mp s x) := by
 rw [AS hx,List.any_append]
 simp
theorem tw {T : List Nd} {ss : List Sr} {lo hi : Int} (h : Modest T ss) : Modest T (WU lo hi ss) := ⟨h.t,h.tx,Nat.le_trans (List.length_filterMap_le ..) h.s,fun s hs => by
   obtain ⟨x,hx,h1⟩ := List.mem_filterMap.1 hs
   split at h1
   · cases h1
   · cases h1
     exact Nat.le_trans (List.length_filter_le ..) (h.ps x hx),fun s hs p hp => by
   obtain ⟨x,hx,h1⟩ := List.mem_filterMap.1 hs
   split at h1
   · cases h1
   · cases h1
     exact h.nn x hx p (List.mem_filter.1 hp).1⟩
theorem tz {T : List Nd} {ss : List Sr} {g : Sr → Bool} (h : Modest T ss) : Modest T (ss.filter g) := ⟨h.t,h.tx,Nat.le_trans (List.length_filter_le ..) h.s,fun s hs => h.ps s (List.mem_filter.1 hs).1,fun s hs => h.nn s (List.mem_filter.1 hs).1⟩
theorem uA {ss : List Sr} {g : Sr → Bool} (h : SOk ss) : SOk (ss.filter g) := ⟨Nat.le_trans (List.length_filter_le ..) h.s,fun s hs => h.ls s (List.mem_filter.1 hs).1,fun s hs => h.ps s (List.mem_filter.1 hs).1⟩
theorem uB {ss : List Sr} {g : Sr → Bool} (h : pI ss) : pI (ss.filter g) := ⟨Nat.le_trans (List.length_filter_le ..) h.len,fun s hs => h.each s (List.mem_filter.1 hs).1⟩
theorem OA : ∀ (a b : List Sr),(DS a b).length ≤ a.length + b.length
 | [],b => by rw [GQ]; simp
 | x :: a,[] => by rw [Kx]; simp
 | x :: a,y :: b => by
   rw [LZ]
   have h1 := OA a (y :: b)
   have h2 := OA (x :: a) b
   have h3 := OA a b
   simp only [List.length_cons] at *
   split
   · simp only [List.length_cons]; omega
   · split
     · simp only [List.length_cons]; omega
     · simp only [List.length_cons]; omega
termination_by a b => a.length + b.length
theorem uC {T : List Nd} {ss more : List Sr} {c1 n1 c3 n3 : Nat} {g : Sr → Bool} (h : iP T ss more c1 n1 c3 n3) : Modest T (DS ss (more.filter g)) := by
 have hl := OA ss (more.filter g)
 have hf := List.length_filter_le g more
 refine ⟨h.m.t,h.m.tx,by have := h.sz; omega,fun s hs => ?_,fun s hs p hp => ?_⟩
 · rcases Ek _ _ s hs with h1 | h1 | ⟨x,h1,y,h2,rfl,_⟩
   · exact h.m.ps s h1
   · exact (h.mm.each s (List.mem_filter.1 h1).1).2
   · have a1 := h.pz.1 x h1
     have a2 := h.pz.2 y (List.mem_filter.1 h2).1
     have := N8 x.ps y.ps
     show (Eg x.ps y.ps).length ≤ _
     omega
 · rcases Ek _ _ s hs with h1 | h1 | ⟨x,h1,y,h2,rfl,_⟩
   · exact h.m.nn s h1 p hp
   · exact h.vm s (List.mem_filter.1 h1).1 p hp
   · rcases N9 _ _ p hp with ⟨z,h4,h5⟩ | ⟨z,h4,h5⟩
     · rw [h5]; exact h.m.nn x h1 z h4
     · rw [h5]; exact h.vm y (List.mem_filter.1 h2).1 z h4
variable {p0 p1 p3 p9 H9 : Option Addr} {n0 c0 n1 c1 n3 c3 n9 c9 n13 Ic : Nat} {T : List Nd} {ss more : List Sr} {t : Int} {L : List El}
theorem pS (hw : iP T ss more c1 n1 c3 n3) (hv : ∀ n ∈ T,∀ x ∈ n.mt,x.val.size ≤ 100000) (Ja : ∀ s ∈ ss,∀ x ∈ s.ls,x.2.size ≤ 4611686018427387904) (hT : Aa 10 EI σ p0 n0 T) (hs : Aa 2 Ay σ p1 n1 ss)
   (OH : ∀ ρ EA n15 Dt,AP 2 Ay σ ρ EA n15 Dt (ss.filter (DX T)) → AI.aV R p0 n0 c0 p1 n1 c1 t p3 n3 c3 p9 n9 c9 H9 n13 Ic 0 EA n15 Dt none 0 0 0 ρ) :
   ∀ (g i : Nat) (ρ : Hp) (EA : Option Addr) (n15 Dt : Nat),n1 - i = g → i ≤ n1 → AP 2 Ay σ ρ EA n15 Dt ((ss.take i).filter (DX T)) → AI.sD R p0 n0 c0 p1 n1 c1 t p3 n3 c3 p9 n9 c9 H9 n13 Ic 0 EA n15 Dt none 0 0 (i : Int) ρ := by
 have hn : ss.length = n1 := hs.1
 have hnT : T.length = n0 := hT.1
 have hlen := hw.ms.len
 have hc1 := hw.h1
 intro g
 induction g with
 | zero =>
   intro i ρ EA n15 Dt hg hi ho
   rw [List.take_of_length_le (by omega)] at ho
   exact AI.dJ ⟨fun hh => by omega,fun _ => OH ρ EA n15 Dt ho⟩
 | succ g ih =>
   intro i ρ EA n15 Dt hg hi ho
   have BI : i < n1 := by omega
   obtain ⟨s,jG⟩ := hs.ex BI
   have JK := List.mem_of_getElem? jG
   obtain ⟨b1,o1,q1,k1,d1,q2,k2,d2,eZ,D6,h1,h2,h3⟩ := Ay.at hs jG
   have hol : ((ss.take i).filter (DX T)).length = n15 := ho.1.1
   have pO := List.length_filter_le (DX T) (ss.take i)
   rw [List.length_take] at pO
   have next : ∀ ρ' p' n' c',AP 2 Ay σ ρ' p' n' c' ((ss.take (i + 1)).filter (DX T)) → AI.Hg R p0 n0 c0 p1 n1 c1 t p3 n3 c3 p9 n9 c9 H9 n13 Ic 0 p' n' c' none 0 0 (i : Int) ρ' := fun ρ' p' n' c' Es => by
     have := ih (i + 1) ρ' p' n' c' (by omega) (by omega) Es
     rw [show ((i + 1 : Nat) : Int) = (i : Int) + 1 by omega] at this
     exact AI.HN ⟨AF BI hs.big,this⟩
   have step : (ss.take (i + 1)).filter (DX T) = (ss.take i).filter (DX T) ++ (if DX T s then [s] else []) := by
     rw [AS jG,List.filter_append,List.filter_cons,List.filter_nil]
   have loop : ∀ (gk k : Nat) (ρ' : Hp),n0 - k = gk → k ≤ n0 → AP 2 Ay σ ρ' EA n15 Dt ((ss.take i).filter (DX T)) → (T.take k).any (Mp s) = false → AI.Fs R p0 n0 c0 p1 n1 c1 t p3 n3 c3 p9 n9 c9 H9 n13 Ic 0 EA n15 Dt none 0 0 (i : Int) (k : Int) ρ' := by
     intro gk
     induction gk with
     | zero =>
       intro k ρ' hgk hk Es Bc
       rw [List.take_of_length_le (by omega)] at Bc
       refine AI.GF ⟨fun hh => by omega,fun _ => next ρ' EA n15 Dt ?_⟩
       rw [step,if_neg (by show ¬ DX T s = true; unfold DX; rw [Bc]; decide),List.append_nil]
       exact Es
     | succ gk ihk =>
       intro k ρ' hgk hk Es Bc
       have E4 : k < n0 := by omega
       obtain ⟨x,hx⟩ := hT.ex E4
       have Ux := List.mem_of_getElem? hx
       obtain ⟨b,o,m1,l1,e1,m2,l2,e2,hpT,hlT,gh,_⟩ := EI.at hT hx
       have Mo := Es.up
       have lT := hlT.mono Mo
       have skip : ∀ ρ2,Ext ρ' ρ2 → Mp s x = false → AI.Fs R p0 n0 c0 p1 n1 c1 t p3 n3 c3 p9 n9 c9 H9 n13 Ic 0 EA n15 Dt none 0 0 (i : Int) ((k : Int) + 1) ρ2 := fun ρ2 x2 ha => by
         have := ihk (k + 1) ρ2 (by omega) (by omega) (Es.mono Ay.mono x2) (by rw [VD hx,Bc,ha]; rfl)
         rw [show ((k + 1 : Nat) : Int) = (k : Int) + 1 by omega] at this
         exact this
       have ik : AG ((k : Int) + 1) := AF E4 hT.big
       have ii : AG ((i : Int) + 1) := AF BI hs.big
       subst hpT
       subst eZ
       refine AI.GF ⟨fun _ => ⟨b,o,rfl,by unfold In; omega,x.kind,by simpa using lT.1,fun k2' => ?_,fun k2' => ⟨by unfold In; omega,x.kind,by simpa using lT.1,fun k3' => ?_,fun k3' => ⟨ik,skip ρ' (.refl _) (by unfold Mp; rw [decide_eq_false k2',decide_eq_false k3']; rfl)⟩⟩⟩,fun hh => by omega⟩
       all_goals
         have xF : (decide (x.kind = 2) || decide (x.kind = 3)) = true := by
           rw [Bool.or_eq_true,decide_eq_true_eq,decide_eq_true_eq]; omega
         rw [tn1,Int.toNat_natCast,Int.toNat_natCast,Nat.add_sub_cancel_left]
         refine ⟨ii,⟨by omega,by omega,by omega⟩,by unfold In; omega,m1,l1,e1,by simpa using lT.2.2.2.1,JI (ss := [s]) (ms := x.mt) (by have := Aa.sub (hs.mono Ay.mono Mo) (i := i) (m := 1) (by decide) (by omega) (c := c1) hc1; rw [drop_one jG] at this; exact this) (gh.mono JZ.mono Mo) (hv x Ux) (fun y hy => by obtain rfl := List.mem_singleton.1 hy; exact Ja _ JK) (eR hw.ms JK) fun p' n' c' ρ2 hbt x2 => ⟨_,_,_,rfl,?_,?_⟩⟩
         · intro MR
           have Ky := hbt.1
           rw [WY] at Ky
           have ha : Mp s x = true := by
             unfold Mp
             rw [xF,Bool.true_and]
             cases hq : (Hj x.mt Lr Ls s).isSome with
             | true => rfl
             | false =>
               have gL : (Hj x.mt (-9223372036854775808) 9223372036854775807 s).isSome = false := hq
               rw [gL] at Ky
               have : n' = 0 := Ky.symm
               omega
           have Hv : DX T s = true := List.any_eq_true.2 ⟨x,Ux,ha⟩
           have tg := Mo.trans x2
           have BM := Es.mono Ay.mono x2
           refine ⟨b1,o1,rfl,by unfold In; omega,q1,k1,d1,q2,k2,d2,by simpa using D6.mono tg,fun fj AOW => ?_⟩
           have he : Ay (ρ2.del EA) [.slice q1 k1 d1,.slice q2 k2 d2] s := ⟨q1,k1,d1,q2,k2,d2,rfl,h1.mono BT.mono BM.2,h2.mono Co.mono BM.2,h3⟩
           refine AP.Hb Ay.mono BM rfl (Ay.one _ _ _ he) he (by omega) (fun p6 c6 ρ3 Ct _ => ⟨_,_,_,rfl,next ρ3 p6 (n15 + 1) c6 ?_⟩) AOW
           rw [step,if_pos Hv]
           exact Ct
         · intro hz
           refine ⟨ik,skip ρ2 x2 ?_⟩
           have Ky := hbt.1
           rw [WY] at Ky
           unfold Mp
           rw [xF,Bool.true_and]
           cases hq : (Hj x.mt Lr Ls s).isSome with
           | false => rfl
           | true =>
             have gL : (Hj x.mt (-9223372036854775808) 9223372036854775807 s).isSome = true := hq
             rw [gL] at Ky
             have : n' = 1 := Ky.symm
             omega
   exact AI.dJ ⟨fun _ => loop n0 0 ρ rfl (Nat.zero_le _) ho (by rw [List.take_zero]; rfl),fun hh => by omega⟩
end
end TwW
end
section
namespace TwW
open Go Tw Go.RowKit Go.Proofs.Tryz
section
variable {σ σ0 τ : Hp} {R : Rr}
variable {p0 p1 p3 p9 H9 EA : Option Addr} {n0 c0 n1 c1 n3 c3 n9 c9 n13 Ic n15 Dt : Nat} {T : List Nd} {ss more : List Sr} {t : Int} {L : List El}
theorem iQ (hw : iP T ss more c1 n1 c3 n3) (hv : ∀ n ∈ T,∀ x ∈ n.mt,x.val.size ≤ 100000) (hT : Aa 10 EI σ p0 n0 T) (hs : Aa 2 Ay σ p3 n3 more)
   (OH : ∀ ρ Em n16 ER,AP 2 Ay σ ρ Em n16 ER (more.filter fun s => !DX T s) → AI.aV R p0 n0 c0 p1 n1 c1 t p3 n3 c3 p9 n9 c9 H9 n13 Ic 0 EA n15 Dt Em n16 ER (n3 : Int) ρ) :
   ∀ (g i : Nat) (ρ : Hp) (Em : Option Addr) (n16 ER : Nat),n3 - i = g → i ≤ n3 → AP 2 Ay σ ρ Em n16 ER ((more.take i).filter fun s => !DX T s) → AI.aV R p0 n0 c0 p1 n1 c1 t p3 n3 c3 p9 n9 c9 H9 n13 Ic 0 EA n15 Dt Em n16 ER (i : Int) ρ := by
 have hn : more.length = n3 := hs.1
 have hnT : T.length = n0 := hT.1
 have hlen := hw.mm.len
 have hc3 := hw.h3
 intro g
 induction g with
 | zero =>
   intro i ρ Em n16 ER hg hi ho
   rw [List.take_of_length_le (by omega)] at ho
   have : i = n3 := by omega
   subst this
   exact OH ρ Em n16 ER ho
 | succ g ih =>
   intro i ρ Em n16 ER hg hi ho
   have BI : i < n3 := by omega
   obtain ⟨s,jG⟩ := hs.ex BI
   have JK := List.mem_of_getElem? jG
   obtain ⟨b1,o1,q1,k1,d1,q2,k2,d2,eZ,D6,h1,h2,h3⟩ := Ay.at hs jG
   have hol : ((more.take i).filter fun s => !DX T s).length = n16 := ho.1.1
   have pO := List.length_filter_le (fun s => !DX T s) (more.take i)
   rw [List.length_take] at pO
   have next : ∀ ρ' p' n' c',AP 2 Ay σ ρ' p' n' c' ((more.take (i + 1)).filter fun s => !DX T s) → AI.sE R p0 n0 c0 p1 n1 c1 t p3 n3 c3 p9 n9 c9 H9 n13 Ic 0 EA n15 Dt p' n' c' (i : Int) ρ' := fun ρ' p' n' c' Es => by
     have := ih (i + 1) ρ' p' n' c' (by omega) (by omega) Es
     rw [show ((i + 1 : Nat) : Int) = (i : Int) + 1 by omega] at this
     exact AI.sG ⟨AF BI hs.big,this⟩
   have step : ((more.take (i + 1)).filter fun s => !DX T s) = ((more.take i).filter fun s => !DX T s) ++ (if DX T s then [] else [s]) := by
     rw [AS jG,List.filter_append,List.filter_cons,List.filter_nil]
     cases DX T s <;> rfl
   have loop : ∀ (gk k : Nat) (ρ' : Hp) (f : Bool),n0 - k = gk → k ≤ n0 → AP 2 Ay σ ρ' Em n16 ER ((more.take i).filter fun s => !DX T s) → (T.take k).any (Mp s) = f → AI.Xq R p0 n0 c0 p1 n1 c1 t p3 n3 c3 p9 n9 c9 H9 n13 Ic 0 EA n15 Dt Em n16 ER (i : Int) f (k : Int) ρ' := by
     intro gk
     induction gk with
     | zero =>
       intro k ρ' f hgk hk Es Bc
       rw [List.take_of_length_le (by omega)] at Bc
       have Bc : DX T s = f := Bc
       subst eZ
       refine AI.dL ⟨fun hh => by omega,fun _ => ⟨fun hf => ⟨b1,o1,rfl,by unfold In; omega,q1,k1,d1,q2,k2,d2,by simpa using D6.mono Es.up,fun zw AOX => ?_⟩,fun ht => next ρ' Em n16 ER ?_⟩⟩
       · have he : Ay (ρ'.del Em) [.slice q1 k1 d1,.slice q2 k2 d2] s := ⟨q1,k1,d1,q2,k2,d2,rfl,h1.mono BT.mono Es.2,h2.mono Co.mono Es.2,h3⟩
         refine AP.Hb Ay.mono Es rfl (Ay.one _ _ _ he) he (by omega) (fun p6 c6 ρ3 Ct _ => ⟨_,_,_,rfl,next ρ3 p6 (n16 + 1) c6 ?_⟩) AOX
         rw [step,if_neg (by rw [Bc,hf]; decide)]
         exact Ct
       · rw [step,if_pos (by rw [Bc,ht]),List.append_nil]
         exact Es
     | succ gk ihk =>
       intro k ρ' f hgk hk Es Bc
       have E4 : k < n0 := by omega
       obtain ⟨x,hx⟩ := hT.ex E4
       have Ux := List.mem_of_getElem? hx
       obtain ⟨b,o,m1,l1,e1,m2,l2,e2,hpT,hlT,gh,_⟩ := EI.at hT hx
       have Mo := Es.up
       have lT := hlT.mono Mo
       have go : ∀ ρ2 f',Ext ρ' ρ2 → (f || Mp s x) = f' → AI.Xq R p0 n0 c0 p1 n1 c1 t p3 n3 c3 p9 n9 c9 H9 n13 Ic 0 EA n15 Dt Em n16 ER (i : Int) f' ((k : Int) + 1) ρ2 := fun ρ2 f' x2 ha => by
         have := ihk (k + 1) ρ2 f' (by omega) (by omega) (Es.mono Ay.mono x2) (by rw [VD hx,Bc,ha])
         rw [show ((k + 1 : Nat) : Int) = (k : Int) + 1 by omega] at this
         exact this
       have ik : AG ((k : Int) + 1) := AF E4 hT.big
       have ii : AG ((i : Int) + 1) := AF BI hs.big
       subst hpT
       refine AI.dL ⟨fun _ => ⟨fun ht => ⟨ik,go ρ' true (.refl _) (by rw [ht]; rfl)⟩,fun hf => ⟨b,o,rfl,by unfold In; omega,x.kind,by simpa using lT.1,fun k2' => ?_,fun k2' => ⟨by unfold In; omega,x.kind,by simpa using lT.1,fun k3' => ?_,fun k3' => ⟨ik,go ρ' false (.refl _) (by rw [hf]; unfold Mp; rw [decide_eq_false k2',decide_eq_false k3']; rfl)⟩⟩⟩⟩,fun hh => by omega⟩
       all_goals
         have xF : (decide (x.kind = 2) || decide (x.kind = 3)) = true := by
           rw [Bool.or_eq_true,decide_eq_true_eq,decide_eq_true_eq]; omega
         rw [tn1,Int.toNat_natCast,Int.toNat_natCast,Nat.add_sub_cancel_left]
         refine ⟨ii,⟨by omega,by omega,by omega⟩,by unfold In; omega,m1,l1,e1,by simpa using lT.2.2.2.1,JI (ss := [s]) (ms := x.mt) (by have := Aa.sub (hs.mono Ay.mono Mo) (i := i) (m := 1) (by decide) (by omega) (c := c3) hc3; rw [drop_one jG] at this; exact this) (gh.mono JZ.mono Mo) (hv x Ux) (fun y hy => by obtain rfl := List.mem_singleton.1 hy; exact hw.lm _ JK) (eR hw.mm JK) fun p' n' c' ρ2 hbt x2 => ⟨_,_,_,rfl,ik,go ρ2 _ x2 ?_⟩⟩
         have Ky := hbt.1
         rw [WY] at Ky
         rw [hf,Bool.false_or]
         unfold Mp
         rw [xF,Bool.true_and]
         cases hq : (Hj x.mt Lr Ls s).isSome with
         | true =>
           have gL : (Hj x.mt (-9223372036854775808) 9223372036854775807 s).isSome = true := hq
           rw [gL,if_pos rfl] at Ky
           exact (decide_eq_true (by omega)).symm
         | false =>
           have gL : (Hj x.mt (-9223372036854775808) 9223372036854775807 s).isSome = false := hq
           rw [gL,if_neg (by decide)] at Ky
           exact (decide_eq_false (by omega)).symm
   have hi3 : (i : Int) < (n3 : Int) := by omega
   exact AI.dK ⟨fun _ => loop n0 0 ρ false rfl (Nat.zero_le _) ho (by rw [List.take_zero]; rfl),fun hh => absurd hi3 hh⟩
theorem uD (uE : Awk) (hg : Gl σ) (hw : iP T ss more c1 n1 c3 n3) (hT : Aa 10 EI σ p0 n0 T) (hs : Aa 2 Ay σ p1 n1 ss) (ha : Aa 2 Ay σ p9 n9 (AII t L)) (hb : Aa 2 Ay σ H9 n13 (AII t L)) (hc : Aa 2 Ay σ EA n15 (ss.filter (DX T))) {Em : Option Addr} {n16 ER : Nat} (ho : Aa 2 Ay σ Em n16 (more.filter fun s => !DX T s)) (Ck : BN none ss = true)
   (i2 : instF T (ss.filter (DX T)) t = (0,L)) (i3 : BN none (more.filter fun s => !DX T s) = true → instF T (DS ss (more.filter fun s => !DX T s)) t = (0,L)) (hR : ∀ σ',Ext σ σ' → R (.returned (.bool true)) σ') :
   AI.aV R p0 n0 c0 p1 n1 c1 t p3 n3 c3 p9 n9 c9 H9 n13 Ic 0 EA n15 Dt Em n16 ER (n3 : Int) σ := by
 have awk : ∀ {Q : Rr},∀ σ',Ext σ σ' → (∀ σ2,Ext σ σ2 → Q (.returned (.bool true)) σ2) → Spec prog 14 #[] σ' (AA Q (CB fun t26 AH => Q (.returned (.bool t26)) AH)) := fun {Q} σ' hx hq => uE σ' _ (hg.mono hx) fun σ2 A1 => ⟨_,rfl,hq σ2 (hx.trans A1)⟩
 have z : ∀ {P : Prop},((0 : Int) ≠ 0) → P := fun hh => absurd rfl hh
 have no : ∀ {P : Prop},¬ ((0 : Int) = 0) → P := fun hh => absurd rfl hh
 have nf : ∀ {P : Prop},(true = false) → P := fun hh => by cases hh
 refine AI.dK ⟨fun hh => absurd hh (by omega),fun _ => Fk hT hw.t fun p2 c2 σ2 BM => ⟨_,_,_,rfl,?_⟩⟩
 have x2 := BM.up
 refine Nx (hc.mono Ay.mono x2) (uA hw.s) fun p4 c4 σ3 r3 x3 => ⟨_,_,_,rfl,?_⟩
 have X3 := x2.trans x3
 refine instA_spec (hg.mono X3) ((BM.rd EI.mono).mono EI.mono x3) r3 (tz hw.m) fun σ4 p5 n5 c5 r4 x4 => ⟨_,_,_,_,rfl,fun lb hlb => ?_⟩
 have X4 := X3.trans x4
 rw [iH,i2] at r4
 have xl := Ext.set (o := .cells #[.slice p1 n1 c1,.slice Em n16 ER] 23 (0,0)) hlb
 have X5 := X4.trans xl
 refine Y1 (a := ss) (b := more.filter fun s => !DX T s) (Hp.AB _ _ _) (hs.mono Ay.mono X5) (ho.mono Ay.mono X5) hw.ms (uB hw.mm) Ck (fun ob p6 n6 c6 σ6 r6 x6 => ⟨_,_,_,_,rfl,z,fun _ => ?_⟩) fun ob => ⟨_,_,_,_,rfl,fun _ => ?_,fun hh => absurd (by decide) hh⟩
 · have X6 := X5.trans x6
   refine Fk (hT.mono EI.mono X6) hw.t fun p7 c7 σ7 qL => ⟨_,_,_,rfl,?_⟩
   have X7 := X6.trans qL.up
   refine instA_spec (hg.mono X7) (qL.rd EI.mono) (r6.mono Ay.mono qL.up) (uC hw) fun σ8 p8 n8 c8 r8 x8 => ⟨_,_,_,_,rfl,?_⟩
   have X8 := X7.trans x8
   rw [iH,i3 ob] at r8
   rw [i2,i3 ob]
   have Y8 := xl.trans (x6.trans (qL.up.trans x8))
   refine ⟨fun _ => ⟨fun _ => ⟨fun _ => G1 (hb.mono Ay.mono X8) (ha.mono Ay.mono X8) ⟨_,rfl,fun _ => G1 (r4.mono Ay.mono Y8) (ha.mono Ay.mono X8) ⟨_,rfl,fun _ => G1 r8 (ha.mono Ay.mono X8) ⟨_,rfl,fun _ => awk σ8 X8 hR,nf⟩,nf⟩,nf⟩,no⟩,no⟩,no⟩
 · rw [i2]
   exact ⟨fun _ => ⟨fun _ => G1 (hb.mono Ay.mono X5) (ha.mono Ay.mono X5) ⟨_,rfl,fun _ => G1 (r4.mono Ay.mono xl) (ha.mono Ay.mono X5) ⟨_,rfl,fun _ => awk _ X5 hR,nf⟩,nf⟩,no⟩,no⟩
theorem iR {kk : Int} (h : Jb T = some kk) : ∀ n ∈ T,∀ x ∈ n.mt,x.val.size ≤ 100000 := fun n hn x hx => by
 have h1 := (WW (Kr h).1 n hn).2
 unfold II at h1
 split at h1
 · cases h1
 · split at h1
   · rename_i h2
     have := List.all_eq_true.1 h2 x hx
     simp only [Bool.and_eq_true,decide_eq_true_eq] at this
     omega
   · cases h1
theorem WZ (uE : Awk) (hg : Gl σ) (hw : iP T ss more c1 n1 c3 n3) (hT : Aa 10 EI σ p0 n0 T) (hs : Aa 2 Ay σ p1 n1 ss) (hm : Aa 2 Ay σ p3 n3 more) (h : ∀ σ',Ext σ σ' → R (.returned (.bool true)) σ') :
   Spec prog 3 #[.slice p0 n0 c0,.slice p1 n1 c1,.int .i64 t,.slice p3 n3 c3] σ R := by
 have awk : ∀ {Q : Rr},∀ σ',Ext σ σ' → (∀ σ2,Ext σ σ2 → Q (.returned (.bool true)) σ2) → Spec prog 14 #[] σ' (AA Q (CB fun t26 AH => Q (.returned (.bool t26)) AH)) := fun {Q} σ' hx hq => uE σ' _ (hg.mono hx) fun σ2 A1 => ⟨_,rfl,hq σ2 (hx.trans A1)⟩
 have hnT : T.length = n0 := hT.1
 refine AI.start (Fk hT hw.t fun p2 c2 σ2 BM => ⟨_,_,_,rfl,?_⟩)
 have x2 := BM.up
 refine Nx (hs.mono Ay.mono x2) hw.s fun p4 c4 σ3 r3 x3 => ⟨_,_,_,rfl,?_⟩
 have X3 := x2.trans x3
 refine instA_spec (hg.mono X3) ((BM.rd EI.mono).mono EI.mono x3) r3 hw.m fun σ4 p5 n5 c5 r4 x4 => ⟨_,_,_,_,rfl,fun _ => awk σ4 (X3.trans x4) h,fun h0 => ⟨fun _ => awk σ4 (X3.trans x4) h,fun uT => ?_⟩⟩
 have X4 := X3.trans x4
 have h0 : (instF T ss t).1 = 0 := Decidable.not_not.1 h0
 obtain ⟨Ck,AUV⟩ := inst_ok h0
 obtain ⟨⟨kk,tH,_⟩,_⟩ := inst_shape hw.m h0
 obtain ⟨L,hL⟩ : ∃ L,instF T ss t = (0,L) := ⟨(instF T ss t).2,by rw [← h0]⟩
 have htu : t ≤ 1099511627776 := by
   unfold instF at h0
   by_cases hz : Di T ss ≠ 0
   · rw [if_pos hz] at h0; exact absurd h0 hz
   · rw [if_neg hz] at h0
     by_cases ht : ¬ (-1099511627776 ≤ t ∧ t ≤ 1099511627776)
     · rw [if_pos ht] at h0; exact absurd h0 (by decide)
     · omega
 rw [iH,hL] at r4
 refine Fk (hT.mono EI.mono X4) hw.t fun p6 c6 σ5 OF => ⟨_,_,_,rfl,Y2 (OF.rd EI.mono) (by rw [← hnT]; exact hw.lt) hw.m.tx tH fun IW x8 σ6 iO f0 f1 x6 => ⟨_,_,rfl,?_⟩⟩
 have X6 := X4.trans (OF.up.trans x6)
 refine Fk (hT.mono EI.mono X6) hw.t fun p7 c7 σ7 qL => ⟨_,_,_,rfl,by unfold AG; omega,by unfold AG; omega,?_⟩
 have X7 := X6.trans qL.up
 have JK : ∀ s ∈ ss,∀ x ∈ s.ls,x.2.size ≤ 4611686018427387904 := fun s JK x hx => by
   have := ((Aq.of (CJ Ck s JK).1).2 x hx).2
   omega
 refine JI (ss := ss) (ms := []) (hs.mono Ay.mono X7) Aa.nil (fun x hx => (by cases hx)) JK hw.ms fun p8 n8 c8 σ8 r8 x8' => ⟨_,_,_,rfl,?_⟩
 rw [te] at r8
 have X8 := X7.trans x8'
 refine instA_spec (hg.mono X8) ((qL.rd EI.mono).mono EI.mono x8') r8 (tw hw.m) fun σ9 p9 n9 c9 r9 x9 => ⟨_,_,_,_,rfl,?_⟩
 have X9 := X8.trans x9
 obtain ⟨i1,i2,i3⟩ := Y3 (others := more.filter fun s => !DX T s) hL iO hw.ts (fun s JK => hw.tm s (List.mem_filter.1 JK).1) (fun s JK => by simpa using (List.mem_filter.1 JK).2)
 rw [iH,i1] at r9
 rw [i1]
 have hv := iR tH
 refine pS (σ := σ9) hw hv JK (hT.mono EI.mono X9) (hs.mono Ay.mono X9) (fun ρ EA n15 Dt uF => ?_) n1 0 σ9 none 0 0 rfl (Nat.zero_le _) (AP.nil (.refl _))
 have X10 := X9.trans uF.up
 refine iQ (σ := ρ) hw hv (hT.mono EI.mono X10) (hm.mono Ay.mono X10) (fun ρ2 Em n16 ER pT => ?_) n3 0 ρ none 0 0 rfl (Nat.zero_le _) (AP.nil (.refl _))
 have X11 := X10.trans pT.up
 exact uD uE (hg.mono X11) hw (hT.mono EI.mono X11) (hs.mono Ay.mono X11) (r4.mono Ay.mono (OF.up.trans (x6.trans (qL.up.trans (x8'.trans (x9.trans (uF.up.trans pT.up))))))) (r9.mono Ay.mono (uF.up.trans pT.up)) ((uF.rd Ay.mono).mono Ay.mono pT.up) (pT.rd Ay.mono) Ck i2 i3 fun σ' hx => h σ' (X11.trans hx)
end
end TwW
end
section
set_option maxRecDepth 100000
set_option linter.unusedSimpArgs false
namespace TwW.Rw
open Go Tw TwW Go.RowKit Go.ChangeShapes Go.WideShapes Go.ChangeAt Go.Deep Go.Proofs.Tryz Go.Proofs.YtlmhidjgplomgaaGreatDoor
theorem uG : Dj 50 Co (fun p => (0 ≤ p.2 ∧ p.2 < 18446744073709551616) ∧ Lr ≤ p.1 ∧ p.1 ≤ Ls) (fun _ => 1) := by
 intro H enc w base sp held fuel cs x h hw
 obtain ⟨xs,n,_,rfl,hlen,iw,hg⟩ := DataW.trod_struct underlying50 h
 rw [show prog.cellsOf 50 = 2 by kernel_rfl] at hlen
 match cs,hlen,xs,iw with
 | [c0,c1],_,[y0,y1],_ =>
   have h0 := hg 0 _ rfl
   have h1 := hg 1 _ rfl
   simp only [show prog.cellsOf 2 = 1 by kernel_rfl,show prog.cellsOf 48 = 1 by kernel_rfl,List.drop,List.take,List.getElem?_cons_zero,List.getElem?_cons_succ] at h0 h1
   obtain ⟨a,e0,_,wa⟩ := DataW.trod_int underlying2 h0
   obtain ⟨b,e1,_,wb⟩ := DataW.trod_int underlying48 h1
   cases e0; cases e1
   refine ⟨(a,b),rfl,?_,Fm _⟩
   simp [Lit.wf,IntKind.min,IntKind.max,IntKind.signed,IntKind.bits] at wa wb
   exact ⟨⟨wb.1,by omega⟩,by show Lr ≤ a; unfold Lr; omega,by show a ≤ Ls; unfold Ls; omega⟩
theorem uH : Dj 56 BT (fun x => x.2.size ≤ 1048576) (fun _ => 1) := by
 intro H enc w base sp held fuel cs x h hw
 obtain ⟨xs,n,_,rfl,hlen,iw,hg⟩ := DataW.trod_struct underlying56 h
 rw [show prog.cellsOf 56 = 2 by kernel_rfl] at hlen
 match cs,hlen,xs,iw with
 | [c0,c1],_,[y0,y1],_ =>
   have h0 := hg 0 _ rfl
   have h1 := hg 1 _ rfl
   simp only [show prog.cellsOf 9 = 1 by kernel_rfl,List.drop,List.take,List.getElem?_cons_zero,List.getElem?_cons_succ] at h0 h1
   obtain ⟨a,e0,_,_⟩ := Dj.str underlying9 h0 (JH hw (by simp))
   obtain ⟨b,e1,i1,_⟩ := Dj.str underlying9 h1 (JH hw (by simp))
   have e0 : [c0] = [.string a] := e0
   have e1 : [c1] = [.string b] := e1
   cases e0; cases e1
   exact ⟨(a,b),rfl,i1,Fm _⟩
theorem uI : Dj 37 (ESc 2 BT) (WJ fun x => x.2.size ≤ 1048576) (fun _ => 1) := Dj.len (s := 2) underlying37 (by kernel_rfl) (by decide) uH
theorem uJ : Dj 38 (ESc 2 Co) (WJ fun p => (0 ≤ p.2 ∧ p.2 < 18446744073709551616) ∧ Lr ≤ p.1 ∧ p.1 ≤ Ls) (fun _ => 1) := Dj.len (s := 2) underlying38 (by kernel_rfl) (by decide) uG
abbrev SrJ (s : Sr) : Prop := s.ls.length ≤ 1048576 ∧ s.ps.length ≤ 1048576 ∧ (∀ p ∈ s.ps,(0 ≤ p.2 ∧ p.2 < 18446744073709551616) ∧ Lr ≤ p.1 ∧ p.1 ≤ Ls) ∧ ∀ x ∈ s.ls,x.2.size ≤ 1048576
theorem uK : Dj 40 Ay SrJ (fun _ => 1) := by
 intro H enc w base sp held fuel cs x h hw
 obtain ⟨xs,n,_,rfl,hlen,iw,hg⟩ := DataW.trod_struct underlying40 h
 rw [show prog.cellsOf 40 = 2 by kernel_rfl] at hlen
 match cs,hlen,xs,iw with
 | [c0,c1],_,[y0,y1],_ =>
   have h0 := hg 0 _ rfl
   have h1 := hg 1 _ rfl
   simp only [show prog.cellsOf 37 = 1 by kernel_rfl,show prog.cellsOf 38 = 1 by kernel_rfl,List.drop,List.take,List.getElem?_cons_zero,List.getElem?_cons_succ] at h0 h1
   obtain ⟨ls,⟨p,k,c,e0,hc0,r0⟩,⟨i0,l0⟩,_⟩ := uI h0 (JH hw (by simp))
   obtain ⟨ps,⟨q,m,d,e1,hc1,r1⟩,⟨i1,l1⟩,_⟩ := uJ h1 (JH hw (by simp))
   cases e0; cases e1
   exact ⟨⟨ls,ps⟩,⟨p,k,c,q,m,d,rfl,r0,r1,hc1⟩,⟨l0,l1,i1,i0⟩,Fm _⟩
section
variable {H : Type} {enc : TypeId × Value → H} {W : World} {base : Nat} {v : Value} {d : DataW H} {ps : List MemPlace} {r : Reach}
theorem VE (hv : Value.okWide prog W r base 23 v) (h : DataW.Trod enc prog W 0 (fun _ => true) true 23 v d ps) (hw : Rows.uptoBulk d ≤ 1048576) : ∃ p n c ss,v = .slice p n c ∧ n ≤ c ∧ Aa 2 Ay (full W) p n ss ∧ WJ SrJ ss := by
 obtain ⟨a,l,c,rfl⟩ := okWide_slice underlying23 hv
 obtain ⟨fuel,hf⟩ := h
 obtain ⟨xs,⟨p,n,c',e,hc,hr⟩,hI,_⟩ := Dj.len (s := 2) underlying23 (by kernel_rfl) (by decide) uK hf hw
 have e' : [Value.slice a l c] = [.slice p n c'] := by simpa [Value.cells] using e
 cases e'
 exact ⟨a,l,c,xs,rfl,hc,hr,hI⟩
end
theorem uL {T : List Nd} {ss more : List Sr} {c1 n1 c3 n3 : Nat} (hT : WJ (fun x : Nd => x.text.size ≤ 1048576 ∧ x.mt.length ≤ 1048576 ∧ x.names.length ≤ 1048576) T) (hS : WJ SrJ ss) (hM : WJ SrJ more) (h1 : n1 ≤ c1) (h3 : n3 ≤ c3) : iP T ss more c1 n1 c3 n3 where
 t := ⟨Nat.le_trans hT.2 (by decide),fun x hx => Nat.le_trans (hT.1 x hx).2.1 (by decide),fun x hx => Nat.le_trans (hT.1 x hx).2.2 (by decide)⟩
 m := ⟨Nat.le_trans hT.2 (by decide),fun x hx => Nat.le_trans (hT.1 x hx).1 (by decide),Nat.le_trans hS.2 (by decide),fun s hs => Nat.le_trans (hS.1 s hs).2.1 (by decide),fun s hs p hp => ((hS.1 s hs).2.2.1 p hp).1.1⟩
 s := ⟨Nat.le_trans hS.2 (by decide),fun s hs => Nat.le_trans (hS.1 s hs).1 (by decide),fun s hs => Nat.le_trans (hS.1 s hs).2.1 (by decide)⟩
 ms := ⟨Nat.le_trans hS.2 (by decide),fun s hs => ⟨Nat.le_trans (hS.1 s hs).1 (by decide),Nat.le_trans (hS.1 s hs).2.1 (by decide)⟩⟩
 mm := ⟨Nat.le_trans hM.2 (by decide),fun s hs => ⟨Nat.le_trans (hM.1 s hs).1 (by decide),Nat.le_trans (hM.1 s hs).2.1 (by decide)⟩⟩
 ts := fun s hs p hp => ((hS.1 s hs).2.2.1 p hp).2
 tm := fun s hs p hp => ((hM.1 s hs).2.2.1 p hp).2
 vm := fun s hs p hp => ((hM.1 s hs).2.2.1 p hp).1.1
 lm := fun s hs x hx => Nat.le_trans ((hM.1 s hs).2.2.2 x hx) (by decide)
 h1 := h1
 h3 := h3
 lt := Nat.le_trans hT.2 (by decide)
 sz := ⟨Nat.le_trans hM.2 (by decide),Nat.le_trans hS.2 (by decide)⟩
 pz := ⟨fun s hs => Nat.le_trans (hS.1 s hs).2.1 (by decide),fun s hs => Nat.le_trans (hM.1 s hs).2.1 (by decide)⟩
end TwW.Rw
end
section
namespace Go.Proofs.YtlmhidjgplomgaaGreatDoor.evalWindows
open Go Tw TwW TwW.Rw Go.ChangeShapes Go.WideShapes Go.ChangeAt Go.RowKit Go.Deep
open Go.Proofs.Tryz (f3 func3 params3)
abbrev Y4 : Array Value := #[.slice none 0 0,.slice none 0 0,.int .i64 0,.slice none 0 0]
noncomputable abbrev wW (os : Os) : World := (LV os).forCall (fun _ _ => 0) ⟨#[],Y4,[]⟩
set_option maxRecDepth 1000000
theorem wHr (os : Os) : ((wW os).heap.toList.drop prog.globals.size).take ((begin prog (fun _ _ => 0) default).world.heap.size - prog.globals.size) = (begin prog (fun _ _ => 0) default).world.heap.toList.drop prog.globals.size := by kernel_rfl
theorem AOZ (os : Os) : Input.okWideB prog (wW os) 3 ⟨#[],Y4,[]⟩ = true := by kernel_rfl
theorem wHv (os : Os) : (wW os).variablesRefB prog = true := AN2 os (args := Y4)
theorem reads (os : Os) {H : Type} (enc : TypeId × Value → H) : ∃ places,DataW.whole enc prog (wW os).memory f3.params.toList Rows.evalWindowsSpec.vars false Y4.toList 8 = some ([.nil,.nil,.lit (.int .i64 0),.nil],[],places) :=
 ⟨[],by kernel_rfl⟩
theorem pU (H : Type) (enc : TypeId × Value → H) (W : World) (base : Nat) (args : Array Value) (ds gs : List (DataW H)) (before : List MemPlace)
   (pV : ∀ (j : Nat) t v,f3.params[j]? = some t → args[j]? = some v → Value.okWide prog W .any base t v)
   (hW : DataW.Whole enc prog f3.params.toList Rows.evalWindowsSpec.vars false W args.toList ds gs before) (hk : Rows.uptoBulkAll (ds ++ gs) ≤ 1048576) (hL : laidMetH prog Laid W) (hsh : W.ShapedOpen prog) :
   Calls prog 3 args W fun e W' => ∃ v,e = .returned v ∧ Rows.evalWindowsSpec.post enc prog f3 false true false false W args v W' := by
 have hW' := hW
 obtain ⟨p,q,hA0,hV,rfl,hfz,hnd⟩ := hW
 have hA : DataW.TrodAll enc prog W 0 (fun _ => true) true f3.params.toList args.toList ds p := hA0
 rw [params3] at hA pV
 obtain ⟨v0,vs0,d0,ds0,p0,q0,JJ,rfl,rfl,h0,r0⟩ := trodAll_cons hA
 obtain ⟨v1,vs1,d1,ds1,p1,q1,rfl,rfl,rfl,h1,r1⟩ := trodAll_cons r0
 obtain ⟨v2,vs2,d2,ds2,p2,q2,rfl,rfl,rfl,h2,r2⟩ := trodAll_cons r1
 obtain ⟨v3,vs3,d3,ds3,p3,q3,rfl,rfl,rfl,h3,r3⟩ := trodAll_cons r2
 obtain ⟨rfl,rfl,rfl⟩ := trodAll_nil r3
 obtain rfl : args = #[v0,v1,v2,v3] := by cases args; simp_all
 obtain ⟨rfl,rfl⟩ := trodVars_none hV
 simp only [List.append_nil,Rows.uptoBulkAll] at hk
 obtain ⟨a0,n0,c0,T0,rfl,hr0,dq⟩ := oZ (pV 0 22 v0 rfl rfl) h0 (by omega)
 obtain ⟨a1,n1,c1,ss1,rfl,hc1,E6,hS1⟩ := VE (pV 1 23 v1 rfl rfl) h1 (by omega)
 obtain ⟨x2,rfl,rfl,_,w2⟩ := open_int Go.Proofs.Tryz.underlying2 (pV 2 2 v2 rfl rfl) h2
 obtain ⟨a3,n3,c3,ss3,rfl,hc3,V9,hS3⟩ := VE (pV 3 23 v3 rfl rfl) h3 (by omega)
 exact AA5 (by kernel_rfl) rfl rfl ⟨rfl,rfl,rfl⟩ hW' ((WZ bQ (AH5 hL hsh) (uL dq hS1 hS3 hc1 hc3) hr0 E6 V9) fun σ' hx => ⟨rfl,hx⟩)
theorem ABO : Go.Proofs.Tryz.checked.prog.inits.idxOf? 3 = none := by kernel_rfl
theorem witness (os : Os) (started : os.Started) (H : Type) (enc : TypeId × Value → H) : ∃ (w : World) (tape : Tape) (i : Input),w.os = os ∧ (w.forCall tape i).Shaped Go.Proofs.Tryz.checked.prog ∧ i.vars = [] ∧ Input.okWide Go.Proofs.Tryz.checked.prog (w.forCall tape i) .any w.heap.size 3 i ∧
     (Rows.OpenSpec.upto Rows.evalWindowsSpec).preRow enc Go.Proofs.Tryz.checked.prog f3 Rows.evalWindowsUptoRow.domain false Rows.evalWindowsUptoRow.laid (w.forCall tape i).memory i.args ∧ ({} : Assume).holds Go.Proofs.Tryz.checked.prog (lone (Frame.enter Go.Proofs.Tryz.checked.prog 3 i.args .normal) [] (w.forCall tape i)) := by
 obtain ⟨places,hx⟩ := reads os enc
 exact witness_row_atRef (enc := enc) (C := Go.Proofs.Tryz.checked) false (LV os) Y4 rfl (wHv os) (wHr os) (AOZ os)
     (OpenSpec.preRow_of_cond 8 hx (by as_aux_lemma => kernel_rfl) (fun k hk => by cases hk; as_aux_lemma => kernel_rfl) (by as_aux_lemma => kernel_rfl) (od os _))
theorem lifted (os : Os) (started : os.Started) (H : Type) (enc : TypeId × Value → H) (F : Stop.Interp) :
   ReturnsInHanded {} Go.Proofs.Tryz.checked os 3 .any ((Rows.OpenSpec.upto Rows.evalWindowsSpec).preRow enc prog f3 Rows.evalWindowsUptoRow.domain false Rows.evalWindowsUptoRow.laid) (((Rows.OpenSpec.upto Rows.evalWindowsSpec).at F).post enc prog f3 false true false false) := by
 refine returnsInHanded_of_row (C := Go.Proofs.Tryz.checked) (s := Rows.OpenSpec.upto Rows.evalWindowsSpec) own started ABO func3 (witness os started H enc) ?_
 intro W base args ds gs before AIX hW _ AIY _ hL hsh _
 exact pU H enc W base args ds gs before AIX hW (of_decide_eq_true (AIY _ rfl)) hL hsh
end Go.Proofs.YtlmhidjgplomgaaGreatDoor.evalWindows
end
