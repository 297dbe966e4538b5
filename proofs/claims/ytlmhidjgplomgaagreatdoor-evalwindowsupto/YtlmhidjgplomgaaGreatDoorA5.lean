/-
  Part 5 of the proof that the law EvalWindowsUptoCardSaid of the given program answers true for every input of the given statement; the input reads behind the call as it did. (The texts: packed from 32 texts. Names are shortened by the packing program, for the bound on size.)
-/
import Derived.Test.YtlmhidjgplomgaaGreatDoorA4
import Derived.Test.YtlmhidjgplomgaaGreatDoorCards
import Derived.Test.YtlmhidjgplomgaaGreatDoorTie
import Derived.WalkKit
import Derived.ProofKit
import Derived.OpenShut
import Derived.Deep.DeepHandedRow
import Derived.Stop.LaidErr
import Derived.Shelf.Vars
import Derived.Deep.DeepWitnessRowRef
import Derived.Deep.DeepLaidRun
import Derived.Lib.LaidTab
import Derived.LaidLaws
import Derived.ChangeMaps5
import Derived.Lib.IndexMore
import Derived.Lib.SplitLaws
import Derived.Laws.FloatBits
import Ieee.Arith
import Derived.KernelRfl
import Derived.Laws.MakeOwn
set_option linter.all false
section
namespace TwW
open Go Tw Go.RowKit Go.Proofs.Tryz
def PG (B : Nat) (gs : List Rg) : Prop := ∀ g ∈ gs,0 < g.vs.length ∧ g.vs.length ≤ B ∧ Aq g.ls
theorem dg {B : Nat} {ls : List Lb} {v : Int} (hs : Aq ls) : ∀ {gs : List Rg},PG B gs → PG (B + 1) (IF ls v gs)
 | [],_ => fun g hg => by
   unfold IF at hg
   rw [List.mem_singleton] at hg
   subst hg
   exact ⟨by simp,by simp,hs⟩
 | a :: gs,h => fun g hg => by
   have ha := h a (by simp)
   unfold IF at hg
   split at hg
   · rcases List.mem_cons.1 hg with rfl | hg
     · exact ⟨by simp,by simp; omega,ha.2.2⟩
     · have := h g (List.mem_cons_of_mem _ hg)
       exact ⟨this.1,by omega,this.2.2⟩
   · rcases List.mem_cons.1 hg with rfl | hg
     · exact ⟨ha.1,by omega,ha.2.2⟩
     · exact dg hs (fun g hg => h g (List.mem_cons_of_mem _ hg)) g hg
theorem Yi {ls : List Lb} {v : Int} : ∀ {gs : List Rg},(IF ls v gs).length ≤ gs.length + 1
 | [] => by simp [IF]
 | a :: gs => by
   unfold IF
   split
   · simp
   · have := Yi (ls := ls) (v := v) (gs := gs)
     simp only [List.length_cons]; omega
def WC (n : Nd) (l : List El) : List Rg := l.foldl (fun gs x => IF (D4 n x.ls) x.v gs) []
theorem Aq.group {n : Nd} {ls : List Lb} (h : Aq ls) : Aq (D4 n ls) := by
 unfold D4 YD C9 YE
 split
 · exact h.filter _
 · split
   · exact (h.filter _).filter _
   · exact ⟨by decide,fun x hx => by cases hx⟩
theorem oJ {n : Nd} {l : List El} (hs : ∀ e ∈ l,Aq e.ls) : ∀ k,k ≤ l.length → PG k (WC n (l.take k)) ∧ (WC n (l.take k)).length ≤ k := fun k => by
 induction k with
 | zero => intro _; exact ⟨fun g hg => by simp [WC] at hg,by simp [WC]⟩
 | succ k ih =>
   intro hk
   obtain ⟨h1,h2⟩ := ih (by omega)
   have hx : l[k]? = some l[k] := List.getElem?_eq_getElem _
   have e : WC n (l.take (k + 1)) = IF (D4 n l[k].ls) l[k].v (WC n (l.take k)) := by unfold WC; rw [AS hx,List.foldl_append]; rfl
   rw [e]
   exact ⟨dg (hs _ (List.getElem_mem _)).group h1,by have := Yi (ls := D4 n l[k].ls) (v := l[k].v) (gs := WC n (l.take k)); omega⟩
section
variable {τ σ σ' σ0 : Hp} {R : Rr}
theorem GS.empty {mb : Nat} (h : σ mb = none) : GS σ (σ.set mb (.map #[] 0)) mb none 0 0 [] [] :=
 ⟨rfl,MS.fresh,A8.nil,fun i r g hi => (by simp at hi),fun a ha => (by cases ha),fun i r hi => (by simp at hi),fun i r hi => (by simp at hi),fun i j r r' _ hi => (by simp at hi),h,.set h⟩
theorem gb {op : Int} {f : Nat} {p : Option Addr} {n c : Nat} {vs : List Int} {qD : Value} (E2 : (op = 1 ∧ qD = .func (.func 151) #[] #[]) ∨ (op = 2 ∧ qD = .func (.func 152) #[] #[]) ∨ (op = 3 ∧ qD = .func (.func 153) #[] #[]) ∨ (op = 4 ∧ qD = .func (.func 154) #[] #[]) ∨ (op = 5 ∧ qD = .func (.func 155) #[] #[]))
   (hr : E3 .u64 σ p n vs) (h0 : 0 < n) (hc : n ≤ c) (h : R (.returned (.int .u64 (foldI op vs))) σ) : ∃ (f95 : Nat) (Xz X0 : Array Value),qD = .func (.func f95) Xz X0 ∧ Enters prog f95 ∧ Spec prog f95 (Xz ++ #[.slice p n c] ++ X0) σ R := by
 have hl : vs.length = n := hr.1
 unfold foldI at h
 rcases E2 with ⟨rfl,rfl⟩ | ⟨rfl,rfl⟩ | ⟨rfl,rfl⟩ | ⟨rfl,rfl⟩ | ⟨rfl,rfl⟩
 · exact ⟨_,#[],#[],rfl,FZ.en,Su hr h0 hc h⟩
 · exact ⟨_,#[],#[],rfl,Gt.en,Sv hr h0 hc h⟩
 · exact ⟨_,#[],#[],rfl,Db.en,ML hr h0 hc h⟩
 · exact ⟨_,#[],#[],rfl,EZ.en,Nq hr h0 hc (by rw [← hl]; exact h)⟩
 · exact ⟨_,#[],#[],rfl,Gr.en,Mi (by rw [← hl]; exact h)⟩
theorem oK {n : Nd} {p q a l : Option Addr} {k c m d j e : Nat} {L : List Vv} {x : Vv} (hs : G6 1 σ q m (n.names.map .string)) (hr : Aa 4 Mg σ l j L) (hx : L[0]? = some x) (hV : gW x) (E2 : 1 ≤ n.op ∧ n.op ≤ 5)
   (h : IN R σ ((DQ FF (ag FF n x)).map fun l => ⟨2,0,l,[]⟩)) : Spec prog 104 #[.pointer a,My n p k c q m d,.slice l j e] σ R := by
 have hj : 0 < j := by have h1 : L.length = j := hr.1; have := (List.getElem?_eq_some_iff.1 hx).1; omega
 obtain ⟨b,o,pv,nv,cv,qv,mv,dv,rfl,h1,h2,h3,h4,h5,h6⟩ := Mg.at hr hx
 simp only [Nat.zero_mul,Nat.add_zero] at h1 h2 h3 h4
 have hl : x.vec.length = nv := h5.1
 have hlen := hV.len
 have JK := fun z hz => (hV.el z hz).1
 have Ck := oJ (n := n) JK
 have hA : ag FF n x = (WC n x.vec).map fun g => ⟨g.ls,foldI n.op g.vs⟩ := rfl
 rw [hA] at h
 refine AQ.start fun _ _ => EF fun mb na => ⟨mb,rfl,b,o,rfl,by omega,pv,nv,cv,(Ext.set na).ld h3,?_⟩
 have last : ∀ τ σ' op on oc rs,GS τ σ' mb op on oc rs (WC n x.vec) → Ext σ τ → AQ.E1 R n.kind n.op n.text p k c n.width n.back n.EH q m d n.bool n.parts 0 0 none 0 0 none 0 0 (some mb) op on oc pv nv cv nv nv σ' := fun τ σ' op on oc rs hG CO => by
   obtain ⟨hPG,hgl⟩ := Ck nv (by omega)
   rw [List.take_of_length_le (by omega)] at hPG hgl
   refine AQ.FP ⟨fun Az => by omega,fun _ => EF fun mf hmf => ⟨mf,rfl,?_⟩⟩
   refine (nZ.fresh hmf).put (by simp) fun s1 t1 => t1.put (by simp) fun s2 t2 => t2.put (by simp) fun s3 t3 => t3.put (by simp) fun s4 t4 => t4.put (by simp) fun s5 t5 => ?_
   have w9 := hG.mono t5.1
   have hml := t5.2.2
   simp only [List.nil_append,List.cons_append] at hml
   refine hml.look tA (fun Bc => ?_) fun v hv => ⟨v,rfl,?_⟩
   · exfalso
     simp only [List.mem_cons,List.not_mem_nil,or_false,forall_eq_or_imp,forall_eq] at Bc
     obtain ⟨a1,a2,a3,a4,a5⟩ := Bc
     omega
   have hv' : (n.op = 1 ∧ v = .func (.func 151) #[] #[]) ∨ (n.op = 2 ∧ v = .func (.func 152) #[] #[]) ∨ (n.op = 3 ∧ v = .func (.func 153) #[] #[]) ∨ (n.op = 4 ∧ v = .func (.func 154) #[] #[]) ∨ (n.op = 5 ∧ v = .func (.func 155) #[] #[]) := by
     simpa only [List.mem_cons,List.not_mem_nil,or_false,Prod.mk.injEq] using hv
   replace h := h.gR (CO.trans w9.ext)
   have hon : rs.length = on := by have := w9.ord.1; simpa using this
   have hgn := w9.len
   generalize WC n x.vec = gs at *
   clear hml t1 t2 t3 t4 t5 hv hG
   suffices H : ∀ g i : Nat,∀ p8 n8 c8 σ2 oq,(0 < on → oq = op) → on - i = g → i ≤ on → AP 2 By s5 σ2 p8 n8 c8 ((gs.take i).map fun g => ⟨g.ls,foldI n.op g.vs⟩) → AQ.P4 R 0 0 none 0 0 none 0 0 v p8 n8 c8 oq on oc on i σ2 from H on 0 none 0 0 s5 op (fun _ => rfl) rfl (Nat.zero_le _) (AP.nil (.refl _))
   intro g
   induction g with
   | zero =>
     intro i p8 n8 c8 σ2 oq hoq hg hi ho
     rw [List.take_of_length_le (by omega)] at ho
     have QX := ho.1.1
     rw [List.length_map] at QX
     exact AQ.QN ⟨fun Az => by omega,fun _ => EG ho (by omega) h.T3⟩
   | succ g ih =>
     intro i p8 n8 c8 σ2 oq hoq hg hi ho
     have BI : i < on := by omega
     obtain ⟨r,hri⟩ : ∃ r,rs[i]? = some r := ⟨_,List.getElem?_eq_getElem (by omega)⟩
     obtain ⟨y,hy⟩ : ∃ y,gs[i]? = some y := ⟨_,List.getElem?_eq_getElem (by omega)⟩
     obtain ⟨b1,o1,AHe,Ps⟩ := G6.at1 w9.ord.rd (k := i) (v := .pointer (aD r.b 0)) (by rw [List.getElem?_map,hri]; rfl)
     obtain ⟨c1,c2,c3⟩ := w9.box i r y hri hy
     have hP := hPG y (List.mem_of_getElem? hy)
     have hvl : y.vs.length = r.vn := by have := c3.1; simpa using this
     have QX := ho.1.1
     rw [List.length_map,List.length_take] at QX
     rw [hoq (by omega),AHe]
     refine AQ.QN ⟨fun _ => ⟨b1,o1,rfl,by omega,aD r.b 0,by simpa using ho.up.ld Ps,r.b,0,rfl,r.lp,r.ln,r.lc,Ai (ho.up _ _ c1) rfl,r.vp,r.vn,r.vc,Ai (ho.up _ _ c1) rfl,gb (f := 0) hv' (E3.mono ho.up (DZ.rd c3)) (by omega) (A8.cap c3) ⟨_,rfl,Kp.HY (.refl _),fun b97 ANL => ?_⟩⟩,fun hh => by omega⟩
     refine AP.el ho ((c2.mono BT.mono w9.ext).mono BT.mono ho.2) (by omega) (fun p9 c9 σ3 Ct _ => ⟨_,_,_,rfl,by unfold AG; omega,ih (i + 1) _ _ _ _ _ (fun _ => AHe.symm) (by omega) (by omega) ?_⟩) ANL
     rw [AS hy,List.map_append]; exact Ct
 suffices H : ∀ g i : Nat,∀ τ σ' op on oc rs,nv - i = g → i ≤ nv → GS τ σ' mb op on oc rs (WC n (x.vec.take i)) → Ext σ τ → AQ.E1 R n.kind n.op n.text p k c n.width n.back n.EH q m d n.bool n.parts 0 0 none 0 0 none 0 0 (some mb) op on oc pv nv cv nv i σ' from
   H nv 0 σ _ none 0 0 [] rfl (Nat.zero_le _) (GS.empty na) (.refl _)
 intro g
 induction g with
 | zero =>
   intro i τ σ' op on oc rs hg hi hG CO
   have Lv : i = nv := by omega
   subst Lv
   rw [List.take_of_length_le (by omega)] at hG
   exact last τ σ' op on oc rs hG CO
 | succ g ih =>
   intro i τ σ' op on oc rs hg hi hG CO
   have BI : i < nv := by omega
   obtain ⟨y,hy⟩ := h5.ex BI
   obtain ⟨b1,o1,q1,m1,d1,rfl,Ps,E6⟩ := By.at h5 hy
   have JY := JK y (List.mem_of_getElem? hy)
   have hX := CO.trans hG.ext
   obtain ⟨hPG,hgl⟩ := Ck i (by omega)
   have ZJ := hG.len
   have eN : WC n (x.vec.take (i + 1)) = IF (D4 n y.ls) y.v (WC n (x.vec.take i)) := by unfold WC; rw [AS hy,List.foldl_append]; rfl
   have AHf : ∀ τ4 σ4 op4 on4 oc4 rs4 gs4 (i4 : Nat) (r : GR) (t : Rg),GS τ4 σ4 mb op4 on4 oc4 rs4 gs4 → rs4[i4]? = some r → gs4[i4]? = some t → gs4.set i4 ⟨t.ls,t.vs ++ [y.v]⟩ = WC n (x.vec.take (i + 1)) → t.vs.length ≤ i → Ext σ τ4 → AQ.mK R n.kind n.op n.text p k c n.width n.back n.EH q m d n.bool n.parts 0 0 none 0 0 none 0 0 (some mb) op4 on4 oc4 q1 m1 d1 y.v (aD r.b 0) (aD b1 o1) nv cv nv i σ4 := fun τ4 σ4 op4 on4 oc4 rs4 gs4 i4 r t hG4 hr4 ht4 he hti Mu => by
     obtain ⟨c1,c2,c3⟩ := hG4.box i4 r t hr4 ht4
     have hvl : t.vs.length = r.vn := by have := c3.1; simpa using this
     refine AQ.sJ ⟨r.b,0,rfl,r.vp,r.vn,r.vc,Ai c1 rfl,GS.push (v := y.v) hG4 hr4 ht4 (by omega) (Φ := fun y2 => AG ((i : Int) + 1) ∧ AQ.E1 R n.kind n.op n.text p k c n.width n.back n.EH q m d n.bool n.parts 0 0 none 0 0 none 0 0 (some mb) op4 on4 oc4 (aD b1 o1) nv cv nv ((i : Int) + 1) y2) fun σ5 r' w9 => ⟨AF BI h5.big,ih (i + 1) τ4 σ5 op4 on4 oc4 (rs4.set i4 r') (by omega) (by omega) ?_ Mu⟩⟩
     rw [← he]; exact w9
   have AAk : ∀ τ2 σ2 p' n' c',GS τ2 σ2 mb op on oc rs (WC n (x.vec.take i)) → Ext σ τ2 → Cq τ2 p' n' (D4 n y.ls) → AQ.Fs R n.kind n.op n.text p k c n.width n.back n.EH q m d n.bool n.parts 0 0 none 0 0 none 0 0 (some mb) op on oc q1 m1 d1 y.v p' n' c' (aD b1 o1) nv cv nv i σ2 := fun τ2 σ2 p' n' c' hG2 A1 IM => by
     refine AQ.GF (FM (IM.mono BT.mono hG2.ext) JY.group fun σ3 CV => ⟨_,rfl,?_⟩)
     have hG3 := hG2.mono CV
     have hon : rs.length = on := by have := hG3.ord.1; simpa using this
     refine hG3.map.look sv (fun HT => ⟨none,rfl,fun _ => ?_,fun hh => (by cases hh)⟩) fun v bb AHj hv => ⟨aD bb 0,hv,fun hh => (by cases hh),fun _ => ?_⟩
     · obtain ⟨e1,e2⟩ := TF (v := y.v) hG3.len HT
       refine GS.add hG3 e2 IM JY.group (by omega) (Φ := fun Oe zz n61 c61 Hl => AQ.mK R n.kind n.op n.text p k c n.width n.back n.EH q m d n.bool n.parts 0 0 none 0 0 none 0 0 (some mb) zz n61 c61 q1 m1 d1 y.v (aD Oe 0) (aD b1 o1) nv cv nv i Hl) fun bb tB oc' σ4 hG4 => ?_
       refine AHf τ2 σ4 tB (on + 1) oc' _ _ (WC n (x.vec.take i)).length ⟨bb,p',n',c',none,0,0⟩ ⟨D4 n y.ls,[]⟩ hG4 ?_ ?_ ?_ (Nat.zero_le _) A1
       · rw [← ZJ,List.getElem?_append_right (Nat.le_refl _),Nat.sub_self]; rfl
       · rw [List.getElem?_append_right (Nat.le_refl _),Nat.sub_self]; rfl
       · rw [eN,e1,List.set_append_right _ _ (Nat.le_refl _),Nat.sub_self]; rfl
     · obtain ⟨i4,t,r,a1,a2,a3,a4⟩ := TE (v := y.v) hG3.len AHj
       subst a3
       exact AHf τ2 σ3 op on oc rs _ i4 r t hG3 a2 a1 (by rw [eN,a4]) (hPG t (List.mem_of_getElem? a1)).2.1 A1
   refine AQ.FP ⟨fun _ => ⟨b1,o1,rfl,by omega,q1,m1,d1,y.v,by simpa using Ps.mono hX,fun _ => ⟨fun hg1 => Uy (E6.mono BT.mono hX) (JY.rd E6) (hs.mono hX) fun p' n' c' σ2 IM A1 => ⟨_,_,_,rfl,?_⟩,fun hg1 => ⟨fun bL => ?_,fun bL => AAk τ σ' none 0 0 hG CO ?_⟩⟩⟩,fun hh => by omega⟩
   · obtain ⟨τ2,hG2,e1,e2⟩ := hG.grow A1
     exact AAk τ2 σ2 p' n' c' hG2 (CO.trans e1) (by unfold D4; rw [if_pos hg1]; exact IM.mono BT.mono e2)
   · refine I7 (E6.mono BT.mono hX) (JY.rd E6) (hs.mono hX) fun p' n' c' σ2 BM A1 => ⟨_,_,_,rfl,?_⟩
     have fE : n' ≤ 1000000 := by
       have h7 := BM.1
       have h8 := List.length_filter_le (fun x : Lb => !P7 x.1 n.names) y.ls
       have h9 := JY.1
       omega
     refine FN ((BM.rd BT.mono).mono BT.mono (Ext.Cw _ _)) fE fun p3 n3 c3 σ3 V9 CV => ⟨_,_,_,rfl,?_⟩
     obtain ⟨τ2,hG2,e1,e2⟩ := hG.grow (A1.trans CV)
     exact AAk τ2 σ3 p3 n3 c3 hG2 (CO.trans e1) (by unfold D4; rw [if_neg hg1,if_pos bL]; exact (V9.mono BT.mono (Ext.CA A1)).mono BT.mono e2)
   · unfold D4; rw [if_neg hg1,if_neg bL]; exact Aa.nil
end
end TwW
end
section
namespace TwW
open Go Tw Go.RowKit Go.Proofs.Tryz
def Nv (e : El) : Prop := Aq e.ls ∧ 0 ≤ e.v
def Sh (x : Vv) : Prop := (x.kind = 1 ∧ x.vec = [] ∧ x.OU = []) ∨ (x.kind = 2 ∧ x.OU = []) ∨ (x.kind = 3 ∧ x.vec = [])
def D5 (x : Vv) : Nat := x.vec.length + x.OU.length
structure VG (x : Vv) : Prop where
 el : ∀ e ∈ x.vec,Nv e
 rg : ∀ r ∈ x.OU,Aq r.ls ∧ 0 < r.vs.length
 sh : Sh x
theorem WD (x : Int) : 0 ≤ nrm x := Int.natCast_nonneg _
theorem Kq (op a b : Int) : 0 ≤ QT op a b := Int.natCast_nonneg _
theorem Yj {f : Int → Int → Int} (hf : ∀ a b,0 ≤ f a b) : ∀ (l : List Int) (a : Int),0 ≤ a → 0 ≤ l.foldl f a
 | [],a,h => h
 | x :: l,a,h => Yj hf l _ (hf a x)
theorem dh : ∀ vs,0 ≤ Ty vs
 | [] => Int.le_refl _
 | v :: l => Yj (fun a b => Kq 1 a b) l _ (WD v)
theorem Nw (op : Int) : ∀ vs,0 ≤ Kl op vs
 | [] => Int.le_refl _
 | v :: l => WD _
theorem oL (vs : List Int) : 0 ≤ Kn vs := by
 unfold Kn
 have : ∀ (l : List (Int × Int)) (a : Int),0 ≤ a → 0 ≤ l.foldl Km a := fun l => by
   induction l with
   | nil => intro a h; exact h
   | cons x l ih =>
     intro a h
     refine ih _ ?_
     unfold Km
     split
     · exact Kq _ _ _
     · exact h
 exact this _ _ (Kq _ _ _)
theorem Ox (x : Int) : 0 ≤ BP x := Int.natCast_nonneg _
theorem oM (op : Int) (vs : List Int) : 0 ≤ foldI op vs := by
 unfold foldI
 split
 · exact dh _
 · split
   · exact Nw _ _
   · split
     · exact Nw _ _
     · split
       · exact Kq _ _ _
       · exact Ox _
theorem oN {op : Int} {vs : List Int} {w x : Int} (h : IP op vs w = some x) : 0 ≤ x := by
 unfold IP at h
 split at h
 · rw [← Option.some.inj h]; exact dh _
 split at h
 · rw [← Option.some.inj h]; exact Kq _ _ _
 split at h
 · rw [← Option.some.inj h]; exact Nw _ _
 split at h
 · rw [← Option.some.inj h]; exact Nw _ _
 split at h
 · rw [← Option.some.inj h]; exact Ox _
 split at h
 · rw [← Option.some.inj h]; exact WD _
 split at h
 · rw [← Option.some.inj h]; exact Int.natCast_nonneg _
 split at h
 · exact absurd h.symm (Option.some_ne_none _)
 split at h
 · rw [← Option.some.inj h]; exact Kq _ _ _
 split at h
 · rw [← Option.some.inj h]; exact oL _
 · rw [← Option.some.inj h]; exact Kq _ _ _
theorem TG (op a b : Int) : 0 ≤ (IQ op a b).1 := by
 unfold IQ
 split
 · exact Kq _ _ _
 · show 0 ≤ (if _ then BP 1 else BP 0)
   split <;> exact Ox _
theorem LR {l m : List El} (h : DQ FF l = some m) : m.Perm l := by
 unfold DQ at h
 split at h
 · cases h; exact I9 l
 · cases h
theorem di {l m : List El} (h : DQ FF l = some m) (hl : ∀ e ∈ l,Nv e) : (∀ e ∈ m,Nv e) ∧ m.length = l.length :=
 ⟨fun e he => hl e ((LR h).mem_iff.1 he),(LR h).length_eq⟩
theorem tC {n : Nd} {x : Vv} (hx : VG x) : (∀ e ∈ Sj FF n x,Nv e) ∧ (Sj FF n x).length ≤ D5 x := by
 refine ⟨fun e he => ?_,?_⟩
 · rcases List.mem_append.1 he with he | he
   · obtain ⟨y,hy,rfl⟩ := List.mem_map.1 he
     refine ⟨(hx.el y hy).1.bare,?_⟩
     show 0 ≤ (if n.op = 11 then V0 y.v else Mh y.v)
     split <;> exact Int.natCast_nonneg _
   · obtain ⟨y,hy,h1⟩ := List.mem_filterMap.1 he
     have h2 : (IP n.op y.vs x.v).map (fun v => (⟨C9 y.ls,v⟩ : El)) = some e := h1
     cases ho : IP n.op y.vs x.v with
     | none => rw [ho] at h2; cases h2
     | some z =>
       rw [ho] at h2
       simp only [Option.map_some,Option.some.injEq] at h2
       subst h2
       exact ⟨(hx.rg y hy).1.bare,oN ho⟩
 · unfold Sj D5
   rw [List.length_append,List.length_map]
   have := List.length_filterMap_le (fun s : Rg => (FF.over n.op s.vs x.v).map fun v => (⟨C9 s.ls,v⟩ : El)) x.OU
   omega
theorem AAl {n : Nd} {x : Vv} (hx : VG x) : (∀ e ∈ ag FF n x,Nv e) ∧ (ag FF n x).length ≤ D5 x := by
 obtain ⟨h1,h2⟩ := oJ (n := n) (fun e he => (hx.el e he).1) x.vec.length (Nat.le_refl _)
 rw [List.take_length] at h1 h2
 have hA : ag FF n x = (WC n x.vec).map fun g => ⟨g.ls,foldI n.op g.vs⟩ := rfl
 rw [hA]
 refine ⟨fun e he => ?_,by rw [List.length_map]; unfold D5; omega⟩
 obtain ⟨g,hg,rfl⟩ := List.mem_map.1 he
 exact ⟨(h1 g hg).2.2,oM _ _⟩
theorem oO {n : Nd} {l : List El} {f : Int → Int × Bool} (hl : ∀ e ∈ l,Nv e) (hf : ∀ v,0 ≤ (f v).1) : (∀ e ∈ Sk n l f,Nv e) ∧ (Sk n l f).length ≤ l.length := by
 refine ⟨fun e he => ?_,List.length_filterMap_le _ _⟩
 obtain ⟨y,hy,h1⟩ := List.mem_filterMap.1 he
 split at h1
 · simp only [Option.some.injEq] at h1
   subst h1
   exact ⟨(hl y hy).1.bare,hf _⟩
 · split at h1
   · simp only [Option.some.injEq] at h1
     subst h1; exact hl y hy
   · cases h1
theorem tD {n : Nd} {x y : List El} (hx : ∀ e ∈ x,Nv e) (hy : ∀ e ∈ y,Nv e) : (∀ e ∈ MJ n x y,Nv e) ∧ (MJ n x y).length ≤ x.length + y.length := by
 unfold MJ
 refine ⟨fun e he => ?_,?_⟩
 · rcases List.mem_append.1 he with he | he
   · exact hx e (List.mem_filter.1 he).1
   · exact hy e (List.mem_filter.1 he).1
 · rw [List.length_append]
   exact Nat.add_le_add (List.length_filter_le _ _) (List.length_filter_le _ _)
theorem tE {n : Nd} {x y m : List El} (hx : ∀ e ∈ x,Nv e) (h : Nn FF n x y = some m) : (∀ e ∈ m,Nv e) ∧ m.length ≤ x.length := by
 unfold Nn at h
 split at h
 · simp only [Option.some.injEq] at h
   subst h
   refine ⟨fun e he => ?_,List.length_filterMap_le _ _⟩
   obtain ⟨z,hz,h1⟩ := List.mem_filterMap.1 he
   split at h1
   · cases h1
   · split at h1
     · simp only [Option.some.injEq] at h1
       subst h1
       exact ⟨(hx z hz).1.Mw,TG _ _ _⟩
     · split at h1
       · simp only [Option.some.injEq] at h1
         subst h1; exact hx z hz
       · cases h1
 · cases h
theorem Mm {l m : List El} (h : DQ FF l = some m) (hl : ∀ e ∈ l,Nv e) : VG ⟨2,0,m,[]⟩ ∧ D5 ⟨2,0,m,[]⟩ = l.length :=
 ⟨⟨(di h hl).1,fun r hr => (by cases hr),.inr (.inl ⟨rfl,rfl⟩)⟩,by show m.length + 0 = _; rw [(di h hl).2]; omega⟩
theorem map_some {α β : Type} {o : Option α} {f : α → β} {y : β} (h : o.map f = some y) : ∃ x,o = some x ∧ f x = y := by
 cases o with
 | none => cases h
 | some x => exact ⟨x,rfl,by simpa using h⟩
theorem WE {n : Nd} {ss : List Sr} {t : Int} {L : List Vv} {v : Vv} (hS : si ss) (hp : ∀ s ∈ ss,∀ p ∈ s.ps,0 ≤ p.2) (hf : Dh n = true) (hT : (Oq n (L.map (·.kind))).2 = 0) (hL : (L.length : Int) = n.parts) (hV : ∀ x ∈ L,VG x) (h : F6 FF ss t n L = some v) :
   VG v ∧ v.kind = (Oq n (L.map (·.kind))).1 ∧ D5 v ≤ ss.length + (L.map D5).sum := by
 have Cs := Gz hf
 unfold F6 at h
 by_cases h1 : n.kind = 1
 · rw [if_pos h1] at h; cases h
   exact ⟨⟨fun e he => (by cases he),fun r hr => (by cases hr),.inl ⟨rfl,rfl,rfl⟩⟩,by unfold Oq; rw [if_pos h1],Nat.zero_le _⟩
 rw [if_neg h1] at h
 by_cases h2 : n.kind = 2
 · rw [if_pos h2] at h; cases h
   refine ⟨⟨fun e he => ?_,fun r hr => (by cases hr),.inr (.inl ⟨rfl,rfl⟩)⟩,by unfold Oq; rw [if_neg h1,if_pos h2],?_⟩
   · obtain ⟨s,hs,Wg⟩ := List.mem_filterMap.1 he
     split at Wg
     · cases Wg
     · rename_i p AHk
       split at Wg
       · cases Wg
       · simp only [Option.some.injEq] at Wg
         subst Wg
         exact ⟨hS.sm s hs,hp s hs p (List.mem_filter.1 (List.mem_of_getLast? AHk)).1⟩
   · show (List.filterMap _ ss).length + 0 ≤ _
     exact Nat.le_trans (Nat.le_of_eq (Nat.add_zero _)) (Nat.le_trans (List.length_filterMap_le _ _) (Nat.le_add_right _ _))
 rw [if_neg h2] at h
 by_cases h3 : n.kind = 3
 · rw [if_pos h3] at h; cases h
   refine ⟨⟨fun e he => (by cases he),fun r hr => ?_,.inr (.inr ⟨rfl,rfl⟩)⟩,by unfold Oq; rw [if_neg h1,if_neg h2,if_pos h3],?_⟩
   · obtain ⟨s,hs,Wg⟩ := List.mem_filterMap.1 hr
     dsimp only at Wg
     generalize ((D3 s.ps (t - n.back - n.width) (t - n.back)).filter fun p => decide (p.2 ≠ IE)).map Prod.snd = vs at Wg
     cases vs with
     | nil => cases Wg
     | cons a l =>
       simp only [List.isEmpty_cons,Bool.not_false,Bool.true_and] at Wg
       cases iz : FF.Hi n.mt s.ls with
       | false => rw [iz] at Wg; cases Wg
       | true =>
         rw [iz] at Wg
         simp only [cond_true,Option.some.injEq] at Wg
         subst Wg
         exact ⟨hS.sm s hs,by simp⟩
   · show 0 + (List.filterMap _ ss).length ≤ _
     exact Nat.le_trans (Nat.le_of_eq (Nat.zero_add _)) (Nat.le_trans (List.length_filterMap_le _ _) (Nat.le_add_right _ _))
 rw [if_neg h3] at h
 unfold E5 at Cs
 rw [if_neg h1,if_neg h2,if_neg h3] at Cs
 by_cases h4 : n.kind = 4
 · rw [if_pos h4] at Cs
   have bN := (of_decide_eq_true Cs).1
   match L,hL with
   | [x],_ =>
     have hx := hV x (by simp)
     dsimp only at h
     rw [if_pos h4] at h
     obtain ⟨m,hm,rfl⟩ := map_some h
     obtain ⟨c1,c2⟩ := tC (n := n) hx
     obtain ⟨d1,d2⟩ := Mm hm c1
     refine ⟨d1,?_,by rw [d2]; simp; omega⟩
     unfold Oq at hT ⊢
     rw [if_neg h1,if_neg h2,if_neg h3,if_pos h4] at hT ⊢
     unfold YV at hT ⊢
     by_cases hc : ([x].map (·.kind))[0]?.getD 0 = (if n.op = 11 ∨ n.op = 12 then 2 else 3)
     · rw [if_pos hc]
     · rw [if_neg hc] at hT; exact absurd hT (by decide)
   | [],hL => simp at hL; omega
   | _ :: _ :: _,hL => simp at hL; omega
 rw [if_neg h4] at Cs
 by_cases h5 : n.kind = 5
 · rw [if_pos h5] at Cs
   have bN := (of_decide_eq_true Cs).1
   match L,hL with
   | [x],_ =>
     have hx := hV x (by simp)
     dsimp only at h
     rw [if_neg h4,if_pos h5] at h
     obtain ⟨m,hm,rfl⟩ := map_some h
     obtain ⟨c1,c2⟩ := AAl (n := n) hx
     obtain ⟨d1,d2⟩ := Mm hm c1
     refine ⟨d1,?_,by rw [d2]; simp; omega⟩
     unfold Oq at hT ⊢
     rw [if_neg h1,if_neg h2,if_neg h3,if_neg h4,if_pos h5] at hT ⊢
     unfold dZ at hT ⊢
     by_cases hc : ([x].map (·.kind))[0]?.getD 0 = 2
     · rw [if_pos hc]
     · rw [if_neg hc] at hT; exact absurd hT (by decide)
   | [],hL => simp at hL; omega
   | _ :: _ :: _,hL => simp at hL; omega
 rw [if_neg h5] at Cs
 by_cases h6 : n.kind = 6
 · rw [if_pos h6,Bool.and_eq_true] at Cs
   have bN := (of_decide_eq_true Cs.1).1
   match L,hL with
   | [x,y],_ =>
     have hx := hV x (by simp)
     have hy := hV y (by simp)
     dsimp only at h
     rw [if_pos h6] at h
     have hTy : (Oq n ([x,y].map (·.kind))) = gH n x.kind y.kind := by unfold Oq; rw [if_neg h1,if_neg h2,if_neg h3,if_neg h4,if_neg h5,if_pos h6]; rfl
     rw [hTy] at hT ⊢
     unfold gH at hT ⊢
     split at hT
     · cases hT
     · rename_i Bc
       rw [if_neg Bc]
       simp only [not_or] at Bc
       have sx := hx.sh
       have sy := hy.sh
       unfold fu at h
       have hvx : D5 x + D5 y = ([x,y].map D5).sum := by simp
       rw [← hvx]
       split at h
       · rename_i hk
         cases h
         exact ⟨⟨fun e he => (by cases he),fun r hr => (by cases hr),.inl ⟨rfl,rfl,rfl⟩⟩,by simp [hk.1,hk.2],Nat.zero_le _⟩
       · rename_i hk
         obtain ⟨m,hm,rfl⟩ := map_some h
         have AHl : (2 : Int) = (if x.kind < y.kind then y.kind else x.kind) := by
           unfold Sh at sx sy
           split <;> omega
         refine (fun hh : VG ⟨2,0,m,[]⟩ ∧ D5 ⟨2,0,m,[]⟩ ≤ D5 x + D5 y => ⟨hh.1,AHl,by have := hh.2; omega⟩) ?_
         split at hm
         · obtain ⟨c1,c2⟩ := oO (n := n) (f := FF.Nl n.op x.v) hy.el (fun v => TG _ _ _)
           obtain ⟨d1,d2⟩ := Mm (show DQ FF (Sk n y.vec (FF.Nl n.op x.v)) = some m from hm) c1
           exact ⟨d1,by rw [d2]; unfold D5; omega⟩
         · split at hm
           · obtain ⟨c1,c2⟩ := oO (n := n) (f := fun v => FF.Nl n.op v y.v) hx.el (fun v => TG _ _ _)
             obtain ⟨d1,d2⟩ := Mm (show DQ FF (Sk n x.vec fun v => FF.Nl n.op v y.v) = some m from hm) c1
             exact ⟨d1,by rw [d2]; unfold D5; omega⟩
           · split at hm
             · obtain ⟨c1,c2⟩ := tD (n := n) hx.el hy.el
               obtain ⟨d1,d2⟩ := Mm (show DQ FF (MJ n x.vec y.vec) = some m from hm) c1
               exact ⟨d1,by rw [d2]; unfold D5; omega⟩
             · cases hq : Nn FF n x.vec y.vec with
               | none => rw [hq] at hm; cases hm
               | some w =>
                 rw [hq] at hm
                 obtain ⟨c1,c2⟩ := tE hx.el hq
                 obtain ⟨d1,d2⟩ := Mm (show DQ FF w = some m from hm) c1
                 exact ⟨d1,by rw [d2]; unfold D5; omega⟩
   | [],hL => simp at hL; omega
   | [_],hL => simp at hL; omega
   | _ :: _ :: _ :: _,hL => simp at hL; omega
 rw [if_neg h6] at Cs
 have h7 := (of_decide_eq_true Cs).1
 have bN := (of_decide_eq_true Cs).2
 match L,hL with
 | [x],_ =>
   have hx := hV x (by simp)
   dsimp only at h
   rw [if_neg h4,if_neg h5,if_pos h7] at h
   have hTy : (Oq n ([x].map (·.kind))) = nX x.kind := by unfold Oq; rw [if_neg h1,if_neg h2,if_neg h3,if_neg h4,if_neg h5,if_neg h6]; rfl
   rw [hTy] at hT ⊢
   unfold nX at hT ⊢
   have sx := hx.sh
   unfold Sh at sx
   split at hT
   · cases hT
   · rename_i Bc
     rw [if_neg Bc]
     unfold fw at h
     split at h
     · rename_i hk
       cases h
       exact ⟨⟨fun e he => (by cases he),fun r hr => (by cases hr),.inl ⟨rfl,rfl,rfl⟩⟩,hk.symm,Nat.zero_le _⟩
     · obtain ⟨m,hm,rfl⟩ := map_some h
       have c1 : ∀ e ∈ x.vec.map (fun x => (⟨C9 x.ls,FF.nK x.v⟩ : El)),Nv e := fun e he => by
         obtain ⟨y,hy,rfl⟩ := List.mem_map.1 he
         exact ⟨(hx.el y hy).1.bare,WD _⟩
       obtain ⟨d1,d2⟩ := Mm hm c1
       refine ⟨d1,by show (2 : Int) = x.kind; omega,by rw [d2,List.length_map]; simp [D5]; omega⟩
 | [],hL => simp at hL; omega
 | _ :: _ :: _,hL => simp at hL; omega
end TwW
end
section
namespace TwW
open Go Tw Go.RowKit Go.Proofs.Tryz
theorem TH {n : Nd} (ht : Dh n = true) : 0 ≤ n.parts := by
 have Cs := Gz ht
 unfold E5 at Cs
 have hp := LO ht
 by_cases h1 : n.kind = 1
 · unfold FL BL at hp; simp [h1] at hp; omega
 by_cases h2 : n.kind = 2
 · unfold FL BL at hp; simp [h2] at hp; omega
 by_cases h3 : n.kind = 3
 · unfold FL BL at hp; simp [h3] at hp; omega
 rw [if_neg h1,if_neg h2,if_neg h3] at Cs
 split at Cs
 · simp at Cs; omega
 · split at Cs
   · simp at Cs; omega
   · split at Cs
     · simp at Cs; omega
     · simp at Cs; omega
theorem WG {n : Nd} {ty : List Int} (h : (BQ n ty).1 = 0) : Dh n = true ∧ n.parts ≤ ty.length ∧ II Cj n.mt = 0 ∧ (Oq n (ty.drop (ty.length - n.parts.toNat))).2 = 0 ∧ (BQ n ty).2 = ty.take (ty.length - n.parts.toNat) ++ [(Oq n (ty.drop (ty.length - n.parts.toNat))).1] := by
 unfold BQ at h ⊢
 split at h
 · exact absurd h (by dsimp only; decide)
 · rename_i h1
   split at h
   · exact absurd h (by dsimp only; decide)
   · rename_i h2
     simp only [not_or] at h1
     rw [if_neg (by simp only [not_or]; exact h1),if_neg h2]
     exact ⟨by simpa using h1.1,by omega,Decidable.not_not.1 h2,h,rfl⟩
theorem dj {n : Nd} (hf : Dh n = true) (hm : II Cj n.mt = 0) (hk : n.kind = 2 ∨ n.kind = 3) : AAa n := by
 have Cs := Gz hf
 have hp := LO hf
 have gh : n.mt.all az = true := by
   unfold II at hm
   split at hm
   · exact absurd hm (by decide)
   · cases ha : n.mt.all az with
     | true => rfl
     | false =>
       have : (if n.mt.all az = true then (0 : Int) else 40) = 0 := hm
       rw [ha] at this; exact absurd this (by decide)
 have hx : ∀ x ∈ n.mt,az x = true := List.all_eq_true.1 gh
 have hbw : (0 ≤ n.back ∧ n.back < 2147483648) ∧ (0 ≤ n.width ∧ n.width < 2147483648) := by
   unfold E5 at Cs
   rcases hk with hk | hk
   · rw [if_neg (by omega),if_pos hk] at Cs
     unfold JT at Cs
     simp only [Bool.and_eq_true,decide_eq_true_eq] at Cs
     unfold FL BL at hp
     simp [hk] at hp
     omega
   · rw [if_neg (by omega),if_neg (by omega),if_pos hk] at Cs
     unfold JT at Cs
     simp only [Bool.and_eq_true,decide_eq_true_eq] at Cs
     omega
 refine ⟨fun x Ux => ?_,fun x Ux => ?_,hbw.1,hbw.2⟩
 · have := hx x Ux
   unfold az at this
   simp only [Bool.and_eq_true,decide_eq_true_eq] at this
   exact this.1.1
 · have := hx x Ux
   unfold az at this
   simp only [Bool.and_eq_true,decide_eq_true_eq] at this
   omega
def tF : List Nat := [100,101,102,103,104,105,106]
structure gi (ss : List Sr) : Prop where
 ok : si ss
 nn : ∀ s ∈ ss,∀ p ∈ s.ps,0 ≤ p.2
 pl : ∀ s ∈ ss,s.ps.length ≤ 1000000000
section
variable {ρ σ σ' σ0 : Hp} {R : Rr}
theorem gj {n : Nd} {p q l : Option Addr} {k c m d j e ab : Nat} {ss : List Sr} {t : Int} {L : List Vv} (hA : Pj ρ ab ss t) (hg : Gl ρ) (hm : Aa 3 JZ ρ p k n.mt) (hs : G6 1 ρ q m (n.names.map .string)) (hf : Dh n = true) (gh : II Cj n.mt = 0)
   (hT : (Oq n (L.map (·.kind))).2 = 0) (hL : (L.length : Int) = n.parts) (hV : ∀ x ∈ L,VG x) (hlen : ∀ x ∈ L,D5 x ≤ 100000000000) (hr : Aa 4 Mg ρ l j L) (hS : gi ss) (ht : -4611686018427387904 ≤ t ∧ t ≤ 4611686018427387904) (h : IN R ρ (F6 FF ss t n L)) :
   ∃ f,1 ≤ n.kind ∧ n.kind ≤ 7 ∧ tF[n.kind.toNat - 1]? = some f ∧ Enters prog f ∧ Spec prog f #[.pointer (some ⟨ab,0,none⟩),My n p k c q m d,.slice l j e] ρ R := by
 have Cs := Gz hf
 have vok : ∀ x ∈ L,gW x := fun x hx => ⟨(hV x hx).el,(hV x hx).rg,hlen x hx⟩
 unfold F6 at h
 by_cases h1 : n.kind = 1
 · rw [if_pos h1] at h
   refine ⟨_,by omega,by omega,by rw [h1]; rfl,Bp.en,Nu hg ?_ h⟩
   unfold E5 at Cs; rw [if_pos h1] at Cs; exact Cs
 rw [if_neg h1] at h
 by_cases h2 : n.kind = 2
 · rw [if_pos h2] at h
   exact ⟨_,by omega,by omega,by rw [h2]; rfl,Ah.en,Yh hA hg hm hS.ok (dj hf gh (.inl h2)) ht h⟩
 rw [if_neg h2] at h
 by_cases h3 : n.kind = 3
 · rw [if_pos h3] at h
   exact ⟨_,by omega,by omega,by rw [h3]; rfl,AT.en,bK hA hg hm hS.ok (dj hf gh (.inr h3)) ht hS.pl h⟩
 rw [if_neg h3] at h
 unfold E5 at Cs
 rw [if_neg h1,if_neg h2,if_neg h3] at Cs
 by_cases h4 : n.kind = 4
 · rw [if_pos h4] at Cs
   obtain ⟨bN,pZ,BM⟩ := of_decide_eq_true Cs
   match L,hL with
   | [x],_ =>
     have hx := hV x (by simp)
     dsimp only at h
     rw [if_pos h4] at h
     have sx := hx.sh
     unfold Sh at sx
     unfold Oq at hT
     rw [if_neg h1,if_neg h2,if_neg h3,if_pos h4] at hT
     unfold YV at hT
     have hc : x.kind = (if n.op = 11 ∨ n.op = 12 then 2 else 3) := by
       by_cases hc : ([x].map (·.kind))[0]?.getD 0 = (if n.op = 11 ∨ n.op = 12 then 2 else 3)
       · exact hc
       · rw [if_neg hc] at hT; exact absurd hT (by decide)
     refine ⟨_,by omega,by omega,by rw [h4]; rfl,AW.en,gX hr rfl (vok x (by simp)) (fun BD => ?_) (fun BD => ?_) h⟩
     · rcases sx with ⟨_,h9,_⟩ | ⟨h9,_⟩ | ⟨h9,h8⟩
       · exact absurd h9 BD
       · rw [h9] at hc
         split at hc
         · assumption
         · omega
       · exact absurd h8 BD
     · rcases sx with ⟨_,_,h9⟩ | ⟨h9,h8⟩ | ⟨h9,_⟩
       · exact absurd h9 BD
       · exact absurd h8 BD
       · rw [h9] at hc
         split at hc
         · omega
         · omega
   | [],hL => simp at hL; omega
   | _ :: _ :: _,hL => simp at hL; omega
 rw [if_neg h4] at Cs
 by_cases h5 : n.kind = 5
 · rw [if_pos h5] at Cs
   obtain ⟨bN,pZ,BM,_⟩ := of_decide_eq_true Cs
   match L,hL with
   | [x],_ =>
     dsimp only at h
     rw [if_neg h4,if_pos h5] at h
     exact ⟨_,by omega,by omega,by rw [h5]; rfl,AQ.en,oK hs hr rfl (vok x (by simp)) ⟨pZ,BM⟩ h⟩
   | [],hL => simp at hL; omega
   | _ :: _ :: _,hL => simp at hL; omega
 rw [if_neg h5] at Cs
 by_cases h6 : n.kind = 6
 · rw [if_pos h6,Bool.and_eq_true] at Cs
   have bN := (of_decide_eq_true Cs.1).1
   match L,hL with
   | [x,y],_ =>
     dsimp only at h
     rw [if_pos h6] at h
     exact ⟨_,by omega,by omega,by rw [h6]; rfl,C5.en,oH hs hr rfl rfl (vok x (by simp)) (vok y (by simp)) h⟩
   | [],hL => simp at hL; omega
   | [_],hL => simp at hL; omega
   | _ :: _ :: _ :: _,hL => simp at hL; omega
 rw [if_neg h6] at Cs
 have h7 := (of_decide_eq_true Cs).1
 have bN := (of_decide_eq_true Cs).2
 match L,hL with
 | [x],_ =>
   dsimp only at h
   rw [if_neg h4,if_neg h5,if_pos h7] at h
   exact ⟨_,by omega,by omega,by rw [h7]; rfl,BJ.en,oE hr rfl (vok x (by simp)) h⟩
 | [],hL => simp at hL; omega
 | _ :: _ :: _,hL => simp at hL; omega
end
end TwW
end
section
namespace TwW
open Go Tw Go.RowKit Go.Proofs.Tryz
theorem Spec.AAm {P : Program} {f : FuncId} {args : Array Value} {σ : Hp} {p : Option Addr} {R : Rr} (hk : ∀ a,p = some a → ∃ o,σ a.block = some o)
   (h : Spec P f args (σ.del p) (fun e τ' => ∀ σ',(∀ a,p = some a → σ' a.block = σ a.block) → σ'.del p = τ' → R e σ')) : Spec P f args σ R := by
 cases p with
 | none => exact h.mono fun e τ' hh => hh τ' (fun a ha => by cases ha) rfl
 | some a =>
   obtain ⟨o,ho⟩ := hk a rfl
   have e1 : (σ.del (some a)).set a.block o = σ := by
     funext k
     by_cases jB : k = a.block
     · subst jB; rw [Hp.AB,ho]
     · rw [Hp.AO jB]; simp [Hp.del,jB]
   have e2 : (σ.del (some a)) a.block = none := by simp [Hp.del]
   rw [← e1]
   refine Spec.Gk e2 (h.mono fun e τ' hh hn => hh _ (fun a' ZI => by cases ZI; rw [Hp.AB,ho]) ?_)
   funext k
   by_cases jB : k = a.block
   · subst jB; simp [Hp.del,hn]
   · simp [Hp.del,jB,Hp.set]
theorem G6.sub {s : Nat} {σ : Hp} {p : Option Addr} {n c i m : Nat} {cs : List Value} (h : G6 s σ p n cs) (him : i + m ≤ n) (hc : n ≤ c) : G6 s σ (Jg p i c s) m ((cs.drop (i * s)).take (m * s)) := by
 obtain ⟨h2,h3,h4⟩ := h
 have hle : i * s + m * s ≤ n * s := by rw [← Nat.add_mul]; exact Nat.mul_le_mul_right _ him
 refine ⟨by rw [List.length_take,List.length_drop]; omega,by omega,?_⟩
 rcases Nat.eq_zero_or_pos m with hm | hm
 · exact .inl hm
 · rcases h4 with h4 | ⟨b,o,rfl,h4⟩
   · omega
   · refine .inr ⟨b,o + i * s,?_,h4.part⟩
     unfold Jg
     rw [if_neg (by omega)]
     simp [Bj]
theorem Mg.one (σ : Hp) (vs : List Value) (x : Vv) (h : Mg σ vs x) : Fq vs := by
 obtain ⟨p,n,c,q,m,d,rfl,_⟩ := h
 intro u hu
 simp only [List.mem_cons,List.not_mem_nil,or_false] at hu
 rcases hu with rfl | rfl | rfl | rfl <;> rfl
theorem AP.take {α : Type} {s : Nat} {E : Hp → List Value → α → Prop} {σ0 σ : Hp} {p : Option Addr} {n c m : Nat} {xs : List α} (h : AP s E σ0 σ p n c xs) (hm : m ≤ n) : AP s E σ0 σ p m c (xs.take m) := by
 obtain ⟨⟨hl,cs,ho,hc⟩,hx⟩ := h
 exact ⟨⟨by rw [List.length_take]; omega,_,A8.take ho hm,hc.take m⟩,hx⟩
section
variable {σ σ' σ0 : Hp} {R : Rr}
theorem Oy {p7 q : Option Addr} {j d b : Nat} {cs : List Value} {L : List Vv} {Φ : Value → Hp → Prop} (Mr : G6 4 σ q j cs) (hc : Ch 4 Mg (σ.del p7) cs L) (hp7 : ∀ a,p7 = some a → σ a.block ≠ none) (hn : σ b = none) (hj : j ≤ 1000000000)
   (hΦ : ∀ p' c' y,Aa 4 Mg (y.del p7) p' j L → Ext σ y → Φ (.slice p' j c') y) : AK prog (Builtin.append_ #[136,136] 136 #[.slice (some ⟨b,0,none⟩) 0 0,.slice q j d]) (σ.set b (.cells #[] 93 (0,0))) Φ := by
 have hx := Ext.set (o := .cells #[] 93 (0,0)) hn
 refine DB A8.empty (Mr.mono hx) (Ch.eb Mg.one hc (by decide)) (by omega) fun p' c' y Bd I6 => ?_
 have hq : ∀ a : Addr,(some (⟨b,0,none⟩ : Addr)) = some a → σ a.block = none := fun a ha => by cases ha; exact hn
 rw [Nat.zero_add] at Bd ⊢
 rw [List.nil_append] at Bd
 have hXY : Ext σ y := Ik hq I6 hx
 have sW : ∀ a,p' = some a → σ a.block = none := E9 hq I6 hx
 refine hΦ p' c' y ⟨?_,cs,A8.rd (A8.nu Bd fun a ha a' ZI e => hp7 a' ZI (by rw [← e]; exact sW a ha)),hc.mono Mg.mono (hXY.del _)⟩ hXY
 have := hc.1
 have := Mr.1
 omega
theorem dn {α : Type} {f : α → Nat} : ∀ {l : List α} {y : α},y ∈ l → f y ≤ (l.map f).sum
 | a :: l,y,h => by
   rw [List.map_cons,List.sum_cons]
   rcases List.mem_cons.1 h with rfl | h
   · omega
   · have := dn (f := f) h
     omega
structure tG (R : Rr) (σ : Hp) (X : Option Vv) : Prop where
 ok : ∀ x σ' p n c q m d,X = some x → Ext σ σ' → Aa 2 By σ' p n x.vec → Aa 2 Sm σ' q m x.OU → R (.returned (.tuple #[.agg #[.int .i64 x.kind,.int .u64 x.v,.slice p n c,.slice q m d],.int .i64 0])) σ'
 no : X = none → ∀ σ',Ext σ σ' → R (.returned (.tuple #[.agg #[.int .i64 0,.int .u64 0,.slice none 0 0,.slice none 0 0],.int .i64 223])) σ'
theorem tG.gR {X : Option Vv} (h : tG R σ X) (hx : Ext σ σ') : tG R σ' X := ⟨fun x σ2 p n c q m d h0 h1 h2 h3 => h.ok x σ2 p n c q m d h0 (hx.trans h1) h2 h3,fun h0 σ2 h1 => h.no h0 σ2 (hx.trans h1)⟩
theorem AAn {i f : Nat} (h : tF[i]? = some f) : Enters prog f := by
 have Az : i < 7 := (List.getElem?_eq_some_iff.1 h).1
 match i,h with
 | 0,h => cases h; exact Bp.en
 | 1,h => cases h; exact Ah.en
 | 2,h => cases h; exact AT.en
 | 3,h => cases h; exact AW.en
 | 4,h => cases h; exact AQ.en
 | 5,h => cases h; exact C5.en
 | 6,h => cases h; exact BJ.en
abbrev AHn : Obj := .cells #[.int .i64 0,.int .u64 0,.slice none 0 0,.slice none 0 0] 93 (0,0)
theorem oP {ab n c : Nat} {p : Option Addr} {ss : List Sr} {t : Int} {T : List Nd} {kf : Int} (hA : Pj σ ab ss t) (hg : Gl σ) (hr : Aa 10 EI σ p n T) (hS : gi ss) (hn : n ≤ 4096) (ht : -4611686018427387904 ≤ t ∧ t ≤ 4611686018427387904) (tH : DA T [] = some [kf])
   (h : tG R σ ((HG FF ss t T []).bind List.head?)) : Spec prog 47 #[.pointer (some ⟨ab,0,none⟩),.slice p n c] σ R := by
 have hTl : T.length = n := hr.1
 have ANN := hS.ok.len
 refine CE.start fun _ => RA.start fun rb hrb => ⟨_,_,_,rfl,?_⟩
 have xb := Ext.set (o := .cells #[.nilFunc,.func (.func 100) #[] #[],.func (.func 101) #[] #[],.func (.func 102) #[] #[],.func (.func 103) #[] #[],.func (.func 104) #[] #[],.func (.func 105) #[] #[],.func (.func 106) #[] #[]] 137 (0,0)) hrb
 have ANO : ∀ (kind : Int) f,1 ≤ kind → kind ≤ 7 → tF[kind.toNat - 1]? = some f → Hp.ld (σ.set rb (.cells #[.nilFunc,.func (.func 100) #[] #[],.func (.func 101) #[] #[],.func (.func 102) #[] #[],.func (.func 103) #[] #[],.func (.func 104) #[] #[],.func (.func 105) #[] #[],.func (.func 106) #[] #[]] 137 (0,0))) ⟨rb,0 + kind.toNat * 1,none⟩ = some (.func (.func f) #[] #[]) := fun kind f h1 h7 hf => by
   refine Ai (Hp.AB _ _ _) ?_
   rw [show 0 + kind.toNat * 1 = (kind.toNat - 1) + 1 by omega]
   have Az : kind.toNat - 1 < 7 := by omega
   generalize kind.toNat - 1 = i at *
   match i,hf with
   | 0,hf => cases hf; rfl
   | 1,hf => cases hf; rfl
   | 2,hf => cases hf; rfl
   | 3,hf => cases hf; rfl
   | 4,hf => cases hf; rfl
   | 5,hf => cases hf; rfl
   | 6,hf => cases hf; rfl
 generalize σ.set rb _ = σb at *
 replace h := h.gR xb
 suffices H : ∀ g i : Nat,∀ p7 n7 c7 σ' st,n - i = g → i ≤ n → AP 4 Mg σb σ' p7 n7 c7 st → (∀ x ∈ st,VG x) → st.length ≤ i → (st.map D5).sum ≤ i * ss.length → DA (T.drop i) (st.map (·.kind)) = some [kf] → HG FF ss t T [] = HG FF ss t (T.drop i) st → CE.E1 R (aD ab 0) 0 0 none 0 0 none 0 0 (aD rb 0) 8 8 p7 n7 c7 p n c n i σ' from
   H n 0 none 0 0 σb [] rfl (Nat.zero_le _) (AP.nil (.refl _)) (fun x hx => (by cases hx)) (Nat.zero_le _) (Nat.zero_le _) tH rfl
 intro g
 induction g with
 | zero =>
   intro i p7 n7 c7 σ' st nr hi ho hV hsl ANP hT B9
   rw [List.drop_eq_nil_of_le (by omega)] at hT B9
   have hk : st.map (·.kind) = [kf] := by simpa [DA] using hT
   have AHo : HG FF ss t T [] = some st := by rw [B9]; rfl
   rw [AHo] at h
   match st,hk with
   | [x],_ =>
     obtain ⟨b,o,pv,nv,cv,qv,mv,dv,rfl,h1,h2,h3,h4,h5,h6⟩ := Mg.at (ho.rd Mg.mono) (i := 0) (x := x) rfl
     have hn7 : 1 = n7 := ho.1.1
     simp only [Nat.zero_mul,Nat.add_zero] at h1 h2 h3 h4
     exact CE.FP ⟨fun Az => by omega,fun _ => ⟨b,o,rfl,by omega,x.kind,x.v,pv,nv,cv,qv,mv,dv,⟨h1,h2,h3,h4,trivial⟩,h.ok x σ' pv nv cv qv mv dv rfl ho.up h5 h6⟩⟩
 | succ g ih =>
   intro i p7 n7 c7 σ' st nr hi ho hV hsl ANP hT B9
   have BI : i < n := by omega
   obtain ⟨x,hx⟩ := hr.ex BI
   obtain ⟨b,o,p1,k1,c1,q1,m1,d1,rfl,D6,gh,hnm⟩ := EI.at hr hx
   have hX := xb.trans ho.up
   rw [BC hx] at hT B9
   have Gm : (BQ x (st.map (·.kind))).1 = 0 := Decidable.byContradiction fun BD => by
     rw [DA,if_neg BD] at hT; cases hT
   rw [DA,if_pos Gm] at hT
   obtain ⟨hf,hpl,hmo,dq,xA⟩ := WG Gm
   have xV := TH hf
   obtain ⟨tp,htp⟩ : ∃ tp : Nat,x.parts = tp := ⟨x.parts.toNat,by omega⟩
   have hpt : x.parts.toNat = tp := by omega
   have Fp : st.length = n7 := ho.1.1
   rw [List.length_map,Fp,hpt] at dq xA
   rw [List.length_map] at hpl
   rw [xA] at hT
   rw [← List.map_drop] at dq hT
   rw [← List.map_take] at hT
   rw [HG,Fp,hpt] at B9
   have hLl : (st.drop (n7 - tp)).length = tp := by rw [List.length_drop]; omega
   have hLV : ∀ y ∈ st.drop (n7 - tp),VG y := fun y hy => hV y (List.mem_of_mem_drop hy)
   have Mj : (st.map D5).sum = ((st.take (n7 - tp)).map D5).sum + ((st.drop (n7 - tp)).map D5).sum := by
     rw [← List.sum_append,← List.map_append,List.take_append_drop]
   have hsb : i * ss.length ≤ 4096 * 10000000 := Nat.mul_le_mul (by omega) ANN
   have nY : ∀ y ∈ st.drop (n7 - tp),D5 y ≤ 100000000000 := fun y hy => by
     have := dn (f := D5) (List.mem_of_mem_drop hy)
     omega
   have Bc := ho.1.2
   obtain ⟨cs,Ov,hcc⟩ := Bc
   have oQ := A8.cap Ov
   have e1 : Int.toNat ((n7 : Int) - x.parts) = n7 - tp := by omega
   have Mr : G6 4 σ' (Jg p7 (Int.toNat ((n7 : Int) - x.parts)) c7 4) (n7 - Int.toNat ((n7 : Int) - x.parts)) ((cs.drop ((n7 - tp) * 4)).take ((n7 - (n7 - tp)) * 4)) := by
     rw [e1]; exact G6.sub Ov.rd (by omega) oQ
   have hcd : Ch 4 Mg (σ'.del p7) ((cs.drop ((n7 - tp) * 4)).take ((n7 - (n7 - tp)) * 4)) (st.drop (n7 - tp)) := by
     have h9 := hcc.drop (n7 - tp)
     rwa [List.take_of_length_le (by have := Ov.1; rw [List.length_drop,this,← Nat.sub_mul]; exact Nat.le_refl _)]
   have hp7 : ∀ a,p7 = some a → σ' a.block ≠ none := ho.1.block
   have hk7 : ∀ {y : Hp},Ext σ' y → ∀ a,p7 = some a → ∃ o,y a.block = some o := fun {y} hy a ha => by
     cases hh : σ' a.block with
     | none => exact absurd hh (hp7 a ha)
     | some u => exact ⟨u,hy _ _ hh⟩
   let AHp : Hp → Int → Int → Option Addr → Nat → Option Addr → Nat → Int → Prop := fun y2 k v pv nv qv mv e =>
     (∃ z,F6 FF ss t x (st.drop (n7 - tp)) = some z ∧ k = z.kind ∧ v = z.v ∧ e = 0 ∧ AP 4 Mg σb y2 p7 n7 c7 st ∧ Aa 2 By (y2.del p7) pv nv z.vec ∧ Aa 2 Sm (y2.del p7) qv mv z.OU) ∨ (F6 FF ss t x (st.drop (n7 - tp)) = none ∧ e = 223 ∧ k = 0 ∧ v = 0 ∧ Ext σb y2)
   have qI : 1 ≤ x.kind ∧ x.kind ≤ 7 := by
     have Cs := Gz hf
     unfold E5 at Cs
     by_cases h1 : x.kind = 1
     · omega
     by_cases h2 : x.kind = 2
     · omega
     by_cases h3 : x.kind = 3
     · omega
     by_cases h4 : x.kind = 4
     · omega
     by_cases h5 : x.kind = 5
     · omega
     by_cases h6 : x.kind = 6
     · omega
     rw [if_neg h1,if_neg h2,if_neg h3,if_neg h4,if_neg h5,if_neg h6] at Cs
     have := (of_decide_eq_true Cs).1
     omega
   obtain ⟨f0,hf0⟩ : ∃ f0,tF[x.kind.toNat - 1]? = some f0 := ⟨_,List.getElem?_eq_getElem (show x.kind.toNat - 1 < 7 by omega)⟩
   have nJ := (ho.up).ld (ANO x.kind f0 qI.1 qI.2 hf0)
   have tI := AAn hf0
   have dt : ∀ (y : Hp) (OD : Option Addr) (OE : Nat),Ext σ' y → Aa 4 Mg (y.del p7) OD (n7 - Int.toNat ((n7 : Int) - x.parts)) (st.drop (n7 - tp)) → ∀ (R' : Rr),(∀ y2 k v pv nv cv qv mv dv e,AHp y2 k v pv nv qv mv e → R' (.returned (.tuple #[.agg #[.int .i64 k,.int .u64 v,.slice pv nv cv,.slice qv mv dv],.int .i64 e])) y2) →
       Spec prog f0 #[.pointer (some ⟨ab,0,none⟩),My x p1 k1 c1 q1 m1 d1,.slice OD (n7 - Int.toNat ((n7 : Int) - x.parts)) OE] y R' := fun y OD OE hy xB R' Mv => by
     have oR : Ext σb (y.del p7) := ho.2.trans (hy.del p7)
     have hσ : Ext σ (y.del p7) := xb.trans oR
     have hRV : IN (fun e τ' => ∀ y2,(∀ a,p7 = some a → y2 a.block = y a.block) → y2.del p7 = τ' → R' e y2) (y.del p7) (F6 FF ss t x (st.drop (n7 - tp))) := by
       refine ⟨fun z τ' pv nv cv qv mv dv hz A1 E6 IM _ _ y2 hy2 AAo => ?_,fun hz τ' A1 y2 hy2 AAo => ?_⟩
       · subst AAo
         refine Mv y2 _ _ _ _ _ _ _ _ _ (.inl ⟨z,hz,rfl,rfl,rfl,⟨⟨ho.1.1,cs,?_,hcc.mono Mg.mono ((hy.del p7).trans A1)⟩,oR.trans A1⟩,E6,IM⟩)
         exact A8.of_eq (A8.mono hy Ov) hy2
       · subst AAo
         exact Mv y2 _ _ _ _ _ _ _ _ _ (.inr ⟨hz,rfl,rfl,rfl,(oR.trans A1).trans (Ext.Jh _ _)⟩)
     obtain ⟨f,hf1,pX,hf3,xg,hf5⟩ := gj (p := p1) (c := c1) (q := q1) (d := d1) (e := OE) (hA.mono hσ) (hg.mono hσ) (gh.mono JZ.mono hσ) (hnm.mono hσ) hf hmo dq (by rw [hLl,htp]) hLV nY xB hS ht hRV
     rw [hf0] at hf3
     cases hf3
     exact Spec.AAm (hk7 hy) hf5
   have tail : ∀ (y2 : Hp) (BG : Nat) (k v : Int) (pv : Option Addr) (nv cv : Nat) (qv : Option Addr) (mv dv : Nat) (e : Int),y2 BG = none → AHp y2 k v pv nv qv mv e → AK prog (Instr.storeAt 93 (.pointer (aD BG 0)) (.agg #[.int .i64 k,.int .u64 v,.slice pv nv cv,.slice qv mv dv])) (Hp.set y2 BG AHn) (fun _ AL => Br (e ≠ 0) (R (.returned (.tuple #[.agg #[.int .i64 0,.int .u64 0,.slice none 0 0,.slice none 0 0],.int .i64 e])) AL) (((0 : Int) ≤ ((n7 : Int) - x.parts) ∧ ((n7 : Int) - x.parts) ≤ (c7 : Int)) ∧ ∃ NJ NK NL NM NN NO NQ NR,Au AL BG 0 [.int .i64 NJ,.int .u64 NK,.slice NL NM NN,.slice NO NQ NR] ∧ Al AL fun PJ => AK prog (Builtin.append_ #[136,136] 136 #[(.slice p7 (Int.toNat ((n7 : Int) - x.parts)) c7),(.slice (aD PJ 0) 1 1)]) (Hp.set AL PJ (.cells #[.int .i64 NJ,.int .u64 NK,.slice NL NM NN,.slice NO NQ NR] 93 (0,0))) (CS fun XQ n50 ZA Av => AG ((i : Int) + 1) ∧ CE.E1 R (aD ab 0) 0 0 none 0 0 none 0 0 (aD rb 0) 8 8 XQ n50 ZA (aD b o) n c n ((i : Int) + 1) Av))) := fun y2 BG k v pv nv cv qv mv dv e hb hC => by
     refine TD rfl (Hp.AB _ _ _) (by simp [Value.oneCell']) rfl ?_
     rw [Hp.set_set]
     have x3 := Ext.set (o := .cells #[.int .i64 k,.int .u64 v,.slice pv nv cv,.slice qv mv dv] 93 (0,0)) hb
     rcases hC with ⟨z,hz,rfl,rfl,rfl,BM,E6,IM⟩ | ⟨hz,rfl,rfl,rfl,A1⟩
     · refine ⟨fun hh => absurd rfl hh,fun _ => ⟨by omega,z.kind,z.v,pv,nv,cv,qv,mv,dv,Au.Fj (Hp.AB _ _ _),fun PJ oG => ?_⟩⟩
       obtain ⟨w1,w2,w3⟩ := WE hS.ok hS.nn hf dq (by rw [hLl,htp]) hLV hz
       rw [hz] at B9
       have Ct := (BM.mono Mg.mono x3).take (m := n7 - tp) (by omega)
       have hxd := x3.del p7
       have he : Mg ((y2.set BG (.cells #[.int .i64 z.kind,.int .u64 z.v,.slice pv nv cv,.slice qv mv dv] 93 (0,0))).del p7) [.int .i64 z.kind,.int .u64 z.v,.slice pv nv cv,.slice qv mv dv] z := ⟨pv,nv,cv,qv,mv,dv,rfl,E6.mono By.mono hxd,IM.mono Sm.mono hxd⟩
       rw [e1]
       refine AP.Hb Mg.mono Ct rfl (Mg.one _ _ _ he) he (by omega) (fun p' c' y4 JS _ => ⟨_,_,_,rfl,AF BI hr.big,ih (i + 1) _ _ _ _ (st.take (n7 - tp) ++ [z]) (by omega) (by omega) JS (fun u hu => ?_) (by rw [List.length_append,List.length_take,List.length_singleton]; omega) ?_ ?_ ?_⟩) oG
       · rcases List.mem_append.1 hu with hu | hu
         · exact hV u (List.mem_of_mem_take hu)
         · rw [List.mem_singleton] at hu; rw [hu]; exact w1
       · rw [List.map_append,List.sum_append,List.map_singleton,List.sum_singleton,Nat.succ_mul]
         omega
       · rw [List.map_append,List.map_singleton,w2]; exact hT
       · exact B9
     · refine ⟨fun _ => h.no ?_ _ (A1.trans x3),fun hh => absurd (by decide) hh⟩
       rw [B9,hz]; rfl
   have ANR : ∃ u,σ' rb = some u := by
     unfold Hp.ld at nJ
     cases hq : σ' rb with
     | none => rw [hq] at nJ; cases nJ
     | some u => exact ⟨u,rfl⟩
   obtain ⟨urb,T5⟩ := ANR
   refine CE.FP ⟨fun _ => ⟨b,o,rfl,by omega,_,_,_,_,_,_,_,_,_,_,_,_,_,_,by simpa using D6.mono hX,fun _ => ⟨by unfold AG; omega,rb,0,rfl,by omega,_,nJ,by omega,fun cw gn => ⟨?_,fun BG TI => ?_⟩,fun BG TI cw gn => ?_⟩⟩,fun hh => by omega⟩
   · refine Oy Mr hcd hp7 gn (by omega) fun OD OE y xB hy => ⟨OD,_,OE,rfl,fun k hk u hu => ?_,?_,fun BG TI => ?_⟩
     · rw [List.mem_singleton] at hk
       subst hk
       rw [(Ext.set gn) _ _ T5] at hu
       rw [hy _ _ T5]; exact hu
     · exact ⟨f0,#[],#[],rfl,tI,dt y OD OE hy xB _ fun y2 k v pv nv cv qv mv dv e hC => ⟨k,v,pv,nv,cv,qv,mv,dv,e,rfl,fun BG TI => tail y2 BG k v pv nv cv qv mv dv e TI hC⟩⟩
     · exact ⟨f0,#[],#[],rfl,tI,Spec.Gk TI (dt y OD OE hy xB _ fun y2 k v pv nv cv qv mv dv e hC qK => ⟨k,v,pv,nv,cv,qv,mv,dv,e,rfl,tail y2 BG k v pv nv cv qv mv dv e qK hC⟩)⟩
   · have sk := (Hp.Bq TI)
     refine AK.Gk TI (Oy Mr hcd hp7 gn (by omega) fun OD OE y xB hy hny => ⟨OD,_,OE,rfl,fun k hk u hu => ?_,?_⟩)
     · rw [List.mem_singleton] at hk
       subst hk
       have BD : k ≠ BG := fun e => by rw [e,sk.2] at T5; cases T5
       rw [Hp.AO BD] at hu ⊢
       rw [(Ext.set gn) _ _ T5] at hu
       rw [hy _ _ T5]; exact hu
     · exact ⟨f0,#[],#[],rfl,tI,Spec.Gk hny (dt y OD OE hy xB _ fun y2 k v pv nv cv qv mv dv e hC qK => ⟨k,v,pv,nv,cv,qv,mv,dv,e,rfl,tail y2 BG k v pv nv cv qv mv dv e qK hC⟩)⟩
   · have tJ := (Hp.Bq gn)
     have sk : (σ'.set cw (.cells #[] 93 (0,0))) BG = none := by rw [Hp.AO (Ne.symm tJ.1)]; exact TI
     dsimp only
     rw [Hp.Kd (Ne.symm tJ.1)]
     refine AK.Gk sk (Oy Mr hcd hp7 tJ.2 (by omega) fun OD OE y xB hy hny => ⟨OD,_,OE,rfl,fun k hk u hu => ?_,?_⟩)
     · rw [List.mem_singleton] at hk
       subst hk
       have BD : k ≠ BG := fun e => by rw [e,TI] at T5; cases T5
       rw [Hp.AO BD] at hu ⊢
       rw [(Ext.set tJ.2) _ _ T5] at hu
       rw [hy _ _ T5]; exact hu
     · exact ⟨f0,#[],#[],rfl,tI,Spec.Gk hny (dt y OD OE hy xB _ fun y2 k v pv nv cv qv mv dv e hC qK => ⟨k,v,pv,nv,cv,qv,mv,dv,e,rfl,tail y2 BG k v pv nv cv qv mv dv e qK hC⟩)⟩
end
end TwW
end
section
namespace TwW
open Go Tw Go.RowKit Go.Proofs.Tryz
def Di (T : List Nd) (ss : List Sr) : Int := match Jb T with
 | none => 220
 | some k => if k = 3 then 220 else if BN none ss = true then 0 else 224
def instF (T : List Nd) (ss : List Sr) (t : Int) : Int × List El :=
 if Di T ss ≠ 0 then (Di T ss,[]) else if ¬ (-1099511627776 ≤ t ∧ t ≤ 1099511627776) then (221,[]) else match BB FF T ss t with
   | none => (223,[])
   | some l => (0,l)
structure Modest (T : List Nd) (ss : List Sr) : Prop where
 t : T.length ≤ 2000000
 tx : ∀ x ∈ T,x.text.size ≤ 4611686018427387904
 s : ss.length ≤ 10000000
 ps : ∀ s ∈ ss,s.ps.length ≤ 1000000000
 nn : ∀ s ∈ ss,∀ p ∈ s.ps,0 ≤ p.2
theorem CJ : ∀ {ss : List Sr} {q : Option (List Lb)},BN q ss = true → ∀ s ∈ ss,Cr s.ls = 0 ∧ GK s.ps = true
 | s :: l,q,h,x,hx => by
   rw [FK] at h
   simp only [Bool.and_eq_true,decide_eq_true_eq] at h
   rcases List.mem_cons.1 hx with rfl | hx
   · exact ⟨h.1.1.1,h.1.1.2⟩
   · exact CJ h.2 x hx
theorem gi.of {T : List Nd} {ss : List Sr} (hM : Modest T ss) (h : BN none ss = true) : gi ss :=
 ⟨⟨fun s hs => gB (CJ h s hs).2,fun s hs => Aq.of (CJ h s hs).1,hM.s⟩,hM.nn,hM.ps⟩
section
variable {σ σ' σ0 : Hp} {R : Rr}
theorem Pk {p q : Option Addr} {n c m d : Nat} {T : List Nd} {ss : List Sr} {t kf : Int} (hg : Gl σ) (hr : Aa 10 EI σ p n T) (hs : Aa 2 Ay σ q m ss) (hS : gi ss) (hn : n ≤ 4096) (ht : -4611686018427387904 ≤ t ∧ t ≤ 4611686018427387904) (tH : DA T [] = some [kf])
   (h : ∀ l p' n' c' σ',BB FF T ss t = some l → Ext σ σ' → Aa 2 By σ' p' n' l → R (.returned (.tuple #[.slice p' n' c',.int .i64 0])) σ') (h' : BB FF T ss t = none → ∀ σ',Ext σ σ' → R (.returned (.tuple #[.slice none 0 0,.int .i64 223])) σ') :
   Spec prog 30 #[.slice p n c,.slice q m d,.int .i64 t] σ R := by
 refine FW.start fun ab qF => ?_
 have xa := Ext.set (o := .cells #[.slice q m d,.int .i64 t] 97 (0,0)) qF
 have hA : Pj (σ.set ab (.cells #[.slice q m d,.int .i64 t] 97 (0,0))) ab ss t := ⟨⟨q,m,d,Ai (Hp.AB _ _ _) rfl,hs.mono Ay.mono xa⟩,Ai (Hp.AB _ _ _) rfl⟩
 refine oP hA (hg.mono xa) (hr.mono EI.mono xa) hS hn ht tH ⟨fun x σ1 pv nv cv qv mv dv hx CO h1 h2 => ?_,fun Bc σ1 CO => ?_⟩
 · have hm : BB FF T ss t = some (if x.kind = 1 then [⟨[],x.v⟩] else x.vec) := by
     unfold BB
     cases B9 : HG FF ss t T [] with
     | none => rw [B9] at hx; cases hx
     | some st =>
       rw [B9] at hx
       show (st.head?.map _) = _
       rw [show st.head? = some x from hx]; rfl
   refine ⟨_,_,_,_,_,_,_,_,_,rfl,fun _ => ⟨fun hk => fun LJ ANS => FW.AX ?_,fun hk => FW.AX ?_⟩⟩
   · rw [if_pos hk] at hm
     refine h _ _ _ _ _ hm (xa.trans (CO.trans (.set ANS))) ⟨rfl,[.slice none 0 0,.int .u64 x.v],⟨rfl,by omega,.inr ⟨LJ,0,rfl,Au.Fj (c := [.slice none 0 0,.int .u64 x.v]) (Hp.AB _ _ _)⟩⟩,rfl,fun i y hy => ?_⟩
     cases i with
     | zero =>
       simp only [List.getElem?_cons_zero,Option.some.injEq] at hy
       subst hy
       exact ⟨none,0,0,rfl,Aa.nil⟩
     | succ i => simp at hy
   · rw [if_neg hk] at hm
     exact h _ _ _ _ _ hm (xa.trans CO) h1
 · have hm : BB FF T ss t = none := by
     unfold BB
     cases B9 : HG FF ss t T [] with
     | none => rfl
     | some st =>
       rw [B9] at Bc
       show (st.head?.map _) = _
       rw [show st.head? = none from Bc]; rfl
   exact ⟨_,_,_,_,_,_,_,_,_,rfl,fun _ => ⟨fun hk => absurd hk (by decide),fun _ => FW.AX (h' hm _ (xa.trans CO))⟩⟩
theorem U3 {p q : Option Addr} {n c m d : Nat} {T : List Nd} {ss : List Sr} (hr : Aa 10 EI σ p n T) (hs : Aa 2 Ay σ q m ss) (hM : Modest T ss) (h : ∀ σ',Ext σ σ' → R (.returned (.int .i64 (Di T ss))) σ') : Spec prog 28 #[.slice p n c,.slice q m d] σ R := by
 have hl : T.length = n := hr.1
 have hMt := hM.t
 refine Uh.start (Ml hr (by omega) hM.tx (fun k σ1 hk CO => ⟨_,_,_,rfl,fun hh => absurd rfl hh,fun _ => ⟨fun h3 => ?_,fun h3 => YH (hs.mono Ay.mono CO) fun σ2 A1 => ⟨_,rfl,fun BD => ?_,fun h0 => ?_⟩⟩⟩) fun k j e σ1 hk he CO => ⟨_,_,_,rfl,fun _ => ?_,fun hh => absurd he hh⟩)
 · have := h σ1 CO
   rwa [show Di T ss = 220 by unfold Di; rw [hk]; exact if_pos h3] at this
 · have := h σ2 (CO.trans A1)
   have ho : ¬ BN none ss = true := fun ho => BD (by rw [ho]; rfl)
   rwa [show Di T ss = 224 by unfold Di; rw [hk]; show (if k = 3 then _ else _) = _; rw [if_neg h3,if_neg ho]] at this
 · have := h σ2 (CO.trans A1)
   have ho : BN none ss = true := by
     cases hq : BN none ss with
     | true => rfl
     | false => rw [hq] at h0; exact absurd (by decide) h0
   rwa [show Di T ss = 0 by unfold Di; rw [hk]; show (if k = 3 then _ else _) = _; rw [if_neg h3,if_pos ho]] at this
 · have := h σ1 CO
   rwa [show Di T ss = 220 by unfold Di; rw [hk]] at this
def EIn (τ : Hp) (vs : List Value) (x : El × Nat) : Prop := ∃ p n c,vs = [.slice p n c,.slice (aD x.2 0) 1 1] ∧ Cq τ p n x.1.ls
theorem EIn.mono : Ha EIn := fun _ _ _ _ hx ⟨p,n,c,hv,h⟩ => ⟨p,n,c,hv,h.mono BT.mono hx⟩
structure ZK (t : Int) (τ σ : Hp) (p : Option Addr) (n c : Nat) (l : List El) (bs : List Nat) : Prop where
 len : bs.length = l.length
 own : ∃ cs,A8 2 σ p n c cs ∧ Ch 2 EIn τ cs (l.zip bs)
 tK : ∀ (i b : Nat) (e : El),bs[i]? = some b → l[i]? = some e → σ b = some (.cells #[.int .i64 t,.int .u64 e.v] 50 (0,0))
 op : ∀ a,p = some a → τ a.block = none ∧ a.block ∉ bs
 tb : ∀ b ∈ bs,τ b = none
 nd : bs.Nodup
 ext : Ext τ σ
theorem ZK.known {t : Int} {τ : Hp} {p : Option Addr} {n c : Nat} {l : List El} {bs : List Nat} (h : ZK t τ σ p n c l bs) : ∀ b ∈ bs,∃ u,σ b = some u := fun b hb => by
 obtain ⟨i,hi⟩ := List.mem_iff_getElem?.1 hb
 have Az := (List.getElem?_eq_some_iff.1 hi).1
 exact ⟨_,h.tK i b _ hi (List.getElem?_eq_getElem (by rw [← h.len]; exact Az))⟩
theorem ZK.mono {t : Int} {τ : Hp} {p : Option Addr} {n c : Nat} {l : List El} {bs : List Nat} (h : ZK t τ σ p n c l bs) (hx : Ext σ σ') : ZK t τ σ' p n c l bs :=
 ⟨h.len,let ⟨cs,h1,h2⟩ := h.own; ⟨cs,h1.mono hx,h2⟩,fun i b e hb he => hx _ _ (h.tK i b e hb he),h.op,h.tb,h.nd,h.ext.trans hx⟩
theorem ZK.rd {t : Int} {τ : Hp} {p : Option Addr} {n c : Nat} {l : List El} {bs : List Nat} (h : ZK t τ σ p n c l bs) : Aa 2 Ay σ p n (l.map fun e => ⟨e.ls,[(t,e.v)]⟩) := by
 obtain ⟨cs,h1,h2⟩ := h.own
 have hz : (l.zip bs).length = l.length := by rw [List.length_zip,h.len,Nat.min_self]
 have hln : l.length = n := by
   have a1 := h1.1
   have a2 := h2.1
   rw [hz] at a2; omega
 refine ⟨by rw [List.length_map]; exact hln,cs,h1.rd,by rw [h2.1,hz,List.length_map],fun i s hs => ?_⟩
 rw [List.getElem?_map] at hs
 cases he : l[i]? with
 | none => rw [he] at hs; cases hs
 | some e =>
   rw [he] at hs
   simp only [Option.map_some,Option.some.injEq] at hs
   subst hs
   have Az := (List.getElem?_eq_some_iff.1 he).1
   obtain ⟨b,hb⟩ : ∃ b,bs[i]? = some b := ⟨_,List.getElem?_eq_getElem (by rw [h.len]; exact Az)⟩
   obtain ⟨p1,n1,c1,hv,ZJ⟩ := h2.2 i (e,b) (List.getElem?_zip_eq_some.2 ⟨he,hb⟩)
   refine ⟨p1,n1,c1,aD b 0,1,1,hv,ZJ.mono BT.mono h.ext,⟨rfl,[.int .i64 t,.int .u64 e.v],⟨rfl,by omega,.inr ⟨b,0,rfl,Au.Fj (c := [.int .i64 t,.int .u64 e.v]) (h.tK i b e hb he)⟩⟩,rfl,fun j y hy => ?_⟩,Nat.le_refl _⟩
   cases j with
   | zero => simp only [List.getElem?_cons_zero,Option.some.injEq] at hy; subst hy; rfl
   | succ j => simp at hy
theorem ZK.add {t : Int} {τ : Hp} {p : Option Addr} {n c b : Nat} {l : List El} {bs : List Nat} {e : El} {pl : Option Addr} {nl cl : Nat} {y : Hp} {Φ : Value → Hp → Prop} (h : ZK t τ σ p n c l bs) (hy : Ext σ y) (hr : Cq (σ.new y) pl nl e.ls) (hb : y b = none) (hn : n ≤ 1000000000000)
   (hΦ : ∀ τ' p' c' σ',ZK t τ' σ' p' (n + 1) c' (l ++ [e]) (bs ++ [b]) → Ext τ τ' → Φ (.slice p' (n + 1) c') σ') :
   Al (Hp.set y b (.cells #[.int .i64 t,.int .u64 e.v] 50 (0,0))) fun Vk => AK prog (Builtin.append_ #[23,23] 23 #[.slice p n c,(.slice (aD Vk 0) 1 1)]) (Hp.set (Hp.set y b (.cells #[.int .i64 t,.int .u64 e.v] 50 (0,0))) Vk (.cells #[.slice pl nl cl,.slice (aD b 0) 1 1] 40 (0,0))) Φ := fun Vk AAq => by
 obtain ⟨cs,h1,h2⟩ := h.own
 have xb := Ext.set (o := .cells #[.int .i64 t,.int .u64 e.v] 50 (0,0)) hb
 have xc := Ext.set (o := .cells #[.slice pl nl cl,.slice (aD b 0) 1 1] 40 (0,0)) AAq
 have X := hy.trans (xb.trans xc)
 have hz : (l.zip bs).length = l.length := by rw [List.length_zip,h.len,Nat.min_self]
 have AAr : σ b = none := BF hy hb
 have hnb : b ≠ Vk := fun e => by rw [← e,Hp.AB] at AAq; cases AAq
 refine DB (h1.mono X) (q := aD Vk 0) (ys := [.slice pl nl cl,.slice (aD b 0) 1 1]) ⟨rfl,by omega,.inr ⟨Vk,0,rfl,Au.Fj (c := [.slice pl nl cl,.slice (aD b 0) 1 1]) (Hp.AB _ _ _)⟩⟩ (fun u hu => by
   simp only [List.mem_cons,List.not_mem_nil,or_false] at hu
   rcases hu with rfl | rfl <;> rfl) (by omega) fun p' c' σ5 OF Tu => ?_
 have T : ∀ k u,σ k = some u → (∀ a,p = some a → k ≠ a.block) → σ5 k = some u ∧ ∀ a,p' = some a → k ≠ a.block := fun k u hk BD => by
   obtain ⟨a1,a2⟩ := AU.1 (Tu k u (AU.2 ⟨BD,X _ _ hk⟩))
   exact ⟨a2,a1⟩
 have Tb := AU.1 (Tu b _ (AU.2 ⟨fun a ha e => h1.block a ha (by rw [← e]; exact AAr),xc _ _ (Hp.AB _ _ _)⟩))
 have tt : Ext τ (τ.or (σ.new y)) := Ext.sL _ _
 have nt : Ext (σ.new y) (τ.or (σ.new y)) := Ext.aY fun k hk => by
   cases hh : τ k with
   | none => rfl
   | some u =>
     have h3 := h.ext _ _ hh
     cases h4 : (σ.new y) k with
     | none => exact absurd h4 hk
     | some v => rw [(AY.1 h4).1] at h3; cases h3
 have kn : ∀ k,(∃ u,σ k = some u) → τ k = none → (τ.or (σ.new y)) k = none := fun k ⟨u,hu⟩ hk => by
   rw [Hp.aY hk]
   cases hh : (σ.new y) k with
   | none => rfl
   | some v => rw [(AY.1 hh).1] at hu; cases hu
 have tb : (τ.or (σ.new y)) b = none := by
   rw [Hp.aY (BF h.ext AAr)]
   cases hh : (σ.new y) b with
   | none => rfl
   | some v => rw [(AY.1 hh).2] at hb; cases hb
 have qO : b ∉ bs := fun hc => by obtain ⟨u,hu⟩ := h.known b hc; rw [AAr] at hu; cases hu
 have hE5 : Ext (τ.or (σ.new y)) σ5 := fun k u hk => by
   have hyk : y k = some u := (Ext.nB (h.ext.trans hy) (Ext.Cw _ _)) _ _ hk
   refine (AU.1 (Tu k u (AU.2 ⟨fun a ha e => ?_,xc _ _ (xb _ _ hyk)⟩))).2
   have jB : ∃ u,σ a.block = some u := by
     cases hh : σ a.block with
     | none => exact absurd hh (h1.block a ha)
     | some u => exact ⟨u,rfl⟩
   rw [e,kn a.block jB (h.op a ha).1] at hk; cases hk
 refine hΦ (τ.or (σ.new y)) p' c' σ5 ⟨by simp [h.len],⟨_,OF,?_⟩,fun i b' e' O5 QQ => ?_,fun a ha => ⟨?_,fun hc => ?_⟩,fun b' O5 => ?_,?_,hE5⟩ tt
 · rw [List.zip_append h.len.symm]
   exact (h2.mono EIn.mono tt).snoc rfl ⟨pl,nl,cl,rfl,hr.mono BT.mono nt⟩
 · rw [List.getElem?_append] at O5 QQ
   split at O5
   · rename_i Az
     rw [if_pos (by rw [← h.len]; exact Az)] at QQ
     have := h.tK i b' e' O5 QQ
     exact (T b' _ this fun a ha e => (h.op a ha).2 (e ▸ List.mem_of_getElem? O5)).1
   · rename_i Az
     rw [if_neg (by rw [← h.len]; exact Az),← h.len] at QQ
     cases hq : i - bs.length with
     | zero =>
       rw [hq] at O5 QQ
       simp only [List.getElem?_cons_zero,Option.some.injEq] at O5 QQ
       subst O5; subst QQ
       exact Tb.2
     | succ j => rw [hq] at O5; simp at O5
 · cases hh : (τ.or (σ.new y)) a.block with
   | none => rfl
   | some u =>
     exfalso
     have hyk : y a.block = some u := (Ext.nB (h.ext.trans hy) (Ext.Cw _ _)) _ _ hh
     refine (AU.1 (Tu a.block u (AU.2 ⟨fun a' ZI e => ?_,xc _ _ (xb _ _ hyk)⟩))).1 a ha rfl
     have jB : ∃ u,σ a'.block = some u := by
       cases hh : σ a'.block with
       | none => exact absurd hh (h1.block a' ZI)
       | some u => exact ⟨u,rfl⟩
     rw [e,kn a'.block jB (h.op a' ZI).1] at hh; cases hh
 · rcases List.mem_append.1 hc with hc | hc
   · obtain ⟨u,hu⟩ := h.known _ hc
     exact (T a.block u hu fun a' ZI e => (h.op a' ZI).2 (e ▸ hc)).2 a ha rfl
   · rw [List.mem_singleton] at hc
     exact Tb.1 a ha hc.symm
 · rcases List.mem_append.1 O5 with O5 | O5
   · exact kn b' (h.known _ O5) (h.tb _ O5)
   · rw [List.mem_singleton] at O5; rw [O5]; exact tb
 · rw [List.nodup_append]
   exact ⟨h.nd,by simp,fun a ha b' O5 e => by rw [List.mem_singleton] at O5; rw [e,O5] at ha; exact qO ha⟩
end
end TwW
end
section
namespace TwW
open Go Tw Go.RowKit Go.Proofs.Tryz
theorem oS {ss : List Sr} {t : Int} (hS : gi ss) : ∀ (T : List Nd) (st r : List Vv) (ty : List Int),DA T (st.map (·.kind)) = some ty → HG FF ss t T st = some r → (∀ x ∈ st,VG x) → (∀ x ∈ r,VG x) ∧ (r.map D5).sum ≤ (st.map D5).sum + T.length * ss.length
 | [],st,r,ty,_,hr,hV => by
   cases hr
   exact ⟨hV,by omega⟩
 | x :: T,st,r,ty,hT,hr,hV => by
   have Gm : (BQ x (st.map (·.kind))).1 = 0 := Decidable.byContradiction fun BD => by
     rw [DA,if_neg BD] at hT; cases hT
   rw [DA,if_pos Gm] at hT
   obtain ⟨hf,hpl,hmo,dq,xA⟩ := WG Gm
   have xV := TH hf
   rw [List.length_map] at dq xA hpl
   rw [xA,← List.map_drop,← List.map_take] at hT
   rw [← List.map_drop] at dq
   rw [HG] at hr
   have hLl : ((st.drop (st.length - x.parts.toNat)).length : Int) = x.parts := by rw [List.length_drop]; omega
   have hLV : ∀ y ∈ st.drop (st.length - x.parts.toNat),VG y := fun y hy => hV y (List.mem_of_mem_drop hy)
   have Mj : (st.map D5).sum = ((st.take (st.length - x.parts.toNat)).map D5).sum + ((st.drop (st.length - x.parts.toNat)).map D5).sum := by
     rw [← List.sum_append,← List.map_append,List.take_append_drop]
   cases hz : F6 FF ss t x (st.drop (st.length - x.parts.toNat)) with
   | none => rw [hz] at hr; cases hr
   | some z =>
     rw [hz] at hr
     obtain ⟨w1,w2,w3⟩ := WE hS.ok hS.nn hf dq hLl hLV hz
     obtain ⟨g1,g2⟩ := oS hS T (st.take (st.length - x.parts.toNat) ++ [z]) r ty (by rw [List.map_append,List.map_singleton,w2]; exact hT) hr (fun u hu => by
       rcases List.mem_append.1 hu with hu | hu
       · exact hV u (List.mem_of_mem_take hu)
       · rw [List.mem_singleton] at hu; rw [hu]; exact w1)
     refine ⟨g1,?_⟩
     rw [List.map_append,List.sum_append,List.map_singleton,List.sum_singleton] at g2
     rw [List.length_cons,Nat.succ_mul]
     omega
theorem U4 {ss : List Sr} {t k : Int} {T : List Nd} {l : List El} (hS : gi ss) (hT : DA T [] = some [k]) (h : BB FF T ss t = some l) : (∀ e ∈ l,Aq e.ls) ∧ l.length ≤ 1 + T.length * ss.length := by
 unfold BB at h
 cases hr : HG FF ss t T [] with
 | none => rw [hr] at h; cases h
 | some st =>
   rw [hr] at h
   obtain ⟨g1,g2⟩ := oS hS T [] st _ hT hr (fun x hx => by cases hx)
   change (st.head?.map fun v : Vv => if v.kind = 1 then [(⟨[],v.v⟩ : El)] else v.vec) = some l at h
   cases st with
   | nil => cases h
   | cons v st =>
     simp only [List.head?_cons,Option.map_some,Option.some.injEq] at h
     have hv := g1 v (by simp)
     rw [List.map_cons,List.sum_cons] at g2
     simp only [List.map_nil,List.sum_nil] at g2
     unfold D5 at g2
     split at h
     · subst h
       exact ⟨fun e he => by rw [List.mem_singleton] at he; subst he; exact ⟨Nat.zero_le _,fun x hx => by cases hx⟩,by simp⟩
     · subst h
       exact ⟨fun e he => (hv.el e he).1,by omega⟩
section
variable {σ σ' σ0 : Hp} {R : Rr}
theorem Oz {t : Int} (h : R (.returned (.bool (decide (-1099511627776 ≤ t ∧ t ≤ 1099511627776)))) σ) : Spec prog 29 #[.int .i64 t] σ R := by
 refine Uj.start ⟨fun h1 => ?_,fun h1 => ?_⟩
 · rw [show decide (-1099511627776 ≤ t ∧ t ≤ 1099511627776) = decide (t ≤ 1099511627776) from decide_eq_decide.2 ⟨fun h => h.2,fun h => ⟨h1,h⟩⟩] at h; exact h
 · rw [show decide (-1099511627776 ≤ t ∧ t ≤ 1099511627776) = false from decide_eq_false fun hh => h1 hh.1] at h; exact h
theorem Kr {T : List Nd} {k : Int} (h : Jb T = some k) : DA T [] = some [k] ∧ T.length ≤ 4096 := by
 unfold Jb at h
 cases hr : DA T [] with
 | none => rw [hr] at h; cases h
 | some st =>
   rw [hr] at h
   match st with
   | [] => cases h
   | [x] =>
     change (if T.length ≤ 4096 then some x else none) = some k at h
     split at h
     · rename_i h4
       cases h
       exact ⟨rfl,h4⟩
     · cases h
   | _ :: _ :: _ => cases h
theorem inst_spec {p q : Option Addr} {n c m d : Nat} {T : List Nd} {ss : List Sr} {t : Int} (hg : Gl σ) (hr : Aa 10 EI σ p n T) (hs : Aa 2 Ay σ q m ss) (hM : Modest T ss)
   (h : ∀ τ p' n' c' σ' bs,(instF T ss t).1 = 0 → ZK t τ σ' p' n' c' (instF T ss t).2 bs → Ext σ τ → R (.returned (.tuple #[.slice p' n' c',.int .i64 0])) σ') (h' : ∀ σ',(instF T ss t).1 ≠ 0 → Ext σ σ' → R (.returned (.tuple #[.slice none 0 0,.int .i64 (instF T ss t).1])) σ') :
   Spec prog 11 #[.slice p n c,.slice q m d,.int .i64 t] σ R := by
 refine DF.start (U3 hr hs hM fun σ1 CO => ⟨_,rfl,fun BD => ?_,fun h0 => Oz ⟨_,rfl,fun htf => ?_,fun htt => ?_⟩⟩)
 · have e : instF T ss t = (Di T ss,[]) := by unfold instF; rw [if_pos BD]
   rw [e] at h'
   exact h' σ1 BD CO
 · have e : instF T ss t = (221,[]) := by unfold instF; rw [if_neg h0,if_pos (of_decide_eq_false htf)]
   rw [e] at h'
   exact h' σ1 (by dsimp only; decide) CO
 have Pd := Decidable.not_not.1 h0
 have ht := of_decide_eq_true htt
 obtain ⟨k,hk,hk3,Ck⟩ : ∃ k,Jb T = some k ∧ k ≠ 3 ∧ BN none ss = true := by
   unfold Di at Pd
   cases hq : Jb T with
   | none => rw [hq] at Pd; dsimp only at Pd; exact absurd Pd (by decide)
   | some k =>
     rw [hq] at Pd
     dsimp only at Pd
     by_cases h3 : k = 3
     · rw [if_pos h3] at Pd; exact absurd Pd (by decide)
     · rw [if_neg h3] at Pd
       cases ho : BN none ss with
       | true => exact ⟨k,rfl,h3,rfl⟩
       | false => rw [ho] at Pd; exact absurd Pd (by decide)
 have hS := gi.of hM Ck
 obtain ⟨B9,hlen⟩ := Kr hk
 have hl : T.length = n := hr.1
 refine Pk (hg.mono CO) (hr.mono EI.mono CO) (hs.mono Ay.mono CO) hS (by omega) (by omega) B9 (fun l p' n' c' σ2 hm A1 ZJ => ⟨_,_,_,_,rfl,fun hh => absurd rfl hh,fun _ => ?_⟩) fun hm σ2 A1 => ⟨_,_,_,_,rfl,fun _ => ?_,fun hh => absurd (by decide) hh⟩
 · have e : instF T ss t = (0,l) := by unfold instF; rw [if_neg h0,if_neg (by rw [Decidable.not_not]; exact ht),hm]
   rw [e] at h
   dsimp only at h
   have hll : l.length = n' := ZJ.1
   have hX := CO.trans A1
   obtain ⟨mo1,mo2⟩ := U4 hS B9 hm
   have ANT : n' ≤ 100000000000 := by
     have := Nat.mul_le_mul hlen hS.ok.len
     omega
   suffices H : ∀ g i : Nat,∀ τ p1 n1 c1 σ3 bs,n' - i = g → i ≤ n' → ZK t τ σ3 p1 n1 c1 (l.take i) bs → Ext σ2 τ → DF.aK R t p1 n1 c1 p' n' c' n' i σ3 from
     H n' 0 σ2 none 0 0 σ2 [] rfl (Nat.zero_le _) ⟨rfl,⟨[],A8.nil,by simp [Ch]⟩,fun i b e hb => (by simp at hb),fun a ha => (by cases ha),fun b hb => (by cases hb),List.nodup_nil,.refl _⟩ (.refl _)
   intro g
   induction g with
   | zero =>
     intro i τ p1 n1 c1 σ3 bs nr hi hA CV
     rw [List.take_of_length_le (by omega)] at hA
     exact DF.cu ⟨fun Az => by omega,fun _ => h τ p1 n1 c1 σ3 bs rfl hA (hX.trans CV)⟩
   | succ g ih =>
     intro i τ p1 n1 c1 σ3 bs nr hi hA CV
     have BI : i < n' := by omega
     obtain ⟨x,hx⟩ := ZJ.ex BI
     obtain ⟨b,o,q1,m1,d1,rfl,D6,WA⟩ := By.at ZJ hx
     have hX3 := CV.trans hA.ext
     have AAs := WA.mono BT.mono hX3
     have du : m1 ≤ 1000000000 := by
       have := (mo1 x (List.mem_of_getElem? hx)).rd WA
       omega
     have tL : n1 = i := by
       obtain ⟨cs,a1,a2⟩ := hA.own
       have a3 := a1.1
       have a4 := a2.1
       rw [List.length_zip,hA.len,Nat.min_self,List.length_take] at a4
       omega
     have next : ∀ τ' p2 c2 σ4 bs',ZK t τ' σ4 p2 (n1 + 1) c2 (l.take i ++ [x]) bs' → Ext τ τ' → AG ((i : Int) + 1) ∧ DF.aK R t p2 (n1 + 1) c2 (aD b o) n' c' n' ((i : Int) + 1) σ4 := fun τ' p2 c2 σ4 bs' hA' Mu =>
       ⟨AF BI ZJ.big,ih (i + 1) τ' p2 (n1 + 1) c2 σ4 bs' (by omega) (by omega) (by rw [AS hx]; exact hA') (CV.trans Mu)⟩
     refine DF.cu ⟨fun _ => ⟨b,o,rfl,by omega,q1,m1,d1,x.v,by simpa using D6.mono hX3,fun _ => ⟨fun Wf gY => ⟨?_,fun P1 gp => ?_⟩,fun P1 gp Wf gY => ?_⟩⟩,fun hh => by omega⟩
     · refine DP AAs du (fun ia ib y ho hy => ⟨_,_,_,rfl,fun P1 gp => ZK.add hA hy (ho.rd BT.mono) gp (by omega) fun τ' p2 c2 σ4 hA' Mu => ⟨_,_,_,rfl,next _ _ _ _ _ hA' Mu⟩⟩) gY
     · have AHq := (Hp.Bq gp)
       refine AK.Gk gp (DP AAs du (fun ia ib y ho hy hny => ⟨_,_,_,rfl,ZK.add hA hy (ho.rd BT.mono) hny (by omega) fun τ' p2 c2 σ4 hA' Mu => ⟨_,_,_,rfl,next _ _ _ _ _ hA' Mu⟩⟩) gY)
     · have AAu := (Hp.Bq gY)
       have AHq : (σ3.set Wf (.cells #[] 56 (0,0))) P1 = none := by rw [Hp.AO (Ne.symm AAu.1)]; exact gp
       dsimp only
       rw [Hp.Kd (Ne.symm AAu.1)]
       refine AK.Gk AHq (DP AAs du (fun ia ib y ho hy hny => ⟨_,_,_,rfl,ZK.add hA hy (ho.rd BT.mono) hny (by omega) fun τ' p2 c2 σ4 hA' Mu => ⟨_,_,_,rfl,next _ _ _ _ _ hA' Mu⟩⟩) AAu.2)
 · have e : instF T ss t = (223,[]) := by unfold instF; rw [if_neg h0,if_neg (by rw [Decidable.not_not]; exact ht),hm]
   rw [e] at h'
   exact h' σ2 (by dsimp only; decide) (CO.trans A1)
end
end TwW
end
section
namespace TwW
open Go Tw Go.RowKit Go.Proofs.Tryz
theorem A8.oT {P : Program} {s : Nat} {σ : Hp} {b o n c j : Nat} {cs : List Value} {v : Value} {T : TypeId} {Φ : Unit → Hp → Prop} (ho : A8 s σ (some ⟨b,o,none⟩) n c cs) (hj : j < n * s) (hz : ∀ w,(Go.sizeOf T).run P w = .ok 1 w) (hv : v.cells = #[v]) (h1 : v.oneCell' = true)
   (hΦ : ∀ obj,A8 s (σ.set b obj) (some ⟨b,o,none⟩) n c (cs.set j v) → Φ () (σ.set b obj)) : AK P (Instr.storeAt T (.pointer (some ⟨b,o + j,none⟩)) v) σ Φ := by
 obtain ⟨hl,hb0,h⟩ := ho
 rcases h with ⟨hp,_⟩ | ⟨b',o',arr,T',hp,hb,iU,Ld,Mr⟩
 · cases hp
 · cases hp
   have hns : n * s ≤ c * s := Nat.mul_le_mul_right s iU
   refine AK.store hz hb (by rw [hv]; rfl) (by omega) (by rw [hv]; simpa using h1) (hΦ _ ⟨by rw [List.length_set]; exact hl,hb0,.inr ⟨b,o,_,T',rfl,Hp.AB _ _ _,iU,by simp [Hw]; exact Ld,?_⟩⟩)
   rw [hv,← Mr]
   refine List.ext_getElem? fun i => ?_
   simp only [Mz,Array.toList_setIfInBounds]
   rw [List.getElem?_take,List.getElem?_set,List.getElem?_take]
   by_cases hi : i < n * s
   · rw [if_pos hi,if_pos hi,List.getElem?_drop,List.getElem?_drop,List.getElem?_set]
     by_cases M1 : j = i
     · subst M1
       have Az : o + j < arr.size := by omega
       simp [Az]
       exact Nat.lt_min.2 ⟨hj,by omega⟩
     · rw [if_neg (by omega),if_neg M1]
   · rw [if_neg hi,if_neg hi]
     split
     · omega
     · rfl
theorem Co.one (σ : Hp) (vs : List Value) (x : Pt) (h : Co σ vs x) : Fq vs := by
 rw [show vs = [.int .i64 x.1,.int .u64 x.2] from h]
 intro u hu
 simp only [List.mem_cons,List.not_mem_nil,or_false] at hu
 rcases hu with rfl | rfl <;> rfl
theorem JZ.one (σ : Hp) (vs : List Value) (x : Mt) (h : JZ σ vs x) : Fq vs := by
 rw [show vs = [.int .i64 x.kind,.string x.name,.string x.val] from h]
 intro u hu
 simp only [List.mem_cons,List.not_mem_nil,or_false] at hu
 rcases hu with rfl | rfl | rfl <;> rfl
section
variable {σ σ' σ0 : Hp} {R : Rr}
theorem LU {T Et ty : TypeId} {s bs : Nat} [Ji prog T Et s bs] {q : Option Addr} {j c b : Nat} {cs : List Value} {Φ : Value → Hp → Prop} (Mr : G6 s σ q j cs) (h1 : Fq cs) (hb : j * bs ≤ 140737488355328)
   (hΦ : ∀ p' c' σ',A8 s (σ.new σ') p' j c' cs → Ext σ σ' → Φ (.slice p' j c') σ') (hn : σ b = none) :
   AK prog (Builtin.append_ #[T,T] ty #[.slice (some ⟨b,0,none⟩) 0 0,.slice q j c]) (σ.set b (.cells #[] Et (0,0))) Φ := by
 refine DB A8.empty (Mr.mono (.set hn)) h1 (by rw [Nat.zero_add]; exact hb) fun p' c' σ' Bd I6 => ?_
 have hq : ∀ a : Addr,(some (⟨b,0,none⟩ : Addr)) = some a → σ a.block = none := fun a ha => by cases ha; exact hn
 rw [Nat.zero_add] at Bd ⊢
 rw [List.nil_append] at Bd
 exact hΦ p' c' σ' (A8.ON Bd (E9 hq I6 (.set hn))) (Ik hq I6 (.set hn))
theorem gq {p : Option Addr} {n c : Nat} {ms : List Mt} (hr : Aa 3 JZ σ p n ms) (hn : n ≤ 1000000000) (h : ∀ p' c' σ',Aa 3 JZ (σ.new σ') p' n ms → Ext σ σ' → R (.returned (.slice p' n c')) σ') : Spec prog 31 #[.slice p n c] σ R := by
 obtain ⟨h1,cs,h2,h3⟩ := hr
 exact HQ.start fun b hb => LU h2 (Ch.eb JZ.one h3 (by decide)) (by omega) (fun p' c' σ' ho hx => ⟨_,_,_,rfl,h p' c' σ' ⟨h1,cs,A8.rd ho,h3.1,fun i x hx => h3.2 i x hx⟩ hx⟩) hb
theorem Yk {p : Option Addr} {n c : Nat} {ls : List ByteArray} (hr : G6 1 σ p n (ls.map .string)) (hn : n ≤ 1000000000) (h : ∀ p' c' σ',G6 1 (σ.new σ') p' n (ls.map .string) → Ext σ σ' → R (.returned (.slice p' n c')) σ') : Spec prog 32 #[.slice p n c] σ R :=
 Kb.start fun b hb => LU hr (fun u hu => by obtain ⟨x,_,rfl⟩ := List.mem_map.1 hu; rfl) (by omega) (fun p' c' σ' ho hx => ⟨_,_,_,rfl,h p' c' σ' (A8.rd ho) hx⟩) hb
theorem WH {p : Option Addr} {n c : Nat} {ls : List Lb} (hr : Cq σ p n ls) (hn : n ≤ 1000000000) (h : ∀ p' c' σ',Cq (σ.new σ') p' n ls → Ext σ σ' → R (.returned (.slice p' n c')) σ') : Spec prog 33 #[.slice p n c] σ R :=
 JQ.start fun b hb => DP hr hn (fun p' c' σ' ho hx => ⟨_,_,_,rfl,h p' c' σ' (ho.rd BT.mono) hx⟩) hb
theorem WI {p : Option Addr} {n c : Nat} {ps : List Pt} (hr : Aa 2 Co σ p n ps) (hn : n ≤ 1000000000) (h : ∀ p' c' σ',GD 2 Co (σ.new σ') p' n c' ps → Ext σ σ' → R (.returned (.slice p' n c')) σ') : Spec prog 34 #[.slice p n c] σ R := by
 obtain ⟨h1,cs,h2,h3⟩ := hr
 exact JL.start fun b hb => LU h2 (Ch.eb Co.one h3 (by decide)) (by omega) (fun p' c' σ' ho hx => ⟨_,_,_,rfl,h p' c' σ' ⟨h1,cs,ho,h3.1,fun i x hx => h3.2 i x hx⟩ hx⟩) hb
theorem EI.one (σ : Hp) (vs : List Value) (x : Nd) (h : EI σ vs x) : Fq vs := by
 obtain ⟨p,k,c,q,m,d,rfl,_⟩ := h
 intro u hu
 simp only [List.mem_cons,List.not_mem_nil,or_false] at hu
 rcases hu with rfl | rfl | rfl | rfl | rfl | rfl | rfl | rfl | rfl | rfl <;> rfl
theorem Ay.one (σ : Hp) (vs : List Value) (x : Sr) (h : Ay σ vs x) : Fq vs := by
 obtain ⟨p,n,c,q,m,d,rfl,_⟩ := h
 intro u hu
 simp only [List.mem_cons,List.not_mem_nil,or_false] at hu
 rcases hu with rfl | rfl <;> rfl
structure TOk (T : List Nd) : Prop where
 t : T.length ≤ 2000000
 mt : ∀ x ∈ T,x.mt.length ≤ 1000000000
 nm : ∀ x ∈ T,x.names.length ≤ 1000000000
theorem Fk {p : Option Addr} {n c : Nat} {T : List Nd} (hr : Aa 10 EI σ p n T) (hT : TOk T) (h : ∀ p' c' σ',AP 10 EI σ σ' p' n c' T → R (.returned (.slice p' n c')) σ') : Spec prog 12 #[.slice p n c] σ R := by
 have hl : T.length = n := hr.1
 have ht := hT.t
 refine C7.start ?_
 suffices H : ∀ g i : Nat,∀ p3 n3 c3 σ',n - i = g → i ≤ n → AP 10 EI σ σ' p3 n3 c3 (T.take i) → C7.Ak R p n c p3 n3 c3 i σ' from H n 0 none 0 0 σ rfl (Nat.zero_le _) (AP.nil (.refl _))
 intro g
 induction g with
 | zero =>
   intro i p3 n3 c3 σ' hg hi ho
   rw [List.take_of_length_le (by omega)] at ho
   have hn3 : n = n3 := hl.symm.trans ho.1.1
   subst hn3
   exact C7.AX ⟨fun Az => by omega,fun _ => h p3 c3 σ' ho⟩
 | succ g ih =>
   intro i p3 n3 c3 σ' hg hi ho
   have BI : i < n := by omega
   obtain ⟨x,hx⟩ := hr.ex BI
   obtain ⟨b,o,p1,k1,c1,q1,m1,d1,rfl,D6,gh,hnm⟩ := EI.at hr hx
   have Ux := List.mem_of_getElem? hx
   have a1 := hT.mt x Ux
   have a2 := hT.nm x Ux
   have a3 : x.mt.length = k1 := gh.1
   have a4 : (x.names.map Value.string).length = m1 * 1 := hnm.1
   rw [List.length_map] at a4
   have hn3 : n3 = i := by have := ho.1.1; rw [List.length_take] at this; omega
   refine C7.AX ⟨fun _ => ⟨b,o,rfl,by omega,_,_,_,_,_,_,_,_,_,_,_,_,_,_,by simpa using D6.mono ho.up,fun _ => gq (gh.mono JZ.mono ho.up) (by omega) fun p4 c4 σ2 IM A1 => ⟨_,_,_,rfl,Yk ((hnm.mono ho.up).mono A1) (by omega) fun p5 c5 σ3 V9 CV => ⟨_,_,_,rfl,fun Tp AAv => ?_⟩⟩⟩,fun hh => by omega⟩
   have Ct := ho.mono EI.mono (A1.trans CV)
   have he : EI (σ3.del p3) [.int .i64 x.kind,.int .i64 x.op,.string x.text,.slice p4 k1 c4,.int .i64 x.width,.int .i64 x.back,.int .i64 x.EH,.slice p5 m1 c5,.bool x.bool,.int .i64 x.parts] x :=
     ⟨p4,k1,c4,p5,m1,c5,rfl,IM.mono JZ.mono ((Ext.EL CV).trans (ho.new (A1.trans CV))),V9.mono ((Ext.CA A1).trans (ho.new (A1.trans CV)))⟩
   refine AP.Hb EI.mono Ct rfl (EI.one _ _ _ he) he (by omega) (fun p' c' σ4 JS _ => ⟨_,_,_,rfl,AF BI hr.big,ih (i + 1) _ _ _ _ (by omega) (by omega) (by rw [AS hx]; exact JS)⟩) AAv
structure SOk (ss : List Sr) : Prop where
 s : ss.length ≤ 1000000000000
 ls : ∀ s ∈ ss,s.ls.length ≤ 1000000000
 ps : ∀ s ∈ ss,s.ps.length ≤ 1000000000
theorem Nx {p : Option Addr} {n c : Nat} {ss : List Sr} (hr : Aa 2 Ay σ p n ss) (hS : SOk ss) (h : ∀ p' c' σ',Aa 2 Ay σ' p' n ss → Ext σ σ' → R (.returned (.slice p' n c')) σ') : Spec prog 13 #[.slice p n c] σ R := by
 have hl : ss.length = n := hr.1
 have ht := hS.s
 refine CW.start ?_
 suffices H : ∀ g i : Nat,∀ p3 n3 c3 σ',n - i = g → i ≤ n → AP 2 Ay σ σ' p3 n3 c3 (ss.take i) → CW.Ak R p n c p3 n3 c3 i σ' from H n 0 none 0 0 σ rfl (Nat.zero_le _) (AP.nil (.refl _))
 intro g
 induction g with
 | zero =>
   intro i p3 n3 c3 σ' hg hi ho
   rw [List.take_of_length_le (by omega)] at ho
   have hn3 : n = n3 := hl.symm.trans ho.1.1
   subst hn3
   exact CW.AX ⟨fun Az => by omega,fun _ => h p3 c3 σ' (ho.rd Ay.mono) ho.up⟩
 | succ g ih =>
   intro i p3 n3 c3 σ' hg hi ho
   have BI : i < n := by omega
   obtain ⟨x,hx⟩ := hr.ex BI
   obtain ⟨b,o,p1,k1,c1,q1,m1,d1,rfl,D6,Ja,hps,w5⟩ := Ay.at hr hx
   have Ux := List.mem_of_getElem? hx
   have a1 := hS.ls x Ux
   have a2 := hS.ps x Ux
   have a3 : x.ls.length = k1 := Ja.1
   have a4 : x.ps.length = m1 := hps.1
   have hn3 : n3 = i := by have := ho.1.1; rw [List.length_take] at this; omega
   have TJ := D6.mono ho.up
   refine CW.AX ⟨fun _ => ⟨b,o,rfl,by omega,p1,k1,c1,by simpa using TJ.1,by omega,q1,m1,d1,by simpa using TJ.2.1,WH (Ja.mono BT.mono ho.up) (by omega) fun p4 c4 σ2 IM A1 => ⟨_,_,_,rfl,Kp.HY A1,WI ((hps.mono Co.mono ho.up).mono Co.mono A1) (by omega) fun p5 c5 σ3 V9 CV => ⟨_,_,_,rfl,fun Tp AAv => ?_⟩⟩⟩,fun hh => by omega⟩
   have Ct := ho.mono Ay.mono (A1.trans CV)
   have he : Ay (σ3.del p3) [.slice p4 k1 c4,.slice p5 m1 c5] x :=
     ⟨p4,k1,c4,p5,m1,c5,rfl,IM.mono BT.mono ((Ext.EL CV).trans (ho.new (A1.trans CV))),(V9.rd Co.mono).mono Co.mono ((Ext.CA A1).trans (ho.new (A1.trans CV))),by obtain ⟨cs,Ov,_⟩ := V9.2; exact A8.cap Ov⟩
   refine AP.Hb Ay.mono Ct rfl (Ay.one _ _ _ he) he (by omega) (fun p' c' σ4 JS _ => ⟨_,_,_,rfl,AF BI hr.big,ih (i + 1) _ _ _ _ (by omega) (by omega) (by rw [AS hx]; exact JS)⟩) AAv
end
end TwW
end
section
namespace TwW
open Go Tw Go.RowKit Go.Proofs.Tryz
theorem gu {cs : List Value} {v : Value} {s i j r : Nat} (hr : r < s) : ((cs.set (i * s + r) v).drop (j * s)).take s = if i = j then ((cs.drop (j * s)).take s).set r v else (cs.drop (j * s)).take s := by
 refine List.ext_getElem? fun k => ?_
 by_cases M1 : i = j
 · subst M1
   rw [if_pos rfl,List.getElem?_take,List.getElem?_set,List.getElem?_take,List.getElem?_drop,List.getElem?_drop,List.getElem?_set]
   by_cases hk : k < s
   · rw [if_pos hk,if_pos hk]
     by_cases hrk : r = k
     · subst hrk
       rw [if_pos rfl,if_pos rfl,List.length_take,List.length_drop]
       by_cases Az : i * s + r < cs.length
       · rw [if_pos Az,if_pos (by omega)]
       · rw [if_neg Az,if_neg (by omega)]
     · rw [if_neg (by omega),if_neg hrk]
   · rw [if_neg hk,if_neg hk,if_neg (by omega)]
 · rw [if_neg M1,List.getElem?_take,List.getElem?_take,List.getElem?_drop,List.getElem?_drop,List.getElem?_set]
   by_cases hk : k < s
   · rw [if_pos hk,if_pos hk,if_neg]
     intro e
     rcases Nat.lt_trichotomy i j with h | h | h
     · have := Nat.mul_le_mul_right s (show i + 1 ≤ j from h)
       rw [Nat.succ_mul] at this
       omega
     · exact M1 h
     · have := Nat.mul_le_mul_right s (show j + 1 ≤ i from h)
       rw [Nat.succ_mul] at this
       omega
   · rw [if_neg hk,if_neg hk]
def Awk : Prop := ∀ (σ : Hp) (R : Rr),Gl σ → (∀ σ',Ext σ σ' → R (.returned (.bool true)) σ') → Spec prog 14 #[] σ R
end TwW
end
section
namespace TwW
open Go Tw Go.RowKit Go.Proofs.Tryz
def sX : ByteArray := ⟨#[120]⟩
def sA : ByteArray := ⟨#[97]⟩
def s1_ : ByteArray := ⟨#[49]⟩
def s2_ : ByteArray := ⟨#[50]⟩
def nV : Nd := ⟨2,0,ByteArray.mk #[],[⟨1,Uo,sX⟩],0,0,0,[],false,0⟩
def nA : Nd := ⟨5,1,ByteArray.mk #[],[],0,0,0,[],false,1⟩
def T0 : List Nd := [nV,nA]
def AAw : List Lb := [(Uo,sX),(sA,s1_)]
def AAx : List Lb := [(Uo,sX),(sA,s2_)]
abbrev v1 : Int := 4607182418800017408
abbrev v3 : Int := 4613937818241073152
abbrev v5 : Int := 4617315517961601024
abbrev v8 : Int := 4620693217682128896
def bO : List Sr := [⟨AAw,[(0,v1),(60,v3)]⟩,⟨AAx,[(60,v5)]⟩]
theorem ty0 : Jb T0 = some 2 := by kernel_rfl
theorem ANW : BN none bO = true := by kernel_rfl
theorem AHr : BB FF T0 bO 60 = some [⟨[],v8⟩] := by kernel_rfl
theorem ANX : BB FF T0 bO 0 = some [⟨[],v1⟩] := by kernel_rfl
theorem ANY : DA T0 [] = some [2] := by kernel_rfl
theorem QY : Modest T0 bO := by
 refine ⟨by decide,fun x hx => ?_,by decide,fun s hs => ?_,fun s hs p hp => ?_⟩
 · simp only [T0,List.mem_cons,List.not_mem_nil,or_false] at hx
   rcases hx with rfl | rfl <;> decide
 · simp only [bO,List.mem_cons,List.not_mem_nil,or_false] at hs
   rcases hs with rfl | rfl <;> decide
 · simp only [bO,List.mem_cons,List.not_mem_nil,or_false] at hs
   rcases hs with rfl | rfl <;> simp at hp <;> (try rcases hp with rfl | rfl) <;> (try subst hp) <;> decide
theorem inst60 : instF T0 bO 60 = (0,[⟨[],v8⟩]) := by kernel_rfl
end TwW
end
section
namespace TwW
open Go Tw Go.RowKit Go.Proofs.Tryz
structure Bx where
 b5 : Nat
 b6 : Nat
 DD : Nat
 BG : Nat
 CX : Nat
 Bt : Nat
 D : Nat
 l : Nat
 m : Nat
 p : Option Addr
 n : Nat
 c : Nat
 q : Option Addr
 k : Nat
 d : Nat
 r0 : Loop
abbrev Bx.L (X : Bx) (w : Option Addr) (k e : Nat) (lo : Loop) : List (Nat × Obj) :=
 [(X.l,.loop lo),(X.D,.deferred (some [])),(X.Bt,.cells #[.slice w k e] 23 (0,0)),(X.CX,.cells #[.map (some X.m)] 99 (0,0)),(X.BG,.cells #[.int .i64 0] 24 (0,0)),(X.DD,.cells #[.slice none 0 0] 23 (0,0)),(X.b6,.cells #[.slice X.q X.k X.d] 23 (0,0)),(X.b5,.cells #[.slice X.p X.n X.c] 22 (0,0))]
abbrev Bx.bl (X : Bx) : List Nat := [X.l,X.D,X.Bt,X.CX,X.BG,X.DD,X.b6,X.b5]
def Bx.nd (X : Bx) : Prop := X.bl.Nodup
def Bx.off (X : Bx) (B : Hp) : Prop := ∀ b ∈ X.bl,B b = none
theorem A8.here {s : Nat} {σ σ' : Hp} {p : Option Addr} {n c : Nat} {cs : List Value} (h : A8 s σ p n c cs) (hs : ∀ a,p = some a → σ' a.block = σ a.block) : A8 s σ' p n c cs := by
 obtain ⟨h1,h2,h3 | ⟨b,o,arr,T,rfl,hb,r⟩⟩ := h
 · exact ⟨h1,h2,.inl h3⟩
 · exact ⟨h1,h2,.inr ⟨b,o,arr,T,rfl,(hs _ rfl).trans hb,r⟩⟩
theorem uZ {A B : Hp} {L : List (Nat × Obj)} {i b : Nat} {o : Obj} (hn : (names L).Nodup) (hi : L[i]? = some (b,o)) : Kp [b] (A4 A L) (A4 B L) := fun x hx u hu => by
 rw [List.mem_singleton] at hx; subst hx
 rw [Ed hn hi] at hu ⊢; exact hu
structure St (σ B : Hp) (m b o e k : Nat) : Prop where
 ext : Ext σ B
 own : ∃ pl cl pp cc ds,A8 2 B (some ⟨b,o,none⟩) 1 e [.slice pl 0 cl,.slice pp k cc] ∧ A8 2 B pp k cc ds ∧ (∀ a,pp = some a → a.block ≠ b ∧ a.block ≠ m ∧ σ a.block = none)
 map : MS (fun v _ => v = .int .i64 0) B m [(GJ [],(0 : Int))]
 hb : σ b = none
 hm : σ m = none
 ne : m ≠ b
theorem St.mono {σ B B' : Hp} {m b o e k : Nat} (h : St σ B m b o e k) (hx : Ext B B') : St σ B' m b o e k :=
 ⟨h.ext.trans hx,let ⟨pl,cl,pp,cc,ds,h1,h2,h3⟩ := h.own; ⟨pl,cl,pp,cc,ds,h1.mono hx,h2.mono hx,h3⟩,h.map.mono hx,h.hb,h.hm,h.ne⟩
theorem AAy (w : World) : (Go.sizeOf 71).run prog w = .ok 2 w := by kernel_rfl
theorem AAz (w : World) : (Go.sizeOf 38).run prog w = .ok 1 w := by kernel_rfl
theorem dw (w : World) : (Go.sizeOf 23).run prog w = .ok 1 w := by kernel_rfl
theorem tM (w : World) : (Go.sizeOf 24).run prog w = .ok 1 w := by kernel_rfl
section
variable {σ B : Hp} {R : Rr} {X : Bx}
theorem TL {CY b o e k XL Y6 : Nat} {t v : Int} {vl : Value} {iV : Option Addr} (hn : (CY :: X.bl).Nodup) (Ts : X.off B) (h19 : B CY = none) (h : St σ B X.m b o e k) (hk : k ≤ 10)
   (next : ∀ B',X.off B' → St σ B' X.m b o e (k + 1) → R (.returned (.bool true)) (A4 B' (X.L (some ⟨b,o,none⟩) 1 e (lp X.r0 .ready none)))) :
   Bu.qo R X.l X.r0 X.CX X.Bt t CY 0 iV XL Y6 1 0 (A4 B ((CY,.cells #[vl,.int .u64 v] 71 (0,0)) :: X.L (some ⟨b,o,none⟩) 1 e (lp X.r0 .busy none))) := by
 obtain ⟨pl,cl,pp,cc,ds,h1,h2,h3⟩ := h.own
 let L : List (Nat × Obj) := (CY,.cells #[vl,.int .u64 v] 71 (0,0)) :: X.L (some ⟨b,o,none⟩) 1 e (lp X.r0 .busy none)
 have hL : (names L).Nodup := hn
 have ho : PY L B := fun x hx => by
   rcases List.mem_cons.1 hx with rfl | hx
   · exact h19
   · exact Ts x hx
 have wq : Ext B (A4 B L) := PY.ext hL ho
 have e14 : Hp.ld (A4 B L) ⟨X.Bt,0,none⟩ = some (.slice (some ⟨b,o,none⟩) 1 e) := YA (i := 3) hL rfl rfl
 have D6 : Hp.ld (A4 B L) ⟨b,(o + Int.toNat 0 * 2) + 1,none⟩ = some (.slice pp k cc) := by
   obtain ⟨_,_,h0 | ⟨b',o',hp,hl⟩⟩ := h1.rd.mono wq
   · cases h0
   · cases hp
     simpa using hl.2.1
 refine Bu.q7 ⟨_,1,e,e14,_,1,e,e14,b,o,rfl,by decide,pp,k,cc,D6,v,YA (i := 0) hL rfl rfl,fun Ob ANa => ?_⟩
 obtain ⟨n109,hB9⟩ := CH (L := L) ANa
 have x9 := Ext.set (o := .cells #[.int .i64 t,.int .u64 v] 50 (0,0)) hB9
 show AK prog (Builtin.append_ #[38,38] 38 #[.slice pp k cc,.slice (some ⟨Ob,0,none⟩) 1 1]) ((A4 B L).set Ob (.cells #[.int .i64 t,.int .u64 v] 50 (0,0))) _
 rw [Gx n109]
 have key : ∀ y,B y ≠ none → (∀ a,pp = some a → y ≠ a.block) → ∀ (p' : Option Addr) (σ5 : Hp),Ext ((B.set Ob (.cells #[.int .i64 t,.int .u64 v] 50 (0,0))).del pp) (σ5.del p') → σ5 y = B y ∧ ∀ a,p' = some a → y ≠ a.block := fun y hy BD p' σ5 hx => by
   cases hh : B y with
   | none => exact absurd hh hy
   | some u =>
     obtain ⟨a1,a2⟩ := AU.1 (hx y u (AU.2 ⟨BD,x9 _ _ hh⟩))
     exact ⟨a2,a1⟩
 have hbB : B b ≠ none := h1.block _ rfl
 have hmB := h.map.known
 refine AK.Ee hL (ho.set n109) (DB (h2.mono x9) (q := some ⟨Ob,0,none⟩) (ys := [.int .i64 t,.int .u64 v]) ⟨rfl,by omega,.inr ⟨Ob,0,rfl,Au.Fj (c := [.int .i64 t,.int .u64 v]) (Hp.AB _ _ _)⟩⟩ (fun u hu => by
   simp only [List.mem_cons,List.not_mem_nil,or_false] at hu
   rcases hu with rfl | rfl <;> rfl) (by omega) fun p' c' σ5 OF Tu AHs => ⟨p',k + 1,c',rfl,uZ (i := 3) hL rfl,b,o,rfl,by decide,?_⟩)
 obtain ⟨kb1,kb2⟩ := key b hbB (fun a ha e => (h3 a ha).1 e.symm) p' σ5 Tu
 obtain ⟨km1,km2⟩ := key X.m hmB (fun a ha e => (h3 a ha).2.1 e.symm) p' σ5 Tu
 have ANb : Ext σ σ5 := fun y u hy => by
   obtain ⟨a1,_⟩ := key y (by rw [h.ext _ _ hy]; simp) (fun a ha e => by rw [e,(h3 a ha).2.2] at hy; cases hy) p' σ5 Tu
   rw [a1]; exact h.ext _ _ hy
 have h15 : A8 2 σ5 (some ⟨b,o,none⟩) 1 e [.slice pl 0 cl,.slice pp k cc] := A8.here h1 fun a ha => by cases ha; exact kb1
 rw [show (o + Int.toNat 0 * 2) + 1 = o + 1 by simp]
 refine AK.Ee hL AHs (A8.oT h15 (j := 1) (by decide) AAz rfl rfl fun obj h16 dz => ⟨by unfold AG; omega,?_⟩)
 have dz : PY L (σ5.set b obj) := dz
 refine Bu.ca ⟨fun hh => absurd hh (by decide),fun _ => ⟨Ed (L := L) (i := 1) hL rfl,?_⟩⟩
 have ANc : (σ5.set b obj) CY = none := dz CY (List.mem_cons_self ..)
 have n19 : CY ∉ X.bl := (List.nodup_cons.1 hn).1
 have hX : X.nd := (List.nodup_cons.1 hn).2
 have e1 : (A4 (σ5.set b obj) L).set X.l (.loop (lp X.r0 .ready none)) = A4 ((σ5.set b obj).set CY (.cells #[vl,.int .u64 v] 71 (0,0))) (X.L (some ⟨b,o,none⟩) 1 e (lp X.r0 .ready none)) := by
   rw [Nh (L := L) (i := 1) hL rfl]
   exact Gx (L := X.L (some ⟨b,o,none⟩) 1 e (lp X.r0 .ready none)) n19
 rw [e1]
 have BS := Ext.set (o := .cells #[vl,.int .u64 v] 71 (0,0)) ANc
 refine next _ (fun y hy => ?_) (St.mono ⟨?_,⟨pl,cl,p',c',_,h16,A8.here OF ?_,fun a ha => ⟨?_,?_,?_⟩⟩,h.map.loc ?_,h.hb,h.hm,h.ne⟩ BS)
 · rw [Hp.AO (show y ≠ CY from fun e => n19 (e ▸ hy))]; exact dz y (List.mem_cons_of_mem _ hy)
 · intro y u hy
   rw [Hp.AO (fun e => by rw [e,h.hb] at hy; cases hy)]; exact ANb y u hy
 · intro a ha
   exact Hp.AO (fun e => kb2 a ha e.symm)
 · exact fun e => kb2 a ha e.symm
 · exact fun e => km2 a ha e.symm
 · cases hh : σ a.block with
   | none => rfl
   | some u =>
     exfalso
     exact (key a.block (by rw [h.ext _ _ hh]; simp) (fun a' ZI e => by rw [e,(h3 a' ZI).2.2] at hh; cases hh) p' σ5 Tu).2 a ha rfl
 · rw [Hp.AO h.ne]; exact km1
theorem gw {w : Option Addr} {k e : Nat} {x v : Int} (hn : X.nd) (Ts : X.off B) (hx : Ext σ B) (hg : Gl σ) (hr : Aa 10 EI σ X.p X.n T0) (hs : Aa 2 Ay σ X.q X.k bO) (hM : BB FF T0 bO x = some [⟨[],v⟩]) (w4 : 0 ≤ x ∧ x ≤ 60)
   (next : ∀ B' p1 c1,Ext B B' → X.off B' → Aa 2 By B' p1 1 [⟨[],v⟩] → Bu.j1 R X.l X.r0 X.CX X.Bt x p1 1 c1 1 0 (A4 B' (X.L w k e (lp X.r0 .busy none)))) :
   Bu.Fs R X.l X.r0 X.b5 X.b6 X.DD X.BG X.CX X.Bt x (A4 B (X.L w k e (lp X.r0 .ready none))) := by
 have hL : (names (X.L w k e (lp X.r0 .busy none))).Nodup := hn
 have hL' : (names (X.L w k e (lp X.r0 .ready none))).Nodup := hn
 have el : (A4 B (X.L w k e (lp X.r0 .ready none))).set X.l (.loop (lp X.r0 .busy none)) = A4 B (X.L w k e (lp X.r0 .busy none)) := Hp.set_set
 have gT : T0.length = X.n := hr.1
 have hl3 : T0.length = 2 := rfl
 have AHt : gi bO := gi.of (T := T0) QY ANW
 refine Bu.GF ⟨Ed (i := 0) hL' rfl,?_⟩
 rw [el]
 refine ⟨X.p,X.n,X.c,YA (i := 7) hL rfl rfl,X.q,X.k,X.d,YA (i := 6) hL rfl rfl,?_⟩
 refine Spec.Ee hL Ts (Pk (hg.mono hx) (hr.mono EI.mono hx) (hs.mono Ay.mono hx) AHt (by omega) (by omega) ANY (fun l p' n' c' σ1 hm CO ZJ Ks => ?_) fun hm => ?_)
 · rw [hM] at hm; cases hm
   have tL : 1 = n' := ZJ.1
   subst tL
   exact ⟨_,_,_,_,rfl,fun hh => absurd rfl hh,fun _ => next σ1 p' c' CO Ks ZJ⟩
 · rw [hM] at hm; cases hm
def tN (σ B : Hp) (m : Nat) (w : Option Addr) (j e k : Nat) : Prop :=
 (k = 0 ∧ w = none ∧ j = 0 ∧ e = 0 ∧ Ext σ B ∧ σ m = none ∧ MS (fun v _ => v = .int .i64 0) B m ([] : List (ByteArray × Int))) ∨ (0 < k ∧ ∃ b o,w = some ⟨b,o,none⟩ ∧ j = 1 ∧ St σ B m b o e k)
theorem tN.ext {m j e k : Nat} {w : Option Addr} (h : tN σ B m w j e k) : Ext σ B := by
 rcases h with ⟨_,_,_,_,hx,_⟩ | ⟨_,b,o,_,_,h⟩
 · exact hx
 · exact h.ext
theorem tN.mono {B' : Hp} {m j e k : Nat} {w : Option Addr} (h : tN σ B m w j e k) (hx : Ext B B') : tN σ B' m w j e k := by
 rcases h with ⟨h0,h1,h2,h3,h4,h5,h6⟩ | ⟨h0,b,o,h1,h2,h⟩
 · exact .inl ⟨h0,h1,h2,h3,h4.trans hx,h5,h6.mono hx⟩
 · exact .inr ⟨h0,b,o,h1,h2,h.mono hx⟩
theorem bP {w p1 : Option Addr} {j e k c1 : Nat} {t v : Int} (hn : X.nd) (Ts : X.off B) (h : tN σ B X.m w j e k) (hk : k ≤ 10) (hr : Aa 2 By B p1 1 [⟨[],v⟩])
   (next : ∀ B' b o e',X.off B' → St σ B' X.m b o e' (k + 1) → R (.returned (.bool true)) (A4 B' (X.L (some ⟨b,o,none⟩) 1 e' (lp X.r0 .ready none)))) :
   Bu.j1 R X.l X.r0 X.CX X.Bt t p1 1 c1 1 0 (A4 B (X.L w j e (lp X.r0 .busy none))) := by
 have hL : (names (X.L w j e (lp X.r0 .busy none))).Nodup := hn
 have wq : Ext B (A4 B (X.L w j e (lp X.r0 .busy none))) := PY.ext hL Ts
 obtain ⟨MX,j4,q,m',d,rfl,hl,ZJ⟩ := By.at hr (i := 0) (x := ⟨[],v⟩) rfl
 have hm0 : 0 = m' := ZJ.1
 subst hm0
 refine Bu.ca ⟨fun _ => ⟨MX,j4,rfl,by decide,q,0,d,v,by simpa using hl.mono wq,fun CY h19 => ?_⟩,fun hh => absurd (by decide) hh⟩
 obtain ⟨n19,ANd⟩ := CH (L := X.L w j e (lp X.r0 .busy none)) h19
 have qK : (CY :: X.bl).Nodup := List.nodup_cons.2 ⟨n19,hn⟩
 let L : Value → List (Nat × Obj) := fun lo => (CY,.cells #[.slice q 0 d,.int .u64 v] 71 (0,0)) :: X.L w j e (lp X.r0 .busy none)
 let L0 : List (Nat × Obj) := (CY,.cells #[.slice none 0 0,.int .u64 0] 71 (0,0)) :: X.L w j e (lp X.r0 .busy none)
 let L1 : List (Nat × Obj) := (CY,.cells #[.slice q 0 d,.int .u64 v] 71 (0,0)) :: X.L w j e (lp X.r0 .busy none)
 have ZL : (names L1).Nodup := qK
 have Ks : ∀ {B'},X.off B' → B' CY = none → PY L1 B' := fun ho h9 x hx => by
   rcases List.mem_cons.1 hx with rfl | hx
   · exact h9
   · exact ho x hx
 show AK prog (Instr.storeAt 71 (.pointer (some ⟨CY,0,none⟩)) (.agg #[.slice q 0 d,.int .u64 v])) (A4 B L0) _
 refine AK.Se (L := L0) (i := 0) (c := #[.slice none 0 0,.int .u64 0]) (c' := #[.slice q 0 d,.int .u64 v]) AAy qK rfl rfl rfl rfl rfl ?_
 show ∃ Z5 : Option Nat,Hp.ld (A4 B L1) ⟨X.CX,0,none⟩ = some (.map Z5) ∧ ∃ j8 : Option Addr,∃ j9 : Nat,∃ kA : Nat,Hp.ld (A4 B L1) ⟨CY,0,none⟩ = some (.slice j8 j9 kA) ∧ Spec prog 49 #[.slice j8 j9 kA] (A4 B L1) _
 have AHu : ∀ {B' : Hp} {R' : Rr},Ext B B' → X.off B' → B' CY = none → (∀ B2,Ext B' B2 → X.off B2 → B2 CY = none → R' (.returned (.string (GJ []))) (A4 B2 L1)) → Spec prog 49 #[.slice q 0 d] (A4 B' L1) R' := fun hx ho h9 hh =>
   Spec.Ee ZL (Ks ho h9) (FM (ZJ.mono BT.mono hx) ⟨Nat.zero_le _,fun x hx => by cases hx⟩ fun B2 A1 BM => hh B2 A1 (fun x hx => BM x (List.mem_cons_of_mem _ hx)) (BM CY (List.mem_cons_self ..)))
 refine ⟨some X.m,YA (L := L1) (i := 4) ZL rfl rfl,q,0,d,YA (L := L1) (i := 0) ZL rfl rfl,AHu (.refl _) Ts ANd fun B2 A1 BM h92 => ⟨_,rfl,uZ (L := L1) (i := 4) ZL rfl,?_⟩⟩
 have AHv : Ext B2 (A4 B2 L1) := PY.ext ZL (Ks BM h92)
 rcases (h.mono A1) with ⟨rfl,rfl,rfl,rfl,yT,hm,jK⟩ | ⟨hk0,b,o,rfl,rfl,Fp⟩
 · refine (jK.mono AHv).YX (z := .int .i64 0) (fun w => by kernel_rfl) (fun Bc => ⟨0,false,rfl,fun _ => ?_,fun hh => (by cases hh)⟩) fun v' x' hh => (by cases hh)
   refine ⟨none,0,0,YA (L := L1) (i := 3) ZL rfl rfl,some X.m,YA (L := L1) (i := 4) ZL rfl rfl,q,0,d,YA (L := L1) (i := 0) ZL rfl rfl,AHu A1 BM h92 fun B3 CV Ct h93 => ⟨_,rfl,uZ (L := L1) (i := 4) ZL rfl,?_⟩⟩
   refine AK.Ee ZL (Ks Ct h93) ((jK.mono CV).put (x := (0 : Int)) rfl fun om hm4 ANf => ?_)
   have JS : PY L1 (B3.set X.m om) := ANf
   have xC : MS (fun v _ => v = .int .i64 0) (B3.set X.m om) X.m [(GJ [],(0 : Int))] := hm4
   have AAh : Ext σ (B3.set X.m om) := fun y u hy => by
     rw [Hp.AO (show y ≠ X.m from fun e => by rw [e,hm] at hy; cases hy)]; exact CV _ _ (yT _ _ hy)
   have ANg : Cq (B3.set X.m om) q 0 [] := Aa.nil
   refine ⟨none,0,0,YA (L := L1) (i := 3) ZL rfl rfl,q,0,d,YA (L := L1) (i := 0) ZL rfl rfl,fun iW h91 => ?_⟩
   obtain ⟨n91,ANh⟩ := CH (L := L1) h91
   rw [Gx n91]
   refine AK.Ee ZL (JS.set n91) (DP ANg (by decide) (fun p5 c5 B5 OF Tu AA0 => ⟨p5,0,c5,rfl,uZ (L := L1) (i := 3) ZL rfl,fun Z7 h96 => ?_⟩) ANh)
   obtain ⟨n96,ANi⟩ := CH (L := L1) h96
   have AA0 : PY L1 B5 := AA0
   rw [Gx n96]
   refine AK.Ee ZL (AA0.set n96) (DB (A8.nil (s := 2)) (q := some ⟨Z7,0,none⟩) (ys := [.slice p5 0 c5,.slice none 0 0]) ⟨rfl,by omega,.inr ⟨Z7,0,rfl,Au.Fj (c := [.slice p5 0 c5,.slice none 0 0]) (Hp.AB _ _ _)⟩⟩ (fun u hu => by
     simp only [List.mem_cons,List.not_mem_nil,or_false] at hu
     rcases hu with rfl | rfl <;> rfl) (by decide) fun p6 c6 B6 ho6 hx6 AHw => ⟨p6,1,c6,rfl,?_⟩)
   obtain ⟨b,o,rfl⟩ : ∃ b o,p6 = some ⟨b,o,none⟩ := by
     rcases ho6.2.2 with ⟨_,h2,_⟩ | ⟨b,o,_,_,hp,_⟩
     · cases h2
     · exact ⟨b,o,hp⟩
   have kk : ∀ y u,B5 y = some u → B6 y = some u ∧ y ≠ b := fun y u hy => by
     obtain ⟨a1,a2⟩ := AU.1 (hx6 y u (AU.2 ⟨fun a ha => (by cases ha),Ext.set ANi _ _ hy⟩))
     exact ⟨a2,fun e => a1 _ rfl e⟩
   refine AK.Se (L := L1) (i := 3) (c := #[.slice none 0 0]) (c' := #[.slice (some ⟨b,o,none⟩) 1 c6]) dw ZL rfl rfl rfl rfl rfl ?_
   have pa : ∃ u,B5 X.m = some u := by
     cases hh : B5 X.m with
     | none => exact absurd hh (xC.mono Tu).known
     | some u => exact ⟨u,rfl⟩
   obtain ⟨um,hum⟩ := pa
   have Fp : St σ B6 X.m b o c6 0 := ⟨fun y u hy => (kk y u (Tu _ _ (AAh _ _ hy))).1,⟨p5,c5,none,0,[],ho6,A8.nil,fun a ha => (by cases ha)⟩,(xC.mono Tu).loc (by rw [(kk _ _ hum).1,hum]),?_,hm,(kk _ _ hum).2⟩
   · exact TL qK (fun x hx => AHw x (List.mem_cons_of_mem _ hx)) (AHw CY (List.mem_cons_self ..)) Fp (by decide) fun B7 qL ANj => next B7 b o c6 qL ANj
   · cases hh : σ b with
     | none => rfl
     | some u => exact absurd rfl (kk b u (Tu _ _ (AAh _ _ hh))).2
 · refine (Fp.map.mono AHv).YX (z := .int .i64 0) (fun w => by kernel_rfl) (fun Bc => by simp [DV] at Bc) fun v' x' hh hv => ?_
   subst hv
   exact ⟨0,true,rfl,fun hh => (by cases hh),fun _ => TL qK BM h92 Fp hk fun B3 Ct ANk => next B3 b o e Ct ANk⟩
end
end TwW
end
section
namespace TwW
open Go Tw Go.RowKit Go.Proofs.Tryz
theorem AHx : Di T0 bO = 0 := by kernel_rfl
theorem gx [Er] {R : Rr} {σ : Hp} {p q : Option Addr} {c d : Nat} {p1 q1 : Option Addr} {n1 c1 m1 d1 : Nat} (h : ∀ σ',Ext σ σ' → R (.returned (.int .i64 0)) σ') : Spec prog 51 #[.agg #[.slice p 0 c,.slice p1 n1 c1],.agg #[.slice q 0 d,.slice q1 m1 d1]] σ R :=
 NW.start fun _ _ => LL (ls := []) (ms := []) Aa.nil Aa.nil fun σ' hx => ⟨_,rfl,h σ' hx⟩
theorem gy {R : Rr} {σ0 : Hp} {b1 b2 b3 l : Nat} {I : Nat → Hp → Prop} (h0 : I 0 σ0) (hI : ∀ j σ,I j σ → Hp.ld σ ⟨b1,0,none⟩ = some (.int .i64 0) ∧ Hp.ld σ ⟨b2,0,none⟩ = some (.int .i64 60) ∧ Hp.ld σ ⟨b3,0,none⟩ = some (.int .i64 60))
   (s0 : ∀ σ,I 0 σ → Hx prog l #[.int .i64 0] σ (fun e σ' => e = .returned (.bool true) ∧ I 1 σ')) (s1 : ∀ σ,I 1 σ → Hx prog l #[.int .i64 60] σ (fun e σ' => e = .returned (.bool true) ∧ I 2 σ')) (jU : ∀ σ,I 2 σ → R (.returned (.tuple #[])) σ) :
   Spec prog 71 #[.func (.yield l) #[] #[],.pointer (aD b1 0),.pointer (aD b2 0),.pointer (aD b3 0)] σ0 R := by
 obtain ⟨a1,a2,a3⟩ := hI 0 σ0 h0
 refine CG.start ⟨0,a1,CG.mJ ⟨l,rfl,(s0 σ0 h0).mono fun e σ1 he => ?_⟩⟩
 obtain ⟨rfl,hi⟩ := he
 obtain ⟨c1,c2,c3⟩ := hI 1 σ1 hi
 refine ⟨true,rfl,fun _ => ⟨60,c2,60,c3,by unfold AG; omega,fun _ => ⟨60,c2,by unfold AG; omega,CG.mJ ⟨l,rfl,(s1 σ1 hi).mono fun e σ2 he => ?_⟩⟩,fun hh => absurd (by decide) hh⟩,fun hh => absurd hh (by decide)⟩
 obtain ⟨rfl,hi2⟩ := he
 obtain ⟨d1,d2,d3⟩ := hI 2 σ2 hi2
 exact ⟨true,rfl,fun _ => ⟨60,d2,60,d3,by unfold AG; omega,fun hh => absurd hh (by decide),fun _ => jU σ2 hi2⟩,fun hh => absurd hh (by decide)⟩
section
variable {σ : Hp} {R : Rr}
theorem ANl : Sort.SWO (Proofs.ltOf fun (_ _ : Unit) => (0 : Int)) := ⟨fun _ => rfl,fun _ _ _ h => (by cases h),fun _ _ _ _ _ => rfl⟩
theorem oU {p q : Option Addr} {n c k d : Nat} (hg : Gl σ) (hr : Aa 10 EI σ p n T0) (hs : Aa 2 Ay σ q k bO) (h : ∀ b o e p2 c2 σ',Ext σ σ' → Hp.ld σ' ⟨b,o + 1,none⟩ = some (.slice p2 2 c2) → R (.returned (.tuple #[.slice (some ⟨b,o,none⟩) 1 e,.int .i64 0])) σ') :
   Spec prog 35 #[.slice p n c,.slice q k d,.int .i64 0,.int .i64 60,.int .i64 60] σ R := by
 refine Bu.start fun b5 hb5 b6 hb6 DD ANm BG TI => ?_
 let L1 : List (Nat × Obj) := [(b5,.cells #[.slice p n c] 22 (0,0))]
 let L2 : List (Nat × Obj) := (b6,.cells #[.slice q k d] 23 (0,0)) :: L1
 let L3 : List (Nat × Obj) := (DD,.cells #[.slice none 0 0] 23 (0,0)) :: L2
 let L4 : List (Nat × Obj) := (BG,.cells #[.int .i64 0] 24 (0,0)) :: L3
 obtain ⟨n6,h6⟩ := CH (L := L1) hb6
 obtain ⟨n10,ad⟩ := CH (L := L2) ANm
 obtain ⟨n11,df⟩ := CH (L := L3) TI
 have hn4 : (names L4).Nodup := List.nodup_cons.2 ⟨n11,List.nodup_cons.2 ⟨n10,List.nodup_cons.2 ⟨n6,by simp [L1,names]⟩⟩⟩
 have JS : PY L4 σ := fun b hb => by
   simp only [L4,L3,L2,L1,names,List.map_cons,List.map_nil,List.mem_cons,List.not_mem_nil,or_false] at hb
   rcases hb with rfl | rfl | rfl | rfl
   · exact df
   · exact ad
   · exact h6
   · exact hb5
 refine ⟨p,n,c,YA (L := L4) (i := 3) hn4 rfl rfl,q,k,d,YA (L := L4) (i := 2) hn4 rfl rfl,?_⟩
 show Spec prog 28 #[.slice p n c,.slice q k d] (A4 σ L4) _
 refine Spec.Ee hn4 JS (U3 hr hs QY fun σ1 CO Ks => ⟨_,rfl,fun BD => absurd AHx BD,fun _ => Oz ⟨_,rfl,fun hh => absurd hh (by decide),fun _ => Oz ⟨_,rfl,fun hh => absurd hh (by decide),fun _ => ⟨fun hh => absurd hh (by decide),fun _ => ⟨fun hh => absurd hh (by decide),fun _ => ⟨by unfold AG; omega,by decide,fun Q2 e49 => ⟨fun hh => ?_,fun _ => ?_⟩⟩⟩⟩⟩⟩⟩)
 · have e1 : Q2 = 1 := e49.trans (by decide)
   rw [e1] at hh; exact absurd hh (by decide)
 have Ks : PY L4 σ1 := Ks
 refine AK.Ee hn4 Ks (EF fun m hm oV => ⟨m,rfl,fun CX ANn => ?_⟩)
 have oV : PY L4 (σ1.set m (.map #[] 0)) := oV
 have xm := Ext.set (o := .map #[] 0) hm
 have ANo : σ m = none := BF CO hm
 obtain ⟨n13,h13⟩ := CH (L := L4) ANn
 let L5 : List (Nat × Obj) := (CX,.cells #[.map none] 99 (0,0)) :: L4
 let L5' : List (Nat × Obj) := (CX,.cells #[.map (some m)] 99 (0,0)) :: L4
 have hn5 : (names L5').Nodup := List.nodup_cons.2 ⟨n13,hn4⟩
 show AK prog (Instr.storeAt 99 (.pointer (some ⟨CX,0,none⟩)) (.map (some m))) (A4 (σ1.set m (.map #[] 0)) L5) _
 refine AK.Se (L := L5) (i := 0) (c := #[.map none]) (c' := #[.map (some m)]) (fun w => by kernel_rfl) (List.nodup_cons.2 ⟨n13,hn4⟩) rfl rfl rfl rfl rfl fun Bt ANq => ?_
 obtain ⟨n14,h14⟩ := CH (L := L5') ANq
 let L6 : List (Nat × Obj) := (Bt,.cells #[.slice none 0 0] 23 (0,0)) :: L5'
 have hn6 : (names L6).Nodup := List.nodup_cons.2 ⟨n14,hn5⟩
 have ho6 : PY L6 (σ1.set m (.map #[] 0)) := fun b hb => by
   rcases List.mem_cons.1 hb with rfl | hb
   · exact h14
   rcases List.mem_cons.1 hb with rfl | hb
   · exact h13
   exact oV b hb
 show Spec prog 48 #[.int .i64 0,.int .i64 60,.int .i64 60] (A4 (σ1.set m (.map #[] 0)) L6) _
 refine Spec.Ee hn6 ho6 (NF.start fun c3 hc3 c4 hc4 c5 hc5 oW => ⟨_,_,_,rfl,_,_,rfl,CG.en,fun D l r0 hDl hD hl hy => ?_⟩)
 have oW : PY L6 ((((σ1.set m (.map #[] 0)).set c3 (.cells #[.int .i64 0] 2 (0,0))).set c4 (.cells #[.int .i64 60] 2 (0,0))).set c5 (.cells #[.int .i64 60] 2 (0,0))) := oW
 have x3 := Ext.set (o := .cells #[.int .i64 0] 2 (0,0)) hc3
 have x4 := Ext.set (o := .cells #[.int .i64 60] 2 (0,0)) hc4
 have x5 := Ext.set (o := .cells #[.int .i64 60] 2 (0,0)) hc5
 have g3 := (x4.trans x5) c3 _ (Hp.AB _ _ _)
 have g4 := x5 c4 _ (Hp.AB _ _ _)
 have g5 : ((((σ1.set m (.map #[] 0)).set c3 (.cells #[.int .i64 0] 2 (0,0))).set c4 (.cells #[.int .i64 60] 2 (0,0))).set c5 (.cells #[.int .i64 60] 2 (0,0))) c5 = some (.cells #[.int .i64 60] 2 (0,0)) := Hp.AB _ _ _
 have ANr : MS (fun v _ => v = .int .i64 0) _ m ([] : List (ByteArray × Int)) := (MS.fresh (E := fun v _ => v = .int .i64 0) (σ := σ1)).mono (x3.trans (x4.trans x5))
 have gm := (x3.trans (x4.trans x5)) m _ (Hp.AB _ _ _)
 have wq := CO.trans (xm.trans (x3.trans (x4.trans x5)))
 generalize hB0 : ((((σ1.set m (.map #[] 0)).set c3 (.cells #[.int .i64 0] 2 (0,0))).set c4 (.cells #[.int .i64 60] 2 (0,0))).set c5 (.cells #[.int .i64 60] 2 (0,0))) = B0 at *
 clear x3 x4 x5 hc3 hc4 hc5 xm
 obtain ⟨nD,hDB⟩ := CH (L := L6) hD
 obtain ⟨nl,hlB⟩ := CH (L := L6) hl
 let X : Bx := ⟨b5,b6,DD,BG,CX,Bt,D,l,m,p,n,c,q,k,d,r0⟩
 have hX : X.nd := List.nodup_cons.2 ⟨fun hm => by
   rcases List.mem_cons.1 hm with e | hm
   · exact hDl e.symm
   · exact nl hm,List.nodup_cons.2 ⟨nD,hn6⟩⟩
 have hoX : X.off B0 := fun b hb => by
   rcases List.mem_cons.1 hb with rfl | hb
   · exact hlB
   rcases List.mem_cons.1 hb with rfl | hb
   · exact hDB
   exact oW b hb
 let σb := B0.del (some ⟨m,0,none⟩)
 have na : σb m = none := by
   cases hh : σb m with
   | none => rfl
   | some u => exact absurd rfl ((AU.1 hh).1 _ rfl)
 have xb : Ext σb B0 := Ext.Jh _ _
 have xσ : Ext σ σb := fun y u hy => AU.2 ⟨fun a ha e => (by cases ha; rw [e,ANo] at hy; cases hy),wq _ _ hy⟩
 have db : ∀ {y : Nat} {a : Array Value} {t : Nat},B0 y = some (.cells a t (0,0)) → σb y = some (.cells a t (0,0)) := fun {y a t} hy => AU.2 ⟨fun a' ha e => (by cases ha; rw [e,gm] at hy; cases hy),hy⟩
 show Spec prog 71 #[.func (.yield l) #[] #[],.pointer (aD c3 0),.pointer (aD c5 0),.pointer (aD c4 0)] (A4 B0 (X.L none 0 0 (lp X.r0 .ready none))) _
 have ANs : ∀ {B w j e lo},X.off B → Ext B (A4 B (X.L w j e lo)) := fun {B w j e lo} ho => PY.ext (L := X.L w j e lo) hX ho
 have step : ∀ (x v : Int) (j : Nat),j ≤ 10 → 0 ≤ x ∧ x ≤ 60 → BB FF T0 bO x = some [⟨[],v⟩] → ∀ σ',(∃ B w i e,σ' = A4 B (X.L w i e (lp X.r0 .ready none)) ∧ X.off B ∧ tN σb B X.m w i e j) → Hx prog l #[.int .i64 x] σ' (fun e σ' => e = .returned (.bool true) ∧ ∃ B w i e,σ' = A4 B (X.L w i e (lp X.r0 .ready none)) ∧ X.off B ∧ tN σb B X.m w i e (j + 1)) := by
   rintro x v j hj hx hM _ ⟨B,w,i,e,rfl,hoB,Fp⟩
   refine hy _ _ x (Ed (L := X.L w i e (lp X.r0 .ready none)) (i := 0) hX rfl) ?_
   refine gw (X := X) hX hoB Fp.ext (hg.mono xσ) (hr.mono EI.mono xσ) (hs.mono Ay.mono xσ) hM hx fun B1 p1 c1 CO pZ ZJ => ?_
   exact bP hX pZ (Fp.mono CO) hj ZJ fun B2 b o e2 BM ANt => ⟨rfl,B2,_,1,e2,rfl,BM,.inr ⟨Nat.succ_pos _,b,o,rfl,rfl,ANt⟩⟩
 refine gy (I := fun j σ' => ∃ B w i e,σ' = A4 B (X.L w i e (lp X.r0 .ready none)) ∧ X.off B ∧ tN σb B X.m w i e j) ⟨B0,none,0,0,rfl,hoX,.inl ⟨rfl,rfl,rfl,rfl,xb,na,ANr⟩⟩ ?_ (step 0 v1 0 (by decide) (by decide) ANX) (step 60 v8 1 (by decide) (by decide) AHr) ?_
 · rintro j _ ⟨B,w,i,e,rfl,hoB,Fp⟩
   have hx := Fp.ext.trans (ANs (w := w) (j := i) (e := e) (lo := lp X.r0 .ready none) hoB)
   exact ⟨Ai (hx _ _ (db g3)) rfl,Ai (hx _ _ (db g5)) rfl,Ai (hx _ _ (db g4)) rfl⟩
 rintro _ ⟨B,w,i,e,rfl,hoB,⟨h0,_⟩ | ⟨_,b,o,rfl,rfl,Fp⟩⟩
 · cases h0
 have eL : ∀ lo,(A4 B (X.L (some ⟨b,o,none⟩) 1 e (lp X.r0 .ready none))).set l (.loop lo) = A4 B (X.L (some ⟨b,o,none⟩) 1 e lo) := fun lo => Hp.set_set
 refine ⟨_,.ready,none,rfl,Ed (L := X.L (some ⟨b,o,none⟩) 1 e (lp X.r0 .ready none)) (i := 0) hX rfl,by decide,.inl ⟨rfl,?_⟩⟩
 rw [eL]
 have hXe : (names (X.L (some ⟨b,o,none⟩) 1 e (lp X.r0 .exhausted none))).Nodup := hX
 refine ⟨_,1,e,YA (L := X.L (some ⟨b,o,none⟩) 1 e (lp X.r0 .exhausted none)) (i := 2) hXe rfl rfl,?_⟩
 obtain ⟨pl,cl,pp,cc,ds,k1,k2,k3⟩ := Fp.own
 refine Spec.Ee hXe hoB (dc (ρ := Go.Proofs.Tryz.TB) Go.Proofs.Tryz.AAd (fun w => by kernel_rfl) (fun w => by kernel_rfl) (α := Unit) (enc := fun _ => [.slice pl 0 cl,.slice pp 2 cc]) (fun _ => rfl) (fun _ u hu => by
   simp only [List.mem_cons,List.not_mem_nil,or_false] at hu
   rcases hu with rfl | rfl <;> rfl) (cf := fun _ _ => (0 : Int)) ANl (g := 51) (fun args w => call51 args w) (b := b) (o := o) (ds := [()]) k1 rfl (by decide) (by decide) (fun w hw x y => ?_) fun B1 ds' hp qG Bd I6 Ks => ⟨rfl,?_⟩)
 · exact Spec.oA (R := fun e => e = .returned (.int .i64 0)) (@gx ⟨True⟩ _ _ _ _ _ _ _ _ _ _ _ _ fun σ' Kh => ⟨rfl,Kh⟩) hw
 have hds : ds' = [()] := by
   have := hp.length_eq
   match ds',this with
   | [()],_ => rfl
 subst hds
 have hXL : ∀ {w' j' e' lo'},(names (X.L w' j' e' lo')).Nodup := hX
 refine ⟨_,1,e,YA (L := X.L (some ⟨b,o,none⟩) 1 e (lp X.r0 .exhausted none)) (i := 2) hXe rfl rfl,?_⟩
 refine AK.Se (L := X.L (some ⟨b,o,none⟩) 1 e (lp X.r0 .exhausted none)) (i := 5) (c := #[.slice none 0 0]) (c' := #[.slice (some ⟨b,o,none⟩) 1 e]) dw hXe rfl rfl rfl rfl rfl ?_
 let L7 : List (Nat × Obj) := (X.L (some ⟨b,o,none⟩) 1 e (lp X.r0 .exhausted none)).set 5 (X.DD,.cells #[.slice (some ⟨b,o,none⟩) 1 e] 23 (0,0))
 let L8 : List (Nat × Obj) := L7.set 1 (X.D,.deferred none)
 refine AK.Se (L := L7) (i := 4) (c := #[.int .i64 0]) (c' := #[.int .i64 0]) tM hX rfl rfl rfl rfl rfl ?_
 show ∃ Ce : Option Addr,∃ Cf : Nat,∃ Cg : Nat,∃ Ci : Int,A4 B1 L7 D = some (.deferred (some [])) ∧ Hp.ld ((A4 B1 L7).set D (.deferred none)) ⟨DD,0,none⟩ = some (.slice Ce Cf Cg) ∧ Hp.ld ((A4 B1 L7).set D (.deferred none)) ⟨BG,0,none⟩ = some (.int .i64 Ci) ∧ R (.returned (.tuple #[.slice Ce Cf Cg,.int .i64 Ci])) ((A4 B1 L7).set D (.deferred none))
 rw [show (A4 B1 L7).set D (.deferred none) = A4 B1 L8 from Nh (L := L7) (i := 1) hX rfl]
 refine ⟨some ⟨b,o,none⟩,1,e,0,Ed (L := L7) (i := 1) hX rfl,YA (L := L8) (i := 5) hX rfl rfl,YA (L := L8) (i := 4) hX rfl rfl,?_⟩
 have AHy : PY L8 B1 := Ks
 have x8 : Ext B1 (A4 B1 L8) := PY.ext (L := L8) hX AHy
 refine h b o e pp cc _ (fun y u hyu => x8 _ _ ?_) ?_
 · refine (AU.1 (I6 y u (AU.2 ⟨fun a ha e => ?_,Fp.ext _ _ (xσ _ _ hyu)⟩))).2
   cases ha
   have := xσ _ _ hyu
   rw [e,Fp.hb] at this; cases this
 · obtain ⟨_,_,h0 | ⟨b',o',hp,hl⟩⟩ := (A8.rd Bd).mono x8
   · cases h0
   · cases hp
     exact hl.2.1
end
end TwW
end
section
namespace TwW
open Go Tw Go.RowKit Go.Proofs.Tryz
section
variable {σ : Hp} {R : Rr}
theorem Ny {b : Nat} (h : R (.returned (.int .u64 b)) σ) : Spec prog 25 #[.float .f64 b] σ R := Ug.start (.y No ⟨_,rfl,h⟩)
set_option maxRecDepth 100000 in
theorem AHz {x y : Operand} {a b a' b' : Int} : YF prog (do eqGuard .neq 50 x y (.agg #[.int .i64 a,.int .u64 b]) (.agg #[.int .i64 a',.int .u64 b']); binOp .neq 50 (.agg #[.int .i64 a,.int .u64 b]) (.agg #[.int .i64 a',.int .u64 b'])) σ (.bool (!(a == a' && b == b'))) := fun w _ => by
 have u1 := underlying2
 have u2 := underlying48
 have hS : prog.underlying 50 = some (.struct (prog.fieldsOf 50)) := by kernel_rfl
 have hp : prog.stoodInHeld 50 = false := by kernel_rfl
 have hf : (prog.fieldsOf 50).toList = [{ name := "T",type := 2,offset := 0,embedded := false,tag := "",pkgPath := "",byteOffset := 0 },{ name := "V",type := 48,offset := 1,embedded := false,tag := "",pkgPath := "",byteOffset := 8 }] := by kernel_rfl
 simp only [Sem.run_bind,run_eqGuard_agg _ _ _ _ _ _ _ (show prog.eqGuardType prog.depth 50 = false by kernel_rfl),Result.andThen_ok,run_neq_struct]
 rw [show (10000 : Nat) = 9999 + 1 from rfl,run_equalIn_agg w 9999 50 _ _ hS hp,hf]
 simp only [Op.eqFields]
 go_simp
 by_cases h1 : a = a' <;> by_cases h2 : b = b' <;> simp [h1,h2]
theorem Pm {p p' : Option Addr} {n n' c c' : Nat} {ps : List Pt} (h1 : Aa 2 Co σ p n ps) (h2 : Aa 2 Co σ p' n' ps) (hR : R (.returned (.bool true)) σ) : Spec prog 36 #[.slice p n c,.slice p' n' c'] σ R := by
 have e1 : ps.length = n := h1.1
 have e2 : ps.length = n' := h2.1
 refine Cb.start ⟨fun BD => absurd (by omega) BD,fun _ => ?_⟩
 suffices H : ∀ d i : Nat,n - i = d → i ≤ n → Cb.A5 R p n c p' n' c' i σ from H n 0 rfl (Nat.zero_le _)
 intro d
 induction d with
 | zero => exact fun i hd hi => Cb.A7 ⟨fun Az => by omega,fun _ => hR⟩
 | succ d ih =>
   intro i hd hi
   obtain ⟨x,hx⟩ := h1.ex (show i < n by omega)
   obtain ⟨b,o,rfl,l1⟩ := Co.at h1 hx
   obtain ⟨b',o',rfl,l2⟩ := Co.at h2 hx
   exact Cb.A7 ⟨fun _ => ⟨b,o,rfl,by omega,x.1,x.2,by simpa using l1,b',o',rfl,by omega,x.1,x.2,by simpa using l2,_,AHz,fun hh => by simp at hh,fun _ => ⟨AF (by omega) h1.big,ih (i + 1) (by omega) (by omega)⟩⟩,fun hh => by omega⟩
theorem ANu : AG ((0 : Int) + 0) := by unfold AG; omega
theorem AH0 : AG ((0 : Int) + 0 + 300) := by unfold AG; omega
theorem oX {p : Option Addr} {n c : Nat} (hr : Aa 10 EI σ p n T0) (h : ∀ σ',Ext σ σ' → R (.returned (.tuple #[.int .i64 300,.int .i64 0])) σ') : Spec prog 15 #[.slice p n c] σ R := by
 have hn : 2 = n := hr.1
 subst hn
 refine Ad.start (Ml hr (by decide) QY.tx (fun k σ' hk hx => ⟨_,_,_,rfl,fun hh => absurd rfl hh,fun _ => ?_⟩) fun k j e σ' hk => by rw [ty0] at hk; cases hk)
 have E6 := hr.mono EI.mono hx
 obtain ⟨b,o,p1,k1,c1,q1,m1,d1,rfl,nJ,_,_⟩ := EI.at E6 (i := 0) (x := nV) rfl
 obtain ⟨b',o',p2,k2,c2,q2,m2,d2,he,Ps,_,_⟩ := EI.at E6 (i := 1) (x := nA) rfl
 cases he
 refine Ad.NV ⟨fun _ => ⟨b,o,rfl,by decide,_,_,_,_,_,_,_,_,_,_,_,_,_,_,nJ,fun _ => ⟨fun hh => absurd rfl hh,fun _ => ⟨ANu,fun _ => ⟨AH0,Ad.dC ?_⟩,fun hh => absurd rfl hh⟩⟩⟩,fun hh => absurd (by decide) hh⟩
 refine ⟨fun _ => Ad.HN (Ad.Vq ⟨by unfold AG; omega,Ad.NV ⟨fun _ => ⟨b,o,rfl,by decide,_,_,_,_,_,_,_,_,_,_,_,_,_,_,Ps,fun _ => ⟨fun _ => ⟨fun _ => Ad.Vq ⟨by unfold AG; omega,Ad.NV ⟨fun hh => absurd hh (by decide),fun _ => h _ hx⟩⟩,fun hh => absurd (by decide) hh⟩,fun hh => absurd (by decide) hh⟩⟩,fun hh => absurd (by decide) hh⟩⟩),fun hh => by cases hh⟩
theorem Yl {σ : Hp} {b : Nat} {o : Obj} (h : σ b = none) : Ext σ (σ.set b o) ∧ σ.set b o b = some o := ⟨.set h,Hp.AB _ _ _⟩
theorem Kt {α : Type} {s b n : Nat} {T : TypeId} {E : Hp → List Value → α → Prop} {cs : List Value} {xs : List α} (h : σ b = some (.cells cs.toArray T (0,0))) (hl : cs.length = n * s) (hn : xs.length = n) (hb : n ≤ 1000) (hE : ∀ (i : Nat) (x : α),xs[i]? = some x → E σ ((cs.drop (i * s)).take s) x) : Aa s E σ (aD b 0) n xs :=
 ⟨hn,cs,⟨hl,by omega,.inr ⟨b,0,rfl,Au.Fj h⟩⟩,by rw [hl,hn],hE⟩
theorem bQ : Awk := fun σ R hg h => by
 refine PS.start fun BG df => Ny ⟨_,rfl,Ny ⟨_,rfl,fun G8 h16 Xi h20 => Ny ⟨_,rfl,fun Lh h23 LJ h25 Wc h27 fZ h30 => ?_⟩⟩⟩
 have x11 := Ext.set (o := .cells #[(.string (ByteArray.mk #[95,95,110,97,109,101,95,95])),(.string (ByteArray.mk #[120])),(.string (ByteArray.mk #[97])),(.string (ByteArray.mk #[49]))] 56 (0,0)) df
 have x16 := Ext.set (o := .cells #[.int .i64 0,.int .u64 v1,.int .i64 60,.int .u64 v3] 50 (0,0)) h16
 have Hf := Ext.set (o := .cells #[(.string (ByteArray.mk #[95,95,110,97,109,101,95,95])),(.string (ByteArray.mk #[120])),(.string (ByteArray.mk #[97])),(.string (ByteArray.mk #[50]))] 56 (0,0)) h20
 have C6 := Ext.set (o := .cells #[.int .i64 60,.int .u64 v5] 50 (0,0)) h23
 have Lo := Ext.set (o := .cells #[(.slice (aD BG 0) 2 2),(.slice (aD G8 0) 2 2),(.slice (aD Xi 0) 2 2),(.slice (aD Lh 0) 1 1)] 40 (0,0)) h25
 have Lm := Ext.set (o := .cells #[.int .i64 1,(.string (ByteArray.mk #[95,95,110,97,109,101,95,95])),(.string (ByteArray.mk #[120]))] 77 (0,0)) h27
 obtain ⟨RL,g30⟩ := Yl (o := .cells #[.int .i64 2,.int .i64 0,(.string (ByteArray.mk #[])),(.slice (aD Wc 0) 1 1),.int .i64 0,.int .i64 0,.int .i64 0,.slice none 0 0,.bool false,.int .i64 0,.int .i64 5,.int .i64 1,(.string (ByteArray.mk #[])),.slice none 0 0,.int .i64 0,.int .i64 0,.int .i64 0,.slice none 0 0,.bool false,.int .i64 1] 36 (0,0)) h30
 have g11 := (x16.trans (Hf.trans (C6.trans (Lo.trans (Lm.trans RL))))) BG _ (Hp.AB _ _ _)
 have g16 := (Hf.trans (C6.trans (Lo.trans (Lm.trans RL)))) G8 _ (Hp.AB _ _ _)
 have g20 := (C6.trans (Lo.trans (Lm.trans RL))) Xi _ (Hp.AB _ _ _)
 have g23 := (Lo.trans (Lm.trans RL)) Lh _ (Hp.AB _ _ _)
 have g25 := (Lm.trans RL) LJ _ (Hp.AB _ _ _)
 have g27 := RL Wc _ (Hp.AB _ _ _)
 have hx := x11.trans (x16.trans (Hf.trans (C6.trans (Lo.trans (Lm.trans RL)))))
 change Spec prog 11 #[.slice (aD fZ 0) 2 2,.slice (aD LJ 0) 2 2,.int .i64 60] (Hp.set _ fZ _) _
 generalize hτ : Hp.set _ fZ _ = τ at *
 have rA : Cq τ (aD BG 0) 2 AAw := Kt g11 rfl rfl (by decide) fun i x hx => match i,hx with
   | 0,hx => by cases hx; rfl
   | 1,hx => by cases hx; rfl
   | i + 2,hx => by simp [AAw] at hx
 have rB : Cq τ (aD Xi 0) 2 AAx := Kt g20 rfl rfl (by decide) fun i x hx => match i,hx with
   | 0,hx => by cases hx; rfl
   | 1,hx => by cases hx; rfl
   | i + 2,hx => by simp [AAx] at hx
 have rP : Aa 2 Co τ (aD G8 0) 2 [(0,v1),(60,v3)] := Kt g16 rfl rfl (by decide) fun i x hx => match i,hx with
   | 0,hx => by cases hx; rfl
   | 1,hx => by cases hx; rfl
   | i + 2,hx => by simp at hx
 have rQ : Aa 2 Co τ (aD Lh 0) 1 [(60,v5)] := Kt g23 rfl rfl (by decide) fun i x hx => match i,hx with
   | 0,hx => by cases hx; rfl
   | i + 1,hx => by simp at hx
 have rS : Aa 2 Ay τ (aD LJ 0) 2 bO := Kt g25 rfl rfl (by decide) fun i x hx => match i,hx with
   | 0,hx => by cases hx; exact ⟨_,_,_,_,_,_,rfl,rA,rP,by decide⟩
   | 1,hx => by cases hx; exact ⟨_,_,_,_,_,_,rfl,rB,rQ,by decide⟩
   | i + 2,hx => by simp [bO] at hx
 have rM : Aa 3 JZ τ (aD Wc 0) 1 [⟨1,Uo,sX⟩] := Kt g27 rfl rfl (by decide) fun i x hx => match i,hx with
   | 0,hx => by cases hx; rfl
   | i + 1,hx => by simp at hx
 have rN : G6 1 τ none 0 (([] : List ByteArray).map .string) := ⟨rfl,by decide,.inl rfl⟩
 have rT : Aa 10 EI τ (aD fZ 0) 2 T0 := Kt g30 rfl rfl (by decide) fun i x hx => match i,hx with
   | 0,hx => by cases hx; exact ⟨_,_,_,_,_,_,rfl,rM,rN⟩
   | 1,hx => by cases hx; exact ⟨_,_,_,_,_,_,rfl,Aa.nil,rN⟩
   | i + 2,hx => by simp [T0] at hx
 have AH2 := hg.mono hx
 refine inst_spec AH2 rT rS QY (fun τ1 p' n' c' σ1 bs h0 hA CO => ⟨_,_,_,_,rfl,?_⟩) fun σ1 BD => absurd (by rw [inst60]) BD
 rw [inst60] at hA
 have X1 := CO.trans hA.ext
 refine oU (AH2.mono X1) (rT.mono EI.mono X1) (rS.mono Ay.mono X1) fun b o e p2 c2 σ2 A1 gT => ⟨_,_,_,_,rfl,oX (rT.mono EI.mono (X1.trans A1)) fun σ3 CV => ⟨_,_,rfl,?_⟩⟩
 have hA3 := (hA.mono (A1.trans CV)).rd
 have tL : 1 = n' := hA3.1
 subst tL
 obtain ⟨vP,zT,p1,n1,c1,q1,m1,d1,rfl,hl,_,IM,_⟩ := Ay.at hA3 (i := 0) (s := ⟨[],[(60,v8)]⟩) rfl
 have du : 1 = m1 := IM.1
 subst du
 refine ⟨fun _ => ⟨fun _ => ⟨vP,zT,rfl,by decide,q1,1,d1,by simpa using hl.2.1,Ny ⟨_,rfl,.HY (.refl _),fun ph xR => ?_⟩⟩,fun hh => absurd rfl hh⟩,fun hh => absurd rfl hh⟩
 obtain ⟨Xm,g62⟩ := Yl (o := .cells #[.int .i64 60,.int .u64 v8] 50 (0,0)) xR
 refine Pm (ps := [(60,v8)]) (IM.mono Co.mono Xm) (Kt g62 rfl rfl (by decide) fun i x hx => match i,hx with
   | 0,hx => by cases hx; rfl
   | i + 1,hx => by simp at hx) ⟨_,rfl,fun _ => ⟨fun _ => ⟨fun _ => ⟨b,o,rfl,by decide,p2,2,c2,(CV.trans Xm).ld gT,fun _ => ⟨fun _ => ?_,fun hh => absurd rfl hh⟩,fun hh => absurd rfl hh⟩,fun hh => absurd rfl hh⟩,fun hh => absurd rfl hh⟩,fun hh => by cases hh⟩
 exact h _ (hx.trans (X1.trans (A1.trans (CV.trans Xm))))
end
end TwW
end
section
namespace TwW.Rw
open Go Tw Go.RowKit Go.ChangeShapes Go.WideShapes Go.ChangeAt Go.Deep Go.Proofs.Tryz Go.Proofs.YtlmhidjgplomgaaGreatDoor
theorem own : ownKnob prog.godebug = none := by kernel_rfl
theorem laidOut : laidOutB prog = true := by kernel_rfl
theorem Fm {H : Type} (d : DataW H) : 1 ≤ Rows.uptoBulk d := by
 cases d with
 | lit l => cases l <;> simp [Rows.uptoBulk]
 | _ => simp [Rows.uptoBulk]
theorem O0 {H : Type} {d : DataW H} : ∀ {l : List (DataW H)},d ∈ l → Rows.uptoBulk d ≤ Rows.uptoBulkAll l
 | x :: l,h => by
   simp only [Rows.uptoBulkAll]
   rcases List.mem_cons.1 h with rfl | h
   · omega
   · have := O0 h; omega
theorem Ym {H : Type} (l r : List (DataW H)) : Rows.uptoBulkAll (l ++ r) = Rows.uptoBulkAll l + Rows.uptoBulkAll r := by
 induction l with
 | nil => simp [Rows.uptoBulkAll]
 | cons x l ih => simp only [List.cons_append,Rows.uptoBulkAll,ih]; omega
theorem oY {H : Type} (l : List (DataW H)) : l.length ≤ Rows.uptoBulkAll l := by
 induction l with
 | nil => simp
 | cons x l ih => have := Fm x; simp only [Rows.uptoBulkAll,List.length_cons]; omega
def Dj {α : Type} (t : TypeId) (E : Hp → List Value → α → Prop) (I : α → Prop) (sz : α → Nat) : Prop :=
 ∀ {H : Type} {enc : TypeId × Value → H} {w : World} {base : Nat} {sp : Nat → Bool} {held : Bool} {fuel : Nat} {cs : List Value} {x : DataW H × List MemPlace},
   DataW.trod enc prog w base sp held fuel t cs = some x → Rows.uptoBulk x.1 ≤ 1048576 → ∃ y,E (full w) cs y ∧ I y ∧ sz y ≤ Rows.uptoBulk x.1
theorem mkB {α : Type} {s : Nat} {E : Hp → List Value → α → Prop} {I : α → Prop} {sz : α → Nat} {σ : Hp} {b o : Nat} {H : Type} {D : Nat → DataW H} : ∀ {n : Nat},n ≤ 4611686018427387904 → (∀ i,i < n → ∃ vs x,vs.length = s ∧ Au σ b (o + i * s) vs ∧ E σ vs x ∧ I x ∧ sz x ≤ Rows.uptoBulk (D i)) →
   ∃ xs,Aa s E σ (some ⟨b,o,none⟩) n xs ∧ (∀ x ∈ xs,I x) ∧ (xs.map sz).sum ≤ Rows.uptoBulkAll ((List.range n).map D)
 | 0,_,_ => ⟨[],Aa.nil,by simp,by simp⟩
 | n + 1,hn,h => by
   obtain ⟨xs,⟨h1,cs,⟨hl,_,h2⟩,h3⟩,hI,hs⟩ := mkB (n := n) (D := D) (by omega) (fun i hi => h i (by omega))
   obtain ⟨vs,x,hv,D6,hE,hx,hz⟩ := h n (by omega)
   have Mr : Au σ b o cs := by
     rcases h2 with rfl | ⟨b',o',hp,fE⟩
     · have : cs = [] := List.eq_nil_of_length_eq_zero (by simpa using hl)
       subst this; trivial
     · cases hp; exact fE
   refine ⟨xs ++ [x],⟨by simp [h1],cs ++ vs,⟨by rw [List.length_append,hl,hv,Nat.add_mul]; omega,hn,.inr ⟨b,o,rfl,Mr.snoc (by rw [hl]; exact D6)⟩⟩,h3.snoc hv hE⟩,fun y hy => ?_,?_⟩
   · rcases List.mem_append.1 hy with hy | hy
     · exact hI y hy
     · simp at hy; subst hy; exact hx
   · rw [List.range_succ,List.map_append,List.map_append,Ym,List.sum_append]
     simp only [List.map_cons,List.map_nil,List.sum_cons,List.sum_nil,Rows.uptoBulkAll]
     omega
def ESc {α : Type} (s : Nat) (E : Hp → List Value → α → Prop) (σ : Hp) (vs : List Value) (xs : List α) : Prop := ∃ p n c,vs = [.slice p n c] ∧ n ≤ c ∧ Aa s E σ p n xs
theorem Dj.slice {α : Type} {t e : TypeId} {s : Nat} {E : Hp → List Value → α → Prop} {I : α → Prop} {sz : α → Nat} (ht : prog.underlying t = some (.slice e)) (hs : prog.cellsOf e = s) (hs0 : 0 < s) (he : Dj e E I sz) :
   Dj t (ESc s E) (fun xs => ∀ x ∈ xs,I x) (fun xs => (xs.map sz).sum + 1) := by
 intro H enc w base sp held fuel cs x h hw
 subst hs
 rcases open_slice ht h with ⟨rfl,rfl⟩ | ⟨a,len,cap,m,n,D,Pl,rfl,hb,hl,hm,hmm,rfl,hi⟩
 · exact ⟨[],⟨none,0,0,rfl,Nat.le_refl _,Aa.nil⟩,by simp,by simp [Rows.uptoBulk]⟩
 · have hlm : len ≤ m := by rw [hmm]; split <;> omega
   have ZN : Rows.uptoBulkAll ((List.range len).map D) + 1 ≤ Rows.uptoBulk (DataW.slice ((List.range len).map D) ((List.range (m - len)).map fun j => D (len + j))) := by
     simp only [Rows.uptoBulk]; omega
   have hlen := oY ((List.range len).map D)
   rw [List.length_map,List.length_range] at hlen
   have hwD : ∀ i,i < len → Rows.uptoBulk (D i) ≤ 1048576 := fun i BI => by
     have := O0 (List.mem_map.2 ⟨i,List.mem_range.2 BI,rfl⟩ : D i ∈ (List.range len).map D)
     simp only at hw
     omega
   by_cases h0 : len = 0
   · subst h0
     exact ⟨[],⟨some a,0,cap,rfl,Nat.zero_le _,Aa.nil⟩,by simp,by simp only [Rows.uptoBulk,List.map_nil,List.sum_nil]; omega⟩
   · have Yn : a.spot = none := by
       obtain ⟨cs',hc,_⟩ := hi 0 (by omega)
       obtain ⟨_,UR,uT⟩ := World.cells?_some hc
       have h1 := uT 0 hs0
       rw [List.getElem?_eq_getElem (by omega)] at h1
       have := UA h1
       simpa [Addr.add] using this
     obtain ⟨b,o,sp'⟩ := a
     simp only at Yn
     subst Yn
     obtain ⟨xs,hr,hI,hz⟩ := mkB (s := prog.cellsOf e) (E := E) (I := I) (sz := sz) (σ := full w) (b := b) (o := o) (D := D) (n := len) (by simp only at hw; omega) (fun i BI => by
       obtain ⟨cs',hc,ht'⟩ := hi i (by omega)
       obtain ⟨_,UR,uT⟩ := World.cells?_some hc
       obtain ⟨y,hE,hy,ah⟩ := he ht' (hwD i BI)
       refine ⟨cs',y,UR,Au.of fun j v hj => ?_,hE,hy,ah⟩
       have eY : j < prog.cellsOf e := by have := (List.getElem?_eq_some_iff.1 hj).1; omega
       have h1 := uT j eY
       rw [hj,Bj,Bj] at h1
       exact QD h1)
     exact ⟨xs,⟨some ⟨b,o,none⟩,len,cap,rfl,hl,hr⟩,hI,by simp only at hz ZN ⊢; omega⟩
def tO (_ : Hp) (vs : List Value) (s : ByteArray) : Prop := vs = [.string s]
theorem Dj.str {t : TypeId} (ht : prog.underlying t = some .string) : Dj t tO (fun s => s.size ≤ 1048576) (fun s => s.size + 1) := fun h hw => by
 obtain ⟨n,rfl,rfl,_⟩ := DataW.trod_string ht h
 have e : n.data.toList.length = n.size := Array.length_toList
 have hw : n.data.toList.length + 1 ≤ 1048576 := hw
 rw [e] at hw
 exact ⟨n,rfl,by omega,show n.size + 1 ≤ n.data.toList.length + 1 by rw [e]; exact Nat.le_refl _⟩
theorem JH {H : Type} {l : List (DataW H)} {d : DataW H} (h : Rows.uptoBulk (DataW.agg l) ≤ 1048576) (hd : d ∈ l) : Rows.uptoBulk d ≤ 1048576 := by
 have := O0 hd
 simp only [Rows.uptoBulk] at h
 omega
theorem tP {α : Type} : ∀ l : List α,(l.map fun _ => 1).sum = l.length := fun l => by induction l with
 | nil => rfl
 | cons a l ih => simp; omega
theorem Dj.len {α : Type} {t e : TypeId} {s : Nat} {E : Hp → List Value → α → Prop} {I : α → Prop} (ht : prog.underlying t = some (.slice e)) (hs : prog.cellsOf e = s) (hs0 : 0 < s) (he : Dj e E I (fun _ => 1)) :
   Dj t (ESc s E) (fun xs => (∀ x ∈ xs,I x) ∧ xs.length ≤ 1048576) (fun _ => 1) := fun h hw => by
 obtain ⟨xs,h1,h2,h3⟩ := Dj.slice ht hs hs0 he h hw
 dsimp only at h3
 rw [tP] at h3
 exact ⟨xs,h1,⟨h2,by omega⟩,Fm _⟩
theorem Dj.one {α : Type} {t : TypeId} {E : Hp → List Value → α → Prop} {I : α → Prop} {sz : α → Nat} (h : Dj t E I sz) : Dj t E I (fun _ => 1) := fun h1 hw => by
 obtain ⟨y,a,b,c⟩ := h h1 hw
 exact ⟨y,a,b,Fm _⟩
set_option maxRecDepth 100000
set_option linter.unusedSimpArgs false
theorem AA1 : Dj 77 JZ (fun _ => True) (fun _ => 1) := by
 intro H enc w base sp held fuel cs x h hw
 obtain ⟨xs,n,_,rfl,hlen,iw,hg⟩ := DataW.trod_struct underlying77 h
 rw [show prog.cellsOf 77 = 3 by kernel_rfl] at hlen
 match cs,hlen,xs,iw with
 | [c0,c1,c2],_,[y0,y1,y2],_ =>
   have h0 := hg 0 _ rfl
   have h1 := hg 1 _ rfl
   have h2 := hg 2 _ rfl
   simp only [show prog.cellsOf 9 = 1 by kernel_rfl,show prog.cellsOf 3 = 1 by kernel_rfl,List.drop,List.take,List.getElem?_cons_zero,List.getElem?_cons_succ] at h0 h1 h2
   obtain ⟨z,e0,_⟩ := DataW.trod_int underlying3 h0
   obtain ⟨a,e1,_⟩ := DataW.trod_string underlying9 h1
   obtain ⟨b,e2,_⟩ := DataW.trod_string underlying9 h2
   cases e0; cases e1; cases e2
   exact ⟨⟨z,a,b⟩,rfl,trivial,Fm _⟩
def WJ {α : Type} (I : α → Prop) (xs : List α) : Prop := (∀ x ∈ xs,I x) ∧ xs.length ≤ 1048576
theorem AA2 : Dj 33 (ESc 3 JZ) (WJ fun _ => True) (fun _ => 1) := Dj.len (s := 3) underlying33 (by kernel_rfl) (by decide) AA1
theorem AA3 : Dj 34 (ESc 1 tO) (WJ fun s => s.size ≤ 1048576) (fun _ => 1) := Dj.len (s := 1) underlying34 (by kernel_rfl) (by decide) (Dj.one (Dj.str underlying9))
theorem AH3 {σ : Hp} : ∀ {cs : List Value} {xs : List ByteArray},Ch 1 tO σ cs xs → cs = xs.map .string := by
 rintro cs xs ⟨h1,h2⟩
 refine List.ext_getElem? fun i => ?_
 rw [List.getElem?_map]
 cases hx : xs[i]? with
 | none =>
   have := List.getElem?_eq_none_iff.1 hx
   simp only [Option.map_none]
   exact List.getElem?_eq_none_iff.2 (by omega)
 | some x =>
   have := h2 i x hx
   simp only [tO] at this
   have h3 := congrArg (·[0]?) this
   simp at h3
   simpa using h3
theorem AA4 : Dj 36 EI (fun x => x.text.size ≤ 1048576 ∧ x.mt.length ≤ 1048576 ∧ x.names.length ≤ 1048576) (fun _ => 1) := by
 intro H enc w base sp held fuel cs x h hw
 obtain ⟨xs,n,_,rfl,hlen,iw,hg⟩ := DataW.trod_struct underlying36 h
 rw [show prog.cellsOf 36 = 10 by kernel_rfl] at hlen
 match cs,hlen,xs,iw with
 | [c0,c1,c2,c3,c4,c5,c6,c7,c8,c9],_,[y0,y1,y2,y3,y4,y5,y6,y7,y8,y9],_ =>
   have h0 := hg 0 _ rfl
   have h1 := hg 1 _ rfl
   have h2 := hg 2 _ rfl
   have h3 := hg 3 _ rfl
   have h4 := hg 4 _ rfl
   have h5 := hg 5 _ rfl
   have h6 := hg 6 _ rfl
   have h7 := hg 7 _ rfl
   have h8 := hg 8 _ rfl
   have h9 := hg 9 _ rfl
   simp only [show prog.cellsOf 3 = 1 by kernel_rfl,show prog.cellsOf 9 = 1 by kernel_rfl,show prog.cellsOf 33 = 1 by kernel_rfl,show prog.cellsOf 2 = 1 by kernel_rfl,show prog.cellsOf 34 = 1 by kernel_rfl,show prog.cellsOf 4 = 1 by kernel_rfl,List.drop,List.take,List.getElem?_cons_zero,List.getElem?_cons_succ] at h0 h1 h2 h3 h4 h5 h6 h7 h8 h9
   obtain ⟨a0,e0,_,_⟩ := DataW.trod_int underlying3 h0
   obtain ⟨a1,e1,_,_⟩ := DataW.trod_int underlying3 h1
   obtain ⟨a2,e2,i2,_⟩ := Dj.str underlying9 h2 (JH hw (by simp))
   obtain ⟨a3,⟨p,k,c,e3,_,r3⟩,⟨_,l3⟩,_⟩ := AA2 h3 (JH hw (by simp))
   obtain ⟨a4,e4,_,_⟩ := DataW.trod_int underlying2 h4
   obtain ⟨a5,e5,_,_⟩ := DataW.trod_int underlying2 h5
   obtain ⟨a6,e6,_,_⟩ := DataW.trod_int underlying3 h6
   obtain ⟨a7,⟨q,m,d,e7,_,r7⟩,⟨_,l7⟩,_⟩ := AA3 h7 (JH hw (by simp))
   obtain ⟨a8,e8,_⟩ := DataW.trod_bool underlying4 h8
   obtain ⟨a9,e9,_,_⟩ := DataW.trod_int underlying3 h9
   have e2 : [c2] = [.string a2] := e2
   cases e0; cases e1; cases e2; cases e3; cases e4; cases e5; cases e6; cases e7; cases e8; cases e9
   obtain ⟨_,cs,g1,g2⟩ := r7
   rw [AH3 g2] at g1
   exact ⟨⟨a0,a1,a2,a3,a4,a5,a6,a7,a8,a9⟩,⟨p,k,c,q,m,d,rfl,r3,g1⟩,⟨i2,l3,l7⟩,Fm _⟩
section
variable {H : Type} {enc : TypeId × Value → H} {W : World} {base : Nat} {v v' : Value} {d d' : DataW H} {ps ps' : List MemPlace} {r : Reach}
theorem oZ (hv : Value.okWide prog W r base 22 v) (h : DataW.Trod enc prog W 0 (fun _ => true) true 22 v d ps) (hw : Rows.uptoBulk d ≤ 1048576) : ∃ p n c T,v = .slice p n c ∧ Aa 10 EI (full W) p n T ∧ WJ (fun x : Nd => x.text.size ≤ 1048576 ∧ x.mt.length ≤ 1048576 ∧ x.names.length ≤ 1048576) T := by
 obtain ⟨a,l,c,rfl⟩ := okWide_slice underlying22 hv
 obtain ⟨fuel,hf⟩ := h
 obtain ⟨xs,⟨p,n,c',e,_,hr⟩,hI,_⟩ := Dj.len (s := 10) underlying22 (by kernel_rfl) (by decide) AA4 hf hw
 have e' : [Value.slice a l c] = [.slice p n c'] := by simpa [Value.cells] using e
 cases e'
 exact ⟨a,l,c,xs,rfl,hr,hI⟩
end
theorem AA5 {f : FuncId} {fn : Func} {s : ChangeSpec} {H : Type} {enc : TypeId × Value → H} {W : World} {args : Array Value} {ds gs : List (DataW H)} {before : List MemPlace} (hr : (fn.params.toList.all fun t => prog.readableRec t && Nat.blt t prog.types.size) = true)
   (hrt : fn.resultTypes = #[4]) (hv : s.vars = []) (QA : (s.fn H (ds ++ gs)).results = [.lit (.bool true)] ∧ (s.fn H (ds ++ gs)).args = ds ∧ (s.fn H (ds ++ gs)).vars = [])
   (hW : DataW.Whole enc prog fn.params.toList s.vars false W args.toList ds gs before) (h : Lawful prog f args W) :
   Calls prog f args W fun e W' => ∃ v,e = .returned v ∧ s.post enc prog fn false true false false W args v W' :=
 h.calls.mono fun e W' ⟨he,hb⟩ => ⟨_,he,jX laidOut hr hrt underlying4 hv QA hW hb⟩
end TwW.Rw
end
section
namespace TwW.Rw
open Go Go.Proofs.Tryz Go.Proofs.YtlmhidjgplomgaaGreatDoor
def fl0 : DataW Unit → List Value
 | .lit (.int k z) => [.int k z]
 | .lit (.bool b) => [.bool b]
 | .lit (.float k b) => [.float k b]
 | .lit (.string s) => [.string ⟨s.toArray⟩]
 | _ => []
def hJ : DataW Unit → List Value
 | .agg l => l.flatMap fl0
 | x => fl0 x
def fl2 : DataW Unit → List Value
 | .agg l => l.flatMap hJ
 | x => fl0 x
def fls : DataW Unit → List Value
 | .slice l _ => l.flatMap hJ
 | .iface _ (.ptr d) => hJ d
 | _ => []
def lns : DataW Unit → Nat
 | .slice l _ => l.length
 | _ => 0
noncomputable def LV (os : Os) : World :=
 let N := (World.settled prog os).heap.size
 let ob (x : DataW Unit) (t : TypeId) : Obj := .cells (fls x).toArray t (0,0)
 let w0 := World.holding prog os ⟨#[ob Rows.laid_strconv_ErrSyntax 317,ob Rows.laid_strconv_ErrRange 317,ob Rows.laid_internal_strconv_float32pow10 280,ob Rows.laid_internal_strconv_powtab 3,ob Rows.laid_internal_strconv_float64pow10 51,ob Rows.laid_internal_strconv_leftcheats 358],#[],[]⟩
 let put (h : Array Obj) (g : Nat) (cs : List Value) : Array Obj := h.modify g fun
   | .cells _ t frozen => .cells cs.toArray t frozen
   | o => o
 let sl (i : Nat) (x : DataW Unit) : List Value := [.slice (some ⟨N + i,0,none⟩) (lns x) (lns x)]
 let h1 := put (put w0.heap 2 [.iface 315 (.pointer (some ⟨N,0,none⟩))]) 3 [.iface 315 (.pointer (some ⟨N + 1,0,none⟩))]
 let h2 := put (put (put (put h1 7 (sl 2 Rows.laid_internal_strconv_float32pow10)) 8 (sl 3 Rows.laid_internal_strconv_powtab)) 9 (sl 4 Rows.laid_internal_strconv_float64pow10)) 13 (sl 5 Rows.laid_internal_strconv_leftcheats)
 let h3 := put (put (put h2 4 (hJ Rows.laid_internal_strconv_float32info)) 5 (hJ Rows.laid_internal_strconv_optimize)) 6 (hJ Rows.laid_internal_strconv_float64info)
 let h4 := put (put (put h3 10 (fl2 Rows.laid_internal_strconv_pow10Tab)) 11 (hJ Rows.laid_unicode_utf8_first)) 12 (fl2 Rows.laid_unicode_utf8_acceptRanges)
 { w0 with heap := put (put (put h4 14 (hJ Rows.laid_internal_strconv_uint64pow10)) 15 (hJ Rows.laid_math_bits_deBruijn32tab)) 16 (hJ Rows.laid_math_bits_deBruijn64tab) }
abbrev Laid : List (String × DataW Unit) := Rows.evalGroupsUptoRow.laid
noncomputable abbrev LW (os : Os) (args : Array Value) : World := ((LV os).forCall (fun _ _ => 0) ⟨#[],args,[]⟩).memory
set_option maxRecDepth 1000000
theorem ANx (os : Os) (args : Array Value) : (DataW.laidRun prog (LW os args) 8 (Laid.map (·.1))).map (·.1) = some Laid := by kernel_rfl
noncomputable def LBk (os : Os) : List (Nat × Nat) :=
 let N := (World.settled prog os).heap.size
 [(15,32),(16,64),(4,3),(6,3),(5,1),(8,1),(N + 3,lns Rows.laid_internal_strconv_powtab),(9,1),(N + 4,lns Rows.laid_internal_strconv_float64pow10),(7,1),(N + 2,lns Rows.laid_internal_strconv_float32pow10),(14,20),(12,32),(3,1),(N + 1,1),(2,1),(N,1),(13,1),(N + 5,lns Rows.laid_internal_strconv_leftcheats * 2),(10,1392),(11,256)]
theorem ANy (os : Os) (args : Array Value) : (DataW.laidRun prog (LW os args) 8 (Laid.map (·.1))).map (·.2) = some ((LBk os).flatMap fun x => MemPlace.row ⟨x.1,0,none⟩ x.2) := by kernel_rfl
end TwW.Rw
end
section
namespace TwW
open Go
def rowsOf (L : List (Nat × Nat)) : List MemPlace := L.flatMap fun x => MemPlace.row ⟨x.1,0,none⟩ x.2
theorem WK {b n : Nat} {p : MemPlace} : p ∈ MemPlace.row ⟨b,0,none⟩ n ↔ ∃ i,i < n ∧ p = .cell b i := by
 unfold MemPlace.row
 simp only [List.mem_map,List.mem_range,Nat.zero_add]
 exact ⟨fun ⟨i,h,e⟩ => ⟨i,h,e.symm⟩,fun ⟨i,h,e⟩ => ⟨i,h,e.symm⟩⟩
theorem hY (b n : Nat) : (MemPlace.row ⟨b,0,none⟩ n).Nodup := by
 unfold MemPlace.row
 refine List.pairwise_map.2 ((List.nodup_range (n := n)).imp fun {i j} BD e => BD ?_)
 simpa using e
theorem TM : ∀ {L : List (Nat × Nat)},(L.map Prod.fst).Nodup → (rowsOf L).Nodup
 | [],_ => List.nodup_nil
 | x :: L,h => by
   have h := List.nodup_cons.1 (show (x.1 :: L.map Prod.fst).Nodup from h)
   unfold rowsOf
   rw [List.flatMap_cons,List.nodup_append]
   refine ⟨hY _ _,TM h.2,fun p hp q hq e => ?_⟩
   subst e
   obtain ⟨i,_,rfl⟩ := WK.1 hp
   obtain ⟨y,hy,hq⟩ := List.mem_flatMap.1 hq
   obtain ⟨j,_,e⟩ := WK.1 hq
   simp only [MemPlace.cell.injEq] at e
   exact h.1 (List.mem_map.2 ⟨y,hy,e.1.symm⟩)
def laidB (P : Program) (w : World) (b : Nat) : Bool :=
 match w.heap[b]? with
 | some (.cells c _ (0,0)) => c.toList.all fun | .iface u v => Value.okWideB P w u v | _ => true
 | _ => false
theorem WL {P : Program} {w : World} {l : List (String × DataW Unit)} (fuel : Nat) (L : List (Nat × Nat)) (h1 : (DataW.laidRun P w fuel (l.map (·.1))).map (·.1) = some l) (h2 : (DataW.laidRun P w fuel (l.map (·.1))).map (·.2) = some (rowsOf L))
   (hn : (L.map Prod.fst).Nodup) (hb : ∀ x ∈ L,laidB P w x.1 = true) : laidMet P l w := by
 cases hx : DataW.laidRun P w fuel (l.map (·.1)) with
 | none => rw [hx] at h1; cases h1
 | some x =>
   obtain ⟨l',ps⟩ := x
   rw [hx] at h1 h2
   simp only [Option.map_some,Option.some.injEq] at h1 h2
   subst h1; subst h2
   refine ⟨_,DataW.LaidVars_of_laidRun hx,TM hn,fun b off hp => ?_⟩
   obtain ⟨y,hy,hp⟩ := List.mem_flatMap.1 hp
   obtain ⟨i,hi,e⟩ := WK.1 hp
   simp only [MemPlace.cell.injEq] at e
   obtain ⟨rfl,rfl⟩ := e
   have := hb y hy
   unfold laidB at this
   split at this
   · rename_i c t hh
     refine ⟨⟨c,t,hh⟩,fun u v hc => ?_⟩
     have hc' : c[off]? = some (.iface u v) := by simpa [World.cell?,hh] using hc
     have hm : Value.iface u v ∈ c.toList := Array.mem_toList_iff.2 (Array.mem_of_getElem? hc')
     exact Value.okWide_of_okWideB (List.all_eq_true.1 this _ hm)
   · cases this
end TwW
end
section
namespace TwW.Rw
open Go TwW Go.Proofs.Tryz Go.Proofs.YtlmhidjgplomgaaGreatDoor
set_option maxRecDepth 1000000
theorem AA6 (os : Os) : nodupB ((LBk os).map Prod.fst) = true := by kernel_rfl
theorem AA7 (os : Os) (args : Array Value) : ((LBk os).all fun x => laidB prog (LW os args) x.1) = true := by kernel_rfl
theorem od (os : Os) (args : Array Value) : laidMet prog Laid (LW os args) := WL 8 (LBk os) (ANx os args) (ANy os args) (nodup_of_nodupB (AA6 os)) (fun x hx => List.all_eq_true.1 (AA7 os args) x hx)
end TwW.Rw
end
section
namespace TwW.Rw
open Go Tw TwW Go.RowKit Go.Deep Go.Proofs.Tryz Go.Proofs.YtlmhidjgplomgaaGreatDoor
theorem bR {H : Type} {enc : TypeId × Value → H} {w : World} {base : Nat} {sp : Nat → Bool} {held : Bool} {fuel : Nat} {t : TypeId} {cs : List Value} {x : DataW H × List MemPlace} {k : FloatKind} (ht : prog.underlying t = some (.float k)) (h : DataW.trod enc prog w base sp held fuel t cs = some x) : ∃ n,cs = [.float k n] ∧ x = (.lit (.float k n),[]) := by
 cases fuel with
 | zero => simp [DataW.trod] at h
 | succ n =>
   unfold DataW.trod at h
   rw [ht] at h
   split at h <;> simp_all
theorem eA {P : Program} {w : World} : ∀ {l : List (String × DataW Unit)} {ps : List MemPlace} {i : Nat} {n : String} {d : DataW Unit},DataW.LaidVars P w l ps → l[i]? = some (n,d) →
   ∃ g t cs fuel p,P.globalNamed n = some g ∧ (P.globals[g]?).map (·.type) = some t ∧ w.var? P n = some cs ∧ DataW.trod (fun _ => ()) P w 0 (fun _ => true) false fuel t cs.toList = some (d,p)
 | [],_,_,_,_,_,h => by simp at h
 | (m,e) :: r,ps,0,n,d,h,hi => by
   cases hi
   obtain ⟨g,t,cs,fuel,p,q,h1,h2,h3,h4,_⟩ := h
   exact ⟨g,t,cs,fuel,p,h1,h2,h3,h4⟩
 | (m,e) :: r,ps,i + 1,n,d,h,hi => by
   obtain ⟨g,t,cs,fuel,p,q,h1,h2,h3,h4,h5,_⟩ := h
   exact eA h5 hi
theorem WM {P : Program} {w : World} {l : List (String × DataW Unit)} {i g t : Nat} {n : String} {d : DataW Unit} (h : laidMet P l w) (hi : l[i]? = some (n,d)) (hg : P.globalNamed n = some g) (ht : (P.globals[g]?).map (·.type) = some t) :
   ∃ cs fuel p,(∀ (j : Nat) v,cs[j]? = some v → (full w).ld ⟨g,j,none⟩ = some v) ∧ DataW.trod (fun _ => ()) P w 0 (fun _ => true) false fuel t cs = some (d,p) := by
 obtain ⟨ps,hv,_⟩ := h
 obtain ⟨g',t',cs,fuel,p,h1,h2,h3,h4⟩ := eA hv hi
 obtain rfl := Option.some.inj (hg.symm.trans h1)
 obtain rfl := Option.some.inj (ht.symm.trans h2)
 refine ⟨cs.toList,fuel,p,fun j v hj => QD ?_,h4⟩
 unfold World.var? at h3
 rw [hg] at h3
 simp only [Option.bind_some] at h3
 split at h3
 · rename_i c T fr hc
   cases h3
   simpa [World.cell?,hc] using hj
 · cases h3
theorem oe {W : World} (h : laidMet prog Laid W) : (full W).ld ⟨5,0,none⟩ = some (.bool true) := by
 obtain ⟨cs,fuel,p,h1,h2⟩ := WM (i := 4) (n := "internal/strconv.optimize") (d := .lit (.bool true)) (g := 5) (t := 4) h rfl (by kernel_rfl) (by kernel_rfl)
 obtain ⟨b,rfl,e⟩ := DataW.trod_bool underlying4 h2
 cases e
 exact h1 0 _ rfl
set_option maxRecDepth 100000 in
theorem hZ {W : World} (h : laidMet prog Laid W) : (full W).ld ⟨6,0,none⟩ = some (.int .u64 52) := by
 obtain ⟨cs,fuel,p,h1,h2⟩ := WM (i := 3) (n := "internal/strconv.float64info") (d := .agg [.lit (.int .u64 52),.lit (.int .u64 11),.lit (.int .i64 (-1023))]) (g := 6) (t := 300) h rfl (by kernel_rfl) (by kernel_rfl)
 obtain ⟨xs,n,_,e,hlen,iw,hg⟩ := DataW.trod_struct underlying300 h2
 rw [show prog.cellsOf 300 = 3 by kernel_rfl] at hlen
 match cs,hlen,xs,iw with
 | [c0,c1,c2],_,[y0,y1,y2],_ =>
   have h0 := hg 0 _ rfl
   simp only [show prog.cellsOf 141 = 1 by kernel_rfl,List.drop,List.take,List.getElem?_cons_zero] at h0
   obtain ⟨a,e0,e1,_⟩ := DataW.trod_int underlying141 h0
   cases e0
   have e2 : y0.1 = .lit (.int .u64 52) := by
     have := congrArg Prod.fst e
     simp only [List.map_cons,DataW.agg.injEq,List.cons.injEq] at this
     exact this.1.symm
   rw [e1] at e2
   cases e2
   exact h1 0 _ rfl
set_option maxRecDepth 100000 in
theorem og {W : World} (h : laidMet prog Laid W) : ∃ b o n c,(full W).ld ⟨9,0,none⟩ = some (.slice (some ⟨b,o,none⟩) n c) ∧ 16 ≤ n ∧ ∀ i v,S4[i]? = some v → (full W).ld ⟨b,o + i * 1,none⟩ = some (.float .f64 v) := by
 obtain ⟨cs,fuel,p,h1,h2⟩ := WM (i := 6) (n := "internal/strconv.float64pow10") (d := Rows.laid_internal_strconv_float64pow10) (g := 9) (t := 63) h rfl (by kernel_rfl) (by kernel_rfl)
 rcases open_slice underlying63 h2 with ⟨_,e⟩ | ⟨a,len,cap,m,n,D,Pl,rfl,hb,hl,hm,hmm,e,hi⟩
 · have := congrArg Prod.fst e
   simp [Rows.laid_internal_strconv_float64pow10] at this
 have e1 := congrArg Prod.fst e
 simp only [Rows.laid_internal_strconv_float64pow10,DataW.slice.injEq] at e1
 obtain ⟨e1,_⟩ := e1
 have hlen := congrArg List.length e1
 rw [List.length_map,List.length_range] at hlen
 simp only [List.length_cons,List.length_nil] at hlen
 have hlm : len ≤ m := by rw [hmm]; split <;> omega
 have T7 : ∀ i,i < len → ∃ v,W.cell? (a.add (i * 1)) = some (.float .f64 v) ∧ D i = .lit (.float .f64 v) := fun i BI => by
   obtain ⟨cs',hc,ht'⟩ := hi i (by omega)
   rw [show prog.cellsOf 51 = 1 by kernel_rfl] at hc
   obtain ⟨_,UR,uT⟩ := World.cells?_some hc
   obtain ⟨v,rfl,ev⟩ := bR underlying51 ht'
   have h0 := uT 0 (by decide)
   simp only [List.getElem?_cons_zero] at h0
   exact ⟨v,h0,(congrArg Prod.fst ev)⟩
 have Yn : a.spot = none := by
   obtain ⟨v,hv,_⟩ := T7 0 (by omega)
   have := UA hv
   simpa [Addr.add] using this
 obtain ⟨b,o,sp⟩ := a
 simp only at Yn
 subst Yn
 refine ⟨b,o,len,cap,h1 0 _ rfl,by omega,fun i v hv => ?_⟩
 have ANz : i < 16 := (List.getElem?_eq_some_iff.1 hv).1
 obtain ⟨u,hu,hD⟩ := T7 i (by omega)
 have hDi : ((List.range len).map D)[i]? = some (D i) := by rw [List.getElem?_map,List.getElem?_range (by omega)]; rfl
 rw [← e1,hD] at hDi
 have huv : u = v := by
   match i,ANz with
   | 0,_ | 1,_ | 2,_ | 3,_ | 4,_ | 5,_ | 6,_ | 7,_ | 8,_ | 9,_ | 10,_ | 11,_ | 12,_ | 13,_ | 14,_ | 15,_ =>
     simp [S4] at hv hDi
     omega
 subst huv
 have h9 := QD hu
 rw [Bj] at h9
 exact h9
theorem AH5 {W : World} (h : laidMetH prog Laid W) (hs : W.ShapedOpen prog) : Gl (full W) := by
 have h : laidMet prog Laid W := by
   rw [MakeChecks.laidMetH_plain _ _ _ (by kernel_rfl)] at h
   exact h
 exact ⟨let ⟨m,hm⟩ := Go.Proofs.cell_of_shapedOpen_int (g := 1) (zero := #[.int .i64 0]) (t := 3) hs (of_decide_eq_true (by kernel_rfl)) (by kernel_rfl) rfl (by kernel_rfl) (by kernel_rfl) underlying3; ⟨m,QD hm⟩,oe h,hZ h,og h⟩
end TwW.Rw
end
section
namespace TwW.Rw
open Go Tw TwW Go.Proofs.Tryz Go.Proofs.YtlmhidjgplomgaaGreatDoor
theorem Bb {a b : Bool} (h1 : a = true) (h2 : b = true) : (a && b) = true := by rw [h1,h2]; rfl
theorem AH6 : mapsRowed prog = true := by kernel_rfl
theorem heard : prog.stopsHeard = true := by kernel_rfl
theorem enters : prog.mayEnter = true := by kernel_rfl
theorem AA8 : (prog.stops == []) = true := by kernel_rfl
theorem AA9 : (prog.stopKnobs == []) = true := by kernel_rfl
theorem AH7 : (Rows.evalGroupsRow.lifted == prog.liftsFinal) = true := by kernel_rfl
theorem keys : (Rows.evalGroupsRow.plainKeys == prog.plainKeys) = true := by kernel_rfl
theorem makes : (prog.make == some Rows.evalGroupsRow.make) = true := by kernel_rfl
end TwW.Rw
end
section
namespace TwW.Rw
open Go Tw TwW Go.ChangeShapes Go.WideShapes Go.ChangeAt Go.RowKit Go.Deep Go.Proofs.Tryz Go.Proofs.YtlmhidjgplomgaaGreatDoor
noncomputable abbrev wV (os : Os) (args : Array Value) : World := (LV os).forCall (fun _ _ => 0) ⟨#[],args,[]⟩
def tQ (P : Program) (w : World) (g : Nat) : Bool :=
 match ((begin P (fun _ _ => 0) default).world.heap[g]?).bind Obj.row? with
 | none => true
 | some (zero,t) =>
   match w.heap[g]? with
   | some (.cells cs t' frozen) => decide (t' = t) && decide (frozen = (0,0)) && cs.size == zero.size && (!P.buildable t || Row.okRefB P w t cs)
   | _ => false
theorem oh {P : Program} {w : World} (h : ∀ g,g < P.globals.size → tQ P w g = true) : w.variablesRefB P = true :=
 List.all_eq_true.2 fun g hg => h g (List.mem_range.1 hg)
theorem bS {P : Program} {w : World} {t e : TypeId} {cs : Array Value} {n : Nat} (Wa : P.cellTypes P.depth t = some (List.replicate n e)) (hs : cs.size = n) (Hv : (cs.toList.all fun v => Cell.okRefB P w e v) = true) : Row.okRefB P w t cs = true := by
 unfold Row.okRefB
 rw [Wa]
 simp only [List.length_replicate,hs,Nat.mod_self,Bool.and_eq_true,beq_iff_eq,List.all_eq_true,List.mem_range,true_and]
 intro i hi
 have BI : i < cs.size := by omega
 rw [Array.getElem?_eq_getElem BI,Nat.mod_eq_of_lt hi,List.getElem?_replicate,if_pos hi]
 exact List.all_eq_true.1 Hv _ (by simp)
theorem eB {P : Program} {w : World} {g n : Nat} {t e : TypeId} {cs : Array Value} (h0 : (((begin P (fun _ _ => 0) default).world.heap[g]?).bind Obj.row?).map (fun x => (x.1.size,x.2)) = some (n,t)) (h1 : w.heap[g]? = some (.cells cs t (0,0))) (hs : cs.size = n) (Wa : P.cellTypes P.depth t = some (List.replicate n e)) (Hv : (cs.toList.all fun v => Cell.okRefB P w e v) = true) : tQ P w g = true := by
 unfold tQ
 cases hb : ((begin P (fun _ _ => 0) default).world.heap[g]?).bind Obj.row? with
 | none => rfl
 | some x =>
   obtain ⟨zero,t'⟩ := x
   rw [hb] at h0
   simp only [Option.map_some,Option.some.injEq,Prod.mk.injEq] at h0
   obtain ⟨h2,rfl⟩ := h0
   simp only [h1,bS Wa hs Hv,hs,h2]
   simp
set_option maxRecDepth 1000000
theorem AH8 (os : Os) {args : Array Value} : ((List.range 17).all fun g => (g == 10 || g == 11) || tQ prog (wV os args) g) = true := by kernel_rfl
theorem AN0 (os : Os) {args : Array Value} : (wV os args).heap[10]? = some (.cells (fl2 Rows.laid_internal_strconv_pow10Tab).toArray 342 (0,0)) := by kernel_rfl
theorem AN1 (os : Os) {args : Array Value} : (wV os args).heap[11]? = some (.cells (hJ Rows.laid_unicode_utf8_first).toArray 351 (0,0)) := by kernel_rfl
theorem z10 : (((begin prog (fun _ _ => 0) default).world.heap[10]?).bind Obj.row?).map (fun x => (x.1.size,x.2)) = some (1392,342) := by kernel_rfl
theorem z11 : (((begin prog (fun _ _ => 0) default).world.heap[11]?).bind Obj.row?).map (fun x => (x.1.size,x.2)) = some (256,351) := by kernel_rfl
theorem t10 : prog.cellTypes prog.depth 342 = some (List.replicate 1392 48) := by kernel_rfl
theorem t11 : prog.cellTypes prog.depth 351 = some (List.replicate 256 5) := by kernel_rfl
theorem s10 : (fl2 Rows.laid_internal_strconv_pow10Tab).toArray.size = 1392 := by kernel_rfl
theorem s11 : (hJ Rows.laid_unicode_utf8_first).toArray.size = 256 := by kernel_rfl
theorem a10 (os : Os) {args : Array Value} : ((fl2 Rows.laid_internal_strconv_pow10Tab).toArray.toList.all fun v => Cell.okRefB prog (wV os args) 48 v) = true := by kernel_rfl
theorem a11 (os : Os) {args : Array Value} : ((hJ Rows.laid_unicode_utf8_first).toArray.toList.all fun v => Cell.okRefB prog (wV os args) 5 v) = true := by kernel_rfl
theorem AN2 (os : Os) {args : Array Value} : (wV os args).variablesRefB prog = true := oh fun g hg => by
 by_cases ad : g = 10
 · subst ad; exact eB z10 (AN0 os) s10 t10 (a10 os)
 by_cases df : g = 11
 · subst df; exact eB z11 (AN1 os) s11 t11 (a11 os)
 have h17 : g < 17 := hg
 have := List.all_eq_true.1 (AH8 os (args := args)) g (List.mem_range.2 h17)
 simpa [ad,df] using this
end TwW.Rw
end
section
namespace TwW
open Go Tw
def Plc : List (List UInt8) → List UInt8 → Prop
 | [],_ => True
 | x :: l,s => ∃ i,i ≤ s.length ∧ Lib.occAt s x i = true ∧ Plc l (s.drop (i + x.length))
theorem Yo {s x : List UInt8} {i j : Nat} : Lib.occAt (s.drop i) x j = Lib.occAt s x (i + j) := by
 unfold Lib.occAt
 rw [List.drop_drop]
theorem Plc.mono : ∀ {l : List (List UInt8)} {s : List UInt8} {i j : Nat},i ≤ j → Plc l (s.drop j) → Plc l (s.drop i)
 | [],_,_,_,_,_ => trivial
 | x :: l,s,i,j,M1,⟨k,h1,h2,h3⟩ => by
   rw [Yo] at h2
   rw [List.length_drop] at h1
   rw [List.drop_drop] at h3
   by_cases hj : j ≤ s.length
   · refine ⟨k + (j - i),by rw [List.length_drop]; omega,by rw [Yo,show i + (k + (j - i)) = j + k by omega]; exact h2,?_⟩
     rw [List.drop_drop,show i + (k + (j - i) + x.length) = j + (k + x.length) by omega]; exact h3
   · have hd : s.drop (j + k) = [] := List.drop_eq_nil_of_le (by omega)
     unfold Lib.occAt at h2
     rw [hd] at h2
     have hx : x = [] := by
       cases x with
       | nil => rfl
       | cons a b => simp at h2
     subst hx
     have hd2 : s.drop (j + (k + ([] : List UInt8).length)) = [] := List.drop_eq_nil_of_le (by simp; omega)
     rw [hd2] at h3
     refine ⟨(s.drop i).length,Nat.le_refl _,by simp [Lib.occAt],?_⟩
     rw [List.drop_eq_nil_of_le (by simp)]
     exact h3
theorem eC (s : ByteArray) (i : Nat) : (s.extract i s.size).data.toList = s.data.toList.drop i := by
 rw [ByteArray.data_extract,Array.toList_extract]
 have h : s.data.toList.length = s.size := rfl
 show (s.data.toList.drop i).take (s.size - i) = _
 exact List.take_of_length_le (by rw [List.length_drop,h]; exact Nat.le_refl _)
theorem eD : ∀ (l : List ByteArray) (s : ByteArray),Tx l s = true ↔ Plc (l.map (·.data.toList)) s.data.toList
 | [],s => by simp [Tx,Plc]
 | t :: r,s => by
   rw [Tx,List.map_cons]
   rcases Lib.index_spec s.data.toList t.data.toList with ⟨h1,h2⟩ | ⟨i,h1,h2,h3,h4⟩
   · rw [h1,if_pos (by decide)]
     constructor
     · intro h; cases h
     · rintro ⟨j,hj,ot,_⟩
       rw [h2 j hj] at ot; cases ot
   · have Wa : t.data.toList.length = t.size := rfl
     rw [h1,if_neg (by omega),Int.toNat_natCast,eD r,eC]
     constructor
     · intro h
       exact ⟨i,h2,h3,by rw [Wa]; exact h⟩
     · rintro ⟨j,hj,ot,hp⟩
       have M1 : i ≤ j := Nat.le_of_not_lt fun Az => by rw [h4 j Az] at ot; cases ot
       rw [Wa] at hp
       exact hp.mono (by omega)
def Bs : List UInt8 → List UInt8 → Prop
 | [],s => s = []
 | c :: p,s => if c = 42 then ∃ i,i ≤ s.length ∧ Bs p (s.drop i) else ∃ s',s = c :: s' ∧ Bs p s'
def Lp : List UInt8 → List (List UInt8)
 | [] => [[]]
 | c :: p => if c = 42 then [] :: Lp p else match Lp p with
   | [] => [[c]]
   | x :: l => (c :: x) :: l
theorem WN : ∀ p,Lp p ≠ []
 | [] => by simp [Lp]
 | c :: p => by
   unfold Lp
   split
   · simp
   · cases Lp p <;> simp
def T6 : List (List UInt8) → List UInt8 → Prop
 | [],_ => True
 | [z],s => ∃ i,i ≤ s.length ∧ s.drop i = z
 | x :: l,s => ∃ i,i ≤ s.length ∧ Lib.occAt s x i = true ∧ T6 l (s.drop (i + x.length))
def Pcs : List (List UInt8) → List UInt8 → Prop
 | [],_ => True
 | [x],s => s = x
 | x :: l,s => x.isPrefixOf s = true ∧ T6 l (s.drop x.length)
theorem tR : ∀ (l : List (List UInt8)) (s : List UInt8),l ≠ [] → (T6 l s ↔ ∃ i,i ≤ s.length ∧ Pcs l (s.drop i))
 | [],_,h => absurd rfl h
 | [z],s,_ => Iff.rfl
 | x :: y :: l,s,_ => by
   constructor
   · rintro ⟨i,h1,h2,h3⟩
     exact ⟨i,h1,h2,by rw [List.drop_drop]; exact h3⟩
   · rintro ⟨i,h1,h2,h3⟩
     rw [List.drop_drop] at h3
     exact ⟨i,h1,h2,h3⟩
theorem Nz : ∀ (p s : List UInt8),Bs p s ↔ Pcs (Lp p) s
 | [],s => Iff.rfl
 | c :: p,s => by
   unfold Bs Lp
   split
   · have h := WN p
     have hf := tR (Lp p) s h
     have e : Pcs ([] :: Lp p) s ↔ T6 (Lp p) s := by
       cases hc : Lp p with
       | nil => exact absurd hc h
       | cons y l =>
         show ([].isPrefixOf s = true ∧ T6 (y :: l) (s.drop 0)) ↔ _
         simp
     rw [e,hf]
     constructor
     · rintro ⟨i,h1,h2⟩; exact ⟨i,h1,(Nz p _).1 h2⟩
     · rintro ⟨i,h1,h2⟩; exact ⟨i,h1,(Nz p _).2 h2⟩
   · have h := WN p
     have ih := fun s' => Nz p s'
     cases hc : Lp p with
     | nil => exact absurd hc h
     | cons x l =>
       rw [hc] at ih
       constructor
       · rintro ⟨s',rfl,h2⟩
         have h3 := (ih s').1 h2
         cases l with
         | nil => exact congrArg (c :: ·) h3
         | cons y l => exact ⟨by simp [h3.1],h3.2⟩
       · intro h3
         cases l with
         | nil => exact ⟨x,h3,(ih x).2 rfl⟩
         | cons y l =>
           obtain ⟨h4,h5⟩ := h3
           cases s with
           | nil => simp at h4
           | cons d s =>
             simp only [List.isPrefixOf,Bool.and_eq_true,beq_iff_eq] at h4
             obtain ⟨rfl,h4⟩ := h4
             exact ⟨s,rfl,(ih s).2 ⟨h4,h5⟩⟩
theorem ou {x : List UInt8} {l : List (List UInt8)} {s : List UInt8} (h : l ≠ []) : T6 (x :: l) s ↔ ∃ i,i ≤ s.length ∧ Lib.occAt s x i = true ∧ T6 l (s.drop (i + x.length)) := by
 cases l with
 | nil => exact absurd rfl h
 | cons y l => exact Iff.rfl
theorem eE {s x : List UInt8} {i : Nat} (h : Lib.occAt s x i = true) (hi : i ≤ s.length) : i + x.length ≤ s.length := by
 unfold Lib.occAt at h
 have := (List.isPrefixOf_iff_prefix.1 h).length_le
 rw [List.length_drop] at this
 omega
theorem Yp {s x : List UInt8} {i n : Nat} (h : i + x.length ≤ n) : Lib.occAt (s.take n) x i = Lib.occAt s x i := by
 unfold Lib.occAt
 rw [List.drop_take]
 refine Bool.eq_iff_iff.2 ?_
 rw [List.isPrefixOf_iff_prefix,List.isPrefixOf_iff_prefix,List.prefix_take_iff]
 exact ⟨fun h1 => h1.1,fun h1 => ⟨h1,by omega⟩⟩
theorem WO : ∀ (r : List (List UInt8)) (z s : List UInt8),T6 (r ++ [z]) s ↔ z.length ≤ s.length ∧ s.drop (s.length - z.length) = z ∧ Plc r (s.take (s.length - z.length))
 | [],z,s => by
   show (∃ i,i ≤ s.length ∧ s.drop i = z) ↔ _
   constructor
   · rintro ⟨i,h1,rfl⟩
     rw [List.length_drop]
     exact ⟨by omega,by rw [show s.length - (s.length - i) = i by omega],trivial⟩
   · rintro ⟨h1,h2,_⟩
     exact ⟨_,by omega,h2⟩
 | x :: r,z,s => by
   rw [List.cons_append,ou (by simp)]
   constructor
   · rintro ⟨i,h1,h2,h3⟩
     have hk := eE h2 h1
     obtain ⟨h4,h5,h6⟩ := (WO r z _).1 h3
     rw [List.length_drop] at h4 h5 h6
     rw [List.drop_drop] at h5
     refine ⟨by omega,by rw [show s.length - z.length = i + x.length + (s.length - (i + x.length) - z.length) by omega]; exact h5,i,by rw [List.length_take]; omega,by rw [Yp (by omega)]; exact h2,?_⟩
     rw [List.drop_take,show s.length - z.length - (i + x.length) = s.length - (i + x.length) - z.length by omega]; exact h6
   · rintro ⟨h1,h2,i,h3,h4,h5⟩
     have hk := eE h4 h3
     rw [List.length_take] at h3 hk
     rw [Yp (by omega)] at h4
     rw [List.drop_take] at h5
     refine ⟨i,by omega,h4,(WO r z _).2 ⟨by rw [List.length_drop]; omega,?_,?_⟩⟩
     · rw [List.length_drop,List.drop_drop,show i + x.length + (s.length - (i + x.length) - z.length) = s.length - z.length by omega]; exact h2
     · rw [List.length_drop,show s.length - (i + x.length) - z.length = s.length - z.length - (i + x.length) by omega]; exact h5
theorem eF (s : ByteArray) (i j : Nat) : (s.extract i j).data.toList = (s.data.toList.drop i).take (j - i) := by
 rw [ByteArray.data_extract,Array.toList_extract]
theorem ov {a b : ByteArray} : a = b ↔ a.data.toList = b.data.toList := ⟨fun h => by rw [h],fun h => by
 obtain ⟨a⟩ := a
 obtain ⟨b⟩ := b
 congr 1
 exact Array.toList_inj.1 h⟩
theorem tS {l : List ByteArray} {s : ByteArray} (h : l ≠ []) : jA l s = true ↔ Pcs (l.map (·.data.toList)) s.data.toList := by
 match l,h with
 | [a],_ =>
   have e : jA [a] s = decide (s = a) := rfl
   rw [e,decide_eq_true_eq,ov]
   exact Iff.rfl
 | a :: y :: r,_ =>
   obtain ⟨iA,z,hm⟩ : ∃ iA z,y :: r = iA ++ [z] := ⟨(y :: r).dropLast,(y :: r).getLast (by simp),(List.dropLast_concat_getLast (by simp)).symm⟩
   have Ld : s.data.toList.length = s.size := rfl
   have haz : a.data.toList.length = a.size := rfl
   have hzz : z.data.toList.length = z.size := rfl
   have e1 : jA (a :: y :: r) s = (if s.size < a.size + z.size ∨ s.extract 0 a.size ≠ a ∨ s.extract (s.size - z.size) s.size ≠ z then false else Tx iA (s.extract a.size (s.size - z.size))) := by
     unfold jA
     rw [hm]
     simp only [List.head?_cons,Option.getD_some,List.tail_cons,List.dropLast_concat,List.length_cons,List.length_append]
     rw [if_neg (by omega),show (a :: (iA ++ [z])).getLast? = some z by rw [← List.cons_append,List.getLast?_concat]]
     rfl
   have e2 : Pcs ((a :: y :: r).map (·.data.toList)) s.data.toList ↔ a.data.toList.isPrefixOf s.data.toList = true ∧ T6 (iA.map (·.data.toList) ++ [z.data.toList]) (s.data.toList.drop a.size) := by
     have e3 : (y :: r).map (·.data.toList) = iA.map (·.data.toList) ++ [z.data.toList] := by rw [hm,List.map_append]; rfl
     rw [List.map_cons]
     show a.data.toList.isPrefixOf s.data.toList = true ∧ T6 ((y :: r).map (·.data.toList)) _ ↔ _
     rw [e3,haz]
   rw [e1,e2,WO,List.isPrefixOf_iff_prefix,List.length_drop,Ld,hzz,List.drop_drop]
   have iB : (s.extract 0 a.size = a) ↔ s.data.toList.take a.size = a.data.toList := by rw [ov,eF,List.drop_zero,Nat.sub_zero]
   have AIA : (s.extract (s.size - z.size) s.size = z) ↔ s.data.toList.drop (s.size - z.size) = z.data.toList := by rw [ov,eC]
   by_cases hc : s.size < a.size + z.size ∨ s.extract 0 a.size ≠ a ∨ s.extract (s.size - z.size) s.size ≠ z
   · rw [if_pos hc]
     refine ⟨fun hh => (by cases hh),?_⟩
     rintro ⟨h1,h2,h3,h4⟩
     exfalso
     have hal := h1.length_le
     rcases hc with hc | hc | hc
     · omega
     · exact hc (iB.2 (by rw [← haz]; exact (List.prefix_iff_eq_take.1 h1).symm))
     · refine hc (AIA.2 ?_)
       rw [← h3]; congr 1; omega
   · rw [if_neg hc]
     simp only [not_or,Decidable.not_not] at hc
     obtain ⟨c1,c2,c3⟩ := hc
     rw [eD,eF]
     constructor
     · intro hp
       refine ⟨List.prefix_iff_eq_take.2 (by rw [haz]; exact (iB.1 c2).symm),by omega,?_,?_⟩
       · rw [← AIA.1 c3]; congr 1; omega
       · rw [show s.size - a.size - z.size = s.size - z.size - a.size by omega]; exact hp
     · rintro ⟨_,_,_,hp⟩
       rw [show s.size - a.size - z.size = s.size - z.size - a.size by omega] at hp
       exact hp
theorem Yq {p : List UInt8} {l : List ByteArray} {s : ByteArray} (h : l.map (·.data.toList) = Lp p) : jA l s = true ↔ Bs p s.data.toList := by
 rw [tS (fun e => WN p (by rw [← h,e]; rfl)),h,Nz]
theorem IS {p s : List UInt8} : Bs (42 :: p) s ↔ ∃ i,i ≤ s.length ∧ Bs p (s.drop i) := by
 show (if (42 : UInt8) = 42 then _ else _) ↔ _
 rw [if_pos rfl]
theorem Ku {c : UInt8} {p s : List UInt8} (h : c ≠ 42) : Bs (c :: p) s ↔ ∃ s',s = c :: s' ∧ Bs p s' := by
 show (if c = 42 then _ else _) ↔ _
 rw [if_neg h]
theorem IT : ∀ (p q s : List UInt8),Bs (p ++ q) s ↔ ∃ j,j ≤ s.length ∧ Bs p (s.take j) ∧ Bs q (s.drop j)
 | [],q,s => by
   constructor
   · intro h; exact ⟨0,Nat.zero_le _,rfl,h⟩
   · rintro ⟨j,h1,h2,h3⟩
     have h2 : s.take j = [] := h2
     have hl := congrArg List.length h2
     rw [List.length_take] at hl
     have hl : min j s.length = 0 := hl
     have hj : j = 0 := by omega
     subst hj
     exact h3
 | c :: p,q,s => by
   rw [List.cons_append]
   by_cases hc : c = 42
   · subst hc
     rw [IS]
     constructor
     · rintro ⟨i,h1,h2⟩
       obtain ⟨j,h3,h4,h5⟩ := (IT p q _).1 h2
       rw [List.length_drop] at h3
       rw [List.drop_drop] at h5
       exact ⟨i + j,by omega,IS.2 ⟨i,by rw [List.length_take]; omega,by rw [List.drop_take,show i + j - i = j by omega]; exact h4⟩,h5⟩
     · rintro ⟨J,h1,h2,h3⟩
       obtain ⟨i,h4,h5⟩ := IS.1 h2
       rw [List.length_take] at h4
       rw [List.drop_take] at h5
       exact ⟨i,by omega,(IT p q _).2 ⟨J - i,by rw [List.length_drop]; omega,h5,by rw [List.drop_drop,show i + (J - i) = J by omega]; exact h3⟩⟩
   · rw [Ku hc]
     constructor
     · rintro ⟨s',rfl,h2⟩
       obtain ⟨j,h3,h4,h5⟩ := (IT p q _).1 h2
       exact ⟨j + 1,by simpa using h3,(Ku hc).2 ⟨s'.take j,rfl,h4⟩,h5⟩
     · rintro ⟨J,h1,h2,h3⟩
       obtain ⟨s',h4,h5⟩ := (Ku hc).1 h2
       cases s with
       | nil => simp at h4
       | cons d s =>
         cases J with
         | zero => simp at h4
         | succ J =>
           simp only [List.take_succ_cons,List.cons.injEq] at h4
           obtain ⟨rfl,rfl⟩ := h4
           exact ⟨s,rfl,(IT p q _).2 ⟨J,by simpa using h1,h5,h3⟩⟩
theorem G0 {p s : List UInt8} : Bs (p ++ [42]) s ↔ ∃ j,j ≤ s.length ∧ Bs p (s.take j) := by
 rw [IT]
 constructor
 · rintro ⟨j,h1,h2,_⟩; exact ⟨j,h1,h2⟩
 · rintro ⟨j,h1,h2⟩
   exact ⟨j,h1,h2,IS.2 ⟨(s.drop j).length,Nat.le_refl _,List.drop_eq_nil_of_le (Nat.le_refl _)⟩⟩
theorem MM {c : UInt8} {p s : List UInt8} (hc : c ≠ 42) : Bs (p ++ [c]) s ↔ ∃ s',s = s' ++ [c] ∧ Bs p s' := by
 rw [IT]
 constructor
 · rintro ⟨j,h1,h2,h3⟩
   obtain ⟨u,h4,h5⟩ := (Ku hc).1 h3
   have h5 : u = [] := h5
   subst h5
   exact ⟨s.take j,by rw [← h4,List.take_append_drop],h2⟩
 · rintro ⟨s',rfl,h2⟩
   exact ⟨s'.length,by simp,by rw [List.take_left]; exact h2,by rw [List.drop_left]; exact (Ku hc).2 ⟨[],rfl,rfl⟩⟩
def Lq (c : UInt8) : List UInt8 → List (List UInt8)
 | [] => [[]]
 | b :: p => if b = c then [] :: Lq c p else match Lq c p with
   | [] => [[b]]
   | x :: l => (b :: x) :: l
theorem WQ : ∀ p,Lq 42 p = Lp p
 | [] => rfl
 | c :: p => by unfold Lq Lp; rw [WQ p]
theorem TN (c : UInt8) : ∀ s : List UInt8,Lib.splitK [c] 0 (s.count c) s = Lq c s
 | [] => rfl
 | b :: l => by
   have ih := TN c l
   by_cases hb : b = c
   · subst hb
     have e : (b :: l).count b = l.count b + 1 := List.count_cons_self
     have hi : Lib.index (b :: l) [b] = 0 := by unfold Lib.index; simp
     rw [e,Lib.splitK,hi]
     unfold Lq
     rw [if_pos rfl,← ih]
     rfl
   · have e : (b :: l).count c = l.count c := List.count_cons_of_ne hb
     have hi : Lib.index (b :: l) [c] = if Lib.index l [c] == -1 then -1 else Lib.index l [c] + 1 := by
       rw [Lib.index,if_neg (by simpa using fun h => hb h.symm)]
     rw [e]
     unfold Lq
     rw [if_neg hb,← ih]
     cases hk : l.count c with
     | zero => rfl
     | succ k =>
       rw [Lib.splitK,Lib.splitK,hi]
       have Ul := Lib.index_ge l [c]
       by_cases hn : Lib.index l [c] = -1
       · rw [hn]; rfl
       · have h1 : (Lib.index l [c] == -1) = false := by simpa using hn
         have h2 : (Lib.index l [c] + 1 == -1) = false := by
           rw [beq_eq_false_iff_ne]; omega
         simp only [h1,h2,Bool.false_eq_true,if_false]
         rw [show (Lib.index l [c] + 1).toNat = (Lib.index l [c]).toNat + 1 by omega]
         simp only [List.length_singleton,Nat.add_zero,List.take_succ_cons,List.drop_succ_cons]
theorem N0 (c : UInt8) (s : ByteArray) : (Dg c s).map (·.data.toList) = Lq c s.data.toList := by
 unfold Dg
 rw [Lib.splitB_data]
 have h : Lib.countB s ⟨#[c]⟩ = s.data.toList.count c := Lib.count_one c s.data.toList
 rw [h]
 exact TN c _
theorem iC {p s : ByteArray} : IH p s = true ↔ ∃ x ∈ Lq 124 p.data.toList,Bs x s.data.toList := by
 unfold IH
 rw [List.any_eq_true]
 constructor
 · rintro ⟨x,hx,h⟩
   refine ⟨x.data.toList,by rw [← N0]; exact List.mem_map.2 ⟨x,hx,rfl⟩,(Yq ?_).1 h⟩
   rw [N0,WQ]
 · rintro ⟨x,hx,h⟩
   rw [← N0] at hx
   obtain ⟨y,hy,rfl⟩ := List.mem_map.1 hx
   exact ⟨y,hy,(Yq (by rw [N0,WQ])).2 h⟩
def Pl (p : List UInt8) (i : Nat) : List UInt8 := if p[i]? = some 42 then p.take (i + 1) else p.take i
theorem IU {p : List UInt8} {i : Nat} {c : UInt8} (h : p[i]? = some c) : p.take (i + 1) = p.take i ++ [c] := by
 rw [List.take_succ,h]; rfl
theorem iD {p s : List UInt8} {i : Nat} {c d : UInt8} (h : p[i]? = some c) : Bs (p.take (i + 1)) (s ++ [d]) ↔ if c = 42 then Bs (Pl p i) (s ++ [d]) else c = d ∧ Bs (Pl p i) s := by
 by_cases hc : c = 42
 · subst hc
   rw [if_pos rfl]
   unfold Pl
   rw [if_pos h]
 · rw [if_neg hc,IU h,MM hc]
   unfold Pl
   rw [if_neg (by rw [h]; simpa using hc)]
   constructor
   · rintro ⟨s',e,h2⟩
     have h3 := List.append_inj' e rfl
     obtain ⟨rfl,h4⟩ := h3
     exact ⟨by simpa using h4.symm,h2⟩
   · rintro ⟨rfl,h2⟩
     exact ⟨s,rfl,h2⟩
theorem eG {p s : List UInt8} {i : Nat} {d : UInt8} : Bs (Pl p i) (s ++ [d]) ↔ (p[i]? = some 42 ∧ Bs (Pl p i) s) ∨ Bs (p.take i) (s ++ [d]) := by
 by_cases h : p[i]? = some 42
 · have e : Pl p i = p.take i ++ [42] := by unfold Pl; rw [if_pos h,IU h]
   rw [e,G0,G0]
   constructor
   · rintro ⟨j,h1,h2⟩
     rw [List.length_append,List.length_singleton] at h1
     by_cases hj : j ≤ s.length
     · rw [List.take_append_of_le_length hj] at h2
       exact .inl ⟨h,j,hj,h2⟩
     · have e9 : (s ++ [d]).take j = s ++ [d] := List.take_of_length_le (by rw [List.length_append,List.length_singleton]; omega)
       rw [e9] at h2
       exact .inr h2
   · rintro (⟨_,j,h1,h2⟩ | h2)
     · exact ⟨j,by simp; omega,by rw [List.take_append_of_le_length h1]; exact h2⟩
     · exact ⟨(s ++ [d]).length,Nat.le_refl _,by rw [List.take_length]; exact h2⟩
 · have e : Pl p i = p.take i := by unfold Pl; rw [if_neg h]
   rw [e]
   exact ⟨fun h2 => .inr h2,fun h2 => h2.elim (fun h3 => absurd h3.1 h) id⟩
theorem ABB {p : List UInt8} : Pl p p.length = p := by
 unfold Pl
 rw [if_neg (by simp),List.take_length]
end TwW
end
section
namespace TwW
open Go Tw Go.RowKit Go.Proofs.Tryz
def N1 (v : Int) : Prop := (IJ v.toNat = false ∧ 0 ≤ v) ∨ v = 9221120237041090560
theorem ow {x : Nat} (h : IJ x = false ∨ x = 9221120237041090560) : N1 (x : Nat) := by
 rcases h with h | h
 · exact .inl ⟨by rw [Int.toNat_natCast]; exact h,Int.natCast_nonneg _⟩
 · exact .inr (by rw [h]; rfl)
theorem O1 (x : Nat) : N1 (toF x : Nat) := ow (by
 unfold toF
 split
 · exact .inr rfl
 · rename_i h; exact .inl (by simpa using h))
theorem WR (x : Int) : N1 (nrm x) := O1 _
theorem bT (op : Int) (a b : Nat) : N1 (Vz op a b : Nat) := by
 unfold Vz
 cases fAr op a b with
 | none => exact .inr rfl
 | some r => exact O1 r
theorem Kv (op a b : Int) : N1 (QT op a b) := bT _ _ _
theorem U5 {neg : Bool} {r : Nat} (h : r ≤ 9218868437227405312) : IJ (Ieee.double.word neg r) = false := by
 cases hf : IJ (Ieee.double.word neg r) with
 | false => rfl
 | true =>
   rw [Kj] at hf
   have e : Ieee.double.word neg r = if neg then 9223372036854775808 + r else r := by cases neg <;> rfl
   rw [e] at hf
   cases neg
   · simp only [Bool.false_eq_true,if_false] at hf; omega
   · simp only [if_true] at hf; omega
theorem O2 (n : Int) : N1 (BP n) := ow (.inl (by
 show IJ (Ieee.double.nearest (n < 0) n.natAbs 0) = false
 unfold Ieee.Format.nearest
 dsimp only
 split
 · exact U5 (Nat.zero_le _)
 · exact U5 (Nat.le_trans (Nat.min_le_right ..) (by decide))))
theorem AIB : N1 0 := .inl ⟨by decide,by decide⟩
theorem Yr {f : Int → Int → Int} (hf : ∀ a b,N1 a → N1 (f a b)) : ∀ (l : List Int) (a : Int),N1 a → N1 (l.foldl f a)
 | [],a,h => h
 | x :: l,a,h => Yr hf l _ (hf a x h)
theorem eH : ∀ vs,N1 (Ty vs)
 | [] => AIB
 | v :: l => Yr (fun a b _ => Kv 1 a b) l _ (WR v)
theorem N2 (op : Int) : ∀ vs,N1 (Kl op vs)
 | [] => AIB
 | v :: l => WR _
theorem ox (vs : List Int) : N1 (Kn vs) := by
 unfold Kn
 have : ∀ (l : List (Int × Int)) (a : Int),N1 a → N1 (l.foldl Km a) := fun l => by
   induction l with
   | nil => intro a h; exact h
   | cons x l ih =>
     intro a h
     refine ih _ ?_
     unfold Km
     split
     · exact Kv _ _ _
     · exact h
 exact this _ _ (Kv _ _ _)
theorem oy (op : Int) (vs : List Int) : N1 (foldI op vs) := by
 unfold foldI
 split
 · exact eH _
 · split
   · exact N2 _ _
   · split
     · exact N2 _ _
     · split
       · exact Kv _ _ _
       · exact O2 _
theorem oz {op : Int} {vs : List Int} {w x : Int} (h : IP op vs w = some x) : N1 x := by
 unfold IP at h
 split at h
 · rw [← Option.some.inj h]; exact eH _
 split at h
 · rw [← Option.some.inj h]; exact Kv _ _ _
 split at h
 · rw [← Option.some.inj h]; exact N2 _ _
 split at h
 · rw [← Option.some.inj h]; exact N2 _ _
 split at h
 · rw [← Option.some.inj h]; exact O2 _
 split at h
 · rw [← Option.some.inj h]; exact WR _
 split at h
 · rw [← Option.some.inj h]; exact bT _ _ _
 split at h
 · exact absurd h.symm (Option.some_ne_none _)
 split at h
 · rw [← Option.some.inj h]; exact Kv _ _ _
 split at h
 · rw [← Option.some.inj h]; exact ox _
 · rw [← Option.some.inj h]; exact Kv _ _ _
theorem N3 (op a b : Int) : N1 (IQ op a b).1 := by
 unfold IQ
 split
 · exact Kv _ _ _
 · show N1 (if _ then BP 1 else BP 0)
   split <;> exact O2 _
theorem tT (s : ByteArray) : N1 (Ye s) := by
 unfold Ye
 dsimp only
 split
 · exact O1 _
 · split
   · exact O1 _
   · exact bT _ _ _
theorem iE (x : Int) : N1 (Mh x) := by
 unfold Mh Kk
 split
 · exact .inr rfl
 · exact O1 _
theorem tU (x : Int) : N1 (V0 x) := O1 _
theorem Ys (x : Int) : N1 (nS x) := WR _
theorem o0 : ∀ x y : List UInt8,Op.bytesLess x y = true ∨ x = y ∨ Op.bytesLess y x = true
 | [],[] => .inr (.inl rfl)
 | [],_ :: _ => .inl rfl
 | _ :: _,[] => .inr (.inr rfl)
 | a :: x,b :: y => by
   simp only [Op.bytesLess,Bool.or_eq_true,Bool.and_eq_true,decide_eq_true_eq,beq_iff_eq]
   rcases Nat.lt_trichotomy a.toNat b.toNat with h | h | h
   · exact .inl (.inl (UInt8.lt_iff_toNat_lt.2 h))
   · have e : a = b := UInt8.toNat_inj.1 h
     subst e
     rcases o0 x y with h | h | h
     · exact .inl (.inr ⟨rfl,h⟩)
     · exact .inr (.inl (by rw [h]))
     · exact .inr (.inr (.inr ⟨rfl,h⟩))
   · exact .inr (.inr (.inl (UInt8.lt_iff_toNat_lt.2 h)))
theorem TO : ∀ x y z : List UInt8,Op.bytesLess x y = true → Op.bytesLess y z = true → Op.bytesLess x z = true
 | _,_,[],_,h => by cases ‹List UInt8› <;> simp [Op.bytesLess] at h
 | [],_,_ :: _,_,_ => rfl
 | _ :: _,[],_,h,_ => by simp [Op.bytesLess] at h
 | a :: x,b :: y,c :: z,h1,h2 => by
   simp only [Op.bytesLess,Bool.or_eq_true,Bool.and_eq_true,decide_eq_true_eq,beq_iff_eq,UInt8.lt_iff_toNat_lt] at h1 h2 ⊢
   rcases h1 with h1 | ⟨rfl,h1⟩
   · rcases h2 with h2 | ⟨rfl,h2⟩
     · exact .inl (by omega)
     · exact .inl h1
   · rcases h2 with h2 | ⟨rfl,h2⟩
     · exact .inl h2
     · exact .inr ⟨rfl,TO x y z h1 h2⟩
theorem bU : ∀ x : List UInt8,Op.bytesLess x x = false
 | [] => rfl
 | a :: x => by simp [Op.bytesLess,bU x]
theorem o4 {a b : ByteArray} (h : sle b a = false) : Op.bytesLess a.toList b.toList = true := by
 unfold sle at h
 simp only [Bool.or_eq_false_iff,beq_eq_false_iff_ne] at h
 rcases o0 a.toList b.toList with h1 | h1 | h1
 · exact h1
 · exact absurd h1.symm h.2
 · rw [h1] at h; exact absurd h.1 (by decide)
theorem o6 {p x y : ByteArray} (h1 : sle x p = false) (h2 : sle y x = false) : sle y p = false := by
 have h3 := TO _ _ _ (o4 h1) (o4 h2)
 cases h : sle y p with
 | false => rfl
 | true =>
   unfold sle at h
   simp only [Bool.or_eq_true,beq_iff_eq] at h
   rcases h with h | h
   · have := TO _ _ _ h3 h
     rw [bU] at this; cases this
   · rw [h,bU] at h3; cases h3
theorem Kw {pv : Option ByteArray} {x : Lb} {l : List Lb} : C8 pv (x :: l) = 0 ↔ ¬ Cj x.1 = false ∧ ¬ (x.2.size = 0 ∨ 256 < x.2.size ∨ ID x.2 = false) ∧ ¬ pv.any (sle x.1 ·) = true ∧ C8 (some x.1) l = 0 := by
 have e : C8 pv (x :: l) = if Cj x.1 = false then 31 else if x.2.size = 0 ∨ 256 < x.2.size ∨ ID x.2 = false then 32 else if pv.any (sle x.1 ·) = true then 33 else C8 (some x.1) l := by cases pv <;> rfl
 rw [e]
 constructor
 · intro h
   split at h
   · cases h
   split at h
   · cases h
   split at h
   · cases h
   exact ⟨by assumption,by assumption,by assumption,h⟩
 · rintro ⟨h1,h2,h3,h4⟩
   rw [if_neg h1,if_neg h2,if_neg h3]; exact h4
theorem pA {pv : Option ByteArray} {k : ByteArray} (hk : ∀ p,pv = some p → sle k p = false) : ∀ {l : List Lb},C8 (some k) l = 0 → C8 pv l = 0
 | [],_ => by cases pv <;> rfl
 | x :: l,h => by
   obtain ⟨h1,h2,h3,h4⟩ := Kw.1 h
   refine Kw.2 ⟨h1,h2,?_,h4⟩
   cases pv with
   | none => simp
   | some p =>
     simp only [Option.any_some,Bool.not_eq_true] at h3 ⊢
     exact o6 (hk p rfl) h3
theorem TP (g : Lb → Bool) : ∀ (ls : List Lb) (pv : Option ByteArray),C8 pv ls = 0 → C8 pv (ls.filter g) = 0
 | [],pv,_ => by cases pv <;> rfl
 | x :: l,pv,h => by
   obtain ⟨h1,h2,h3,h4⟩ := Kw.1 h
   have ih := TP g l _ h4
   rw [List.filter_cons]
   split
   · exact Kw.2 ⟨h1,h2,h3,ih⟩
   · refine pA (fun p hp => ?_) ih
     subst hp
     simpa using h3
theorem Fo {ls : List Lb} (g : Lb → Bool) (h : Cr ls = 0) : Cr (ls.filter g) = 0 := by
 unfold Cr at h ⊢
 split at h
 · cases h
 · rename_i h16
   have := List.length_filter_le g ls
   rw [if_neg (by omega)]
   exact TP g ls none h
theorem Gc {ls : List Lb} (h : Cr ls = 0) : Cr (C9 ls) = 0 := Fo _ h
theorem tV {n : Nd} {ls : List Lb} (h : Cr ls = 0) : Cr (Mw n ls) = 0 := by
 unfold Mw
 split
 · exact Fo _ h
 · exact Gc (Fo _ h)
theorem bV {n : Nd} {ls : List Lb} (h : Cr ls = 0) : Cr (D4 n ls) = 0 := by
 unfold D4
 split
 · exact Fo _ h
 · split
   · exact Gc (Fo _ h)
   · rfl
def eI (l : List El) : Prop := l.Pairwise fun a b => Aj a.ls b.ls < 0
def iF (ss : List Sr) (e : El) : Prop := Cr e.ls = 0 ∧ (N1 e.v ∨ ∃ s ∈ ss,∃ p ∈ s.ps,p.2 = e.v)
structure VS (ss : List Sr) (x : Vv) : Prop where
 el : ∀ e ∈ x.vec,iF ss e
 up : eI x.vec
 rg : ∀ r ∈ x.OU,Cr r.ls = 0
 one : x.kind = 1 → N1 x.v
theorem bW {l m : List El} (h : DQ FF l = some m) : eI m := by
 have hp := LR h
 unfold DQ at h
 split at h
 · rename_i hd
   cases h
   have h1 := JA (F := FF) rfl l
   have h2 : (dR FF l).Pairwise fun a b => Aj a.ls b.ls ≠ 0 := (hp.pairwise_iff (fun {x y} Sl hyx => Sl (by rw [(Af.eq _ _).1 hyx]; exact (Af.eq _ _).2 rfl))).2 hd
   exact (h1.and h2).imp fun {a b} qF => by
     have h3 : Aj a.ls b.ls ≤ 0 := qF.1
     have h4 := qF.2
     omega
 · cases h
theorem Mn {ss : List Sr} {l m : List El} (h : DQ FF l = some m) (hl : ∀ e ∈ l,iF ss e) : VS ss ⟨2,0,m,[]⟩ :=
 ⟨fun e he => hl e ((LR h).mem_iff.1 he),bW h,fun r hr => (by cases hr),fun hh => absurd (show (2 : Int) = 1 from hh) (by decide)⟩
theorem bX {ss : List Sr} {v : Int} (h : N1 v) : VS ss ⟨1,v,[],[]⟩ := ⟨fun e he => (by cases he),.nil,fun r hr => (by cases hr),fun _ => h⟩
theorem Gd : ∀ {ss : List Sr} {q : Option (List Lb)},BN q ss = true → (∀ k,q = some k → ∀ s ∈ ss,Aj k s.ls < 0) ∧ ss.Pairwise fun a b => Aj a.ls b.ls < 0
 | [],q,_ => ⟨fun k _ s hs => (by cases hs),.nil⟩
 | s :: l,q,h => by
   rw [FK] at h
   simp only [Bool.and_eq_true] at h
   obtain ⟨h1,h2⟩ := Gd h.2
   refine ⟨fun k hk u hu => ?_,List.pairwise_cons.2 ⟨fun u hu => h1 s.ls rfl u hu,h2⟩⟩
   subst hk
   have h3 : Aj k s.ls < 0 := of_decide_eq_true h.1.2
   rcases List.mem_cons.1 hu with rfl | hu
   · exact h3
   · exact Af.trans _ _ _ h3 (h1 s.ls rfl u hu)
theorem iG {ss : List Sr} {n : Nd} {t : Int} (h : BN none ss = true) : VS ss ⟨2,0,BE FF n ss t,[]⟩ := by
 have key : ∀ (s : Sr) (e : El),(match (D3 s.ps (t - n.back - 300) (t - n.back)).getLast? with
   | none => none
   | some p => if p.2 = IE ∨ FF.Hi n.mt s.ls = false then none else some (⟨s.ls,p.2⟩ : El)) = some e → e.ls = s.ls ∧ ∃ p ∈ s.ps,p.2 = e.v := fun s e he => by
   split at he
   · cases he
   · rename_i p hl
     split at he
     · cases he
     · simp only [Option.some.injEq] at he
       subst he
       exact ⟨rfl,p,(List.mem_filter.1 (List.mem_of_getLast? hl)).1,rfl⟩
 refine ⟨fun e he => ?_,?_,fun r hr => (by cases hr),fun hh => absurd (show (2 : Int) = 1 from hh) (by decide)⟩
 · obtain ⟨s,hs,h1⟩ := List.mem_filterMap.1 he
   obtain ⟨h2,p,hp,hv⟩ := key s e h1
   exact ⟨by rw [h2]; exact (CJ h s hs).1,.inr ⟨s,hs,p,hp,hv⟩⟩
 · show (List.filterMap _ ss).Pairwise _
   refine List.pairwise_filterMap.2 ((Gd h).2.imp fun {a b} qF e he e' QQ => ?_)
   rw [(key a e he).1,(key b e' QQ).1]; exact qF
theorem pB {ss : List Sr} {n : Nd} {t : Int} (h : BN none ss = true) : VS ss ⟨3,FF.whole n.width,[],Bh FF n ss t⟩ := by
 refine ⟨fun e he => (by cases he),.nil,fun r hr => ?_,fun hh => absurd (show (3 : Int) = 1 from hh) (by decide)⟩
 obtain ⟨s,hs,h1⟩ := List.mem_filterMap.1 hr
 dsimp only at h1
 generalize (!_ && FF.Hi n.mt s.ls) = b at h1
 cases b with
 | false => cases h1
 | true =>
   simp only [cond_true,Option.some.injEq] at h1
   subst h1
   exact (CJ h s hs).1
theorem pC {ss : List Sr} {n : Nd} {x : Vv} (hx : VS ss x) : ∀ e ∈ Sj FF n x,iF ss e := fun e he => by
 rcases List.mem_append.1 he with he | he
 · obtain ⟨y,hy,rfl⟩ := List.mem_map.1 he
   refine ⟨Gc (hx.el y hy).1,.inl ?_⟩
   show N1 (if n.op = 11 then V0 y.v else Mh y.v)
   split
   · exact tU _
   · exact iE _
 · obtain ⟨y,hy,h1⟩ := List.mem_filterMap.1 he
   have h2 : (IP n.op y.vs x.v).map (fun v => (⟨C9 y.ls,v⟩ : El)) = some e := h1
   cases ho : IP n.op y.vs x.v with
   | none => rw [ho] at h2; cases h2
   | some z =>
     rw [ho] at h2
     simp only [Option.map_some,Option.some.injEq] at h2
     subst h2
     exact ⟨Gc (hx.rg y hy),.inl (oz ho)⟩
theorem Yt {ls : List Lb} {v : Int} : ∀ {l : List Rg} {g : Rg},g ∈ IF ls v l → g.ls = ls ∨ ∃ y ∈ l,y.ls = g.ls
 | [],g,h => by
   unfold IF at h
   rw [List.mem_singleton] at h
   exact .inl (by rw [h])
 | y :: l,g,h => by
   unfold IF at h
   split at h
   · rcases List.mem_cons.1 h with rfl | h
     · exact .inr ⟨y,by simp,rfl⟩
     · exact .inr ⟨g,List.mem_cons_of_mem _ h,rfl⟩
   · rcases List.mem_cons.1 h with rfl | h
     · exact .inr ⟨g,by simp,rfl⟩
     · rcases Yt h with h | ⟨z,hz,h⟩
       · exact .inl h
       · exact .inr ⟨z,List.mem_cons_of_mem _ hz,h⟩
theorem U6 {n : Nd} : ∀ (l : List El) (gs : List Rg),(∀ e ∈ l,Cr e.ls = 0) → (∀ g ∈ gs,Cr g.ls = 0) → ∀ g ∈ l.foldl (fun gs x => IF (D4 n x.ls) x.v gs) gs,Cr g.ls = 0
 | [],gs,_,h => h
 | x :: l,gs,hl,h => by
   refine U6 l _ (fun e he => hl e (List.mem_cons_of_mem _ he)) fun g hg => ?_
   rcases Yt hg with h1 | ⟨y,hy,h1⟩
   · rw [h1]; exact bV (hl x (by simp))
   · rw [← h1]; exact h y hy
theorem tW {ss : List Sr} {n : Nd} {x : Vv} (hx : VS ss x) : ∀ e ∈ ag FF n x,iF ss e := fun e he => by
 obtain ⟨g,hg,rfl⟩ := List.mem_map.1 he
 exact ⟨U6 (n := n) x.vec [] (fun e he => (hx.el e he).1) (fun g hg => by cases hg) g hg,.inl (oy _ _)⟩
theorem eJ {ss : List Sr} {n : Nd} {l : List El} {f : Int → Int × Bool} (hl : ∀ e ∈ l,iF ss e) (hf : ∀ v,N1 (f v).1) : ∀ e ∈ Sk n l f,iF ss e := fun e he => by
 obtain ⟨y,hy,h1⟩ := List.mem_filterMap.1 he
 split at h1
 · simp only [Option.some.injEq] at h1
   subst h1
   exact ⟨Gc (hl y hy).1,.inl (hf _)⟩
 · split at h1
   · simp only [Option.some.injEq] at h1
     subst h1; exact hl y hy
   · cases h1
theorem pD {ss : List Sr} {n : Nd} {x y : List El} (hx : ∀ e ∈ x,iF ss e) (hy : ∀ e ∈ y,iF ss e) : ∀ e ∈ MJ n x y,iF ss e := fun e he => by
 unfold MJ at he
 rcases List.mem_append.1 he with he | he
 · exact hx e (List.mem_filter.1 he).1
 · exact hy e (List.mem_filter.1 he).1
theorem pE {ss : List Sr} {n : Nd} {x y m : List El} (hx : ∀ e ∈ x,iF ss e) (h : Nn FF n x y = some m) : ∀ e ∈ m,iF ss e := by
 unfold Nn at h
 split at h
 · simp only [Option.some.injEq] at h
   subst h
   intro e he
   obtain ⟨z,hz,h1⟩ := List.mem_filterMap.1 he
   split at h1
   · cases h1
   · split at h1
     · simp only [Option.some.injEq] at h1
       subst h1
       exact ⟨tV (hx z hz).1,.inl (N3 _ _ _)⟩
     · split at h1
       · simp only [Option.some.injEq] at h1
         subst h1; exact hx z hz
       · cases h1
 · cases h
theorem ABC {ss : List Sr} {n : Nd} {x y v : Vv} (hx : VS ss x) (hy : VS ss y) (h : fu FF n x y = some v) : VS ss v := by
 unfold fu at h
 split at h
 · cases h; exact bX (N3 _ _ _)
 · obtain ⟨m,hm,rfl⟩ := map_some h
   split at hm
   · exact Mn (show DQ FF (Sk n y.vec (FF.Nl n.op x.v)) = some m from hm) (eJ hy.el fun v => N3 _ _ _)
   · split at hm
     · exact Mn (show DQ FF (Sk n x.vec fun v => FF.Nl n.op v y.v) = some m from hm) (eJ hx.el fun v => N3 _ _ _)
     · split at hm
       · exact Mn (show DQ FF (MJ n x.vec y.vec) = some m from hm) (pD hx.el hy.el)
       · cases hq : Nn FF n x.vec y.vec with
         | none => rw [hq] at hm; cases hm
         | some w =>
           rw [hq] at hm
           exact Mn (show DQ FF w = some m from hm) (pE hx.el hq)
theorem tX {ss : List Sr} {n : Nd} {t : Int} {L : List Vv} {v : Vv} (hs : BN none ss = true) (hV : ∀ x ∈ L,VS ss x) (h : F6 FF ss t n L = some v) : VS ss v := by
 unfold F6 at h
 split at h
 · cases h; exact bX (tT _)
 split at h
 · cases h; exact iG hs
 split at h
 · cases h; exact pB hs
 match L with
 | [x] =>
   have hx := hV x (by simp)
   dsimp only at h
   split at h
   · obtain ⟨m,hm,rfl⟩ := map_some h
     exact Mn hm (pC hx)
   split at h
   · obtain ⟨m,hm,rfl⟩ := map_some h
     exact Mn hm (tW hx)
   split at h
   · unfold fw at h
     split at h
     · cases h; exact bX (Ys _)
     · obtain ⟨m,hm,rfl⟩ := map_some h
       refine Mn hm fun e he => ?_
       obtain ⟨y,hy,rfl⟩ := List.mem_map.1 he
       exact ⟨Gc (hx.el y hy).1,.inl (Ys _)⟩
   · cases h
 | [x,y] =>
   dsimp only at h
   split at h
   · exact ABC (hV x (by simp)) (hV y (by simp)) h
   · cases h
 | [] => cases h
 | _ :: _ :: _ :: _ => cases h
theorem pF {ss : List Sr} {t : Int} (hs : BN none ss = true) : ∀ (T : List Nd) (st r : List Vv),HG FF ss t T st = some r → (∀ x ∈ st,VS ss x) → ∀ x ∈ r,VS ss x
 | [],st,r,hr,hV => by cases hr; exact hV
 | x :: T,st,r,hr,hV => by
   rw [HG] at hr
   cases hz : F6 FF ss t x (st.drop (st.length - x.parts.toNat)) with
   | none => rw [hz] at hr; cases hr
   | some z =>
     rw [hz] at hr
     refine pF hs T _ r hr fun u hu => ?_
     rcases List.mem_append.1 hu with hu | hu
     · exact hV u (List.mem_of_mem_take hu)
     · rw [List.mem_singleton] at hu
       rw [hu]
       exact tX hs (fun y hy => hV y (List.mem_of_mem_drop hy)) hz
theorem WS {ss : List Sr} {t : Int} {T : List Nd} {l : List El} (hs : BN none ss = true) (h : BB FF T ss t = some l) : (∀ e ∈ l,iF ss e) ∧ eI l := by
 unfold BB at h
 cases hr : HG FF ss t T [] with
 | none => rw [hr] at h; cases h
 | some st =>
   rw [hr] at h
   have hV := pF hs T [] st hr (fun x hx => by cases hx)
   change (st.head?.map fun v : Vv => if v.kind = 1 then [(⟨[],v.v⟩ : El)] else v.vec) = some l at h
   cases st with
   | nil => cases h
   | cons v st =>
     simp only [List.head?_cons,Option.map_some,Option.some.injEq] at h
     have hv := hV v (by simp)
     split at h
     · rename_i hk
       subst h
       exact ⟨fun e he => by rw [List.mem_singleton] at he; subst he; exact ⟨rfl,.inl (hv.one hk)⟩,List.pairwise_singleton _ _⟩
     · subst h
       exact ⟨hv.el,hv.up⟩
theorem eM {t : Int} : ∀ {l : List El} {q : Option (List Lb)},(∀ e ∈ l,Cr e.ls = 0) → eI l → (∀ k,q = some k → ∀ e ∈ l,Aj k e.ls < 0) → BN q (l.map fun e => ⟨e.ls,[(t,e.v)]⟩) = true
 | [],q,_,_,_ => by cases q <;> rfl
 | e :: l,q,h1,h2,h3 => by
   have h2 := List.pairwise_cons.1 h2
   rw [List.map_cons,FK]
   simp only [Bool.and_eq_true,decide_eq_true_eq]
   refine ⟨⟨⟨h1 e (by simp),rfl⟩,?_⟩,eM (fun u hu => h1 u (List.mem_cons_of_mem _ hu)) h2.2 fun k hk u hu => by cases hk; exact h2.1 u hu⟩
   cases q with
   | none => rfl
   | some k => exact decide_eq_true (h3 k rfl e (by simp))
theorem U7 {ss : List Sr} {t : Int} (hS : gi ss) : ∀ (T : List Nd) (st r : List Vv) (ty : List Int),DA T (st.map (·.kind)) = some ty → HG FF ss t T st = some r → (∀ x ∈ st,VG x) → r.map (·.kind) = ty
 | [],st,r,ty,hT,hr,hV => by
   cases hr
   exact Option.some.inj hT
 | x :: T,st,r,ty,hT,hr,hV => by
   have Gm : (BQ x (st.map (·.kind))).1 = 0 := Decidable.byContradiction fun BD => by
     rw [DA,if_neg BD] at hT; cases hT
   rw [DA,if_pos Gm] at hT
   obtain ⟨hf,hpl,hmo,dq,xA⟩ := WG Gm
   have xV := TH hf
   rw [List.length_map] at dq xA hpl
   rw [xA,← List.map_drop,← List.map_take] at hT
   rw [← List.map_drop] at dq
   rw [HG] at hr
   have hLl : ((st.drop (st.length - x.parts.toNat)).length : Int) = x.parts := by rw [List.length_drop]; omega
   have hLV : ∀ y ∈ st.drop (st.length - x.parts.toNat),VG y := fun y hy => hV y (List.mem_of_mem_drop hy)
   cases hz : F6 FF ss t x (st.drop (st.length - x.parts.toNat)) with
   | none => rw [hz] at hr; cases hr
   | some z =>
     rw [hz] at hr
     obtain ⟨w1,w2,w3⟩ := WE hS.ok hS.nn hf dq hLl hLV hz
     exact U7 hS T (st.take (st.length - x.parts.toNat) ++ [z]) r ty (by rw [List.map_append,List.map_singleton,w2]; exact hT) hr fun u hu => by
       rcases List.mem_append.1 hu with hu | hu
       · exact hV u (List.mem_of_mem_take hu)
       · rw [List.mem_singleton] at hu; rw [hu]; exact w1
theorem bY {ss : List Sr} {t : Int} {T : List Nd} {l : List El} (hS : gi ss) (hT : Jb T = some 1) (h : BB FF T ss t = some l) : ∃ v,l = [⟨[],v⟩] := by
 obtain ⟨B9,_⟩ := Kr hT
 unfold BB at h
 cases hr : HG FF ss t T [] with
 | none => rw [hr] at h; cases h
 | some st =>
   rw [hr] at h
   have hk := U7 hS T [] st _ B9 hr (fun x hx => by cases hx)
   change (st.head?.map fun v : Vv => if v.kind = 1 then [(⟨[],v.v⟩ : El)] else v.vec) = some l at h
   cases st with
   | nil => cases h
   | cons v st =>
     simp only [List.head?_cons,Option.map_some,Option.some.injEq] at h
     have hv : v.kind = 1 := by
       have := congrArg List.head? hk
       simpa using this
     rw [if_pos hv] at h
     exact ⟨v.v,h.symm⟩
theorem inst_shape {ss : List Sr} {t : Int} {T : List Nd} (hM : Modest T ss) (h : (instF T ss t).1 = 0) : (∃ k,Jb T = some k ∧ (k = 1 → ∃ v,(instF T ss t).2 = [⟨[],v⟩])) ∧ (∀ e ∈ (instF T ss t).2,iF ss e) ∧ BN none ((instF T ss t).2.map fun e => ⟨e.ls,[(t,e.v)]⟩) = true ∧ (instF T ss t).2.length ≤ 100000000000 := by
 unfold instF at h ⊢
 split
 · rename_i h0; rw [if_pos h0] at h; exact absurd h h0
 · rename_i h0
   rw [if_neg h0] at h
   split
   · rename_i h1; rw [if_pos h1] at h; cases h
   · rename_i h1
     rw [if_neg h1] at h
     have Pd := Decidable.not_not.1 h0
     obtain ⟨k,hk,Ck⟩ : ∃ k,Jb T = some k ∧ BN none ss = true := by
       unfold Di at Pd
       cases hq : Jb T with
       | none => rw [hq] at Pd; dsimp only at Pd; exact absurd Pd (by decide)
       | some k =>
         rw [hq] at Pd
         dsimp only at Pd
         by_cases h3 : k = 3
         · rw [if_pos h3] at Pd; exact absurd Pd (by decide)
         · rw [if_neg h3] at Pd
           cases ho : BN none ss with
           | true => exact ⟨k,rfl,rfl⟩
           | false => rw [ho] at Pd; exact absurd Pd (by decide)
     cases hm : BB FF T ss t with
     | none => rw [hm] at h; cases h
     | some l =>
       obtain ⟨s1,s2⟩ := WS Ck hm
       have hS := gi.of hM Ck
       obtain ⟨B9,hlen⟩ := Kr hk
       have h5 := (U4 hS B9 hm).2
       have h6 := Nat.mul_le_mul hlen hM.s
       exact ⟨⟨k,hk,fun sq => bY hS (by rw [hk,sq]) hm⟩,s1,eM (fun e he => (s1 e he).1) s2 (fun k hk => by cases hk),by show l.length ≤ _; omega⟩
end TwW
end
section
namespace TwW
open Ieee
theorem lp : double.leastPlace = -1074 := rfl
theorem fb : ((double.fractionBits : Nat) : Int) = 52 := by kernel_rfl
end TwW
end
section
namespace TwW
open Go Tw
theorem inst_ok {T : List Nd} {ss : List Sr} {t : Int} (h : (instF T ss t).1 = 0) : BN none ss = true ∧ BB FF T ss t = some (instF T ss t).2 := by
 unfold instF at h ⊢
 by_cases h0 : Di T ss ≠ 0
 · rw [if_pos h0] at h; exact absurd h h0
 rw [if_neg h0] at h ⊢
 by_cases ht : ¬ (-1099511627776 ≤ t ∧ t ≤ 1099511627776)
 · rw [if_pos ht] at h; exact absurd h (by decide)
 rw [if_neg ht] at h ⊢
 have Ck : BN none ss = true := by
   have h0 := Decidable.not_not.1 h0
   unfold Di at h0
   cases hq : Jb T with
   | none => rw [hq] at h0; dsimp only at h0; exact absurd h0 (by decide)
   | some k =>
     rw [hq] at h0
     dsimp only at h0
     by_cases h3 : k = 3
     · rw [if_pos h3] at h0; exact absurd h0 (by decide)
     · rw [if_neg h3] at h0
       cases ho : BN none ss with
       | true => rfl
       | false => rw [ho] at h0; exact absurd h0 (by decide)
 cases hm : BB FF T ss t with
 | none => rw [hm] at h; exact absurd h (by decide)
 | some l => exact ⟨Ck,rfl⟩
end TwW
end
section
namespace TwW
open Go Tw Go.RowKit Go.Proofs.Tryz
theorem pG : ∀ x y : List UInt8,Lib.compareBytes x y = if Op.bytesLess x y = true then -1 else if x = y then 0 else 1
 | [],[] => rfl
 | [],_ :: _ => rfl
 | _ :: _,[] => by simp [Lib.compareBytes,Op.bytesLess]
 | a :: x,b :: y => by
   have ih := pG x y
   unfold Lib.compareBytes Op.bytesLess
   by_cases h : a = b
   · subst h
     simp [ih]
   · by_cases hl : a < b
     · simp [h,hl]
     · have : b < a := by
         have h1 : a.toNat ≠ b.toNat := fun e => h (UInt8.toNat_inj.1 e)
         have h2 : ¬ a.toNat < b.toNat := hl
         show b.toNat < a.toNat
         omega
       simp [h,hl,this]
theorem toList_eq (a : ByteArray) : a.toList = a.data.toList := by
 exact ByteArray.toList_eq a
section
variable {σ : Hp} {R : Rr}
theorem TQ {a b : ByteArray} (h : R (.returned (.int .i64 (DR a b))) σ) : Spec prog 89 #[.string a,.string b] σ R := by
 have e : DR a b = if Op.bytesLess a.toList b.toList = true then -1 else if a.toList = b.toList then 0 else 1 := by
   unfold DR
   rw [pG,toList_eq,toList_eq]
 rw [e] at h
 refine RG.start ⟨Op.bytesLess a.toList b.toList,fun w _ => by simp [eqGuard,binOp,Op.stringOp],fun ht => ?_,fun hf => ⟨!(sle a b),fun w _ => by simp [eqGuard,binOp,Op.stringOp,sle],fun ht => ?_,fun pX => ?_⟩⟩
 · rw [if_pos ht] at h; exact h
 · have hs : sle a b = false := by simpa using ht
   rw [if_neg (by rw [hf]; decide),if_neg (fun e => by unfold sle at hs; rw [e] at hs; simp at hs)] at h; exact h
 · have hs : sle a b = true := by simpa using pX
   have : a.toList = b.toList := by
     unfold sle at hs
     rw [hf] at hs
     simpa using hs
   rw [if_neg (by rw [hf]; decide),if_pos this] at h; exact h
theorem O3 {p q : Option Addr} {n c m d : Nat} {ls ms : List Lb} (hr : Cq σ p n ls) (hs : Cq σ q m ms) (h : R (.returned (.int .i64 (Aj ls ms))) σ) : Spec prog 57 #[.slice p n c,.slice q m d] σ R := by
 have hl : ls.length = n := hr.1
 have hm : ms.length = m := hs.1
 refine DN.start ?_
 suffices H : ∀ g k : Nat,n - k = g → k ≤ n → k ≤ m → Aj ls ms = Aj (ls.drop k) (ms.drop k) → DN.F3 R p n c q m d (k : Int) σ from H n 0 rfl (Nat.zero_le _) (Nat.zero_le _) rfl
 intro g
 induction g with
 | zero =>
   intro k hg hk Sn he
   have Wi : k = n := by omega
   rw [List.drop_eq_nil_of_le (by omega)] at he
   refine DN.As ⟨fun hh => by omega,fun _ => ⟨fun h1 => ?_,fun h1 => ⟨fun h2 => by omega,fun h2 => ?_⟩⟩⟩
   · obtain ⟨y,hy⟩ := hs.ex (k := k) (by omega)
     rw [An hy] at he
     rw [he] at h; exact h
   · rw [List.drop_eq_nil_of_le (by omega)] at he
     rw [he] at h; exact h
 | succ g ih =>
   intro k hg hk Sn he
   have Wi : k < n := by omega
   obtain ⟨x,hx⟩ := hr.ex Wi
   obtain ⟨b,o,hp,LM⟩ := Cq.at hr hx
   by_cases wm : k < m
   · obtain ⟨y,hy⟩ := hs.ex wm
     obtain ⟨b',o',hq,Mx⟩ := Cq.at hs hy
     subst hp
     subst hq
     rw [An hx,An hy] at he
     have he : Aj ls ms = if I8 DR DR x y = 0 then Aj (ls.drop (k + 1)) (ms.drop (k + 1)) else I8 DR DR x y := he
     refine DN.As ⟨fun _ => ⟨fun _ => ⟨b,o,rfl,by omega,x.1,by simpa using LM.1,b',o',rfl,by omega,y.1,by simpa using Mx.1,TQ ⟨_,rfl,fun BD => ?_,fun heq => ⟨by omega,x.2,by simpa using LM.2.1,by omega,y.2,by simpa using Mx.2.1,TQ ⟨_,rfl,fun BD => ?_,fun AN4 => ⟨AF Wi hr.big,ih (k + 1) (by omega) (by omega) (by omega) ?_⟩⟩⟩⟩⟩,fun hh => by omega⟩,fun hh => by omega⟩
     · have e2 : I8 DR DR x y = DR x.1 y.1 := by unfold I8; rw [if_neg BD]
       rw [e2,if_neg BD] at he
       rw [he] at h; exact h
     · have e2 : I8 DR DR x y = DR x.2 y.2 := by unfold I8; rw [if_pos (Decidable.not_not.1 heq)]
       rw [e2,if_neg BD] at he
       rw [he] at h; exact h
     · have e2 : I8 DR DR x y = DR x.2 y.2 := by unfold I8; rw [if_pos (Decidable.not_not.1 heq)]
       rw [e2,if_pos (Decidable.not_not.1 AN4)] at he
       exact he
   · rw [An hx,show ms.drop k = [] from List.drop_eq_nil_of_le (by omega)] at he
     refine DN.As ⟨fun _ => ⟨fun hh => by omega,fun _ => ⟨fun h1 => by omega,fun h1 => ⟨fun h2 => ?_,fun h2 => by omega⟩⟩⟩,fun hh => by omega⟩
     rw [he] at h; exact h
theorem TR {p : Nat → Bool} (h : (List.range 256).all p = true) (u : UInt8) : p u.toNat = true := List.all_eq_true.1 h _ (List.mem_range.2 u.toNat_lt)
theorem xD (u : UInt8) : Go.bits .and .u8 ((u.toNat : Nat) : Int) 31 = ((u.toNat % 32 : Nat) : Int) := of_decide_eq_true (TR (p := fun n => decide (Go.bits .and .u8 (n : Int) 31 = ((n % 32 : Nat) : Int))) (by kernel_rfl) u)
theorem xE (u : UInt8) : Go.bits .and .u8 ((u.toNat : Nat) : Int) 15 = ((u.toNat % 16 : Nat) : Int) := of_decide_eq_true (TR (p := fun n => decide (Go.bits .and .u8 (n : Int) 15 = ((n % 16 : Nat) : Int))) (by kernel_rfl) u)
theorem AIC (u : UInt8) : Go.bits .and .u8 ((u.toNat : Nat) : Int) 7 = ((u.toNat % 8 : Nat) : Int) := of_decide_eq_true (TR (p := fun n => decide (Go.bits .and .u8 (n : Int) 7 = ((n % 8 : Nat) : Int))) (by kernel_rfl) u)
theorem AID (u : UInt8) : Go.bits .and .u8 ((u.toNat : Nat) : Int) 63 = ((u.toNat % 64 : Nat) : Int) := of_decide_eq_true (TR (p := fun n => decide (Go.bits .and .u8 (n : Int) 63 = ((n % 64 : Nat) : Int))) (by kernel_rfl) u)
theorem pH (u : UInt8) : Go.bits .and .u8 ((u.toNat : Nat) : Int) 192 = ((u.toNat / 64 * 64 : Nat) : Int) := of_decide_eq_true (TR (p := fun n => decide (Go.bits .and .u8 (n : Int) 192 = ((n / 64 * 64 : Nat) : Int))) (by kernel_rfl) u)
theorem wrap32 {x : Int} (h : 0 ≤ x ∧ x < 2147483648) : IntKind.i32.wrap x = x := by
 simp [IntKind.wrap,IntKind.bits,IntKind.signed]; omega
theorem AN5 {a b : Nat} (ha : a < 1048576) (hb : b < 64) : Go.bits .or .i32 ((a * 64 : Nat) : Int) (b : Int) = ((a * 64 + b : Nat) : Int) := by
 have e : Go.bits .or .i32 ((a * 64 : Nat) : Int) (b : Int) = IntKind.i32.wrap (((BitVec.ofInt 32 ((a * 64 : Nat) : Int)) ||| (BitVec.ofInt 32 (b : Int))).toNat : Int) := rfl
 have h1 : (BitVec.ofInt 32 ((a * 64 : Nat) : Int)).toNat = a * 64 := by
   rw [BitVec.toNat_ofInt]
   have : (((2 ^ 32 : Nat) : Int)) = 4294967296 := by decide
   omega
 have h2 : (BitVec.ofInt 32 (b : Int)).toNat = b := by
   rw [BitVec.toNat_ofInt]
   have : (((2 ^ 32 : Nat) : Int)) = 4294967296 := by decide
   omega
 have h3 := Nat.two_pow_add_eq_or_of_lt (i := 6) hb a
 rw [e,BitVec.toNat_or,h1,h2,Nat.mul_comm a 64,show (64 : Nat) = 2 ^ 6 from rfl,← h3,Nat.mul_comm (2 ^ 6) a]
 exact wrap32 (by omega)
theorem AZ {s : ByteArray} {k i n v : Nat} {least : Int} {u : UInt8} (hk : k + i ≤ 1000000000) (hi : i < n) (hu : s.data.toList[k + i]? = some u) (h1 : 128 ≤ u.toNat ∧ u.toNat ≤ 191) (hv : v < 32768)
   (h : AM.SU R s (k : Int) (n : Int) least ((v * 64 + (u.toNat - 128) : Nat) : Int) ((i + 1 : Nat) : Int) σ) : AM.SU R s (k : Int) (n : Int) least (v : Int) (i : Int) σ := by
 have DY : s.data[Int.toNat ((k : Int) + (i : Int))]? = some u := by
   rw [show Int.toNat ((k : Int) + (i : Int)) = k + i by omega]; simpa using hu
 refine AM.QO ⟨fun _ => ⟨by unfold AG; omega,u,by omega,DY,fun Xm xR => ⟨fun BD => ?_,fun _ => ⟨by decide,fun ym h65 => ⟨by unfold AG; omega,u,by omega,DY,fun vL h71 pn h72 x73 h73 => ?_⟩⟩⟩⟩,fun hh => by omega⟩
 · rw [xR,pH] at BD
   exact absurd (by omega) BD
 · have e65 : ym = ((v * 64 : Nat) : Int) := by
     rw [h65]
     have : (v : Int) * 2 ^ Int.toNat 6 = ((v * 64 : Nat) : Int) := by
       show (v : Int) * 64 = _
       omega
     rw [this]
     exact wrap32 (by omega)
   rw [AID] at h71
   have e72 : pn = ((u.toNat % 64 : Nat) : Int) := by
     rw [h72,h71]; exact wrap32 (by omega)
   have e73 : x73 = ((v * 64 + (u.toNat - 128) : Nat) : Int) := by
     rw [h73,e65,e72,AN5 (by omega) (by omega)]
     omega
   rw [e73]
   refine ⟨by unfold AG; omega,?_⟩
   rw [show ((i + 1 : Nat) : Int) = (i : Int) + 1 by omega] at h
   exact h
theorem LX {m lo hi : Nat} {L : List UInt8} {k : Nat} (h : vl (m + 1) lo hi (L.drop k) = true) : ∃ u,L[k]? = some u ∧ (lo ≤ u.toNat ∧ u.toNat ≤ hi) ∧ vl m 128 191 (L.drop (k + 1)) = true := by
 cases hq : L[k]? with
 | none =>
   rw [List.drop_eq_nil_of_le (List.getElem?_eq_none_iff.1 hq)] at h
   cases h
 | some u =>
   rw [An hq,vl] at h
   by_cases hc : u.toNat < lo ∨ hi < u.toNat
   · rw [if_pos hc] at h; cases h
   · rw [if_neg hc] at h
     exact ⟨u,rfl,by omega,h⟩
theorem TS {s : ByteArray} {k : Int} {n : Nat} {least v : Int} (h : R (.returned (.int .i64 (n : Int))) σ) (h1 : least ≤ v) (h2 : v ≤ 1114111) (h3 : ¬ (55296 ≤ v ∧ v ≤ 57343)) : AM.SU R s k (n : Int) least v (n : Int) σ :=
 AM.QO ⟨fun hh => by omega,fun _ => ⟨fun hh => by omega,fun _ => ⟨fun hh => by omega,fun _ => ⟨fun h4 => ⟨fun h5 => absurd ⟨h4,h5⟩ h3,fun _ => h⟩,fun _ => h⟩⟩⟩⟩
theorem tY {s : ByteArray} {k : Nat} (hk : k < s.size) (hs : s.size ≤ 1000000) (hv : vl 0 128 191 (s.data.toList.drop k) = true) :
   ∃ m : Nat,1 ≤ m ∧ k + m ≤ s.size ∧ vl 0 128 191 (s.data.toList.drop (k + m)) = true ∧ ∀ {σ : Hp} {R : Rr},R (.returned (.int .i64 (m : Int))) σ → Spec prog 129 #[.string s,.int .i64 (k : Int)] σ R := by
 have Ld : s.data.toList.length = s.size := rfl
 obtain ⟨u,hu⟩ : ∃ u,s.data.toList[k]? = some u := ⟨_,List.getElem?_eq_getElem (by omega)⟩
 have DY : s.data[Int.toNat (k : Int)]? = some u := by simpa using hu
 rw [An hu,vl] at hv
 have lt : ∀ {j : Nat} {w : UInt8},s.data.toList[j]? = some w → j < s.size := fun h => by
   have := (List.getElem?_eq_some_iff.1 h).1; omega
 have two : ∀ {lo hi : Nat},192 ≤ u.toNat ∧ u.toNat < 224 → vl 1 lo hi (s.data.toList.drop (k + 1)) = true → 128 ≤ lo → hi ≤ 191 → (∀ v : Nat,lo ≤ v → v ≤ hi → 128 ≤ (u.toNat % 32) * 64 + (v - 128)) → ∃ m : Nat,1 ≤ m ∧ k + m ≤ s.size ∧ vl 0 128 191 (s.data.toList.drop (k + m)) = true ∧ ∀ {σ : Hp} {R : Rr},R (.returned (.int .i64 (m : Int))) σ → Spec prog 129 #[.string s,.int .i64 (k : Int)] σ R := fun {lo hi} hc h1 wx wy hb => by
   obtain ⟨u1,a1,b1,c1⟩ := LX h1
   have d1 := hb u1.toNat b1.1 b1.2
   have := lt a1
   refine ⟨2,by decide,by omega,c1,fun {σ R} h => AM.start ⟨u,by omega,DY,fun hh => by omega,fun _ => ⟨fun _ => ⟨fun _ Ia h24 Lo h25 => ?_,fun hh => by omega⟩,fun hh => by omega⟩⟩⟩
   rw [xD] at h24
   have e : Lo = ((u.toNat % 32 : Nat) : Int) := by rw [h25,h24]; exact wrap32 (by omega)
   rw [e]
   refine AM.Dk ⟨by unfold AG; omega,fun hh => by omega,fun _ => ?_⟩
   refine AZ (n := 2) (i := 1) (by omega) (by decide) a1 (by omega) (by omega) ?_
   exact TS (n := 2) h (by omega) (by omega) (by omega)
 have three : ∀ {lo hi : Nat},224 ≤ u.toNat ∧ u.toNat < 240 → vl 2 lo hi (s.data.toList.drop (k + 1)) = true → 128 ≤ lo → hi ≤ 191 → (∀ v w : Nat,lo ≤ v → v ≤ hi → 128 ≤ w → w ≤ 191 → 2048 ≤ ((u.toNat % 16) * 64 + (v - 128)) * 64 + (w - 128) ∧ ¬ (55296 ≤ ((u.toNat % 16) * 64 + (v - 128)) * 64 + (w - 128) ∧ ((u.toNat % 16) * 64 + (v - 128)) * 64 + (w - 128) ≤ 57343)) → ∃ m : Nat,1 ≤ m ∧ k + m ≤ s.size ∧ vl 0 128 191 (s.data.toList.drop (k + m)) = true ∧ ∀ {σ : Hp} {R : Rr},R (.returned (.int .i64 (m : Int))) σ → Spec prog 129 #[.string s,.int .i64 (k : Int)] σ R := fun {lo hi} hc h1 wx wy hb => by
   obtain ⟨u1,a1,b1,c1⟩ := LX h1
   obtain ⟨u2,a2,b2,c2⟩ := LX c1
   have d1 := hb u1.toNat u2.toNat b1.1 b1.2 b2.1 b2.2
   have := lt a2
   refine ⟨3,by decide,by omega,c2,fun {σ R} h => AM.start ⟨u,by omega,DY,fun hh => by omega,fun _ => ⟨fun _ => ⟨fun hh => by omega,fun _ => ⟨fun _ => ⟨fun _ fY h34 PQ h35 => ?_,fun hh => by omega⟩,fun hh => by omega⟩⟩,fun hh => by omega⟩⟩⟩
   rw [xE] at h34
   have e : PQ = ((u.toNat % 16 : Nat) : Int) := by rw [h35,h34]; exact wrap32 (by omega)
   rw [e]
   refine AM.Dk ⟨by unfold AG; omega,fun hh => by omega,fun _ => ?_⟩
   refine AZ (n := 3) (i := 1) (by omega) (by decide) a1 (by omega) (by omega) ?_
   refine AZ (n := 3) (i := 2) (by omega) (by decide) a2 (by omega) (by omega) ?_
   exact TS (n := 3) h (by omega) (by omega) (by omega)
 have four : ∀ {lo hi : Nat},240 ≤ u.toNat ∧ u.toNat < 248 → vl 3 lo hi (s.data.toList.drop (k + 1)) = true → 128 ≤ lo → hi ≤ 191 → (∀ v w y : Nat,lo ≤ v → v ≤ hi → 128 ≤ w → w ≤ 191 → 128 ≤ y → y ≤ 191 → 65536 ≤ (((u.toNat % 8) * 64 + (v - 128)) * 64 + (w - 128)) * 64 + (y - 128) ∧ (((u.toNat % 8) * 64 + (v - 128)) * 64 + (w - 128)) * 64 + (y - 128) ≤ 1114111) → ∃ m : Nat,1 ≤ m ∧ k + m ≤ s.size ∧ vl 0 128 191 (s.data.toList.drop (k + m)) = true ∧ ∀ {σ : Hp} {R : Rr},R (.returned (.int .i64 (m : Int))) σ → Spec prog 129 #[.string s,.int .i64 (k : Int)] σ R := fun {lo hi} hc h1 wx wy hb => by
   obtain ⟨u1,a1,b1,c1⟩ := LX h1
   obtain ⟨u2,a2,b2,c2⟩ := LX c1
   obtain ⟨u3,a3,b3,c3⟩ := LX c2
   have d1 := hb u1.toNat u2.toNat u3.toNat b1.1 b1.2 b2.1 b2.2 b3.1 b3.2
   have := lt a3
   refine ⟨4,by decide,by omega,c3,fun {σ R} h => AM.start ⟨u,by omega,DY,fun hh => by omega,fun _ => ⟨fun _ => ⟨fun hh => by omega,fun _ => ⟨fun _ => ⟨fun hh => by omega,fun _ => ⟨fun _ => ⟨fun _ il h44 Y9 h45 => ?_,fun hh => by omega⟩,fun hh => by omega⟩⟩,fun hh => by omega⟩⟩,fun hh => by omega⟩⟩⟩
   rw [AIC] at h44
   have e : Y9 = ((u.toNat % 8 : Nat) : Int) := by rw [h45,h44]; exact wrap32 (by omega)
   rw [e]
   refine AM.Dk ⟨by unfold AG; omega,fun hh => by omega,fun _ => ?_⟩
   refine AZ (n := 4) (i := 1) (by omega) (by decide) a1 (by omega) (by omega) ?_
   refine AZ (n := 4) (i := 2) (by omega) (by decide) a2 (by omega) (by omega) ?_
   refine AZ (n := 4) (i := 3) (by omega) (by decide) a3 (by omega) (by omega) ?_
   exact TS (n := 4) h (by omega) (by omega) (by omega)
 by_cases h1 : u.toNat < 128
 · rw [if_pos h1] at hv
   exact ⟨1,by decide,by omega,hv,fun {σ R} h => AM.start ⟨u,by omega,DY,fun _ => h,fun hh => by omega⟩⟩
 rw [if_neg h1] at hv
 by_cases h2 : 194 ≤ u.toNat ∧ u.toNat ≤ 223
 · rw [if_pos h2] at hv
   exact two (by omega) hv (by decide) (by decide) fun v a b => by omega
 rw [if_neg h2] at hv
 by_cases h3 : 224 ≤ u.toNat ∧ u.toNat ≤ 239
 · rw [if_pos h3] at hv
   by_cases h4 : u.toNat = 224
   · rw [if_pos h4] at hv
     exact three (by omega) hv (by decide) (by decide) fun v w a b c d => by omega
   rw [if_neg h4] at hv
   by_cases h5 : u.toNat = 237
   · rw [if_pos h5] at hv
     exact three (by omega) hv (by decide) (by decide) fun v w a b c d => by omega
   rw [if_neg h5] at hv
   exact three (by omega) hv (by decide) (by decide) fun v w a b c d => by omega
 rw [if_neg h3] at hv
 by_cases h6 : 240 ≤ u.toNat ∧ u.toNat ≤ 244
 · rw [if_pos h6] at hv
   by_cases h7 : u.toNat = 240
   · rw [if_pos h7] at hv
     exact four (by omega) hv (by decide) (by decide) fun v w y a b c d e f => by omega
   rw [if_neg h7] at hv
   by_cases h8 : u.toNat = 244
   · rw [if_pos h8] at hv
     exact four (by omega) hv (by decide) (by decide) fun v w y a b c d e f => by omega
   rw [if_neg h8] at hv
   exact four (by omega) hv (by decide) (by decide) fun v w y a b c d e f => by omega
 rw [if_neg h6] at hv
 cases hv
theorem Yu {s : ByteArray} (h1 : ¬ (s.size = 0 ∨ 256 < s.size)) (h2 : ID s = true) (h : R (.returned (.bool true)) σ) : Spec prog 88 #[.string s] σ R := by
 refine CU.start ⟨fun hh => by omega,fun _ => ⟨fun hh => by omega,fun _ => ?_⟩⟩
 suffices H : ∀ g k : Nat,s.size - k = g → k ≤ s.size → vl 0 128 191 (s.data.toList.drop k) = true → CU.A5 R s (k : Int) σ from H s.size 0 rfl (Nat.zero_le _) h2
 intro g
 induction g using Nat.strongRecOn with
 | ind g ih =>
   intro k hg hk hv
   by_cases Az : k < s.size
   · obtain ⟨m,m1,m2,m3,m4⟩ := tY Az (by omega) hv
     refine CU.A7 ⟨fun _ => m4 ⟨_,rfl,fun hh => by omega,fun _ => ⟨by unfold AG; omega,?_⟩⟩,fun hh => by omega⟩
     have := ih (s.size - (k + m)) (by omega) (k + m) rfl m2 m3
     rw [show ((k + m : Nat) : Int) = (k : Int) + (m : Int) by omega] at this
     exact this
   · exact CU.A7 ⟨fun hh => by omega,fun _ => h⟩
end
end TwW
end
section
namespace TwW
open Go Tw Go.RowKit Go.Proofs.Tryz
theorem N4 (s : ByteArray) (i j : Nat) : (s.extract i j).data.toList = (s.data.toList.drop i).take (j - i) := by
 rw [ByteArray.data_extract,Array.toList_extract,List.extract_eq_drop_take]
section
variable {σ σ0 : Hp} {R : Rr} {s : ByteArray}
end
end TwW
end
section
namespace TwW
open Go Tw Go.RowKit Go.Proofs.Tryz
section
variable {σ σ' : Hp} {R : Rr} {p : Option Addr} {n c : Nat} {ss : List Sr}
set_option maxRecDepth 100000 in
theorem AIH {x y : Operand} {a b a' b' : ByteArray} : YF prog (do eqGuard .neq 56 x y (.agg #[.string a,.string b]) (.agg #[.string a',.string b']); binOp .neq 56 (.agg #[.string a,.string b]) (.agg #[.string a',.string b'])) σ (.bool (!(a.toList == a'.toList && b.toList == b'.toList))) := fun w _ => by
 have u9 := underlying9
 have hS : prog.underlying 56 = some (.struct (prog.fieldsOf 56)) := by kernel_rfl
 have hp : prog.stoodInHeld 56 = false := by kernel_rfl
 have hf : (prog.fieldsOf 56).toList = [{ name := "Name",type := 9,offset := 0,embedded := false,tag := "",pkgPath := "",byteOffset := 0 },{ name := "Value",type := 9,offset := 1,embedded := false,tag := "",pkgPath := "",byteOffset := 16 }] := by kernel_rfl
 simp only [Sem.run_bind,run_eqGuard_agg _ _ _ _ _ _ _ (show prog.eqGuardType prog.depth 56 = false by kernel_rfl),Result.andThen_ok,run_neq_struct]
 rw [show (10000 : Nat) = 9999 + 1 from rfl,run_equalIn_agg w 9999 56 _ _ hS hp,hf]
 simp only [Op.eqFields]
 go_simp
 by_cases h1 : a.toList = a'.toList <;> by_cases h2 : b.toList = b'.toList <;> simp [h1,h2]
theorem bZ {p p' : Option Addr} {n n' c c' : Nat} {ls : List Lb} (h1 : Cq σ p n ls) (h2 : Cq σ p' n' ls) (hR : R (.returned (.bool true)) σ) : Spec prog 41 #[.slice p n c,.slice p' n' c'] σ R := by
 have e1 : ls.length = n := h1.1
 have e2 : ls.length = n' := h2.1
 refine CZ.start ⟨fun BD => absurd (by omega) BD,fun _ => ?_⟩
 suffices H : ∀ d i : Nat,n - i = d → i ≤ n → CZ.A5 R p n c p' n' c' i σ from H n 0 rfl (Nat.zero_le _)
 intro d
 induction d with
 | zero => exact fun i hd hi => CZ.A7 ⟨fun Az => by omega,fun _ => hR⟩
 | succ d ih =>
   intro i hd hi
   obtain ⟨x,hx⟩ := h1.ex (show i < n by omega)
   obtain ⟨b,o,rfl,l1⟩ := Cq.at h1 hx
   obtain ⟨b',o',rfl,l2⟩ := Cq.at h2 hx
   exact CZ.A7 ⟨fun _ => ⟨b,o,rfl,by omega,x.1,x.2,by simpa using l1,b',o',rfl,by omega,x.1,x.2,by simpa using l2,_,AIH,fun hh => by simp at hh,fun _ => ⟨AF (by omega) h1.big,ih (i + 1) (by omega) (by omega)⟩⟩,fun hh => by omega⟩
theorem G1 {q : Option Addr} {m d : Nat} (h1 : Aa 2 Ay σ p n ss) (h2 : Aa 2 Ay σ q m ss) (hR : R (.returned (.bool true)) σ) : Spec prog 18 #[.slice p n c,.slice q m d] σ R := by
 have e1 : ss.length = n := h1.1
 have e2 : ss.length = m := h2.1
 refine Ca.start ⟨fun BD => absurd (by omega) BD,fun _ => ?_⟩
 suffices H : ∀ d' i : Nat,n - i = d' → i ≤ n → Ca.A5 R p n c q m d i σ from H n 0 rfl (Nat.zero_le _)
 intro d'
 induction d' with
 | zero => exact fun i hd hi => Ca.A7 ⟨fun Az => by omega,fun _ => hR⟩
 | succ d' ih =>
   intro i hd hi
   obtain ⟨x,hx⟩ := h1.ex (show i < n by omega)
   obtain ⟨b,o,p1,k1,c1,q1,m1,d1,rfl,l1,AN8,AN9,_⟩ := Ay.at h1 hx
   obtain ⟨b',o',p2,k2,c2,q2,m2,d2,rfl,l2,AOA,AOB,_⟩ := Ay.at h2 hx
   exact Ca.A7 ⟨fun _ => ⟨b,o,rfl,by omega,p1,k1,c1,by simpa using l1.1,b',o',rfl,by omega,p2,k2,c2,by simpa using l2.1,bZ AN8 AOA ⟨_,rfl,fun hh => (by cases hh),fun _ => ⟨by omega,q1,m1,d1,by simpa using l1.2.1,by omega,q2,m2,d2,by simpa using l2.2.1,Pm AN9 AOB ⟨_,rfl,fun hh => (by cases hh),fun _ => ⟨AF (by omega) h1.big,ih (i + 1) (by omega) (by omega)⟩⟩⟩⟩⟩,fun hh => by omega⟩
theorem inst_err {T : List Nd} {t : Int} (h : (instF T ss t).1 ≠ 0) : (instF T ss t).2 = [] := by
 unfold instF at h ⊢
 split at h
 · rename_i h0; rw [if_pos h0]
 · rename_i h0
   rw [if_neg h0]
   split at h
   · rename_i h1; rw [if_pos h1]
   · rename_i h1
     rw [if_neg h1]
     split at h
     · rfl
     · exact absurd rfl h
abbrev iH (T : List Nd) (ss : List Sr) (t : Int) : List Sr := (instF T ss t).2.map fun e => ⟨e.ls,[(t,e.v)]⟩
end
end TwW
end
section
namespace TwW
open Go Tw Go.RowKit Go.Proofs.Tryz
section
variable {σ : Hp} {R : Rr} {p : Option Addr} {n c : Nat} {ss : List Sr} {t : Int} {s : ByteArray}
abbrev AII (t : Int) (l : List El) : List Sr := l.map fun e => ⟨e.ls,[(t,e.v)]⟩
end
end TwW
end
section
namespace TwW
open Go Tw Go.RowKit Go.Proofs.Tryz
section
variable {σ : Hp} {R : Rr}
theorem TT {s : ByteArray} (h : R (.returned (.bool (Cj s))) σ) : Spec prog 87 #[.string s] σ R := by
 have Ld : s.data.toList.length = s.size := rfl
 refine GZ.start ⟨fun h0 => ?_,fun h0 => ⟨fun h1 => ?_,fun h1 => ?_⟩⟩
 · have : s.size = 0 := by omega
   simpa [Cj,this] using h
 · have : ¬ s.size ≤ 64 := by omega
   simpa [Cj,this] using h
 · obtain ⟨u,hu⟩ : ∃ u,s.data.toList[0]? = some u := ⟨_,List.getElem?_eq_getElem (by omega)⟩
   have DY : s.data[Int.toNat (0 : Int)]? = some u := by simpa using hu
   have hh : s.data.toList.head? = some u := by rw [← hu]; cases s.data.toList <;> rfl
   have rest : sM u = false → GZ.A5 R s 0 σ := fun hd => by
     have e : Cj s = s.data.toList.all nch := by simp [Cj,show 0 < s.size by omega,show s.size ≤ 64 by omega,hh,hd]
     rw [e] at h
     refine dQ (s := s) (pt := fun k => GZ.A5 R s k σ) (ok := nch) (G := fun t => R (.returned (.bool t)) σ) (fun g => GZ.A7 ⟨fun Az => by omega,fun _ => g⟩) (fun k u hk hu hi good bad => ?_) h (by omega)
     simp only [nch,decide_eq_true_eq,decide_eq_false_iff_not] at good bad
     refine GZ.A7 ⟨fun Az => ⟨u,by omega,hu,?_⟩,fun Ul => by omega⟩
     clear h
     generalize u.toNat = n at good bad
     repeat' (first | refine ⟨fun _ => ?_,fun _ => ?_⟩ | exact ⟨hi,good (by omega)⟩ | exact bad (by omega))
   simp only [sM,decide_eq_false_iff_not] at rest
   refine ⟨u,by omega,DY,fun h2 => ⟨u,by omega,DY,fun h3 => ?_,fun h3 => rest (by omega)⟩,fun h2 => rest (by omega)⟩
   have : sM u = true := by simp [sM]; omega
   simpa [Cj,hh,this] using h
theorem Yv {p : Option Addr} {n c : Nat} {ls : List Lb} (hr : Cq σ p n ls) (hc : Cr ls = 0) (h : R (.returned (.int .i64 0)) σ) : Spec prog 56 #[.slice p n c] σ R := by
 have hn : ls.length = n := hr.1
 have hl : ls.length ≤ 16 := (Aq.of hc).1
 have hc0 : C8 none ls = 0 := by
   unfold Cr at hc
   rwa [if_neg (by omega)] at hc
 refine Ba.start ⟨fun hh => by omega,fun _ => ?_⟩
 suffices H : ∀ g k : Nat,n - k = g → k ≤ n → C8 (if k = 0 then none else (ls[k - 1]?).map (·.1)) (ls.drop k) = 0 → Ba.A5 R p n c (k : Int) σ from H n 0 rfl (Nat.zero_le _) hc0
 intro g
 induction g with
 | zero =>
   intro k hg hk he
   exact Ba.A7 ⟨fun hh => by omega,fun _ => h⟩
 | succ g ih =>
   intro k hg hk he
   have E4 : k < n := by omega
   obtain ⟨x,hx⟩ := hr.ex E4
   obtain ⟨b,o,rfl,LM⟩ := Cq.at hr hx
   rw [An hx,Kw] at he
   obtain ⟨e1,e2,e3,e4⟩ := he
   have e1 : Cj x.1 = true := by simpa using e1
   have next : Ba.A5 R (aD b o) n c ((k : Int) + 1) σ := by
     have := ih (k + 1) (by omega) (by omega) (by rw [if_neg (by omega),Nat.add_sub_cancel,hx]; exact e4)
     rw [show ((k + 1 : Nat) : Int) = (k : Int) + 1 by omega] at this
     exact this
   have i64 : AG ((k : Int) + 1) := AF E4 hr.big
   have e2v : ID x.2 = true := by
     cases hq : ID x.2 with
     | true => rfl
     | false => exact absurd (.inr (.inr hq)) e2
   refine Ba.A7 ⟨fun _ => ⟨b,o,rfl,by omega,x.1,by simpa using LM.1,TT ⟨_,rfl,fun hf => ?_,fun _ => ⟨by omega,x.2,by simpa using LM.2.1,Yu (fun hh => e2 (hh.imp id .inl)) e2v ⟨_,rfl,fun hf => (by cases hf),fun _ => ⟨fun MR => ?_,fun _ => ⟨i64,next⟩⟩⟩⟩⟩⟩,fun hh => by omega⟩
   · rw [e1] at hf; cases hf
   · obtain ⟨y,hy⟩ := hr.ex (show k - 1 < n by omega)
     obtain ⟨b',o',hp',Mx⟩ := Cq.at hr hy
     cases hp'
     have ek : Int.toNat ((k : Int) - 1) = k - 1 := by omega
     refine ⟨by omega,x.1,by simpa using LM.1,by unfold AG; omega,by unfold In; omega,y.1,by rw [ek]; simpa using Mx.1,_,ae,fun ht => ?_,fun _ => ⟨i64,next⟩⟩
     rw [if_neg (by omega),hy] at e3
     exact absurd ht e3
theorem N5 {p : Option Addr} {n c : Nat} {ss : List Sr} (hr : Aa 2 Ay σ p n ss) (hc : BN none ss = true) (h : R (.returned (.int .i64 0)) σ) : Spec prog 39 #[.slice p n c] σ R := by
 have hn : ss.length = n := hr.1
 refine Ag.start ?_
 suffices H : ∀ g k : Nat,n - k = g → k ≤ n → BN (if k = 0 then none else (ss[k - 1]?).map (·.ls)) (ss.drop k) = true → Ag.F3 R p n c (k : Int) σ from H n 0 rfl (Nat.zero_le _) hc
 intro g
 induction g with
 | zero =>
   intro k hg hk he
   exact Ag.As ⟨fun hh => by omega,fun _ => h⟩
 | succ g ih =>
   intro k hg hk he
   have E4 : k < n := by omega
   obtain ⟨s,hs⟩ := hr.ex E4
   obtain ⟨b,o,p1,n1,c1,q,m,d,rfl,Ja,h1,h2,h3⟩ := Ay.at hr hs
   rw [BC hs,FK] at he
   simp only [Bool.and_eq_true,decide_eq_true_eq] at he
   obtain ⟨⟨⟨f1,f2⟩,f3⟩,f4⟩ := he
   have hm : s.ps.length = m := h2.1
   obtain ⟨g1,g2⟩ := (Ef _).1 f2
   have next : Ag.F3 R (aD b o) n c ((k : Int) + 1) σ := by
     have := ih (k + 1) (by omega) (by omega) (by rw [if_neg (by omega),Nat.add_sub_cancel,hs]; exact f4)
     rw [show ((k + 1 : Nat) : Int) = (k : Int) + 1 by omega] at this
     exact this
   have tK : ∀ g i : Nat,m - i = g → 1 ≤ i → i ≤ m → Ag.aC R (aD b o) n c (k : Int) (i : Int) σ := by
     intro g
     induction g with
     | zero =>
       intro i nr h1i hi
       exact Ag.QK ⟨b,o,rfl,by unfold In; omega,q,m,d,by simpa using Ja.2.1,fun hh => by omega,fun _ => ⟨AF E4 hr.big,next⟩⟩
     | succ g ihp =>
       intro i nr h1i hi
       obtain ⟨x,hx⟩ := h2.ex (show i < m by omega)
       obtain ⟨y,hy⟩ := h2.ex (show i - 1 < m by omega)
       obtain ⟨b2,o2,rfl,LM⟩ := Co.at h2 hx
       obtain ⟨b3,o3,hq,Mx⟩ := Co.at h2 hy
       cases hq
       have ei : Int.toNat ((i : Int) - 1) = i - 1 := by omega
       have Az := g2 (i - 1) y x hy (by rw [show i - 1 + 1 = i by omega]; exact hx)
       have Y5 := h2.big
       refine Ag.QK ⟨b,o,rfl,by unfold In; omega,_,m,d,by simpa using Ja.2.1,fun _ => ⟨by unfold In; omega,_,m,d,by simpa using Ja.2.1,b2,o2,rfl,by unfold In; omega,x.1,by simpa using LM.1,by unfold In; omega,_,m,d,by simpa using Ja.2.1,by unfold AG; omega,b2,o2,rfl,by unfold In; omega,y.1,by rw [ei]; simpa using Mx.1,fun hle => by omega,fun _ => ⟨by unfold AG; omega,?_⟩⟩,fun hh => by omega⟩
       have := ihp (i + 1) (by omega) (by omega) (by omega)
       rw [show ((i + 1 : Nat) : Int) = (i : Int) + 1 by omega] at this
       exact this
   have AIK : Ag.aC R (aD b o) n c (k : Int) 1 σ := tK (m - 1) 1 rfl (Nat.le_refl _) (by omega)
   refine Ag.As ⟨fun _ => ⟨b,o,rfl,by unfold In; omega,p1,n1,c1,by simpa using Ja.1,Yv h1 f1 ⟨_,rfl,fun hh => absurd rfl hh,fun _ => ⟨by unfold In; omega,q,m,d,by simpa using Ja.2.1,fun hh => by omega,fun _ => ⟨fun MR => ⟨by unfold AG; have := hr.big; omega,by unfold In; omega,?_⟩,fun _ => AIK⟩⟩⟩⟩,fun hh => by omega⟩
   obtain ⟨s',OM⟩ := hr.ex (k := k - 1) (by omega)
   obtain ⟨_,_,p1',n1',c1',_,_,_,QQ,ak,qH,_,_⟩ := Ay.at hr OM
   cases QQ
   have e1 : Int.toNat ((k : Int) - 1) = k - 1 := by omega
   rw [if_neg (by omega),OM] at f3
   refine ⟨p1',n1',c1',by rw [e1]; simpa using ak.1,by unfold In; omega,p1,n1,c1,by simpa using Ja.1,O3 qH h1 ⟨_,rfl,fun Ul => ?_,fun _ => AIK⟩⟩
   have f3 : Aj s'.ls s.ls < 0 := by simpa using f3
   omega
end
end TwW
end
section
namespace TwW
open Go Tw Go.RowKit Go.Proofs.Tryz
section
variable {σ σ0 τ : Hp} {R : Rr}
theorem Pn {p q : Option Addr} {n c m d b3 b7 : Nat} {ls : List Lb} {ps : List Pt} (hl : Cq σ p n ls) (hp : Aa 2 Co σ q m ps) (hn : n ≤ 1000000000) (hm : m ≤ 1000000000)
   (h : ∀ p' c' q' d' σ',Cq (σ.new σ') p' n ls → Aa 2 Co (σ.new σ') q' m ps → m ≤ d' → Ext σ σ' → R (.returned (.agg #[.slice p' n c',.slice q' m d'])) σ') (h7 : σ b7 = none) (h3 : (σ.set b7 (.cells #[] 50 (0,0))) b3 = none) :
   AK prog (Builtin.append_ #[37,37] 37 #[(.slice (aD b3 0) 0 0),.slice p n c]) ((σ.set b7 (.cells #[] 50 (0,0))).set b3 (.cells #[] 56 (0,0))) (CS fun p6 n6 c6 y => AK prog (Builtin.append_ #[38,38] 38 #[(.slice (aD b7 0) 0 0),.slice q m d]) y (CS fun QM n10 NH AH => R (.returned (.agg #[.slice p6 n6 c6,.slice QM n10 NH])) AH)) := by
 have x7 := Ext.set (o := .cells #[] 50 (0,0)) h7
 obtain ⟨du,cs,hm2,hm3⟩ := hp
 refine DP (hl.mono BT.mono x7) hn (fun p' c' σ2 BM A1 => ⟨_,_,_,rfl,?_⟩) h3
 have ABE := x7.trans A1
 refine DB (A8.mono A1 A8.empty) (hm2.mono ABE) (Ch.eb Co.one hm3 (by decide)) (by omega) fun q' d' σ3 Ct CV => ?_
 have hq : ∀ a : Addr,(some (⟨b7,0,none⟩ : Addr)) = some a → σ a.block = none := fun a ha => by cases ha; exact h7
 rw [Nat.zero_add] at Ct ⊢
 rw [List.nil_append] at Ct
 refine ⟨_,_,_,rfl,h p' c' q' d' σ3 ?_ ⟨du,cs,A8.rd (A8.ON Ct (E9 hq CV ABE)),hm3.1,fun i x hx => hm3.2 i x hx⟩ (A8.cap Ct) (Ik hq CV ABE)⟩
 refine (BM.rd BT.mono).mono BT.mono fun k u hk => ?_
 obtain ⟨k1,k2⟩ := AY.1 hk
 obtain ⟨k3,k4⟩ := Hp.Bq k1
 have := CV k u (AU.2 ⟨fun a ha => by cases ha; exact k3,k2⟩)
 exact AY.2 ⟨k4,(AU.1 this).2⟩
theorem Yw {p q : Option Addr} {n c m d : Nat} {ls : List Lb} {ps : List Pt} (hl : Cq σ p n ls) (hp : Aa 2 Co σ q m ps) (hn : n ≤ 1000000000) (hm : m ≤ 1000000000)
   (h : ∀ p' c' q' d' σ',Cq (σ.new σ') p' n ls → Aa 2 Co (σ.new σ') q' m ps → m ≤ d' → Ext σ σ' → R (.returned (.agg #[.slice p' n c',.slice q' m d'])) σ') :
   Spec prog 58 #[.agg #[.slice p n c,.slice q m d]] σ R := by
 refine NY.start fun _ _ => ⟨fun b3 h3 => ⟨?_,fun b7 h7 => ?_⟩,fun b7 h7 b3 h3 => Pn hl hp hn hm h h7 h3⟩
 · refine DP hl hn (fun p' c' σ2 BM A1 => ⟨_,_,_,rfl,fun b7 h7 => ?_⟩) h3
   obtain ⟨du,cs,hm2,hm3⟩ := hp
   refine LU (hm2.mono A1) (Ch.eb Co.one hm3 (by decide)) (by omega) (fun q' d' σ3 Ct CV => ⟨_,_,_,rfl,?_⟩) h7
   exact h p' c' q' d' σ3 ((BM.rd BT.mono).mono BT.mono (Ext.EL CV)) ⟨du,cs,(A8.rd Ct).mono (Ext.CA A1),hm3.1,fun i x hx => hm3.2 i x hx⟩ (A8.cap Ct) (A1.trans CV)
 · obtain ⟨e1,e2⟩ := Hp.Bq h7
   rw [Hp.Kd (Ne.symm e1)]
   exact Pn hl hp hn hm h e2 (by rw [Hp.AO (Ne.symm e1)]; exact h3)
structure pI (a : List Sr) : Prop where
 len : a.length ≤ 10000000
 each : ∀ s ∈ a,s.ls.length ≤ 1000000000 ∧ s.ps.length ≤ 1000000000
abbrev ltS (x y : Sr) : Prop := Aj x.ls y.ls < 0
theorem eO {p5 : Option Addr} {n5 c5 : Nat} {out : List Sr} {x : Sr} {p q : Option Addr} {n c m d : Nat} {F : Option Addr → Nat → Nat → Hp → Prop} (ho : AP 2 Ay σ τ p5 n5 c5 out) (h5 : n5 ≤ 1000000000) (hl : Cq τ p n x.ls) (hp : Aa 2 Co τ q m x.ps) (hn : n ≤ 1000000000) (hm : m ≤ 1000000000)
   (h : ∀ p' c' τ',AP 2 Ay σ τ' p' (n5 + 1) c' (out ++ [x]) → Ext σ τ' → F p' (n5 + 1) c' τ') :
   Spec prog 58 #[.agg #[.slice p n c,.slice q m d]] τ (AA R (fun z y => ∃ mB mC mD mE mF mG,z = (.agg #[.slice mB mC mD,.slice mE mF mG]) ∧ Al y fun ij => AK prog (Builtin.append_ #[23,23] 23 #[.slice p5 n5 c5,(.slice (aD ij 0) 1 1)]) (Hp.set y ij (.cells #[.slice mB mC mD,.slice mE mF mG] 40 (0,0))) (CS fun j8 j9 kA AH => F j8 j9 kA AH))) := by
 refine Yw hl hp hn hm fun p' c' q' d' σ3 r1 r2 hd CV => ⟨_,_,_,_,_,_,rfl,fun ij h75 => ?_⟩
 have Ct := ho.mono Ay.mono CV
 have he : Ay (σ3.del p5) [.slice p' n c',.slice q' m d'] x :=
   ⟨p',n,c',q',m,d',rfl,r1.mono BT.mono (ho.new CV),r2.mono Co.mono (ho.new CV),hd⟩
 exact AP.Hb Ay.mono Ct rfl (Ay.one _ _ _ he) he (by omega) (fun p6 c6 σ4 JS _ => ⟨_,_,_,rfl,h p6 c6 σ4 JS JS.up⟩) h75
end
end TwW
end
section
namespace TwW
open Go Tw Go.RowKit Go.Proofs.Tryz
def P9 (_ : Hp) (vs : List Value) (b : Bool) : Prop := vs = [.bool b]
theorem P9.mono : Ha P9 := fun _ _ _ _ _ h => h
section
variable {σ σ0 τ : Hp} {R : Rr}
theorem TU {n : Nat} {Φ : Value → Hp → Prop} (hn : n ≤ 1000000) (h : ∀ b,σ b = none → Φ (.slice (some ⟨b,0,none⟩) n n) (σ.set b (.cells (List.replicate n (Value.bool false)).toArray 4 (0,0)))) : AK prog (Instr.makeSlice 174 (.int .i64 (n : Int)) (.int .i64 (n : Int))) σ Φ := by
 have hi0 : ((prog.info? 4).map fun i => (i.zero,i.size,i.bytes)) = some (some (.bool false),1,1) := by kernel_rfl
 cases hi : prog.info? 4 with
 | none => rw [hi] at hi0; cases hi0
 | some i =>
   rw [hi] at hi0
   simp only [Option.map_some,Option.some.injEq,Prod.mk.injEq] at hi0
   obtain ⟨h1,h2,h3⟩ := hi0
   refine AK.new (v := fun b => .slice (some ⟨b,0,none⟩) n n) (o := .cells (List.replicate n (Value.bool false)).toArray 4 (0,0)) (fun w _ => ?_) h
   have := run_make (P := prog) w 174 4 i (.bool false) underlying174 hi h1 .i64 .i64 (n : Int) (n : Int) (by omega) (Int.le_refl _) (by rw [h3]; omega) (by omega)
   rw [this,Int.toNat_natCast,h2,Nat.mul_one]
   have e : madeCells (Value.bool false).cells n = (List.replicate n (Value.bool false)).toArray := by
     apply Array.toList_inj.1
     unfold madeCells
     rw [Array.toList_map]
     refine List.ext_getElem? fun k => ?_
     rw [List.getElem?_map,List.getElem?_replicate,Array.toList_range]
     by_cases hk : k < n
     · rw [if_pos hk,List.getElem?_range hk]
       show some ((Value.bool false).cells[k % 1]!) = _
       rw [Nat.mod_one]; rfl
     · rw [if_neg hk,List.getElem?_eq_none_iff.2 (by rw [List.length_range]; omega)]; rfl
   rw [e]
theorem U8 {b n : Nat} (hn : n ≤ 1000000) (hb : σ b = none) : AP 1 P9 σ (σ.set b (.cells (List.replicate n (Value.bool false)).toArray 4 (0,0))) (some ⟨b,0,none⟩) n n (List.replicate n false) := by
 refine ⟨⟨List.length_replicate,List.replicate n (Value.bool false),⟨by rw [List.length_replicate,Nat.mul_one],by omega,.inr ⟨b,0,_,_,rfl,Hp.AB _ _ _,Nat.le_refl _,by simp,by simp⟩⟩,by rw [List.length_replicate,List.length_replicate,Nat.mul_one],fun i x hx => ?_⟩,by rw [Hp.Ij hb]; exact .refl _⟩
 rw [List.getElem?_replicate] at hx
 split at hx
 · rename_i hi
   cases hx
   show ((List.replicate n (Value.bool false)).drop (i * 1)).take 1 = [.bool false]
   rw [Nat.mul_one,List.drop_replicate,List.take_replicate,Nat.min_eq_left (by omega)]; rfl
 · cases hx
theorem AP.Pv {b o n c i : Nat} {bs : List Bool} {x : Bool} {Φ : Unit → Hp → Prop} (ho : AP 1 P9 σ0 σ (some ⟨b,o,none⟩) n c bs) (hi : i < n)
   (hΦ : ∀ σ',AP 1 P9 σ0 σ' (some ⟨b,o,none⟩) n c (bs.set i x) → Φ () σ') : AK prog (Instr.storeAt 4 (.pointer (some ⟨b,o + i * 1,none⟩)) (.bool x)) σ Φ := by
 obtain ⟨⟨hl,cs,Ov,hc⟩,w4⟩ := ho
 refine A8.oT (j := i * 1) Ov (by omega) wk rfl rfl fun obj BM => hΦ _ ⟨⟨by rw [List.length_set]; exact hl,_,BM,?_,fun j y hy => ?_⟩,by rw [Hp.GC]; exact w4⟩
 · rw [List.length_set,List.length_set]; exact hc.1
 · have e := gu (cs := cs) (v := Value.bool x) (s := 1) (i := i) (j := j) (r := 0) (by decide)
   rw [Nat.add_zero] at e
   show ((cs.set (i * 1) (Value.bool x)).drop (j * 1)).take 1 = [.bool y]
   rw [e]
   by_cases M1 : i = j
   · subst M1
     rw [if_pos rfl]
     rw [List.getElem?_set_self (by omega)] at hy
     cases hy
     obtain ⟨y0,hy0⟩ : ∃ y0,bs[i]? = some y0 := ⟨_,List.getElem?_eq_getElem (by omega)⟩
     have h3 : (cs.drop (i * 1)).take 1 = [.bool y0] := hc.2 i y0 hy0
     rw [h3]; rfl
   · rw [if_neg M1]
     rw [List.getElem?_set_ne M1] at hy
     exact hc.2 j y hy
theorem AIN {p : Option Addr} {n i : Nat} {bs : List Bool} {x : Bool} (hr : Aa 1 P9 σ p n bs) (hx : bs[i]? = some x) : ∃ b o,p = some ⟨b,o,none⟩ ∧ Hp.ld σ ⟨b,o + i * 1,none⟩ = some (.bool x) := by
 obtain ⟨b,o,vs,hp,rfl,hl⟩ := Aa.idx hr hx
 exact ⟨b,o,hp,hl.1⟩
end
theorem tZ {p : List UInt8} : Bs (Pl p 0) [] := by
 unfold Pl
 split
 · rename_i h
   rw [IU h,List.take_zero,List.nil_append]
   exact IS.2 ⟨0,Nat.le_refl _,rfl⟩
 · exact rfl
theorem pJ {p : List UInt8} {i : Nat} {c : UInt8} (h : p[i]? = some c) : Bs (Pl p (i + 1)) [] ↔ c = 42 ∧ Bs (Pl p i) [] := by
 have h1 : Bs (Pl p (i + 1)) [] ↔ Bs (p.take (i + 1)) [] := by
   unfold Pl
   split
   · rename_i h2
     rw [IU h2,G0]
     constructor
     · rintro ⟨j,hj,h3⟩
       simpa using h3
     · exact fun h3 => ⟨0,Nat.le_refl _,h3⟩
   · exact Iff.rfl
 rw [h1]
 by_cases hc : c = 42
 · subst hc
   have e : Pl p i = p.take (i + 1) := by unfold Pl; rw [if_pos h]
   rw [e]
   exact ⟨fun h2 => ⟨rfl,h2⟩,fun h2 => h2.2⟩
 · rw [IU h,MM hc]
   constructor
   · rintro ⟨s',e,_⟩
     exact absurd (congrArg List.length e) (by simp)
   · exact fun h2 => absurd h2.1 hc
theorem AIO {p s : List UInt8} {d : UInt8} : ¬ Bs (p.take 0) (s ++ [d]) := fun h => by
 have h : s ++ [d] = [] := h
 exact absurd (congrArg List.length h) (by simp)
def preB (p : List UInt8) (av : List Bool) (d : UInt8) (i j : Nat) : Prop := (j < i ∧ av[j]? = some true ∧ p[j]? = some 42) ∨ (0 < j ∧ j - 1 < i ∧ av[j - 1]? = some true ∧ p[j - 1]? = some d ∧ d ≠ 42)
theorem ta {p s : List UInt8} {av : List Bool} {d : UInt8} {i : Nat} {c : UInt8} (hi : p[i]? = some c) (hl : av.length = p.length + 1) (ha : ∀ j,j ≤ p.length → (av[j]? = some true ↔ Bs (Pl p j) s)) :
   Bs (Pl p (i + 1)) (s ++ [d]) ↔ preB p av d p.length (i + 1) ∨ (c = 42 ∧ Bs (Pl p i) (s ++ [d])) := by
 have hip := (List.getElem?_eq_some_iff.1 hi).1
 rw [eG,iD hi,← ha (i + 1) (by omega)]
 unfold preB
 rw [Nat.add_sub_cancel]
 by_cases hc : c = 42
 · subst hc
   rw [if_pos rfl]
   constructor
   · rintro (⟨h1,h2⟩ | h1)
     · exact .inl (.inl ⟨(List.getElem?_eq_some_iff.1 h1).1,h2,h1⟩)
     · exact .inr ⟨rfl,h1⟩
   · rintro ((⟨_,h2,h1⟩ | ⟨_,_,_,h1,h2⟩) | ⟨_,h1⟩)
     · exact .inl ⟨h1,h2⟩
     · rw [hi] at h1
       exact absurd (Option.some.inj h1).symm h2
     · exact .inr h1
 · rw [if_neg hc,← ha i (by omega)]
   constructor
   · rintro (⟨h1,h2⟩ | ⟨h1,h2⟩)
     · exact .inl (.inl ⟨(List.getElem?_eq_some_iff.1 h1).1,h2,h1⟩)
     · subst h1
       exact .inl (.inr ⟨by omega,hip,h2,hi,hc⟩)
   · rintro ((⟨_,h2,h1⟩ | ⟨_,_,h3,h1,h2⟩) | ⟨h1,_⟩)
     · exact .inl ⟨h1,h2⟩
     · rw [hi] at h1
       exact .inr ⟨Option.some.inj h1,h3⟩
     · exact absurd h1 hc
theorem pK {p s : List UInt8} {av : List Bool} {d : UInt8} (ha : ∀ j,j ≤ p.length → (av[j]? = some true ↔ Bs (Pl p j) s)) : Bs (Pl p 0) (s ++ [d]) ↔ preB p av d p.length 0 := by
 rw [eG,← ha 0 (Nat.zero_le _)]
 unfold preB
 constructor
 · rintro (⟨h1,h2⟩ | h1)
   · exact .inl ⟨(List.getElem?_eq_some_iff.1 h1).1,h2,h1⟩
   · exact absurd h1 AIO
 · rintro (⟨_,h2,h1⟩ | ⟨h1,_⟩)
   · exact .inl ⟨h1,h2⟩
   · omega
end TwW
end
section
namespace TwW
open Go Tw Go.RowKit Go.Proofs.Tryz
theorem U9 {p : List UInt8} {av : List Bool} {d : UInt8} {i j : Nat} : preB p av d (i + 1) j ↔ preB p av d i j ∨ (j = i ∧ av[i]? = some true ∧ p[i]? = some 42) ∨ (j = i + 1 ∧ av[i]? = some true ∧ p[i]? = some d ∧ d ≠ 42) := by
 unfold preB
 constructor
 · rintro (⟨h1,h2,h3⟩ | ⟨h1,h2,h3,h4,h5⟩)
   · by_cases hj : j = i
     · subst hj; exact .inr (.inl ⟨rfl,h2,h3⟩)
     · exact .inl (.inl ⟨by omega,h2,h3⟩)
   · by_cases hj : j - 1 = i
     · rw [hj] at h3 h4
       exact .inr (.inr ⟨by omega,h3,h4,h5⟩)
     · exact .inl (.inr ⟨h1,by omega,h3,h4,h5⟩)
 · rintro ((⟨h1,h2,h3⟩ | ⟨h1,h2,h3,h4,h5⟩) | ⟨h1,h2,h3⟩ | ⟨h1,h2,h3,h4⟩)
   · exact .inl ⟨by omega,h2,h3⟩
   · exact .inr ⟨h1,by omega,h3,h4,h5⟩
   · subst h1; exact .inl ⟨by omega,h2,h3⟩
   · subst h1
     exact .inr ⟨by omega,by omega,by rw [Nat.add_sub_cancel]; exact h2,by rw [Nat.add_sub_cancel]; exact h3,h4⟩
theorem Yx {ns : List Bool} {i j : Nat} (hi : i < ns.length) : (ns.set i true)[j]? = some true ↔ j = i ∨ ns[j]? = some true := by
 by_cases M1 : i = j
 · subst M1
   rw [List.getElem?_set_self hi]
   simp
 · rw [List.getElem?_set_ne M1]
   constructor
   · exact .inr
   · rintro (h | h)
     · exact absurd h.symm M1
     · exact h
theorem tn1 (i : Nat) : Int.toNat ((i : Int) + 1) = i + 1 := by omega
section
variable {σ σ0 τ : Hp} {R : Rr} {p s : ByteArray}
theorem TV {b o n i : Nat} {bs : List Bool} {x : Bool} (hr : Aa 1 P9 σ (some ⟨b,o,none⟩) n bs) (hx : bs[i]? = some x) : Hp.ld σ ⟨b,o + i * 1,none⟩ = some (.bool x) := by
 obtain ⟨b',o',hp,hl⟩ := AIN hr hx
 cases hp
 exact hl
theorem iI {b o n : Nat} (hn : n = p.size + 1) (hp : p.size ≤ 100000) (h : ∀ τ bs,AP 1 P9 σ τ (some ⟨b,o,none⟩) n n bs → (∀ j,j ≤ p.size → (bs[j]? = some true ↔ Bs (Pl p.data.toList j) [])) → Am.JW R p s (aD b o) n n 0 τ) :
   ∀ (g i : Nat) (τ : Hp) (bs : List Bool),p.size - i = g → i ≤ p.size → AP 1 P9 σ τ (some ⟨b,o,none⟩) n n bs → (∀ j,j ≤ i → (bs[j]? = some true ↔ Bs (Pl p.data.toList j) [])) → (∀ j,i < j → j < n → bs[j]? = some false) → Am.P3 R p s (aD b o) n n (i : Int) τ := by
 have Ld : p.data.toList.length = p.size := rfl
 intro g
 induction g with
 | zero =>
   intro i τ bs hg hi ho h1 h2
   have : i = p.size := by omega
   subst this
   exact Am.NZ ⟨fun hh => by omega,fun _ => h τ bs ho h1⟩
 | succ g ih =>
   intro i τ bs hg hi ho h1 h2
   have hlb : bs.length = n := ho.1.1
   have BI : i < p.size := by omega
   obtain ⟨u,hu⟩ : ∃ u,p.data.toList[i]? = some u := ⟨_,List.getElem?_eq_getElem (by omega)⟩
   have DY : p.data[Int.toNat (i : Int)]? = some u := by simpa using hu
   obtain ⟨x,hx⟩ : ∃ x,bs[i]? = some x := ⟨_,List.getElem?_eq_getElem (by omega)⟩
   have r1 := TV (ho.rd P9.mono) (h2 (i + 1) (by omega) (by omega))
   have r2 := TV (ho.rd P9.mono) hx
   have next : ∀ v : Bool,(v = true ↔ Bs (Pl p.data.toList (i + 1)) []) → AK prog (Instr.storeAt 4 (.pointer (some ⟨b,o + (i + 1) * 1,none⟩)) (.bool v)) τ (fun _ y => AG ((i : Int) + 1) ∧ Am.P3 R p s (aD b o) n n ((i : Int) + 1) y) := fun v hv => by
     refine AP.Pv ho (by omega) fun σ' Es => ⟨by unfold AG; omega,?_⟩
     have := ih (i + 1) σ' (bs.set (i + 1) v) (by omega) (by omega) Es (fun j hj => ?_) (fun j hj iS => ?_)
     · rw [show ((i + 1 : Nat) : Int) = (i : Int) + 1 by omega] at this; exact this
     · by_cases ZR : j = i + 1
       · subst ZR
         rw [List.getElem?_set_self (by omega),Option.some.injEq]; exact hv
       · rw [List.getElem?_set_ne (by omega)]; exact h1 j (by omega)
     · rw [List.getElem?_set_ne (by omega)]; exact h2 j (by omega) iS
   have hf := pJ (p := p.data.toList) hu
   refine Am.NZ ⟨fun _ => ?_,fun hh => by omega⟩
   rw [tn1,Int.toNat_natCast]
   refine ⟨by unfold AG; omega,by unfold AG; omega,b,o,rfl,by unfold In; omega,false,r1,fun hh => (by cases hh),fun _ => ⟨by unfold In; omega,x,r2,fun hxt => ?_,fun hxf => ?_⟩⟩
   · refine ⟨u,by omega,DY,by unfold In; omega,next _ ?_⟩
     rw [hf,decide_eq_true_eq]
     have := (h1 i (Nat.le_refl _)).1 (by rw [hx,hxt])
     constructor
     · intro h4
       exact ⟨UInt8.toNat_inj.1 (by show u.toNat = 42; omega),this⟩
     · rintro ⟨h4,_⟩
       rw [h4]; rfl
   · refine ⟨by unfold In; omega,next _ ?_⟩
     rw [hf]
     constructor
     · intro h4; cases h4
     · rintro ⟨_,h4⟩
       have := (h1 i (Nat.le_refl _)).2 h4
       rw [hx,hxf] at this
       cases this
theorem tc {b5 o5 b8 o8 n k : Nat} {av : List Bool} {d : UInt8} (hn : n = p.size + 1) (hp : p.size ≤ 100000) (hr : Aa 1 P9 τ (some ⟨b5,o5,none⟩) n av) (hd : s.data.toList[k]? = some d)
   (h : ∀ ρ ns,AP 1 P9 τ ρ (some ⟨b8,o8,none⟩) n n ns → (∀ j,j < n → (ns[j]? = some true ↔ preB p.data.toList av d p.size j)) → Am.Xn R p s (k : Int) (aD b8 o8) n n 0 ρ) :
   ∀ (g i : Nat) (ρ : Hp) (ns : List Bool),p.size - i = g → i ≤ p.size → AP 1 P9 τ ρ (some ⟨b8,o8,none⟩) n n ns → (∀ j,j < n → (ns[j]? = some true ↔ preB p.data.toList av d i j)) → Am.rz R p s (aD b5 o5) n n (k : Int) (aD b8 o8) n n (i : Int) ρ := by
 have Ld : p.data.toList.length = p.size := rfl
 have hla : av.length = n := hr.1
 have hd' : s.data[Int.toNat (k : Int)]? = some d := by simpa using hd
 intro g
 induction g with
 | zero =>
   intro i ρ ns hg hi ho h1
   have : i = p.size := by omega
   subst this
   exact Am.dD ⟨fun hh => by omega,fun _ => h ρ ns ho h1⟩
 | succ g ih =>
   intro i ρ ns hg hi ho h1
   have BI : i < p.size := by omega
   obtain ⟨u,hu⟩ : ∃ u,p.data.toList[i]? = some u := ⟨_,List.getElem?_eq_getElem (by omega)⟩
   have DY : p.data[Int.toNat (i : Int)]? = some u := by simpa using hu
   obtain ⟨x,hx⟩ : ∃ x,av[i]? = some x := ⟨_,List.getElem?_eq_getElem (by omega)⟩
   have next : ∀ ρ' jC,AP 1 P9 τ ρ' (some ⟨b8,o8,none⟩) n n jC → (∀ j,j < n → (jC[j]? = some true ↔ preB p.data.toList av d (i + 1) j)) → Am.P4 R p s (aD b5 o5) n n (k : Int) (aD b8 o8) n n (i : Int) ρ' := fun ρ' jC Es h2 => by
     have := ih (i + 1) ρ' jC (by omega) (by omega) Es h2
     rw [show ((i + 1 : Nat) : Int) = (i : Int) + 1 by omega] at this
     exact Am.QN ⟨by unfold AG; omega,this⟩
   have u42 : (((UInt8.toNat u : Nat) : Int) : Int) = 42 ↔ u = 42 := by
     constructor
     · intro h4; exact UInt8.toNat_inj.1 (by show u.toNat = 42; omega)
     · intro h4; rw [h4]; rfl
   have second : ∀ ρ' jC,AP 1 P9 τ ρ' (some ⟨b8,o8,none⟩) n n jC → (∀ j,j < n → (jC[j]? = some true ↔ preB p.data.toList av d i j ∨ (j = i ∧ av[i]? = some true ∧ p.data.toList[i]? = some 42))) → Am.fe R p s (aD b5 o5) n n (k : Int) (aD b8 o8) n n (i : Int) ρ' := fun ρ' jC Es h2 => by
     have fE : jC.length = n := Es.1.1
     have r := TV (hr.mono P9.mono Es.up) hx
     have skip : ¬ (av[i]? = some true ∧ p.data.toList[i]? = some d ∧ d ≠ 42) → Am.P4 R p s (aD b5 o5) n n (k : Int) (aD b8 o8) n n (i : Int) ρ' := fun Bc => next ρ' jC Es fun j hj => by
       rw [h2 j hj,U9]
       constructor
       · rintro (h4 | h4)
         · exact .inl h4
         · exact .inr (.inl h4)
       · rintro (h4 | h4 | ⟨_,h4⟩)
         · exact .inl h4
         · exact .inr h4
         · exact absurd h4 Bc
     refine Am.r5 ?_
     rw [tn1,Int.toNat_natCast]
     refine ⟨b5,o5,rfl,by unfold In; omega,x,r,fun hxt => ⟨u,by omega,DY,fun BD => ⟨u,by omega,DY,d,by omega,hd',fun heq => ⟨by unfold AG; omega,b8,o8,rfl,by unfold In; omega,?_⟩,fun AOD => skip ?_⟩,fun h42 => skip ?_⟩,fun hxf => skip ?_⟩
     · have hud : u = d := UInt8.toNat_inj.1 (by omega)
       refine AP.Pv Es (by omega) fun σ' BM => next σ' _ BM fun j hj => ?_
       rw [Yx (by omega),h2 j hj,U9]
       have AOF : d ≠ 42 := fun e => BD (u42.2 (hud.trans e))
       constructor
       · rintro (h4 | h4 | h4)
         · exact .inr (.inr ⟨h4,by rw [hx,hxt],by rw [hu,hud],AOF⟩)
         · exact .inl h4
         · exact .inr (.inl h4)
       · rintro (h4 | h4 | ⟨h4,_⟩)
         · exact .inr (.inl h4)
         · exact .inr (.inr h4)
         · exact .inl h4
     · rintro ⟨_,h4,_⟩
       rw [hu] at h4
       exact AOD (by rw [Option.some.inj h4])
     · rintro ⟨_,h4,h5⟩
       rw [hu] at h4
       exact h5 ((Option.some.inj h4).symm.trans (u42.1 (Decidable.not_not.1 h42)))
     · rintro ⟨h4,_⟩
       rw [hx,hxf] at h4
       cases h4
   have r := TV (hr.mono P9.mono ho.up) hx
   have hl : ns.length = n := ho.1.1
   have skip : ¬ (av[i]? = some true ∧ p.data.toList[i]? = some 42) → Am.fe R p s (aD b5 o5) n n (k : Int) (aD b8 o8) n n (i : Int) ρ := fun Bc => second ρ ns ho fun j hj => by
     rw [h1 j hj]
     constructor
     · exact .inl
     · rintro (h4 | ⟨_,h4⟩)
       · exact h4
       · exact absurd h4 Bc
   refine Am.dD ⟨fun _ => ?_,fun hh => by omega⟩
   rw [Int.toNat_natCast]
   rw [Int.toNat_natCast] at DY
   refine ⟨b5,o5,rfl,by unfold In; omega,x,r,fun hxt => ⟨u,by omega,DY,fun h42 => ⟨b8,o8,rfl,by unfold In; omega,?_⟩,fun BD => skip ?_⟩,fun hxf => skip ?_⟩
   · refine AP.Pv ho (by omega) fun σ' BM => second σ' _ BM fun j hj => ?_
     rw [Yx (by omega),h1 j hj]
     constructor
     · rintro (h4 | h4)
       · exact .inr ⟨h4,by rw [hx,hxt],by rw [hu,u42.1 h42]⟩
       · exact .inl h4
     · rintro (h4 | ⟨h4,_⟩)
       · exact .inr h4
       · exact .inl h4
   · rintro ⟨_,h4⟩
     rw [hu] at h4
     exact BD (u42.2 (Option.some.inj h4))
   · rintro ⟨h4,_⟩
     rw [hx,hxf] at h4
     cases h4
theorem pL {b8 o8 n k : Nat} {av : List Bool} {d : UInt8} {S : List UInt8} (hn : n = p.size + 1) (hp : p.size ≤ 100000) (hk : k < s.size) (hs : s.size ≤ 4611686018427387904) (hla : av.length = n) (ha : ∀ j,j ≤ p.size → (av[j]? = some true ↔ Bs (Pl p.data.toList j) S))
   (h : ∀ ρ ns,AP 1 P9 τ ρ (some ⟨b8,o8,none⟩) n n ns → (∀ j,j ≤ p.size → (ns[j]? = some true ↔ Bs (Pl p.data.toList j) (S ++ [d]))) → Am.JW R p s (aD b8 o8) n n ((k : Int) + 1) ρ) :
   ∀ (g i : Nat) (ρ : Hp) (ns : List Bool),p.size - i = g → i ≤ p.size → AP 1 P9 τ ρ (some ⟨b8,o8,none⟩) n n ns → (∀ j,j ≤ i → (ns[j]? = some true ↔ Bs (Pl p.data.toList j) (S ++ [d]))) → (∀ j,i < j → j < n → (ns[j]? = some true ↔ preB p.data.toList av d p.size j)) → Am.Xn R p s (k : Int) (aD b8 o8) n n (i : Int) ρ := by
 have Ld : p.data.toList.length = p.size := rfl
 intro g
 induction g with
 | zero =>
   intro i ρ ns hg hi ho h1 h2
   have : i = p.size := by omega
   subst this
   exact Am.dE ⟨fun hh => by omega,fun _ => ⟨by unfold AG; omega,h ρ ns ho h1⟩⟩
 | succ g ih =>
   intro i ρ ns hg hi ho h1 h2
   have hl : ns.length = n := ho.1.1
   have BI : i < p.size := by omega
   obtain ⟨u,hu⟩ : ∃ u,p.data.toList[i]? = some u := ⟨_,List.getElem?_eq_getElem (by omega)⟩
   have DY : p.data[i]? = some u := by simpa using hu
   obtain ⟨x,hx⟩ : ∃ x,ns[i]? = some x := ⟨_,List.getElem?_eq_getElem (by omega)⟩
   obtain ⟨z,hz⟩ : ∃ z,ns[i + 1]? = some z := ⟨_,List.getElem?_eq_getElem (by omega)⟩
   have r1 := TV (ho.rd P9.mono) hz
   have r2 := TV (ho.rd P9.mono) hx
   have UR := ta (p := p.data.toList) (s := S) (av := av) (d := d) hu (by omega) ha
   rw [Ld] at UR
   have next : ∀ v : Bool,(v = true ↔ Bs (Pl p.data.toList (i + 1)) (S ++ [d])) → AK prog (Instr.storeAt 4 (.pointer (some ⟨b8,o8 + (i + 1) * 1,none⟩)) (.bool v)) ρ (fun _ y => AG ((i : Int) + 1) ∧ Am.Xn R p s (k : Int) (aD b8 o8) n n ((i : Int) + 1) y) := fun v hv => by
     refine AP.Pv ho (by omega) fun σ' Es => ⟨by unfold AG; omega,?_⟩
     have := ih (i + 1) σ' (ns.set (i + 1) v) (by omega) (by omega) Es (fun j hj => ?_) (fun j hj iS => ?_)
     · rw [show ((i + 1 : Nat) : Int) = (i : Int) + 1 by omega] at this; exact this
     · by_cases ZR : j = i + 1
       · subst ZR
         rw [List.getElem?_set_self (by omega),Option.some.injEq]; exact hv
       · rw [List.getElem?_set_ne (by omega)]; exact h1 j (by omega)
     · rw [List.getElem?_set_ne (by omega)]; exact h2 j (by omega) iS
   have iB := h2 (i + 1) (by omega) (by omega)
   have AIQ := h1 i (Nat.le_refl _)
   refine Am.dE ⟨fun _ => ?_,fun hh => by omega⟩
   rw [tn1,Int.toNat_natCast]
   refine ⟨by unfold AG; omega,by unfold AG; omega,b8,o8,rfl,by unfold In; omega,z,r1,fun hzt => ⟨by unfold In; omega,next _ ?_⟩,fun hzf => ⟨by unfold In; omega,x,r2,fun hxt => ⟨u,by omega,DY,by unfold In; omega,next _ ?_⟩,fun hxf => ⟨by unfold In; omega,next _ ?_⟩⟩⟩
   · rw [UR]
     exact ⟨fun _ => .inl (iB.1 (by rw [hz,hzt])),fun _ => rfl⟩
   · rw [UR,decide_eq_true_eq]
     have bL := AIQ.1 (by rw [hx,hxt])
     constructor
     · intro h4
       exact .inr ⟨UInt8.toNat_inj.1 (by show u.toNat = 42; omega),bL⟩
     · rintro (h4 | ⟨h4,_⟩)
       · have := iB.2 h4
         rw [hz,hzf] at this
         cases this
       · rw [h4]; rfl
   · rw [UR]
     constructor
     · intro h4; cases h4
     · rintro (h4 | ⟨_,h4⟩)
       · have := iB.2 h4
         rw [hz,hzf] at this
         cases this
       · have := AIQ.2 h4
         rw [hx,hxf] at this
         cases this
theorem VA (hp : p.size ≤ 100000) (hs : s.size ≤ 4611686018427387904) (h : ∀ (b : Bool) (σ' : Hp),(b = true ↔ Bs p.data.toList s.data.toList) → Ext σ σ' → R (.returned (.bool b)) σ') : Spec prog 86 #[.string p,.string s] σ R := by
 have AOG : p.data.toList.length = p.size := rfl
 have AUC : s.data.toList.length = s.size := rfl
 have main : ∀ (g k : Nat) (τ : Hp) (b o : Nat) (av : List Bool),s.size - k = g → k ≤ s.size → Ext σ τ → Aa 1 P9 τ (some ⟨b,o,none⟩) (p.size + 1) av → (∀ j,j ≤ p.size → (av[j]? = some true ↔ Bs (Pl p.data.toList j) (s.data.toList.take k))) → Am.JW R p s (aD b o) (p.size + 1) (p.size + 1) (k : Int) τ := by
   intro g
   induction g with
   | zero =>
     intro k τ b o av hg hk hx hr ha
     have : k = s.size := by omega
     subst this
     have hla : av.length = p.size + 1 := hr.1
     obtain ⟨x,A1⟩ : ∃ x,av[p.size]? = some x := ⟨_,List.getElem?_eq_getElem (by omega)⟩
     have r := TV hr A1
     refine Am.I3 ⟨fun hh => by omega,fun _ => ⟨b,o,rfl,by unfold In; omega,x,by rw [Int.toNat_natCast]; exact r,h x τ ?_ hx⟩⟩
     have := ha p.size (Nat.le_refl _)
     rw [A1,Option.some.injEq,List.take_of_length_le (by omega),← AOG,ABB] at this
     exact this
   | succ g ih =>
     intro k τ b o av hg hk hx hr ha
     have E4 : k < s.size := by omega
     obtain ⟨d,hd⟩ : ∃ d,s.data.toList[k]? = some d := ⟨_,List.getElem?_eq_getElem (by omega)⟩
     refine Am.I3 ⟨fun _ => ⟨by unfold AG; omega,?_⟩,fun hh => by omega⟩
     rw [show ((p.size : Nat) : Int) + 1 = ((p.size + 1 : Nat) : Int) by omega]
     refine TU (by omega) fun b8 h8 => ⟨_,_,_,rfl,?_⟩
     have ho := U8 (n := p.size + 1) (by omega) h8
     have e0 : ((0 : Nat) : Int) = 0 := rfl
     refine tc (τ := τ) (av := av) (d := d) rfl hp hr hd (fun ρ ns BM h2 => ?_) p.size 0 _ _ rfl (Nat.zero_le _) ho fun j hj => ?_
     · refine pL (τ := τ) (av := av) (d := d) (S := s.data.toList.take k) rfl hp E4 hs hr.1 ha (fun ρ' jC Ct h3 => ?_) p.size 0 ρ ns rfl (Nat.zero_le _) BM (fun j hj => ?_) fun j _ iS => h2 j iS
       · have := ih (k + 1) ρ' b8 0 jC (by omega) (by omega) (hx.trans Ct.up) (Ct.rd P9.mono) (by rw [AS hd]; exact h3)
         rw [show ((k + 1 : Nat) : Int) = (k : Int) + 1 by omega] at this
         exact this
       · have : j = 0 := by omega
         subst this
         rw [h2 0 (by omega)]
         exact (pK (p := p.data.toList) ha).symm
     · rw [List.getElem?_replicate,if_pos hj]
       constructor
       · intro h4; cases h4
       · rintro (⟨h4,_⟩ | ⟨_,h4,_⟩)
         · omega
         · omega
 refine Am.start ⟨by unfold AG; omega,?_⟩
 rw [show ((p.size : Nat) : Int) + 1 = ((p.size + 1 : Nat) : Int) by omega]
 refine TU (by omega) fun b hb => ⟨_,_,_,rfl,b,0,rfl,by unfold In; omega,?_⟩
 have ho := U8 (n := p.size + 1) (by omega) hb
 refine AP.Pv (i := 0) ho (by omega) fun σ' Es => ?_
 refine iI (σ := σ) rfl hp (fun τ bs BM h2 => main s.size 0 τ b 0 bs rfl (Nat.zero_le _) BM.up (BM.rd P9.mono) (by rw [List.take_zero]; exact h2)) p.size 0 σ' _ rfl (Nat.zero_le _) Es (fun j hj => ?_) fun j hj iS => ?_
 · have : j = 0 := by omega
   subst this
   rw [List.getElem?_set_self (by rw [List.length_replicate]; omega)]
   exact ⟨fun _ => tZ,fun _ => rfl⟩
 · rw [List.getElem?_set_ne (by omega),List.getElem?_replicate,if_pos iS]
end
end TwW
end
section
namespace TwW
open Go Tw Go.RowKit Go.Proofs.Tryz
theorem eP {c : UInt8} : ∀ {w : List UInt8},(∀ u ∈ w,u ≠ c) → Lq c w = [w]
 | [],_ => rfl
 | b :: w,h => by
   unfold Lq
   rw [if_neg (h b (List.mem_cons_self ..)),eP fun u hu => h u (List.mem_cons_of_mem _ hu)]
theorem Yy {c : UInt8} {r : List UInt8} : ∀ {w : List UInt8},(∀ u ∈ w,u ≠ c) → Lq c (w ++ c :: r) = w :: Lq c r
 | [],_ => by
   rw [List.nil_append,Lq,if_pos rfl]
 | b :: w,h => by
   rw [List.cons_append,Lq,if_neg (h b (List.mem_cons_self ..)),Yy fun u hu => h u (List.mem_cons_of_mem _ hu)]
section
variable {σ : Hp} {R : Rr}
theorem TW {p v : ByteArray} (hp : p.size ≤ 100000) (hs : v.size ≤ 4611686018427387904) (h : ∀ σ',Ext σ σ' → R (.returned (.bool (IH p v))) σ') : Spec prog 55 #[.string p,.string v] σ R := by
 have Ld : p.data.toList.length = p.size := rfl
 have main : ∀ (g i f : Nat) (τ : Hp),p.size - i = g → i ≤ p.size → f ≤ i → (∀ u ∈ (p.data.toList.drop f).take (i - f),u ≠ 124) → Ext σ τ → (IH p v = true ↔ ∃ x ∈ Lq 124 (p.data.toList.drop f),Bs x v.data.toList) → DI.Ak R p v (f : Int) (i : Int) τ := by
   intro g
   induction g with
   | zero =>
     intro i f τ hg hi hf Bc hx hl
     have : i = p.size := by omega
     subst this
     have hw : (p.data.toList.drop f).take (p.size - f) = p.data.toList.drop f := List.take_of_length_le (by rw [List.length_drop]; omega)
     rw [hw] at Bc
     rw [eP Bc] at hl
     refine DI.AX ⟨fun _ => ⟨fun _ => ⟨_,bF hf (Nat.le_refl _),VA (by rw [ByteArray.size_extract]; omega) hs fun b σ' hb Kh => ⟨_,rfl,fun ht => ?_,fun pX => ⟨by unfold AG; omega,?_⟩⟩⟩,fun hh => absurd rfl hh⟩,fun hh => by omega⟩
     · rw [N4,hw] at hb
       have := h σ' (hx.trans Kh)
       rw [hl.2 ⟨_,List.mem_singleton.2 rfl,hb.1 ht⟩] at this
       exact this
     · rw [N4,hw] at hb
       refine DI.NU ⟨by unfold AG; omega,DI.AX ⟨fun hh => by omega,fun _ => ?_⟩⟩
       have hlf : IH p v = false := by
         cases hq : IH p v with
         | false => rfl
         | true =>
           obtain ⟨x,CO,A1⟩ := hl.1 hq
           obtain rfl := List.mem_singleton.1 CO
           have := hb.2 A1
           rw [pX] at this; cases this
       have := h σ' (hx.trans Kh)
       rw [hlf] at this; exact this
   | succ g ih =>
     intro i f τ hg hi hf Bc hx hl
     have BI : i < p.size := by omega
     obtain ⟨u,hu⟩ : ∃ u,p.data.toList[i]? = some u := ⟨_,List.getElem?_eq_getElem (by omega)⟩
     have DY : p.data[Int.toNat (i : Int)]? = some u := by simpa using hu
     have hd : (p.data.toList.drop f)[i - f]? = some u := by rw [List.getElem?_drop,show f + (i - f) = i by omega]; exact hu
     refine DI.AX ⟨fun _ => ⟨fun hh => by omega,fun _ => ⟨u,by omega,DY,fun AUE => ?_,fun BD => ?_⟩⟩,fun hh => by omega⟩
     · have AOH : u = 124 := UInt8.toNat_inj.1 (by show u.toNat = 124; omega)
       subst AOH
       have hsp : p.data.toList.drop f = (p.data.toList.drop f).take (i - f) ++ 124 :: p.data.toList.drop (i + 1) := by
         conv => lhs; rw [← List.take_append_drop (i - f) (p.data.toList.drop f)]
         rw [An hd,List.drop_drop,show f + (i - f + 1) = i + 1 by omega]
       rw [hsp,Yy Bc] at hl
       refine ⟨_,bF hf hi,VA (by rw [ByteArray.size_extract]; omega) hs fun b σ' hb Kh => ⟨_,rfl,fun ht => ?_,fun pX => ⟨by unfold AG; omega,?_⟩⟩⟩
       · rw [N4] at hb
         have := h σ' (hx.trans Kh)
         rw [hl.2 ⟨_,List.mem_cons_self ..,hb.1 ht⟩] at this
         exact this
       · rw [N4] at hb
         have := ih (i + 1) (i + 1) σ' (by omega) (by omega) (Nat.le_refl _) (by simp) (hx.trans Kh) (hl.trans ⟨fun ⟨x,CO,A1⟩ => by
           rcases List.mem_cons.1 CO with rfl | CO
           · have := hb.2 A1
             rw [pX] at this; cases this
           · exact ⟨x,CO,A1⟩,fun ⟨x,CO,A1⟩ => ⟨x,List.mem_cons_of_mem _ CO,A1⟩⟩)
         rw [show ((i + 1 : Nat) : Int) = (i : Int) + 1 by omega] at this
         exact DI.NU ⟨by unfold AG; omega,this⟩
     · have := ih (i + 1) f τ (by omega) (by omega) (by omega) (fun w hw => by
         rw [show i + 1 - f = (i - f) + 1 by omega,AS hd] at hw
         rcases List.mem_append.1 hw with hw | hw
         · exact Bc w hw
         · obtain rfl := List.mem_singleton.1 hw
           intro e
           rw [e] at BD
           exact BD rfl) hx hl
       rw [show ((i + 1 : Nat) : Int) = (i : Int) + 1 by omega] at this
       exact DI.NU ⟨by unfold AG; omega,this⟩
 exact DI.start (main p.size 0 0 σ rfl (Nat.zero_le _) (Nat.le_refl _) (by simp) (.refl _) iC)
theorem iJ {p : Option Addr} {n c : Nat} {ls : List Lb} {k : ByteArray} (hr : Cq σ p n ls) (h : R (.returned (.string (Bz ls k))) σ) : Spec prog 54 #[.slice p n c,.string k] σ R := by
 refine Jp.start ?_
 suffices H : ∀ d i : Nat,n - i = d → i ≤ n → Bz ls k = Bz (ls.drop i) k → Jp.F3 R p n c k (i : Int) σ from H n 0 rfl (Nat.zero_le _) rfl
 intro d
 induction d with
 | zero =>
   intro i hd hi he
   refine Jp.As ⟨fun Az => by omega,fun _ => ?_⟩
   rw [List.drop_of_length_le (by rw [hr.1]; omega)] at he
   rw [he] at h; exact h
 | succ d ih =>
   intro i hd hi he
   have BI : i < n := by omega
   obtain ⟨x,hx⟩ := hr.ex BI
   obtain ⟨b,o,rfl,hl⟩ := Cq.at hr hx
   rw [An hx,Bz] at he
   refine Jp.As ⟨fun _ => ⟨b,o,rfl,by unfold In; omega,x.1,by simpa using hl.1,fun hk => ⟨by unfold In; omega,x.2,by simpa using hl.2.1,?_⟩,fun hk => ⟨AF BI hr.big,?_⟩⟩,fun hh => by omega⟩
   · rw [fm,decide_eq_true_eq] at hk
     rw [if_pos hk] at he
     rw [he] at h; exact h
   · rw [fm,decide_eq_false_iff_not] at hk
     rw [if_neg hk] at he
     have := ih (i + 1) (by omega) (by omega) he
     rw [show ((i + 1 : Nat) : Int) = (i : Int) + 1 by omega] at this
     exact this
theorem iK {ls : List Lb} (h : ∀ x ∈ ls,x.2.size ≤ 4611686018427387904) (k : ByteArray) : (Bz ls k).size ≤ 4611686018427387904 := by
 induction ls with
 | nil => show 0 ≤ _; omega
 | cons x l ih =>
   unfold Bz
   split
   · exact h x (List.mem_cons_self ..)
   · exact ih fun y hy => h y (List.mem_cons_of_mem _ hy)
theorem JZ.at' {p : Option Addr} {n i : Nat} {ms : List Mt} {x : Mt} (hr : Aa 3 JZ σ p n ms) (hx : ms[i]? = some x) : ∃ b o,p = some ⟨b,o,none⟩ ∧ Au σ b (o + i * 3) [.int .i64 x.kind,.string x.name,.string x.val] := by
 obtain ⟨b,o,vs,hp,rfl,hl⟩ := Aa.idx hr hx
 exact ⟨b,o,hp,hl⟩
theorem ba {p q : Option Addr} {n c m d : Nat} {ms : List Mt} {ls : List Lb} (hr : Aa 3 JZ σ p n ms) (hl : Cq σ q m ls) (hv : ∀ x ∈ ms,x.val.size ≤ 100000) (hs : ∀ x ∈ ls,x.2.size ≤ 4611686018427387904) (h : ∀ σ',Ext σ σ' → R (.returned (.bool (Fg ms ls))) σ') :
   Spec prog 38 #[.slice p n c,.slice q m d] σ R := by
 refine FI.start ?_
 suffices H : ∀ (g i : Nat) (τ : Hp),n - i = g → i ≤ n → Ext σ τ → Fg ms ls = Fg (ms.drop i) ls → FI.F3 R p n c q m d (i : Int) τ from H n 0 σ rfl (Nat.zero_le _) (.refl _) rfl
 intro g
 induction g with
 | zero =>
   intro i τ hg hi hx he
   refine FI.As ⟨fun Az => by omega,fun _ => ?_⟩
   rw [List.drop_of_length_le (by rw [hr.1]; omega)] at he
   have := h τ hx
   rw [he] at this; exact this
 | succ g ih =>
   intro i τ hg hi hx he
   have BI : i < n := by omega
   obtain ⟨x,hxi⟩ := hr.ex BI
   obtain ⟨b,o,rfl,D6⟩ := JZ.at' hr hxi
   have hxv := hv x (List.mem_of_getElem? hxi)
   have hgs := iK hs x.name
   have e : Fg ms ls = (Ki x ls && Fg (ms.drop (i + 1)) ls) := by rw [he,An hxi]; rfl
   have fin : ∀ (t : Bool) (τ' : Hp),t = Ki x ls → Ext τ τ' → FI.P2 R (aD b o) n c q m d (i : Int) t τ' := fun t τ' ht Kh => by
     refine FI.Vr ⟨fun hf => ?_,fun htt => ⟨AF BI hr.big,?_⟩⟩
     · have := h τ' (hx.trans Kh)
       rw [e,← ht,hf,Bool.false_and] at this; exact this
     · have := ih (i + 1) τ' (by omega) (by omega) (hx.trans Kh) (by rw [e,← ht,htt,Bool.true_and])
       rw [show ((i + 1 : Nat) : Int) = (i : Int) + 1 by omega] at this
       exact this
   have TJ := D6.mono hx
   have e1 : Ki x ls = if x.kind = 1 then decide (Bz ls x.name = x.val) else if x.kind = 2 then decide (Bz ls x.name ≠ x.val) else if x.kind = 3 then IH x.val (Bz ls x.name) else if x.kind = 4 then !IH x.val (Bz ls x.name) else false := rfl
   refine FI.As ⟨fun _ => ⟨b,o,rfl,by unfold In; omega,x.name,by simpa using TJ.2.1,iJ (hl.mono BT.mono hx) ⟨_,rfl,by unfold In; omega,x.kind,by simpa using TJ.1,fun k1 => ⟨by unfold In; omega,x.val,by simpa using TJ.2.2.1,fin _ τ ?_ (.refl _)⟩,fun k1 => ⟨fun k2 => ⟨by unfold In; omega,x.val,by simpa using TJ.2.2.1,fin _ τ ?_ (.refl _)⟩,fun k2 => ⟨fun k3 => ⟨by unfold In; omega,x.val,by simpa using TJ.2.2.1,TW hxv hgs fun σ' Kh => ⟨_,rfl,fin _ σ' ?_ Kh⟩⟩,fun k3 => ⟨fun k4 => ⟨by unfold In; omega,x.val,by simpa using TJ.2.2.1,TW hxv hgs fun σ' Kh => ⟨_,rfl,fin _ σ' ?_ Kh⟩⟩,fun k4 => fin _ τ ?_ (.refl _)⟩⟩⟩⟩⟩,fun hh => by omega⟩
   · rw [fm,e1,if_pos k1]
   · rw [fm,e1,if_neg k1,if_pos k2]
     by_cases hq : Bz ls x.name = x.val
     · rw [decide_eq_true hq]; simp [hq]
     · rw [decide_eq_false hq]; simp [hq]
   · rw [e1,if_neg k1,if_neg k2,if_pos k3]
   · rw [e1,if_neg k1,if_neg k2,if_neg k3,if_pos k4]
   · rw [e1,if_neg k1,if_neg k2,if_neg k3,if_neg k4]
end
end TwW
end
