/-
  Part 5 of the proof that the law EvalFiltersUptoCardSaid of the given program answers true for every input of the given statement; the input reads behind the call as it did. (The texts: packed from 31 texts. Names are shortened by the packing program, for the bound on size.)
-/
import Derived.Test.YtlmhidjgplomgaaGreatDoorA4
import Derived.Test.YtlmhidjgplomgaaGreatDoorCards
import Derived.Test.YtlmhidjgplomgaaGreatDoorTie
import Derived.WalkKit
import Derived.ProofKit
import Derived.OpenShut
import Derived.Deep.DeepHandedRow
import Derived.Stop.LaidErr
import Derived.Shelf.Vars
import Derived.Deep.DeepWitnessRowRef
import Derived.Deep.DeepLaidRun
import Derived.Lib.LaidTab
import Derived.LaidLaws
import Derived.ChangeMaps5
import Derived.Laws.FloatBits
import Ieee.Arith
import Derived.KernelRfl
set_option linter.all false
section
namespace TwW
open Go Tw Go.RowKit Go.Proofs.Tryz
structure GR where
 b : Nat
 lp : Option Addr
 ln : Nat
 lc : Nat
 vp : Option Addr
 vn : Nat
 vc : Nat
def GR.cl (r : GR) : List Nat := r.b :: RT r.vp
def GR.cell (r : GR) : Obj := .cells #[.slice r.lp r.ln r.lc,.slice r.vp r.vn r.vc] 189 (0,0)
def FK : List Rg → List GR → List (ByteArray × Nat)
 | g :: gs,r :: rs => (Gb g.ls,r.b) :: FK gs rs
 | _,_ => []
structure GS (τ σ : Hp) (m : Nat) (op : Option Addr) (on oc : Nat) (rs : List GR) (gs : List Rg) : Prop where
 len : rs.length = gs.length
 map : MS (fun v b => v = .pointer (aD b 0)) σ m (FK gs rs)
 ord : A8 1 σ op on oc (rs.map fun r => .pointer (aD r.b 0))
 box : ∀ (i : Nat) (r : GR) (g : Rg),rs[i]? = some r → gs[i]? = some g → σ r.b = some r.cell ∧ EK τ r.lp r.ln g.ls ∧ D2 .u64 σ r.vp r.vn r.vc g.vs
 om : ∀ a,op = some a → a.block ≠ m ∧ τ a.block = none
 dm : ∀ (i : Nat) (r : GR),rs[i]? = some r → ∀ k ∈ r.cl,k ≠ m ∧ (∀ a,op = some a → k ≠ a.block) ∧ τ k = none
 vb : ∀ (i : Nat) (r : GR),rs[i]? = some r → ∀ a,r.vp = some a → a.block ≠ r.b
 dr : ∀ (i j : Nat) (r r' : GR),i ≠ j → rs[i]? = some r → rs[j]? = some r' → ∀ k ∈ r.cl,k ∉ r'.cl
 tm : τ m = none
 ext : Ext τ σ
theorem uF : ∀ w,(Go.sizeOf 187).run prog w = .ok 1 w := fun w => by kernel_rfl
theorem uG {p : Option Addr} {k : Nat} : k ∈ RT p ↔ ∃ a,p = some a ∧ k = a.block := by
 cases p with
 | none => simp [RT]
 | some a => simp [RT]
theorem JV {r : GR} {k : Nat} : k ∈ r.cl ↔ k = r.b ∨ ∃ a,r.vp = some a ∧ k = a.block := by
 unfold GR.cl
 rw [List.mem_cons,uG]
theorem A8.of_eq {s : Nat} {σ σ' : Hp} {p : Option Addr} {n c : Nat} {cs : List Value} (ho : A8 s σ p n c cs) (h : ∀ a,p = some a → σ' a.block = σ a.block) : A8 s σ' p n c cs :=
 ⟨ho.1,ho.2.1,ho.2.2.imp id fun ⟨b',o',arr,T,hp,hb,r⟩ => ⟨b',o',arr,T,hp,by rw [h _ hp]; exact hb,r⟩⟩
theorem VU : ∀ {gs : List Rg} {rs : List GR} {i : Nat} {g g' : Rg} {r r' : GR},gs[i]? = some g → rs[i]? = some r → g'.ls = g.ls → r'.b = r.b → FK (gs.set i g') (rs.set i r') = FK gs rs
 | [],_,i,_,_,_,_,hg,_,_,_ => by simp at hg
 | _ :: _,[],i,_,_,_,_,_,hr,_,_ => by simp at hr
 | a :: gs,b :: rs,0,g,g',r,r',hg,hr,h1,h2 => by
   simp only [List.getElem?_cons_zero,Option.some.injEq] at hg hr
   subst hg; subst hr
   simp only [List.set_cons_zero,FK,h1,h2]
 | a :: gs,b :: rs,i + 1,g,g',r,r',hg,hr,h1,h2 => by
   simp only [List.set_cons_succ,FK]
   rw [VU (by simpa using hg) (by simpa using hr) h1 h2]
theorem VV : ∀ {gs : List Rg} {rs : List GR} {g : Rg} {r : GR},rs.length = gs.length → FK (gs ++ [g]) (rs ++ [r]) = FK gs rs ++ [(Gb g.ls,r.b)]
 | [],[],g,r,_ => rfl
 | [],_ :: _,g,r,h => by simp at h
 | _ :: _,[],g,r,h => by simp at h
 | a :: gs,b :: rs,g,r,h => by
   simp only [List.cons_append,FK]
   rw [VV (by simpa using h)]
theorem Tk : ∀ {gs : List Rg} {rs : List GR} {ls : List Lb} {v : Int} {b : Nat},rs.length = gs.length → Dn (FK gs rs) (Gb ls) = some b → ∃ (i : Nat) (g : Rg) (r : GR),gs[i]? = some g ∧ rs[i]? = some r ∧ r.b = b ∧ Gc ls v gs = gs.set i ⟨g.ls,g.vs ++ [v]⟩
 | [],_,ls,v,b,_,h => by simp [FK,Dn] at h
 | _ :: _,[],ls,v,b,hl,h => by simp at hl
 | g :: gs,r :: rs,ls,v,b,hl,h => by
   unfold FK Dn at h
   by_cases hk : Gb g.ls = Gb ls
   · rw [if_pos hk] at h
     exact ⟨0,g,r,rfl,rfl,by simpa using h,by unfold Gc; rw [if_pos hk]; rfl⟩
   · rw [if_neg hk] at h
     obtain ⟨i,g',r',h1,h2,h3,h4⟩ := Tk (v := v) (by simpa using hl) h
     exact ⟨i + 1,g',r',by simpa using h1,by simpa using h2,h3,by unfold Gc; rw [if_neg hk,h4]; rfl⟩
theorem Tl : ∀ {gs : List Rg} {rs : List GR} {ls : List Lb} {v : Int},rs.length = gs.length → Dn (FK gs rs) (Gb ls) = none → Gc ls v gs = gs ++ [⟨ls,[v]⟩] ∧ ∀ a ∈ FK gs rs,a.1 ≠ Gb ls
 | [],_,ls,v,_,h => ⟨rfl,fun a ha => by simp [FK] at ha⟩
 | _ :: _,[],ls,v,hl,h => by simp at hl
 | g :: gs,r :: rs,ls,v,hl,h => by
   unfold FK Dn at h
   by_cases hk : Gb g.ls = Gb ls
   · rw [if_pos hk] at h; cases h
   · rw [if_neg hk] at h
     obtain ⟨h1,h2⟩ := Tl (v := v) (by simpa using hl) h
     refine ⟨by unfold Gc; rw [if_neg hk,h1]; rfl,fun a ha => ?_⟩
     unfold FK at ha
     rcases List.mem_cons.1 ha with rfl | ha
     · exact hk
     · exact h2 a ha
section
variable {τ σ σ' σ0 : Hp} {R : Rr} {m on oc : Nat} {op : Option Addr} {rs : List GR} {gs : List Rg}
theorem GS.known (h : GS τ σ m op on oc rs gs) {i : Nat} {r : GR} (hr : rs[i]? = some r) : ∀ k ∈ r.cl,∃ u,σ k = some u := fun k hk => by
 have Ap := (List.getElem?_eq_some_iff.1 hr).1
 obtain ⟨g,hg⟩ : ∃ g,gs[i]? = some g := ⟨_,List.getElem?_eq_getElem (by rw [← h.len]; exact Ap)⟩
 obtain ⟨h1,_,h3⟩ := h.box i r g hr hg
 rcases JV.1 hk with rfl | ⟨a,ha,rfl⟩
 · exact ⟨_,h1⟩
 · have := A8.block h3 a ha
   cases hh : σ a.block with
   | none => exact absurd hh this
   | some u => exact ⟨u,rfl⟩
theorem GS.grow (h : GS τ σ m op on oc rs gs) (hx : Ext σ σ') : ∃ τ',GS τ' σ' m op on oc rs gs ∧ Ext τ τ' ∧ Ext (σ.new σ') τ' := by
 have ht : Ext τ (τ.or (σ.new σ')) := Ext.tT _ _
 have kn : ∀ k,(∃ u,σ k = some u) → τ k = none → (τ.or (σ.new σ')) k = none := fun k ⟨u,hu⟩ hk => by
   rw [Hp.cP hk]
   cases hh : (σ.new σ') k with
   | none => rfl
   | some v => rw [(AV.1 hh).1] at hu; cases hu
 have ne : ∀ k,σ k ≠ none → ∃ u,σ k = some u := fun k hk => by
   cases hh : σ k with
   | none => exact absurd hh hk
   | some u => exact ⟨u,rfl⟩
 refine ⟨τ.or (σ.new σ'),⟨h.len,h.map.mono hx,h.ord.mono hx,fun i r g hr hg => ?_,fun a ha => ⟨(h.om a ha).1,kn _ (ne _ (h.ord.block a ha)) (h.om a ha).2⟩,fun i r hr k hk => ?_,h.vb,h.dr,kn _ (ne _ h.map.known) h.tm,?_⟩,ht,?_⟩
 · obtain ⟨h1,h2,h3⟩ := h.box i r g hr hg
   exact ⟨hx _ _ h1,h2.mono Bt.mono ht,h3.mono hx⟩
 · obtain ⟨h1,h2,h3⟩ := h.dm i r hr k hk
   exact ⟨h1,h2,kn k (h.known hr k hk) h3⟩
 · exact Ext.oI (h.ext.trans hx) (Ext.Cq _ _)
 · refine Ext.cP fun k hk => ?_
   cases hh : τ k with
   | none => rfl
   | some u =>
     have h1 := h.ext _ _ hh
     cases h2 : (σ.new σ') k with
     | none => exact absurd h2 hk
     | some v => rw [(AV.1 h2).1] at h1; cases h1
theorem GS.push {i : Nat} {r : GR} {g : Rg} {v : Int} (h : GS τ σ m op on oc rs gs) (hr : rs[i]? = some r) (hg : gs[i]? = some g) (hb : r.vn ≤ 1000000000000) {Φ : Hp → Prop}
   (hΦ : ∀ σ' r',GS τ σ' m op on oc (rs.set i r') (gs.set i ⟨g.ls,g.vs ++ [v]⟩) → Φ σ') :
   Al σ fun b69 => AK prog (Builtin.append_ #[187,187] 187 #[.slice r.vp r.vn r.vc,(.slice (aD b69 0) 1 1)]) (Hp.set σ b69 (.cells #[.int .u64 v] 48 (0,0))) (CS fun p70 n70 c70 y => AK prog (Instr.storeAt 187 (.pointer (aD r.b 1)) (.slice p70 n70 c70)) y (fun _ AF => Φ AF)) := fun b69 ANl => by
 obtain ⟨h1,h2,h3⟩ := h.box i r g hr hg
 have xO := (List.getElem?_eq_some_iff.1 hr).1
 have hig := (List.getElem?_eq_some_iff.1 hg).1
 have x1 := Ext.set (o := .cells #[.int .u64 v] 48 (0,0)) ANl
 refine DP (A8.mono x1 h3) (We (f := .int .u64) (x := v) (Hp.AB _ _ _)) GX.Qv (by omega) fun vp' vc' σ2 Ba A5 => ⟨_,_,_,rfl,?_⟩
 have hvb := h.vb i r hr
 have UD : ∀ k u,σ k = some u → (∀ a,r.vp = some a → k ≠ a.block) → σ2 k = some u ∧ ∀ a,vp' = some a → k ≠ a.block := fun k u hk A6 => by
   obtain ⟨a1,a2⟩ := AR.1 (A5 k u (AR.2 ⟨A6,x1 _ _ hk⟩))
   exact ⟨a2,a1⟩
 obtain ⟨c1,c2⟩ := UD r.b _ h1 fun a ha e => hvb a ha e.symm
 refine AK.store uF c1 rfl (by simp) (by simp [Value.cells,Value.oneCell']) ?_
 let r' : GR := ⟨r.b,r.lp,r.ln,r.lc,vp',r.vn + 1,vc'⟩
 have Ub : (Obj.cells (NQ #[.slice r.lp r.ln r.lc,.slice r.vp r.vn r.vc] 1 (Value.slice vp' (r.vn + 1) vc').cells.toList) 189 (0,0)) = r'.cell := by simp [NQ,Value.cells,GR.cell,r']
 rw [Ub]
 have T : ∀ k u,σ k = some u → k ∉ r.cl → (σ2.set r.b r'.cell) k = some u ∧ k ∉ r'.cl := fun k u hk jh => by
   have Oc : k ≠ r.b := fun e => jh (JV.2 (.inl e))
   obtain ⟨a1,a2⟩ := UD k u hk fun a ha e => jh (JV.2 (.inr ⟨a,ha,e⟩))
   exact ⟨by rw [Hp.AJ Oc]; exact a1,fun hc => by
     rcases JV.1 hc with e | ⟨a,ha,e⟩
     · exact Oc e
     · exact a2 a ha e⟩
 have TK : ∀ k,(∃ u,σ k = some u) → k ∉ r.cl → (σ2.set r.b r'.cell) k = σ k ∧ k ∉ r'.cl := fun k ⟨u,hu⟩ jh => ⟨by rw [(T k u hu jh).1,hu],(T k u hu jh).2⟩
 have ne : ∀ k,σ k ≠ none → ∃ u,σ k = some u := fun k hk => by
   cases hh : σ k with
   | none => exact absurd hh hk
   | some u => exact ⟨u,rfl⟩
 have mk := TK m (ne _ h.map.known) fun hc => (h.dm i r hr m hc).1 rfl
 have ok : ∀ a,op = some a → (σ2.set r.b r'.cell) a.block = σ a.block ∧ a.block ∉ r'.cl := fun a ha => TK _ (ne _ (h.ord.block a ha)) fun hc => (h.dm i r hr _ hc).2.1 a ha rfl
 have jk : ∀ j s,j ≠ i → rs[j]? = some s → ∀ k ∈ s.cl,(σ2.set r.b r'.cell) k = σ k ∧ k ∉ r'.cl := fun j s hj hs k hk => TK k (h.known hs k hk) (h.dr j i s r hj hs hr k hk)
 have jJ : ∀ j s,(rs.set i r')[j]? = some s → (j = i ∧ s = r') ∨ (j ≠ i ∧ rs[j]? = some s) := fun j s hs => by
   by_cases hj : j = i
   · subst hj
     rw [List.getElem?_set_self xO] at hs
     exact .inl ⟨rfl,by simpa using hs.symm⟩
   · rw [List.getElem?_set_ne (Ne.symm hj)] at hs
     exact .inr ⟨hj,hs⟩
 refine hΦ _ r' ⟨by simp [h.len],?_,?_,fun j s t hs ht => ?_,fun a ha => h.om a ha,fun j s hs k hk => ?_,fun j s hs a ha => ?_,fun j l s s' hjl hs Om k hk => ?_,h.tm,fun k u hk => ?_⟩
 · rw [VU (g' := ⟨g.ls,g.vs ++ [v]⟩) (r' := r') hg hr rfl rfl]; exact h.map.loc mk.1
 · have : (rs.set i r').map (fun r => Value.pointer (aD r.b 0)) = rs.map fun r => Value.pointer (aD r.b 0) := by
     rw [List.map_set]
     obtain ⟨_,e⟩ := List.getElem?_eq_some_iff.1 hr
     have : Value.pointer (aD r'.b 0) = (rs.map fun r => Value.pointer (aD r.b 0))[i]'(by simpa using xO) := by simp [e,r']
     rw [this,List.set_getElem_self]
   rw [this]; exact A8.of_eq h.ord fun a ha => (ok a ha).1
 · rcases jJ j s hs with ⟨rfl,rfl⟩ | ⟨hj,Om⟩
   · rw [List.getElem?_set_self hig] at ht
     cases ht
     refine ⟨Hp.AB _ _ _,h2,?_⟩
     have := A8.AJ (b := r.b) (o := r'.cell) Ba (fun a ha e => c2 a ha e.symm)
     unfold D2
     rw [List.map_append]; exact this
   · rw [List.getElem?_set_ne (Ne.symm hj)] at ht
     obtain ⟨a1,a2,a3⟩ := h.box j s t Om ht
     refine ⟨?_,a2,A8.of_eq a3 fun a ha => (jk j s hj Om _ (JV.2 (.inr ⟨a,ha,rfl⟩))).1⟩
     rw [(jk j s hj Om _ (JV.2 (.inl rfl))).1]; exact a1
 · rcases jJ j s hs with ⟨rfl,rfl⟩ | ⟨hj,Om⟩
   · refine ⟨fun e => mk.2 (e ▸ hk),fun a ha e => (ok a ha).2 (e ▸ hk),?_⟩
     cases hq : τ k with
     | none => rfl
     | some u => exact absurd hk (T k u (h.ext _ _ hq) fun hc => by rw [(h.dm j r hr k hc).2.2] at hq; cases hq).2
   · exact h.dm j s Om k hk
 · rcases jJ j s hs with ⟨rfl,rfl⟩ | ⟨hj,Om⟩
   · exact fun e => c2 a ha e.symm
   · exact h.vb j s Om a ha
 · rcases jJ j s hs with ⟨rfl,rfl⟩ | ⟨hj,JK⟩
   · rcases jJ l s' Om with ⟨rfl,rfl⟩ | ⟨hl,hs2⟩
     · exact absurd rfl hjl
     · exact fun hc => (jk l s' hl hs2 k hc).2 hk
   · rcases jJ l s' Om with ⟨rfl,rfl⟩ | ⟨hl,hs2⟩
     · exact (jk j s hj JK k hk).2
     · exact h.dr j l s s' hjl JK hs2 k hk
 · exact (T k u (h.ext _ _ hk) fun hc => by rw [(h.dm i r hr k hc).2.2] at hk; cases hk).1
end
end TwW
end
section
namespace TwW
open Go Tw Go.RowKit Go.Proofs.Tryz
theorem uH : ∀ w,(zeroValue 200).run prog w = .ok (.pointer none) w := fun w => by
 have h : prog.info? 200 = some t200 := by kernel_rfl
 simp [zeroValue,typeInfo,h]
 rfl
theorem uI : ∀ w,(zeroValue 201).run prog w = .ok .nilFunc w := fun w => by
 have h : prog.info? 201 = some t201 := by kernel_rfl
 simp [zeroValue,typeInfo,h]
 rfl
section
variable {τ σ σ' σ0 : Hp} {R : Rr} {m on oc : Nat} {op : Option Addr} {rs : List GR} {gs : List Rg}
theorem GS.mono (h : GS τ σ m op on oc rs gs) (hx : Ext σ σ') : GS τ σ' m op on oc rs gs :=
 ⟨h.len,h.map.mono hx,h.ord.mono hx,fun i r g hr hg => let ⟨h1,h2,h3⟩ := h.box i r g hr hg; ⟨hx _ _ h1,h2,h3.mono hx⟩,h.om,h.dm,h.vb,h.dr,h.tm,h.ext.trans hx⟩
theorem GS.add {ls : List Lb} {lp : Option Addr} {ln lc : Nat} (h : GS τ σ m op on oc rs gs) (EB : ∀ a ∈ FK gs rs,a.1 ≠ Gb ls) (hr : EK τ lp ln ls) (ji : An ls) (hon : on ≤ 1000000000000) {Φ : Nat → Option Addr → Nat → Nat → Hp → Prop}
   (hΦ : ∀ b uJ oc' σ',GS τ σ' m uJ (on + 1) oc' (rs ++ [⟨b,lp,ln,lc,none,0,0⟩]) (gs ++ [⟨ls,[]⟩]) → Φ b uJ (on + 1) oc' σ') :
   Al σ fun O8 => Spec prog 49 #[.slice lp ln lc] (Hp.set σ O8 (.cells #[.slice lp ln lc,.slice none 0 0] 189 (0,0))) (AA R (CT fun s56 AH => AK prog (Instr.mapUpdate 197 (.map (some m)) (.string s56) (.pointer (aD O8 0))) AH (fun _ Ab => Al Ab fun tP => AK prog (Builtin.append_ #[198,198] 198 #[.slice op on oc,(.slice (aD tP 0) 1 1)]) (Hp.set Ab tP (.cells #[(.pointer (aD O8 0))] 200 (0,0))) (CS fun p61 n61 c61 C4 => Φ O8 p61 n61 c61 C4)))) := fun O8 pP => by
 have x1 := Ext.set (o := .cells #[.slice lp ln lc,.slice none 0 0] 189 (0,0)) pP
 have tb : τ O8 = none := BD h.ext pP
 have ne : ∀ k,σ k ≠ none → ∃ u,σ k = some u := fun k hk => by
   cases hh : σ k with
   | none => exact absurd hh hk
   | some u => exact ⟨u,rfl⟩
 have nem : O8 ≠ m := fun e => h.map.known (by rw [← e]; exact pP)
 have neo : ∀ a,op = some a → O8 ≠ a.block := fun a ha e => h.ord.block a ha (by rw [← e]; exact pP)
 have ncl : ∀ (i : Nat) (r : GR),rs[i]? = some r → O8 ∉ r.cl := fun i r hr hc => by obtain ⟨u,hu⟩ := h.known hr _ hc; rw [pP] at hu; cases hu
 refine FZ (hr.mono Bt.mono (h.ext.trans x1)) ji fun σ2 A5 => ⟨_,rfl,?_⟩
 have h2 := h.mono (x1.trans A5)
 have c2 := A5 _ _ (Hp.AB σ O8 (.cells #[.slice lp ln lc,.slice none 0 0] 189 (0,0)))
 refine h2.map.put (x := O8) rfl fun o hM => fun tP AH1 => ?_
 rw [PN EB] at hM
 have ANn : A8 1 (σ2.set m o) op on oc (rs.map fun r => .pointer (aD r.b 0)) := A8.of_eq h2.ord fun a ha => Hp.AJ (h.om a ha).1
 refine DP (ANn.mono (.set AH1)) (We (f := fun v => v) (x := .pointer (aD O8 0)) (Hp.AB _ _ _)) (fun u hu => by simp at hu; subst hu; rfl) (by omega) fun uJ oc' σ5 RB UT => ⟨_,_,_,rfl,?_⟩
 have T : ∀ k u,(σ2.set m o) k = some u → (∀ a,op = some a → k ≠ a.block) → σ5 k = some u ∧ ∀ a,uJ = some a → k ≠ a.block := fun k u hk A6 => by
   obtain ⟨a1,a2⟩ := AR.1 (UT k u (AR.2 ⟨A6,(Ext.set AH1) _ _ hk⟩))
   exact ⟨a2,a1⟩
 have T2 : ∀ k u,σ2 k = some u → k ≠ m → (∀ a,op = some a → k ≠ a.block) → σ5 k = some u ∧ ∀ a,uJ = some a → k ≠ a.block := fun k u hk fT => T k u (by rw [Hp.AJ fT]; exact hk)
 have Tr : ∀ (i : Nat) (r : GR),rs[i]? = some r → ∀ k ∈ r.cl,σ5 k = σ2 k ∧ ∀ a,uJ = some a → k ≠ a.block := fun i r hr k hk => by
   obtain ⟨u,hu⟩ := h2.known hr k hk
   obtain ⟨d1,d2,_⟩ := h.dm i r hr k hk
   obtain ⟨a1,a2⟩ := T2 k u hu d1 d2
   exact ⟨by rw [a1,hu],a2⟩
 have hm2 : ∃ u,(σ2.set m o) m = some u := ⟨_,Hp.AB _ _ _⟩
 obtain ⟨um,hum⟩ := hm2
 obtain ⟨m1,m2⟩ := T m um hum fun a ha e => (h.om a ha).1 e.symm
 have jJ : ∀ (i : Nat) (r : GR),(rs ++ [(⟨O8,lp,ln,lc,none,0,0⟩ : GR)])[i]? = some r → rs[i]? = some r ∨ (i = rs.length ∧ r = ⟨O8,lp,ln,lc,none,0,0⟩) := fun i r hr => by
   rw [List.getElem?_append] at hr
   split at hr
   · exact .inl hr
   · rename_i Ap
     have uK := (List.getElem?_eq_some_iff.1 hr).1
     simp only [List.length_singleton] at uK
     have : i - rs.length = 0 := by omega
     rw [this] at hr
     exact .inr ⟨by omega,by simpa using hr.symm⟩
 have cn : ∀ k,k ∈ (⟨O8,lp,ln,lc,none,0,0⟩ : GR).cl → k = O8 := fun k hk => by
   rcases JV.1 hk with e | ⟨a,ha,_⟩
   · exact e
   · cases ha
 obtain ⟨b1,b2⟩ := T2 O8 _ c2 nem neo
 refine hΦ O8 uJ oc' σ5 ⟨by simp [h.len],?_,?_,fun i r g hi hg => ?_,fun a ha => ⟨fun e => m2 a ha e.symm,?_⟩,fun i r hi k hk => ?_,fun i r hi a ha => ?_,fun i j r r' eB hi hj k hk => ?_,h.tm,fun k u hk => ?_⟩
 · rw [VV h.len]
   exact hM.loc (by rw [m1,hum])
 · rw [List.map_append]; exact RB
 · rcases jJ i r hi with Bk | ⟨rfl,rfl⟩
   · have Ap := (List.getElem?_eq_some_iff.1 Bk).1
     rw [List.getElem?_append_left (by rw [← h.len]; exact Ap)] at hg
     obtain ⟨a1,a2,a3⟩ := h2.box i r g Bk hg
     refine ⟨?_,a2,A8.of_eq a3 fun a ha => (Tr i r Bk _ (JV.2 (.inr ⟨a,ha,rfl⟩))).1⟩
     rw [(Tr i r Bk _ (JV.2 (.inl rfl))).1]; exact a1
   · rw [h.len,List.getElem?_append_right (Nat.le_refl _),Nat.sub_self] at hg
     simp only [List.getElem?_cons_zero,Option.some.injEq] at hg
     subst hg
     exact ⟨b1,hr,D2.nil⟩
 · cases hq : τ a.block with
   | none => rfl
   | some u =>
     obtain ⟨_,e2⟩ := T2 a.block u (h2.ext _ _ hq) (fun e => by rw [e,h.tm] at hq; cases hq) (fun a' aU e => by rw [e,(h.om a' aU).2] at hq; cases hq)
     exact absurd rfl (e2 a ha)
 · rcases jJ i r hi with Bk | ⟨rfl,rfl⟩
   · exact ⟨(h.dm i r Bk k hk).1,(Tr i r Bk k hk).2,(h.dm i r Bk k hk).2.2⟩
   · rw [cn k hk]; exact ⟨nem,b2,tb⟩
 · rcases jJ i r hi with Bk | ⟨rfl,rfl⟩
   · exact h.vb i r Bk a ha
   · cases ha
 · rcases jJ i r hi with Bk | ⟨rfl,rfl⟩
   · rcases jJ j r' hj with RQ | ⟨rfl,rfl⟩
     · exact h.dr i j r r' eB Bk RQ k hk
     · exact fun hc => ncl i r Bk (by rw [← cn k hc]; exact hk)
   · rcases jJ j r' hj with RQ | ⟨rfl,rfl⟩
     · exact fun hc => ncl j r' RQ (by rw [← cn k hk]; exact hc)
     · exact absurd rfl eB
 · exact (T2 k u (h2.ext _ _ hk) (fun e => by rw [e,h.tm] at hk; cases hk) (fun a ha e => by rw [e,(h.om a ha).2] at hk; cases hk)).1
end
end TwW
end
section
namespace TwW
open Go Tw Go.RowKit Go.Proofs.Tryz
def PG (B : Nat) (gs : List Rg) : Prop := ∀ g ∈ gs,0 < g.vs.length ∧ g.vs.length ≤ B ∧ An g.ls
theorem fj {B : Nat} {ls : List Lb} {v : Int} (hs : An ls) : ∀ {gs : List Rg},PG B gs → PG (B + 1) (Gc ls v gs)
 | [],_ => fun g hg => by
   unfold Gc at hg
   rw [List.mem_singleton] at hg
   subst hg
   exact ⟨by simp,by simp,hs⟩
 | a :: gs,h => fun g hg => by
   have ha := h a (by simp)
   unfold Gc at hg
   split at hg
   · rcases List.mem_cons.1 hg with rfl | hg
     · exact ⟨by simp,by simp; omega,ha.2.2⟩
     · have := h g (List.mem_cons_of_mem _ hg)
       exact ⟨this.1,by omega,this.2.2⟩
   · rcases List.mem_cons.1 hg with rfl | hg
     · exact ⟨ha.1,by omega,ha.2.2⟩
     · exact fj hs (fun g hg => h g (List.mem_cons_of_mem _ hg)) g hg
theorem Zd {ls : List Lb} {v : Int} : ∀ {gs : List Rg},(Gc ls v gs).length ≤ gs.length + 1
 | [] => by simp [Gc]
 | a :: gs => by
   unfold Gc
   split
   · simp
   · have := Zd (ls := ls) (v := v) (gs := gs)
     simp only [List.length_cons]; omega
def Wv (n : Nd) (l : List El) : List Rg := l.foldl (fun gs x => Gc (DK n x.ls) x.v gs) []
theorem An.group {n : Nd} {ls : List Lb} (h : An ls) : An (DK n ls) := by
 unfold DK ZD BI ZE
 split
 · exact h.filter _
 · split
   · exact (h.filter _).filter _
   · exact ⟨by decide,fun x hx => by cases hx⟩
theorem pQ {n : Nd} {l : List El} (hs : ∀ e ∈ l,An e.ls) : ∀ k,k ≤ l.length → PG k (Wv n (l.take k)) ∧ (Wv n (l.take k)).length ≤ k := fun k => by
 induction k with
 | zero => intro _; exact ⟨fun g hg => by simp [Wv] at hg,by simp [Wv]⟩
 | succ k ih =>
   intro hk
   obtain ⟨h1,h2⟩ := ih (by omega)
   have hx : l[k]? = some l[k] := List.getElem?_eq_getElem _
   have e : Wv n (l.take (k + 1)) = Gc (DK n l[k].ls) l[k].v (Wv n (l.take k)) := by unfold Wv; rw [AY hx,List.foldl_append]; rfl
   rw [e]
   exact ⟨fj (hs _ (List.getElem_mem _)).group h1,by have := Zd (ls := DK n l[k].ls) (v := l[k].v) (gs := Wv n (l.take k)); omega⟩
section
variable {τ σ σ' σ0 : Hp} {R : Rr}
theorem GS.empty {mb : Nat} (h : σ mb = none) : GS σ (σ.set mb (.map #[] 0)) mb none 0 0 [] [] :=
 ⟨rfl,MS.fresh,A8.nil,fun i r g hi => (by simp at hi),fun a ha => (by cases ha),fun i r hi => (by simp at hi),fun i r hi => (by simp at hi),fun i j r r' _ hi => (by simp at hi),h,.set h⟩
theorem jK {op : Int} {f : Nat} {p : Option Addr} {n c : Nat} {vs : List Int} {q9 : Value} (JZ : (op = 1 ∧ q9 = .func (.func 151) #[] #[]) ∨ (op = 2 ∧ q9 = .func (.func 152) #[] #[]) ∨ (op = 3 ∧ q9 = .func (.func 153) #[] #[]) ∨ (op = 4 ∧ q9 = .func (.func 154) #[] #[]) ∨ (op = 5 ∧ q9 = .func (.func 155) #[] #[]))
   (hr : FH .u64 σ p n vs) (h0 : 0 < n) (hc : n ≤ c) (h : R (.returned (.int .u64 (foldI op vs))) σ) : ∃ (f95 : Nat) (Y8 Y9 : Array Value),q9 = .func (.func f95) Y8 Y9 ∧ Enters prog f95 ∧ Spec prog f95 (Y8 ++ #[.slice p n c] ++ Y9) σ R := by
 have hl : vs.length = n := hr.1
 unfold foldI at h
 rcases JZ with ⟨rfl,rfl⟩ | ⟨rfl,rfl⟩ | ⟨rfl,rfl⟩ | ⟨rfl,rfl⟩ | ⟨rfl,rfl⟩
 · exact ⟨_,#[],#[],rfl,Fy.en,TP hr h0 hc h⟩
 · exact ⟨_,#[],#[],rfl,G9.en,TQ hr h0 hc h⟩
 · exact ⟨_,#[],#[],rfl,D4.en,Ml hr h0 hc h⟩
 · exact ⟨_,#[],#[],rfl,Eu.en,OE hr h0 hc (by rw [← hl]; exact h)⟩
 · exact ⟨_,#[],#[],rfl,G2.en,NC (by rw [← hl]; exact h)⟩
theorem pR {n : Nd} {p q a l : Option Addr} {k c m d j e : Nat} {L : List Vv} {x : Vv} (hs : E9 1 σ q m (n.names.map .string)) (hr : Ae 4 M9 σ l j L) (hx : L[0]? = some x) (hV : jF x) (JZ : 1 ≤ n.op ∧ n.op ≤ 5)
   (h : Ii R σ ((BY FF (Qj FF n x)).map fun l => ⟨2,0,l,[]⟩)) : Spec prog 104 #[.pointer a,MU n p k c q m d,.slice l j e] σ R := by
 have hj : 0 < j := by have h1 : L.length = j := hr.1; have := (List.getElem?_eq_some_iff.1 hx).1; omega
 obtain ⟨b,o,pv,nv,cv,qv,mv,dv,rfl,h1,h2,h3,h4,h5,h6⟩ := M9.at hr hx
 simp only [Nat.zero_mul,Nat.add_zero] at h1 h2 h3 h4
 have hl : x.vec.length = nv := h5.1
 have hlen := hV.len
 have ji := fun z hz => (hV.el z hz).1
 have C8 := pQ (n := n) ji
 have hA : Qj FF n x = (Wv n x.vec).map fun g => ⟨g.ls,foldI n.op g.vs⟩ := rfl
 rw [hA] at h
 refine AO.start fun _ _ => EU fun mb ot => ⟨mb,rfl,b,o,rfl,by omega,pv,nv,cv,(Ext.set ot).ld h3,?_⟩
 have last : ∀ τ σ' op on oc rs,GS τ σ' mb op on oc rs (Wv n x.vec) → Ext σ τ → AO.FG R n.kind n.op n.text p k c n.width n.back n.Ea q m d n.bool n.parts 0 0 none 0 0 none 0 0 (some mb) op on oc pv nv cv nv nv σ' := fun τ σ' op on oc rs hG CH => by
   obtain ⟨hPG,hgl⟩ := C8 nv (by omega)
   rw [List.take_of_length_le (by omega)] at hPG hgl
   refine AO.Ff ⟨fun Ap => by omega,fun _ => EU fun mf hmf => ⟨mf,rfl,?_⟩⟩
   refine (oh.fresh hmf).put (by simp) fun s1 t1 => t1.put (by simp) fun s2 t2 => t2.put (by simp) fun s3 t3 => t3.put (by simp) fun s4 t4 => t4.put (by simp) fun s5 t5 => ?_
   have xX := hG.mono t5.1
   have hml := t5.2.2
   simp only [List.nil_append,List.cons_append] at hml
   refine hml.look uI (fun EB => ?_) fun v hv => ⟨v,rfl,?_⟩
   · exfalso
     simp only [List.mem_cons,List.not_mem_nil,or_false,forall_eq_or_imp,forall_eq] at EB
     obtain ⟨a1,a2,a3,a4,a5⟩ := EB
     omega
   have hv' : (n.op = 1 ∧ v = .func (.func 151) #[] #[]) ∨ (n.op = 2 ∧ v = .func (.func 152) #[] #[]) ∨ (n.op = 3 ∧ v = .func (.func 153) #[] #[]) ∨ (n.op = 4 ∧ v = .func (.func 154) #[] #[]) ∨ (n.op = 5 ∧ v = .func (.func 155) #[] #[]) := by
     simpa only [List.mem_cons,List.not_mem_nil,or_false,Prod.mk.injEq] using hv
   replace h := h.jA (CH.trans xX.ext)
   have hon : rs.length = on := by have := xX.ord.1; simpa using this
   have hgn := xX.len
   generalize Wv n x.vec = gs at *
   clear hml t1 t2 t3 t4 t5 hv hG
   suffices H : ∀ g i : Nat,∀ p8 n8 c8 σ2 oq,(0 < on → oq = op) → on - i = g → i ≤ on → AW 2 CD s5 σ2 p8 n8 c8 ((gs.take i).map fun g => ⟨g.ls,foldI n.op g.vs⟩) → AO.tQ R 0 0 none 0 0 none 0 0 v p8 n8 c8 oq on oc on i σ2 from H on 0 none 0 0 s5 op (fun _ => rfl) rfl (Nat.zero_le _) (AW.nil (.refl _))
   intro g
   induction g with
   | zero =>
     intro i p8 n8 c8 σ2 oq hoq hg hi ho
     rw [List.take_of_length_le (by omega)] at ho
     have QI := ho.1.1
     rw [List.length_map] at QI
     exact AO.fO ⟨fun Ap => by omega,fun _ => EV ho (by omega) h.UY⟩
   | succ g ih =>
     intro i p8 n8 c8 σ2 oq hoq hg hi ho
     have Bk : i < on := by omega
     obtain ⟨r,hri⟩ : ∃ r,rs[i]? = some r := ⟨_,List.getElem?_eq_getElem (by omega)⟩
     obtain ⟨y,hy⟩ : ∃ y,gs[i]? = some y := ⟨_,List.getElem?_eq_getElem (by omega)⟩
     obtain ⟨b1,o1,AH2,QO⟩ := E9.at1 xX.ord.rd (k := i) (v := .pointer (aD r.b 0)) (by rw [List.getElem?_map,hri]; rfl)
     obtain ⟨c1,c2,c3⟩ := xX.box i r y hri hy
     have hP := hPG y (List.mem_of_getElem? hy)
     have hvl : y.vs.length = r.vn := by have := c3.1; simpa using this
     have QI := ho.1.1
     rw [List.length_map,List.length_take] at QI
     rw [hoq (by omega),AH2]
     refine AO.fO ⟨fun _ => ⟨b1,o1,rfl,by omega,aD r.b 0,by simpa using ho.up.ld QO,r.b,0,rfl,r.lp,r.ln,r.lc,Af (ho.up _ _ c1) rfl,r.vp,r.vn,r.vc,Af (ho.up _ _ c1) rfl,jK (f := 0) hv' (FH.mono ho.up (D2.rd c3)) (by omega) (A8.cap c3) ⟨_,rfl,Kp.Ho (.refl _),fun b97 ANo => ?_⟩⟩,fun hh => by omega⟩
     refine AW.el ho ((c2.mono Bt.mono xX.ext).mono Bt.mono ho.2) (by omega) (fun p9 c9 σ3 EC _ => ⟨_,_,_,rfl,by unfold AI; omega,ih (i + 1) _ _ _ _ _ (fun _ => AH2.symm) (by omega) (by omega) ?_⟩) ANo
     rw [AY hy,List.map_append]; exact EC
 suffices H : ∀ g i : Nat,∀ τ σ' op on oc rs,nv - i = g → i ≤ nv → GS τ σ' mb op on oc rs (Wv n (x.vec.take i)) → Ext σ τ → AO.FG R n.kind n.op n.text p k c n.width n.back n.Ea q m d n.bool n.parts 0 0 none 0 0 none 0 0 (some mb) op on oc pv nv cv nv i σ' from
   H nv 0 σ _ none 0 0 [] rfl (Nat.zero_le _) (GS.empty ot) (.refl _)
 intro g
 induction g with
 | zero =>
   intro i τ σ' op on oc rs hg hi hG CH
   have RN : i = nv := by omega
   subst RN
   rw [List.take_of_length_le (by omega)] at hG
   exact last τ σ' op on oc rs hG CH
 | succ g ih =>
   intro i τ σ' op on oc rs hg hi hG CH
   have Bk : i < nv := by omega
   obtain ⟨y,hy⟩ := h5.ex Bk
   obtain ⟨b1,o1,q1,m1,d1,rfl,QO,F7⟩ := CD.at h5 hy
   have JK := ji y (List.mem_of_getElem? hy)
   have hX := CH.trans hG.ext
   obtain ⟨hPG,hgl⟩ := C8 i (by omega)
   have aV := hG.len
   have eN : Wv n (x.vec.take (i + 1)) = Gc (DK n y.ls) y.v (Wv n (x.vec.take i)) := by unfold Wv; rw [AY hy,List.foldl_append]; rfl
   have AH3 : ∀ τ4 σ4 op4 on4 oc4 rs4 gs4 (i4 : Nat) (r : GR) (t : Rg),GS τ4 σ4 mb op4 on4 oc4 rs4 gs4 → rs4[i4]? = some r → gs4[i4]? = some t → gs4.set i4 ⟨t.ls,t.vs ++ [y.v]⟩ = Wv n (x.vec.take (i + 1)) → t.vs.length ≤ i → Ext σ τ4 → AO.nT R n.kind n.op n.text p k c n.width n.back n.Ea q m d n.bool n.parts 0 0 none 0 0 none 0 0 (some mb) op4 on4 oc4 q1 m1 d1 y.v (aD r.b 0) (aD b1 o1) nv cv nv i σ4 := fun τ4 σ4 op4 on4 oc4 rs4 gs4 i4 r t hG4 hr4 ht4 he hti NT => by
     obtain ⟨c1,c2,c3⟩ := hG4.box i4 r t hr4 ht4
     have hvl : t.vs.length = r.vn := by have := c3.1; simpa using this
     refine AO.tR ⟨r.b,0,rfl,r.vp,r.vn,r.vc,Af c1 rfl,GS.push (v := y.v) hG4 hr4 ht4 (by omega) (Φ := fun y2 => AI ((i : Int) + 1) ∧ AO.FG R n.kind n.op n.text p k c n.width n.back n.Ea q m d n.bool n.parts 0 0 none 0 0 none 0 0 (some mb) op4 on4 oc4 (aD b1 o1) nv cv nv ((i : Int) + 1) y2) fun σ5 r' xX => ⟨AL Bk h5.big,ih (i + 1) τ4 σ5 op4 on4 oc4 (rs4.set i4 r') (by omega) (by omega) ?_ NT⟩⟩
     rw [← he]; exact xX
   have AA3 : ∀ τ2 σ2 p' n' c',GS τ2 σ2 mb op on oc rs (Wv n (x.vec.take i)) → Ext σ τ2 → EK τ2 p' n' (DK n y.ls) → AO.J4 R n.kind n.op n.text p k c n.width n.back n.Ea q m d n.bool n.parts 0 0 none 0 0 none 0 0 (some mb) op on oc q1 m1 d1 y.v p' n' c' (aD b1 o1) nv cv nv i σ2 := fun τ2 σ2 p' n' c' hG2 A5 HL => by
     refine AO.Ls (FZ (HL.mono Bt.mono hG2.ext) JK.group fun σ3 C2 => ⟨_,rfl,?_⟩)
     have hG3 := hG2.mono C2
     have hon : rs.length = on := by have := hG3.ord.1; simpa using this
     refine hG3.map.look uH (fun GU => ⟨none,rfl,fun _ => ?_,fun hh => (by cases hh)⟩) fun v bb AH7 hv => ⟨aD bb 0,hv,fun hh => (by cases hh),fun _ => ?_⟩
     · obtain ⟨e1,e2⟩ := Tl (v := y.v) hG3.len GU
       refine GS.add hG3 e2 HL JK.group (by omega) (Φ := fun O8 p61 n61 c61 C4 => AO.nT R n.kind n.op n.text p k c n.width n.back n.Ea q m d n.bool n.parts 0 0 none 0 0 none 0 0 (some mb) p61 n61 c61 q1 m1 d1 y.v (aD O8 0) (aD b1 o1) nv cv nv i C4) fun bb uJ oc' σ4 hG4 => ?_
       refine AH3 τ2 σ4 uJ (on + 1) oc' _ _ (Wv n (x.vec.take i)).length ⟨bb,p',n',c',none,0,0⟩ ⟨DK n y.ls,[]⟩ hG4 ?_ ?_ ?_ (Nat.zero_le _) A5
       · rw [← aV,List.getElem?_append_right (Nat.le_refl _),Nat.sub_self]; rfl
       · rw [List.getElem?_append_right (Nat.le_refl _),Nat.sub_self]; rfl
       · rw [eN,e1,List.set_append_right _ _ (Nat.le_refl _),Nat.sub_self]; rfl
     · obtain ⟨i4,t,r,a1,a2,a3,a4⟩ := Tk (v := y.v) hG3.len AH7
       subst a3
       exact AH3 τ2 σ3 op on oc rs _ i4 r t hG3 a2 a1 (by rw [eN,a4]) (hPG t (List.mem_of_getElem? a1)).2.1 A5
   refine AO.Ff ⟨fun _ => ⟨b1,o1,rfl,by omega,q1,m1,d1,y.v,by simpa using QO.mono hX,fun _ => ⟨fun hg1 => VQ (F7.mono Bt.mono hX) (JK.rd F7) (hs.mono hX) fun p' n' c' σ2 HL A5 => ⟨_,_,_,rfl,?_⟩,fun hg1 => ⟨fun jC => ?_,fun jC => AA3 τ σ' none 0 0 hG CH ?_⟩⟩⟩,fun hh => by omega⟩
   · obtain ⟨τ2,hG2,e1,e2⟩ := hG.grow A5
     exact AA3 τ2 σ2 p' n' c' hG2 (CH.trans e1) (by unfold DK; rw [if_pos hg1]; exact HL.mono Bt.mono e2)
   · refine JN (F7.mono Bt.mono hX) (JK.rd F7) (hs.mono hX) fun p' n' c' σ2 Ba A5 => ⟨_,_,_,rfl,?_⟩
     have eY : n' ≤ 1000000 := by
       have h7 := Ba.1
       have h8 := List.length_filter_le (fun x : Lb => !C5 x.1 n.names) y.ls
       have h9 := JK.1
       omega
     refine Fa ((Ba.rd Bt.mono).mono Bt.mono (Ext.Cq _ _)) eY fun p3 n3 c3 σ3 dG C2 => ⟨_,_,_,rfl,?_⟩
     obtain ⟨τ2,hG2,e1,e2⟩ := hG.grow (A5.trans C2)
     exact AA3 τ2 σ3 p3 n3 c3 hG2 (CH.trans e1) (by unfold DK; rw [if_neg hg1,if_pos jC]; exact (dG.mono Bt.mono (Ext.Ci A5)).mono Bt.mono e2)
   · unfold DK; rw [if_neg hg1,if_neg jC]; exact Ae.nil
end
end TwW
end
section
namespace TwW
open Go Tw Go.RowKit Go.Proofs.Tryz
def OJ (e : El) : Prop := An e.ls ∧ 0 ≤ e.v
def Sh (x : Vv) : Prop := (x.kind = 1 ∧ x.vec = [] ∧ x.Ox = []) ∨ (x.kind = 2 ∧ x.Ox = []) ∨ (x.kind = 3 ∧ x.vec = [])
def EL (x : Vv) : Nat := x.vec.length + x.Ox.length
structure VG (x : Vv) : Prop where
 el : ∀ e ∈ x.vec,OJ e
 rg : ∀ r ∈ x.Ox,An r.ls ∧ 0 < r.vs.length
 sh : Sh x
theorem Ww (x : Int) : 0 ≤ cZ x := Int.natCast_nonneg _
theorem Lc (op a b : Int) : 0 ≤ RD op a b := Int.natCast_nonneg _
theorem Ze {f : Int → Int → Int} (hf : ∀ a b,0 ≤ f a b) : ∀ (l : List Int) (a : Int),0 ≤ a → 0 ≤ l.foldl f a
 | [],a,h => h
 | x :: l,a,h => Ze hf l _ (hf a x)
theorem fk : ∀ vs,0 ≤ UU vs
 | [] => Int.le_refl _
 | v :: l => Ze (fun a b => Lc 1 a b) l _ (Ww v)
theorem OK (op : Int) : ∀ vs,0 ≤ LV op vs
 | [] => Int.le_refl _
 | v :: l => Ww _
theorem pS (vs : List Int) : 0 ≤ LY vs := by
 unfold LY
 have : ∀ (l : List (Int × Int)) (a : Int),0 ≤ a → 0 ≤ l.foldl LX a := fun l => by
   induction l with
   | nil => intro a h; exact h
   | cons x l ih =>
     intro a h
     refine ih _ ?_
     unfold LX
     split
     · exact Lc _ _ _
     · exact h
 exact this _ _ (Lc _ _ _)
theorem PT (x : Int) : 0 ≤ BA x := Int.natCast_nonneg _
theorem pT (op : Int) (vs : List Int) : 0 ≤ foldI op vs := by
 unfold foldI
 split
 · exact fk _
 · split
   · exact OK _ _
   · split
     · exact OK _ _
     · split
       · exact Lc _ _ _
       · exact PT _
theorem pU {op : Int} {vs : List Int} {w x : Int} (h : Ij op vs w = some x) : 0 ≤ x := by
 unfold Ij at h
 split at h
 · rw [← Option.some.inj h]; exact fk _
 split at h
 · rw [← Option.some.inj h]; exact Lc _ _ _
 split at h
 · rw [← Option.some.inj h]; exact OK _ _
 split at h
 · rw [← Option.some.inj h]; exact OK _ _
 split at h
 · rw [← Option.some.inj h]; exact PT _
 split at h
 · rw [← Option.some.inj h]; exact Ww _
 split at h
 · rw [← Option.some.inj h]; exact Int.natCast_nonneg _
 split at h
 · exact absurd h.symm (Option.some_ne_none _)
 split at h
 · rw [← Option.some.inj h]; exact Lc _ _ _
 split at h
 · rw [← Option.some.inj h]; exact pS _
 · rw [← Option.some.inj h]; exact Lc _ _ _
theorem Tm (op a b : Int) : 0 ≤ (DL op a b).1 := by
 unfold DL
 split
 · exact Lc _ _ _
 · show 0 ≤ (if _ then BA 1 else BA 0)
   split <;> exact PT _
theorem MC {l m : List El} (h : BY FF l = some m) : m.Perm l := by
 unfold BY at h
 split at h
 · cases h; exact HG l
 · cases h
theorem fm {l m : List El} (h : BY FF l = some m) (hl : ∀ e ∈ l,OJ e) : (∀ e ∈ m,OJ e) ∧ m.length = l.length :=
 ⟨fun e he => hl e ((MC h).mem_iff.1 he),(MC h).length_eq⟩
theorem uL {n : Nd} {x : Vv} (hx : VG x) : (∀ e ∈ TL FF n x,OJ e) ∧ (TL FF n x).length ≤ EL x := by
 refine ⟨fun e he => ?_,?_⟩
 · rcases List.mem_append.1 he with he | he
   · obtain ⟨y,hy,rfl⟩ := List.mem_map.1 he
     refine ⟨(hx.el y hy).1.bare,?_⟩
     show 0 ≤ (if n.op = 11 then Wl y.v else NB y.v)
     split <;> exact Int.natCast_nonneg _
   · obtain ⟨y,hy,h1⟩ := List.mem_filterMap.1 he
     have h2 : (Ij n.op y.vs x.v).map (fun v => (⟨BI y.ls,v⟩ : El)) = some e := h1
     cases ho : Ij n.op y.vs x.v with
     | none => rw [ho] at h2; cases h2
     | some z =>
       rw [ho] at h2
       simp only [Option.map_some,Option.some.injEq] at h2
       subst h2
       exact ⟨(hx.rg y hy).1.bare,pU ho⟩
 · unfold TL EL
   rw [List.length_append,List.length_map]
   have := List.length_filterMap_le (fun s : Rg => (FF.over n.op s.vs x.v).map fun v => (⟨BI s.ls,v⟩ : El)) x.Ox
   omega
theorem AA4 {n : Nd} {x : Vv} (hx : VG x) : (∀ e ∈ Qj FF n x,OJ e) ∧ (Qj FF n x).length ≤ EL x := by
 obtain ⟨h1,h2⟩ := pQ (n := n) (fun e he => (hx.el e he).1) x.vec.length (Nat.le_refl _)
 rw [List.take_length] at h1 h2
 have hA : Qj FF n x = (Wv n x.vec).map fun g => ⟨g.ls,foldI n.op g.vs⟩ := rfl
 rw [hA]
 refine ⟨fun e he => ?_,by rw [List.length_map]; unfold EL; omega⟩
 obtain ⟨g,hg,rfl⟩ := List.mem_map.1 he
 exact ⟨(h1 g hg).2.2,pT _ _⟩
theorem pV {n : Nd} {l : List El} {f : Int → Int × Bool} (hl : ∀ e ∈ l,OJ e) (hf : ∀ v,0 ≤ (f v).1) : (∀ e ∈ Hy n l f,OJ e) ∧ (Hy n l f).length ≤ l.length := by
 refine ⟨fun e he => ?_,List.length_filterMap_le _ _⟩
 obtain ⟨y,hy,h1⟩ := List.mem_filterMap.1 he
 split at h1
 · simp only [Option.some.injEq] at h1
   subst h1
   exact ⟨(hl y hy).1.bare,hf _⟩
 · split at h1
   · simp only [Option.some.injEq] at h1
     subst h1; exact hl y hy
   · cases h1
theorem uM {n : Nd} {x y : List El} (hx : ∀ e ∈ x,OJ e) (hy : ∀ e ∈ y,OJ e) : (∀ e ∈ Mi n x y,OJ e) ∧ (Mi n x y).length ≤ x.length + y.length := by
 unfold Mi
 refine ⟨fun e he => ?_,?_⟩
 · rcases List.mem_append.1 he with he | he
   · exact hx e (List.mem_filter.1 he).1
   · exact hy e (List.mem_filter.1 he).1
 · rw [List.length_append]
   exact Nat.add_le_add (List.length_filter_le _ _) (List.length_filter_le _ _)
theorem uN {n : Nd} {x y m : List El} (hx : ∀ e ∈ x,OJ e) (h : N8 FF n x y = some m) : (∀ e ∈ m,OJ e) ∧ m.length ≤ x.length := by
 unfold N8 at h
 split at h
 · simp only [Option.some.injEq] at h
   subst h
   refine ⟨fun e he => ?_,List.length_filterMap_le _ _⟩
   obtain ⟨z,hz,h1⟩ := List.mem_filterMap.1 he
   split at h1
   · cases h1
   · split at h1
     · simp only [Option.some.injEq] at h1
       subst h1
       exact ⟨(hx z hz).1.NU,Tm _ _ _⟩
     · split at h1
       · simp only [Option.some.injEq] at h1
         subst h1; exact hx z hz
       · cases h1
 · cases h
theorem NH {l m : List El} (h : BY FF l = some m) (hl : ∀ e ∈ l,OJ e) : VG ⟨2,0,m,[]⟩ ∧ EL ⟨2,0,m,[]⟩ = l.length :=
 ⟨⟨(fm h hl).1,fun r hr => (by cases hr),.inr (.inl ⟨rfl,rfl⟩)⟩,by show m.length + 0 = _; rw [(fm h hl).2]; omega⟩
theorem map_some {α β : Type} {o : Option α} {f : α → β} {y : β} (h : o.map f = some y) : ∃ x,o = some x ∧ f x = y := by
 cases o with
 | none => cases h
 | some x => exact ⟨x,rfl,by simpa using h⟩
theorem fp {n : Nd} {ss : List Sr} {t : Int} {L : List Vv} {v : Vv} (hS : uA ss) (hp : ∀ s ∈ ss,∀ p ∈ s.ps,0 ≤ p.2) (hf : FJ n = true) (hT : (Ob n (L.map (·.kind))).2 = 0) (hL : (L.length : Int) = n.parts) (hV : ∀ x ∈ L,VG x) (h : CA FF ss t n L = some v) :
   VG v ∧ v.kind = (Ob n (L.map (·.kind))).1 ∧ EL v ≤ ss.length + (L.map EL).sum := by
 have C6 := Ih hf
 unfold CA at h
 by_cases h1 : n.kind = 1
 · rw [if_pos h1] at h; cases h
   exact ⟨⟨fun e he => (by cases he),fun r hr => (by cases hr),.inl ⟨rfl,rfl,rfl⟩⟩,by unfold Ob; rw [if_pos h1],Nat.zero_le _⟩
 rw [if_neg h1] at h
 by_cases h2 : n.kind = 2
 · rw [if_pos h2] at h; cases h
   refine ⟨⟨fun e he => ?_,fun r hr => (by cases hr),.inr (.inl ⟨rfl,rfl⟩)⟩,by unfold Ob; rw [if_neg h1,if_pos h2],?_⟩
   · obtain ⟨s,hs,XI⟩ := List.mem_filterMap.1 he
     split at XI
     · cases XI
     · rename_i p AH8
       split at XI
       · cases XI
       · simp only [Option.some.injEq] at XI
         subst XI
         exact ⟨hS.sm s hs,hp s hs p (List.mem_filter.1 (List.mem_of_getLast? AH8)).1⟩
   · show (List.filterMap _ ss).length + 0 ≤ _
     exact Nat.le_trans (Nat.le_of_eq (Nat.add_zero _)) (Nat.le_trans (List.length_filterMap_le _ _) (Nat.le_add_right _ _))
 rw [if_neg h2] at h
 by_cases h3 : n.kind = 3
 · rw [if_pos h3] at h; cases h
   refine ⟨⟨fun e he => (by cases he),fun r hr => ?_,.inr (.inr ⟨rfl,rfl⟩)⟩,by unfold Ob; rw [if_neg h1,if_neg h2,if_pos h3],?_⟩
   · obtain ⟨s,hs,XI⟩ := List.mem_filterMap.1 hr
     dsimp only at XI
     generalize ((F2 s.ps (t - n.back - n.width) (t - n.back)).filter fun p => decide (p.2 ≠ IZ)).map Prod.snd = vs at XI
     cases vs with
     | nil => cases XI
     | cons a l =>
       simp only [List.isEmpty_cons,Bool.not_false,Bool.true_and] at XI
       cases jx : FF.ZC n.mt s.ls with
       | false => rw [jx] at XI; cases XI
       | true =>
         rw [jx] at XI
         simp only [cond_true,Option.some.injEq] at XI
         subst XI
         exact ⟨hS.sm s hs,by simp⟩
   · show 0 + (List.filterMap _ ss).length ≤ _
     exact Nat.le_trans (Nat.le_of_eq (Nat.zero_add _)) (Nat.le_trans (List.length_filterMap_le _ _) (Nat.le_add_right _ _))
 rw [if_neg h3] at h
 unfold F6 at C6
 rw [if_neg h1,if_neg h2,if_neg h3] at C6
 by_cases h4 : n.kind = 4
 · rw [if_pos h4] at C6
   have dI := (of_decide_eq_true C6).1
   match L,hL with
   | [x],_ =>
     have hx := hV x (by simp)
     dsimp only at h
     rw [if_pos h4] at h
     obtain ⟨m,hm,rfl⟩ := map_some h
     obtain ⟨c1,c2⟩ := uL (n := n) hx
     obtain ⟨d1,d2⟩ := NH hm c1
     refine ⟨d1,?_,by rw [d2]; simp; omega⟩
     unfold Ob at hT ⊢
     rw [if_neg h1,if_neg h2,if_neg h3,if_pos h4] at hT ⊢
     unfold ZS at hT ⊢
     by_cases hc : ([x].map (·.kind))[0]?.getD 0 = (if n.op = 11 ∨ n.op = 12 then 2 else 3)
     · rw [if_pos hc]
     · rw [if_neg hc] at hT; exact absurd hT (by decide)
   | [],hL => simp at hL; omega
   | _ :: _ :: _,hL => simp at hL; omega
 rw [if_neg h4] at C6
 by_cases h5 : n.kind = 5
 · rw [if_pos h5] at C6
   have dI := (of_decide_eq_true C6).1
   match L,hL with
   | [x],_ =>
     have hx := hV x (by simp)
     dsimp only at h
     rw [if_neg h4,if_pos h5] at h
     obtain ⟨m,hm,rfl⟩ := map_some h
     obtain ⟨c1,c2⟩ := AA4 (n := n) hx
     obtain ⟨d1,d2⟩ := NH hm c1
     refine ⟨d1,?_,by rw [d2]; simp; omega⟩
     unfold Ob at hT ⊢
     rw [if_neg h1,if_neg h2,if_neg h3,if_neg h4,if_pos h5] at hT ⊢
     unfold fa at hT ⊢
     by_cases hc : ([x].map (·.kind))[0]?.getD 0 = 2
     · rw [if_pos hc]
     · rw [if_neg hc] at hT; exact absurd hT (by decide)
   | [],hL => simp at hL; omega
   | _ :: _ :: _,hL => simp at hL; omega
 rw [if_neg h5] at C6
 by_cases h6 : n.kind = 6
 · rw [if_pos h6,Bool.and_eq_true] at C6
   have dI := (of_decide_eq_true C6.1).1
   match L,hL with
   | [x,y],_ =>
     have hx := hV x (by simp)
     have hy := hV y (by simp)
     dsimp only at h
     rw [if_pos h6] at h
     have hTy : (Ob n ([x,y].map (·.kind))) = ij n x.kind y.kind := by unfold Ob; rw [if_neg h1,if_neg h2,if_neg h3,if_neg h4,if_neg h5,if_pos h6]; rfl
     rw [hTy] at hT ⊢
     unfold ij at hT ⊢
     split at hT
     · cases hT
     · rename_i EB
       rw [if_neg EB]
       simp only [not_or] at EB
       have sx := hx.sh
       have sy := hy.sh
       unfold ZG at h
       have hvx : EL x + EL y = ([x,y].map EL).sum := by simp
       rw [← hvx]
       split at h
       · rename_i hk
         cases h
         exact ⟨⟨fun e he => (by cases he),fun r hr => (by cases hr),.inl ⟨rfl,rfl,rfl⟩⟩,by simp [hk.1,hk.2],Nat.zero_le _⟩
       · rename_i hk
         obtain ⟨m,hm,rfl⟩ := map_some h
         have AH9 : (2 : Int) = (if x.kind < y.kind then y.kind else x.kind) := by
           unfold Sh at sx sy
           split <;> omega
         refine (fun hh : VG ⟨2,0,m,[]⟩ ∧ EL ⟨2,0,m,[]⟩ ≤ EL x + EL y => ⟨hh.1,AH9,by have := hh.2; omega⟩) ?_
         split at hm
         · obtain ⟨c1,c2⟩ := pV (n := n) (f := FF.N7 n.op x.v) hy.el (fun v => Tm _ _ _)
           obtain ⟨d1,d2⟩ := NH (show BY FF (Hy n y.vec (FF.N7 n.op x.v)) = some m from hm) c1
           exact ⟨d1,by rw [d2]; unfold EL; omega⟩
         · split at hm
           · obtain ⟨c1,c2⟩ := pV (n := n) (f := fun v => FF.N7 n.op v y.v) hx.el (fun v => Tm _ _ _)
             obtain ⟨d1,d2⟩ := NH (show BY FF (Hy n x.vec fun v => FF.N7 n.op v y.v) = some m from hm) c1
             exact ⟨d1,by rw [d2]; unfold EL; omega⟩
           · split at hm
             · obtain ⟨c1,c2⟩ := uM (n := n) hx.el hy.el
               obtain ⟨d1,d2⟩ := NH (show BY FF (Mi n x.vec y.vec) = some m from hm) c1
               exact ⟨d1,by rw [d2]; unfold EL; omega⟩
             · cases hq : N8 FF n x.vec y.vec with
               | none => rw [hq] at hm; cases hm
               | some w =>
                 rw [hq] at hm
                 obtain ⟨c1,c2⟩ := uN hx.el hq
                 obtain ⟨d1,d2⟩ := NH (show BY FF w = some m from hm) c1
                 exact ⟨d1,by rw [d2]; unfold EL; omega⟩
   | [],hL => simp at hL; omega
   | [_],hL => simp at hL; omega
   | _ :: _ :: _ :: _,hL => simp at hL; omega
 rw [if_neg h6] at C6
 have h7 := (of_decide_eq_true C6).1
 have dI := (of_decide_eq_true C6).2
 match L,hL with
 | [x],_ =>
   have hx := hV x (by simp)
   dsimp only at h
   rw [if_neg h4,if_neg h5,if_pos h7] at h
   have hTy : (Ob n ([x].map (·.kind))) = oe x.kind := by unfold Ob; rw [if_neg h1,if_neg h2,if_neg h3,if_neg h4,if_neg h5,if_neg h6]; rfl
   rw [hTy] at hT ⊢
   unfold oe at hT ⊢
   have sx := hx.sh
   unfold Sh at sx
   split at hT
   · cases hT
   · rename_i EB
     rw [if_neg EB]
     unfold iT at h
     split at h
     · rename_i hk
       cases h
       exact ⟨⟨fun e he => (by cases he),fun r hr => (by cases hr),.inl ⟨rfl,rfl,rfl⟩⟩,hk.symm,Nat.zero_le _⟩
     · obtain ⟨m,hm,rfl⟩ := map_some h
       have c1 : ∀ e ∈ x.vec.map (fun x => (⟨BI x.ls,FF.oO x.v⟩ : El)),OJ e := fun e he => by
         obtain ⟨y,hy,rfl⟩ := List.mem_map.1 he
         exact ⟨(hx.el y hy).1.bare,Ww _⟩
       obtain ⟨d1,d2⟩ := NH hm c1
       refine ⟨d1,by show (2 : Int) = x.kind; omega,by rw [d2,List.length_map]; simp [EL]; omega⟩
 | [],hL => simp at hL; omega
 | _ :: _ :: _,hL => simp at hL; omega
end TwW
end
section
namespace TwW
open Go Tw Go.RowKit Go.Proofs.Tryz
theorem Zf {n : Nd} (ht : FJ n = true) : 0 ≤ n.parts := by
 have C6 := Ih ht
 unfold F6 at C6
 have hp := PO ht
 by_cases h1 : n.kind = 1
 · unfold GM BN at hp; simp [h1] at hp; omega
 by_cases h2 : n.kind = 2
 · unfold GM BN at hp; simp [h2] at hp; omega
 by_cases h3 : n.kind = 3
 · unfold GM BN at hp; simp [h3] at hp; omega
 rw [if_neg h1,if_neg h2,if_neg h3] at C6
 split at C6
 · simp at C6; omega
 · split at C6
   · simp at C6; omega
   · split at C6
     · simp at C6; omega
     · simp at C6; omega
theorem fq {n : Nd} {ty : List Int} (h : (BS n ty).1 = 0) : FJ n = true ∧ n.parts ≤ ty.length ∧ HH CE n.mt = 0 ∧ (Ob n (ty.drop (ty.length - n.parts.toNat))).2 = 0 ∧ (BS n ty).2 = ty.take (ty.length - n.parts.toNat) ++ [(Ob n (ty.drop (ty.length - n.parts.toNat))).1] := by
 unfold BS at h ⊢
 split at h
 · exact absurd h (by dsimp only; decide)
 · rename_i h1
   split at h
   · exact absurd h (by dsimp only; decide)
   · rename_i h2
     simp only [not_or] at h1
     rw [if_neg (by simp only [not_or]; exact h1),if_neg h2]
     exact ⟨by simpa using h1.1,by omega,Decidable.not_not.1 h2,h,rfl⟩
theorem ft {n : Nd} (hf : FJ n = true) (hm : HH CE n.mt = 0) (hk : n.kind = 2 ∨ n.kind = 3) : AAr n := by
 have C6 := Ih hf
 have hp := PO hf
 have hmt : n.mt.all cp = true := by
   unfold HH at hm
   split at hm
   · exact absurd hm (by decide)
   · cases ha : n.mt.all cp with
     | true => rfl
     | false =>
       have : (if n.mt.all cp = true then (0 : Int) else 40) = 0 := hm
       rw [ha] at this; exact absurd this (by decide)
 have hx : ∀ x ∈ n.mt,cp x = true := List.all_eq_true.1 hmt
 have hbw : (0 ≤ n.back ∧ n.back < 2147483648) ∧ (0 ≤ n.width ∧ n.width < 2147483648) := by
   unfold F6 at C6
   rcases hk with hk | hk
   · rw [if_neg (by omega),if_pos hk] at C6
     unfold Mk at C6
     simp only [Bool.and_eq_true,decide_eq_true_eq] at C6
     unfold GM BN at hp
     simp [hk] at hp
     omega
   · rw [if_neg (by omega),if_neg (by omega),if_pos hk] at C6
     unfold Mk at C6
     simp only [Bool.and_eq_true,decide_eq_true_eq] at C6
     omega
 refine ⟨fun x rG => ?_,fun x rG => ?_,hbw.1,hbw.2⟩
 · have := hx x rG
   unfold cp at this
   simp only [Bool.and_eq_true,decide_eq_true_eq] at this
   exact this.1.1
 · have := hx x rG
   unfold cp at this
   simp only [Bool.and_eq_true,decide_eq_true_eq] at this
   omega
def uO : List Nat := [100,101,102,103,104,105,106]
structure rH (ss : List Sr) : Prop where
 ok : uA ss
 nn : ∀ s ∈ ss,∀ p ∈ s.ps,0 ≤ p.2
 pl : ∀ s ∈ ss,s.ps.length ≤ 1000000000
section
variable {ρ σ σ' σ0 : Hp} {R : Rr}
theorem jL {n : Nd} {p q l : Option Addr} {k c m d j e ab : Nat} {ss : List Sr} {t : Int} {L : List Vv} (hA : QH ρ ab ss t) (hg : Gl ρ) (hm : Ae 3 Oa ρ p k n.mt) (hs : E9 1 ρ q m (n.names.map .string)) (hf : FJ n = true) (hmt : HH CE n.mt = 0)
   (hT : (Ob n (L.map (·.kind))).2 = 0) (hL : (L.length : Int) = n.parts) (hV : ∀ x ∈ L,VG x) (hlen : ∀ x ∈ L,EL x ≤ 100000000000) (hr : Ae 4 M9 ρ l j L) (hS : rH ss) (ht : -4611686018427387904 ≤ t ∧ t ≤ 4611686018427387904) (h : Ii R ρ (CA FF ss t n L)) :
   ∃ f,1 ≤ n.kind ∧ n.kind ≤ 7 ∧ uO[n.kind.toNat - 1]? = some f ∧ Enters prog f ∧ Spec prog f #[.pointer (some ⟨ab,0,none⟩),MU n p k c q m d,.slice l j e] ρ R := by
 have C6 := Ih hf
 have vok : ∀ x ∈ L,jF x := fun x hx => ⟨(hV x hx).el,(hV x hx).rg,hlen x hx⟩
 unfold CA at h
 by_cases h1 : n.kind = 1
 · rw [if_pos h1] at h
   refine ⟨_,by omega,by omega,by rw [h1]; rfl,B9.en,OI hg ?_ h⟩
   unfold F6 at C6; rw [if_pos h1] at C6; exact C6
 rw [if_neg h1] at h
 by_cases h2 : n.kind = 2
 · rw [if_pos h2] at h
   exact ⟨_,by omega,by omega,by rw [h2]; rfl,Ag.en,Zc hA hg hm hS.ok (ft hf hmt (.inl h2)) ht h⟩
 rw [if_neg h2] at h
 by_cases h3 : n.kind = 3
 · rw [if_pos h3] at h
   exact ⟨_,by omega,by omega,by rw [h3]; rfl,AQ.en,dF hA hg hm hS.ok (ft hf hmt (.inr h3)) ht hS.pl h⟩
 rw [if_neg h3] at h
 unfold F6 at C6
 rw [if_neg h1,if_neg h2,if_neg h3] at C6
 by_cases h4 : n.kind = 4
 · rw [if_pos h4] at C6
   obtain ⟨dI,bW,Ba⟩ := of_decide_eq_true C6
   match L,hL with
   | [x],_ =>
     have hx := hV x (by simp)
     dsimp only at h
     rw [if_pos h4] at h
     have sx := hx.sh
     unfold Sh at sx
     unfold Ob at hT
     rw [if_neg h1,if_neg h2,if_neg h3,if_pos h4] at hT
     unfold ZS at hT
     have hc : x.kind = (if n.op = 11 ∨ n.op = 12 then 2 else 3) := by
       by_cases hc : ([x].map (·.kind))[0]?.getD 0 = (if n.op = 11 ∨ n.op = 12 then 2 else 3)
       · exact hc
       · rw [if_neg hc] at hT; exact absurd hT (by decide)
     refine ⟨_,by omega,by omega,by rw [h4]; rfl,AU.en,jG hr rfl (vok x (by simp)) (fun A6 => ?_) (fun A6 => ?_) h⟩
     · rcases sx with ⟨_,h9,_⟩ | ⟨h9,_⟩ | ⟨h9,h8⟩
       · exact absurd h9 A6
       · rw [h9] at hc
         split at hc
         · assumption
         · omega
       · exact absurd h8 A6
     · rcases sx with ⟨_,_,h9⟩ | ⟨h9,h8⟩ | ⟨h9,_⟩
       · exact absurd h9 A6
       · exact absurd h8 A6
       · rw [h9] at hc
         split at hc
         · omega
         · omega
   | [],hL => simp at hL; omega
   | _ :: _ :: _,hL => simp at hL; omega
 rw [if_neg h4] at C6
 by_cases h5 : n.kind = 5
 · rw [if_pos h5] at C6
   obtain ⟨dI,bW,Ba,_⟩ := of_decide_eq_true C6
   match L,hL with
   | [x],_ =>
     dsimp only at h
     rw [if_neg h4,if_pos h5] at h
     exact ⟨_,by omega,by omega,by rw [h5]; rfl,AO.en,pR hs hr rfl (vok x (by simp)) ⟨bW,Ba⟩ h⟩
   | [],hL => simp at hL; omega
   | _ :: _ :: _,hL => simp at hL; omega
 rw [if_neg h5] at C6
 by_cases h6 : n.kind = 6
 · rw [if_pos h6,Bool.and_eq_true] at C6
   have dI := (of_decide_eq_true C6.1).1
   match L,hL with
   | [x,y],_ =>
     dsimp only at h
     rw [if_pos h6] at h
     exact ⟨_,by omega,by omega,by rw [h6]; rfl,DI.en,pM hs hr rfl rfl (vok x (by simp)) (vok y (by simp)) h⟩
   | [],hL => simp at hL; omega
   | [_],hL => simp at hL; omega
   | _ :: _ :: _ :: _,hL => simp at hL; omega
 rw [if_neg h6] at C6
 have h7 := (of_decide_eq_true C6).1
 have dI := (of_decide_eq_true C6).2
 match L,hL with
 | [x],_ =>
   dsimp only at h
   rw [if_neg h4,if_neg h5,if_pos h7] at h
   exact ⟨_,by omega,by omega,by rw [h7]; rfl,BL.en,pJ hr rfl (vok x (by simp)) h⟩
 | [],hL => simp at hL; omega
 | _ :: _ :: _,hL => simp at hL; omega
end
end TwW
end
section
namespace TwW
open Go Tw Go.RowKit Go.Proofs.Tryz
theorem Spec.AA5 {P : Program} {f : FuncId} {args : Array Value} {σ : Hp} {p : Option Addr} {R : Rr} (hk : ∀ a,p = some a → ∃ o,σ a.block = some o)
   (h : Spec P f args (σ.del p) (fun e τ' => ∀ σ',(∀ a,p = some a → σ' a.block = σ a.block) → σ'.del p = τ' → R e σ')) : Spec P f args σ R := by
 cases p with
 | none => exact h.mono fun e τ' hh => hh τ' (fun a ha => by cases ha) rfl
 | some a =>
   obtain ⟨o,ho⟩ := hk a rfl
   have e1 : (σ.del (some a)).set a.block o = σ := by
     funext k
     by_cases j0 : k = a.block
     · subst j0; rw [Hp.AB,ho]
     · rw [Hp.AJ j0]; simp [Hp.del,j0]
   have e2 : (σ.del (some a)) a.block = none := by simp [Hp.del]
   rw [← e1]
   refine Spec.Ao e2 (h.mono fun e τ' hh hn => hh _ (fun a' aU => by cases aU; rw [Hp.AB,ho]) ?_)
   funext k
   by_cases j0 : k = a.block
   · subst j0; simp [Hp.del,hn]
   · simp [Hp.del,j0,Hp.set]
theorem E9.sub {s : Nat} {σ : Hp} {p : Option Addr} {n c i m : Nat} {cs : List Value} (h : E9 s σ p n cs) (him : i + m ≤ n) (hc : n ≤ c) : E9 s σ (Ip p i c s) m ((cs.drop (i * s)).take (m * s)) := by
 obtain ⟨h2,h3,h4⟩ := h
 have hle : i * s + m * s ≤ n * s := by rw [← Nat.add_mul]; exact Nat.mul_le_mul_right _ him
 refine ⟨by rw [List.length_take,List.length_drop]; omega,by omega,?_⟩
 rcases Nat.eq_zero_or_pos m with hm | hm
 · exact .inl hm
 · rcases h4 with h4 | ⟨b,o,rfl,h4⟩
   · omega
   · refine .inr ⟨b,o + i * s,?_,h4.part⟩
     unfold Ip
     rw [if_neg (by omega)]
     simp [Bu]
theorem M9.one (σ : Hp) (vs : List Value) (x : Vv) (h : M9 σ vs x) : GX vs := by
 obtain ⟨p,n,c,q,m,d,rfl,_⟩ := h
 intro u hu
 simp only [List.mem_cons,List.not_mem_nil,or_false] at hu
 rcases hu with rfl | rfl | rfl | rfl <;> rfl
theorem AW.take {α : Type} {s : Nat} {E : Hp → List Value → α → Prop} {σ0 σ : Hp} {p : Option Addr} {n c m : Nat} {xs : List α} (h : AW s E σ0 σ p n c xs) (hm : m ≤ n) : AW s E σ0 σ p m c (xs.take m) := by
 obtain ⟨⟨hl,cs,ho,hc⟩,hx⟩ := h
 exact ⟨⟨by rw [List.length_take]; omega,_,A8.take ho hm,hc.take m⟩,hx⟩
section
variable {σ σ' σ0 : Hp} {R : Rr}
theorem PU {p7 q : Option Addr} {j d b : Nat} {cs : List Value} {L : List Vv} {Φ : Value → Hp → Prop} (NR : E9 4 σ q j cs) (hc : Ch 4 M9 (σ.del p7) cs L) (hp7 : ∀ a,p7 = some a → σ a.block ≠ none) (hn : σ b = none) (hj : j ≤ 1000000000)
   (hΦ : ∀ p' c' y,Ae 4 M9 (y.del p7) p' j L → Ext σ y → Φ (.slice p' j c') y) : AK prog (Builtin.append_ #[136,136] 136 #[.slice (some ⟨b,0,none⟩) 0 0,.slice q j d]) (σ.set b (.cells #[] 93 (0,0))) Φ := by
 have hx := Ext.set (o := .cells #[] 93 (0,0)) hn
 refine DP A8.empty (NR.mono hx) (Ch.kI M9.one hc (by decide)) (by omega) fun p' c' y Bg JL => ?_
 have hq : ∀ a : Addr,(some (⟨b,0,none⟩ : Addr)) = some a → σ a.block = none := fun a ha => by cases ha; exact hn
 rw [Nat.zero_add] at Bg ⊢
 rw [List.nil_append] at Bg
 have hXY : Ext σ y := Iy hq JL hx
 have th : ∀ a,p' = some a → σ a.block = none := FN hq JL hx
 refine hΦ p' c' y ⟨?_,cs,A8.rd (A8.pB Bg fun a ha a' aU e => hp7 a' aU (by rw [← e]; exact th a ha)),hc.mono M9.mono (hXY.del _)⟩ hXY
 have := hc.1
 have := NR.1
 omega
theorem fu {α : Type} {f : α → Nat} : ∀ {l : List α} {y : α},y ∈ l → f y ≤ (l.map f).sum
 | a :: l,y,h => by
   rw [List.map_cons,List.sum_cons]
   rcases List.mem_cons.1 h with rfl | h
   · omega
   · have := fu (f := f) h
     omega
structure uP (R : Rr) (σ : Hp) (X : Option Vv) : Prop where
 ok : ∀ x σ' p n c q m d,X = some x → Ext σ σ' → Ae 2 CD σ' p n x.vec → Ae 2 TN σ' q m x.Ox → R (.returned (.tuple #[.agg #[.int .i64 x.kind,.int .u64 x.v,.slice p n c,.slice q m d],.int .i64 0])) σ'
 no : X = none → ∀ σ',Ext σ σ' → R (.returned (.tuple #[.agg #[.int .i64 0,.int .u64 0,.slice none 0 0,.slice none 0 0],.int .i64 223])) σ'
theorem uP.jA {X : Option Vv} (h : uP R σ X) (hx : Ext σ σ') : uP R σ' X := ⟨fun x σ2 p n c q m d h0 h1 h2 h3 => h.ok x σ2 p n c q m d h0 (hx.trans h1) h2 h3,fun h0 σ2 h1 => h.no h0 σ2 (hx.trans h1)⟩
theorem AA6 {i f : Nat} (h : uO[i]? = some f) : Enters prog f := by
 have Ap : i < 7 := (List.getElem?_eq_some_iff.1 h).1
 match i,h with
 | 0,h => cases h; exact B9.en
 | 1,h => cases h; exact Ag.en
 | 2,h => cases h; exact AQ.en
 | 3,h => cases h; exact AU.en
 | 4,h => cases h; exact AO.en
 | 5,h => cases h; exact DI.en
 | 6,h => cases h; exact BL.en
abbrev AIB : Obj := .cells #[.int .i64 0,.int .u64 0,.slice none 0 0,.slice none 0 0] 93 (0,0)
theorem pW {ab n c : Nat} {p : Option Addr} {ss : List Sr} {t : Int} {T : List Nd} {kf : Int} (hA : QH σ ab ss t) (hg : Gl σ) (hr : Ae 10 M8 σ p n T) (hS : rH ss) (hn : n ≤ 4096) (ht : -4611686018427387904 ≤ t ∧ t ≤ 4611686018427387904) (hty : Dp T [] = some [kf])
   (h : uP R σ ((F3 FF ss t T []).bind List.head?)) : Spec prog 47 #[.pointer (some ⟨ab,0,none⟩),.slice p n c] σ R := by
 have hTl : T.length = n := hr.1
 have ANs := hS.ok.len
 refine CM.start fun _ => Ry.start fun rb hrb => ⟨_,_,_,rfl,?_⟩
 have xb := Ext.set (o := .cells #[.nilFunc,.func (.func 100) #[] #[],.func (.func 101) #[] #[],.func (.func 102) #[] #[],.func (.func 103) #[] #[],.func (.func 104) #[] #[],.func (.func 105) #[] #[],.func (.func 106) #[] #[]] 137 (0,0)) hrb
 have ANt : ∀ (kind : Int) f,1 ≤ kind → kind ≤ 7 → uO[kind.toNat - 1]? = some f → Hp.ld (σ.set rb (.cells #[.nilFunc,.func (.func 100) #[] #[],.func (.func 101) #[] #[],.func (.func 102) #[] #[],.func (.func 103) #[] #[],.func (.func 104) #[] #[],.func (.func 105) #[] #[],.func (.func 106) #[] #[]] 137 (0,0))) ⟨rb,0 + kind.toNat * 1,none⟩ = some (.func (.func f) #[] #[]) := fun kind f h1 h7 hf => by
   refine Af (Hp.AB _ _ _) ?_
   rw [show 0 + kind.toNat * 1 = (kind.toNat - 1) + 1 by omega]
   have Ap : kind.toNat - 1 < 7 := by omega
   generalize kind.toNat - 1 = i at *
   match i,hf with
   | 0,hf => cases hf; rfl
   | 1,hf => cases hf; rfl
   | 2,hf => cases hf; rfl
   | 3,hf => cases hf; rfl
   | 4,hf => cases hf; rfl
   | 5,hf => cases hf; rfl
   | 6,hf => cases hf; rfl
 generalize σ.set rb _ = σb at *
 replace h := h.jA xb
 suffices H : ∀ g i : Nat,∀ p7 n7 c7 σ' st,n - i = g → i ≤ n → AW 4 M9 σb σ' p7 n7 c7 st → (∀ x ∈ st,VG x) → st.length ≤ i → (st.map EL).sum ≤ i * ss.length → Dp (T.drop i) (st.map (·.kind)) = some [kf] → F3 FF ss t T [] = F3 FF ss t (T.drop i) st → CM.FG R (aD ab 0) 0 0 none 0 0 none 0 0 (aD rb 0) 8 8 p7 n7 c7 p n c n i σ' from
   H n 0 none 0 0 σb [] rfl (Nat.zero_le _) (AW.nil (.refl _)) (fun x hx => (by cases hx)) (Nat.zero_le _) (Nat.zero_le _) hty rfl
 intro g
 induction g with
 | zero =>
   intro i p7 n7 c7 σ' st pA hi ho hV hsl ANu hT Cp
   rw [List.drop_eq_nil_of_le (by omega)] at hT Cp
   have hk : st.map (·.kind) = [kf] := by simpa [Dp] using hT
   have AIC : F3 FF ss t T [] = some st := by rw [Cp]; rfl
   rw [AIC] at h
   match st,hk with
   | [x],_ =>
     obtain ⟨b,o,pv,nv,cv,qv,mv,dv,rfl,h1,h2,h3,h4,h5,h6⟩ := M9.at (ho.rd M9.mono) (i := 0) (x := x) rfl
     have hn7 : 1 = n7 := ho.1.1
     simp only [Nat.zero_mul,Nat.add_zero] at h1 h2 h3 h4
     exact CM.Ff ⟨fun Ap => by omega,fun _ => ⟨b,o,rfl,by omega,x.kind,x.v,pv,nv,cv,qv,mv,dv,⟨h1,h2,h3,h4,trivial⟩,h.ok x σ' pv nv cv qv mv dv rfl ho.up h5 h6⟩⟩
 | succ g ih =>
   intro i p7 n7 c7 σ' st pA hi ho hV hsl ANu hT Cp
   have Bk : i < n := by omega
   obtain ⟨x,hx⟩ := hr.ex Bk
   obtain ⟨b,o,p1,k1,c1,q1,m1,d1,rfl,Du,hmt,hnm⟩ := M8.at hr hx
   have hX := xb.trans ho.up
   rw [A3 hx] at hT Cp
   have Jb : (BS x (st.map (·.kind))).1 = 0 := Decidable.byContradiction fun A6 => by
     rw [Dp,if_neg A6] at hT; cases hT
   rw [Dp,if_pos Jb] at hT
   obtain ⟨hf,hpl,hmo,xY,hT1⟩ := fq Jb
   have hpn := Zf hf
   obtain ⟨tp,htp⟩ : ∃ tp : Nat,x.parts = tp := ⟨x.parts.toNat,by omega⟩
   have hpt : x.parts.toNat = tp := by omega
   have Cg : st.length = n7 := ho.1.1
   rw [List.length_map,Cg,hpt] at xY hT1
   rw [List.length_map] at hpl
   rw [hT1] at hT
   rw [← List.map_drop] at xY hT
   rw [← List.map_take] at hT
   rw [F3,Cg,hpt] at Cp
   have hLl : (st.drop (n7 - tp)).length = tp := by rw [List.length_drop]; omega
   have hLV : ∀ y ∈ st.drop (n7 - tp),VG y := fun y hy => hV y (List.mem_of_mem_drop hy)
   have ND : (st.map EL).sum = ((st.take (n7 - tp)).map EL).sum + ((st.drop (n7 - tp)).map EL).sum := by
     rw [← List.sum_append,← List.map_append,List.take_append_drop]
   have hsb : i * ss.length ≤ 4096 * 10000000 := Nat.mul_le_mul (by omega) ANs
   have og : ∀ y ∈ st.drop (n7 - tp),EL y ≤ 100000000000 := fun y hy => by
     have := fu (f := EL) (List.mem_of_mem_drop hy)
     omega
   have EB := ho.1.2
   obtain ⟨cs,XH,hcc⟩ := EB
   have AA7 := A8.cap XH
   have e1 : Int.toNat ((n7 : Int) - x.parts) = n7 - tp := by omega
   have NR : E9 4 σ' (Ip p7 (Int.toNat ((n7 : Int) - x.parts)) c7 4) (n7 - Int.toNat ((n7 : Int) - x.parts)) ((cs.drop ((n7 - tp) * 4)).take ((n7 - (n7 - tp)) * 4)) := by
     rw [e1]; exact E9.sub XH.rd (by omega) AA7
   have hcd : Ch 4 M9 (σ'.del p7) ((cs.drop ((n7 - tp) * 4)).take ((n7 - (n7 - tp)) * 4)) (st.drop (n7 - tp)) := by
     have h9 := hcc.drop (n7 - tp)
     rwa [List.take_of_length_le (by have := XH.1; rw [List.length_drop,this,← Nat.sub_mul]; exact Nat.le_refl _)]
   have hp7 : ∀ a,p7 = some a → σ' a.block ≠ none := ho.1.block
   have hk7 : ∀ {y : Hp},Ext σ' y → ∀ a,p7 = some a → ∃ o,y a.block = some o := fun {y} hy a ha => by
     cases hh : σ' a.block with
     | none => exact absurd hh (hp7 a ha)
     | some u => exact ⟨u,hy _ _ hh⟩
   let AIF : Hp → Int → Int → Option Addr → Nat → Option Addr → Nat → Int → Prop := fun y2 k v pv nv qv mv e =>
     (∃ z,CA FF ss t x (st.drop (n7 - tp)) = some z ∧ k = z.kind ∧ v = z.v ∧ e = 0 ∧ AW 4 M9 σb y2 p7 n7 c7 st ∧ Ae 2 CD (y2.del p7) pv nv z.vec ∧ Ae 2 TN (y2.del p7) qv mv z.Ox) ∨ (CA FF ss t x (st.drop (n7 - tp)) = none ∧ e = 223 ∧ k = 0 ∧ v = 0 ∧ Ext σb y2)
   have rE : 1 ≤ x.kind ∧ x.kind ≤ 7 := by
     have C6 := Ih hf
     unfold F6 at C6
     by_cases h1 : x.kind = 1
     · omega
     by_cases h2 : x.kind = 2
     · omega
     by_cases h3 : x.kind = 3
     · omega
     by_cases h4 : x.kind = 4
     · omega
     by_cases h5 : x.kind = 5
     · omega
     by_cases h6 : x.kind = 6
     · omega
     rw [if_neg h1,if_neg h2,if_neg h3,if_neg h4,if_neg h5,if_neg h6] at C6
     have := (of_decide_eq_true C6).1
     omega
   obtain ⟨f0,hf0⟩ : ∃ f0,uO[x.kind.toNat - 1]? = some f0 := ⟨_,List.getElem?_eq_getElem (show x.kind.toNat - 1 < 7 by omega)⟩
   have tV := (ho.up).ld (ANt x.kind f0 rE.1 rE.2 hf0)
   have uQ := AA6 hf0
   have fw : ∀ (y : Hp) (U5 : Option Addr) (U6 : Nat),Ext σ' y → Ae 4 M9 (y.del p7) U5 (n7 - Int.toNat ((n7 : Int) - x.parts)) (st.drop (n7 - tp)) → ∀ (R' : Rr),(∀ y2 k v pv nv cv qv mv dv e,AIF y2 k v pv nv qv mv e → R' (.returned (.tuple #[.agg #[.int .i64 k,.int .u64 v,.slice pv nv cv,.slice qv mv dv],.int .i64 e])) y2) →
       Spec prog f0 #[.pointer (some ⟨ab,0,none⟩),MU x p1 k1 c1 q1 m1 d1,.slice U5 (n7 - Int.toNat ((n7 : Int) - x.parts)) U6] y R' := fun y U5 U6 hy xZ R' Lw => by
     have pX : Ext σb (y.del p7) := ho.2.trans (hy.del p7)
     have hσ : Ext σ (y.del p7) := xb.trans pX
     have hRV : Ii (fun e τ' => ∀ y2,(∀ a,p7 = some a → y2 a.block = y a.block) → y2.del p7 = τ' → R' e y2) (y.del p7) (CA FF ss t x (st.drop (n7 - tp))) := by
       refine ⟨fun z τ' pv nv cv qv mv dv hz A5 F7 HL _ _ y2 hy2 AA8 => ?_,fun hz τ' A5 y2 hy2 AA8 => ?_⟩
       · subst AA8
         refine Lw y2 _ _ _ _ _ _ _ _ _ (.inl ⟨z,hz,rfl,rfl,rfl,⟨⟨ho.1.1,cs,?_,hcc.mono M9.mono ((hy.del p7).trans A5)⟩,pX.trans A5⟩,F7,HL⟩)
         exact A8.of_eq (A8.mono hy XH) hy2
       · subst AA8
         exact Lw y2 _ _ _ _ _ _ _ _ _ (.inr ⟨hz,rfl,rfl,rfl,(pX.trans A5).trans (Ext.Iw _ _)⟩)
     obtain ⟨f,hf1,hf2,hf3,aI,uR⟩ := jL (p := p1) (c := c1) (q := q1) (d := d1) (e := U6) (hA.mono hσ) (hg.mono hσ) (hmt.mono Oa.mono hσ) (hnm.mono hσ) hf hmo xY (by rw [hLl,htp]) hLV og xZ hS ht hRV
     rw [hf0] at hf3
     cases hf3
     exact Spec.AA5 (hk7 hy) uR
   have tail : ∀ (y2 : Hp) (BG : Nat) (k v : Int) (pv : Option Addr) (nv cv : Nat) (qv : Option Addr) (mv dv : Nat) (e : Int),y2 BG = none → AIF y2 k v pv nv qv mv e → AK prog (Instr.storeAt 93 (.pointer (aD BG 0)) (.agg #[.int .i64 k,.int .u64 v,.slice pv nv cv,.slice qv mv dv])) (Hp.set y2 BG AIB) (fun _ AH => Br (e ≠ 0) (R (.returned (.tuple #[.agg #[.int .i64 0,.int .u64 0,.slice none 0 0,.slice none 0 0],.int .i64 e])) AH) (((0 : Int) ≤ ((n7 : Int) - x.parts) ∧ ((n7 : Int) - x.parts) ≤ (c7 : Int)) ∧ ∃ Nq Nr Ns Nt Nu Nv Nw Nx,Aw AH BG 0 [.int .i64 Nq,.int .u64 Nr,.slice Ns Nt Nu,.slice Nv Nw Nx] ∧ Al AH fun Pv => AK prog (Builtin.append_ #[136,136] 136 #[(.slice p7 (Int.toNat ((n7 : Int) - x.parts)) c7),(.slice (aD Pv 0) 1 1)]) (Hp.set AH Pv (.cells #[.int .i64 Nq,.int .u64 Nr,.slice Ns Nt Nu,.slice Nv Nw Nx] 93 (0,0))) (CS fun bq n50 br Ab => AI ((i : Int) + 1) ∧ CM.FG R (aD ab 0) 0 0 none 0 0 none 0 0 (aD rb 0) 8 8 bq n50 br (aD b o) n c n ((i : Int) + 1) Ab))) := fun y2 BG k v pv nv cv qv mv dv e hb hC => by
     refine Tj rfl (Hp.AB _ _ _) (by simp [Value.oneCell']) rfl ?_
     rw [Hp.set_set]
     have x3 := Ext.set (o := .cells #[.int .i64 k,.int .u64 v,.slice pv nv cv,.slice qv mv dv] 93 (0,0)) hb
     rcases hC with ⟨z,hz,rfl,rfl,rfl,Ba,F7,HL⟩ | ⟨hz,rfl,rfl,rfl,A5⟩
     · refine ⟨fun hh => absurd rfl hh,fun _ => ⟨by omega,z.kind,z.v,pv,nv,cv,qv,mv,dv,Aw.GA (Hp.AB _ _ _),fun Pv pL => ?_⟩⟩
       obtain ⟨w1,w2,w3⟩ := fp hS.ok hS.nn hf xY (by rw [hLl,htp]) hLV hz
       rw [hz] at Cp
       have EC := (Ba.mono M9.mono x3).take (m := n7 - tp) (by omega)
       have hxd := x3.del p7
       have he : M9 ((y2.set BG (.cells #[.int .i64 z.kind,.int .u64 z.v,.slice pv nv cv,.slice qv mv dv] 93 (0,0))).del p7) [.int .i64 z.kind,.int .u64 z.v,.slice pv nv cv,.slice qv mv dv] z := ⟨pv,nv,cv,qv,mv,dv,rfl,F7.mono CD.mono hxd,HL.mono TN.mono hxd⟩
       rw [e1]
       refine AW.Jq M9.mono EC rfl (M9.one _ _ _ he) he (by omega) (fun p' c' y4 Mh _ => ⟨_,_,_,rfl,AL Bk hr.big,ih (i + 1) _ _ _ _ (st.take (n7 - tp) ++ [z]) (by omega) (by omega) Mh (fun u hu => ?_) (by rw [List.length_append,List.length_take,List.length_singleton]; omega) ?_ ?_ ?_⟩) pL
       · rcases List.mem_append.1 hu with hu | hu
         · exact hV u (List.mem_of_mem_take hu)
         · rw [List.mem_singleton] at hu; rw [hu]; exact w1
       · rw [List.map_append,List.sum_append,List.map_singleton,List.sum_singleton,Nat.succ_mul]
         omega
       · rw [List.map_append,List.map_singleton,w2]; exact hT
       · exact Cp
     · refine ⟨fun _ => h.no ?_ _ (A5.trans x3),fun hh => absurd (by decide) hh⟩
       rw [Cp,hz]; rfl
   have ANw : ∃ u,σ' rb = some u := by
     unfold Hp.ld at tV
     cases hq : σ' rb with
     | none => rw [hq] at tV; cases tV
     | some u => exact ⟨u,rfl⟩
   obtain ⟨urb,UZ⟩ := ANw
   refine CM.Ff ⟨fun _ => ⟨b,o,rfl,by omega,_,_,_,_,_,_,_,_,_,_,_,_,_,_,by simpa using Du.mono hX,fun _ => ⟨by unfold AI; omega,rb,0,rfl,by omega,_,tV,by omega,fun fB jM => ⟨?_,fun BG Tn => ?_⟩,fun BG Tn fB jM => ?_⟩⟩,fun hh => by omega⟩
   · refine PU NR hcd hp7 jM (by omega) fun U5 U6 y xZ hy => ⟨U5,_,U6,rfl,fun k hk u hu => ?_,?_,fun BG Tn => ?_⟩
     · rw [List.mem_singleton] at hk
       subst hk
       rw [(Ext.set jM) _ _ UZ] at hu
       rw [hy _ _ UZ]; exact hu
     · exact ⟨f0,#[],#[],rfl,uQ,fw y U5 U6 hy xZ _ fun y2 k v pv nv cv qv mv dv e hC => ⟨k,v,pv,nv,cv,qv,mv,dv,e,rfl,fun BG Tn => tail y2 BG k v pv nv cv qv mv dv e Tn hC⟩⟩
     · exact ⟨f0,#[],#[],rfl,uQ,Spec.Ao Tn (fw y U5 U6 hy xZ _ fun y2 k v pv nv cv qv mv dv e hC To => ⟨k,v,pv,nv,cv,qv,mv,dv,e,rfl,tail y2 BG k v pv nv cv qv mv dv e To hC⟩)⟩
   · have uC := (Hp.AS Tn)
     refine AK.Ao Tn (PU NR hcd hp7 jM (by omega) fun U5 U6 y xZ hy hny => ⟨U5,_,U6,rfl,fun k hk u hu => ?_,?_⟩)
     · rw [List.mem_singleton] at hk
       subst hk
       have A6 : k ≠ BG := fun e => by rw [e,uC.2] at UZ; cases UZ
       rw [Hp.AJ A6] at hu ⊢
       rw [(Ext.set jM) _ _ UZ] at hu
       rw [hy _ _ UZ]; exact hu
     · exact ⟨f0,#[],#[],rfl,uQ,Spec.Ao hny (fw y U5 U6 hy xZ _ fun y2 k v pv nv cv qv mv dv e hC To => ⟨k,v,pv,nv,cv,qv,mv,dv,e,rfl,tail y2 BG k v pv nv cv qv mv dv e To hC⟩)⟩
   · have uS := (Hp.AS jM)
     have uC : (σ'.set fB (.cells #[] 93 (0,0))) BG = none := by rw [Hp.AJ (Ne.symm uS.1)]; exact Tn
     dsimp only
     rw [Hp.BQ (Ne.symm uS.1)]
     refine AK.Ao uC (PU NR hcd hp7 uS.2 (by omega) fun U5 U6 y xZ hy hny => ⟨U5,_,U6,rfl,fun k hk u hu => ?_,?_⟩)
     · rw [List.mem_singleton] at hk
       subst hk
       have A6 : k ≠ BG := fun e => by rw [e,Tn] at UZ; cases UZ
       rw [Hp.AJ A6] at hu ⊢
       rw [(Ext.set uS.2) _ _ UZ] at hu
       rw [hy _ _ UZ]; exact hu
     · exact ⟨f0,#[],#[],rfl,uQ,Spec.Ao hny (fw y U5 U6 hy xZ _ fun y2 k v pv nv cv qv mv dv e hC To => ⟨k,v,pv,nv,cv,qv,mv,dv,e,rfl,tail y2 BG k v pv nv cv qv mv dv e To hC⟩)⟩
end
end TwW
end
section
namespace TwW
open Go Tw Go.RowKit Go.Proofs.Tryz
def FL (T : List Nd) (ss : List Sr) : Int := match NG T with
 | none => 220
 | some k => if k = 3 then 220 else if Cv none ss = true then 0 else 224
def instF (T : List Nd) (ss : List Sr) (t : Int) : Int × List El :=
 if FL T ss ≠ 0 then (FL T ss,[]) else if ¬ (-1099511627776 ≤ t ∧ t ≤ 1099511627776) then (221,[]) else match BC FF T ss t with
   | none => (223,[])
   | some l => (0,l)
structure Modest (T : List Nd) (ss : List Sr) : Prop where
 t : T.length ≤ 2000000
 tx : ∀ x ∈ T,x.text.size ≤ 4611686018427387904
 s : ss.length ≤ 10000000
 ps : ∀ s ∈ ss,s.ps.length ≤ 1000000000
 nn : ∀ s ∈ ss,∀ p ∈ s.ps,0 ≤ p.2
theorem Ld : ∀ {ss : List Sr} {q : Option (List Lb)},Cv q ss = true → ∀ s ∈ ss,EY s.ls = 0 ∧ OA s.ps = true
 | s :: l,q,h,x,hx => by
   rw [Ib] at h
   simp only [Bool.and_eq_true,decide_eq_true_eq] at h
   rcases List.mem_cons.1 hx with rfl | hx
   · exact ⟨h.1.1.1,h.1.1.2⟩
   · exact Ld h.2 x hx
theorem rH.of {T : List Nd} {ss : List Sr} (hM : Modest T ss) (h : Cv none ss = true) : rH ss :=
 ⟨⟨fun s hs => iZ (Ld h s hs).2,fun s hs => An.of (Ld h s hs).1,hM.s⟩,hM.nn,hM.ps⟩
section
variable {σ σ' σ0 : Hp} {R : Rr}
theorem QK {p q : Option Addr} {n c m d : Nat} {T : List Nd} {ss : List Sr} {t kf : Int} (hg : Gl σ) (hr : Ae 10 M8 σ p n T) (hs : Ae 2 CF σ q m ss) (hS : rH ss) (hn : n ≤ 4096) (ht : -4611686018427387904 ≤ t ∧ t ≤ 4611686018427387904) (hty : Dp T [] = some [kf])
   (h : ∀ l p' n' c' σ',BC FF T ss t = some l → Ext σ σ' → Ae 2 CD σ' p' n' l → R (.returned (.tuple #[.slice p' n' c',.int .i64 0])) σ') (h' : BC FF T ss t = none → ∀ σ',Ext σ σ' → R (.returned (.tuple #[.slice none 0 0,.int .i64 223])) σ') :
   Spec prog 30 #[.slice p n c,.slice q m d,.int .i64 t] σ R := by
 refine Fp.start fun ab aS => ?_
 have xa := Ext.set (o := .cells #[.slice q m d,.int .i64 t] 97 (0,0)) aS
 have hA : QH (σ.set ab (.cells #[.slice q m d,.int .i64 t] 97 (0,0))) ab ss t := ⟨⟨q,m,d,Af (Hp.AB _ _ _) rfl,hs.mono CF.mono xa⟩,Af (Hp.AB _ _ _) rfl⟩
 refine pW hA (hg.mono xa) (hr.mono M8.mono xa) hS hn ht hty ⟨fun x σ1 pv nv cv qv mv dv hx CH h1 h2 => ?_,fun EB σ1 CH => ?_⟩
 · have hm : BC FF T ss t = some (if x.kind = 1 then [⟨[],x.v⟩] else x.vec) := by
     unfold BC
     cases Cp : F3 FF ss t T [] with
     | none => rw [Cp] at hx; cases hx
     | some st =>
       rw [Cp] at hx
       show (st.head?.map _) = _
       rw [show st.head? = some x from hx]; rfl
   refine ⟨_,_,_,_,_,_,_,_,_,rfl,fun _ => ⟨fun hk => fun Jw ANx => Fp.A0 ?_,fun hk => Fp.A0 ?_⟩⟩
   · rw [if_pos hk] at hm
     refine h _ _ _ _ _ hm (xa.trans (CH.trans (.set ANx))) ⟨rfl,[.slice none 0 0,.int .u64 x.v],⟨rfl,by omega,.inr ⟨Jw,0,rfl,Aw.GA (c := [.slice none 0 0,.int .u64 x.v]) (Hp.AB _ _ _)⟩⟩,rfl,fun i y hy => ?_⟩
     cases i with
     | zero =>
       simp only [List.getElem?_cons_zero,Option.some.injEq] at hy
       subst hy
       exact ⟨none,0,0,rfl,Ae.nil⟩
     | succ i => simp at hy
   · rw [if_neg hk] at hm
     exact h _ _ _ _ _ hm (xa.trans CH) h1
 · have hm : BC FF T ss t = none := by
     unfold BC
     cases Cp : F3 FF ss t T [] with
     | none => rfl
     | some st =>
       rw [Cp] at EB
       show (st.head?.map _) = _
       rw [show st.head? = none from EB]; rfl
   exact ⟨_,_,_,_,_,_,_,_,_,rfl,fun _ => ⟨fun hk => absurd hk (by decide),fun _ => Fp.A0 (h' hm _ (xa.trans CH))⟩⟩
theorem VW {p q : Option Addr} {n c m d : Nat} {T : List Nd} {ss : List Sr} (hr : Ae 10 M8 σ p n T) (hs : Ae 2 CF σ q m ss) (hM : Modest T ss) (h : ∀ σ',Ext σ σ' → R (.returned (.int .i64 (FL T ss))) σ') : Spec prog 28 #[.slice p n c,.slice q m d] σ R := by
 have hl : T.length = n := hr.1
 have hMt := hM.t
 refine VC.start (TX hr (by omega) hM.tx (fun k σ1 hk CH => ⟨_,_,_,rfl,fun hh => absurd rfl hh,fun _ => ⟨fun h3 => ?_,fun h3 => ZJ (hs.mono CF.mono CH) fun σ2 A5 => ⟨_,rfl,fun A6 => ?_,fun h0 => ?_⟩⟩⟩) fun k j e σ1 hk he CH => ⟨_,_,_,rfl,fun _ => ?_,fun hh => absurd he hh⟩)
 · have := h σ1 CH
   rwa [show FL T ss = 220 by unfold FL; rw [hk]; exact if_pos h3] at this
 · have := h σ2 (CH.trans A5)
   have ho : ¬ Cv none ss = true := fun ho => A6 (by rw [ho]; rfl)
   rwa [show FL T ss = 224 by unfold FL; rw [hk]; show (if k = 3 then _ else _) = _; rw [if_neg h3,if_neg ho]] at this
 · have := h σ2 (CH.trans A5)
   have ho : Cv none ss = true := by
     cases hq : Cv none ss with
     | true => rfl
     | false => rw [hq] at h0; exact absurd (by decide) h0
   rwa [show FL T ss = 0 by unfold FL; rw [hk]; show (if k = 3 then _ else _) = _; rw [if_neg h3,if_pos ho]] at this
 · have := h σ1 CH
   rwa [show FL T ss = 220 by unfold FL; rw [hk]] at this
def EIn (τ : Hp) (vs : List Value) (x : El × Nat) : Prop := ∃ p n c,vs = [.slice p n c,.slice (aD x.2 0) 1 1] ∧ EK τ p n x.1.ls
theorem EIn.mono : HM EIn := fun _ _ _ _ hx ⟨p,n,c,hv,h⟩ => ⟨p,n,c,hv,h.mono Bt.mono hx⟩
structure aW (t : Int) (τ σ : Hp) (p : Option Addr) (n c : Nat) (l : List El) (bs : List Nat) : Prop where
 len : bs.length = l.length
 own : ∃ cs,A8 2 σ p n c cs ∧ Ch 2 EIn τ cs (l.zip bs)
 pts : ∀ (i b : Nat) (e : El),bs[i]? = some b → l[i]? = some e → σ b = some (.cells #[.int .i64 t,.int .u64 e.v] 50 (0,0))
 op : ∀ a,p = some a → τ a.block = none ∧ a.block ∉ bs
 tb : ∀ b ∈ bs,τ b = none
 nd : bs.Nodup
 ext : Ext τ σ
theorem aW.known {t : Int} {τ : Hp} {p : Option Addr} {n c : Nat} {l : List El} {bs : List Nat} (h : aW t τ σ p n c l bs) : ∀ b ∈ bs,∃ u,σ b = some u := fun b hb => by
 obtain ⟨i,hi⟩ := List.mem_iff_getElem?.1 hb
 have Ap := (List.getElem?_eq_some_iff.1 hi).1
 exact ⟨_,h.pts i b _ hi (List.getElem?_eq_getElem (by rw [← h.len]; exact Ap))⟩
theorem aW.mono {t : Int} {τ : Hp} {p : Option Addr} {n c : Nat} {l : List El} {bs : List Nat} (h : aW t τ σ p n c l bs) (hx : Ext σ σ') : aW t τ σ' p n c l bs :=
 ⟨h.len,let ⟨cs,h1,h2⟩ := h.own; ⟨cs,h1.mono hx,h2⟩,fun i b e hb he => hx _ _ (h.pts i b e hb he),h.op,h.tb,h.nd,h.ext.trans hx⟩
theorem aW.rd {t : Int} {τ : Hp} {p : Option Addr} {n c : Nat} {l : List El} {bs : List Nat} (h : aW t τ σ p n c l bs) : Ae 2 CF σ p n (l.map fun e => ⟨e.ls,[(t,e.v)]⟩) := by
 obtain ⟨cs,h1,h2⟩ := h.own
 have hz : (l.zip bs).length = l.length := by rw [List.length_zip,h.len,Nat.min_self]
 have hln : l.length = n := by
   have a1 := h1.1
   have a2 := h2.1
   rw [hz] at a2; omega
 refine ⟨by rw [List.length_map]; exact hln,cs,h1.rd,by rw [h2.1,hz,List.length_map],fun i s hs => ?_⟩
 rw [List.getElem?_map] at hs
 cases he : l[i]? with
 | none => rw [he] at hs; cases hs
 | some e =>
   rw [he] at hs
   simp only [Option.map_some,Option.some.injEq] at hs
   subst hs
   have Ap := (List.getElem?_eq_some_iff.1 he).1
   obtain ⟨b,hb⟩ : ∃ b,bs[i]? = some b := ⟨_,List.getElem?_eq_getElem (by rw [h.len]; exact Ap)⟩
   obtain ⟨p1,n1,c1,hv,aV⟩ := h2.2 i (e,b) (List.getElem?_zip_eq_some.2 ⟨he,hb⟩)
   refine ⟨p1,n1,c1,aD b 0,1,1,hv,aV.mono Bt.mono h.ext,⟨rfl,[.int .i64 t,.int .u64 e.v],⟨rfl,by omega,.inr ⟨b,0,rfl,Aw.GA (c := [.int .i64 t,.int .u64 e.v]) (h.pts i b e hb he)⟩⟩,rfl,fun j y hy => ?_⟩,Nat.le_refl _⟩
   cases j with
   | zero => simp only [List.getElem?_cons_zero,Option.some.injEq] at hy; subst hy; rfl
   | succ j => simp at hy
theorem aW.add {t : Int} {τ : Hp} {p : Option Addr} {n c b : Nat} {l : List El} {bs : List Nat} {e : El} {pl : Option Addr} {nl cl : Nat} {y : Hp} {Φ : Value → Hp → Prop} (h : aW t τ σ p n c l bs) (hy : Ext σ y) (hr : EK (σ.new y) pl nl e.ls) (hb : y b = none) (hn : n ≤ 1000000000000)
   (hΦ : ∀ τ' p' c' σ',aW t τ' σ' p' (n + 1) c' (l ++ [e]) (bs ++ [b]) → Ext τ τ' → Φ (.slice p' (n + 1) c') σ') :
   Al (Hp.set y b (.cells #[.int .i64 t,.int .u64 e.v] 50 (0,0))) fun WJ => AK prog (Builtin.append_ #[23,23] 23 #[.slice p n c,(.slice (aD WJ 0) 1 1)]) (Hp.set (Hp.set y b (.cells #[.int .i64 t,.int .u64 e.v] 50 (0,0))) WJ (.cells #[.slice pl nl cl,.slice (aD b 0) 1 1] 40 (0,0))) Φ := fun WJ ABB => by
 obtain ⟨cs,h1,h2⟩ := h.own
 have xb := Ext.set (o := .cells #[.int .i64 t,.int .u64 e.v] 50 (0,0)) hb
 have xc := Ext.set (o := .cells #[.slice pl nl cl,.slice (aD b 0) 1 1] 40 (0,0)) ABB
 have X := hy.trans (xb.trans xc)
 have hz : (l.zip bs).length = l.length := by rw [List.length_zip,h.len,Nat.min_self]
 have ABC : σ b = none := BD hy hb
 have Oc : b ≠ WJ := fun e => by rw [← e,Hp.AB] at ABB; cases ABB
 refine DP (h1.mono X) (q := aD WJ 0) (ys := [.slice pl nl cl,.slice (aD b 0) 1 1]) ⟨rfl,by omega,.inr ⟨WJ,0,rfl,Aw.GA (c := [.slice pl nl cl,.slice (aD b 0) 1 1]) (Hp.AB _ _ _)⟩⟩ (fun u hu => by
   simp only [List.mem_cons,List.not_mem_nil,or_false] at hu
   rcases hu with rfl | rfl <;> rfl) (by omega) fun p' c' σ5 RB UT => ?_
 have T : ∀ k u,σ k = some u → (∀ a,p = some a → k ≠ a.block) → σ5 k = some u ∧ ∀ a,p' = some a → k ≠ a.block := fun k u hk A6 => by
   obtain ⟨a1,a2⟩ := AR.1 (UT k u (AR.2 ⟨A6,X _ _ hk⟩))
   exact ⟨a2,a1⟩
 have Tb := AR.1 (UT b _ (AR.2 ⟨fun a ha e => h1.block a ha (by rw [← e]; exact ABC),xc _ _ (Hp.AB _ _ _)⟩))
 have tt : Ext τ (τ.or (σ.new y)) := Ext.tT _ _
 have nt : Ext (σ.new y) (τ.or (σ.new y)) := Ext.cP fun k hk => by
   cases hh : τ k with
   | none => rfl
   | some u =>
     have h3 := h.ext _ _ hh
     cases h4 : (σ.new y) k with
     | none => exact absurd h4 hk
     | some v => rw [(AV.1 h4).1] at h3; cases h3
 have kn : ∀ k,(∃ u,σ k = some u) → τ k = none → (τ.or (σ.new y)) k = none := fun k ⟨u,hu⟩ hk => by
   rw [Hp.cP hk]
   cases hh : (σ.new y) k with
   | none => rfl
   | some v => rw [(AV.1 hh).1] at hu; cases hu
 have tb : (τ.or (σ.new y)) b = none := by
   rw [Hp.cP (BD h.ext ABC)]
   cases hh : (σ.new y) b with
   | none => rfl
   | some v => rw [(AV.1 hh).2] at hb; cases hb
 have u9 : b ∉ bs := fun hc => by obtain ⟨u,hu⟩ := h.known b hc; rw [ABC] at hu; cases hu
 have hE5 : Ext (τ.or (σ.new y)) σ5 := fun k u hk => by
   have hyk : y k = some u := (Ext.oI (h.ext.trans hy) (Ext.Cq _ _)) _ _ hk
   refine (AR.1 (UT k u (AR.2 ⟨fun a ha e => ?_,xc _ _ (xb _ _ hyk)⟩))).2
   have j0 : ∃ u,σ a.block = some u := by
     cases hh : σ a.block with
     | none => exact absurd hh (h1.block a ha)
     | some u => exact ⟨u,rfl⟩
   rw [e,kn a.block j0 (h.op a ha).1] at hk; cases hk
 refine hΦ (τ.or (σ.new y)) p' c' σ5 ⟨by simp [h.len],⟨_,RB,?_⟩,fun i b' e' Jx Qg => ?_,fun a ha => ⟨?_,fun hc => ?_⟩,fun b' Jx => ?_,?_,hE5⟩ tt
 · rw [List.zip_append h.len.symm]
   exact (h2.mono EIn.mono tt).snoc rfl ⟨pl,nl,cl,rfl,hr.mono Bt.mono nt⟩
 · rw [List.getElem?_append] at Jx Qg
   split at Jx
   · rename_i Ap
     rw [if_pos (by rw [← h.len]; exact Ap)] at Qg
     have := h.pts i b' e' Jx Qg
     exact (T b' _ this fun a ha e => (h.op a ha).2 (e ▸ List.mem_of_getElem? Jx)).1
   · rename_i Ap
     rw [if_neg (by rw [← h.len]; exact Ap),← h.len] at Qg
     cases hq : i - bs.length with
     | zero =>
       rw [hq] at Jx Qg
       simp only [List.getElem?_cons_zero,Option.some.injEq] at Jx Qg
       subst Jx; subst Qg
       exact Tb.2
     | succ j => rw [hq] at Jx; simp at Jx
 · cases hh : (τ.or (σ.new y)) a.block with
   | none => rfl
   | some u =>
     exfalso
     have hyk : y a.block = some u := (Ext.oI (h.ext.trans hy) (Ext.Cq _ _)) _ _ hh
     refine (AR.1 (UT a.block u (AR.2 ⟨fun a' aU e => ?_,xc _ _ (xb _ _ hyk)⟩))).1 a ha rfl
     have j0 : ∃ u,σ a'.block = some u := by
       cases hh : σ a'.block with
       | none => exact absurd hh (h1.block a' aU)
       | some u => exact ⟨u,rfl⟩
     rw [e,kn a'.block j0 (h.op a' aU).1] at hh; cases hh
 · rcases List.mem_append.1 hc with hc | hc
   · obtain ⟨u,hu⟩ := h.known _ hc
     exact (T a.block u hu fun a' aU e => (h.op a' aU).2 (e ▸ hc)).2 a ha rfl
   · rw [List.mem_singleton] at hc
     exact Tb.1 a ha hc.symm
 · rcases List.mem_append.1 Jx with Jx | Jx
   · exact kn b' (h.known _ Jx) (h.tb _ Jx)
   · rw [List.mem_singleton] at Jx; rw [Jx]; exact tb
 · rw [List.nodup_append]
   exact ⟨h.nd,by simp,fun a ha b' Jx e => by rw [List.mem_singleton] at Jx; rw [e,Jx] at ha; exact u9 ha⟩
end
end TwW
end
section
namespace TwW
open Go Tw Go.RowKit Go.Proofs.Tryz
theorem pY {ss : List Sr} {t : Int} (hS : rH ss) : ∀ (T : List Nd) (st r : List Vv) (ty : List Int),Dp T (st.map (·.kind)) = some ty → F3 FF ss t T st = some r → (∀ x ∈ st,VG x) → (∀ x ∈ r,VG x) ∧ (r.map EL).sum ≤ (st.map EL).sum + T.length * ss.length
 | [],st,r,ty,_,hr,hV => by
   cases hr
   exact ⟨hV,by omega⟩
 | x :: T,st,r,ty,hT,hr,hV => by
   have Jb : (BS x (st.map (·.kind))).1 = 0 := Decidable.byContradiction fun A6 => by
     rw [Dp,if_neg A6] at hT; cases hT
   rw [Dp,if_pos Jb] at hT
   obtain ⟨hf,hpl,hmo,xY,hT1⟩ := fq Jb
   have hpn := Zf hf
   rw [List.length_map] at xY hT1 hpl
   rw [hT1,← List.map_drop,← List.map_take] at hT
   rw [← List.map_drop] at xY
   rw [F3] at hr
   have hLl : ((st.drop (st.length - x.parts.toNat)).length : Int) = x.parts := by rw [List.length_drop]; omega
   have hLV : ∀ y ∈ st.drop (st.length - x.parts.toNat),VG y := fun y hy => hV y (List.mem_of_mem_drop hy)
   have ND : (st.map EL).sum = ((st.take (st.length - x.parts.toNat)).map EL).sum + ((st.drop (st.length - x.parts.toNat)).map EL).sum := by
     rw [← List.sum_append,← List.map_append,List.take_append_drop]
   cases hz : CA FF ss t x (st.drop (st.length - x.parts.toNat)) with
   | none => rw [hz] at hr; cases hr
   | some z =>
     rw [hz] at hr
     obtain ⟨w1,w2,w3⟩ := fp hS.ok hS.nn hf xY hLl hLV hz
     obtain ⟨g1,g2⟩ := pY hS T (st.take (st.length - x.parts.toNat) ++ [z]) r ty (by rw [List.map_append,List.map_singleton,w2]; exact hT) hr (fun u hu => by
       rcases List.mem_append.1 hu with hu | hu
       · exact hV u (List.mem_of_mem_take hu)
       · rw [List.mem_singleton] at hu; rw [hu]; exact w1)
     refine ⟨g1,?_⟩
     rw [List.map_append,List.sum_append,List.map_singleton,List.sum_singleton] at g2
     rw [List.length_cons,Nat.succ_mul]
     omega
theorem jN {ss : List Sr} {t k : Int} {T : List Nd} {l : List El} (hS : rH ss) (hT : Dp T [] = some [k]) (h : BC FF T ss t = some l) : (∀ e ∈ l,An e.ls) ∧ l.length ≤ 1 + T.length * ss.length := by
 unfold BC at h
 cases hr : F3 FF ss t T [] with
 | none => rw [hr] at h; cases h
 | some st =>
   rw [hr] at h
   obtain ⟨g1,g2⟩ := pY hS T [] st _ hT hr (fun x hx => by cases hx)
   change (st.head?.map fun v : Vv => if v.kind = 1 then [(⟨[],v.v⟩ : El)] else v.vec) = some l at h
   cases st with
   | nil => cases h
   | cons v st =>
     simp only [List.head?_cons,Option.map_some,Option.some.injEq] at h
     have hv := g1 v (by simp)
     rw [List.map_cons,List.sum_cons] at g2
     simp only [List.map_nil,List.sum_nil] at g2
     unfold EL at g2
     split at h
     · subst h
       exact ⟨fun e he => by rw [List.mem_singleton] at he; subst he; exact ⟨Nat.zero_le _,fun x hx => by cases hx⟩,by simp⟩
     · subst h
       exact ⟨fun e he => (hv.el e he).1,by omega⟩
section
variable {σ σ' σ0 : Hp} {R : Rr}
theorem PW {t : Int} (h : R (.returned (.bool (decide (-1099511627776 ≤ t ∧ t ≤ 1099511627776)))) σ) : Spec prog 29 #[.int .i64 t] σ R := by
 refine VD.start ⟨fun h1 => ?_,fun h1 => ?_⟩
 · rw [show decide (-1099511627776 ≤ t ∧ t ≤ 1099511627776) = decide (t ≤ 1099511627776) from decide_eq_decide.2 ⟨fun h => h.2,fun h => ⟨h1,h⟩⟩] at h; exact h
 · rw [show decide (-1099511627776 ≤ t ∧ t ≤ 1099511627776) = false from decide_eq_false fun hh => h1 hh.1] at h; exact h
theorem pZ {T : List Nd} {k : Int} (h : NG T = some k) : Dp T [] = some [k] ∧ T.length ≤ 4096 := by
 unfold NG at h
 cases hr : Dp T [] with
 | none => rw [hr] at h; cases h
 | some st =>
   rw [hr] at h
   match st with
   | [] => cases h
   | [x] =>
     change (if T.length ≤ 4096 then some x else none) = some k at h
     split at h
     · rename_i h4
       cases h
       exact ⟨rfl,h4⟩
     · cases h
   | _ :: _ :: _ => cases h
theorem inst_spec {p q : Option Addr} {n c m d : Nat} {T : List Nd} {ss : List Sr} {t : Int} (hg : Gl σ) (hr : Ae 10 M8 σ p n T) (hs : Ae 2 CF σ q m ss) (hM : Modest T ss)
   (h : ∀ τ p' n' c' σ' bs,(instF T ss t).1 = 0 → aW t τ σ' p' n' c' (instF T ss t).2 bs → Ext σ τ → R (.returned (.tuple #[.slice p' n' c',.int .i64 0])) σ') (h' : ∀ σ',(instF T ss t).1 ≠ 0 → Ext σ σ' → R (.returned (.tuple #[.slice none 0 0,.int .i64 (instF T ss t).1])) σ') :
   Spec prog 11 #[.slice p n c,.slice q m d,.int .i64 t] σ R := by
 refine DV.start (VW hr hs hM fun σ1 CH => ⟨_,rfl,fun A6 => ?_,fun h0 => PW ⟨_,rfl,fun htf => ?_,fun htt => ?_⟩⟩)
 · have e : instF T ss t = (FL T ss,[]) := by unfold instF; rw [if_pos A6]
   rw [e] at h'
   exact h' σ1 A6 CH
 · have e : instF T ss t = (221,[]) := by unfold instF; rw [if_neg h0,if_pos (of_decide_eq_false htf)]
   rw [e] at h'
   exact h' σ1 (by dsimp only; decide) CH
 have fU := Decidable.not_not.1 h0
 have ht := of_decide_eq_true htt
 obtain ⟨k,hk,hk3,C8⟩ : ∃ k,NG T = some k ∧ k ≠ 3 ∧ Cv none ss = true := by
   unfold FL at fU
   cases hq : NG T with
   | none => rw [hq] at fU; dsimp only at fU; exact absurd fU (by decide)
   | some k =>
     rw [hq] at fU
     dsimp only at fU
     by_cases h3 : k = 3
     · rw [if_pos h3] at fU; exact absurd fU (by decide)
     · rw [if_neg h3] at fU
       cases ho : Cv none ss with
       | true => exact ⟨k,rfl,h3,rfl⟩
       | false => rw [ho] at fU; exact absurd fU (by decide)
 have hS := rH.of hM C8
 obtain ⟨Cp,hlen⟩ := pZ hk
 have hl : T.length = n := hr.1
 refine QK (hg.mono CH) (hr.mono M8.mono CH) (hs.mono CF.mono CH) hS (by omega) (by omega) Cp (fun l p' n' c' σ2 hm A5 aV => ⟨_,_,_,_,rfl,fun hh => absurd rfl hh,fun _ => ?_⟩) fun hm σ2 A5 => ⟨_,_,_,_,rfl,fun _ => ?_,fun hh => absurd (by decide) hh⟩
 · have e : instF T ss t = (0,l) := by unfold instF; rw [if_neg h0,if_neg (by rw [Decidable.not_not]; exact ht),hm]
   rw [e] at h
   dsimp only at h
   have hll : l.length = n' := aV.1
   have hX := CH.trans A5
   obtain ⟨mo1,mo2⟩ := jN hS Cp hm
   have ANy : n' ≤ 100000000000 := by
     have := Nat.mul_le_mul hlen hS.ok.len
     omega
   suffices H : ∀ g i : Nat,∀ τ p1 n1 c1 σ3 bs,n' - i = g → i ≤ n' → aW t τ σ3 p1 n1 c1 (l.take i) bs → Ext σ2 τ → DV.QZ R t p1 n1 c1 p' n' c' n' i σ3 from
     H n' 0 σ2 none 0 0 σ2 [] rfl (Nat.zero_le _) ⟨rfl,⟨[],A8.nil,by simp [Ch]⟩,fun i b e hb => (by simp at hb),fun a ha => (by cases ha),fun b hb => (by cases hb),List.nodup_nil,.refl _⟩ (.refl _)
   intro g
   induction g with
   | zero =>
     intro i τ p1 n1 c1 σ3 bs pA hi hA C2
     rw [List.take_of_length_le (by omega)] at hA
     exact DV.Q8 ⟨fun Ap => by omega,fun _ => h τ p1 n1 c1 σ3 bs rfl hA (hX.trans C2)⟩
   | succ g ih =>
     intro i τ p1 n1 c1 σ3 bs pA hi hA C2
     have Bk : i < n' := by omega
     obtain ⟨x,hx⟩ := aV.ex Bk
     obtain ⟨b,o,q1,m1,d1,rfl,Du,Wt⟩ := CD.at aV hx
     have hX3 := C2.trans hA.ext
     have ABD := Wt.mono Bt.mono hX3
     have dJ : m1 ≤ 1000000000 := by
       have := (mo1 x (List.mem_of_getElem? hx)).rd Wt
       omega
     have Zg : n1 = i := by
       obtain ⟨cs,a1,a2⟩ := hA.own
       have a3 := a1.1
       have a4 := a2.1
       rw [List.length_zip,hA.len,Nat.min_self,List.length_take] at a4
       omega
     have next : ∀ τ' p2 c2 σ4 bs',aW t τ' σ4 p2 (n1 + 1) c2 (l.take i ++ [x]) bs' → Ext τ τ' → AI ((i : Int) + 1) ∧ DV.QZ R t p2 (n1 + 1) c2 (aD b o) n' c' n' ((i : Int) + 1) σ4 := fun τ' p2 c2 σ4 bs' hA' NT =>
       ⟨AL Bk aV.big,ih (i + 1) τ' p2 (n1 + 1) c2 σ4 bs' (by omega) (by omega) (by rw [AY hx]; exact hA') (C2.trans NT)⟩
     refine DV.Q8 ⟨fun _ => ⟨b,o,rfl,by omega,q1,m1,d1,x.v,by simpa using Du.mono hX3,fun _ => ⟨fun U4 jH => ⟨?_,fun Qa jO => ?_⟩,fun Qa jO U4 jH => ?_⟩⟩,fun hh => by omega⟩
     · refine FX ABD dJ (fun jt ju y ho hy => ⟨_,_,_,rfl,fun Qa jO => aW.add hA hy (ho.rd Bt.mono) jO (by omega) fun τ' p2 c2 σ4 hA' NT => ⟨_,_,_,rfl,next _ _ _ _ _ hA' NT⟩⟩) jH
     · have AIH := (Hp.AS jO)
       refine AK.Ao jO (FX ABD dJ (fun jt ju y ho hy hny => ⟨_,_,_,rfl,aW.add hA hy (ho.rd Bt.mono) hny (by omega) fun τ' p2 c2 σ4 hA' NT => ⟨_,_,_,rfl,next _ _ _ _ _ hA' NT⟩⟩) jH)
     · have ABF := (Hp.AS jH)
       have AIH : (σ3.set U4 (.cells #[] 56 (0,0))) Qa = none := by rw [Hp.AJ (Ne.symm ABF.1)]; exact jO
       dsimp only
       rw [Hp.BQ (Ne.symm ABF.1)]
       refine AK.Ao AIH (FX ABD dJ (fun jt ju y ho hy hny => ⟨_,_,_,rfl,aW.add hA hy (ho.rd Bt.mono) hny (by omega) fun τ' p2 c2 σ4 hA' NT => ⟨_,_,_,rfl,next _ _ _ _ _ hA' NT⟩⟩) ABF.2)
 · have e : instF T ss t = (223,[]) := by unfold instF; rw [if_neg h0,if_neg (by rw [Decidable.not_not]; exact ht),hm]
   rw [e] at h'
   exact h' σ2 (by dsimp only; decide) (CH.trans A5)
end
end TwW
end
section
namespace TwW
open Go Tw Go.RowKit Go.Proofs.Tryz
theorem A8.ABG {P : Program} {s : Nat} {σ : Hp} {b o n c j : Nat} {cs : List Value} {v : Value} {T : TypeId} {Φ : Unit → Hp → Prop} (ho : A8 s σ (some ⟨b,o,none⟩) n c cs) (hj : j < n * s) (hz : ∀ w,(Go.sizeOf T).run P w = .ok 1 w) (hv : v.cells = #[v]) (h1 : v.oneCell' = true)
   (hΦ : ∀ obj,A8 s (σ.set b obj) (some ⟨b,o,none⟩) n c (cs.set j v) → Φ () (σ.set b obj)) : AK P (Instr.storeAt T (.pointer (some ⟨b,o + j,none⟩)) v) σ Φ := by
 obtain ⟨hl,yD,h⟩ := ho
 rcases h with ⟨hp,_⟩ | ⟨b',o',arr,T',hp,hb,jh,HX,NR⟩
 · cases hp
 · cases hp
   have hns : n * s ≤ c * s := Nat.mul_le_mul_right s jh
   refine AK.store hz hb (by rw [hv]; rfl) (by omega) (by rw [hv]; simpa using h1) (hΦ _ ⟨by rw [List.length_set]; exact hl,yD,.inr ⟨b,o,_,T',rfl,Hp.AB _ _ _,jh,by simp [IC]; exact HX,?_⟩⟩)
   rw [hv,← NR]
   refine List.ext_getElem? fun i => ?_
   simp only [NQ,Array.toList_setIfInBounds]
   rw [List.getElem?_take,List.getElem?_set,List.getElem?_take]
   by_cases hi : i < n * s
   · rw [if_pos hi,if_pos hi,List.getElem?_drop,List.getElem?_drop,List.getElem?_set]
     by_cases eB : j = i
     · subst eB
       have Ap : o + j < arr.size := by omega
       simp [Ap]
       exact Nat.lt_min.2 ⟨hj,by omega⟩
     · rw [if_neg (by omega),if_neg eB]
   · rw [if_neg hi,if_neg hi]
     split
     · omega
     · rfl
theorem GG.one (σ : Hp) (vs : List Value) (x : Pt) (h : GG σ vs x) : GX vs := by
 rw [show vs = [.int .i64 x.1,.int .u64 x.2] from h]
 intro u hu
 simp only [List.mem_cons,List.not_mem_nil,or_false] at hu
 rcases hu with rfl | rfl <;> rfl
section
variable {σ σ' σ0 : Hp} {R : Rr}
theorem VX {T Et ty : TypeId} {s bs : Nat} [J0 prog T Et s bs] {q : Option Addr} {j c b : Nat} {cs : List Value} {Φ : Value → Hp → Prop} (NR : E9 s σ q j cs) (h1 : GX cs) (hb : j * bs ≤ 140737488355328)
   (hΦ : ∀ p' c' σ',A8 s (σ.new σ') p' j c' cs → Ext σ σ' → Φ (.slice p' j c') σ') (hn : σ b = none) :
   AK prog (Builtin.append_ #[T,T] ty #[.slice (some ⟨b,0,none⟩) 0 0,.slice q j c]) (σ.set b (.cells #[] Et (0,0))) Φ := by
 refine DP A8.empty (NR.mono (.set hn)) h1 (by rw [Nat.zero_add]; exact hb) fun p' c' σ' Bg JL => ?_
 have hq : ∀ a : Addr,(some (⟨b,0,none⟩ : Addr)) = some a → σ a.block = none := fun a ha => by cases ha; exact hn
 rw [Nat.zero_add] at Bg ⊢
 rw [List.nil_append] at Bg
 exact hΦ p' c' σ' (A8.On Bg (FN hq JL (.set hn))) (Iy hq JL (.set hn))
theorem Wx {p : Option Addr} {n c : Nat} {ls : List Lb} (hr : EK σ p n ls) (hn : n ≤ 1000000000) (h : ∀ p' c' σ',EK (σ.new σ') p' n ls → Ext σ σ' → R (.returned (.slice p' n c')) σ') : Spec prog 33 #[.slice p n c] σ R :=
 Jk.start fun b hb => FX hr hn (fun p' c' σ' ho hx => ⟨_,_,_,rfl,h p' c' σ' (ho.rd Bt.mono) hx⟩) hb
theorem Wy {p : Option Addr} {n c : Nat} {ps : List Pt} (hr : Ae 2 GG σ p n ps) (hn : n ≤ 1000000000) (h : ∀ p' c' σ',GY 2 GG (σ.new σ') p' n c' ps → Ext σ σ' → R (.returned (.slice p' n c')) σ') : Spec prog 34 #[.slice p n c] σ R := by
 obtain ⟨h1,cs,h2,h3⟩ := hr
 exact Jc.start fun b hb => VX h2 (Ch.kI GG.one h3 (by decide)) (by omega) (fun p' c' σ' ho hx => ⟨_,_,_,rfl,h p' c' σ' ⟨h1,cs,ho,h3.1,fun i x hx => h3.2 i x hx⟩ hx⟩) hb
theorem CF.one (σ : Hp) (vs : List Value) (x : Sr) (h : CF σ vs x) : GX vs := by
 obtain ⟨p,n,c,q,m,d,rfl,_⟩ := h
 intro u hu
 simp only [List.mem_cons,List.not_mem_nil,or_false] at hu
 rcases hu with rfl | rfl <;> rfl
structure TOk (T : List Nd) : Prop where
 t : T.length ≤ 2000000
 mt : ∀ x ∈ T,x.mt.length ≤ 1000000000
 nm : ∀ x ∈ T,x.names.length ≤ 1000000000
structure SOk (ss : List Sr) : Prop where
 s : ss.length ≤ 1000000000000
 ls : ∀ s ∈ ss,s.ls.length ≤ 1000000000
 ps : ∀ s ∈ ss,s.ps.length ≤ 1000000000
theorem Wz {p : Option Addr} {n c : Nat} {ss : List Sr} (hr : Ae 2 CF σ p n ss) (hS : SOk ss) (h : ∀ p' c' σ',Ae 2 CF σ' p' n ss → Ext σ σ' → R (.returned (.slice p' n c')) σ') : Spec prog 13 #[.slice p n c] σ R := by
 have hl : ss.length = n := hr.1
 have ht := hS.s
 refine Cc.start ?_
 suffices H : ∀ g i : Nat,∀ p3 n3 c3 σ',n - i = g → i ≤ n → AW 2 CF σ σ' p3 n3 c3 (ss.take i) → Cc.Bh R p n c p3 n3 c3 i σ' from H n 0 none 0 0 σ rfl (Nat.zero_le _) (AW.nil (.refl _))
 intro g
 induction g with
 | zero =>
   intro i p3 n3 c3 σ' hg hi ho
   rw [List.take_of_length_le (by omega)] at ho
   have rF : n = n3 := hl.symm.trans ho.1.1
   subst rF
   exact Cc.A0 ⟨fun Ap => by omega,fun _ => h p3 c3 σ' (ho.rd CF.mono) ho.up⟩
 | succ g ih =>
   intro i p3 n3 c3 σ' hg hi ho
   have Bk : i < n := by omega
   obtain ⟨x,hx⟩ := hr.ex Bk
   obtain ⟨b,o,p1,k1,c1,q1,m1,d1,rfl,Du,Hz,hps,xT⟩ := CF.at hr hx
   have rG := List.mem_of_getElem? hx
   have a1 := hS.ls x rG
   have a2 := hS.ps x rG
   have a3 : x.ls.length = k1 := Hz.1
   have a4 : x.ps.length = m1 := hps.1
   have rF : n3 = i := by have := ho.1.1; rw [List.length_take] at this; omega
   have AIJ := Du.mono ho.up
   refine Cc.A0 ⟨fun _ => ⟨b,o,rfl,by omega,p1,k1,c1,by simpa using AIJ.1,by omega,q1,m1,d1,by simpa using AIJ.2.1,Wx (Hz.mono Bt.mono ho.up) (by omega) fun p4 c4 σ2 HL A5 => ⟨_,_,_,rfl,Kp.Ho A5,Wy ((hps.mono GG.mono ho.up).mono GG.mono A5) (by omega) fun p5 c5 σ3 dG C2 => ⟨_,_,_,rfl,fun Q9 AN0 => ?_⟩⟩⟩,fun hh => by omega⟩
   have EC := ho.mono CF.mono (A5.trans C2)
   have he : CF (σ3.del p3) [.slice p4 k1 c4,.slice p5 m1 c5] x :=
     ⟨p4,k1,c4,p5,m1,c5,rfl,HL.mono Bt.mono ((Ext.ID C2).trans (ho.new (A5.trans C2))),(dG.rd GG.mono).mono GG.mono ((Ext.Ci A5).trans (ho.new (A5.trans C2))),by obtain ⟨cs,XH,_⟩ := dG.2; exact A8.cap XH⟩
   refine AW.Jq CF.mono EC rfl (CF.one _ _ _ he) he (by omega) (fun p' c' σ4 Mh _ => ⟨_,_,_,rfl,AL Bk hr.big,ih (i + 1) _ _ _ _ (by omega) (by omega) (by rw [AY hx]; exact Mh)⟩) AN0
end
end TwW
end
section
namespace TwW
open Go Tw Go.RowKit Go.Proofs.Tryz
def Awk : Prop := ∀ (σ : Hp) (R : Rr),Gl σ → (∀ σ',Ext σ σ' → R (.returned (.bool true)) σ') → Spec prog 14 #[] σ R
end TwW
end
section
namespace TwW
open Go Tw Go.RowKit Go.Proofs.Tryz
def sX : ByteArray := ⟨#[120]⟩
def sA : ByteArray := ⟨#[97]⟩
def s1_ : ByteArray := ⟨#[49]⟩
def s2_ : ByteArray := ⟨#[50]⟩
def nV : Nd := ⟨2,0,ByteArray.mk #[],[⟨1,A1,sX⟩],0,0,0,[],false,0⟩
def nA : Nd := ⟨5,1,ByteArray.mk #[],[],0,0,0,[],false,1⟩
def T0 : List Nd := [nV,nA]
def ABI : List Lb := [(A1,sX),(sA,s1_)]
def ABJ : List Lb := [(A1,sX),(sA,s2_)]
abbrev v1 : Int := 4607182418800017408
abbrev v3 : Int := 4613937818241073152
abbrev v5 : Int := 4617315517961601024
abbrev v8 : Int := 4620693217682128896
def aX : List Sr := [⟨ABI,[(0,v1),(60,v3)]⟩,⟨ABJ,[(60,v5)]⟩]
theorem ty0 : NG T0 = some 2 := by kernel_rfl
theorem AN1 : Cv none aX = true := by kernel_rfl
theorem AIK : BC FF T0 aX 60 = some [⟨[],v8⟩] := by kernel_rfl
theorem AN2 : BC FF T0 aX 0 = some [⟨[],v1⟩] := by kernel_rfl
theorem AN3 : Dp T0 [] = some [2] := by kernel_rfl
theorem RG : Modest T0 aX := by
 refine ⟨by decide,fun x hx => ?_,by decide,fun s hs => ?_,fun s hs p hp => ?_⟩
 · simp only [T0,List.mem_cons,List.not_mem_nil,or_false] at hx
   rcases hx with rfl | rfl <;> decide
 · simp only [aX,List.mem_cons,List.not_mem_nil,or_false] at hs
   rcases hs with rfl | rfl <;> decide
 · simp only [aX,List.mem_cons,List.not_mem_nil,or_false] at hs
   rcases hs with rfl | rfl <;> simp at hp <;> (try rcases hp with rfl | rfl) <;> (try subst hp) <;> decide
theorem inst60 : instF T0 aX 60 = (0,[⟨[],v8⟩]) := by kernel_rfl
end TwW
end
section
namespace TwW
open Go Tw Go.RowKit Go.Proofs.Tryz
structure Bx where
 b5 : Nat
 b6 : Nat
 Cj : Nat
 BG : Nat
 Ck : Nat
 BO : Nat
 D : Nat
 l : Nat
 m : Nat
 p : Option Addr
 n : Nat
 c : Nat
 q : Option Addr
 k : Nat
 d : Nat
 r0 : Loop
abbrev Bx.L (X : Bx) (w : Option Addr) (k e : Nat) (lo : Loop) : List (Nat × Obj) :=
 [(X.l,.loop lo),(X.D,.deferred (some [])),(X.BO,.cells #[.slice w k e] 23 (0,0)),(X.Ck,.cells #[.map (some X.m)] 99 (0,0)),(X.BG,.cells #[.int .i64 0] 24 (0,0)),(X.Cj,.cells #[.slice none 0 0] 23 (0,0)),(X.b6,.cells #[.slice X.q X.k X.d] 23 (0,0)),(X.b5,.cells #[.slice X.p X.n X.c] 22 (0,0))]
abbrev Bx.bl (X : Bx) : List Nat := [X.l,X.D,X.BO,X.Ck,X.BG,X.Cj,X.b6,X.b5]
def Bx.nd (X : Bx) : Prop := X.bl.Nodup
def Bx.off (X : Bx) (B : Hp) : Prop := ∀ b ∈ X.bl,B b = none
theorem A8.here {s : Nat} {σ σ' : Hp} {p : Option Addr} {n c : Nat} {cs : List Value} (h : A8 s σ p n c cs) (hs : ∀ a,p = some a → σ' a.block = σ a.block) : A8 s σ' p n c cs := by
 obtain ⟨h1,h2,h3 | ⟨b,o,arr,T,rfl,hb,r⟩⟩ := h
 · exact ⟨h1,h2,.inl h3⟩
 · exact ⟨h1,h2,.inr ⟨b,o,arr,T,rfl,(hs _ rfl).trans hb,r⟩⟩
theorem vK {A B : Hp} {L : List (Nat × Obj)} {i b : Nat} {o : Obj} (hn : (names L).Nodup) (hi : L[i]? = some (b,o)) : Kp [b] (Az A L) (Az B L) := fun x hx u hu => by
 rw [List.mem_singleton] at hx; subst hx
 rw [Ez hn hi] at hu ⊢; exact hu
structure St (σ B : Hp) (m b o e k : Nat) : Prop where
 ext : Ext σ B
 own : ∃ pl cl pp cc ds,A8 2 B (some ⟨b,o,none⟩) 1 e [.slice pl 0 cl,.slice pp k cc] ∧ A8 2 B pp k cc ds ∧ (∀ a,pp = some a → a.block ≠ b ∧ a.block ≠ m ∧ σ a.block = none)
 map : MS (fun v _ => v = .int .i64 0) B m [(Gb [],(0 : Int))]
 hb : σ b = none
 hm : σ m = none
 ne : m ≠ b
theorem St.mono {σ B B' : Hp} {m b o e k : Nat} (h : St σ B m b o e k) (hx : Ext B B') : St σ B' m b o e k :=
 ⟨h.ext.trans hx,let ⟨pl,cl,pp,cc,ds,h1,h2,h3⟩ := h.own; ⟨pl,cl,pp,cc,ds,h1.mono hx,h2.mono hx,h3⟩,h.map.mono hx,h.hb,h.hm,h.ne⟩
theorem ABK (w : World) : (Go.sizeOf 71).run prog w = .ok 2 w := by kernel_rfl
theorem ABL (w : World) : (Go.sizeOf 38).run prog w = .ok 1 w := by kernel_rfl
theorem fx (w : World) : (Go.sizeOf 23).run prog w = .ok 1 w := by kernel_rfl
theorem uT (w : World) : (Go.sizeOf 24).run prog w = .ok 1 w := by kernel_rfl
section
variable {σ B : Hp} {R : Rr} {X : Bx}
theorem Tp {DO b o e k Xy aJ : Nat} {t v : Int} {vl : Value} {jl : Option Addr} (hn : (DO :: X.bl).Nodup) (UQ : X.off B) (h19 : B DO = none) (h : St σ B X.m b o e k) (hk : k ≤ 10)
   (next : ∀ B',X.off B' → St σ B' X.m b o e (k + 1) → R (.returned (.bool true)) (Az B' (X.L (some ⟨b,o,none⟩) 1 e (lp X.r0 .ready none)))) :
   CC.r9 R X.l X.r0 X.Ck X.BO t DO 0 jl Xy aJ 1 0 (Az B ((DO,.cells #[vl,.int .u64 v] 71 (0,0)) :: X.L (some ⟨b,o,none⟩) 1 e (lp X.r0 .busy none))) := by
 obtain ⟨pl,cl,pp,cc,ds,h1,h2,h3⟩ := h.own
 let L : List (Nat × Obj) := (DO,.cells #[vl,.int .u64 v] 71 (0,0)) :: X.L (some ⟨b,o,none⟩) 1 e (lp X.r0 .busy none)
 have hL : (names L).Nodup := hn
 have ho : P7 L B := fun x hx => by
   rcases List.mem_cons.1 hx with rfl | hx
   · exact h19
   · exact UQ x hx
 have xP : Ext B (Az B L) := P7.ext hL ho
 have e14 : Hp.ld (Az B L) ⟨X.BO,0,none⟩ = some (.slice (some ⟨b,o,none⟩) 1 e) := ZA (i := 3) hL rfl rfl
 have Du : Hp.ld (Az B L) ⟨b,(o + Int.toNat 0 * 2) + 1,none⟩ = some (.slice pp k cc) := by
   obtain ⟨_,_,h0 | ⟨b',o',hp,hl⟩⟩ := h1.rd.mono xP
   · cases h0
   · cases hp
     simpa using hl.2.1
 refine CC.sK ⟨_,1,e,e14,_,1,e,e14,b,o,rfl,by decide,pp,k,cc,Du,v,ZA (i := 0) hL rfl rfl,fun O5 AN5 => ?_⟩
 obtain ⟨n109,hB9⟩ := CR (L := L) AN5
 have x9 := Ext.set (o := .cells #[.int .i64 t,.int .u64 v] 50 (0,0)) hB9
 show AK prog (Builtin.append_ #[38,38] 38 #[.slice pp k cc,.slice (some ⟨O5,0,none⟩) 1 1]) ((Az B L).set O5 (.cells #[.int .i64 t,.int .u64 v] 50 (0,0))) _
 rw [HE n109]
 have key : ∀ y,B y ≠ none → (∀ a,pp = some a → y ≠ a.block) → ∀ (p' : Option Addr) (σ5 : Hp),Ext ((B.set O5 (.cells #[.int .i64 t,.int .u64 v] 50 (0,0))).del pp) (σ5.del p') → σ5 y = B y ∧ ∀ a,p' = some a → y ≠ a.block := fun y hy A6 p' σ5 hx => by
   cases hh : B y with
   | none => exact absurd hh hy
   | some u =>
     obtain ⟨a1,a2⟩ := AR.1 (hx y u (AR.2 ⟨A6,x9 _ _ hh⟩))
     exact ⟨a2,a1⟩
 have hbB : B b ≠ none := h1.block _ rfl
 have hmB := h.map.known
 refine AK.E1 hL (ho.set n109) (DP (h2.mono x9) (q := some ⟨O5,0,none⟩) (ys := [.int .i64 t,.int .u64 v]) ⟨rfl,by omega,.inr ⟨O5,0,rfl,Aw.GA (c := [.int .i64 t,.int .u64 v]) (Hp.AB _ _ _)⟩⟩ (fun u hu => by
   simp only [List.mem_cons,List.not_mem_nil,or_false] at hu
   rcases hu with rfl | rfl <;> rfl) (by omega) fun p' c' σ5 RB UT AIL => ⟨p',k + 1,c',rfl,vK (i := 3) hL rfl,b,o,rfl,by decide,?_⟩)
 obtain ⟨kb1,kb2⟩ := key b hbB (fun a ha e => (h3 a ha).1 e.symm) p' σ5 UT
 obtain ⟨km1,km2⟩ := key X.m hmB (fun a ha e => (h3 a ha).2.1 e.symm) p' σ5 UT
 have AN6 : Ext σ σ5 := fun y u hy => by
   obtain ⟨a1,_⟩ := key y (by rw [h.ext _ _ hy]; simp) (fun a ha e => by rw [e,(h3 a ha).2.2] at hy; cases hy) p' σ5 UT
   rw [a1]; exact h.ext _ _ hy
 have h15 : A8 2 σ5 (some ⟨b,o,none⟩) 1 e [.slice pl 0 cl,.slice pp k cc] := A8.here h1 fun a ha => by cases ha; exact kb1
 rw [show (o + Int.toNat 0 * 2) + 1 = o + 1 by simp]
 refine AK.E1 hL AIL (A8.ABG h15 (j := 1) (by decide) ABL rfl rfl fun obj h16 fy => ⟨by unfold AI; omega,?_⟩)
 have fy : P7 L (σ5.set b obj) := fy
 refine CC.Q2 ⟨fun hh => absurd hh (by decide),fun _ => ⟨Ez (L := L) (i := 1) hL rfl,?_⟩⟩
 have AN7 : (σ5.set b obj) DO = none := fy DO (List.mem_cons_self ..)
 have n19 : DO ∉ X.bl := (List.nodup_cons.1 hn).1
 have hX : X.nd := (List.nodup_cons.1 hn).2
 have e1 : (Az (σ5.set b obj) L).set X.l (.loop (lp X.r0 .ready none)) = Az ((σ5.set b obj).set DO (.cells #[vl,.int .u64 v] 71 (0,0))) (X.L (some ⟨b,o,none⟩) 1 e (lp X.r0 .ready none)) := by
   rw [N3 (L := L) (i := 1) hL rfl]
   exact HE (L := X.L (some ⟨b,o,none⟩) 1 e (lp X.r0 .ready none)) n19
 rw [e1]
 have DT := Ext.set (o := .cells #[vl,.int .u64 v] 71 (0,0)) AN7
 refine next _ (fun y hy => ?_) (St.mono ⟨?_,⟨pl,cl,p',c',_,h16,A8.here RB ?_,fun a ha => ⟨?_,?_,?_⟩⟩,h.map.loc ?_,h.hb,h.hm,h.ne⟩ DT)
 · rw [Hp.AJ (show y ≠ DO from fun e => n19 (e ▸ hy))]; exact fy y (List.mem_cons_of_mem _ hy)
 · intro y u hy
   rw [Hp.AJ (fun e => by rw [e,h.hb] at hy; cases hy)]; exact AN6 y u hy
 · intro a ha
   exact Hp.AJ (fun e => kb2 a ha e.symm)
 · exact fun e => kb2 a ha e.symm
 · exact fun e => km2 a ha e.symm
 · cases hh : σ a.block with
   | none => rfl
   | some u =>
     exfalso
     exact (key a.block (by rw [h.ext _ _ hh]; simp) (fun a' aU e => by rw [e,(h3 a' aU).2.2] at hh; cases hh) p' σ5 UT).2 a ha rfl
 · rw [Hp.AJ h.ne]; exact km1
theorem jP {w : Option Addr} {k e : Nat} {x v : Int} (hn : X.nd) (UQ : X.off B) (hx : Ext σ B) (hg : Gl σ) (hr : Ae 10 M8 σ X.p X.n T0) (hs : Ae 2 CF σ X.q X.k aX) (hM : BC FF T0 aX x = some [⟨[],v⟩]) (hx0 : 0 ≤ x ∧ x ≤ 60)
   (next : ∀ B' p1 c1,Ext B B' → X.off B' → Ae 2 CD B' p1 1 [⟨[],v⟩] → CC.QR R X.l X.r0 X.Ck X.BO x p1 1 c1 1 0 (Az B' (X.L w k e (lp X.r0 .busy none)))) :
   CC.J4 R X.l X.r0 X.b5 X.b6 X.Cj X.BG X.Ck X.BO x (Az B (X.L w k e (lp X.r0 .ready none))) := by
 have hL : (names (X.L w k e (lp X.r0 .busy none))).Nodup := hn
 have hL' : (names (X.L w k e (lp X.r0 .ready none))).Nodup := hn
 have el : (Az B (X.L w k e (lp X.r0 .ready none))).set X.l (.loop (lp X.r0 .busy none)) = Az B (X.L w k e (lp X.r0 .busy none)) := Hp.set_set
 have Tc : T0.length = X.n := hr.1
 have hl3 : T0.length = 2 := rfl
 have Tq : rH aX := rH.of (T := T0) RG AN1
 refine CC.Ls ⟨Ez (i := 0) hL' rfl,?_⟩
 rw [el]
 refine ⟨X.p,X.n,X.c,ZA (i := 7) hL rfl rfl,X.q,X.k,X.d,ZA (i := 6) hL rfl rfl,?_⟩
 refine Spec.E1 hL UQ (QK (hg.mono hx) (hr.mono M8.mono hx) (hs.mono CF.mono hx) Tq (by omega) (by omega) AN3 (fun l p' n' c' σ1 hm CH aV Lf => ?_) fun hm => ?_)
 · rw [hM] at hm; cases hm
   have Zg : 1 = n' := aV.1
   subst Zg
   exact ⟨_,_,_,_,rfl,fun hh => absurd rfl hh,fun _ => next σ1 p' c' CH Lf aV⟩
 · rw [hM] at hm; cases hm
def uU (σ B : Hp) (m : Nat) (w : Option Addr) (j e k : Nat) : Prop :=
 (k = 0 ∧ w = none ∧ j = 0 ∧ e = 0 ∧ Ext σ B ∧ σ m = none ∧ MS (fun v _ => v = .int .i64 0) B m ([] : List (ByteArray × Int))) ∨ (0 < k ∧ ∃ b o,w = some ⟨b,o,none⟩ ∧ j = 1 ∧ St σ B m b o e k)
theorem uU.ext {m j e k : Nat} {w : Option Addr} (h : uU σ B m w j e k) : Ext σ B := by
 rcases h with ⟨_,_,_,_,hx,_⟩ | ⟨_,b,o,_,_,h⟩
 · exact hx
 · exact h.ext
theorem uU.mono {B' : Hp} {m j e k : Nat} {w : Option Addr} (h : uU σ B m w j e k) (hx : Ext B B') : uU σ B' m w j e k := by
 rcases h with ⟨h0,h1,h2,h3,h4,h5,h6⟩ | ⟨h0,b,o,h1,h2,h⟩
 · exact .inl ⟨h0,h1,h2,h3,h4.trans hx,h5,h6.mono hx⟩
 · exact .inr ⟨h0,b,o,h1,h2,h.mono hx⟩
theorem dK {w p1 : Option Addr} {j e k c1 : Nat} {t v : Int} (hn : X.nd) (UQ : X.off B) (h : uU σ B X.m w j e k) (hk : k ≤ 10) (hr : Ae 2 CD B p1 1 [⟨[],v⟩])
   (next : ∀ B' b o e',X.off B' → St σ B' X.m b o e' (k + 1) → R (.returned (.bool true)) (Az B' (X.L (some ⟨b,o,none⟩) 1 e' (lp X.r0 .ready none)))) :
   CC.QR R X.l X.r0 X.Ck X.BO t p1 1 c1 1 0 (Az B (X.L w j e (lp X.r0 .busy none))) := by
 have hL : (names (X.L w j e (lp X.r0 .busy none))).Nodup := hn
 have xP : Ext B (Az B (X.L w j e (lp X.r0 .busy none))) := P7.ext hL UQ
 obtain ⟨V2,k8,q,m',d,rfl,hl,aV⟩ := CD.at hr (i := 0) (x := ⟨[],v⟩) rfl
 have hm0 : 0 = m' := aV.1
 subst hm0
 refine CC.Q2 ⟨fun _ => ⟨V2,k8,rfl,by decide,q,0,d,v,by simpa using hl.mono xP,fun DO h19 => ?_⟩,fun hh => absurd (by decide) hh⟩
 obtain ⟨n19,AN8⟩ := CR (L := X.L w j e (lp X.r0 .busy none)) h19
 have To : (DO :: X.bl).Nodup := List.nodup_cons.2 ⟨n19,hn⟩
 let L : Value → List (Nat × Obj) := fun lo => (DO,.cells #[.slice q 0 d,.int .u64 v] 71 (0,0)) :: X.L w j e (lp X.r0 .busy none)
 let L0 : List (Nat × Obj) := (DO,.cells #[.slice none 0 0,.int .u64 0] 71 (0,0)) :: X.L w j e (lp X.r0 .busy none)
 let L1 : List (Nat × Obj) := (DO,.cells #[.slice q 0 d,.int .u64 v] 71 (0,0)) :: X.L w j e (lp X.r0 .busy none)
 have aY : (names L1).Nodup := To
 have Lf : ∀ {B'},X.off B' → B' DO = none → P7 L1 B' := fun ho h9 x hx => by
   rcases List.mem_cons.1 hx with rfl | hx
   · exact h9
   · exact ho x hx
 show AK prog (Instr.storeAt 71 (.pointer (some ⟨DO,0,none⟩)) (.agg #[.slice q 0 d,.int .u64 v])) (Az B L0) _
 refine AK.TG (L := L0) (i := 0) (c := #[.slice none 0 0,.int .u64 0]) (c' := #[.slice q 0 d,.int .u64 v]) ABK To rfl rfl rfl rfl rfl ?_
 show ∃ bm : Option Nat,Hp.ld (Az B L1) ⟨X.Ck,0,none⟩ = some (.map bm) ∧ ∃ lC : Option Addr,∃ lD : Nat,∃ lE : Nat,Hp.ld (Az B L1) ⟨DO,0,none⟩ = some (.slice lC lD lE) ∧ Spec prog 49 #[.slice lC lD lE] (Az B L1) _
 have AIM : ∀ {B' : Hp} {R' : Rr},Ext B B' → X.off B' → B' DO = none → (∀ B2,Ext B' B2 → X.off B2 → B2 DO = none → R' (.returned (.string (Gb []))) (Az B2 L1)) → Spec prog 49 #[.slice q 0 d] (Az B' L1) R' := fun hx ho h9 hh =>
   Spec.E1 aY (Lf ho h9) (FZ (aV.mono Bt.mono hx) ⟨Nat.zero_le _,fun x hx => by cases hx⟩ fun B2 A5 Ba => hh B2 A5 (fun x hx => Ba x (List.mem_cons_of_mem _ hx)) (Ba DO (List.mem_cons_self ..)))
 refine ⟨some X.m,ZA (L := L1) (i := 4) aY rfl rfl,q,0,d,ZA (L := L1) (i := 0) aY rfl rfl,AIM (.refl _) UQ AN8 fun B2 A5 Ba h92 => ⟨_,rfl,vK (L := L1) (i := 4) aY rfl,?_⟩⟩
 have AIN : Ext B2 (Az B2 L1) := P7.ext aY (Lf Ba h92)
 rcases (h.mono A5) with ⟨rfl,rfl,rfl,rfl,yt,hm,kA⟩ | ⟨hk0,b,o,rfl,rfl,Cg⟩
 · refine (kA.mono AIN).ZU (z := .int .i64 0) (fun w => by kernel_rfl) (fun EB => ⟨0,false,rfl,fun _ => ?_,fun hh => (by cases hh)⟩) fun v' x' hh => (by cases hh)
   refine ⟨none,0,0,ZA (L := L1) (i := 3) aY rfl rfl,some X.m,ZA (L := L1) (i := 4) aY rfl rfl,q,0,d,ZA (L := L1) (i := 0) aY rfl rfl,AIM A5 Ba h92 fun B3 C2 EC h93 => ⟨_,rfl,vK (L := L1) (i := 4) aY rfl,?_⟩⟩
   refine AK.E1 aY (Lf EC h93) ((kA.mono C2).put (x := (0 : Int)) rfl fun om hm4 AOA => ?_)
   have Mh : P7 L1 (B3.set X.m om) := AOA
   have xd : MS (fun v _ => v = .int .i64 0) (B3.set X.m om) X.m [(Gb [],(0 : Int))] := hm4
   have AA0 : Ext σ (B3.set X.m om) := fun y u hy => by
     rw [Hp.AJ (show y ≠ X.m from fun e => by rw [e,hm] at hy; cases hy)]; exact C2 _ _ (yt _ _ hy)
   have AOB : EK (B3.set X.m om) q 0 [] := Ae.nil
   refine ⟨none,0,0,ZA (L := L1) (i := 3) aY rfl rfl,q,0,d,ZA (L := L1) (i := 0) aY rfl rfl,fun jn h91 => ?_⟩
   obtain ⟨n91,AOC⟩ := CR (L := L1) h91
   rw [HE n91]
   refine AK.E1 aY (Mh.set n91) (FX AOB (by decide) (fun p5 c5 B5 RB UT ABM => ⟨p5,0,c5,rfl,vK (L := L1) (i := 3) aY rfl,fun sJ h96 => ?_⟩) AOC)
   obtain ⟨n96,AOD⟩ := CR (L := L1) h96
   have ABM : P7 L1 B5 := ABM
   rw [HE n96]
   refine AK.E1 aY (ABM.set n96) (DP (A8.nil (s := 2)) (q := some ⟨sJ,0,none⟩) (ys := [.slice p5 0 c5,.slice none 0 0]) ⟨rfl,by omega,.inr ⟨sJ,0,rfl,Aw.GA (c := [.slice p5 0 c5,.slice none 0 0]) (Hp.AB _ _ _)⟩⟩ (fun u hu => by
     simp only [List.mem_cons,List.not_mem_nil,or_false] at hu
     rcases hu with rfl | rfl <;> rfl) (by decide) fun p6 c6 B6 ho6 hx6 AIO => ⟨p6,1,c6,rfl,?_⟩)
   obtain ⟨b,o,rfl⟩ : ∃ b o,p6 = some ⟨b,o,none⟩ := by
     rcases ho6.2.2 with ⟨_,h2,_⟩ | ⟨b,o,_,_,hp,_⟩
     · cases h2
     · exact ⟨b,o,hp⟩
   have kk : ∀ y u,B5 y = some u → B6 y = some u ∧ y ≠ b := fun y u hy => by
     obtain ⟨a1,a2⟩ := AR.1 (hx6 y u (AR.2 ⟨fun a ha => (by cases ha),Ext.set AOD _ _ hy⟩))
     exact ⟨a2,fun e => a1 _ rfl e⟩
   refine AK.TG (L := L1) (i := 3) (c := #[.slice none 0 0]) (c' := #[.slice (some ⟨b,o,none⟩) 1 c6]) fx aY rfl rfl rfl rfl rfl ?_
   have qi : ∃ u,B5 X.m = some u := by
     cases hh : B5 X.m with
     | none => exact absurd hh (xd.mono UT).known
     | some u => exact ⟨u,rfl⟩
   obtain ⟨um,hum⟩ := qi
   have Cg : St σ B6 X.m b o c6 0 := ⟨fun y u hy => (kk y u (UT _ _ (AA0 _ _ hy))).1,⟨p5,c5,none,0,[],ho6,A8.nil,fun a ha => (by cases ha)⟩,(xd.mono UT).loc (by rw [(kk _ _ hum).1,hum]),?_,hm,(kk _ _ hum).2⟩
   · exact Tp To (fun x hx => AIO x (List.mem_cons_of_mem _ hx)) (AIO DO (List.mem_cons_self ..)) Cg (by decide) fun B7 ho7 AOE => next B7 b o c6 ho7 AOE
   · cases hh : σ b with
     | none => rfl
     | some u => exact absurd rfl (kk b u (UT _ _ (AA0 _ _ hh))).2
 · refine (Cg.map.mono AIN).ZU (z := .int .i64 0) (fun w => by kernel_rfl) (fun EB => by simp [Dn] at EB) fun v' x' hh hv => ?_
   subst hv
   exact ⟨0,true,rfl,fun hh => (by cases hh),fun _ => Tp To Ba h92 Cg hk fun B3 EC AOF => next B3 b o e EC AOF⟩
end
end TwW
end
section
namespace TwW
open Go Tw Go.RowKit Go.Proofs.Tryz
theorem AIP : FL T0 aX = 0 := by kernel_rfl
theorem jQ [E5] {R : Rr} {σ : Hp} {p q : Option Addr} {c d : Nat} {p1 q1 : Option Addr} {n1 c1 m1 d1 : Nat} (h : ∀ σ',Ext σ σ' → R (.returned (.int .i64 0)) σ') : Spec prog 51 #[.agg #[.slice p 0 c,.slice p1 n1 c1],.agg #[.slice q 0 d,.slice q1 m1 d1]] σ R :=
 Ny.start fun _ _ => Ly (ls := []) (ms := []) Ae.nil Ae.nil fun σ' hx => ⟨_,rfl,h σ' hx⟩
theorem jR {R : Rr} {σ0 : Hp} {b1 b2 b3 l : Nat} {I : Nat → Hp → Prop} (h0 : I 0 σ0) (hI : ∀ j σ,I j σ → Hp.ld σ ⟨b1,0,none⟩ = some (.int .i64 0) ∧ Hp.ld σ ⟨b2,0,none⟩ = some (.int .i64 60) ∧ Hp.ld σ ⟨b3,0,none⟩ = some (.int .i64 60))
   (s0 : ∀ σ,I 0 σ → IE prog l #[.int .i64 0] σ (fun e σ' => e = .returned (.bool true) ∧ I 1 σ')) (s1 : ∀ σ,I 1 σ → IE prog l #[.int .i64 60] σ (fun e σ' => e = .returned (.bool true) ∧ I 2 σ')) (kL : ∀ σ,I 2 σ → R (.returned (.tuple #[])) σ) :
   Spec prog 71 #[.func (.yield l) #[] #[],.pointer (aD b1 0),.pointer (aD b2 0),.pointer (aD b3 0)] σ0 R := by
 obtain ⟨a1,a2,a3⟩ := hI 0 σ0 h0
 refine CP.start ⟨0,a1,CP.PC ⟨l,rfl,(s0 σ0 h0).mono fun e σ1 he => ?_⟩⟩
 obtain ⟨rfl,hi⟩ := he
 obtain ⟨c1,c2,c3⟩ := hI 1 σ1 hi
 refine ⟨true,rfl,fun _ => ⟨60,c2,60,c3,by unfold AI; omega,fun _ => ⟨60,c2,by unfold AI; omega,CP.PC ⟨l,rfl,(s1 σ1 hi).mono fun e σ2 he => ?_⟩⟩,fun hh => absurd (by decide) hh⟩,fun hh => absurd hh (by decide)⟩
 obtain ⟨rfl,hi2⟩ := he
 obtain ⟨d1,d2,d3⟩ := hI 2 σ2 hi2
 exact ⟨true,rfl,fun _ => ⟨60,d2,60,d3,by unfold AI; omega,fun hh => absurd hh (by decide),fun _ => kL σ2 hi2⟩,fun hh => absurd hh (by decide)⟩
section
variable {σ : Hp} {R : Rr}
theorem AOG : Sort.SWO (Proofs.ltOf fun (_ _ : Unit) => (0 : Int)) := ⟨fun _ => rfl,fun _ _ _ h => (by cases h),fun _ _ _ _ _ => rfl⟩
theorem pc {p q : Option Addr} {n c k d : Nat} (hg : Gl σ) (hr : Ae 10 M8 σ p n T0) (hs : Ae 2 CF σ q k aX) (h : ∀ b o e p2 c2 σ',Ext σ σ' → Hp.ld σ' ⟨b,o + 1,none⟩ = some (.slice p2 2 c2) → R (.returned (.tuple #[.slice (some ⟨b,o,none⟩) 1 e,.int .i64 0])) σ') :
   Spec prog 35 #[.slice p n c,.slice q k d,.int .i64 0,.int .i64 60,.int .i64 60] σ R := by
 refine CC.start fun b5 hb5 b6 hb6 Cj ABN BG Tn => ?_
 let L1 : List (Nat × Obj) := [(b5,.cells #[.slice p n c] 22 (0,0))]
 let L2 : List (Nat × Obj) := (b6,.cells #[.slice q k d] 23 (0,0)) :: L1
 let L3 : List (Nat × Obj) := (Cj,.cells #[.slice none 0 0] 23 (0,0)) :: L2
 let L4 : List (Nat × Obj) := (BG,.cells #[.int .i64 0] 24 (0,0)) :: L3
 obtain ⟨n6,h6⟩ := CR (L := L1) hb6
 obtain ⟨n10,TJ⟩ := CR (L := L2) ABN
 obtain ⟨n11,fi⟩ := CR (L := L3) Tn
 have j2 : (names L4).Nodup := List.nodup_cons.2 ⟨n11,List.nodup_cons.2 ⟨n10,List.nodup_cons.2 ⟨n6,by simp [L1,names]⟩⟩⟩
 have Mh : P7 L4 σ := fun b hb => by
   simp only [L4,L3,L2,L1,names,List.map_cons,List.map_nil,List.mem_cons,List.not_mem_nil,or_false] at hb
   rcases hb with rfl | rfl | rfl | rfl
   · exact fi
   · exact TJ
   · exact h6
   · exact hb5
 refine ⟨p,n,c,ZA (L := L4) (i := 3) j2 rfl rfl,q,k,d,ZA (L := L4) (i := 2) j2 rfl rfl,?_⟩
 show Spec prog 28 #[.slice p n c,.slice q k d] (Az σ L4) _
 refine Spec.E1 j2 Mh (VW hr hs RG fun σ1 CH Lf => ⟨_,rfl,fun A6 => absurd AIP A6,fun _ => PW ⟨_,rfl,fun hh => absurd hh (by decide),fun _ => PW ⟨_,rfl,fun hh => absurd hh (by decide),fun _ => ⟨fun hh => absurd hh (by decide),fun _ => ⟨fun hh => absurd hh (by decide),fun _ => ⟨by unfold AI; omega,by decide,fun Ro e49 => ⟨fun hh => ?_,fun _ => ?_⟩⟩⟩⟩⟩⟩⟩)
 · have e1 : Ro = 1 := e49.trans (by decide)
   rw [e1] at hh; exact absurd hh (by decide)
 have Lf : P7 L4 σ1 := Lf
 refine AK.E1 j2 Lf (EU fun m hm pd => ⟨m,rfl,fun Ck AOH => ?_⟩)
 have pd : P7 L4 (σ1.set m (.map #[] 0)) := pd
 have xm := Ext.set (o := .map #[] 0) hm
 have AOI : σ m = none := BD CH hm
 obtain ⟨n13,h13⟩ := CR (L := L4) AOH
 let L5 : List (Nat × Obj) := (Ck,.cells #[.map none] 99 (0,0)) :: L4
 let L5' : List (Nat × Obj) := (Ck,.cells #[.map (some m)] 99 (0,0)) :: L4
 have hn5 : (names L5').Nodup := List.nodup_cons.2 ⟨n13,j2⟩
 show AK prog (Instr.storeAt 99 (.pointer (some ⟨Ck,0,none⟩)) (.map (some m))) (Az (σ1.set m (.map #[] 0)) L5) _
 refine AK.TG (L := L5) (i := 0) (c := #[.map none]) (c' := #[.map (some m)]) (fun w => by kernel_rfl) (List.nodup_cons.2 ⟨n13,j2⟩) rfl rfl rfl rfl rfl fun BO AOK => ?_
 obtain ⟨n14,h14⟩ := CR (L := L5') AOK
 let L6 : List (Nat × Obj) := (BO,.cells #[.slice none 0 0] 23 (0,0)) :: L5'
 have hn6 : (names L6).Nodup := List.nodup_cons.2 ⟨n14,hn5⟩
 have ho6 : P7 L6 (σ1.set m (.map #[] 0)) := fun b hb => by
   rcases List.mem_cons.1 hb with rfl | hb
   · exact h14
   rcases List.mem_cons.1 hb with rfl | hb
   · exact h13
   exact pd b hb
 show Spec prog 48 #[.int .i64 0,.int .i64 60,.int .i64 60] (Az (σ1.set m (.map #[] 0)) L6) _
 refine Spec.E1 hn6 ho6 (Nn.start fun c3 hc3 c4 hc4 c5 hc5 pe => ⟨_,_,_,rfl,_,_,rfl,CP.en,fun D l r0 hDl hD hl hy => ?_⟩)
 have pe : P7 L6 ((((σ1.set m (.map #[] 0)).set c3 (.cells #[.int .i64 0] 2 (0,0))).set c4 (.cells #[.int .i64 60] 2 (0,0))).set c5 (.cells #[.int .i64 60] 2 (0,0))) := pe
 have x3 := Ext.set (o := .cells #[.int .i64 0] 2 (0,0)) hc3
 have x4 := Ext.set (o := .cells #[.int .i64 60] 2 (0,0)) hc4
 have x5 := Ext.set (o := .cells #[.int .i64 60] 2 (0,0)) hc5
 have g3 := (x4.trans x5) c3 _ (Hp.AB _ _ _)
 have g4 := x5 c4 _ (Hp.AB _ _ _)
 have g5 : ((((σ1.set m (.map #[] 0)).set c3 (.cells #[.int .i64 0] 2 (0,0))).set c4 (.cells #[.int .i64 60] 2 (0,0))).set c5 (.cells #[.int .i64 60] 2 (0,0))) c5 = some (.cells #[.int .i64 60] 2 (0,0)) := Hp.AB _ _ _
 have AOL : MS (fun v _ => v = .int .i64 0) _ m ([] : List (ByteArray × Int)) := (MS.fresh (E := fun v _ => v = .int .i64 0) (σ := σ1)).mono (x3.trans (x4.trans x5))
 have gm := (x3.trans (x4.trans x5)) m _ (Hp.AB _ _ _)
 have xP := CH.trans (xm.trans (x3.trans (x4.trans x5)))
 generalize hB0 : ((((σ1.set m (.map #[] 0)).set c3 (.cells #[.int .i64 0] 2 (0,0))).set c4 (.cells #[.int .i64 60] 2 (0,0))).set c5 (.cells #[.int .i64 60] 2 (0,0))) = B0 at *
 clear x3 x4 x5 hc3 hc4 hc5 xm
 obtain ⟨nD,hDB⟩ := CR (L := L6) hD
 obtain ⟨nl,hlB⟩ := CR (L := L6) hl
 let X : Bx := ⟨b5,b6,Cj,BG,Ck,BO,D,l,m,p,n,c,q,k,d,r0⟩
 have hX : X.nd := List.nodup_cons.2 ⟨fun hm => by
   rcases List.mem_cons.1 hm with e | hm
   · exact hDl e.symm
   · exact nl hm,List.nodup_cons.2 ⟨nD,hn6⟩⟩
 have hoX : X.off B0 := fun b hb => by
   rcases List.mem_cons.1 hb with rfl | hb
   · exact hlB
   rcases List.mem_cons.1 hb with rfl | hb
   · exact hDB
   exact pe b hb
 let σb := B0.del (some ⟨m,0,none⟩)
 have ot : σb m = none := by
   cases hh : σb m with
   | none => rfl
   | some u => exact absurd rfl ((AR.1 hh).1 _ rfl)
 have xb : Ext σb B0 := Ext.Iw _ _
 have xσ : Ext σ σb := fun y u hy => AR.2 ⟨fun a ha e => (by cases ha; rw [e,AOI] at hy; cases hy),xP _ _ hy⟩
 have db : ∀ {y : Nat} {a : Array Value} {t : Nat},B0 y = some (.cells a t (0,0)) → σb y = some (.cells a t (0,0)) := fun {y a t} hy => AR.2 ⟨fun a' ha e => (by cases ha; rw [e,gm] at hy; cases hy),hy⟩
 show Spec prog 71 #[.func (.yield l) #[] #[],.pointer (aD c3 0),.pointer (aD c5 0),.pointer (aD c4 0)] (Az B0 (X.L none 0 0 (lp X.r0 .ready none))) _
 have AOM : ∀ {B w j e lo},X.off B → Ext B (Az B (X.L w j e lo)) := fun {B w j e lo} ho => P7.ext (L := X.L w j e lo) hX ho
 have step : ∀ (x v : Int) (j : Nat),j ≤ 10 → 0 ≤ x ∧ x ≤ 60 → BC FF T0 aX x = some [⟨[],v⟩] → ∀ σ',(∃ B w i e,σ' = Az B (X.L w i e (lp X.r0 .ready none)) ∧ X.off B ∧ uU σb B X.m w i e j) → IE prog l #[.int .i64 x] σ' (fun e σ' => e = .returned (.bool true) ∧ ∃ B w i e,σ' = Az B (X.L w i e (lp X.r0 .ready none)) ∧ X.off B ∧ uU σb B X.m w i e (j + 1)) := by
   rintro x v j hj hx hM _ ⟨B,w,i,e,rfl,hoB,Cg⟩
   refine hy _ _ x (Ez (L := X.L w i e (lp X.r0 .ready none)) (i := 0) hX rfl) ?_
   refine jP (X := X) hX hoB Cg.ext (hg.mono xσ) (hr.mono M8.mono xσ) (hs.mono CF.mono xσ) hM hx fun B1 p1 c1 CH bW aV => ?_
   exact dK hX bW (Cg.mono CH) hj aV fun B2 b o e2 Ba AON => ⟨rfl,B2,_,1,e2,rfl,Ba,.inr ⟨Nat.succ_pos _,b,o,rfl,rfl,AON⟩⟩
 refine jR (I := fun j σ' => ∃ B w i e,σ' = Az B (X.L w i e (lp X.r0 .ready none)) ∧ X.off B ∧ uU σb B X.m w i e j) ⟨B0,none,0,0,rfl,hoX,.inl ⟨rfl,rfl,rfl,rfl,xb,ot,AOL⟩⟩ ?_ (step 0 v1 0 (by decide) (by decide) AN2) (step 60 v8 1 (by decide) (by decide) AIK) ?_
 · rintro j _ ⟨B,w,i,e,rfl,hoB,Cg⟩
   have hx := Cg.ext.trans (AOM (w := w) (j := i) (e := e) (lo := lp X.r0 .ready none) hoB)
   exact ⟨Af (hx _ _ (db g3)) rfl,Af (hx _ _ (db g5)) rfl,Af (hx _ _ (db g4)) rfl⟩
 rintro _ ⟨B,w,i,e,rfl,hoB,⟨h0,_⟩ | ⟨_,b,o,rfl,rfl,Cg⟩⟩
 · cases h0
 have eL : ∀ lo,(Az B (X.L (some ⟨b,o,none⟩) 1 e (lp X.r0 .ready none))).set l (.loop lo) = Az B (X.L (some ⟨b,o,none⟩) 1 e lo) := fun lo => Hp.set_set
 refine ⟨_,.ready,none,rfl,Ez (L := X.L (some ⟨b,o,none⟩) 1 e (lp X.r0 .ready none)) (i := 0) hX rfl,by decide,.inl ⟨rfl,?_⟩⟩
 rw [eL]
 have hXe : (names (X.L (some ⟨b,o,none⟩) 1 e (lp X.r0 .exhausted none))).Nodup := hX
 refine ⟨_,1,e,ZA (L := X.L (some ⟨b,o,none⟩) 1 e (lp X.r0 .exhausted none)) (i := 2) hXe rfl rfl,?_⟩
 obtain ⟨pl,cl,pp,cc,ds,k1,k2,k3⟩ := Cg.own
 refine Spec.E1 hXe hoB (fg (ρ := Go.Proofs.Tryz.Th) Go.Proofs.Tryz.AAv (fun w => by kernel_rfl) (fun w => by kernel_rfl) (α := Unit) (enc := fun _ => [.slice pl 0 cl,.slice pp 2 cc]) (fun _ => rfl) (fun _ u hu => by
   simp only [List.mem_cons,List.not_mem_nil,or_false] at hu
   rcases hu with rfl | rfl <;> rfl) (cf := fun _ _ => (0 : Int)) AOG (g := 51) (fun args w => call51 args w) (b := b) (o := o) (ds := [()]) k1 rfl (by decide) (by decide) (fun w hw x y => ?_) fun B1 ds' hp jy Bg JL Lf => ⟨rfl,?_⟩)
 · exact Spec.pE (R := fun e => e = .returned (.int .i64 0)) (@jQ ⟨True⟩ _ _ _ _ _ _ _ _ _ _ _ _ fun σ' Wd => ⟨rfl,Wd⟩) hw
 have hds : ds' = [()] := by
   have := hp.length_eq
   match ds',this with
   | [()],_ => rfl
 subst hds
 have hXL : ∀ {w' j' e' lo'},(names (X.L w' j' e' lo')).Nodup := hX
 refine ⟨_,1,e,ZA (L := X.L (some ⟨b,o,none⟩) 1 e (lp X.r0 .exhausted none)) (i := 2) hXe rfl rfl,?_⟩
 refine AK.TG (L := X.L (some ⟨b,o,none⟩) 1 e (lp X.r0 .exhausted none)) (i := 5) (c := #[.slice none 0 0]) (c' := #[.slice (some ⟨b,o,none⟩) 1 e]) fx hXe rfl rfl rfl rfl rfl ?_
 let L7 : List (Nat × Obj) := (X.L (some ⟨b,o,none⟩) 1 e (lp X.r0 .exhausted none)).set 5 (X.Cj,.cells #[.slice (some ⟨b,o,none⟩) 1 e] 23 (0,0))
 let L8 : List (Nat × Obj) := L7.set 1 (X.D,.deferred none)
 refine AK.TG (L := L7) (i := 4) (c := #[.int .i64 0]) (c' := #[.int .i64 0]) uT hX rfl rfl rfl rfl rfl ?_
 show ∃ Cr : Option Addr,∃ Cs : Nat,∃ Ct : Nat,∃ Cu : Int,Az B1 L7 D = some (.deferred (some [])) ∧ Hp.ld ((Az B1 L7).set D (.deferred none)) ⟨Cj,0,none⟩ = some (.slice Cr Cs Ct) ∧ Hp.ld ((Az B1 L7).set D (.deferred none)) ⟨BG,0,none⟩ = some (.int .i64 Cu) ∧ R (.returned (.tuple #[.slice Cr Cs Ct,.int .i64 Cu])) ((Az B1 L7).set D (.deferred none))
 rw [show (Az B1 L7).set D (.deferred none) = Az B1 L8 from N3 (L := L7) (i := 1) hX rfl]
 refine ⟨some ⟨b,o,none⟩,1,e,0,Ez (L := L7) (i := 1) hX rfl,ZA (L := L8) (i := 5) hX rfl rfl,ZA (L := L8) (i := 4) hX rfl rfl,?_⟩
 have AIQ : P7 L8 B1 := Lf
 have x8 : Ext B1 (Az B1 L8) := P7.ext (L := L8) hX AIQ
 refine h b o e pp cc _ (fun y u hyu => x8 _ _ ?_) ?_
 · refine (AR.1 (JL y u (AR.2 ⟨fun a ha e => ?_,Cg.ext _ _ (xσ _ _ hyu)⟩))).2
   cases ha
   have := xσ _ _ hyu
   rw [e,Cg.hb] at this; cases this
 · obtain ⟨_,_,h0 | ⟨b',o',hp,hl⟩⟩ := (A8.rd Bg).mono x8
   · cases h0
   · cases hp
     exact hl.2.1
end
end TwW
end
section
namespace TwW
open Go Tw Go.RowKit Go.Proofs.Tryz
section
variable {σ : Hp} {R : Rr}
theorem Lg {b : Nat} (h : R (.returned (.int .u64 b)) σ) : Spec prog 25 #[.float .f64 b] σ R := VB.start (.y OB ⟨_,rfl,h⟩)
set_option maxRecDepth 100000 in
theorem AIR {x y : Operand} {a b a' b' : Int} : YF prog (do eqGuard .neq 50 x y (.agg #[.int .i64 a,.int .u64 b]) (.agg #[.int .i64 a',.int .u64 b']); binOp .neq 50 (.agg #[.int .i64 a,.int .u64 b]) (.agg #[.int .i64 a',.int .u64 b'])) σ (.bool (!(a == a' && b == b'))) := fun w _ => by
 have u1 := underlying2
 have u2 := underlying48
 have hS : prog.underlying 50 = some (.struct (prog.fieldsOf 50)) := by kernel_rfl
 have hp : prog.stoodInHeld 50 = false := by kernel_rfl
 have hf : (prog.fieldsOf 50).toList = [{ name := "T",type := 2,offset := 0,embedded := false,tag := "",pkgPath := "",byteOffset := 0 },{ name := "V",type := 48,offset := 1,embedded := false,tag := "",pkgPath := "",byteOffset := 8 }] := by kernel_rfl
 simp only [Sem.run_bind,run_eqGuard_agg _ _ _ _ _ _ _ (show prog.eqGuardType prog.depth 50 = false by kernel_rfl),Result.andThen_ok,run_neq_struct]
 rw [show (10000 : Nat) = 9999 + 1 from rfl,run_equalIn_agg w 9999 50 _ _ hS hp,hf]
 simp only [Op.eqFields]
 go_simp
 by_cases h1 : a = a' <;> by_cases h2 : b = b' <;> simp [h1,h2]
theorem Zh {p p' : Option Addr} {n n' c c' : Nat} {ps : List Pt} (h1 : Ae 2 GG σ p n ps) (h2 : Ae 2 GG σ p' n' ps) (hR : R (.returned (.bool true)) σ) : Spec prog 36 #[.slice p n c,.slice p' n' c'] σ R := by
 have e1 : ps.length = n := h1.1
 have e2 : ps.length = n' := h2.1
 refine Ce.start ⟨fun A6 => absurd (by omega) A6,fun _ => ?_⟩
 suffices H : ∀ d i : Nat,n - i = d → i ≤ n → Ce.BE R p n c p' n' c' i σ from H n 0 rfl (Nat.zero_le _)
 intro d
 induction d with
 | zero => exact fun i hd hi => Ce.Bz ⟨fun Ap => by omega,fun _ => hR⟩
 | succ d ih =>
   intro i hd hi
   obtain ⟨x,hx⟩ := h1.ex (show i < n by omega)
   obtain ⟨b,o,rfl,l1⟩ := GG.at h1 hx
   obtain ⟨b',o',rfl,l2⟩ := GG.at h2 hx
   exact Ce.Bz ⟨fun _ => ⟨b,o,rfl,by omega,x.1,x.2,by simpa using l1,b',o',rfl,by omega,x.1,x.2,by simpa using l2,_,AIR,fun hh => by simp at hh,fun _ => ⟨AL (by omega) h1.big,ih (i + 1) (by omega) (by omega)⟩⟩,fun hh => by omega⟩
theorem AOO : AI ((0 : Int) + 0) := by unfold AI; omega
theorem AIS : AI ((0 : Int) + 0 + 300) := by unfold AI; omega
theorem pf {p : Option Addr} {n c : Nat} (hr : Ae 10 M8 σ p n T0) (h : ∀ σ',Ext σ σ' → R (.returned (.tuple #[.int .i64 300,.int .i64 0])) σ') : Spec prog 15 #[.slice p n c] σ R := by
 have hn : 2 = n := hr.1
 subst hn
 refine B8.start (TX hr (by decide) RG.tx (fun k σ' hk hx => ⟨_,_,_,rfl,fun hh => absurd rfl hh,fun _ => ?_⟩) fun k j e σ' hk => by rw [ty0] at hk; cases hk)
 have F7 := hr.mono M8.mono hx
 obtain ⟨b,o,p1,k1,c1,q1,m1,d1,rfl,tV,_,_⟩ := M8.at F7 (i := 0) (x := nV) rfl
 obtain ⟨b',o',p2,k2,c2,q2,m2,d2,he,QO,_,_⟩ := M8.at F7 (i := 1) (x := nA) rfl
 cases he
 refine B8.WW ⟨fun _ => ⟨b,o,rfl,by decide,_,_,_,_,_,_,_,_,_,_,_,_,_,_,tV,fun _ => ⟨fun hh => absurd rfl hh,fun _ => ⟨AOO,fun _ => ⟨AIS,B8.WV ?_⟩,fun hh => absurd rfl hh⟩⟩⟩,fun hh => absurd (by decide) hh⟩
 refine ⟨fun _ => B8.WI (B8.fG ⟨by unfold AI; omega,B8.WW ⟨fun _ => ⟨b,o,rfl,by decide,_,_,_,_,_,_,_,_,_,_,_,_,_,_,QO,fun _ => ⟨fun _ => ⟨fun _ => B8.fG ⟨by unfold AI; omega,B8.WW ⟨fun hh => absurd hh (by decide),fun _ => h _ hx⟩⟩,fun hh => absurd (by decide) hh⟩,fun hh => absurd (by decide) hh⟩⟩,fun hh => absurd (by decide) hh⟩⟩),fun hh => by cases hh⟩
theorem Zi {σ : Hp} {b : Nat} {o : Obj} (h : σ b = none) : Ext σ (σ.set b o) ∧ σ.set b o b = some o := ⟨.set h,Hp.AB _ _ _⟩
theorem Lh {α : Type} {s b n : Nat} {T : TypeId} {E : Hp → List Value → α → Prop} {cs : List Value} {xs : List α} (h : σ b = some (.cells cs.toArray T (0,0))) (hl : cs.length = n * s) (hn : xs.length = n) (hb : n ≤ 1000) (hE : ∀ (i : Nat) (x : α),xs[i]? = some x → E σ ((cs.drop (i * s)).take s) x) : Ae s E σ (aD b 0) n xs :=
 ⟨hn,cs,⟨hl,by omega,.inr ⟨b,0,rfl,Aw.GA h⟩⟩,by rw [hl,hn],hE⟩
theorem dL : Awk := fun σ R hg h => by
 refine P2.start fun BG fi => Lg ⟨_,rfl,Lg ⟨_,rfl,fun H0 h16 Yc h20 => Lg ⟨_,rfl,fun Qd h23 Jw h25 O6 h27 iG h30 => ?_⟩⟩⟩
 have x11 := Ext.set (o := .cells #[(.string (ByteArray.mk #[95,95,110,97,109,101,95,95])),(.string (ByteArray.mk #[120])),(.string (ByteArray.mk #[97])),(.string (ByteArray.mk #[49]))] 56 (0,0)) fi
 have x16 := Ext.set (o := .cells #[.int .i64 0,.int .u64 v1,.int .i64 60,.int .u64 v3] 50 (0,0)) h16
 have Hv := Ext.set (o := .cells #[(.string (ByteArray.mk #[95,95,110,97,109,101,95,95])),(.string (ByteArray.mk #[120])),(.string (ByteArray.mk #[97])),(.string (ByteArray.mk #[50]))] 56 (0,0)) h20
 have EI := Ext.set (o := .cells #[.int .i64 60,.int .u64 v5] 50 (0,0)) h23
 have P3 := Ext.set (o := .cells #[(.slice (aD BG 0) 2 2),(.slice (aD H0 0) 2 2),(.slice (aD Yc 0) 2 2),(.slice (aD Qd 0) 1 1)] 40 (0,0)) h25
 have Jj := Ext.set (o := .cells #[.int .i64 1,(.string (ByteArray.mk #[95,95,110,97,109,101,95,95])),(.string (ByteArray.mk #[120]))] 77 (0,0)) h27
 obtain ⟨SB,g30⟩ := Zi (o := .cells #[.int .i64 2,.int .i64 0,(.string (ByteArray.mk #[])),(.slice (aD O6 0) 1 1),.int .i64 0,.int .i64 0,.int .i64 0,.slice none 0 0,.bool false,.int .i64 0,.int .i64 5,.int .i64 1,(.string (ByteArray.mk #[])),.slice none 0 0,.int .i64 0,.int .i64 0,.int .i64 0,.slice none 0 0,.bool false,.int .i64 1] 36 (0,0)) h30
 have g11 := (x16.trans (Hv.trans (EI.trans (P3.trans (Jj.trans SB))))) BG _ (Hp.AB _ _ _)
 have g16 := (Hv.trans (EI.trans (P3.trans (Jj.trans SB)))) H0 _ (Hp.AB _ _ _)
 have g20 := (EI.trans (P3.trans (Jj.trans SB))) Yc _ (Hp.AB _ _ _)
 have g23 := (P3.trans (Jj.trans SB)) Qd _ (Hp.AB _ _ _)
 have g25 := (Jj.trans SB) Jw _ (Hp.AB _ _ _)
 have g27 := SB O6 _ (Hp.AB _ _ _)
 have hx := x11.trans (x16.trans (Hv.trans (EI.trans (P3.trans (Jj.trans SB)))))
 change Spec prog 11 #[.slice (aD iG 0) 2 2,.slice (aD Jw 0) 2 2,.int .i64 60] (Hp.set _ iG _) _
 generalize hτ : Hp.set _ iG _ = τ at *
 have rA : EK τ (aD BG 0) 2 ABI := Lh g11 rfl rfl (by decide) fun i x hx => match i,hx with
   | 0,hx => by cases hx; rfl
   | 1,hx => by cases hx; rfl
   | i + 2,hx => by simp [ABI] at hx
 have rB : EK τ (aD Yc 0) 2 ABJ := Lh g20 rfl rfl (by decide) fun i x hx => match i,hx with
   | 0,hx => by cases hx; rfl
   | 1,hx => by cases hx; rfl
   | i + 2,hx => by simp [ABJ] at hx
 have rP : Ae 2 GG τ (aD H0 0) 2 [(0,v1),(60,v3)] := Lh g16 rfl rfl (by decide) fun i x hx => match i,hx with
   | 0,hx => by cases hx; rfl
   | 1,hx => by cases hx; rfl
   | i + 2,hx => by simp at hx
 have rQ : Ae 2 GG τ (aD Qd 0) 1 [(60,v5)] := Lh g23 rfl rfl (by decide) fun i x hx => match i,hx with
   | 0,hx => by cases hx; rfl
   | i + 1,hx => by simp at hx
 have rS : Ae 2 CF τ (aD Jw 0) 2 aX := Lh g25 rfl rfl (by decide) fun i x hx => match i,hx with
   | 0,hx => by cases hx; exact ⟨_,_,_,_,_,_,rfl,rA,rP,by decide⟩
   | 1,hx => by cases hx; exact ⟨_,_,_,_,_,_,rfl,rB,rQ,by decide⟩
   | i + 2,hx => by simp [aX] at hx
 have rM : Ae 3 Oa τ (aD O6 0) 1 [⟨1,A1,sX⟩] := Lh g27 rfl rfl (by decide) fun i x hx => match i,hx with
   | 0,hx => by cases hx; rfl
   | i + 1,hx => by simp at hx
 have rN : E9 1 τ none 0 (([] : List ByteArray).map .string) := ⟨rfl,by decide,.inl rfl⟩
 have rT : Ae 10 M8 τ (aD iG 0) 2 T0 := Lh g30 rfl rfl (by decide) fun i x hx => match i,hx with
   | 0,hx => by cases hx; exact ⟨_,_,_,_,_,_,rfl,rM,rN⟩
   | 1,hx => by cases hx; exact ⟨_,_,_,_,_,_,rfl,Ae.nil,rN⟩
   | i + 2,hx => by simp [T0] at hx
 have AIT := hg.mono hx
 refine inst_spec AIT rT rS RG (fun τ1 p' n' c' σ1 bs h0 hA CH => ⟨_,_,_,_,rfl,?_⟩) fun σ1 A6 => absurd (by rw [inst60]) A6
 rw [inst60] at hA
 have X1 := CH.trans hA.ext
 refine pc (AIT.mono X1) (rT.mono M8.mono X1) (rS.mono CF.mono X1) fun b o e p2 c2 σ2 A5 Tc => ⟨_,_,_,_,rfl,pf (rT.mono M8.mono (X1.trans A5)) fun σ3 C2 => ⟨_,_,rfl,?_⟩⟩
 have hA3 := (hA.mono (A5.trans C2)).rd
 have Zg : 1 = n' := hA3.1
 subst Zg
 obtain ⟨wG,zp,p1,n1,c1,q1,m1,d1,rfl,hl,_,HL,_⟩ := CF.at hA3 (i := 0) (s := ⟨[],[(60,v8)]⟩) rfl
 have dJ : 1 = m1 := HL.1
 subst dJ
 refine ⟨fun _ => ⟨fun _ => ⟨wG,zp,rfl,by decide,q1,1,d1,by simpa using hl.2.1,Lg ⟨_,rfl,.Ho (.refl _),fun yz h62 => ?_⟩⟩,fun hh => absurd rfl hh⟩,fun hh => absurd rfl hh⟩
 obtain ⟨jw,g62⟩ := Zi (o := .cells #[.int .i64 60,.int .u64 v8] 50 (0,0)) h62
 refine Zh (ps := [(60,v8)]) (HL.mono GG.mono jw) (Lh g62 rfl rfl (by decide) fun i x hx => match i,hx with
   | 0,hx => by cases hx; rfl
   | i + 1,hx => by simp at hx) ⟨_,rfl,fun _ => ⟨fun _ => ⟨fun _ => ⟨b,o,rfl,by decide,p2,2,c2,(C2.trans jw).ld Tc,fun _ => ⟨fun _ => ?_,fun hh => absurd rfl hh⟩,fun hh => absurd rfl hh⟩,fun hh => absurd rfl hh⟩,fun hh => absurd rfl hh⟩,fun hh => by cases hh⟩
 exact h _ (hx.trans (X1.trans (A5.trans (C2.trans jw))))
end
end TwW
end
section
namespace TwW.Rw
open Go Tw Go.RowKit Go.ChangeShapes Go.WideShapes Go.ChangeAt Go.Deep Go.Proofs.Tryz Go.Proofs.YtlmhidjgplomgaaGreatDoor
theorem own : ownKnob prog.godebug = none := by kernel_rfl
theorem laidOut : laidOutB prog = true := by kernel_rfl
theorem Li {H : Type} (d : DataW H) : 1 ≤ Rows.uptoBulk d := by
 cases d with
 | lit l => cases l <;> simp [Rows.uptoBulk]
 | _ => simp [Rows.uptoBulk]
theorem PY {H : Type} {d : DataW H} : ∀ {l : List (DataW H)},d ∈ l → Rows.uptoBulk d ≤ Rows.uptoBulkAll l
 | x :: l,h => by
   simp only [Rows.uptoBulkAll]
   rcases List.mem_cons.1 h with rfl | h
   · omega
   · have := PY h; omega
theorem Zj {H : Type} (l r : List (DataW H)) : Rows.uptoBulkAll (l ++ r) = Rows.uptoBulkAll l + Rows.uptoBulkAll r := by
 induction l with
 | nil => simp [Rows.uptoBulkAll]
 | cons x l ih => simp only [List.cons_append,Rows.uptoBulkAll,ih]; omega
theorem pg {H : Type} (l : List (DataW H)) : l.length ≤ Rows.uptoBulkAll l := by
 induction l with
 | nil => simp
 | cons x l ih => have := Li x; simp only [Rows.uptoBulkAll,List.length_cons]; omega
def NI {α : Type} (t : TypeId) (E : Hp → List Value → α → Prop) (I : α → Prop) (sz : α → Nat) : Prop :=
 ∀ {H : Type} {enc : TypeId × Value → H} {w : World} {base : Nat} {sp : Nat → Bool} {held : Bool} {fuel : Nat} {cs : List Value} {x : DataW H × List MemPlace},
   DataW.trod enc prog w base sp held fuel t cs = some x → Rows.uptoBulk x.1 ≤ 1048576 → ∃ y,E (full w) cs y ∧ I y ∧ sz y ≤ Rows.uptoBulk x.1
theorem mkB {α : Type} {s : Nat} {E : Hp → List Value → α → Prop} {I : α → Prop} {sz : α → Nat} {σ : Hp} {b o : Nat} {H : Type} {D : Nat → DataW H} : ∀ {n : Nat},n ≤ 4611686018427387904 → (∀ i,i < n → ∃ vs x,vs.length = s ∧ Aw σ b (o + i * s) vs ∧ E σ vs x ∧ I x ∧ sz x ≤ Rows.uptoBulk (D i)) →
   ∃ xs,Ae s E σ (some ⟨b,o,none⟩) n xs ∧ (∀ x ∈ xs,I x) ∧ (xs.map sz).sum ≤ Rows.uptoBulkAll ((List.range n).map D)
 | 0,_,_ => ⟨[],Ae.nil,by simp,by simp⟩
 | n + 1,hn,h => by
   obtain ⟨xs,⟨h1,cs,⟨hl,_,h2⟩,h3⟩,hI,hs⟩ := mkB (n := n) (D := D) (by omega) (fun i hi => h i (by omega))
   obtain ⟨vs,x,hv,Du,hE,hx,hz⟩ := h n (by omega)
   have NR : Aw σ b o cs := by
     rcases h2 with rfl | ⟨b',o',hp,eY⟩
     · have : cs = [] := List.eq_nil_of_length_eq_zero (by simpa using hl)
       subst this; trivial
     · cases hp; exact eY
   refine ⟨xs ++ [x],⟨by simp [h1],cs ++ vs,⟨by rw [List.length_append,hl,hv,Nat.add_mul]; omega,hn,.inr ⟨b,o,rfl,NR.snoc (by rw [hl]; exact Du)⟩⟩,h3.snoc hv hE⟩,fun y hy => ?_,?_⟩
   · rcases List.mem_append.1 hy with hy | hy
     · exact hI y hy
     · simp at hy; subst hy; exact hx
   · rw [List.range_succ,List.map_append,List.map_append,Zj,List.sum_append]
     simp only [List.map_cons,List.map_nil,List.sum_cons,List.sum_nil,Rows.uptoBulkAll]
     omega
def ESc {α : Type} (s : Nat) (E : Hp → List Value → α → Prop) (σ : Hp) (vs : List Value) (xs : List α) : Prop := ∃ p n c,vs = [.slice p n c] ∧ n ≤ c ∧ Ae s E σ p n xs
theorem NI.slice {α : Type} {t e : TypeId} {s : Nat} {E : Hp → List Value → α → Prop} {I : α → Prop} {sz : α → Nat} (ht : prog.underlying t = some (.slice e)) (hs : prog.cellsOf e = s) (hs0 : 0 < s) (he : NI e E I sz) :
   NI t (ESc s E) (fun xs => ∀ x ∈ xs,I x) (fun xs => (xs.map sz).sum + 1) := by
 intro H enc w base sp held fuel cs x h hw
 subst hs
 rcases open_slice ht h with ⟨rfl,rfl⟩ | ⟨a,len,cap,m,n,D,Pl,rfl,hb,hl,hm,hmm,rfl,hi⟩
 · exact ⟨[],⟨none,0,0,rfl,Nat.le_refl _,Ae.nil⟩,by simp,by simp [Rows.uptoBulk]⟩
 · have hlm : len ≤ m := by rw [hmm]; split <;> omega
   have ad : Rows.uptoBulkAll ((List.range len).map D) + 1 ≤ Rows.uptoBulk (DataW.slice ((List.range len).map D) ((List.range (m - len)).map fun j => D (len + j))) := by
     simp only [Rows.uptoBulk]; omega
   have hlen := pg ((List.range len).map D)
   rw [List.length_map,List.length_range] at hlen
   have hwD : ∀ i,i < len → Rows.uptoBulk (D i) ≤ 1048576 := fun i Bk => by
     have := PY (List.mem_map.2 ⟨i,List.mem_range.2 Bk,rfl⟩ : D i ∈ (List.range len).map D)
     simp only at hw
     omega
   by_cases h0 : len = 0
   · subst h0
     exact ⟨[],⟨some a,0,cap,rfl,Nat.zero_le _,Ae.nil⟩,by simp,by simp only [Rows.uptoBulk,List.map_nil,List.sum_nil]; omega⟩
   · have Zk : a.spot = none := by
       obtain ⟨cs',hc,_⟩ := hi 0 (by omega)
       obtain ⟨_,bX,yG⟩ := World.cells?_some hc
       have h1 := yG 0 hs0
       rw [List.getElem?_eq_getElem (by omega)] at h1
       have := Ue h1
       simpa [Addr.add] using this
     obtain ⟨b,o,sp'⟩ := a
     simp only at Zk
     subst Zk
     obtain ⟨xs,hr,hI,hz⟩ := mkB (s := prog.cellsOf e) (E := E) (I := I) (sz := sz) (σ := full w) (b := b) (o := o) (D := D) (n := len) (by simp only at hw; omega) (fun i Bk => by
       obtain ⟨cs',hc,jz⟩ := hi i (by omega)
       obtain ⟨_,bX,yG⟩ := World.cells?_some hc
       obtain ⟨y,hE,hy,cS⟩ := he jz (hwD i Bk)
       refine ⟨cs',y,bX,Aw.of fun j v hj => ?_,hE,hy,cS⟩
       have RQ : j < prog.cellsOf e := by have := (List.getElem?_eq_some_iff.1 hj).1; omega
       have h1 := yG j RQ
       rw [hj,Bu,Bu] at h1
       exact Qw h1)
     exact ⟨xs,⟨some ⟨b,o,none⟩,len,cap,rfl,hl,hr⟩,hI,by simp only at hz ad ⊢; omega⟩
theorem fz {H : Type} {l : List (DataW H)} {d : DataW H} (h : Rows.uptoBulk (DataW.agg l) ≤ 1048576) (hd : d ∈ l) : Rows.uptoBulk d ≤ 1048576 := by
 have := PY hd
 simp only [Rows.uptoBulk] at h
 omega
theorem uV {α : Type} : ∀ l : List α,(l.map fun _ => 1).sum = l.length := fun l => by induction l with
 | nil => rfl
 | cons a l ih => simp; omega
theorem NI.len {α : Type} {t e : TypeId} {s : Nat} {E : Hp → List Value → α → Prop} {I : α → Prop} (ht : prog.underlying t = some (.slice e)) (hs : prog.cellsOf e = s) (hs0 : 0 < s) (he : NI e E I (fun _ => 1)) :
   NI t (ESc s E) (fun xs => (∀ x ∈ xs,I x) ∧ xs.length ≤ 1048576) (fun _ => 1) := fun h hw => by
 obtain ⟨xs,h1,h2,h3⟩ := NI.slice ht hs hs0 he h hw
 dsimp only at h3
 rw [uV] at h3
 exact ⟨xs,h1,⟨h2,by omega⟩,Li _⟩
theorem Mm {t : TypeId} (h : prog.cellsOf t = 1) {c : Value} {l : List Value} : (c :: l).take (prog.cellsOf t) = [c] := by rw [h]; rfl
set_option maxRecDepth 100000
set_option linter.unusedSimpArgs false
theorem ABO : NI 50 GG (fun p => 0 ≤ p.2 ∧ p.2 < 18446744073709551616) (fun _ => 1) := by
 intro H enc w base sp held fuel cs x h hw
 obtain ⟨xs,n,_,rfl,hlen,xG,hg⟩ := DataW.trod_struct underlying50 h
 rw [show prog.cellsOf 50 = 2 by kernel_rfl] at hlen
 match cs,hlen,xs,xG with
 | [c0,c1],_,[y0,y1],_ =>
   have h0 := hg 0 _ rfl
   have h1 := hg 1 _ rfl
   simp only [show prog.cellsOf 2 = 1 by kernel_rfl,show prog.cellsOf 48 = 1 by kernel_rfl,List.drop,List.take,List.getElem?_cons_zero,List.getElem?_cons_succ] at h0 h1
   obtain ⟨a,e0,_,_⟩ := DataW.trod_int underlying2 h0
   obtain ⟨b,e1,_,wb⟩ := DataW.trod_int underlying48 h1
   cases e0; cases e1
   refine ⟨(a,b),rfl,?_,Li _⟩
   simp [Lit.wf,IntKind.min,IntKind.max,IntKind.signed,IntKind.bits] at wb
   exact ⟨wb.1,by omega⟩
theorem ABP : NI 56 Bt (fun _ => True) (fun _ => 1) := by
 intro H enc w base sp held fuel cs x h hw
 obtain ⟨xs,n,_,rfl,hlen,xG,hg⟩ := DataW.trod_struct underlying56 h
 rw [show prog.cellsOf 56 = 2 by kernel_rfl] at hlen
 match cs,hlen,xs,xG with
 | [c0,c1],_,[y0,y1],_ =>
   have h0 := hg 0 _ rfl
   have h1 := hg 1 _ rfl
   simp only [show prog.cellsOf 9 = 1 by kernel_rfl,List.drop,List.take,List.getElem?_cons_zero,List.getElem?_cons_succ] at h0 h1
   obtain ⟨a,e0,_⟩ := DataW.trod_string underlying9 h0
   obtain ⟨b,e1,_⟩ := DataW.trod_string underlying9 h1
   cases e0; cases e1
   exact ⟨(a,b),rfl,trivial,Li _⟩
def uW {α : Type} (I : α → Prop) (xs : List α) : Prop := (∀ x ∈ xs,I x) ∧ xs.length ≤ 1048576
theorem ABQ : NI 37 (ESc 2 Bt) (uW fun _ => True) (fun _ => 1) := NI.len (s := 2) underlying37 (by kernel_rfl) (by decide) ABP
theorem ABR : NI 38 (ESc 2 GG) (uW fun p => 0 ≤ p.2 ∧ p.2 < 18446744073709551616) (fun _ => 1) := NI.len (s := 2) underlying38 (by kernel_rfl) (by decide) ABO
theorem ABS : NI 40 CF (fun s => s.ls.length ≤ 1048576 ∧ s.ps.length ≤ 1048576 ∧ ∀ p ∈ s.ps,0 ≤ p.2 ∧ p.2 < 18446744073709551616) (fun _ => 1) := by
 intro H enc w base sp held fuel cs x h hw
 obtain ⟨xs,n,_,rfl,hlen,xG,hg⟩ := DataW.trod_struct underlying40 h
 rw [show prog.cellsOf 40 = 2 by kernel_rfl] at hlen
 match cs,hlen,xs,xG with
 | [c0,c1],_,[y0,y1],_ =>
   have h0 := hg 0 _ rfl
   have h1 := hg 1 _ rfl
   simp only [show prog.cellsOf 37 = 1 by kernel_rfl,show prog.cellsOf 38 = 1 by kernel_rfl,List.drop,List.take,List.getElem?_cons_zero,List.getElem?_cons_succ] at h0 h1
   obtain ⟨ls,⟨p,k,c,e0,hc0,r0⟩,⟨_,l0⟩,_⟩ := ABQ h0 (fz hw (by simp))
   obtain ⟨ps,⟨q,m,d,e1,hc1,r1⟩,⟨i1,l1⟩,_⟩ := ABR h1 (fz hw (by simp))
   cases e0; cases e1
   exact ⟨⟨ls,ps⟩,⟨p,k,c,q,m,d,rfl,r0,r1,hc1⟩,⟨l0,l1,i1⟩,Li _⟩
section
variable {H : Type} {enc : TypeId × Value → H} {W : World} {base : Nat} {v v' : Value} {d d' : DataW H} {ps ps' : List MemPlace} {r : Reach}
theorem ph (hv : Value.okWide prog W r base 23 v) (h : DataW.Trod enc prog W 0 (fun _ => true) true 23 v d ps) (hw : Rows.uptoBulk d ≤ 1048576) : ∃ p n c ss,v = .slice p n c ∧ Ae 2 CF (full W) p n ss ∧ uW (fun s : Sr => s.ls.length ≤ 1048576 ∧ s.ps.length ≤ 1048576 ∧ ∀ p ∈ s.ps,0 ≤ p.2 ∧ p.2 < 18446744073709551616) ss := by
 obtain ⟨a,l,c,rfl⟩ := okWide_slice underlying23 hv
 obtain ⟨fuel,hf⟩ := h
 obtain ⟨xs,⟨p,n,c',e,_,hr⟩,hI,_⟩ := NI.len (s := 2) underlying23 (by kernel_rfl) (by decide) ABS hf hw
 have e' : [Value.slice a l c] = [.slice p n c'] := by simpa [Value.cells] using e
 cases e'
 exact ⟨a,l,c,xs,rfl,hr,hI⟩
end
theorem ABT {f : FuncId} {fn : Func} {s : ChangeSpec} {H : Type} {enc : TypeId × Value → H} {W : World} {args : Array Value} {ds gs : List (DataW H)} {before : List MemPlace} (hr : (fn.params.toList.all fun t => prog.readableRec t && Nat.blt t prog.types.size) = true)
   (hrt : fn.resultTypes = #[4]) (hv : s.vars = []) (Qt : (s.fn H (ds ++ gs)).results = [.lit (.bool true)] ∧ (s.fn H (ds ++ gs)).args = ds ∧ (s.fn H (ds ++ gs)).vars = [])
   (hW : DataW.Whole enc prog fn.params.toList s.vars false W args.toList ds gs before) (h : Lawful prog f args W) :
   Calls prog f args W fun e W' => ∃ v,e = .returned v ∧ s.post enc prog fn false true false false W args v W' :=
 h.calls.mono fun e W' ⟨he,hb⟩ => ⟨_,he,kO laidOut hr hrt underlying4 hv Qt hW hb⟩
end TwW.Rw
end
section
namespace TwW.Rw
open Go Go.Proofs.Tryz Go.Proofs.YtlmhidjgplomgaaGreatDoor
def fl0 : DataW Unit → List Value
 | .lit (.int k z) => [.int k z]
 | .lit (.bool b) => [.bool b]
 | .lit (.float k b) => [.float k b]
 | .lit (.string s) => [.string ⟨s.toArray⟩]
 | _ => []
def jS : DataW Unit → List Value
 | .agg l => l.flatMap fl0
 | x => fl0 x
def fl2 : DataW Unit → List Value
 | .agg l => l.flatMap jS
 | x => fl0 x
def fls : DataW Unit → List Value
 | .slice l _ => l.flatMap jS
 | .iface _ (.ptr d) => jS d
 | _ => []
def lns : DataW Unit → Nat
 | .slice l _ => l.length
 | _ => 0
noncomputable def MD (os : Os) : World :=
 let N := (World.settled prog os).heap.size
 let ob (x : DataW Unit) (t : TypeId) : Obj := .cells (fls x).toArray t (0,0)
 let w0 := World.holding prog os ⟨#[ob Rows.laid_strconv_ErrSyntax 317,ob Rows.laid_strconv_ErrRange 317,ob Rows.laid_internal_strconv_float32pow10 280,ob Rows.laid_internal_strconv_powtab 3,ob Rows.laid_internal_strconv_float64pow10 51,ob Rows.laid_internal_strconv_leftcheats 358],#[],[]⟩
 let put (h : Array Obj) (g : Nat) (cs : List Value) : Array Obj := h.modify g fun
   | .cells _ t frozen => .cells cs.toArray t frozen
   | o => o
 let sl (i : Nat) (x : DataW Unit) : List Value := [.slice (some ⟨N + i,0,none⟩) (lns x) (lns x)]
 let h1 := put (put w0.heap 2 [.iface 315 (.pointer (some ⟨N,0,none⟩))]) 3 [.iface 315 (.pointer (some ⟨N + 1,0,none⟩))]
 let h2 := put (put (put (put h1 7 (sl 2 Rows.laid_internal_strconv_float32pow10)) 8 (sl 3 Rows.laid_internal_strconv_powtab)) 9 (sl 4 Rows.laid_internal_strconv_float64pow10)) 13 (sl 5 Rows.laid_internal_strconv_leftcheats)
 let h3 := put (put (put h2 4 (jS Rows.laid_internal_strconv_float32info)) 5 (jS Rows.laid_internal_strconv_optimize)) 6 (jS Rows.laid_internal_strconv_float64info)
 let h4 := put (put (put h3 10 (fl2 Rows.laid_internal_strconv_pow10Tab)) 11 (jS Rows.laid_unicode_utf8_first)) 12 (fl2 Rows.laid_unicode_utf8_acceptRanges)
 { w0 with heap := put (put (put h4 14 (jS Rows.laid_internal_strconv_uint64pow10)) 15 (jS Rows.laid_math_bits_deBruijn32tab)) 16 (jS Rows.laid_math_bits_deBruijn64tab) }
abbrev Laid : List (String × DataW Unit) := Rows.evalGroupsUptoRow.laid
noncomputable abbrev LW (os : Os) (args : Array Value) : World := ((MD os).forCall (fun _ _ => 0) ⟨#[],args,[]⟩).memory
set_option maxRecDepth 1000000
theorem AOT (os : Os) (args : Array Value) : (DataW.laidRun prog (LW os args) 8 (Laid.map (·.1))).map (·.1) = some Laid := by kernel_rfl
noncomputable def LBk (os : Os) : List (Nat × Nat) :=
 let N := (World.settled prog os).heap.size
 [(15,32),(16,64),(4,3),(6,3),(5,1),(8,1),(N + 3,lns Rows.laid_internal_strconv_powtab),(9,1),(N + 4,lns Rows.laid_internal_strconv_float64pow10),(7,1),(N + 2,lns Rows.laid_internal_strconv_float32pow10),(14,20),(12,32),(3,1),(N + 1,1),(2,1),(N,1),(13,1),(N + 5,lns Rows.laid_internal_strconv_leftcheats * 2),(10,1392),(11,256)]
theorem AOU (os : Os) (args : Array Value) : (DataW.laidRun prog (LW os args) 8 (Laid.map (·.1))).map (·.2) = some ((LBk os).flatMap fun x => MemPlace.row ⟨x.1,0,none⟩ x.2) := by kernel_rfl
end TwW.Rw
end
section
namespace TwW
open Go
def rowsOf (L : List (Nat × Nat)) : List MemPlace := L.flatMap fun x => MemPlace.row ⟨x.1,0,none⟩ x.2
theorem W0 {b n : Nat} {p : MemPlace} : p ∈ MemPlace.row ⟨b,0,none⟩ n ↔ ∃ i,i < n ∧ p = .cell b i := by
 unfold MemPlace.row
 simp only [List.mem_map,List.mem_range,Nat.zero_add]
 exact ⟨fun ⟨i,h,e⟩ => ⟨i,h,e.symm⟩,fun ⟨i,h,e⟩ => ⟨i,h,e.symm⟩⟩
theorem jT (b n : Nat) : (MemPlace.row ⟨b,0,none⟩ n).Nodup := by
 unfold MemPlace.row
 refine List.pairwise_map.2 ((List.nodup_range (n := n)).imp fun {i j} A6 e => A6 ?_)
 simpa using e
theorem Ts : ∀ {L : List (Nat × Nat)},(L.map Prod.fst).Nodup → (rowsOf L).Nodup
 | [],_ => List.nodup_nil
 | x :: L,h => by
   have h := List.nodup_cons.1 (show (x.1 :: L.map Prod.fst).Nodup from h)
   unfold rowsOf
   rw [List.flatMap_cons,List.nodup_append]
   refine ⟨jT _ _,Ts h.2,fun p hp q hq e => ?_⟩
   subst e
   obtain ⟨i,_,rfl⟩ := W0.1 hp
   obtain ⟨y,hy,hq⟩ := List.mem_flatMap.1 hq
   obtain ⟨j,_,e⟩ := W0.1 hq
   simp only [MemPlace.cell.injEq] at e
   exact h.1 (List.mem_map.2 ⟨y,hy,e.1.symm⟩)
def laidB (P : Program) (w : World) (b : Nat) : Bool :=
 match w.heap[b]? with
 | some (.cells c _ (0,0)) => c.toList.all fun | .iface u v => Value.okWideB P w u v | _ => true
 | _ => false
theorem W1 {P : Program} {w : World} {l : List (String × DataW Unit)} (fuel : Nat) (L : List (Nat × Nat)) (h1 : (DataW.laidRun P w fuel (l.map (·.1))).map (·.1) = some l) (h2 : (DataW.laidRun P w fuel (l.map (·.1))).map (·.2) = some (rowsOf L))
   (hn : (L.map Prod.fst).Nodup) (hb : ∀ x ∈ L,laidB P w x.1 = true) : laidMet P l w := by
 cases hx : DataW.laidRun P w fuel (l.map (·.1)) with
 | none => rw [hx] at h1; cases h1
 | some x =>
   obtain ⟨l',ps⟩ := x
   rw [hx] at h1 h2
   simp only [Option.map_some,Option.some.injEq] at h1 h2
   subst h1; subst h2
   refine ⟨_,DataW.LaidVars_of_laidRun hx,Ts hn,fun b off hp => ?_⟩
   obtain ⟨y,hy,hp⟩ := List.mem_flatMap.1 hp
   obtain ⟨i,hi,e⟩ := W0.1 hp
   simp only [MemPlace.cell.injEq] at e
   obtain ⟨rfl,rfl⟩ := e
   have := hb y hy
   unfold laidB at this
   split at this
   · rename_i c t hh
     refine ⟨⟨c,t,hh⟩,fun u v hc => ?_⟩
     have hc' : c[off]? = some (.iface u v) := by simpa [World.cell?,hh] using hc
     have hm : Value.iface u v ∈ c.toList := Array.mem_toList_iff.2 (Array.mem_of_getElem? hc')
     exact Value.okWide_of_okWideB (List.all_eq_true.1 this _ hm)
   · cases this
end TwW
end
section
namespace TwW.Rw
open Go TwW Go.Proofs.Tryz Go.Proofs.YtlmhidjgplomgaaGreatDoor
set_option maxRecDepth 1000000
theorem ABU (os : Os) : nodupB ((LBk os).map Prod.fst) = true := by kernel_rfl
theorem ABV (os : Os) (args : Array Value) : ((LBk os).all fun x => laidB prog (LW os args) x.1) = true := by kernel_rfl
theorem pj (os : Os) (args : Array Value) : laidMet prog Laid (LW os args) := W1 8 (LBk os) (AOT os args) (AOU os args) (nodup_of_nodupB (ABU os)) (fun x hx => List.all_eq_true.1 (ABV os args) x hx)
end TwW.Rw
end
section
namespace TwW.Rw
open Go Tw TwW Go.RowKit Go.Deep Go.Proofs.Tryz Go.Proofs.YtlmhidjgplomgaaGreatDoor
theorem dM {H : Type} {enc : TypeId × Value → H} {w : World} {base : Nat} {sp : Nat → Bool} {held : Bool} {fuel : Nat} {t : TypeId} {cs : List Value} {x : DataW H × List MemPlace} {k : FloatKind} (ht : prog.underlying t = some (.float k)) (h : DataW.trod enc prog w base sp held fuel t cs = some x) : ∃ n,cs = [.float k n] ∧ x = (.lit (.float k n),[]) := by
 cases fuel with
 | zero => simp [DataW.trod] at h
 | succ n =>
   unfold DataW.trod at h
   rw [ht] at h
   split at h <;> simp_all
theorem gA {P : Program} {w : World} : ∀ {l : List (String × DataW Unit)} {ps : List MemPlace} {i : Nat} {n : String} {d : DataW Unit},DataW.LaidVars P w l ps → l[i]? = some (n,d) →
   ∃ g t cs fuel p,P.globalNamed n = some g ∧ (P.globals[g]?).map (·.type) = some t ∧ w.var? P n = some cs ∧ DataW.trod (fun _ => ()) P w 0 (fun _ => true) false fuel t cs.toList = some (d,p)
 | [],_,_,_,_,_,h => by simp at h
 | (m,e) :: r,ps,0,n,d,h,hi => by
   cases hi
   obtain ⟨g,t,cs,fuel,p,q,h1,h2,h3,h4,_⟩ := h
   exact ⟨g,t,cs,fuel,p,h1,h2,h3,h4⟩
 | (m,e) :: r,ps,i + 1,n,d,h,hi => by
   obtain ⟨g,t,cs,fuel,p,q,h1,h2,h3,h4,h5,_⟩ := h
   exact gA h5 hi
theorem W2 {P : Program} {w : World} {l : List (String × DataW Unit)} {i g t : Nat} {n : String} {d : DataW Unit} (h : laidMet P l w) (hi : l[i]? = some (n,d)) (hg : P.globalNamed n = some g) (ht : (P.globals[g]?).map (·.type) = some t) :
   ∃ cs fuel p,(∀ (j : Nat) v,cs[j]? = some v → (full w).ld ⟨g,j,none⟩ = some v) ∧ DataW.trod (fun _ => ()) P w 0 (fun _ => true) false fuel t cs = some (d,p) := by
 obtain ⟨ps,hv,_⟩ := h
 obtain ⟨g',t',cs,fuel,p,h1,h2,h3,h4⟩ := gA hv hi
 obtain rfl := Option.some.inj (hg.symm.trans h1)
 obtain rfl := Option.some.inj (ht.symm.trans h2)
 refine ⟨cs.toList,fuel,p,fun j v hj => Qw ?_,h4⟩
 unfold World.var? at h3
 rw [hg] at h3
 simp only [Option.bind_some] at h3
 split at h3
 · rename_i c T fr hc
   cases h3
   simpa [World.cell?,hc] using hj
 · cases h3
theorem pk {W : World} (h : laidMet prog Laid W) : (full W).ld ⟨5,0,none⟩ = some (.bool true) := by
 obtain ⟨cs,fuel,p,h1,h2⟩ := W2 (i := 4) (n := "internal/strconv.optimize") (d := .lit (.bool true)) (g := 5) (t := 4) h rfl (by kernel_rfl) (by kernel_rfl)
 obtain ⟨b,rfl,e⟩ := DataW.trod_bool underlying4 h2
 cases e
 exact h1 0 _ rfl
set_option maxRecDepth 100000 in
theorem jU {W : World} (h : laidMet prog Laid W) : (full W).ld ⟨6,0,none⟩ = some (.int .u64 52) := by
 obtain ⟨cs,fuel,p,h1,h2⟩ := W2 (i := 3) (n := "internal/strconv.float64info") (d := .agg [.lit (.int .u64 52),.lit (.int .u64 11),.lit (.int .i64 (-1023))]) (g := 6) (t := 300) h rfl (by kernel_rfl) (by kernel_rfl)
 obtain ⟨xs,n,_,e,hlen,xG,hg⟩ := DataW.trod_struct underlying300 h2
 rw [show prog.cellsOf 300 = 3 by kernel_rfl] at hlen
 match cs,hlen,xs,xG with
 | [c0,c1,c2],_,[y0,y1,y2],_ =>
   have h0 := hg 0 _ rfl
   simp only [show prog.cellsOf 141 = 1 by kernel_rfl,List.drop,List.take,List.getElem?_cons_zero] at h0
   obtain ⟨a,e0,e1,_⟩ := DataW.trod_int underlying141 h0
   cases e0
   have e2 : y0.1 = .lit (.int .u64 52) := by
     have := congrArg Prod.fst e
     simp only [List.map_cons,DataW.agg.injEq,List.cons.injEq] at this
     exact this.1.symm
   rw [e1] at e2
   cases e2
   exact h1 0 _ rfl
set_option maxRecDepth 100000 in
theorem po {W : World} (h : laidMet prog Laid W) : ∃ b o n c,(full W).ld ⟨9,0,none⟩ = some (.slice (some ⟨b,o,none⟩) n c) ∧ 16 ≤ n ∧ ∀ i v,TY[i]? = some v → (full W).ld ⟨b,o + i * 1,none⟩ = some (.float .f64 v) := by
 obtain ⟨cs,fuel,p,h1,h2⟩ := W2 (i := 6) (n := "internal/strconv.float64pow10") (d := Rows.laid_internal_strconv_float64pow10) (g := 9) (t := 63) h rfl (by kernel_rfl) (by kernel_rfl)
 rcases open_slice underlying63 h2 with ⟨_,e⟩ | ⟨a,len,cap,m,n,D,Pl,rfl,hb,hl,hm,hmm,e,hi⟩
 · have := congrArg Prod.fst e
   simp [Rows.laid_internal_strconv_float64pow10] at this
 have e1 := congrArg Prod.fst e
 simp only [Rows.laid_internal_strconv_float64pow10,DataW.slice.injEq] at e1
 obtain ⟨e1,_⟩ := e1
 have hlen := congrArg List.length e1
 rw [List.length_map,List.length_range] at hlen
 simp only [List.length_cons,List.length_nil] at hlen
 have hlm : len ≤ m := by rw [hmm]; split <;> omega
 have Ub : ∀ i,i < len → ∃ v,W.cell? (a.add (i * 1)) = some (.float .f64 v) ∧ D i = .lit (.float .f64 v) := fun i Bk => by
   obtain ⟨cs',hc,jz⟩ := hi i (by omega)
   rw [show prog.cellsOf 51 = 1 by kernel_rfl] at hc
   obtain ⟨_,bX,yG⟩ := World.cells?_some hc
   obtain ⟨v,rfl,ev⟩ := dM underlying51 jz
   have h0 := yG 0 (by decide)
   simp only [List.getElem?_cons_zero] at h0
   exact ⟨v,h0,(congrArg Prod.fst ev)⟩
 have Zk : a.spot = none := by
   obtain ⟨v,hv,_⟩ := Ub 0 (by omega)
   have := Ue hv
   simpa [Addr.add] using this
 obtain ⟨b,o,sp⟩ := a
 simp only at Zk
 subst Zk
 refine ⟨b,o,len,cap,h1 0 _ rfl,by omega,fun i v hv => ?_⟩
 have AOV : i < 16 := (List.getElem?_eq_some_iff.1 hv).1
 obtain ⟨u,hu,hD⟩ := Ub i (by omega)
 have hDi : ((List.range len).map D)[i]? = some (D i) := by rw [List.getElem?_map,List.getElem?_range (by omega)]; rfl
 rw [← e1,hD] at hDi
 have huv : u = v := by
   match i,AOV with
   | 0,_ | 1,_ | 2,_ | 3,_ | 4,_ | 5,_ | 6,_ | 7,_ | 8,_ | 9,_ | 10,_ | 11,_ | 12,_ | 13,_ | 14,_ | 15,_ =>
     simp [TY] at hv hDi
     omega
 subst huv
 have h9 := Qw hu
 rw [Bu] at h9
 exact h9
theorem AIV {W : World} (h : laidMetH prog Laid W) (hs : W.ShapedOpen prog) : Gl (full W) := by
 have h : laidMet prog Laid W := by
   rw [MakeChecks.laidMetH_plain _ _ _ (by kernel_rfl)] at h
   exact h
 exact ⟨let ⟨m,hm⟩ := Go.Proofs.cell_of_shapedOpen_int (g := 1) (zero := #[.int .i64 0]) (t := 3) hs (of_decide_eq_true (by kernel_rfl)) (by kernel_rfl) rfl (by kernel_rfl) (by kernel_rfl) underlying3; ⟨m,Qw hm⟩,pk h,jU h,po h⟩
end TwW.Rw
end
section
namespace TwW.Rw
open Go Tw TwW Go.Proofs.Tryz Go.Proofs.YtlmhidjgplomgaaGreatDoor
theorem Be {a b : Bool} (h1 : a = true) (h2 : b = true) : (a && b) = true := by rw [h1,h2]; rfl
theorem AIW : mapsRowed prog = true := by kernel_rfl
theorem heard : prog.stopsHeard = true := by kernel_rfl
theorem enters : prog.mayEnter = true := by kernel_rfl
theorem ABW : (prog.stops == []) = true := by kernel_rfl
theorem ABX : (prog.stopKnobs == []) = true := by kernel_rfl
theorem AIX : (Rows.evalGroupsRow.lifted == prog.liftsFinal) = true := by kernel_rfl
theorem keys : (Rows.evalGroupsRow.plainKeys == prog.plainKeys) = true := by kernel_rfl
theorem makes : (prog.make == some Rows.evalGroupsRow.make) = true := by kernel_rfl
end TwW.Rw
end
section
namespace TwW.Rw
open Go Tw TwW Go.ChangeShapes Go.WideShapes Go.ChangeAt Go.RowKit Go.Deep Go.Proofs.Tryz Go.Proofs.YtlmhidjgplomgaaGreatDoor
noncomputable abbrev wV (os : Os) (args : Array Value) : World := (MD os).forCall (fun _ _ => 0) ⟨#[],args,[]⟩
def uX (P : Program) (w : World) (g : Nat) : Bool :=
 match ((begin P (fun _ _ => 0) default).world.heap[g]?).bind Obj.row? with
 | none => true
 | some (zero,t) =>
   match w.heap[g]? with
   | some (.cells cs t' frozen) => decide (t' = t) && decide (frozen = (0,0)) && cs.size == zero.size && (!P.buildable t || Row.okRefB P w t cs)
   | _ => false
theorem pq {P : Program} {w : World} (h : ∀ g,g < P.globals.size → uX P w g = true) : w.variablesRefB P = true :=
 List.all_eq_true.2 fun g hg => h g (List.mem_range.1 hg)
theorem dO {P : Program} {w : World} {t e : TypeId} {cs : Array Value} {n : Nat} (XB : P.cellTypes P.depth t = some (List.replicate n e)) (hs : cs.size = n) (Jp : (cs.toList.all fun v => Cell.okRefB P w e v) = true) : Row.okRefB P w t cs = true := by
 unfold Row.okRefB
 rw [XB]
 simp only [List.length_replicate,hs,Nat.mod_self,Bool.and_eq_true,beq_iff_eq,List.all_eq_true,List.mem_range,true_and]
 intro i hi
 have Bk : i < cs.size := by omega
 rw [Array.getElem?_eq_getElem Bk,Nat.mod_eq_of_lt hi,List.getElem?_replicate,if_pos hi]
 exact List.all_eq_true.1 Jp _ (by simp)
theorem gB {P : Program} {w : World} {g n : Nat} {t e : TypeId} {cs : Array Value} (h0 : (((begin P (fun _ _ => 0) default).world.heap[g]?).bind Obj.row?).map (fun x => (x.1.size,x.2)) = some (n,t)) (h1 : w.heap[g]? = some (.cells cs t (0,0))) (hs : cs.size = n) (XB : P.cellTypes P.depth t = some (List.replicate n e)) (Jp : (cs.toList.all fun v => Cell.okRefB P w e v) = true) : uX P w g = true := by
 unfold uX
 cases hb : ((begin P (fun _ _ => 0) default).world.heap[g]?).bind Obj.row? with
 | none => rfl
 | some x =>
   obtain ⟨zero,t'⟩ := x
   rw [hb] at h0
   simp only [Option.map_some,Option.some.injEq,Prod.mk.injEq] at h0
   obtain ⟨h2,rfl⟩ := h0
   simp only [h1,dO XB hs Jp,hs,h2]
   simp
set_option maxRecDepth 1000000
theorem AIY (os : Os) {args : Array Value} : ((List.range 17).all fun g => (g == 10 || g == 11) || uX prog (wV os args) g) = true := by kernel_rfl
theorem AOW (os : Os) {args : Array Value} : (wV os args).heap[10]? = some (.cells (fl2 Rows.laid_internal_strconv_pow10Tab).toArray 342 (0,0)) := by kernel_rfl
theorem AOX (os : Os) {args : Array Value} : (wV os args).heap[11]? = some (.cells (jS Rows.laid_unicode_utf8_first).toArray 351 (0,0)) := by kernel_rfl
theorem z10 : (((begin prog (fun _ _ => 0) default).world.heap[10]?).bind Obj.row?).map (fun x => (x.1.size,x.2)) = some (1392,342) := by kernel_rfl
theorem z11 : (((begin prog (fun _ _ => 0) default).world.heap[11]?).bind Obj.row?).map (fun x => (x.1.size,x.2)) = some (256,351) := by kernel_rfl
theorem t10 : prog.cellTypes prog.depth 342 = some (List.replicate 1392 48) := by kernel_rfl
theorem t11 : prog.cellTypes prog.depth 351 = some (List.replicate 256 5) := by kernel_rfl
theorem s10 : (fl2 Rows.laid_internal_strconv_pow10Tab).toArray.size = 1392 := by kernel_rfl
theorem s11 : (jS Rows.laid_unicode_utf8_first).toArray.size = 256 := by kernel_rfl
theorem a10 (os : Os) {args : Array Value} : ((fl2 Rows.laid_internal_strconv_pow10Tab).toArray.toList.all fun v => Cell.okRefB prog (wV os args) 48 v) = true := by kernel_rfl
theorem a11 (os : Os) {args : Array Value} : ((jS Rows.laid_unicode_utf8_first).toArray.toList.all fun v => Cell.okRefB prog (wV os args) 5 v) = true := by kernel_rfl
theorem AOY (os : Os) {args : Array Value} : (wV os args).variablesRefB prog = true := pq fun g hg => by
 by_cases TJ : g = 10
 · subst TJ; exact gB z10 (AOW os) s10 t10 (a10 os)
 by_cases fi : g = 11
 · subst fi; exact gB z11 (AOX os) s11 t11 (a11 os)
 have h17 : g < 17 := hg
 have := List.all_eq_true.1 (AIY os (args := args)) g (List.mem_range.2 h17)
 simpa [TJ,fi] using this
theorem jV {H : Type} {s : ByteArray} (h : Rows.uptoBulk (DataW.lit (H := H) (.string s.data.toList)) ≤ 1048576) : s.size ≤ 1048576 := by
 have e : s.data.toList.length = s.size := Array.length_toList
 have h' : s.data.toList.length + 1 ≤ 1048576 := h
 omega
abbrev SrI (ss : List Sr) : Prop := uW (fun s : Sr => s.ls.length ≤ 1048576 ∧ s.ps.length ≤ 1048576 ∧ ∀ p ∈ s.ps,0 ≤ p.2 ∧ p.2 < 18446744073709551616) ss
theorem ABY {ss : List Sr} (h : SrI ss) : Modest [] ss := ⟨Nat.zero_le _,fun x hx => (by cases hx),Nat.le_trans h.2 (by decide),fun s hs => Nat.le_trans (h.1 s hs).2.1 (by decide),fun s hs p hp => ((h.1 s hs).2.2 p hp).1⟩
theorem ABZ {ss : List Sr} (h : SrI ss) : SOk ss := ⟨Nat.le_trans h.2 (by decide),fun s hs => Nat.le_trans (h.1 s hs).1 (by decide),fun s hs => Nat.le_trans (h.1 s hs).2.1 (by decide)⟩
end TwW.Rw
end
section
namespace TwW
open Go Tw Go.RowKit Go.Proofs.Tryz
def OL (v : Int) : Prop := (E3 v.toNat = false ∧ 0 ≤ v) ∨ v = 9221120237041090560
theorem pr {x : Nat} (h : E3 x = false ∨ x = 9221120237041090560) : OL (x : Nat) := by
 rcases h with h | h
 · exact .inl ⟨by rw [Int.toNat_natCast]; exact h,Int.natCast_nonneg _⟩
 · exact .inr (by rw [h]; rfl)
theorem PZ (x : Nat) : OL (toF x : Nat) := pr (by
 unfold toF
 split
 · exact .inr rfl
 · rename_i h; exact .inl (by simpa using h))
theorem W3 (x : Int) : OL (cZ x) := PZ _
theorem dP (op : Int) (a b : Nat) : OL (Wk op a b : Nat) := by
 unfold Wk
 cases fAr op a b with
 | none => exact .inr rfl
 | some r => exact PZ r
theorem Lj (op a b : Int) : OL (RD op a b) := dP _ _ _
theorem VY {neg : Bool} {r : Nat} (h : r ≤ 9218868437227405312) : E3 (Ieee.double.word neg r) = false := by
 cases hf : E3 (Ieee.double.word neg r) with
 | false => rfl
 | true =>
   rw [LR] at hf
   have e : Ieee.double.word neg r = if neg then 9223372036854775808 + r else r := by cases neg <;> rfl
   rw [e] at hf
   cases neg
   · simp only [Bool.false_eq_true,if_false] at hf; omega
   · simp only [if_true] at hf; omega
theorem Pa (n : Int) : OL (BA n) := pr (.inl (by
 show E3 (Ieee.double.nearest (n < 0) n.natAbs 0) = false
 unfold Ieee.Format.nearest
 dsimp only
 split
 · exact VY (Nat.zero_le _)
 · exact VY (Nat.le_trans (Nat.min_le_right ..) (by decide))))
theorem AIZ : OL 0 := .inl ⟨by decide,by decide⟩
theorem Zl {f : Int → Int → Int} (hf : ∀ a b,OL a → OL (f a b)) : ∀ (l : List Int) (a : Int),OL a → OL (l.foldl f a)
 | [],a,h => h
 | x :: l,a,h => Zl hf l _ (hf a x h)
theorem gC : ∀ vs,OL (UU vs)
 | [] => AIZ
 | v :: l => Zl (fun a b _ => Lj 1 a b) l _ (W3 v)
theorem OM (op : Int) : ∀ vs,OL (LV op vs)
 | [] => AIZ
 | v :: l => W3 _
theorem pw (vs : List Int) : OL (LY vs) := by
 unfold LY
 have : ∀ (l : List (Int × Int)) (a : Int),OL a → OL (l.foldl LX a) := fun l => by
   induction l with
   | nil => intro a h; exact h
   | cons x l ih =>
     intro a h
     refine ih _ ?_
     unfold LX
     split
     · exact Lj _ _ _
     · exact h
 exact this _ _ (Lj _ _ _)
theorem qA (op : Int) (vs : List Int) : OL (foldI op vs) := by
 unfold foldI
 split
 · exact gC _
 · split
   · exact OM _ _
   · split
     · exact OM _ _
     · split
       · exact Lj _ _ _
       · exact Pa _
theorem qB {op : Int} {vs : List Int} {w x : Int} (h : Ij op vs w = some x) : OL x := by
 unfold Ij at h
 split at h
 · rw [← Option.some.inj h]; exact gC _
 split at h
 · rw [← Option.some.inj h]; exact Lj _ _ _
 split at h
 · rw [← Option.some.inj h]; exact OM _ _
 split at h
 · rw [← Option.some.inj h]; exact OM _ _
 split at h
 · rw [← Option.some.inj h]; exact Pa _
 split at h
 · rw [← Option.some.inj h]; exact W3 _
 split at h
 · rw [← Option.some.inj h]; exact dP _ _ _
 split at h
 · exact absurd h.symm (Option.some_ne_none _)
 split at h
 · rw [← Option.some.inj h]; exact Lj _ _ _
 split at h
 · rw [← Option.some.inj h]; exact pw _
 · rw [← Option.some.inj h]; exact Lj _ _ _
theorem ON (op a b : Int) : OL (DL op a b).1 := by
 unfold DL
 split
 · exact Lj _ _ _
 · show OL (if _ then BA 1 else BA 0)
   split <;> exact Pa _
theorem uY (s : ByteArray) : OL (HJ s) := by
 unfold HJ
 dsimp only
 split
 · exact PZ _
 · split
   · exact PZ _
   · exact dP _ _ _
theorem jW (x : Int) : OL (NB x) := by
 unfold NB LU
 split
 · exact .inr rfl
 · exact PZ _
theorem uZ (x : Int) : OL (Wl x) := PZ _
theorem Zm (x : Int) : OL (oW x) := W3 _
theorem qC : ∀ x y : List UInt8,Op.bytesLess x y = true ∨ x = y ∨ Op.bytesLess y x = true
 | [],[] => .inr (.inl rfl)
 | [],_ :: _ => .inl rfl
 | _ :: _,[] => .inr (.inr rfl)
 | a :: x,b :: y => by
   simp only [Op.bytesLess,Bool.or_eq_true,Bool.and_eq_true,decide_eq_true_eq,beq_iff_eq]
   rcases Nat.lt_trichotomy a.toNat b.toNat with h | h | h
   · exact .inl (.inl (UInt8.lt_iff_toNat_lt.2 h))
   · have e : a = b := UInt8.toNat_inj.1 h
     subst e
     rcases qC x y with h | h | h
     · exact .inl (.inr ⟨rfl,h⟩)
     · exact .inr (.inl (by rw [h]))
     · exact .inr (.inr (.inr ⟨rfl,h⟩))
   · exact .inr (.inr (.inl (UInt8.lt_iff_toNat_lt.2 h)))
theorem Tt : ∀ x y z : List UInt8,Op.bytesLess x y = true → Op.bytesLess y z = true → Op.bytesLess x z = true
 | _,_,[],_,h => by cases ‹List UInt8› <;> simp [Op.bytesLess] at h
 | [],_,_ :: _,_,_ => rfl
 | _ :: _,[],_,h,_ => by simp [Op.bytesLess] at h
 | a :: x,b :: y,c :: z,h1,h2 => by
   simp only [Op.bytesLess,Bool.or_eq_true,Bool.and_eq_true,decide_eq_true_eq,beq_iff_eq,UInt8.lt_iff_toNat_lt] at h1 h2 ⊢
   rcases h1 with h1 | ⟨rfl,h1⟩
   · rcases h2 with h2 | ⟨rfl,h2⟩
     · exact .inl (by omega)
     · exact .inl h1
   · rcases h2 with h2 | ⟨rfl,h2⟩
     · exact .inl h2
     · exact .inr ⟨rfl,Tt x y z h1 h2⟩
theorem dQ : ∀ x : List UInt8,Op.bytesLess x x = false
 | [] => rfl
 | a :: x => by simp [Op.bytesLess,dQ x]
theorem qD {a b : ByteArray} (h : sle b a = false) : Op.bytesLess a.toList b.toList = true := by
 unfold sle at h
 simp only [Bool.or_eq_false_iff,beq_eq_false_iff_ne] at h
 rcases qC a.toList b.toList with h1 | h1 | h1
 · exact h1
 · exact absurd h1.symm h.2
 · rw [h1] at h; exact absurd h.1 (by decide)
theorem Tu {p x y : ByteArray} (h1 : sle x p = false) (h2 : sle y x = false) : sle y p = false := by
 have h3 := Tt _ _ _ (qD h1) (qD h2)
 cases h : sle y p with
 | false => rfl
 | true =>
   unfold sle at h
   simp only [Bool.or_eq_true,beq_iff_eq] at h
   rcases h with h | h
   · have := Tt _ _ _ h3 h
     rw [dQ] at this; cases this
   · rw [h,dQ] at h3; cases h3
theorem GB {pv : Option ByteArray} {x : Lb} {l : List Lb} : C1 pv (x :: l) = 0 ↔ ¬ CE x.1 = false ∧ ¬ (x.2.size = 0 ∨ 256 < x.2.size ∨ M7 x.2 = false) ∧ ¬ pv.any (sle x.1 ·) = true ∧ C1 (some x.1) l = 0 := by
 have e : C1 pv (x :: l) = if CE x.1 = false then 31 else if x.2.size = 0 ∨ 256 < x.2.size ∨ M7 x.2 = false then 32 else if pv.any (sle x.1 ·) = true then 33 else C1 (some x.1) l := by cases pv <;> rfl
 rw [e]
 constructor
 · intro h
   split at h
   · cases h
   split at h
   · cases h
   split at h
   · cases h
   exact ⟨by assumption,by assumption,by assumption,h⟩
 · rintro ⟨h1,h2,h3,h4⟩
   rw [if_neg h1,if_neg h2,if_neg h3]; exact h4
theorem qE {pv : Option ByteArray} {k : ByteArray} (hk : ∀ p,pv = some p → sle k p = false) : ∀ {l : List Lb},C1 (some k) l = 0 → C1 pv l = 0
 | [],_ => by cases pv <;> rfl
 | x :: l,h => by
   obtain ⟨h1,h2,h3,h4⟩ := GB.1 h
   refine GB.2 ⟨h1,h2,?_,h4⟩
   cases pv with
   | none => simp
   | some p =>
     simp only [Option.any_some,Bool.not_eq_true] at h3 ⊢
     exact Tu (hk p rfl) h3
theorem Tv (g : Lb → Bool) : ∀ (ls : List Lb) (pv : Option ByteArray),C1 pv ls = 0 → C1 pv (ls.filter g) = 0
 | [],pv,_ => by cases pv <;> rfl
 | x :: l,pv,h => by
   obtain ⟨h1,h2,h3,h4⟩ := GB.1 h
   have ih := Tv g l _ h4
   rw [List.filter_cons]
   split
   · exact GB.2 ⟨h1,h2,h3,ih⟩
   · refine qE (fun p hp => ?_) ih
     subst hp
     simpa using h3
theorem GC {ls : List Lb} (g : Lb → Bool) (h : EY ls = 0) : EY (ls.filter g) = 0 := by
 unfold EY at h ⊢
 split at h
 · cases h
 · rename_i h16
   have := List.length_filter_le g ls
   rw [if_neg (by omega)]
   exact Tv g ls none h
theorem Gv {ls : List Lb} (h : EY ls = 0) : EY (BI ls) = 0 := GC _ h
theorem ua {n : Nd} {ls : List Lb} (h : EY ls = 0) : EY (NU n ls) = 0 := by
 unfold NU
 split
 · exact GC _ h
 · exact Gv (GC _ h)
theorem dR {n : Nd} {ls : List Lb} (h : EY ls = 0) : EY (DK n ls) = 0 := by
 unfold DK
 split
 · exact GC _ h
 · split
   · exact Gv (GC _ h)
   · rfl
def QL (l : List El) : Prop := l.Pairwise fun a b => Au a.ls b.ls < 0
def j3 (ss : List Sr) (e : El) : Prop := EY e.ls = 0 ∧ (OL e.v ∨ ∃ s ∈ ss,∃ p ∈ s.ps,p.2 = e.v)
structure VS (ss : List Sr) (x : Vv) : Prop where
 el : ∀ e ∈ x.vec,j3 ss e
 up : QL x.vec
 rg : ∀ r ∈ x.Ox,EY r.ls = 0
 one : x.kind = 1 → OL x.v
theorem NJ {l m : List El} (h : BY FF l = some m) : QL m := by
 have hp := MC h
 unfold BY at h
 split at h
 · rename_i hd
   cases h
   have h1 := JP (F := FF) rfl l
   have h2 : (ZF FF l).Pairwise fun a b => Au a.ls b.ls ≠ 0 := (hp.pairwise_iff (fun {x y} Wi hyx => Wi (by rw [(AZ.eq _ _).1 hyx]; exact (AZ.eq _ _).2 rfl))).2 hd
   exact (h1.and h2).imp fun {a b} aS => by
     have h3 : Au a.ls b.ls ≤ 0 := aS.1
     have h4 := aS.2
     omega
 · cases h
theorem NK {ss : List Sr} {l m : List El} (h : BY FF l = some m) (hl : ∀ e ∈ l,j3 ss e) : VS ss ⟨2,0,m,[]⟩ :=
 ⟨fun e he => hl e ((MC h).mem_iff.1 he),NJ h,fun r hr => (by cases hr),fun hh => absurd (show (2 : Int) = 1 from hh) (by decide)⟩
theorem dS {ss : List Sr} {v : Int} (h : OL v) : VS ss ⟨1,v,[],[]⟩ := ⟨fun e he => (by cases he),.nil,fun r hr => (by cases hr),fun _ => h⟩
theorem Ik : ∀ {ss : List Sr} {q : Option (List Lb)},Cv q ss = true → (∀ k,q = some k → ∀ s ∈ ss,Au k s.ls < 0) ∧ ss.Pairwise fun a b => Au a.ls b.ls < 0
 | [],q,_ => ⟨fun k _ s hs => (by cases hs),.nil⟩
 | s :: l,q,h => by
   rw [Ib] at h
   simp only [Bool.and_eq_true] at h
   obtain ⟨h1,h2⟩ := Ik h.2
   refine ⟨fun k hk u hu => ?_,List.pairwise_cons.2 ⟨fun u hu => h1 s.ls rfl u hu,h2⟩⟩
   subst hk
   have h3 : Au k s.ls < 0 := of_decide_eq_true h.1.2
   rcases List.mem_cons.1 hu with rfl | hu
   · exact h3
   · exact AZ.trans _ _ _ h3 (h1 s.ls rfl u hu)
theorem VZ {ss : List Sr} {n : Nd} {t : Int} (h : Cv none ss = true) : VS ss ⟨2,0,Ad FF n ss t,[]⟩ := by
 have key : ∀ (s : Sr) (e : El),(match (F2 s.ps (t - n.back - 300) (t - n.back)).getLast? with
   | none => none
   | some p => if p.2 = IZ ∨ FF.ZC n.mt s.ls = false then none else some (⟨s.ls,p.2⟩ : El)) = some e → e.ls = s.ls ∧ ∃ p ∈ s.ps,p.2 = e.v := fun s e he => by
   split at he
   · cases he
   · rename_i p hl
     split at he
     · cases he
     · simp only [Option.some.injEq] at he
       subst he
       exact ⟨rfl,p,(List.mem_filter.1 (List.mem_of_getLast? hl)).1,rfl⟩
 refine ⟨fun e he => ?_,?_,fun r hr => (by cases hr),fun hh => absurd (show (2 : Int) = 1 from hh) (by decide)⟩
 · obtain ⟨s,hs,h1⟩ := List.mem_filterMap.1 he
   obtain ⟨h2,p,hp,hv⟩ := key s e h1
   exact ⟨by rw [h2]; exact (Ld h s hs).1,.inr ⟨s,hs,p,hp,hv⟩⟩
 · show (List.filterMap _ ss).Pairwise _
   refine List.pairwise_filterMap.2 ((Ik h).2.imp fun {a b} aS e he e' Qg => ?_)
   rw [(key a e he).1,(key b e' Qg).1]; exact aS
theorem qF {ss : List Sr} {n : Nd} {t : Int} (h : Cv none ss = true) : VS ss ⟨3,FF.whole n.width,[],Wg FF n ss t⟩ := by
 refine ⟨fun e he => (by cases he),.nil,fun r hr => ?_,fun hh => absurd (show (3 : Int) = 1 from hh) (by decide)⟩
 obtain ⟨s,hs,h1⟩ := List.mem_filterMap.1 hr
 dsimp only at h1
 generalize (!_ && FF.ZC n.mt s.ls) = b at h1
 cases b with
 | false => cases h1
 | true =>
   simp only [cond_true,Option.some.injEq] at h1
   subst h1
   exact (Ld h s hs).1
theorem qG {ss : List Sr} {n : Nd} {x : Vv} (hx : VS ss x) : ∀ e ∈ TL FF n x,j3 ss e := fun e he => by
 rcases List.mem_append.1 he with he | he
 · obtain ⟨y,hy,rfl⟩ := List.mem_map.1 he
   refine ⟨Gv (hx.el y hy).1,.inl ?_⟩
   show OL (if n.op = 11 then Wl y.v else NB y.v)
   split
   · exact uZ _
   · exact jW _
 · obtain ⟨y,hy,h1⟩ := List.mem_filterMap.1 he
   have h2 : (Ij n.op y.vs x.v).map (fun v => (⟨BI y.ls,v⟩ : El)) = some e := h1
   cases ho : Ij n.op y.vs x.v with
   | none => rw [ho] at h2; cases h2
   | some z =>
     rw [ho] at h2
     simp only [Option.map_some,Option.some.injEq] at h2
     subst h2
     exact ⟨Gv (hx.rg y hy),.inl (qB ho)⟩
theorem Zn {ls : List Lb} {v : Int} : ∀ {l : List Rg} {g : Rg},g ∈ Gc ls v l → g.ls = ls ∨ ∃ y ∈ l,y.ls = g.ls
 | [],g,h => by
   unfold Gc at h
   rw [List.mem_singleton] at h
   exact .inl (by rw [h])
 | y :: l,g,h => by
   unfold Gc at h
   split at h
   · rcases List.mem_cons.1 h with rfl | h
     · exact .inr ⟨y,by simp,rfl⟩
     · exact .inr ⟨g,List.mem_cons_of_mem _ h,rfl⟩
   · rcases List.mem_cons.1 h with rfl | h
     · exact .inr ⟨g,by simp,rfl⟩
     · rcases Zn h with h | ⟨z,hz,h⟩
       · exact .inl h
       · exact .inr ⟨z,List.mem_cons_of_mem _ hz,h⟩
theorem Va {n : Nd} : ∀ (l : List El) (gs : List Rg),(∀ e ∈ l,EY e.ls = 0) → (∀ g ∈ gs,EY g.ls = 0) → ∀ g ∈ l.foldl (fun gs x => Gc (DK n x.ls) x.v gs) gs,EY g.ls = 0
 | [],gs,_,h => h
 | x :: l,gs,hl,h => by
   refine Va l _ (fun e he => hl e (List.mem_cons_of_mem _ he)) fun g hg => ?_
   rcases Zn hg with h1 | ⟨y,hy,h1⟩
   · rw [h1]; exact dR (hl x (by simp))
   · rw [← h1]; exact h y hy
theorem ub {ss : List Sr} {n : Nd} {x : Vv} (hx : VS ss x) : ∀ e ∈ Qj FF n x,j3 ss e := fun e he => by
 obtain ⟨g,hg,rfl⟩ := List.mem_map.1 he
 exact ⟨Va (n := n) x.vec [] (fun e he => (hx.el e he).1) (fun g hg => by cases hg) g hg,.inl (qA _ _)⟩
theorem gD {ss : List Sr} {n : Nd} {l : List El} {f : Int → Int × Bool} (hl : ∀ e ∈ l,j3 ss e) (hf : ∀ v,OL (f v).1) : ∀ e ∈ Hy n l f,j3 ss e := fun e he => by
 obtain ⟨y,hy,h1⟩ := List.mem_filterMap.1 he
 split at h1
 · simp only [Option.some.injEq] at h1
   subst h1
   exact ⟨Gv (hl y hy).1,.inl (hf _)⟩
 · split at h1
   · simp only [Option.some.injEq] at h1
     subst h1; exact hl y hy
   · cases h1
theorem qH {ss : List Sr} {n : Nd} {x y : List El} (hx : ∀ e ∈ x,j3 ss e) (hy : ∀ e ∈ y,j3 ss e) : ∀ e ∈ Mi n x y,j3 ss e := fun e he => by
 unfold Mi at he
 rcases List.mem_append.1 he with he | he
 · exact hx e (List.mem_filter.1 he).1
 · exact hy e (List.mem_filter.1 he).1
theorem qI {ss : List Sr} {n : Nd} {x y m : List El} (hx : ∀ e ∈ x,j3 ss e) (h : N8 FF n x y = some m) : ∀ e ∈ m,j3 ss e := by
 unfold N8 at h
 split at h
 · simp only [Option.some.injEq] at h
   subst h
   intro e he
   obtain ⟨z,hz,h1⟩ := List.mem_filterMap.1 he
   split at h1
   · cases h1
   · split at h1
     · simp only [Option.some.injEq] at h1
       subst h1
       exact ⟨ua (hx z hz).1,.inl (ON _ _ _)⟩
     · split at h1
       · simp only [Option.some.injEq] at h1
         subst h1; exact hx z hz
       · cases h1
 · cases h
theorem ABa {ss : List Sr} {n : Nd} {x y v : Vv} (hx : VS ss x) (hy : VS ss y) (h : ZG FF n x y = some v) : VS ss v := by
 unfold ZG at h
 split at h
 · cases h; exact dS (ON _ _ _)
 · obtain ⟨m,hm,rfl⟩ := map_some h
   split at hm
   · exact NK (show BY FF (Hy n y.vec (FF.N7 n.op x.v)) = some m from hm) (gD hy.el fun v => ON _ _ _)
   · split at hm
     · exact NK (show BY FF (Hy n x.vec fun v => FF.N7 n.op v y.v) = some m from hm) (gD hx.el fun v => ON _ _ _)
     · split at hm
       · exact NK (show BY FF (Mi n x.vec y.vec) = some m from hm) (qH hx.el hy.el)
       · cases hq : N8 FF n x.vec y.vec with
         | none => rw [hq] at hm; cases hm
         | some w =>
           rw [hq] at hm
           exact NK (show BY FF w = some m from hm) (qI hx.el hq)
theorem uc {ss : List Sr} {n : Nd} {t : Int} {L : List Vv} {v : Vv} (hs : Cv none ss = true) (hV : ∀ x ∈ L,VS ss x) (h : CA FF ss t n L = some v) : VS ss v := by
 unfold CA at h
 split at h
 · cases h; exact dS (uY _)
 split at h
 · cases h; exact VZ hs
 split at h
 · cases h; exact qF hs
 match L with
 | [x] =>
   have hx := hV x (by simp)
   dsimp only at h
   split at h
   · obtain ⟨m,hm,rfl⟩ := map_some h
     exact NK hm (qG hx)
   split at h
   · obtain ⟨m,hm,rfl⟩ := map_some h
     exact NK hm (ub hx)
   split at h
   · unfold iT at h
     split at h
     · cases h; exact dS (Zm _)
     · obtain ⟨m,hm,rfl⟩ := map_some h
       refine NK hm fun e he => ?_
       obtain ⟨y,hy,rfl⟩ := List.mem_map.1 he
       exact ⟨Gv (hx.el y hy).1,.inl (Zm _)⟩
   · cases h
 | [x,y] =>
   dsimp only at h
   split at h
   · exact ABa (hV x (by simp)) (hV y (by simp)) h
   · cases h
 | [] => cases h
 | _ :: _ :: _ :: _ => cases h
theorem qJ {ss : List Sr} {t : Int} (hs : Cv none ss = true) : ∀ (T : List Nd) (st r : List Vv),F3 FF ss t T st = some r → (∀ x ∈ st,VS ss x) → ∀ x ∈ r,VS ss x
 | [],st,r,hr,hV => by cases hr; exact hV
 | x :: T,st,r,hr,hV => by
   rw [F3] at hr
   cases hz : CA FF ss t x (st.drop (st.length - x.parts.toNat)) with
   | none => rw [hz] at hr; cases hr
   | some z =>
     rw [hz] at hr
     refine qJ hs T _ r hr fun u hu => ?_
     rcases List.mem_append.1 hu with hu | hu
     · exact hV u (List.mem_of_mem_take hu)
     · rw [List.mem_singleton] at hu
       rw [hu]
       exact uc hs (fun y hy => hV y (List.mem_of_mem_drop hy)) hz
theorem W4 {ss : List Sr} {t : Int} {T : List Nd} {l : List El} (hs : Cv none ss = true) (h : BC FF T ss t = some l) : (∀ e ∈ l,j3 ss e) ∧ QL l := by
 unfold BC at h
 cases hr : F3 FF ss t T [] with
 | none => rw [hr] at h; cases h
 | some st =>
   rw [hr] at h
   have hV := qJ hs T [] st hr (fun x hx => by cases hx)
   change (st.head?.map fun v : Vv => if v.kind = 1 then [(⟨[],v.v⟩ : El)] else v.vec) = some l at h
   cases st with
   | nil => cases h
   | cons v st =>
     simp only [List.head?_cons,Option.map_some,Option.some.injEq] at h
     have hv := hV v (by simp)
     split at h
     · rename_i hk
       subst h
       exact ⟨fun e he => by rw [List.mem_singleton] at he; subst he; exact ⟨rfl,.inl (hv.one hk)⟩,List.pairwise_singleton _ _⟩
     · subst h
       exact ⟨hv.el,hv.up⟩
theorem OO {t : Int} : ∀ {l : List El} {q : Option (List Lb)},(∀ e ∈ l,EY e.ls = 0) → QL l → (∀ k,q = some k → ∀ e ∈ l,Au k e.ls < 0) → Cv q (l.map fun e => ⟨e.ls,[(t,e.v)]⟩) = true
 | [],q,_,_,_ => by cases q <;> rfl
 | e :: l,q,h1,h2,h3 => by
   have h2 := List.pairwise_cons.1 h2
   rw [List.map_cons,Ib]
   simp only [Bool.and_eq_true,decide_eq_true_eq]
   refine ⟨⟨⟨h1 e (by simp),rfl⟩,?_⟩,OO (fun u hu => h1 u (List.mem_cons_of_mem _ hu)) h2.2 fun k hk u hu => by cases hk; exact h2.1 u hu⟩
   cases q with
   | none => rfl
   | some k => exact decide_eq_true (h3 k rfl e (by simp))
end TwW
end
section
namespace TwW
open Ieee
theorem lp : double.leastPlace = -1074 := rfl
theorem fb : ((double.fractionBits : Nat) : Int) = 52 := by kernel_rfl
def flN (n : Int) : Nat := double.nearest (decide (n < 0)) n.natAbs 0
end TwW
end
section
namespace TwW
open Go Tw Go.RowKit Go.Proofs.Tryz
def Zo : List ByteArray := [⟨#[]⟩,⟨#[114,97,116,101]⟩,⟨#[105,110,99,114,101,97,115,101]⟩,⟨#[100,101,108,116,97]⟩,⟨#[115,117,109,95,111,118,101,114,95,116,105,109,101]⟩,⟨#[97,118,103,95,111,118,101,114,95,116,105,109,101]⟩,⟨#[109,105,110,95,111,118,101,114,95,116,105,109,101]⟩,⟨#[109,97,120,95,111,118,101,114,95,116,105,109,101]⟩,⟨#[99,111,117,110,116,95,111,118,101,114,95,116,105,109,101]⟩,⟨#[108,97,115,116,95,111,118,101,114,95,116,105,109,101]⟩,⟨#[119,97,118,101]⟩,⟨#[97,98,115]⟩,⟨#[102,108,111,111,114]⟩]
def Zp : List ByteArray := [⟨#[]⟩,⟨#[115,117,109]⟩,⟨#[109,105,110]⟩,⟨#[109,97,120]⟩,⟨#[97,118,103]⟩,⟨#[99,111,117,110,116]⟩]
def ud : List ByteArray := [⟨#[]⟩,⟨#[43]⟩,⟨#[45]⟩,⟨#[42]⟩,⟨#[47]⟩,⟨#[61,61]⟩,⟨#[33,61]⟩,⟨#[60]⟩,⟨#[60,61]⟩,⟨#[62]⟩,⟨#[62,61]⟩,⟨#[97,110,100]⟩,⟨#[111,114]⟩,⟨#[117,110,108,101,115,115]⟩]
def W5 : List ByteArray → ByteArray → Nat → Nat
 | [],_,_ => 0
 | x :: l,s,k => if x = s ∧ s ≠ ⟨#[]⟩ then k else W5 l s (k + 1)
def Gg (l : List ByteArray) (s : ByteArray) : Nat := W5 l s 0
def Qm : List ByteArray := [⟨#[111,114]⟩,⟨#[97,110,100]⟩,⟨#[117,110,108,101,115,115]⟩,⟨#[98,111,111,108]⟩,⟨#[111,110]⟩,⟨#[105,103,110,111,114,105,110,103]⟩,⟨#[98,121]⟩,⟨#[119,105,116,104,111,117,116]⟩,⟨#[111,102,102,115,101,116]⟩]
def Mn (s : ByteArray) : Bool := C5 s Qm || decide (0 < Gg Zo s) || decide (0 < Gg Zp s)
structure Cl where
 kind : Int
 text : ByteArray
 span : Int
 op : Nat
 fn : Nat
 ag : Nat
 kept : Bool
 big : Bool
 name : Bool
 lp : Bool
 rp : Bool
 comma : Bool
 lsq : Bool
 rsq : Bool
 lbr : Bool
 minus : Bool
 bool : Bool
 on : Bool
 ign : Bool
 xe : Bool
 out : Bool
 off : Bool
def Iu (k : Int) (s : ByteArray) (j : Int) (t : ByteArray) : Bool := decide (k = j) && decide (s = t)
def Jt (k : Int) (s : ByteArray) (v : Int) : Cl where
 kind := k
 text := s
 span := v
 op := Gg ud s
 fn := Gg Zo s
 ag := Gg Zp s
 kept := Mn s
 big := decide (256 < s.size)
 name := decide (k = 3) && CE s
 lp := Iu k s 5 ⟨#[40]⟩
 rp := Iu k s 5 ⟨#[41]⟩
 comma := Iu k s 5 ⟨#[44]⟩
 lsq := Iu k s 5 ⟨#[91]⟩
 rsq := Iu k s 5 ⟨#[93]⟩
 lbr := Iu k s 5 ⟨#[123]⟩
 minus := Iu k s 5 ⟨#[45]⟩
 bool := Iu k s 3 ⟨#[98,111,111,108]⟩
 on := Iu k s 3 ⟨#[111,110]⟩
 ign := Iu k s 3 ⟨#[105,103,110,111,114,105,110,103]⟩
 xe := Iu k s 3 ⟨#[98,121]⟩
 out := Iu k s 3 ⟨#[119,105,116,104,111,117,116]⟩
 off := Iu k s 3 ⟨#[111,102,102,115,101,116]⟩
def Dj (op : Nat) (b : Bool) : Nd := ⟨6,op,⟨#[]⟩,[],0,0,0,[],b,2⟩
def qK : Nd := ⟨7,0,⟨#[]⟩,[],0,0,0,[],false,1⟩
def HU (s : ByteArray) : Nd := ⟨1,0,s,[],0,0,0,[],false,0⟩
def qL (op : Nat) : Nd := ⟨4,op,⟨#[]⟩,[],0,0,0,[],false,1⟩
def Ju (op : Nat) (g : Int) (ns : List ByteArray) : Nd := ⟨5,op,⟨#[]⟩,[],0,0,g,ns,false,1⟩
def BB (s : ByteArray) : Nd := ⟨2,0,⟨#[]⟩,[⟨1,A1,s⟩],0,0,0,[],false,0⟩
def AOZ (s : ByteArray) (w : Int) : Nd := ⟨3,0,⟨#[]⟩,[⟨1,A1,s⟩],w,0,0,[],false,0⟩
def uf : Nat → List Cl → List ByteArray → Option (List ByteArray × List Cl)
 | 0,_,_ => none
 | _ + 1,[],_ => none
 | f + 1,c :: r,ns => if c.rp then some (ns,r) else if ns.length = 0 then (if c.name then uf f r (ns ++ [c.text]) else none) else if c.comma then (match r with
   | [] => none
   | w :: r' => if w.name then uf f r' (ns ++ [w.text]) else none) else none
def dT : List Cl → Option (Int × List ByteArray × List Cl)
 | [] => none
 | c :: r => if c.xe || c.out then match r with
     | [] => none
     | e :: r => if e.lp then (uf 8 r []).map fun x => (if c.xe then 1 else 2,x.1,x.2) else none
   else some (0,[],c :: r)
def ug (c : Cl) (r : List Cl) : Option (List Cl × List Nd) := match r with
 | [] => none
 | a :: r' => if a.lbr then none else if a.lsq then match r' with
     | s :: e :: o :: qM => if s.kind = 2 ∧ e.rsq = true ∧ o.off = false then some (o :: qM,[AOZ c.text s.span]) else none
     | _ => none
   else if a.off then none else some (a :: r',[BB c.text])
def Jv : Nat → Int × Int
 | 0 => (12,12)
 | 1 => (11,13)
 | 2 => (5,10)
 | 3 => (1,2)
 | _ => (3,4)
def pz : Nat → Nat → Int → List Cl → Option (List Cl × List Nd)
 | 0,_,_,_ => none
 | f + 1,l,d,ts =>
   if l < 5 then (pz f (l + 1) d ts).bind fun x => (pz f (l + 10) d x.1).map fun y => (y.1,x.2 ++ y.2)
   else if 10 ≤ l then match ts with
     | [] => none
     | c :: r => if (c.kind ≠ 5 ∧ c.kind ≠ 3) ∨ (c.op : Int) < (Jv (l - 10)).1 ∨ (Jv (l - 10)).2 < (c.op : Int) ∨ (l = 11 ∧ c.op = 12) then some (c :: r,[])
       else match r with
         | [] => none
         | b :: r' => let bl := decide (5 ≤ c.op) && decide (c.op ≤ 10) && b.bool
           match (bif bl then r' else b :: r') with
           | [] => none
           | g :: qM => if g.on || g.ign then none else
             (pz f (l - 9) d (g :: qM)).bind fun x => (pz f l d x.1).map fun y => (y.1,x.2 ++ Dj c.op bl :: y.2)
   else match ts with
     | [] => none
     | c :: r =>
       if l = 5 then if c.minus then if d = 64 then none else (pz f 5 (d + 1) r).map fun x => (x.1,x.2 ++ [qK]) else pz f 6 d (c :: r)
       else if l = 6 then
         if c.kind = 1 then some (r,[HU c.text])
         else if c.lp then pz f 7 d (c :: r)
         else if c.kind ≠ 3 then none
         else if 0 < c.fn then (pz f 7 d r).map fun x => (x.1,x.2 ++ [qL c.fn])
         else if 0 < c.ag then (dT r).bind fun g => (pz f 7 d g.2.2).map fun x => (x.1,x.2 ++ [Ju c.ag g.1 g.2.1])
         else if c.kept || c.big then none
         else ug c r
       else if c.lp = true ∧ d ≠ 64 then (pz f 0 (d + 1) r).bind fun x => match x.1 with
           | [] => none
           | e :: r' => if e.rp then some (r',x.2) else none
         else none
end TwW
end
section
namespace TwW
open Go Tw
theorem Il {k : ByteArray} {l : List Lb} (h : C1 (some k) l = 0) : ∀ x ∈ l,sle x.1 k = false := by
 induction l generalizing k with
 | nil => intro x hx; cases hx
 | cons y l ih =>
   obtain ⟨_,_,h3,h4⟩ := GB.1 h
   simp only [Option.any_some,Bool.not_eq_true] at h3
   intro x hx
   rcases List.mem_cons.1 hx with rfl | hx
   · exact h3
   · exact Tu h3 (ih h4 x hx)
theorem Zq (a : ByteArray) : sle a a = true := by unfold sle; simp
theorem Zr {a b : ByteArray} (h : sle a b = false) : sle b a = true := by
 cases hb : sle b a with
 | true => rfl
 | false => have := Tu h hb; rw [Zq] at this; cases this
theorem dU {ls : List Lb} {k : ByteArray} (h : DA ls k ≠ ⟨#[]⟩) : (k,DA ls k) ∈ ls := by
 induction ls with
 | nil => exact absurd rfl h
 | cons x l ih =>
   unfold DA at h ⊢
   split
   · rename_i e; rw [← e]; exact List.mem_cons_self ..
   · rename_i e; rw [if_neg e] at h; exact List.mem_cons_of_mem _ (ih h)
theorem JW {ls : List Lb} (h : ∀ x ∈ ls,x.1 ≠ A1) : BI ls = ls := List.filter_eq_self.2 fun x hx => by
 unfold C5
 simp [h x hx]
theorem Vb (x : Lb) (l : List Lb) : BI (x :: l) = if x.1 = A1 then BI l else x :: BI l := by
 unfold BI
 rw [List.filter_cons]
 by_cases h : x.1 = A1
 · rw [if_pos h,if_neg (by simp [C5,h])]
 · rw [if_neg h,if_pos (by simp [C5,h])]
theorem Zs {w : ByteArray} (hw : w ≠ ⟨#[]⟩) : ∀ {a b : List Lb} {p q : Option ByteArray},C1 p a = 0 → C1 q b = 0 → (A1,w) ∈ a → (A1,w) ∈ b → BI a = BI b → a = b
 | [],_,_,_,_,_,ha,_,_ => by cases ha
 | _ :: _,[],_,_,_,_,_,hb,_ => by cases hb
 | x :: a,y :: b,p,q,h1,h2,ha,hb,h => by
   obtain ⟨_,_,_,g1⟩ := GB.1 h1
   obtain ⟨_,_,_,g2⟩ := GB.1 h2
   have no : ∀ {k : ByteArray} {l : List Lb},k = A1 → C1 (some k) l = 0 → ∀ z ∈ l,z.1 ≠ A1 := fun {k l} hk hl z hz e => by
     have := Il hl z hz
     rw [e,hk,Zq] at this; cases this
   rw [Vb,Vb] at h
   by_cases hx : x.1 = A1
   · have hxw : x = (A1,w) := by
       rcases List.mem_cons.1 ha with rfl | ha
       · rfl
       · exact absurd rfl (no hx g1 _ ha)
     by_cases hy : y.1 = A1
     · have hyw : y = (A1,w) := by
         rcases List.mem_cons.1 hb with rfl | hb
         · rfl
         · exact absurd rfl (no hy g2 _ hb)
       rw [if_pos hx,if_pos hy,JW (no hx g1),JW (no hy g2)] at h
       rw [hxw,hyw,h]
     · exfalso
       rw [if_pos hx,if_neg hy,JW (no hx g1)] at h
       have h3 : sle y.1 x.1 = false := Il g1 y (by rw [h]; exact List.mem_cons_self ..)
       have hbm : (A1,w) ∈ b := by
         rcases List.mem_cons.1 hb with e | hb
         · exact absurd (by rw [← e]) hy
         · exact hb
       have h4 : sle A1 y.1 = false := Il g2 _ hbm
       rw [hx] at h3
       have := Zr h3
       rw [this] at h4; cases h4
   · by_cases hy : y.1 = A1
     · exfalso
       rw [if_neg hx,if_pos hy,JW (no hy g2)] at h
       have h3 : sle x.1 y.1 = false := Il g2 x (by rw [← h]; exact List.mem_cons_self ..)
       have ham : (A1,w) ∈ a := by
         rcases List.mem_cons.1 ha with e | ha
         · exact absurd (by rw [← e]) hx
         · exact ha
       have h4 : sle A1 x.1 = false := Il g1 _ ham
       rw [hy] at h3
       have := Zr h3
       rw [this] at h4; cases h4
     · rw [if_neg hx,if_neg hy,List.cons.injEq] at h
       have ham : (A1,w) ∈ a := by
         rcases List.mem_cons.1 ha with e | ha
         · exact absurd (by rw [← e]) hx
         · exact ha
       have hbm : (A1,w) ∈ b := by
         rcases List.mem_cons.1 hb with e | hb
         · exact absurd (by rw [← e]) hy
         · exact hb
       rw [h.1,Zs hw g1 g2 ham hbm h.2]
theorem ABc {w : ByteArray} {ss : List Sr} {t : Int} {e : El} (h : e ∈ Ad FF (BB w) ss t) : ∃ s ∈ ss,s.ls = e.ls ∧ DA e.ls A1 = w ∧ ∃ p ∈ s.ps,p.2 = e.v := by
 obtain ⟨s,hs,h1⟩ := List.mem_filterMap.1 h
 split at h1
 · cases h1
 · rename_i p hl
   split at h1
   · cases h1
   · rename_i hn
     simp only [Option.some.injEq] at h1
     subst h1
     refine ⟨s,hs,rfl,?_,p,(List.mem_filter.1 (List.mem_of_getLast? hl)).1,rfl⟩
     simp only [not_or,Bool.not_eq_false] at hn
     have h2 : Jo [⟨1,A1,w⟩] s.ls = true := hn.2
     unfold Jo at h2
     simp only [List.all_cons,List.all_nil,Bool.and_true] at h2
     unfold N9 at h2
     simp only [if_true,decide_eq_true_eq] at h2
     exact h2
theorem ABd {w : ByteArray} {T : List Nd} {st : List Int} (hw : w.size ≤ 256) : Dp (BB w :: T) st = Dp T (st ++ [2]) := by
 have hf : FJ (BB w) = true := by kernel_rfl
 have hm : HH CE (BB w).mt = 0 := by
   show HH CE [⟨1,A1,w⟩] = 0
   unfold HH
   simp only [List.length_singleton,List.all_cons,List.all_nil,Bool.and_true]
   rw [if_neg (by decide),if_pos]
   rw [show CE A1 = true by decide,decide_eq_true hw]; rfl
 have hs : BS (BB w) st = (0,st ++ [2]) := by
   unfold BS
   rw [if_neg (by rw [hf]; simp [BB]),if_neg (by rw [hm]; decide)]
   simp [BB,Ob]
 rw [Dp,hs]
 rfl
theorem W6 {w : ByteArray} {ss : List Sr} {t : Int} {T : List Nd} {st : List Vv} : F3 FF ss t (BB w :: T) st = F3 FF ss t T (st ++ [⟨2,0,Ad FF (BB w) ss t,[]⟩]) := by
 rw [F3]
 have : CA FF ss t (BB w) (st.drop (st.length - (BB w).parts.toNat)) = some ⟨2,0,Ad FF (BB w) ss t,[]⟩ := by
   unfold CA; rfl
 rw [this,Option.bind_some,show (BB w).parts.toNat = 0 from rfl,Nat.sub_zero,List.take_length]
end TwW
end
section
namespace TwW
open Go Tw
theorem gE {w s : ByteArray} {ss : List Sr} {t : Int} {op : Nat} {b : Bool} : BC FF [BB w,HU s,Dj op b] ss t = BY FF (Hy (Dj op b) (Ad FF (BB w) ss t) fun v => DL op v (HJ s)) := by
 unfold BC
 rw [W6,List.nil_append,F3]
 have e1 : CA FF ss t (HU s) ([(⟨2,0,Ad FF (BB w) ss t,[]⟩ : Vv)].drop (1 - (HU s).parts.toNat)) = some ⟨1,HJ s,[],[]⟩ := by unfold CA; rfl
 show (Option.bind ((CA FF ss t (HU s) ([(⟨2,0,Ad FF (BB w) ss t,[]⟩ : Vv)].drop (1 - (HU s).parts.toNat))).bind _) _) = _
 rw [e1,Option.bind_some]
 show (Option.bind (F3 FF ss t [Dj op b] [⟨2,0,Ad FF (BB w) ss t,[]⟩,⟨1,HJ s,[],[]⟩]) _) = _
 rw [F3]
 have e2 : CA FF ss t (Dj op b) ([(⟨2,0,Ad FF (BB w) ss t,[]⟩ : Vv),⟨1,HJ s,[],[]⟩].drop (2 - (Dj op b).parts.toNat)) = (BY FF (Hy (Dj op b) (Ad FF (BB w) ss t) fun v => DL op v (HJ s))).map fun l => ⟨2,0,l,[]⟩ := by
   unfold CA ZG; rfl
 show (Option.bind ((CA FF ss t (Dj op b) ([(⟨2,0,Ad FF (BB w) ss t,[]⟩ : Vv),⟨1,HJ s,[],[]⟩].drop (2 - (Dj op b).parts.toNat))).bind _) _) = _
 rw [e2]
 cases BY FF (Hy (Dj op b) (Ad FF (BB w) ss t) fun v => DL op v (HJ s)) <;> rfl
end TwW
end
section
namespace TwW
open Go Tw
theorem qN {ls : List Lb} (h : EY ls = 0) : C1 none ls = 0 := by
 unfold EY at h
 split at h
 · cases h
 · exact h
section
variable {w : ByteArray} {ss : List Sr} {t : Int}
theorem qO (C8 : Cv none ss = true) (hw : w ≠ ⟨#[]⟩) : (Ad FF (BB w) ss t).Pairwise fun a b => BI a.ls ≠ BI b.ls := by
 have hV := VZ (n := BB w) (t := t) C8
 refine (List.Pairwise.and_mem.1 hV.up).imp fun {a b} hh e => ?_
 obtain ⟨ha,hb,Ap⟩ := hh
 have mem : ∀ {x : El},x ∈ Ad FF (BB w) ss t → (A1,w) ∈ x.ls ∧ C1 none x.ls = 0 := fun {x} hx => by
   obtain ⟨_,_,_,hg,_⟩ := ABc hx
   refine ⟨?_,qN (hV.el x hx).1⟩
   have := dU (ls := x.ls) (k := A1) (by rw [hg]; exact hw)
   rw [hg] at this; exact this
 have := Zs hw (mem ha).2 (mem hb).2 (mem ha).1 (mem hb).1 e
 rw [(AZ.eq _ _).2 this] at Ap
 exact absurd Ap (by decide)
theorem Tx {l : List El} (h : l.Pairwise fun a b => a.ls ≠ b.ls) : ∃ m,BY FF l = some m ∧ m.Perm l := by
 refine ⟨ZF FF l,?_,HG l⟩
 unfold BY
 rw [if_pos]
 exact h.imp fun aS e => aS ((AZ.eq _ _).1 e)
theorem gF : BC FF [BB w] ss t = some (Ad FF (BB w) ss t) := by
 unfold BC
 rw [W6]; rfl
theorem Vc {α : Type} {f : α → Option α} {p : α → Bool} : ∀ {l : List α},(∀ x ∈ l,f x = if p x = true then some x else none) → l.filterMap f = l.filter p
 | [],_ => rfl
 | x :: l,h => by
   rw [List.filterMap_cons,h x (List.mem_cons_self ..),List.filter_cons,Vc fun y hy => h y (List.mem_cons_of_mem _ hy)]
   cases p x <;> rfl
theorem OP {T : List Nd} (hT : NG T = some 2) (h : ¬ (Cv none ss = true ∧ -1099511627776 ≤ t ∧ t ≤ 1099511627776)) : (instF T ss t).1 = if Cv none ss = true then 221 else 224 := by
 have ha : FL T ss = if Cv none ss = true then 0 else 224 := by
   unfold FL; rw [hT]; rfl
 unfold instF
 rw [ha]
 by_cases ho : Cv none ss = true
 · rw [if_pos ho,if_neg (by decide),if_pos (fun hh => h ⟨ho,hh⟩),if_pos ho]
 · rw [if_neg ho,if_pos (by decide),if_neg ho]
theorem ME {T : List Nd} {l : List El} (hT : NG T = some 2) (h : Cv none ss = true ∧ -1099511627776 ≤ t ∧ t ≤ 1099511627776) (hm : BC FF T ss t = some l) : instF T ss t = (0,l) := by
 have ha : FL T ss = 0 := by
   unfold FL; rw [hT,h.1]; rfl
 unfold instF
 rw [ha,if_neg (by decide),if_neg (not_not_intro h.2),hm]
theorem QM {T : List Nd} (hw : w.size ≤ 256) (hl : T.length < 4096) (h : Dp T [2] = some [2]) : NG (BB w :: T) = some 2 := by
 unfold NG
 rw [ABd hw,List.nil_append,h]
 show (if (BB w :: T).length ≤ 4096 then some (2 : Int) else none) = some 2
 rw [if_pos (by rw [List.length_cons]; omega)]
end
end TwW
end
section
namespace TwW
open Go Tw Go.RowKit Go.Proofs.Tryz
theorem qP : ∀ x y : List UInt8,Lib.compareBytes x y = if Op.bytesLess x y = true then -1 else if x = y then 0 else 1
 | [],[] => rfl
 | [],_ :: _ => rfl
 | _ :: _,[] => by simp [Lib.compareBytes,Op.bytesLess]
 | a :: x,b :: y => by
   have ih := qP x y
   unfold Lib.compareBytes Op.bytesLess
   by_cases h : a = b
   · subst h
     simp [ih]
   · by_cases hl : a < b
     · simp [h,hl]
     · have : b < a := by
         have h1 : a.toNat ≠ b.toNat := fun e => h (UInt8.toNat_inj.1 e)
         have h2 : ¬ a.toNat < b.toNat := hl
         show b.toNat < a.toNat
         omega
       simp [h,hl,this]
theorem toList_eq (a : ByteArray) : a.toList = a.data.toList := by
 exact ByteArray.toList_eq a
section
variable {σ : Hp} {R : Rr}
theorem Ty {a b : ByteArray} (h : R (.returned (.int .i64 (Di a b))) σ) : Spec prog 89 #[.string a,.string b] σ R := by
 have e : Di a b = if Op.bytesLess a.toList b.toList = true then -1 else if a.toList = b.toList then 0 else 1 := by
   unfold Di
   rw [qP,toList_eq,toList_eq]
 rw [e] at h
 refine R7.start ⟨Op.bytesLess a.toList b.toList,fun w _ => by simp [eqGuard,binOp,Op.stringOp],fun ht => ?_,fun hf => ⟨!(sle a b),fun w _ => by simp [eqGuard,binOp,Op.stringOp,sle],fun ht => ?_,fun hf2 => ?_⟩⟩
 · rw [if_pos ht] at h; exact h
 · have hs : sle a b = false := by simpa using ht
   rw [if_neg (by rw [hf]; decide),if_neg (fun e => by unfold sle at hs; rw [e] at hs; simp at hs)] at h; exact h
 · have hs : sle a b = true := by simpa using hf2
   have : a.toList = b.toList := by
     unfold sle at hs
     rw [hf] at hs
     simpa using hs
   rw [if_neg (by rw [hf]; decide),if_pos this] at h; exact h
theorem MF {p q : Option Addr} {n c m d : Nat} {ls ms : List Lb} (hr : EK σ p n ls) (hs : EK σ q m ms) (h : R (.returned (.int .i64 (Au ls ms))) σ) : Spec prog 57 #[.slice p n c,.slice q m d] σ R := by
 have hl : ls.length = n := hr.1
 have hm : ms.length = m := hs.1
 refine De.start ?_
 suffices H : ∀ g k : Nat,n - k = g → k ≤ n → k ≤ m → Au ls ms = Au (ls.drop k) (ms.drop k) → De.Dm R p n c q m d (k : Int) σ from H n 0 rfl (Nat.zero_le _) (Nat.zero_le _) rfl
 intro g
 induction g with
 | zero =>
   intro k hg hk fT he
   have XA : k = n := by omega
   rw [List.drop_eq_nil_of_le (by omega)] at he
   refine De.Ac ⟨fun hh => by omega,fun _ => ⟨fun h1 => ?_,fun h1 => ⟨fun h2 => by omega,fun h2 => ?_⟩⟩⟩
   · obtain ⟨y,hy⟩ := hs.ex (k := k) (by omega)
     rw [BJ hy] at he
     rw [he] at h; exact h
   · rw [List.drop_eq_nil_of_le (by omega)] at he
     rw [he] at h; exact h
 | succ g ih =>
   intro k hg hk fT he
   have XA : k < n := by omega
   obtain ⟨x,hx⟩ := hr.ex XA
   obtain ⟨b,o,hp,Qk⟩ := EK.at hr hx
   by_cases xN : k < m
   · obtain ⟨y,hy⟩ := hs.ex xN
     obtain ⟨b',o',hq,UC⟩ := EK.at hs hy
     subst hp
     subst hq
     rw [BJ hx,BJ hy] at he
     have he : Au ls ms = if JO Di Di x y = 0 then Au (ls.drop (k + 1)) (ms.drop (k + 1)) else JO Di Di x y := he
     refine De.Ac ⟨fun _ => ⟨fun _ => ⟨b,o,rfl,by omega,x.1,by simpa using Qk.1,b',o',rfl,by omega,y.1,by simpa using UC.1,Ty ⟨_,rfl,fun A6 => ?_,fun heq => ⟨by omega,x.2,by simpa using Qk.2.1,by omega,y.2,by simpa using UC.2.1,Ty ⟨_,rfl,fun A6 => ?_,fun AOb => ⟨AL XA hr.big,ih (k + 1) (by omega) (by omega) (by omega) ?_⟩⟩⟩⟩⟩,fun hh => by omega⟩,fun hh => by omega⟩
     · have e2 : JO Di Di x y = Di x.1 y.1 := by unfold JO; rw [if_neg A6]
       rw [e2,if_neg A6] at he
       rw [he] at h; exact h
     · have e2 : JO Di Di x y = Di x.2 y.2 := by unfold JO; rw [if_pos (Decidable.not_not.1 heq)]
       rw [e2,if_neg A6] at he
       rw [he] at h; exact h
     · have e2 : JO Di Di x y = Di x.2 y.2 := by unfold JO; rw [if_pos (Decidable.not_not.1 heq)]
       rw [e2,if_pos (Decidable.not_not.1 AOb)] at he
       exact he
   · rw [BJ hx,show ms.drop k = [] from List.drop_eq_nil_of_le (by omega)] at he
     refine De.Ac ⟨fun _ => ⟨fun hh => by omega,fun _ => ⟨fun h1 => by omega,fun h1 => ⟨fun h2 => ?_,fun h2 => by omega⟩⟩⟩,fun hh => by omega⟩
     rw [he] at h; exact h
theorem Tz {p : Nat → Bool} (h : (List.range 256).all p = true) (u : UInt8) : p u.toNat = true := List.all_eq_true.1 h _ (List.mem_range.2 u.toNat_lt)
theorem AIc (u : UInt8) : Go.bits .and .u8 ((u.toNat : Nat) : Int) 31 = ((u.toNat % 32 : Nat) : Int) := of_decide_eq_true (Tz (p := fun n => decide (Go.bits .and .u8 (n : Int) 31 = ((n % 32 : Nat) : Int))) (by kernel_rfl) u)
theorem AId (u : UInt8) : Go.bits .and .u8 ((u.toNat : Nat) : Int) 15 = ((u.toNat % 16 : Nat) : Int) := of_decide_eq_true (Tz (p := fun n => decide (Go.bits .and .u8 (n : Int) 15 = ((n % 16 : Nat) : Int))) (by kernel_rfl) u)
theorem AOc (u : UInt8) : Go.bits .and .u8 ((u.toNat : Nat) : Int) 7 = ((u.toNat % 8 : Nat) : Int) := of_decide_eq_true (Tz (p := fun n => decide (Go.bits .and .u8 (n : Int) 7 = ((n % 8 : Nat) : Int))) (by kernel_rfl) u)
theorem AIe (u : UInt8) : Go.bits .and .u8 ((u.toNat : Nat) : Int) 63 = ((u.toNat % 64 : Nat) : Int) := of_decide_eq_true (Tz (p := fun n => decide (Go.bits .and .u8 (n : Int) 63 = ((n % 64 : Nat) : Int))) (by kernel_rfl) u)
theorem ABe (u : UInt8) : Go.bits .and .u8 ((u.toNat : Nat) : Int) 192 = ((u.toNat / 64 * 64 : Nat) : Int) := of_decide_eq_true (Tz (p := fun n => decide (Go.bits .and .u8 (n : Int) 192 = ((n / 64 * 64 : Nat) : Int))) (by kernel_rfl) u)
theorem wrap32 {x : Int} (h : 0 ≤ x ∧ x < 2147483648) : IntKind.i32.wrap x = x := by
 simp [IntKind.wrap,IntKind.bits,IntKind.signed]; omega
theorem AOd {a b : Nat} (ha : a < 1048576) (hb : b < 64) : Go.bits .or .i32 ((a * 64 : Nat) : Int) (b : Int) = ((a * 64 + b : Nat) : Int) := by
 have e : Go.bits .or .i32 ((a * 64 : Nat) : Int) (b : Int) = IntKind.i32.wrap (((BitVec.ofInt 32 ((a * 64 : Nat) : Int)) ||| (BitVec.ofInt 32 (b : Int))).toNat : Int) := rfl
 have h1 : (BitVec.ofInt 32 ((a * 64 : Nat) : Int)).toNat = a * 64 := by
   rw [BitVec.toNat_ofInt]
   have : (((2 ^ 32 : Nat) : Int)) = 4294967296 := by decide
   omega
 have h2 : (BitVec.ofInt 32 (b : Int)).toNat = b := by
   rw [BitVec.toNat_ofInt]
   have : (((2 ^ 32 : Nat) : Int)) = 4294967296 := by decide
   omega
 have h3 := Nat.two_pow_add_eq_or_of_lt (i := 6) hb a
 rw [e,BitVec.toNat_or,h1,h2,Nat.mul_comm a 64,show (64 : Nat) = 2 ^ 6 from rfl,← h3,Nat.mul_comm (2 ^ 6) a]
 exact wrap32 (by omega)
theorem Gw {s : ByteArray} {k i n v : Nat} {least : Int} {u : UInt8} (hk : k + i ≤ 1000000000) (hi : i < n) (hu : s.data.toList[k + i]? = some u) (h1 : 128 ≤ u.toNat ∧ u.toNat ≤ 191) (hv : v < 32768)
   (h : BW.iJ R s (k : Int) (n : Int) least ((v * 64 + (u.toNat - 128) : Nat) : Int) ((i + 1 : Nat) : Int) σ) : BW.iJ R s (k : Int) (n : Int) least (v : Int) (i : Int) σ := by
 have CU : s.data[Int.toNat ((k : Int) + (i : Int))]? = some u := by
   rw [show Int.toNat ((k : Int) + (i : Int)) = k + i by omega]; simpa using hu
 refine BW.fI ⟨fun _ => ⟨by unfold AI; omega,u,by omega,CU,fun jw h62 => ⟨fun A6 => ?_,fun _ => ⟨by decide,fun zF h65 => ⟨by unfold AI; omega,u,by omega,CU,fun vy h71 qq h72 x73 h73 => ?_⟩⟩⟩⟩,fun hh => by omega⟩
 · rw [h62,ABe] at A6
   exact absurd (by omega) A6
 · have e65 : zF = ((v * 64 : Nat) : Int) := by
     rw [h65]
     have : (v : Int) * 2 ^ Int.toNat 6 = ((v * 64 : Nat) : Int) := by
       show (v : Int) * 64 = _
       omega
     rw [this]
     exact wrap32 (by omega)
   rw [AIe] at h71
   have e72 : qq = ((u.toNat % 64 : Nat) : Int) := by
     rw [h72,h71]; exact wrap32 (by omega)
   have e73 : x73 = ((v * 64 + (u.toNat - 128) : Nat) : Int) := by
     rw [h73,e65,e72,AOd (by omega) (by omega)]
     omega
   rw [e73]
   refine ⟨by unfold AI; omega,?_⟩
   rw [show ((i + 1 : Nat) : Int) = (i : Int) + 1 by omega] at h
   exact h
theorem MG {m lo hi : Nat} {L : List UInt8} {k : Nat} (h : vl (m + 1) lo hi (L.drop k) = true) : ∃ u,L[k]? = some u ∧ (lo ≤ u.toNat ∧ u.toNat ≤ hi) ∧ vl m 128 191 (L.drop (k + 1)) = true := by
 cases hq : L[k]? with
 | none =>
   rw [List.drop_eq_nil_of_le (List.getElem?_eq_none_iff.1 hq)] at h
   cases h
 | some u =>
   rw [BJ hq,vl] at h
   by_cases hc : u.toNat < lo ∨ hi < u.toNat
   · rw [if_pos hc] at h; cases h
   · rw [if_neg hc] at h
     exact ⟨u,rfl,by omega,h⟩
theorem T1 {s : ByteArray} {k : Int} {n : Nat} {least v : Int} (h : R (.returned (.int .i64 (n : Int))) σ) (h1 : least ≤ v) (h2 : v ≤ 1114111) (h3 : ¬ (55296 ≤ v ∧ v ≤ 57343)) : BW.iJ R s k (n : Int) least v (n : Int) σ :=
 BW.fI ⟨fun hh => by omega,fun _ => ⟨fun hh => by omega,fun _ => ⟨fun hh => by omega,fun _ => ⟨fun h4 => ⟨fun h5 => absurd ⟨h4,h5⟩ h3,fun _ => h⟩,fun _ => h⟩⟩⟩⟩
theorem uh {s : ByteArray} {k : Nat} (hk : k < s.size) (hs : s.size ≤ 1000000) (hv : vl 0 128 191 (s.data.toList.drop k) = true) :
   ∃ m : Nat,1 ≤ m ∧ k + m ≤ s.size ∧ vl 0 128 191 (s.data.toList.drop (k + m)) = true ∧ ∀ {σ : Hp} {R : Rr},R (.returned (.int .i64 (m : Int))) σ → Spec prog 129 #[.string s,.int .i64 (k : Int)] σ R := by
 have HX : s.data.toList.length = s.size := rfl
 obtain ⟨u,hu⟩ : ∃ u,s.data.toList[k]? = some u := ⟨_,List.getElem?_eq_getElem (by omega)⟩
 have CU : s.data[Int.toNat (k : Int)]? = some u := by simpa using hu
 rw [BJ hu,vl] at hv
 have lt : ∀ {j : Nat} {w : UInt8},s.data.toList[j]? = some w → j < s.size := fun h => by
   have := (List.getElem?_eq_some_iff.1 h).1; omega
 have two : ∀ {lo hi : Nat},192 ≤ u.toNat ∧ u.toNat < 224 → vl 1 lo hi (s.data.toList.drop (k + 1)) = true → 128 ≤ lo → hi ≤ 191 → (∀ v : Nat,lo ≤ v → v ≤ hi → 128 ≤ (u.toNat % 32) * 64 + (v - 128)) → ∃ m : Nat,1 ≤ m ∧ k + m ≤ s.size ∧ vl 0 128 191 (s.data.toList.drop (k + m)) = true ∧ ∀ {σ : Hp} {R : Rr},R (.returned (.int .i64 (m : Int))) σ → Spec prog 129 #[.string s,.int .i64 (k : Int)] σ R := fun {lo hi} hc h1 hlo hhi hb => by
   obtain ⟨u1,a1,b1,c1⟩ := MG h1
   have d1 := hb u1.toNat b1.1 b1.2
   have := lt a1
   refine ⟨2,by decide,by omega,c1,fun {σ R} h => BW.start ⟨u,by omega,CU,fun hh => by omega,fun _ => ⟨fun _ => ⟨fun _ IM h24 P3 h25 => ?_,fun hh => by omega⟩,fun hh => by omega⟩⟩⟩
   rw [AIc] at h24
   have e : P3 = ((u.toNat % 32 : Nat) : Int) := by rw [h25,h24]; exact wrap32 (by omega)
   rw [e]
   refine BW.WZ ⟨by unfold AI; omega,fun hh => by omega,fun _ => ?_⟩
   refine Gw (n := 2) (i := 1) (by omega) (by decide) a1 (by omega) (by omega) ?_
   exact T1 (n := 2) h (by omega) (by omega) (by omega)
 have three : ∀ {lo hi : Nat},224 ≤ u.toNat ∧ u.toNat < 240 → vl 2 lo hi (s.data.toList.drop (k + 1)) = true → 128 ≤ lo → hi ≤ 191 → (∀ v w : Nat,lo ≤ v → v ≤ hi → 128 ≤ w → w ≤ 191 → 2048 ≤ ((u.toNat % 16) * 64 + (v - 128)) * 64 + (w - 128) ∧ ¬ (55296 ≤ ((u.toNat % 16) * 64 + (v - 128)) * 64 + (w - 128) ∧ ((u.toNat % 16) * 64 + (v - 128)) * 64 + (w - 128) ≤ 57343)) → ∃ m : Nat,1 ≤ m ∧ k + m ≤ s.size ∧ vl 0 128 191 (s.data.toList.drop (k + m)) = true ∧ ∀ {σ : Hp} {R : Rr},R (.returned (.int .i64 (m : Int))) σ → Spec prog 129 #[.string s,.int .i64 (k : Int)] σ R := fun {lo hi} hc h1 hlo hhi hb => by
   obtain ⟨u1,a1,b1,c1⟩ := MG h1
   obtain ⟨u2,a2,b2,c2⟩ := MG c1
   have d1 := hb u1.toNat u2.toNat b1.1 b1.2 b2.1 b2.2
   have := lt a2
   refine ⟨3,by decide,by omega,c2,fun {σ R} h => BW.start ⟨u,by omega,CU,fun hh => by omega,fun _ => ⟨fun _ => ⟨fun hh => by omega,fun _ => ⟨fun _ => ⟨fun _ js h34 Q7 h35 => ?_,fun hh => by omega⟩,fun hh => by omega⟩⟩,fun hh => by omega⟩⟩⟩
   rw [AId] at h34
   have e : Q7 = ((u.toNat % 16 : Nat) : Int) := by rw [h35,h34]; exact wrap32 (by omega)
   rw [e]
   refine BW.WZ ⟨by unfold AI; omega,fun hh => by omega,fun _ => ?_⟩
   refine Gw (n := 3) (i := 1) (by omega) (by decide) a1 (by omega) (by omega) ?_
   refine Gw (n := 3) (i := 2) (by omega) (by decide) a2 (by omega) (by omega) ?_
   exact T1 (n := 3) h (by omega) (by omega) (by omega)
 have four : ∀ {lo hi : Nat},240 ≤ u.toNat ∧ u.toNat < 248 → vl 3 lo hi (s.data.toList.drop (k + 1)) = true → 128 ≤ lo → hi ≤ 191 → (∀ v w y : Nat,lo ≤ v → v ≤ hi → 128 ≤ w → w ≤ 191 → 128 ≤ y → y ≤ 191 → 65536 ≤ (((u.toNat % 8) * 64 + (v - 128)) * 64 + (w - 128)) * 64 + (y - 128) ∧ (((u.toNat % 8) * 64 + (v - 128)) * 64 + (w - 128)) * 64 + (y - 128) ≤ 1114111) → ∃ m : Nat,1 ≤ m ∧ k + m ≤ s.size ∧ vl 0 128 191 (s.data.toList.drop (k + m)) = true ∧ ∀ {σ : Hp} {R : Rr},R (.returned (.int .i64 (m : Int))) σ → Spec prog 129 #[.string s,.int .i64 (k : Int)] σ R := fun {lo hi} hc h1 hlo hhi hb => by
   obtain ⟨u1,a1,b1,c1⟩ := MG h1
   obtain ⟨u2,a2,b2,c2⟩ := MG c1
   obtain ⟨u3,a3,b3,c3⟩ := MG c2
   have d1 := hb u1.toNat u2.toNat u3.toNat b1.1 b1.2 b2.1 b2.2 b3.1 b3.2
   have := lt a3
   refine ⟨4,by decide,by omega,c3,fun {σ R} h => BW.start ⟨u,by omega,CU,fun hh => by omega,fun _ => ⟨fun _ => ⟨fun hh => by omega,fun _ => ⟨fun _ => ⟨fun hh => by omega,fun _ => ⟨fun _ => ⟨fun _ mr h44 eh h45 => ?_,fun hh => by omega⟩,fun hh => by omega⟩⟩,fun hh => by omega⟩⟩,fun hh => by omega⟩⟩⟩
   rw [AOc] at h44
   have e : eh = ((u.toNat % 8 : Nat) : Int) := by rw [h45,h44]; exact wrap32 (by omega)
   rw [e]
   refine BW.WZ ⟨by unfold AI; omega,fun hh => by omega,fun _ => ?_⟩
   refine Gw (n := 4) (i := 1) (by omega) (by decide) a1 (by omega) (by omega) ?_
   refine Gw (n := 4) (i := 2) (by omega) (by decide) a2 (by omega) (by omega) ?_
   refine Gw (n := 4) (i := 3) (by omega) (by decide) a3 (by omega) (by omega) ?_
   exact T1 (n := 4) h (by omega) (by omega) (by omega)
 by_cases h1 : u.toNat < 128
 · rw [if_pos h1] at hv
   exact ⟨1,by decide,by omega,hv,fun {σ R} h => BW.start ⟨u,by omega,CU,fun _ => h,fun hh => by omega⟩⟩
 rw [if_neg h1] at hv
 by_cases h2 : 194 ≤ u.toNat ∧ u.toNat ≤ 223
 · rw [if_pos h2] at hv
   exact two (by omega) hv (by decide) (by decide) fun v a b => by omega
 rw [if_neg h2] at hv
 by_cases h3 : 224 ≤ u.toNat ∧ u.toNat ≤ 239
 · rw [if_pos h3] at hv
   by_cases h4 : u.toNat = 224
   · rw [if_pos h4] at hv
     exact three (by omega) hv (by decide) (by decide) fun v w a b c d => by omega
   rw [if_neg h4] at hv
   by_cases h5 : u.toNat = 237
   · rw [if_pos h5] at hv
     exact three (by omega) hv (by decide) (by decide) fun v w a b c d => by omega
   rw [if_neg h5] at hv
   exact three (by omega) hv (by decide) (by decide) fun v w a b c d => by omega
 rw [if_neg h3] at hv
 by_cases h6 : 240 ≤ u.toNat ∧ u.toNat ≤ 244
 · rw [if_pos h6] at hv
   by_cases h7 : u.toNat = 240
   · rw [if_pos h7] at hv
     exact four (by omega) hv (by decide) (by decide) fun v w y a b c d e f => by omega
   rw [if_neg h7] at hv
   by_cases h8 : u.toNat = 244
   · rw [if_pos h8] at hv
     exact four (by omega) hv (by decide) (by decide) fun v w y a b c d e f => by omega
   rw [if_neg h8] at hv
   exact four (by omega) hv (by decide) (by decide) fun v w y a b c d e f => by omega
 rw [if_neg h6] at hv
 cases hv
theorem Zt {s : ByteArray} (h1 : ¬ (s.size = 0 ∨ 256 < s.size)) (h2 : M7 s = true) (h : R (.returned (.bool true)) σ) : Spec prog 88 #[.string s] σ R := by
 refine G7.start ⟨fun hh => by omega,fun _ => ⟨fun hh => by omega,fun _ => ?_⟩⟩
 suffices H : ∀ g k : Nat,s.size - k = g → k ≤ s.size → vl 0 128 191 (s.data.toList.drop k) = true → G7.BE R s (k : Int) σ from H s.size 0 rfl (Nat.zero_le _) h2
 intro g
 induction g using Nat.strongRecOn with
 | ind g ih =>
   intro k hg hk hv
   by_cases Ap : k < s.size
   · obtain ⟨m,m1,m2,m3,m4⟩ := uh Ap (by omega) hv
     refine G7.Bz ⟨fun _ => m4 ⟨_,rfl,fun hh => by omega,fun _ => ⟨by unfold AI; omega,?_⟩⟩,fun hh => by omega⟩
     have := ih (s.size - (k + m)) (by omega) (k + m) rfl m2 m3
     rw [show ((k + m : Nat) : Int) = (k : Int) + (m : Int) by omega] at this
     exact this
   · exact G7.Bz ⟨fun hh => by omega,fun _ => h⟩
end
end TwW
end
section
namespace TwW
open Go Tw Go.RowKit Go.Proofs.Tryz
def XK (_ : Hp) (vs : List Value) (c : Cl) : Prop := c = Jt c.kind c.text c.span ∧ ∃ a : Int,vs = [.int .i64 c.kind,.int .i64 a,.string c.text,.int .i64 c.span]
theorem XK.mono : HM XK := fun _ _ _ _ _ h => h
abbrev pO (p : Option Addr) (n c : Nat) (d : Int) (q : Option Addr) (m e : Nat) : Obj := .cells #[.slice p n c,.int .i64 d,.slice q m e] 126 (0,0)
structure Dk (τ ρ : Hp) (pb : Nat) (p : Option Addr) (n c : Nat) (q : Option Addr) (m e : Nat) (ts : List Cl) (out : List Nd) : Prop where
 pb : ρ pb = none
 GD : Ae 4 XK (ρ.del q) p n ts
 cap : n ≤ c
 out : AW 10 M8 τ ρ q m e out
theorem OQ {σ : Hp} {b : Nat} {c : List Value} {T : TypeId} (h : σ b = some (.cells c.toArray T (0,0))) : Aw σ b 0 c := Aw.of fun j v hj => by
 rw [Nat.zero_add]; exact Af h (by simpa using hj)
theorem Pb {σ : Hp} {b T : Nat} {l : List ByteArray} (h : σ b = some (.cells (l.map Value.string).toArray T (0,0))) (hl : l.length ≤ 1000) : E9 1 σ (aD b 0) l.length (l.map .string) :=
 ⟨by simp,by omega,.inr ⟨b,0,rfl,OQ h⟩⟩
theorem st1 {σ : Hp} {b T U o : Nat} {c c' : Array Value} {v : Value} {Φ : Unit → Hp → Prop} (hz : ∀ w,(Go.sizeOf U).run prog w = .ok 1 w) (hb : σ b = some (.cells c T (0,0))) (hv : v.cells = #[v]) (h1 : v.oneCell' = true) (ho : o < c.size) (hc : c.setIfInBounds o v = c') (hΦ : Φ () (σ.set b (.cells c' T (0,0)))) :
   AK prog (Instr.storeAt U (.pointer (aD b o)) v) σ Φ := by
 refine AK.store hz hb (by rw [hv]; rfl) ho (fun u hu => by rw [hv] at hu; simp at hu; rw [hu]; exact h1) ?_
 rw [hv]
 subst hc
 exact hΦ
theorem ui : ∀ w,(Go.sizeOf 121).run prog w = .ok 1 w := fun w => by kernel_rfl
theorem ABf : ∀ w,(Go.sizeOf 22).run prog w = .ok 1 w := fun w => by kernel_rfl
section
variable {τ ρ ρ' : Hp} {pb n c m e : Nat} {p q : Option Addr} {ts : List Cl} {out : List Nd} {d : Int} {t : Cl} {R : Rr}
theorem Dk.grow (h : Dk τ ρ pb p n c q m e ts out) (hx : Ext ρ ρ') (hn : ρ' pb = none) : Dk τ ρ' pb p n c q m e ts out := ⟨hn,h.GD.mono XK.mono (hx.del q),h.cap,h.out.mono M8.mono hx⟩
theorem Dk.ext (h : Dk τ ρ pb p n c q m e ts out) (o : Obj) : Ext ρ (ρ.set pb o) := .set h.pb
theorem Dk.box {b : Nat} {o u : Obj} (h : Dk τ ρ pb p n c q m e ts out) (hb : (ρ.set pb o) b = none) : Dk τ (ρ.set b u) pb p n c q m e ts out ∧ (ρ.set pb o).set b u = (ρ.set b u).set pb o := by
 obtain ⟨h1,h2⟩ := Hp.AS hb
 exact ⟨h.grow (.set h2) (by rw [Hp.AJ (Ne.symm h1)]; exact h.pb),Hp.BQ (Ne.symm h1)⟩
theorem Dk.tok (h : Dk τ ρ pb p n c q m e (t :: ts) out) : t = Jt t.kind t.text t.span ∧ ∃ b o,∃ a : Int,p = some ⟨b,o,none⟩ ∧ 0 < n ∧ Aw ρ b o [.int .i64 t.kind,.int .i64 a,.string t.text,.int .i64 t.span] := by
 obtain ⟨b,o,vs,hp,⟨ht,a,rfl⟩,hl⟩ := Ae.idx h.GD (i := 0) (x := t) rfl
 have hn : (t :: ts).length = n := h.GD.1
 rw [List.length_cons] at hn
 exact ⟨ht,b,o,a,hp,by omega,by simpa using hl.mono (Ext.Iw _ _)⟩
theorem DM (h : Dk τ ρ pb p n c q m e (t :: ts) out) (hR : ∀ a : Int,R (.returned (.agg #[.int .i64 t.kind,.int .i64 a,.string t.text,.int .i64 t.span])) (ρ.set pb (pO p n c d q m e))) : Spec prog 66 #[.pointer (aD pb 0)] (ρ.set pb (pO p n c d q m e)) R := by
 obtain ⟨_,b,o,a,rfl,hn,hl⟩ := h.tok
 exact IQ.start fun _ => ⟨pb,0,rfl,aD b o,n,c,by simp [Hp.ld,Hp.AB],b,o,rfl,by omega,_,_,_,_,hl.mono (h.ext _),hR a⟩
theorem Dk.step (h : Dk τ ρ pb p n c q m e (t :: ts) out) : Dk τ ρ pb (Ip p 1 c 4) (n - 1) (c - 1) q m e ts out := by
 have hc := h.cap
 have hln : (t :: ts).length = n := h.GD.1
 rw [List.length_cons] at hln
 have hs := Ae.sub h.GD (i := 1) (m := n - 1) (by decide) (by omega) hc
 rw [List.drop_succ_cons,List.drop_zero,List.take_of_length_le (by omega)] at hs
 exact ⟨h.pb,hs,by omega,h.out⟩
theorem Dk.qQ (h : Dk τ ρ pb p n c q m e ts out) : Dk (ρ.del q) ρ pb p n c q m e ts out := ⟨h.pb,h.GD,h.cap,⟨h.out.1,.refl _⟩⟩
theorem Dk.base {τ' : Hp} (h : Dk τ' ρ pb p n c q m e ts out) (hx : Ext τ τ') : Dk τ ρ pb p n c q m e ts out := ⟨h.pb,h.GD,h.cap,⟨h.out.1,hx.trans h.out.2⟩⟩
theorem Dl (h : Dk τ ρ pb p n c q m e (t :: ts) out) (hR : ∀ a : Int,R (.returned (.agg #[.int .i64 t.kind,.int .i64 a,.string t.text,.int .i64 t.span])) (ρ.set pb (pO (Ip p 1 c 4) (n - 1) (c - 1) d q m e))) :
   Spec prog 135 #[.pointer (aD pb 0)] (ρ.set pb (pO p n c d q m e)) R := by
 obtain ⟨_,b,o,a,rfl,hn,hl⟩ := h.tok
 have hc := h.cap
 have hln : (t :: ts).length = n := h.GD.1
 rw [List.length_cons] at hln
 refine Jn.start fun _ => ⟨pb,0,rfl,aD b o,n,c,by simp [Hp.ld,Hp.AB],b,o,rfl,by omega,_,_,_,_,hl.mono (h.ext _),fun _ => ⟨aD b o,n,c,by simp [Hp.ld,Hp.AB],by omega,?_⟩⟩
 refine st1 ui (Hp.AB _ _ _) rfl rfl (by simp) rfl ?_
 rw [Hp.set_set]
 exact hR a
theorem Cf {k : Int} {s : ByteArray} (h : Dk τ ρ pb p n c q m e (t :: ts) out) (hR : R (.returned (.bool (Iu t.kind t.text k s))) (ρ.set pb (pO p n c d q m e))) : Spec prog 136 #[.pointer (aD pb 0),.int .i64 k,.string s] (ρ.set pb (pO p n c d q m e)) R := by
 refine Jl.start (DM h fun a => ⟨_,_,_,_,rfl,fun hk => DM h fun a' => ⟨_,_,_,_,rfl,?_⟩,fun hk => ?_⟩)
 · rw [UR]
   unfold Iu at hR
   rw [decide_eq_true hk,Bool.true_and] at hR
   exact hR
 · unfold Iu at hR
   rw [decide_eq_false hk,Bool.false_and] at hR
   exact hR
theorem MH {s : ByteArray} (h : Dk τ ρ pb p n c q m e (t :: ts) out) (hs : Iu t.kind t.text 5 s = true) (hR : R (.returned (.tuple #[])) (ρ.set pb (pO (Ip p 1 c 4) (n - 1) (c - 1) d q m e))) :
   Spec prog 210 #[.pointer (aD pb 0),.string s] (ρ.set pb (pO p n c d q m e)) R :=
 Ev.start (Cf h ⟨_,rfl,fun hf => absurd (hs.symm.trans hf) (by decide),fun _ => Ev.PC (Dl h fun a => ⟨_,_,_,_,rfl,hR⟩)⟩)
theorem Fb {x : Nd} {pm pn : Option Addr} {km cm kn cn : Nat} (h : Dk τ ρ pb p n c q m e ts out) (hb : m ≤ 1000000) (h1 : Ae 3 Oa (ρ.del q) pm km x.mt) (h2 : E9 1 (ρ.del q) pn kn (x.names.map .string))
   (hR : ∀ (ρ' : Hp) (q' : Option Addr) (e' : Nat),Dk τ ρ' pb p n c q' (m + 1) e' ts (out ++ [x]) → R (.returned (.tuple #[])) (ρ'.set pb (pO p n c d q' (m + 1) e'))) :
   Spec prog 138 #[.pointer (aD pb 0),MU x pm km cm pn kn cn] (ρ.set pb (pO p n c d q m e)) R := by
 refine Hj.start fun _ => ⟨pb,0,rfl,q,m,e,by simp [Hp.ld,Hp.AB],fun b ABN => ?_⟩
 obtain ⟨e1,e2⟩ := Hp.AS ABN
 rw [Hp.BQ (Ne.symm e1)]
 refine AK.Ao (by rw [Hp.AJ (Ne.symm e1)]; exact h.pb) ?_
 have he : M8 (ρ.del q) [.int .i64 x.kind,.int .i64 x.op,.string x.text,.slice pm km cm,.int .i64 x.width,.int .i64 x.back,.int .i64 x.Ea,.slice pn kn cn,.bool x.bool,.int .i64 x.parts] x := ⟨pm,km,cm,pn,kn,cn,rfl,h1,h2⟩
 refine AW.Jq M8.mono h.out rfl (fun u hu => ?_) he (by omega) (fun q' e' ρ' ho hx hn => ⟨_,_,_,rfl,?_⟩) e2
 · simp only [List.mem_cons,List.not_mem_nil,or_false] at hu
   rcases hu with rfl | rfl | rfl | rfl | rfl | rfl | rfl | rfl | rfl | rfl <;> rfl
 · refine st1 ABf (Hp.AB _ _ _) rfl rfl (by simp) rfl ?_
   rw [Hp.set_set]
   exact hR ρ' q' e' ⟨hn,h.GD.mono XK.mono hx,h.cap,ho⟩
theorem E4 {l : List ByteArray} {s : ByteArray} {σ : Hp} {pt : Option Addr} {k j : Nat} (hr : E9 1 σ pt k (l.map .string)) (hR : R (.returned (.int .i64 (Gg l s))) σ) : Spec prog 133 #[.slice pt k j,.string s] σ R := by
 have hl : l.length = k := by have := hr.1; simpa using this
 have JM : k ≤ 4611686018427387904 := hr.2.1
 refine Dg.start ?_
 suffices H : ∀ g i : Nat,k - i = g → i ≤ k → Gg l s = W5 (l.drop i) s i → Dg.H3 R s pt k j k i σ from H k 0 rfl (Nat.zero_le _) rfl
 intro g
 induction g with
 | zero =>
   intro i hg hi he
   rw [List.drop_eq_nil_of_le (by omega)] at he
   refine Dg.Bp ⟨fun Ap => by omega,fun _ => ?_⟩
   rw [he] at hR; exact hR
 | succ g ih =>
   intro i hg hi he
   have Bk : i < k := by omega
   obtain ⟨x,hx⟩ : ∃ x,l[i]? = some x := ⟨_,List.getElem?_eq_getElem (by omega)⟩
   obtain ⟨b,o,rfl,Du⟩ := E9.at1 hr (k := i) (v := .string x) (by simp [hx])
   rw [A3 hx] at he
   have next : ¬ (x = s ∧ s ≠ ⟨#[]⟩) → AI ((i : Int) + 1) ∧ Dg.H3 R s (aD b o) k j k ((i : Int) + 1) σ := fun A6 => ⟨AL Bk JM,ih (i + 1) (by omega) (by omega) (by rw [he,W5,if_neg A6])⟩
   refine Dg.Bp ⟨fun _ => ⟨b,o,rfl,by omega,x,by simpa using Du,fun ht => ⟨fun hf => ?_,fun hf => next fun hh => ?_⟩,fun hf => next fun hh => ?_⟩,fun hh => by omega⟩
   · rw [UR,decide_eq_true_eq] at ht
     rw [UR,decide_eq_false_iff_not] at hf
     rw [he,W5,if_pos ⟨ht,hf⟩] at hR; exact hR
   · rw [UR,decide_eq_true_eq] at hf
     exact hh.2 hf
   · rw [UR,decide_eq_false_iff_not] at hf
     exact hf hh.1
theorem qR (h : Dk τ ρ pb p n c q m e ts out) (hR : ∀ ρ' b,Dk τ ρ' pb p n c q m e ts out → Ext ρ ρ' → E9 1 (ρ'.set pb (pO p n c d q m e)) (aD b 0) 14 (ud.map .string) → R (.returned (.slice (aD b 0) 14 14)) (ρ'.set pb (pO p n c d q m e))) : Spec prog 134 #[] (ρ.set pb (pO p n c d q m e)) R := by
 refine U3.start fun b hb => ?_
 obtain ⟨h1,h2⟩ := h.box (u := .cells (ud.map Value.string).toArray 9 (0,0)) hb
 have := hR _ b h1 (.set (Hp.AS hb).2) (by rw [← h2]; exact Pb (Hp.AB _ _ _) (by decide))
 rw [← h2] at this
 exact this
theorem Zu (h : Dk τ ρ pb p n c q m e ts out) (hR : ∀ ρ' b,Dk τ ρ' pb p n c q m e ts out → Ext ρ ρ' → E9 1 (ρ'.set pb (pO p n c d q m e)) (aD b 0) 13 (Zo.map .string) → R (.returned (.slice (aD b 0) 13 13)) (ρ'.set pb (pO p n c d q m e))) : Spec prog 267 #[] (ρ.set pb (pO p n c d q m e)) R := by
 refine P4.start fun b hb => ?_
 obtain ⟨h1,h2⟩ := h.box (u := .cells (Zo.map Value.string).toArray 9 (0,0)) hb
 have := hR _ b h1 (.set (Hp.AS hb).2) (by rw [← h2]; exact Pb (Hp.AB _ _ _) (by decide))
 rw [← h2] at this
 exact this
theorem Zv (h : Dk τ ρ pb p n c q m e ts out) (hR : ∀ ρ' b,Dk τ ρ' pb p n c q m e ts out → Ext ρ ρ' → E9 1 (ρ'.set pb (pO p n c d q m e)) (aD b 0) 6 (Zp.map .string) → R (.returned (.slice (aD b 0) 6 6)) (ρ'.set pb (pO p n c d q m e))) : Spec prog 268 #[] (ρ.set pb (pO p n c d q m e)) R := by
 refine TB.start fun b hb => ?_
 obtain ⟨h1,h2⟩ := h.box (u := .cells (Zp.map Value.string).toArray 9 (0,0)) hb
 have := hR _ b h1 (.set (Hp.AS hb).2) (by rw [← h2]; exact Pb (Hp.AB _ _ _) (by decide))
 rw [← h2] at this
 exact this
theorem jX {s : ByteArray} {b : Bool} (h : Dk τ ρ pb p n c q m e ts out) (hR : ∀ ρ',Dk τ ρ' pb p n c q m e ts out → Ext ρ ρ' → R (.returned (.bool (b || decide (0 < Gg Zo s) || decide (0 < Gg Zp s)))) (ρ'.set pb (pO p n c d q m e))) : HB.Qf R s b (ρ.set pb (pO p n c d q m e)) := by
 refine HB.tO ⟨fun hb => ?_,fun hb => ?_⟩
 · have := hR ρ h (.refl _)
   rw [hb] at this
   simpa using this
 · subst hb
   refine Zu h fun ρ1 b1 h1 x1 F7 => ⟨_,_,_,rfl,E4 F7 ⟨_,rfl,fun hp => ?_,fun hp => Zv h1 fun ρ2 b2 h2 x2 HL => ⟨_,_,_,rfl,E4 HL ⟨_,rfl,?_⟩⟩⟩⟩
   · have := hR ρ1 h1 x1
     rw [decide_eq_true (show 0 < Gg Zo s by omega)] at this
     simpa using this
   · have := hR ρ2 h2 (x1.trans x2)
     rw [decide_eq_false (show ¬ 0 < Gg Zo s by omega)] at this
     have e : decide ((0 : Int) < ((Gg Zp s : Nat) : Int)) = decide (0 < Gg Zp s) := decide_eq_decide.2 (by omega)
     dsimp only
     simp only [Bool.false_or] at this
     rw [← e] at this
     exact this
theorem jY {s : ByteArray} (h : Dk τ ρ pb p n c q m e ts out) (hR : ∀ ρ',Dk τ ρ' pb p n c q m e ts out → Ext ρ ρ' → R (.returned (.bool (Mn s))) (ρ'.set pb (pO p n c d q m e))) : Spec prog 295 #[.string s] (ρ.set pb (pO p n c d q m e)) R := by
 have tl : ∀ b,C5 s Qm = b → HB.Qf R s b (ρ.set pb (pO p n c d q m e)) := fun b hb => jX h fun ρ' h' x' => by
   have := hR ρ' h' x'
   unfold Mn at this
   rw [hb] at this; exact this
 have hm : C5 s Qm = (decide (s = ⟨#[111,114]⟩) || (decide (s = ⟨#[97,110,100]⟩) || (decide (s = ⟨#[117,110,108,101,115,115]⟩) || (decide (s = ⟨#[98,111,111,108]⟩) || (decide (s = ⟨#[111,110]⟩) || (decide (s = ⟨#[105,103,110,111,114,105,110,103]⟩) || (decide (s = ⟨#[98,121]⟩) || (decide (s = ⟨#[119,105,116,104,111,117,116]⟩) || decide (s = ⟨#[111,102,102,115,101,116]⟩))))))))) := by
   unfold C5 Qm
   simp only [List.any_cons,List.any_nil,Bool.or_false]
 refine HB.start ⟨fun h1 => tl _ ?_,fun h1 => ⟨fun h2 => tl _ ?_,fun h2 => ⟨fun h3 => tl _ ?_,fun h3 => ⟨fun h4 => tl _ ?_,fun h4 => ⟨fun h5 => tl _ ?_,fun h5 => ⟨fun h6 => tl _ ?_,fun h6 => ⟨fun h7 => tl _ ?_,fun h7 => ⟨fun h8 => tl _ ?_,fun h8 => tl _ ?_⟩⟩⟩⟩⟩⟩⟩⟩ <;>
 · simp only [UR] at *
   simp only [hm, *,Bool.true_or,Bool.or_true,Bool.false_or]
theorem dV (h : Dk τ ρ pb p n c q m e (t :: ts) out) (hk : t.kind = 2) (hR : R (.returned (.int .i64 t.span)) (ρ.set pb (pO (Ip p 1 c 4) (n - 1) (c - 1) d q m e))) : Spec prog 298 #[.pointer (aD pb 0)] (ρ.set pb (pO p n c d q m e)) R :=
 Ei.start (DM h fun a => ⟨_,_,_,_,rfl,fun A6 => absurd hk A6,fun _ => Ei.Ac (Dl h fun a => ⟨_,_,_,_,rfl,hR⟩)⟩)
theorem dW (h : Dk τ ρ pb p n c q m e (t :: ts) out) (hk : t.name = true) (hR : R (.returned (.string t.text)) (ρ.set pb (pO (Ip p 1 c 4) (n - 1) (c - 1) d q m e))) : Spec prog 211 #[.pointer (aD pb 0)] (ρ.set pb (pO p n c d q m e)) R := by
 have ht := h.tok.1
 have Gs : (decide (t.kind = 3) && CE t.text) = true := by rw [← hk]; exact (congrArg Cl.name ht).symm
 rw [Bool.and_eq_true,decide_eq_true_eq] at Gs
 exact Em.start (DM h fun a => ⟨_,_,_,_,rfl,fun A6 => absurd Gs.1 A6,fun _ => DM h fun a => ⟨_,_,_,_,rfl,PM ⟨_,rfl,fun hf => absurd (Gs.2.symm.trans hf) (by decide),fun _ => Em.Ac (Dl h fun a => ⟨_,_,_,_,rfl,hR⟩)⟩⟩⟩)
def Zw (_ : Hp) (vs : List Value) (x : ByteArray) : Prop := vs = [.string x]
theorem Zw.mono : HM Zw := fun _ _ _ _ _ h => h
theorem ABg {σ : Hp} : ∀ {l : List ByteArray} {cs : List Value},Ch 1 Zw σ cs l → cs = l.map .string := by
 intro l cs h
 refine List.ext_getElem? fun i => ?_
 have hl : cs.length = l.length := by have := h.1; omega
 by_cases hi : i < l.length
 · have := h.2 i l[i] (List.getElem?_eq_getElem hi)
   rw [List.getElem?_map,List.getElem?_eq_getElem hi]
   unfold Zw at this
   have h2 := congrArg (·[0]?) this
   simpa [List.getElem?_take,List.getElem?_drop] using h2
 · rw [List.getElem?_eq_none (by omega),List.getElem?_eq_none (by simp; omega)]
theorem A8.ABh {s : Nat} {σ σ' : Hp} {p : Option Addr} {n c : Nat} {cs : List Value} (ho : A8 s σ p n c cs) (h : ∀ a,p = some a → σ' a.block = σ a.block) : A8 s σ' p n c cs :=
 ⟨ho.1,ho.2.1,ho.2.2.imp id fun ⟨b',o',arr,T,hp,hb,r⟩ => ⟨b',o',arr,T,hp,by rw [h _ hp]; exact hb,r⟩⟩
theorem Hp.uj {σ σ' : Hp} {p : Option Addr} (hx : Ext σ (σ'.del p)) : ∀ a,p = some a → (σ.new σ') a.block = σ' a.block := fun a ha => by
 subst ha
 cases h1 : σ a.block with
 | none => simp only [Hp.new,h1]
 | some u =>
   have := hx _ _ h1
   simp [Hp.del] at this
theorem AW.qS {α : Type} {s : Nat} {E : Hp → List Value → α → Prop} {σ0 σ : Hp} {p : Option Addr} {n c : Nat} {xs : List α} (hE : ∀ σ σ' vs x,E σ vs x → E σ' vs x) (h : AW s E σ0 σ p n c xs) : Ae s E (σ0.new σ) p n xs := by
 obtain ⟨⟨h1,cs,h2,h3⟩,h4⟩ := h
 exact ⟨h1,cs,(A8.ABh h2 (Hp.uj h4)).rd,h3.1,fun i x hi => hE _ _ _ _ (h3.2 i x hi)⟩
theorem uo {σ : Hp} {p : Option Addr} {n : Nat} {l : List ByteArray} (h : Ae 1 Zw σ p n l) : E9 1 σ p n (l.map .string) := by
 obtain ⟨h1,cs,h2,h3⟩ := h
 rw [← ABg h3]; exact h2
theorem dX {ρ0 : Hp} : ∀ (f : Nat) (ts : List Cl) (ns : List ByteArray) (x : List ByteArray × List Cl),uf f ts ns = some x → ns.length + f ≤ 1000 → ∀ {ρ : Hp} {p pn : Option Addr} {n c kn cn : Nat},Dk τ ρ0 pb p n c q m e ts out → ρ pb = none → AW 1 Zw ρ0 ρ pn kn cn ns →
   (∀ (ρ' : Hp) (p' pn' : Option Addr) (n' c' kn' cn' : Nat),Dk τ ρ0 pb p' n' c' q m e x.2 out → ρ' pb = none → AW 1 Zw ρ0 ρ' pn' kn' cn' x.1 → R (.returned (.slice pn' kn' cn')) (ρ'.set pb (pO p' n' c' d q m e))) →
   BH.Bh R (aD pb 0) pn kn cn (ρ.set pb (pO p n c d q m e)) := by
 intro f
 induction f with
 | zero => intro ts ns x h; cases h
 | succ f ih =>
   intro ts ns x h hb ρ p pn n c kn cn h0 hn ho hR
   cases ts with
   | nil => cases h
   | cons c0 r =>
     have hu := h0.grow ho.up hn
     have ht := hu.tok.1
     have XA : ns.length = kn := ho.1.1
     have bk : c0.rp = Iu c0.kind c0.text 5 ⟨#[41]⟩ := congrArg Cl.rp ht
     have hcm : c0.comma = Iu c0.kind c0.text 5 ⟨#[44]⟩ := congrArg Cl.comma ht
     unfold uf at h
     have app : ∀ (w : Cl) (r' : List Cl) (p1 : Option Addr) (n1 c1 : Nat),w.name = true → uf f r' (ns ++ [w.text]) = some x → Dk τ ρ0 pb p1 n1 c1 q m e (w :: r') out → BH.V8 R (aD pb 0) pn kn cn (ρ.set pb (pO p1 n1 c1 d q m e)) := fun w r' p1 n1 c1 hw hz iQ =>
       BH.Q4 (dW (iQ.grow ho.up hn) hw ⟨_,rfl,fun b Jx => by
         obtain ⟨e1,e2⟩ := Hp.AS Jx
         rw [Hp.BQ (Ne.symm e1)]
         refine AK.Ao (by rw [Hp.AJ (Ne.symm e1)]; exact hn) ?_
         refine AW.Jq Zw.mono ho rfl (fun u hu => by rw [List.mem_singleton] at hu; subst hu; rfl) rfl (by omega) (fun pn' cn' ρ' MK Wd XL => ⟨_,_,_,rfl,?_⟩) e2
         exact ih r' _ x hz (by rw [List.length_append,List.length_singleton]; omega) iQ.step XL MK hR⟩)
     refine BH.A0 (Cf hu ⟨_,rfl,fun rK => ?_,fun jz => Dl hu fun a => ⟨_,_,_,_,rfl,?_⟩⟩)
     · rw [← bk] at rK
       rw [if_neg (by rw [rK]; decide)] at h
       refine ⟨fun Ol => ?_,fun Ol => ?_⟩
       · rw [if_neg (by omega)] at h
         split at h
         · rename_i hc
           split at h
           · cases h
           · rename_i w r'
             split at h
             · rename_i hw
               exact MH hu (by rw [← hcm]; exact hc) ⟨rfl,app w r' _ _ _ hw h h0.step⟩
             · cases h
         · cases h
       · rw [if_pos (by omega)] at h
         split at h
         · rename_i hc
           exact app c0 r p n c hc h h0
         · cases h
     · rw [← bk] at jz
       rw [if_pos jz] at h
       cases h
       exact hR ρ _ pn _ _ kn cn h0.step hn ho
theorem Zx {x : List ByteArray × List Cl} (h : Dk τ ρ pb p n c q m e (t :: ts) out) (hl : t.lp = true) (hz : uf 8 ts [] = some x)
   (hR : ∀ (ρ' : Hp) (p' pn : Option Addr) (n' c' kn cn : Nat),Dk τ ρ' pb p' n' c' q m e x.2 out → Ext ρ ρ' → E9 1 (ρ.new ρ') pn kn (x.1.map .string) → R (.returned (.slice pn kn cn)) (ρ'.set pb (pO p' n' c' d q m e))) :
   Spec prog 170 #[.pointer (aD pb 0)] (ρ.set pb (pO p n c d q m e)) R := by
 have eY : Iu t.kind t.text 5 ⟨#[40]⟩ = true := by rw [← hl]; exact (congrArg Cl.lp h.tok.1).symm
 refine BH.start (MH h eY ⟨rfl,dX 8 ts [] x hz (by decide) h.step h.pb (AW.nil (.refl _)) fun ρ' p2 pn n2 c2 kn cn hu hn ho => hR ρ' p2 pn n2 c2 kn cn (hu.grow ho.up hn) ho.up (uo (ho.qS fun _ _ _ _ h => h))⟩)
end
end TwW
end
section
namespace TwW
open Go Tw Go.RowKit Go.Proofs.Tryz
abbrev dY (k op : Int) (pm : Option Addr) (km cm : Nat) (w g : Int) (pn : Option Addr) (kn cn : Nat) (b : Bool) (ps : Int) : Obj := .cells #[.int .i64 k,.int .i64 op,.string (ByteArray.mk #[]),.slice pm km cm,.int .i64 w,.int .i64 0,.int .i64 g,.slice pn kn cn,.bool b,.int .i64 ps] 36 (0,0)
theorem ABi : ∀ w,(Go.sizeOf 2).run prog w = .ok 1 w := fun w => by kernel_rfl
theorem ABj : ∀ w,(Go.sizeOf 33).run prog w = .ok 1 w := fun w => by kernel_rfl
theorem ABk : ∀ w,(Go.sizeOf 34).run prog w = .ok 1 w := fun w => by kernel_rfl
section
variable {τ ρ ρ' : Hp} {pb nb n c m e : Nat} {p q : Option Addr} {ts : List Cl} {out : List Nd} {d : Int} {t : Cl} {R : Rr}
theorem dZ {σ : Hp} {k op : Int} {ps : Int} {b : Bool} {Φ : Unit → Hp → Prop} (h : Φ () (σ.set nb (dY k op none 0 0 0 0 none 0 0 b ps))) :
   AK prog (Instr.storeAt 36 (.pointer (aD nb 0)) (.agg #[.int .i64 k,.int .i64 op,(.string (ByteArray.mk #[])),.slice none 0 0,.int .i64 0,.int .i64 0,.int .i64 0,.slice none 0 0,.bool b,.int .i64 ps])) (σ.set nb (dY 0 0 none 0 0 0 0 none 0 0 false 0)) Φ := by
 refine AK.store oY (Hp.AB _ _ _) rfl (by simp) (by simp [Value.cells,Value.oneCell']) ?_
 rw [Hp.set_set]
 show Φ () (σ.set nb (.cells (NQ _ 0 [.int .i64 k,.int .i64 op,(.string (ByteArray.mk #[])),.slice none 0 0,.int .i64 0,.int .i64 0,.int .i64 0,.slice none 0 0,.bool b,.int .i64 ps]) 36 (0,0)))
 rw [TU (by rfl)]
 exact h
theorem jZ {s : ByteArray} {k v a : Int} {s' : ByteArray} (h : Dk τ ρ pb p n c q m e ts out) (Oc : (ρ.set pb (pO p n c d q m e)) nb = none) (hs : s.size ≤ 256)
   (hR : ∀ (ρ' : Hp) (pm : Option Addr) (cm : Nat),Dk τ ρ' pb p n c q m e ts out → Ext ρ ρ' → (ρ'.set pb (pO p n c d q m e)) nb = none → Ae 3 Oa (ρ.new ρ') pm 1 [⟨1,A1,s⟩] → R (.returned (.tuple #[])) ((ρ'.set pb (pO p n c d q m e)).set nb (dY 2 0 pm 1 cm 0 0 none 0 0 false 0))) :
   Spec prog 296 #[.pointer (aD pb 0),.pointer (aD nb 0),.agg #[.int .i64 1,.string (ByteArray.mk #[95,95,110,97,109,101,95,95]),.string s],.agg #[.int .i64 k,.int .i64 a,.string s',.int .i64 v]] ((ρ.set pb (pO p n c d q m e)).set nb (dY 2 0 none 0 0 0 0 none 0 0 false 0)) R := by
 refine IX.start fun _ _ => ⟨nb,0,rfl,none,0,0,by simp [Hp.ld,Hp.AB],fun b hb => ?_⟩
 obtain ⟨e1,Pp⟩ := Hp.AS hb
 obtain ⟨e2,aR⟩ := Hp.AS Pp
 obtain ⟨e3,rF⟩ := Hp.AS Oc
 rw [Hp.BQ (Ne.symm e1)]
 refine AK.Ao (by rw [Hp.AJ (Ne.symm e1)]; exact Oc) ?_
 rw [Hp.BQ (Ne.symm e2)]
 refine AK.Ao (by rw [Hp.AJ (Ne.symm e2)]; exact h.pb) ?_
 refine AW.Jq (vs := [.int .i64 1,.string A1,.string s]) (x := (⟨1,A1,s⟩ : Mt)) Oa.mono (AW.nil (s := 3) (E := Oa) (.refl ρ)) rfl (fun u hu => ?_) rfl (by decide) (fun pm cm ρ' ho hx pF Zg => ⟨_,_,_,rfl,?_⟩) aR
 · simp only [List.mem_cons,List.not_mem_nil,or_false] at hu
   rcases hu with rfl | rfl | rfl <;> rfl
 · have hr := ho.qS fun _ _ _ _ h => h
   refine st1 ABj (Hp.AB _ _ _) rfl rfl (by simp) rfl ?_
   rw [Hp.set_set]
   have RJ := hR ρ' pm cm (h.grow ho.up pF) ho.up Zg hr
   refine ⟨pm,1,cm,by simp [Hp.ld,Hp.AB],QF (ms := [⟨1,A1,s⟩]) ((hr.mono Oa.mono ((Ext.Cq _ _).trans ((Ext.set pF).trans (Ext.set Zg))))) ⟨_,rfl,fun A6 => absurd ?_ A6,fun _ => RJ⟩⟩
   have : HH CE [⟨1,A1,s⟩] = 0 := by
     unfold HH
     simp only [List.length_singleton,List.all_cons,List.all_nil,Bool.and_true]
     rw [if_neg (by decide),if_pos]
     rw [show CE A1 = true by decide,decide_eq_true hs]; rfl
   exact this
theorem T3 {k w : Int} {s : ByteArray} {pm : Option Addr} {cm : Nat} (h : Dk τ ρ pb p n c q m e (t :: ts) out) (Oc : (ρ.set pb (pO p n c d q m e)) nb = none) (ho : t.off = false) (hb : m ≤ 1000000) (hr : Ae 3 Oa (ρ.del q) pm 1 [⟨1,A1,s⟩])
   (hR : ∀ (ρ' : Hp) (q' : Option Addr) (e' : Nat),Dk τ ρ' pb p n c q' (m + 1) e' (t :: ts) (out ++ [⟨k,0,⟨#[]⟩,[⟨1,A1,s⟩],w,0,0,[],false,0⟩]) → R (.returned (.tuple #[])) (ρ'.set pb (pO p n c d q' (m + 1) e'))) :
   Am.QZ R (aD pb 0) nb ((ρ.set pb (pO p n c d q m e)).set nb (dY k 0 pm 1 cm w 0 none 0 0 false 0)) := by
 have MK : Iu t.kind t.text 3 ⟨#[111,102,102,115,101,116]⟩ = false := by rw [← ho]; exact (congrArg Cl.off h.tok.1).symm
 refine Am.Q8 (Spec.Ao Oc (Cf h fun hn => ⟨_,rfl,fun ht => absurd (MK.symm.trans ht) (by decide),fun _ => Am.WV ⟨_,_,_,_,_,_,_,_,_,_,_,_,_,_,OQ (Hp.AB _ _ _),?_⟩⟩))
 refine Spec.Ao hn (Fb (x := ⟨k,0,⟨#[]⟩,[⟨1,A1,s⟩],w,0,0,[],false,0⟩) h hb hr ⟨rfl,by omega,.inl rfl⟩ fun ρ' q' e' hu XL => ⟨rfl,?_⟩)
 obtain ⟨h1,h2⟩ := hu.box (u := dY k 0 pm 1 cm w 0 none 0 0 false 0) XL
 rw [h2]
 exact hR _ q' e' h1
theorem choose_spec {r : List Cl} {x : Nd} (h : Dk τ ρ pb p n c q m e (t :: ts) out) (hk : t.kind = 3) (hke : t.kept = false) (hs : t.text.size ≤ 256) (hb : m ≤ 1000000)
   (hz : ug t ts = some (r,[x]))
   (hR : ∀ (ρ' : Hp) (p' q' : Option Addr) (n' c' e' : Nat),Dk τ ρ' pb p' n' c' q' (m + 1) e' r (out ++ [x]) → R (.returned (.tuple #[])) (ρ'.set pb (pO p' n' c' d q' (m + 1) e'))) :
   Spec prog 270 #[.pointer (aD pb 0)] (ρ.set pb (pO p n c d q m e)) R := by
 have AOg : Mn t.text = false := by rw [← hke]; exact (congrArg Cl.kept h.tok.1).symm
 unfold ug at hz
 cases ts with
 | nil => cases hz
 | cons a r' =>
   refine Am.start fun nb Oc => dZ ?_
   refine Spec.Ao Oc (DM h fun a' Zg => ⟨_,_,_,_,rfl,fun _ => ⟨fun _ => ?_,fun A6 => absurd hk A6⟩⟩)
   refine Spec.Ao Zg (jY h fun ρ1 h1 x1 To => ⟨_,rfl,fun _ => ?_,fun ht => absurd (AOg.symm.trans ht) (by decide)⟩)
   have h2 := h1.step
   refine Spec.Ao To (Dl h1 fun a' rF => ⟨_,_,_,_,rfl,?_⟩)
   refine jZ h2 rF hs fun ρ2 pm cm h3 x2 j2 hr => ⟨rfl,?_⟩
   have ht := h3.tok.1
   have e1 : a.lbr = Iu a.kind a.text 5 ⟨#[123]⟩ := congrArg Cl.lbr ht
   have e2 : a.lsq = Iu a.kind a.text 5 ⟨#[91]⟩ := congrArg Cl.lsq ht
   have HL : Ae 3 Oa (ρ2.del q) pm 1 [⟨1,A1,t.text⟩] := hr.mono Oa.mono (h2.out.new x2)
   dsimp only at hz
   split at hz
   · cases hz
   rename_i xL
   refine Am.I2 (Spec.Ao j2 (Cf h3 fun hn5 => ⟨_,rfl,fun jz => absurd (e1.trans jz) xL,fun _ => ⟨fun hh => (by cases hh),fun _ => ?_⟩⟩))
   split at hz
   · rename_i Hz
     split at hz
     · rename_i s ee o qM
       split at hz
       · rename_i hc
         obtain ⟨hs2,hrs,hof⟩ := hc
         simp only [Option.some.injEq,Prod.mk.injEq,List.cons.injEq,and_true] at hz
         obtain ⟨rfl,rfl⟩ := hz
         refine Am.JH (Spec.Ao hn5 (Cf h3 fun hn6 => ⟨_,rfl,fun _ => ?_,fun hf => absurd (Hz.symm.trans (e2.trans hf)) (by decide)⟩))
         have h4 := h3.step
         have h5 := h4.step
         have h6 := h5.step
         refine Spec.Ao hn6 (Dl h3 fun a2 hn7 => ⟨_,_,_,_,rfl,?_⟩)
         refine Spec.Ao hn7 (dV h4 hs2 fun QI => ⟨_,rfl,?_⟩)
         refine st1 Ig (Hp.AB _ _ _) rfl rfl (by simp) rfl ?_
         rw [Hp.set_set]
         refine st1 ABi (Hp.AB _ _ _) rfl rfl (by simp) rfl ?_
         rw [Hp.set_set]
         have e3 : Iu ee.kind ee.text 5 ⟨#[93]⟩ = true := by rw [← hrs]; exact (congrArg Cl.rsq h5.tok.1).symm
         refine Spec.Ao QI (MH h5 e3 fun hn9 => ⟨rfl,?_⟩)
         exact T3 (k := 3) (w := s.span) h6 hn9 hof hb HL fun ρ' q' e' hu => hR ρ' _ q' _ _ e' hu
       · cases hz
     · cases hz
   · rename_i Hz
     split at hz
     · cases hz
     rename_i hof
     simp only [Option.some.injEq,Prod.mk.injEq,List.cons.injEq,and_true] at hz
     obtain ⟨rfl,rfl⟩ := hz
     refine Am.JH (Spec.Ao hn5 (Cf h3 fun hn6 => ⟨_,rfl,fun jz => absurd (e2.trans jz) Hz,fun _ => ?_⟩))
     exact T3 (k := 2) (w := 0) h3 hn6 (by simpa using hof) hb HL fun ρ' q' e' hu => hR ρ' _ q' _ _ e' hu
end
end TwW
end
section
namespace TwW
open Go Tw Go.RowKit Go.Proofs.Tryz
section
variable {τ ρ ρ' : Hp} {pb nb n c m e : Nat} {p q : Option Addr} {ts : List Cl} {out : List Nd} {d : Int} {t : Cl} {R : Rr}
theorem Zy {k op x0 x1 v ps : Int} {b : Bool} {i b7 : Nat} {s0 s1 s : ByteArray} {r : List Cl} {l : Cl} {x : List ByteArray × List Cl} (h : Dk τ ρ pb p n c q m e (t :: l :: r) out) (Oc : (ρ.set pb (pO p n c d q m e)) nb = none) (hb7 : ρ b7 = some (.cells #[.int .i64 x0,.int .i64 x1] 182 (0,0)))
   (hi : i < 2) (hs : [s0,s1][i]? = some s) (hv : (#[Value.int .i64 x0,.int .i64 x1])[i]? = some (.int .i64 v)) (ht : Iu t.kind t.text 3 s = true) (hl : l.lp = true) (hz : uf 8 r [] = some x)
   (hR : ∀ (ρ' : Hp) (p' pn : Option Addr) (n' c' kn cn : Nat),Dk τ ρ' pb p' n' c' q m e x.2 out → Ext ρ ρ' → (ρ'.set pb (pO p' n' c' d q m e)) nb = none → E9 1 (ρ.new ρ') pn kn (x.1.map .string) → R (.returned (.tuple #[])) ((ρ'.set pb (pO p' n' c' d q m e)).set nb (dY k op none 0 0 0 v pn kn cn b ps))) :
   Ai.qm R (aD pb 0) (aD nb 0) b7 s0 s1 (i : Int) ((ρ.set pb (pO p n c d q m e)).set nb (dY k op none 0 0 0 0 none 0 0 b ps)) := by
 have kn7 : ∀ {ρ2 : Hp} {o u : Obj},Ext ρ ρ2 → ρ2 pb = none → (ρ2.set pb o) nb = none → ((ρ2.set pb o).set nb u) b7 = some (.cells #[.int .i64 x0,.int .i64 x1] 182 (0,0)) := fun hx h1 h2 => (Ext.set h2) _ _ ((Ext.set h1) _ _ (hx _ _ hb7))
 refine Ai.R5 ⟨fun _ => ⟨by omega,s,by simpa using hs,Spec.Ao Oc (Cf h fun hn => ⟨_,rfl,fun _ => Spec.Ao hn (Dl h fun a Zg => ⟨_,_,_,_,rfl,by omega,v,?_,Spec.Ao Zg (Zx h.step hl hz fun ρ2 p2 pn n2 c2 kn cn hu hx hr To => ⟨_,_,_,rfl,?_,nb,0,rfl,?_⟩)⟩),fun hf => absurd (ht.symm.trans hf) (by decide)⟩)⟩,fun hh => by omega⟩
 · exact Af (kn7 (.refl _) h.pb Zg) (by simpa using hv)
 · intro j hj o ho
   rw [List.mem_singleton] at hj
   subst hj
   rw [kn7 (.refl _) h.pb Zg] at ho
   rw [kn7 hx hu.pb To]
   exact ho
 · refine st1 Ig (Hp.AB _ _ _) rfl rfl (by simp) rfl ?_
   rw [Hp.set_set]
   refine st1 ABk (Hp.AB _ _ _) rfl rfl (by simp) rfl ?_
   rw [Hp.set_set]
   exact hR ρ2 p2 pn n2 c2 kn cn hu hx To hr
theorem NL {i b7 : Nat} {s0 s1 s : ByteArray} {o : Obj} {qn : Option Addr} (h : Dk τ ρ pb p n c q m e (t :: ts) out) (Oc : (ρ.set pb (pO p n c d q m e)) nb = none)
   (hi : i < 2) (hs : [s0,s1][i]? = some s) (ht : Iu t.kind t.text 3 s = false) (hR : Ai.qm R (aD pb 0) qn b7 s0 s1 ((i + 1 : Nat) : Int) ((ρ.set pb (pO p n c d q m e)).set nb o)) :
   Ai.qm R (aD pb 0) qn b7 s0 s1 (i : Int) ((ρ.set pb (pO p n c d q m e)).set nb o) :=
 Ai.R5 ⟨fun _ => ⟨by omega,s,by simpa using hs,Spec.Ao Oc (Cf h fun hn => ⟨_,rfl,fun hh => absurd (ht.symm.trans hh) (by decide),fun _ => ⟨by unfold AI; omega,hR⟩⟩)⟩,fun hh => by omega⟩
theorem T5 {x0 x1 : Int} {s0 s1 : ByteArray} {o : Obj} (h : Dk τ ρ pb p n c q m e (t :: ts) out) (Oc : (ρ.set pb (pO p n c d q m e)) nb = none) (h0 : Iu t.kind t.text 3 s0 = false) (h1 : Iu t.kind t.text 3 s1 = false)
   (hR : ∀ ρ',Dk τ ρ' pb p n c q m e (t :: ts) out → Ext ρ ρ' → (ρ'.set pb (pO p n c d q m e)) nb = none → R (.returned (.tuple #[])) ((ρ'.set pb (pO p n c d q m e)).set nb o)) :
   Spec prog 137 #[.pointer (aD pb 0),.pointer (aD nb 0),.agg #[.string s0,.string s1],.agg #[.int .i64 x0,.int .i64 x1]] ((ρ.set pb (pO p n c d q m e)).set nb o) R := by
 refine Ai.start fun _ b7 hb => ?_
 obtain ⟨e1,Pp⟩ := Hp.AS hb
 obtain ⟨e2,aR⟩ := Hp.AS Pp
 rw [Hp.BQ (Ne.symm e1),Hp.BQ (Ne.symm e2)]
 have hu := h.grow (.set (o := .cells #[.int .i64 x0,.int .i64 x1] 182 (0,0)) aR) (by rw [Hp.AJ (Ne.symm e2)]; exact h.pb)
 have XL : ((ρ.set b7 (.cells #[.int .i64 x0,.int .i64 x1] 182 (0,0))).set pb (pO p n c d q m e)) nb = none := by
   rw [Hp.BQ e2,Hp.AJ (Ne.symm e1)]; exact Oc
 refine NL (i := 0) hu XL (by decide) rfl h0 (NL (i := 1) hu XL (by decide) rfl h1 (Ai.R5 ⟨fun hh => by omega,fun _ => ?_⟩))
 exact hR _ hu (.set aR) XL
theorem da {op : Int} {g : Int × List ByteArray × List Cl} (h : Dk τ ρ pb p n c q m e ts out) (Oc : (ρ.set pb (pO p n c d q m e)) nb = none) (hg : dT ts = some g)
   (hR : ∀ (ρ' : Hp) (p' pn : Option Addr) (n' c' kn cn : Nat),Dk τ ρ' pb p' n' c' q m e g.2.2 out → Ext ρ ρ' → (ρ'.set pb (pO p' n' c' d q m e)) nb = none → E9 1 (ρ.new ρ') pn kn (g.2.1.map .string) → R (.returned (.tuple #[])) ((ρ'.set pb (pO p' n' c' d q m e)).set nb (dY 5 op none 0 0 0 g.1 pn kn cn false 1))) :
   Spec prog 137 #[.pointer (aD pb 0),.pointer (aD nb 0),(.agg #[(.string (ByteArray.mk #[98,121])),(.string (ByteArray.mk #[119,105,116,104,111,117,116]))]),.agg #[.int .i64 1,.int .i64 2]] ((ρ.set pb (pO p n c d q m e)).set nb (dY 5 op none 0 0 0 0 none 0 0 false 1)) R := by
 cases ts with
 | nil => cases hg
 | cons t r =>
   have ht := h.tok.1
   have e1 : t.xe = Iu t.kind t.text 3 ⟨#[98,121]⟩ := congrArg Cl.xe ht
   have e2 : t.out = Iu t.kind t.text 3 ⟨#[119,105,116,104,111,117,116]⟩ := congrArg Cl.out ht
   unfold dT at hg
   dsimp only at hg
   split at hg
   · rename_i j1
     cases r with
     | nil => cases hg
     | cons l r =>
       dsimp only at hg
       split at hg
       · rename_i hl
         cases hz : uf 8 r [] with
         | none => rw [hz] at hg; cases hg
         | some x =>
           rw [hz] at hg
           simp only [Option.map_some,Option.some.injEq] at hg
           subst hg
           refine Ai.start fun _ b7 hb => ?_
           obtain ⟨n1,Pp⟩ := Hp.AS hb
           obtain ⟨n2,aR⟩ := Hp.AS Pp
           rw [Hp.BQ (Ne.symm n1),Hp.BQ (Ne.symm n2)]
           have x0 := Ext.set (o := .cells #[.int .i64 1,.int .i64 2] 182 (0,0)) aR
           have hu := h.grow x0 (by rw [Hp.AJ (Ne.symm n2)]; exact h.pb)
           have XL : ((ρ.set b7 (.cells #[.int .i64 1,.int .i64 2] 182 (0,0))).set pb (pO p n c d q m e)) nb = none := by
             rw [Hp.BQ n2,Hp.AJ (Ne.symm n1)]; exact Oc
           by_cases hb : t.xe = true
           · refine Zy (i := 0) (v := 1) hu XL (Hp.AB _ _ _) (by decide) rfl rfl (by rw [← e1]; exact hb) hl hz fun ρ' p' pn n' c' kn cn CU hx To hr => ?_
             have := hR ρ' p' pn n' c' kn cn CU (x0.trans hx) To (hr.mono (Ext.Ci x0))
             rw [if_pos hb] at this; exact this
           · have Jx : t.xe = false := by simpa using hb
             have ho : t.out = true := by rw [Jx,Bool.false_or] at j1; exact j1
             refine NL (i := 0) hu XL (by decide) rfl (by rw [← e1]; exact Jx) ?_
             refine Zy (i := 1) (v := 2) hu XL (Hp.AB _ _ _) (by decide) rfl rfl (by rw [← e2]; exact ho) hl hz fun ρ' p' pn n' c' kn cn CU hx To hr => ?_
             have := hR ρ' p' pn n' c' kn cn CU (x0.trans hx) To (hr.mono (Ext.Ci x0))
             rw [if_neg hb] at this; exact this
       · cases hg
   · rename_i j1
     simp only [Option.some.injEq] at hg
     subst hg
     rw [Bool.not_eq_true,Bool.or_eq_false_iff] at j1
     refine T5 h Oc (by rw [← e1]; exact j1.1) (by rw [← e2]; exact j1.2) fun ρ' hu hx hn => ?_
     exact hR ρ' p none n c 0 0 hu hx hn ⟨rfl,by omega,.inl rfl⟩
theorem Vd {g : Nat} {fst cap : Array Value} (Oh : Enters prog g) (h : Dk τ ρ pb p n c q m e (t :: ts) out) (hd : 0 ≤ d ∧ d < 64)
   (hR : Spec prog g (fst ++ #[] ++ cap) (ρ.set pb (pO (Ip p 1 c 4) (n - 1) (c - 1) (d + 1) q m e)) (AA R fun z y => z = .tuple #[] ∧ ∃ (ρ' : Hp) (p' q' : Option Addr) (n' c' m' e' : Nat),y = ρ'.set pb (pO p' n' c' (d + 1) q' m' e') ∧ R (.returned (.tuple #[])) (ρ'.set pb (pO p' n' c' d q' m' e')))) :
   Spec prog 251 #[.pointer (aD pb 0),.func (.func g) fst cap] (ρ.set pb (pO p n c d q m e)) R := by
 refine En.start ⟨pb,0,rfl,d,by simp [Hp.ld,Hp.AB],fun hh => by omega,fun _ => En.R5 ⟨pb,0,rfl,d,by simp [Hp.ld,Hp.AB],by unfold AI; omega,?_⟩⟩
 refine st1 Ig (Hp.AB _ _ _) rfl rfl (by simp) rfl ?_
 rw [Hp.set_set]
 refine Dl h fun a => ⟨_,_,_,_,rfl,g,fst,cap,rfl,Oh,hR.cont fun z y hy => ?_⟩
 obtain ⟨rfl,ρ2,p2,q2,n2,c2,m2,e2,rfl,hr⟩ := hy
 refine ⟨rfl,d + 1,by simp [Hp.ld,Hp.AB],by unfold AI; omega,?_⟩
 refine st1 Ig (Hp.AB _ _ _) rfl rfl (by simp) rfl ?_
 rw [Hp.set_set,show d + 1 - 1 = d by omega]
 exact hr
end
end TwW
end
