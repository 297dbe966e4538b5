/-
  Part 5 of the proof that the law EvalSetsUptoCardSaid of the given program answers true for every input of the given statement; the input reads behind the call as it did. (The texts: packed from 30 texts. Names are shortened by the packing program, for the bound on size.)
-/
import Derived.Test.YtlmhidjgplomgaaGreatDoorA4
import Derived.Test.YtlmhidjgplomgaaGreatDoorCards
import Derived.Test.YtlmhidjgplomgaaGreatDoorTie
import Derived.WalkKit
import Derived.ProofKit
import Derived.OpenShut
import Derived.Deep.DeepHandedRow
import Derived.Stop.LaidErr
import Derived.Shelf.Vars
import Derived.Deep.DeepWitnessRowRef
import Derived.Deep.DeepLaidRun
import Derived.Lib.LaidTab
import Derived.LaidLaws
import Derived.ChangeMaps5
import Derived.Laws.FloatBits
import Ieee.Arith
import Derived.KernelRfl
set_option linter.all false
section
namespace TwW
open Go Tw Go.RowKit Go.Proofs.Tryz
structure GR where
 b : Nat
 lp : Option Addr
 ln : Nat
 lc : Nat
 vp : Option Addr
 vn : Nat
 vc : Nat
def GR.cl (r : GR) : List Nat := r.b :: RU r.vp
def GR.cell (r : GR) : Obj := .cells #[.slice r.lp r.ln r.lc,.slice r.vp r.vn r.vc] 189 (0,0)
def FM : List Rg → List GR → List (ByteArray × Nat)
 | g :: gs,r :: rs => (D8 g.ls,r.b) :: FM gs rs
 | _,_ => []
structure GS (τ σ : Hp) (m : Nat) (op : Option Addr) (on oc : Nat) (rs : List GR) (gs : List Rg) : Prop where
 len : rs.length = gs.length
 map : MS (fun v b => v = .pointer (aD b 0)) σ m (FM gs rs)
 ord : BB 1 σ op on oc (rs.map fun r => .pointer (aD r.b 0))
 box : ∀ (i : Nat) (r : GR) (g : Rg),rs[i]? = some r → gs[i]? = some g → σ r.b = some r.cell ∧ Dq τ r.lp r.ln g.ls ∧ D0 .u64 σ r.vp r.vn r.vc g.vs
 om : ∀ a,op = some a → a.block ≠ m ∧ τ a.block = none
 dm : ∀ (i : Nat) (r : GR),rs[i]? = some r → ∀ k ∈ r.cl,k ≠ m ∧ (∀ a,op = some a → k ≠ a.block) ∧ τ k = none
 vb : ∀ (i : Nat) (r : GR),rs[i]? = some r → ∀ a,r.vp = some a → a.block ≠ r.b
 dr : ∀ (i j : Nat) (r r' : GR),i ≠ j → rs[i]? = some r → rs[j]? = some r' → ∀ k ∈ r.cl,k ∉ r'.cl
 tm : τ m = none
 ext : Ext τ σ
theorem uh : ∀ w,(Go.sizeOf 187).run prog w = .ok 1 w := fun w => by kernel_rfl
theorem ui {p : Option Addr} {k : Nat} : k ∈ RU p ↔ ∃ a,p = some a ∧ k = a.block := by
 cases p with
 | none => simp [RU]
 | some a => simp [RU]
theorem JY {r : GR} {k : Nat} : k ∈ r.cl ↔ k = r.b ∨ ∃ a,r.vp = some a ∧ k = a.block := by
 unfold GR.cl
 rw [List.mem_cons,ui]
theorem BB.of_eq {s : Nat} {σ σ' : Hp} {p : Option Addr} {n c : Nat} {cs : List Value} (ho : BB s σ p n c cs) (h : ∀ a,p = some a → σ' a.block = σ a.block) : BB s σ' p n c cs :=
 ⟨ho.1,ho.2.1,ho.2.2.imp id fun ⟨b',o',arr,T,hp,hb,r⟩ => ⟨b',o',arr,T,hp,by rw [h _ hp]; exact hb,r⟩⟩
theorem Vf : ∀ {gs : List Rg} {rs : List GR} {i : Nat} {g g' : Rg} {r r' : GR},gs[i]? = some g → rs[i]? = some r → g'.ls = g.ls → r'.b = r.b → FM (gs.set i g') (rs.set i r') = FM gs rs
 | [],_,i,_,_,_,_,hg,_,_,_ => by simp at hg
 | _ :: _,[],i,_,_,_,_,_,hr,_,_ => by simp at hr
 | a :: gs,b :: rs,0,g,g',r,r',hg,hr,h1,h2 => by
   simp only [List.getElem?_cons_zero,Option.some.injEq] at hg hr
   subst hg; subst hr
   simp only [List.set_cons_zero,FM,h1,h2]
 | a :: gs,b :: rs,i + 1,g,g',r,r',hg,hr,h1,h2 => by
   simp only [List.set_cons_succ,FM]
   rw [Vf (by simpa using hg) (by simpa using hr) h1 h2]
theorem Vg : ∀ {gs : List Rg} {rs : List GR} {g : Rg} {r : GR},rs.length = gs.length → FM (gs ++ [g]) (rs ++ [r]) = FM gs rs ++ [(D8 g.ls,r.b)]
 | [],[],g,r,_ => rfl
 | [],_ :: _,g,r,h => by simp at h
 | _ :: _,[],g,r,h => by simp at h
 | a :: gs,b :: rs,g,r,h => by
   simp only [List.cons_append,FM]
   rw [Vg (by simpa using h)]
theorem Tt : ∀ {gs : List Rg} {rs : List GR} {ls : List Lb} {v : Int} {b : Nat},rs.length = gs.length → C6 (FM gs rs) (D8 ls) = some b → ∃ (i : Nat) (g : Rg) (r : GR),gs[i]? = some g ∧ rs[i]? = some r ∧ r.b = b ∧ IW ls v gs = gs.set i ⟨g.ls,g.vs ++ [v]⟩
 | [],_,ls,v,b,_,h => by simp [FM,C6] at h
 | _ :: _,[],ls,v,b,hl,h => by simp at hl
 | g :: gs,r :: rs,ls,v,b,hl,h => by
   unfold FM C6 at h
   by_cases hk : D8 g.ls = D8 ls
   · rw [if_pos hk] at h
     exact ⟨0,g,r,rfl,rfl,by simpa using h,by unfold IW; rw [if_pos hk]; rfl⟩
   · rw [if_neg hk] at h
     obtain ⟨i,g',r',h1,h2,h3,h4⟩ := Tt (v := v) (by simpa using hl) h
     exact ⟨i + 1,g',r',by simpa using h1,by simpa using h2,h3,by unfold IW; rw [if_neg hk,h4]; rfl⟩
theorem Tu : ∀ {gs : List Rg} {rs : List GR} {ls : List Lb} {v : Int},rs.length = gs.length → C6 (FM gs rs) (D8 ls) = none → IW ls v gs = gs ++ [⟨ls,[v]⟩] ∧ ∀ a ∈ FM gs rs,a.1 ≠ D8 ls
 | [],_,ls,v,_,h => ⟨rfl,fun a ha => by simp [FM] at ha⟩
 | _ :: _,[],ls,v,hl,h => by simp at hl
 | g :: gs,r :: rs,ls,v,hl,h => by
   unfold FM C6 at h
   by_cases hk : D8 g.ls = D8 ls
   · rw [if_pos hk] at h; cases h
   · rw [if_neg hk] at h
     obtain ⟨h1,h2⟩ := Tu (v := v) (by simpa using hl) h
     refine ⟨by unfold IW; rw [if_neg hk,h1]; rfl,fun a ha => ?_⟩
     unfold FM at ha
     rcases List.mem_cons.1 ha with rfl | ha
     · exact hk
     · exact h2 a ha
section
variable {τ σ σ' σ0 : Hp} {R : Rr} {m on oc : Nat} {op : Option Addr} {rs : List GR} {gs : List Rg}
theorem GS.known (h : GS τ σ m op on oc rs gs) {i : Nat} {r : GR} (hr : rs[i]? = some r) : ∀ k ∈ r.cl,∃ u,σ k = some u := fun k hk => by
 have Aq := (List.getElem?_eq_some_iff.1 hr).1
 obtain ⟨g,hg⟩ : ∃ g,gs[i]? = some g := ⟨_,List.getElem?_eq_getElem (by rw [← h.len]; exact Aq)⟩
 obtain ⟨h1,_,h3⟩ := h.box i r g hr hg
 rcases JY.1 hk with rfl | ⟨a,ha,rfl⟩
 · exact ⟨_,h1⟩
 · have := BB.block h3 a ha
   cases hh : σ a.block with
   | none => exact absurd hh this
   | some u => exact ⟨u,rfl⟩
theorem GS.grow (h : GS τ σ m op on oc rs gs) (hx : Ext σ σ') : ∃ τ',GS τ' σ' m op on oc rs gs ∧ Ext τ τ' ∧ Ext (σ.new σ') τ' := by
 have ht : Ext τ (τ.or (σ.new σ')) := Ext.uE _ _
 have kn : ∀ k,(∃ u,σ k = some u) → τ k = none → (τ.or (σ.new σ')) k = none := fun k ⟨u,hu⟩ hk => by
   rw [Hp.cp hk]
   cases hh : (σ.new σ') k with
   | none => rfl
   | some v => rw [(AV.1 hh).1] at hu; cases hu
 have ne : ∀ k,σ k ≠ none → ∃ u,σ k = some u := fun k hk => by
   cases hh : σ k with
   | none => exact absurd hh hk
   | some u => exact ⟨u,rfl⟩
 refine ⟨τ.or (σ.new σ'),⟨h.len,h.map.mono hx,h.ord.mono hx,fun i r g hr hg => ?_,fun a ha => ⟨(h.om a ha).1,kn _ (ne _ (h.ord.block a ha)) (h.om a ha).2⟩,fun i r hr k hk => ?_,h.vb,h.dr,kn _ (ne _ h.map.known) h.tm,?_⟩,ht,?_⟩
 · obtain ⟨h1,h2,h3⟩ := h.box i r g hr hg
   exact ⟨hx _ _ h1,h2.mono Bs.mono ht,h3.mono hx⟩
 · obtain ⟨h1,h2,h3⟩ := h.dm i r hr k hk
   exact ⟨h1,h2,kn k (h.known hr k hk) h3⟩
 · exact Ext.ow (h.ext.trans hx) (Ext.Cs _ _)
 · refine Ext.cp fun k hk => ?_
   cases hh : τ k with
   | none => rfl
   | some u =>
     have h1 := h.ext _ _ hh
     cases h2 : (σ.new σ') k with
     | none => exact absurd h2 hk
     | some v => rw [(AV.1 h2).1] at h1; cases h1
theorem GS.push {i : Nat} {r : GR} {g : Rg} {v : Int} (h : GS τ σ m op on oc rs gs) (hr : rs[i]? = some r) (hg : gs[i]? = some g) (hb : r.vn ≤ 1000000000000) {Φ : Hp → Prop}
   (hΦ : ∀ σ' r',GS τ σ' m op on oc (rs.set i r') (gs.set i ⟨g.ls,g.vs ++ [v]⟩) → Φ σ') :
   Al σ fun b69 => AK prog (Builtin.append_ #[187,187] 187 #[.slice r.vp r.vn r.vc,(.slice (aD b69 0) 1 1)]) (Hp.set σ b69 (.cells #[.int .u64 v] 48 (0,0))) (CS fun p70 n70 c70 y => AK prog (Instr.storeAt 187 (.pointer (aD r.b 1)) (.slice p70 n70 c70)) y (fun _ AF => Φ AF)) := fun b69 ANz => by
 obtain ⟨h1,h2,h3⟩ := h.box i r g hr hg
 have xx := (List.getElem?_eq_some_iff.1 hr).1
 have hig := (List.getElem?_eq_some_iff.1 hg).1
 have x1 := Ext.set (o := .cells #[.int .u64 v] 48 (0,0)) ANz
 refine DQ (BB.mono x1 h3) (Wm (f := .int .u64) (x := v) (Hp.AB _ _ _)) Gd.Qw (by omega) fun vp' vc' σ2 Ba A9 => ⟨_,_,_,rfl,?_⟩
 have hvb := h.vb i r hr
 have UM : ∀ k u,σ k = some u → (∀ a,r.vp = some a → k ≠ a.block) → σ2 k = some u ∧ ∀ a,vp' = some a → k ≠ a.block := fun k u hk A5 => by
   obtain ⟨a1,a2⟩ := AR.1 (A9 k u (AR.2 ⟨A5,x1 _ _ hk⟩))
   exact ⟨a2,a1⟩
 obtain ⟨c1,c2⟩ := UM r.b _ h1 fun a ha e => hvb a ha e.symm
 refine AK.store uh c1 rfl (by simp) (by simp [Value.cells,Value.oneCell']) ?_
 let r' : GR := ⟨r.b,r.lp,r.ln,r.lc,vp',r.vn + 1,vc'⟩
 have Ul : (Obj.cells (NT #[.slice r.lp r.ln r.lc,.slice r.vp r.vn r.vc] 1 (Value.slice vp' (r.vn + 1) vc').cells.toList) 189 (0,0)) = r'.cell := by simp [NT,Value.cells,GR.cell,r']
 rw [Ul]
 have T : ∀ k u,σ k = some u → k ∉ r.cl → (σ2.set r.b r'.cell) k = some u ∧ k ∉ r'.cl := fun k u hk j5 => by
   have Ob : k ≠ r.b := fun e => j5 (JY.2 (.inl e))
   obtain ⟨a1,a2⟩ := UM k u hk fun a ha e => j5 (JY.2 (.inr ⟨a,ha,e⟩))
   exact ⟨by rw [Hp.AI Ob]; exact a1,fun hc => by
     rcases JY.1 hc with e | ⟨a,ha,e⟩
     · exact Ob e
     · exact a2 a ha e⟩
 have TK : ∀ k,(∃ u,σ k = some u) → k ∉ r.cl → (σ2.set r.b r'.cell) k = σ k ∧ k ∉ r'.cl := fun k ⟨u,hu⟩ j5 => ⟨by rw [(T k u hu j5).1,hu],(T k u hu j5).2⟩
 have ne : ∀ k,σ k ≠ none → ∃ u,σ k = some u := fun k hk => by
   cases hh : σ k with
   | none => exact absurd hh hk
   | some u => exact ⟨u,rfl⟩
 have mk := TK m (ne _ h.map.known) fun hc => (h.dm i r hr m hc).1 rfl
 have ok : ∀ a,op = some a → (σ2.set r.b r'.cell) a.block = σ a.block ∧ a.block ∉ r'.cl := fun a ha => TK _ (ne _ (h.ord.block a ha)) fun hc => (h.dm i r hr _ hc).2.1 a ha rfl
 have jk : ∀ j s,j ≠ i → rs[j]? = some s → ∀ k ∈ s.cl,(σ2.set r.b r'.cell) k = σ k ∧ k ∉ r'.cl := fun j s hj hs k hk => TK k (h.known hs k hk) (h.dr j i s r hj hs hr k hk)
 have jg : ∀ j s,(rs.set i r')[j]? = some s → (j = i ∧ s = r') ∨ (j ≠ i ∧ rs[j]? = some s) := fun j s hs => by
   by_cases hj : j = i
   · subst hj
     rw [List.getElem?_set_self xx] at hs
     exact .inl ⟨rfl,by simpa using hs.symm⟩
   · rw [List.getElem?_set_ne (Ne.symm hj)] at hs
     exact .inr ⟨hj,hs⟩
 refine hΦ _ r' ⟨by simp [h.len],?_,?_,fun j s t hs ht => ?_,fun a ha => h.om a ha,fun j s hs k hk => ?_,fun j s hs a ha => ?_,fun j l s s' hjl hs Ol k hk => ?_,h.tm,fun k u hk => ?_⟩
 · rw [Vf (g' := ⟨g.ls,g.vs ++ [v]⟩) (r' := r') hg hr rfl rfl]; exact h.map.loc mk.1
 · have : (rs.set i r').map (fun r => Value.pointer (aD r.b 0)) = rs.map fun r => Value.pointer (aD r.b 0) := by
     rw [List.map_set]
     obtain ⟨_,e⟩ := List.getElem?_eq_some_iff.1 hr
     have : Value.pointer (aD r'.b 0) = (rs.map fun r => Value.pointer (aD r.b 0))[i]'(by simpa using xx) := by simp [e,r']
     rw [this,List.set_getElem_self]
   rw [this]; exact BB.of_eq h.ord fun a ha => (ok a ha).1
 · rcases jg j s hs with ⟨rfl,rfl⟩ | ⟨hj,Ol⟩
   · rw [List.getElem?_set_self hig] at ht
     cases ht
     refine ⟨Hp.AB _ _ _,h2,?_⟩
     have := BB.AI (b := r.b) (o := r'.cell) Ba (fun a ha e => c2 a ha e.symm)
     unfold D0
     rw [List.map_append]; exact this
   · rw [List.getElem?_set_ne (Ne.symm hj)] at ht
     obtain ⟨a1,a2,a3⟩ := h.box j s t Ol ht
     refine ⟨?_,a2,BB.of_eq a3 fun a ha => (jk j s hj Ol _ (JY.2 (.inr ⟨a,ha,rfl⟩))).1⟩
     rw [(jk j s hj Ol _ (JY.2 (.inl rfl))).1]; exact a1
 · rcases jg j s hs with ⟨rfl,rfl⟩ | ⟨hj,Ol⟩
   · refine ⟨fun e => mk.2 (e ▸ hk),fun a ha e => (ok a ha).2 (e ▸ hk),?_⟩
     cases hq : τ k with
     | none => rfl
     | some u => exact absurd hk (T k u (h.ext _ _ hq) fun hc => by rw [(h.dm j r hr k hc).2.2] at hq; cases hq).2
   · exact h.dm j s Ol k hk
 · rcases jg j s hs with ⟨rfl,rfl⟩ | ⟨hj,Ol⟩
   · exact fun e => c2 a ha e.symm
   · exact h.vb j s Ol a ha
 · rcases jg j s hs with ⟨rfl,rfl⟩ | ⟨hj,JN⟩
   · rcases jg l s' Ol with ⟨rfl,rfl⟩ | ⟨hl,hs2⟩
     · exact absurd rfl hjl
     · exact fun hc => (jk l s' hl hs2 k hc).2 hk
   · rcases jg l s' Ol with ⟨rfl,rfl⟩ | ⟨hl,hs2⟩
     · exact (jk j s hj JN k hk).2
     · exact h.dr j l s s' hjl JN hs2 k hk
 · exact (T k u (h.ext _ _ hk) fun hc => by rw [(h.dm i r hr k hc).2.2] at hk; cases hk).1
end
end TwW
end
section
namespace TwW
open Go Tw Go.RowKit Go.Proofs.Tryz
theorem uj : ∀ w,(zeroValue 200).run prog w = .ok (.pointer none) w := fun w => by
 have h : prog.info? 200 = some t200 := by kernel_rfl
 simp [zeroValue,typeInfo,h]
 rfl
theorem uo : ∀ w,(zeroValue 201).run prog w = .ok .nilFunc w := fun w => by
 have h : prog.info? 201 = some t201 := by kernel_rfl
 simp [zeroValue,typeInfo,h]
 rfl
section
variable {τ σ σ' σ0 : Hp} {R : Rr} {m on oc : Nat} {op : Option Addr} {rs : List GR} {gs : List Rg}
theorem GS.mono (h : GS τ σ m op on oc rs gs) (hx : Ext σ σ') : GS τ σ' m op on oc rs gs :=
 ⟨h.len,h.map.mono hx,h.ord.mono hx,fun i r g hr hg => let ⟨h1,h2,h3⟩ := h.box i r g hr hg; ⟨hx _ _ h1,h2,h3.mono hx⟩,h.om,h.dm,h.vb,h.dr,h.tm,h.ext.trans hx⟩
theorem GS.add {ls : List Lb} {lp : Option Addr} {ln lc : Nat} (h : GS τ σ m op on oc rs gs) (EA : ∀ a ∈ FM gs rs,a.1 ≠ D8 ls) (hr : Dq τ lp ln ls) (j7 : Ao ls) (hon : on ≤ 1000000000000) {Φ : Nat → Option Addr → Nat → Nat → Hp → Prop}
   (hΦ : ∀ b uq oc' σ',GS τ σ' m uq (on + 1) oc' (rs ++ [⟨b,lp,ln,lc,none,0,0⟩]) (gs ++ [⟨ls,[]⟩]) → Φ b uq (on + 1) oc' σ') :
   Al σ fun O7 => Spec prog 49 #[.slice lp ln lc] (Hp.set σ O7 (.cells #[.slice lp ln lc,.slice none 0 0] 189 (0,0))) (AA R (CT fun s56 AH => AK prog (Instr.mapUpdate 197 (.map (some m)) (.string s56) (.pointer (aD O7 0))) AH (fun _ Ac => Al Ac fun uA => AK prog (Builtin.append_ #[198,198] 198 #[.slice op on oc,(.slice (aD uA 0) 1 1)]) (Hp.set Ac uA (.cells #[(.pointer (aD O7 0))] 200 (0,0))) (CS fun p61 n61 c61 EF => Φ O7 p61 n61 c61 EF)))) := fun O7 qC => by
 have x1 := Ext.set (o := .cells #[.slice lp ln lc,.slice none 0 0] 189 (0,0)) qC
 have tb : τ O7 = none := BE h.ext qC
 have ne : ∀ k,σ k ≠ none → ∃ u,σ k = some u := fun k hk => by
   cases hh : σ k with
   | none => exact absurd hh hk
   | some u => exact ⟨u,rfl⟩
 have nem : O7 ≠ m := fun e => h.map.known (by rw [← e]; exact qC)
 have neo : ∀ a,op = some a → O7 ≠ a.block := fun a ha e => h.ord.block a ha (by rw [← e]; exact qC)
 have ncl : ∀ (i : Nat) (r : GR),rs[i]? = some r → O7 ∉ r.cl := fun i r hr hc => by obtain ⟨u,hu⟩ := h.known hr _ hc; rw [qC] at hu; cases hu
 refine Fa (hr.mono Bs.mono (h.ext.trans x1)) j7 fun σ2 A9 => ⟨_,rfl,?_⟩
 have h2 := h.mono (x1.trans A9)
 have c2 := A9 _ _ (Hp.AB σ O7 (.cells #[.slice lp ln lc,.slice none 0 0] 189 (0,0)))
 refine h2.map.put (x := O7) rfl fun o hM => fun uA AIF => ?_
 rw [PL EA] at hM
 have AN1 : BB 1 (σ2.set m o) op on oc (rs.map fun r => .pointer (aD r.b 0)) := BB.of_eq h2.ord fun a ha => Hp.AI (h.om a ha).1
 refine DQ (AN1.mono (.set AIF)) (Wm (f := fun v => v) (x := .pointer (aD O7 0)) (Hp.AB _ _ _)) (fun u hu => by simp at hu; subst hu; rfl) (by omega) fun uq oc' σ5 RD Ud => ⟨_,_,_,rfl,?_⟩
 have T : ∀ k u,(σ2.set m o) k = some u → (∀ a,op = some a → k ≠ a.block) → σ5 k = some u ∧ ∀ a,uq = some a → k ≠ a.block := fun k u hk A5 => by
   obtain ⟨a1,a2⟩ := AR.1 (Ud k u (AR.2 ⟨A5,(Ext.set AIF) _ _ hk⟩))
   exact ⟨a2,a1⟩
 have T2 : ∀ k u,σ2 k = some u → k ≠ m → (∀ a,op = some a → k ≠ a.block) → σ5 k = some u ∧ ∀ a,uq = some a → k ≠ a.block := fun k u hk fx => T k u (by rw [Hp.AI fx]; exact hk)
 have Tr : ∀ (i : Nat) (r : GR),rs[i]? = some r → ∀ k ∈ r.cl,σ5 k = σ2 k ∧ ∀ a,uq = some a → k ≠ a.block := fun i r hr k hk => by
   obtain ⟨u,hu⟩ := h2.known hr k hk
   obtain ⟨d1,d2,_⟩ := h.dm i r hr k hk
   obtain ⟨a1,a2⟩ := T2 k u hu d1 d2
   exact ⟨by rw [a1,hu],a2⟩
 have hm2 : ∃ u,(σ2.set m o) m = some u := ⟨_,Hp.AB _ _ _⟩
 obtain ⟨um,hum⟩ := hm2
 obtain ⟨m1,m2⟩ := T m um hum fun a ha e => (h.om a ha).1 e.symm
 have jg : ∀ (i : Nat) (r : GR),(rs ++ [(⟨O7,lp,ln,lc,none,0,0⟩ : GR)])[i]? = some r → rs[i]? = some r ∨ (i = rs.length ∧ r = ⟨O7,lp,ln,lc,none,0,0⟩) := fun i r hr => by
   rw [List.getElem?_append] at hr
   split at hr
   · exact .inl hr
   · rename_i Aq
     have ur := (List.getElem?_eq_some_iff.1 hr).1
     simp only [List.length_singleton] at ur
     have : i - rs.length = 0 := by omega
     rw [this] at hr
     exact .inr ⟨by omega,by simpa using hr.symm⟩
 have cn : ∀ k,k ∈ (⟨O7,lp,ln,lc,none,0,0⟩ : GR).cl → k = O7 := fun k hk => by
   rcases JY.1 hk with e | ⟨a,ha,_⟩
   · exact e
   · cases ha
 obtain ⟨b1,b2⟩ := T2 O7 _ c2 nem neo
 refine hΦ O7 uq oc' σ5 ⟨by simp [h.len],?_,?_,fun i r g hi hg => ?_,fun a ha => ⟨fun e => m2 a ha e.symm,?_⟩,fun i r hi k hk => ?_,fun i r hi a ha => ?_,fun i j r r' eZ hi hj k hk => ?_,h.tm,fun k u hk => ?_⟩
 · rw [Vg h.len]
   exact hM.loc (by rw [m1,hum])
 · rw [List.map_append]; exact RD
 · rcases jg i r hi with B9 | ⟨rfl,rfl⟩
   · have Aq := (List.getElem?_eq_some_iff.1 B9).1
     rw [List.getElem?_append_left (by rw [← h.len]; exact Aq)] at hg
     obtain ⟨a1,a2,a3⟩ := h2.box i r g B9 hg
     refine ⟨?_,a2,BB.of_eq a3 fun a ha => (Tr i r B9 _ (JY.2 (.inr ⟨a,ha,rfl⟩))).1⟩
     rw [(Tr i r B9 _ (JY.2 (.inl rfl))).1]; exact a1
   · rw [h.len,List.getElem?_append_right (Nat.le_refl _),Nat.sub_self] at hg
     simp only [List.getElem?_cons_zero,Option.some.injEq] at hg
     subst hg
     exact ⟨b1,hr,D0.nil⟩
 · cases hq : τ a.block with
   | none => rfl
   | some u =>
     obtain ⟨_,e2⟩ := T2 a.block u (h2.ext _ _ hq) (fun e => by rw [e,h.tm] at hq; cases hq) (fun a' au e => by rw [e,(h.om a' au).2] at hq; cases hq)
     exact absurd rfl (e2 a ha)
 · rcases jg i r hi with B9 | ⟨rfl,rfl⟩
   · exact ⟨(h.dm i r B9 k hk).1,(Tr i r B9 k hk).2,(h.dm i r B9 k hk).2.2⟩
   · rw [cn k hk]; exact ⟨nem,b2,tb⟩
 · rcases jg i r hi with B9 | ⟨rfl,rfl⟩
   · exact h.vb i r B9 a ha
   · cases ha
 · rcases jg i r hi with B9 | ⟨rfl,rfl⟩
   · rcases jg j r' hj with RR | ⟨rfl,rfl⟩
     · exact h.dr i j r r' eZ B9 RR k hk
     · exact fun hc => ncl i r B9 (by rw [← cn k hc]; exact hk)
   · rcases jg j r' hj with RR | ⟨rfl,rfl⟩
     · exact fun hc => ncl j r' RR (by rw [← cn k hk]; exact hc)
     · exact absurd rfl eZ
 · exact (T2 k u (h2.ext _ _ hk) (fun e => by rw [e,h.tm] at hk; cases hk) (fun a ha e => by rw [e,(h.om a ha).2] at hk; cases hk)).1
end
end TwW
end
section
namespace TwW
open Go Tw Go.RowKit Go.Proofs.Tryz
def PG (B : Nat) (gs : List Rg) : Prop := ∀ g ∈ gs,0 < g.vs.length ∧ g.vs.length ≤ B ∧ Ao g.ls
theorem gK {B : Nat} {ls : List Lb} {v : Int} (hs : Ao ls) : ∀ {gs : List Rg},PG B gs → PG (B + 1) (IW ls v gs)
 | [],_ => fun g hg => by
   unfold IW at hg
   rw [List.mem_singleton] at hg
   subst hg
   exact ⟨by simp,by simp,hs⟩
 | a :: gs,h => fun g hg => by
   have ha := h a (by simp)
   unfold IW at hg
   split at hg
   · rcases List.mem_cons.1 hg with rfl | hg
     · exact ⟨by simp,by simp; omega,ha.2.2⟩
     · have := h g (List.mem_cons_of_mem _ hg)
       exact ⟨this.1,by omega,this.2.2⟩
   · rcases List.mem_cons.1 hg with rfl | hg
     · exact ⟨ha.1,by omega,ha.2.2⟩
     · exact gK hs (fun g hg => h g (List.mem_cons_of_mem _ hg)) g hg
theorem Zm {ls : List Lb} {v : Int} : ∀ {gs : List Rg},(IW ls v gs).length ≤ gs.length + 1
 | [] => by simp [IW]
 | a :: gs => by
   unfold IW
   split
   · simp
   · have := Zm (ls := ls) (v := v) (gs := gs)
     simp only [List.length_cons]; omega
def W1 (n : Nd) (l : List El) : List Rg := l.foldl (fun gs x => IW (EL n x.ls) x.v gs) []
theorem Ao.group {n : Nd} {ls : List Lb} (h : Ao ls) : Ao (EL n ls) := by
 unfold EL VT BF TQ
 split
 · exact h.filter _
 · split
   · exact (h.filter _).filter _
   · exact ⟨by decide,fun x hx => by cases hx⟩
theorem qD {n : Nd} {l : List El} (hs : ∀ e ∈ l,Ao e.ls) : ∀ k,k ≤ l.length → PG k (W1 n (l.take k)) ∧ (W1 n (l.take k)).length ≤ k := fun k => by
 induction k with
 | zero => intro _; exact ⟨fun g hg => by simp [W1] at hg,by simp [W1]⟩
 | succ k ih =>
   intro hk
   obtain ⟨h1,h2⟩ := ih (by omega)
   have hx : l[k]? = some l[k] := List.getElem?_eq_getElem _
   have e : W1 n (l.take (k + 1)) = IW (EL n l[k].ls) l[k].v (W1 n (l.take k)) := by unfold W1; rw [Aa hx,List.foldl_append]; rfl
   rw [e]
   exact ⟨gK (hs _ (List.getElem_mem _)).group h1,by have := Zm (ls := EL n l[k].ls) (v := l[k].v) (gs := W1 n (l.take k)); omega⟩
section
variable {τ σ σ' σ0 : Hp} {R : Rr}
theorem GS.empty {mb : Nat} (h : σ mb = none) : GS σ (σ.set mb (.map #[] 0)) mb none 0 0 [] [] :=
 ⟨rfl,MS.fresh,BB.nil,fun i r g hi => (by simp at hi),fun a ha => (by cases ha),fun i r hi => (by simp at hi),fun i r hi => (by simp at hi),fun i j r r' _ hi => (by simp at hi),h,.set h⟩
theorem jh {op : Int} {f : Nat} {p : Option Addr} {n c : Nat} {vs : List Int} {rj : Value} (Jd : (op = 1 ∧ rj = .func (.func 151) #[] #[]) ∨ (op = 2 ∧ rj = .func (.func 152) #[] #[]) ∨ (op = 3 ∧ rj = .func (.func 153) #[] #[]) ∨ (op = 4 ∧ rj = .func (.func 154) #[] #[]) ∨ (op = 5 ∧ rj = .func (.func 155) #[] #[]))
   (hr : FJ .u64 σ p n vs) (h0 : 0 < n) (hc : n ≤ c) (h : R (.returned (.int .u64 (foldI op vs))) σ) : ∃ (f95 : Nat) (ZH ZI : Array Value),rj = .func (.func f95) ZH ZI ∧ Enters prog f95 ∧ Spec prog f95 (ZH ++ #[.slice p n c] ++ ZI) σ R := by
 have hl : vs.length = n := hr.1
 unfold foldI at h
 rcases Jd with ⟨rfl,rfl⟩ | ⟨rfl,rfl⟩ | ⟨rfl,rfl⟩ | ⟨rfl,rfl⟩ | ⟨rfl,rfl⟩
 · exact ⟨_,#[],#[],rfl,F0.en,TX hr h0 hc h⟩
 · exact ⟨_,#[],#[],rfl,HB.en,TY hr h0 hc h⟩
 · exact ⟨_,#[],#[],rfl,D2.en,Mq hr h0 hc h⟩
 · exact ⟨_,#[],#[],rfl,Ex.en,OD hr h0 hc (by rw [← hl]; exact h)⟩
 · exact ⟨_,#[],#[],rfl,G5.en,NJ (by rw [← hl]; exact h)⟩
theorem qE {n : Nd} {p q a l : Option Addr} {k c m d j e : Nat} {L : List Vv} {x : Vv} (hs : FC 1 σ q m (n.names.map .string)) (hr : Ab 4 NH σ l j L) (hx : L[0]? = some x) (hV : jc x) (Jd : 1 ≤ n.op ∧ n.op ≤ 5)
   (h : Ig R σ ((Ca FF (cz FF n x)).map fun l => ⟨2,0,l,[]⟩)) : Spec prog 104 #[.pointer a,MZ n p k c q m d,.slice l j e] σ R := by
 have hj : 0 < j := by have h1 : L.length = j := hr.1; have := (List.getElem?_eq_some_iff.1 hx).1; omega
 obtain ⟨b,o,pv,nv,cv,qv,mv,dv,rfl,h1,h2,h3,h4,h5,h6⟩ := NH.at hr hx
 simp only [Nat.zero_mul,Nat.add_zero] at h1 h2 h3 h4
 have hl : x.vec.length = nv := h5.1
 have hlen := hV.len
 have j7 := fun z hz => (hV.el z hz).1
 have Cz := qD (n := n) j7
 have hA : cz FF n x = (W1 n x.vec).map fun g => ⟨g.ls,foldI n.op g.vs⟩ := rfl
 rw [hA] at h
 refine AO.start fun _ _ => EW fun mb pS => ⟨mb,rfl,b,o,rfl,by omega,pv,nv,cv,(Ext.set pS).ld h3,?_⟩
 have last : ∀ τ σ' op on oc rs,GS τ σ' mb op on oc rs (W1 n x.vec) → Ext σ τ → AO.FI R n.kind n.op n.text p k c n.width n.back n.Ec q m d n.bool n.parts 0 0 none 0 0 none 0 0 (some mb) op on oc pv nv cv nv nv σ' := fun τ σ' op on oc rs hG CO => by
   obtain ⟨hPG,hgl⟩ := Cz nv (by omega)
   rw [List.take_of_length_le (by omega)] at hPG hgl
   refine AO.Fg ⟨fun Aq => by omega,fun _ => EW fun mf hmf => ⟨mf,rfl,?_⟩⟩
   refine (pR.fresh hmf).put (by simp) fun s1 t1 => t1.put (by simp) fun s2 t2 => t2.put (by simp) fun s3 t3 => t3.put (by simp) fun s4 t4 => t4.put (by simp) fun s5 t5 => ?_
   have yG := hG.mono t5.1
   have hml := t5.2.2
   simp only [List.nil_append,List.cons_append] at hml
   refine hml.look uo (fun EA => ?_) fun v hv => ⟨v,rfl,?_⟩
   · exfalso
     simp only [List.mem_cons,List.not_mem_nil,or_false,forall_eq_or_imp,forall_eq] at EA
     obtain ⟨a1,a2,a3,a4,a5⟩ := EA
     omega
   have hv' : (n.op = 1 ∧ v = .func (.func 151) #[] #[]) ∨ (n.op = 2 ∧ v = .func (.func 152) #[] #[]) ∨ (n.op = 3 ∧ v = .func (.func 153) #[] #[]) ∨ (n.op = 4 ∧ v = .func (.func 154) #[] #[]) ∨ (n.op = 5 ∧ v = .func (.func 155) #[] #[]) := by
     simpa only [List.mem_cons,List.not_mem_nil,or_false,Prod.mk.injEq] using hv
   replace h := h.jX (CO.trans yG.ext)
   have hon : rs.length = on := by have := yG.ord.1; simpa using this
   have hgn := yG.len
   generalize W1 n x.vec = gs at *
   clear hml t1 t2 t3 t4 t5 hv hG
   suffices H : ∀ g i : Nat,∀ p8 n8 c8 σ2 oq,(0 < on → oq = op) → on - i = g → i ≤ on → AW 2 CC s5 σ2 p8 n8 c8 ((gs.take i).map fun g => ⟨g.ls,foldI n.op g.vs⟩) → AO.uB R 0 0 none 0 0 none 0 0 v p8 n8 c8 oq on oc on i σ2 from H on 0 none 0 0 s5 op (fun _ => rfl) rfl (Nat.zero_le _) (AW.nil (.refl _))
   intro g
   induction g with
   | zero =>
     intro i p8 n8 c8 σ2 oq hoq hg hi ho
     rw [List.take_of_length_le (by omega)] at ho
     have QG := ho.1.1
     rw [List.length_map] at QG
     exact AO.fp ⟨fun Aq => by omega,fun _ => EX ho (by omega) h.Ui⟩
   | succ g ih =>
     intro i p8 n8 c8 σ2 oq hoq hg hi ho
     have B9 : i < on := by omega
     obtain ⟨r,hri⟩ : ∃ r,rs[i]? = some r := ⟨_,List.getElem?_eq_getElem (by omega)⟩
     obtain ⟨y,hy⟩ : ∃ y,gs[i]? = some y := ⟨_,List.getElem?_eq_getElem (by omega)⟩
     obtain ⟨b1,o1,AIH,QN⟩ := FC.at1 yG.ord.rd (k := i) (v := .pointer (aD r.b 0)) (by rw [List.getElem?_map,hri]; rfl)
     obtain ⟨c1,c2,c3⟩ := yG.box i r y hri hy
     have hP := hPG y (List.mem_of_getElem? hy)
     have hvl : y.vs.length = r.vn := by have := c3.1; simpa using this
     have QG := ho.1.1
     rw [List.length_map,List.length_take] at QG
     rw [hoq (by omega),AIH]
     refine AO.fp ⟨fun _ => ⟨b1,o1,rfl,by omega,aD r.b 0,by simpa using ho.up.ld QN,r.b,0,rfl,r.lp,r.ln,r.lc,Ad (ho.up _ _ c1) rfl,r.vp,r.vn,r.vc,Ad (ho.up _ _ c1) rfl,jh (f := 0) hv' (FJ.mono ho.up (D0.rd c3)) (by omega) (BB.cap c3) ⟨_,rfl,Kp.Ho (.refl _),fun b97 AN2 => ?_⟩⟩,fun hh => by omega⟩
     refine AW.el ho ((c2.mono Bs.mono yG.ext).mono Bs.mono ho.2) (by omega) (fun p9 c9 σ3 EB _ => ⟨_,_,_,rfl,by unfold AJ; omega,ih (i + 1) _ _ _ _ _ (fun _ => AIH.symm) (by omega) (by omega) ?_⟩) AN2
     rw [Aa hy,List.map_append]; exact EB
 suffices H : ∀ g i : Nat,∀ τ σ' op on oc rs,nv - i = g → i ≤ nv → GS τ σ' mb op on oc rs (W1 n (x.vec.take i)) → Ext σ τ → AO.FI R n.kind n.op n.text p k c n.width n.back n.Ec q m d n.bool n.parts 0 0 none 0 0 none 0 0 (some mb) op on oc pv nv cv nv i σ' from
   H nv 0 σ _ none 0 0 [] rfl (Nat.zero_le _) (GS.empty pS) (.refl _)
 intro g
 induction g with
 | zero =>
   intro i τ σ' op on oc rs hg hi hG CO
   have RO : i = nv := by omega
   subst RO
   rw [List.take_of_length_le (by omega)] at hG
   exact last τ σ' op on oc rs hG CO
 | succ g ih =>
   intro i τ σ' op on oc rs hg hi hG CO
   have B9 : i < nv := by omega
   obtain ⟨y,hy⟩ := h5.ex B9
   obtain ⟨b1,o1,q1,m1,d1,rfl,QN,GC⟩ := CC.at h5 hy
   have JN := j7 y (List.mem_of_getElem? hy)
   have hX := CO.trans hG.ext
   obtain ⟨hPG,hgl⟩ := Cz i (by omega)
   have av := hG.len
   have eN : W1 n (x.vec.take (i + 1)) = IW (EL n y.ls) y.v (W1 n (x.vec.take i)) := by unfold W1; rw [Aa hy,List.foldl_append]; rfl
   have AII : ∀ τ4 σ4 op4 on4 oc4 rs4 gs4 (i4 : Nat) (r : GR) (t : Rg),GS τ4 σ4 mb op4 on4 oc4 rs4 gs4 → rs4[i4]? = some r → gs4[i4]? = some t → gs4.set i4 ⟨t.ls,t.vs ++ [y.v]⟩ = W1 n (x.vec.take (i + 1)) → t.vs.length ≤ i → Ext σ τ4 → AO.oH R n.kind n.op n.text p k c n.width n.back n.Ec q m d n.bool n.parts 0 0 none 0 0 none 0 0 (some mb) op4 on4 oc4 q1 m1 d1 y.v (aD r.b 0) (aD b1 o1) nv cv nv i σ4 := fun τ4 σ4 op4 on4 oc4 rs4 gs4 i4 r t hG4 hr4 ht4 he hti NV => by
     obtain ⟨c1,c2,c3⟩ := hG4.box i4 r t hr4 ht4
     have hvl : t.vs.length = r.vn := by have := c3.1; simpa using this
     refine AO.uC ⟨r.b,0,rfl,r.vp,r.vn,r.vc,Ad c1 rfl,GS.push (v := y.v) hG4 hr4 ht4 (by omega) (Φ := fun y2 => AJ ((i : Int) + 1) ∧ AO.FI R n.kind n.op n.text p k c n.width n.back n.Ec q m d n.bool n.parts 0 0 none 0 0 none 0 0 (some mb) op4 on4 oc4 (aD b1 o1) nv cv nv ((i : Int) + 1) y2) fun σ5 r' yG => ⟨AL B9 h5.big,ih (i + 1) τ4 σ5 op4 on4 oc4 (rs4.set i4 r') (by omega) (by omega) ?_ NV⟩⟩
     rw [← he]; exact yG
   have ABO : ∀ τ2 σ2 p' n' c',GS τ2 σ2 mb op on oc rs (W1 n (x.vec.take i)) → Ext σ τ2 → Dq τ2 p' n' (EL n y.ls) → AO.J6 R n.kind n.op n.text p k c n.width n.back n.Ec q m d n.bool n.parts 0 0 none 0 0 none 0 0 (some mb) op on oc q1 m1 d1 y.v p' n' c' (aD b1 o1) nv cv nv i σ2 := fun τ2 σ2 p' n' c' hG2 A9 HN => by
     refine AO.Lw (Fa (HN.mono Bs.mono hG2.ext) JN.group fun σ3 C5 => ⟨_,rfl,?_⟩)
     have hG3 := hG2.mono C5
     have hon : rs.length = on := by have := hG3.ord.1; simpa using this
     refine hG3.map.look uj (fun Ga => ⟨none,rfl,fun _ => ?_,fun hh => (by cases hh)⟩) fun v bb AIM hv => ⟨aD bb 0,hv,fun hh => (by cases hh),fun _ => ?_⟩
     · obtain ⟨e1,e2⟩ := Tu (v := y.v) hG3.len Ga
       refine GS.add hG3 e2 HN JN.group (by omega) (Φ := fun O7 p61 n61 c61 EF => AO.oH R n.kind n.op n.text p k c n.width n.back n.Ec q m d n.bool n.parts 0 0 none 0 0 none 0 0 (some mb) p61 n61 c61 q1 m1 d1 y.v (aD O7 0) (aD b1 o1) nv cv nv i EF) fun bb uq oc' σ4 hG4 => ?_
       refine AII τ2 σ4 uq (on + 1) oc' _ _ (W1 n (x.vec.take i)).length ⟨bb,p',n',c',none,0,0⟩ ⟨EL n y.ls,[]⟩ hG4 ?_ ?_ ?_ (Nat.zero_le _) A9
       · rw [← av,List.getElem?_append_right (Nat.le_refl _),Nat.sub_self]; rfl
       · rw [List.getElem?_append_right (Nat.le_refl _),Nat.sub_self]; rfl
       · rw [eN,e1,List.set_append_right _ _ (Nat.le_refl _),Nat.sub_self]; rfl
     · obtain ⟨i4,t,r,a1,a2,a3,a4⟩ := Tt (v := y.v) hG3.len AIM
       subst a3
       exact AII τ2 σ3 op on oc rs _ i4 r t hG3 a2 a1 (by rw [eN,a4]) (hPG t (List.mem_of_getElem? a1)).2.1 A9
   refine AO.Fg ⟨fun _ => ⟨b1,o1,rfl,by omega,q1,m1,d1,y.v,by simpa using QN.mono hX,fun _ => ⟨fun hg1 => Vc (GC.mono Bs.mono hX) (JN.rd GC) (hs.mono hX) fun p' n' c' σ2 HN A9 => ⟨_,_,_,rfl,?_⟩,fun hg1 => ⟨fun jZ => ?_,fun jZ => ABO τ σ' none 0 0 hG CO ?_⟩⟩⟩,fun hh => by omega⟩
   · obtain ⟨τ2,hG2,e1,e2⟩ := hG.grow A9
     exact ABO τ2 σ2 p' n' c' hG2 (CO.trans e1) (by unfold EL; rw [if_pos hg1]; exact HN.mono Bs.mono e2)
   · refine JP (GC.mono Bs.mono hX) (JN.rd GC) (hs.mono hX) fun p' n' c' σ2 Ba A9 => ⟨_,_,_,rfl,?_⟩
     have fH : n' ≤ 1000000 := by
       have h7 := Ba.1
       have h8 := List.length_filter_le (fun x : Lb => !DA x.1 n.names) y.ls
       have h9 := JN.1
       omega
     refine Fb ((Ba.rd Bs.mono).mono Bs.mono (Ext.Cs _ _)) fH fun p3 n3 c3 σ3 dX C5 => ⟨_,_,_,rfl,?_⟩
     obtain ⟨τ2,hG2,e1,e2⟩ := hG.grow (A9.trans C5)
     exact ABO τ2 σ3 p3 n3 c3 hG2 (CO.trans e1) (by unfold EL; rw [if_neg hg1,if_pos jZ]; exact (dX.mono Bs.mono (Ext.Ck A9)).mono Bs.mono e2)
   · unfold EL; rw [if_neg hg1,if_neg jZ]; exact Ab.nil
end
end TwW
end
section
namespace TwW
open Go Tw Go.RowKit Go.Proofs.Tryz
def OH (e : El) : Prop := Ao e.ls ∧ 0 ≤ e.v
def Sh (x : Vv) : Prop := (x.kind = 1 ∧ x.vec = [] ∧ x.Ow = []) ∨ (x.kind = 2 ∧ x.Ow = []) ∨ (x.kind = 3 ∧ x.vec = [])
def EM (x : Vv) : Nat := x.vec.length + x.Ow.length
structure VG (x : Vv) : Prop where
 el : ∀ e ∈ x.vec,OH e
 rg : ∀ r ∈ x.Ow,Ao r.ls ∧ 0 < r.vs.length
 sh : Sh x
theorem W2 (x : Int) : 0 ≤ dF x := Int.natCast_nonneg _
theorem Lg (op a b : Int) : 0 ≤ RF op a b := Int.natCast_nonneg _
theorem Zn {f : Int → Int → Int} (hf : ∀ a b,0 ≤ f a b) : ∀ (l : List Int) (a : Int),0 ≤ a → 0 ≤ l.foldl f a
 | [],a,h => h
 | x :: l,a,h => Zn hf l _ (hf a x)
theorem gL : ∀ vs,0 ≤ Uf vs
 | [] => Int.le_refl _
 | v :: l => Zn (fun a b => Lg 1 a b) l _ (W2 v)
theorem OI (op : Int) : ∀ vs,0 ≤ LY op vs
 | [] => Int.le_refl _
 | v :: l => W2 _
theorem qF (vs : List Int) : 0 ≤ La vs := by
 unfold La
 have : ∀ (l : List (Int × Int)) (a : Int),0 ≤ a → 0 ≤ l.foldl LZ a := fun l => by
   induction l with
   | nil => intro a h; exact h
   | cons x l ih =>
     intro a h
     refine ih _ ?_
     unfold LZ
     split
     · exact Lg _ _ _
     · exact h
 exact this _ _ (Lg _ _ _)
theorem PR (x : Int) : 0 ≤ BN x := Int.natCast_nonneg _
theorem qG (op : Int) (vs : List Int) : 0 ≤ foldI op vs := by
 unfold foldI
 split
 · exact gL _
 · split
   · exact OI _ _
   · split
     · exact OI _ _
     · split
       · exact Lg _ _ _
       · exact PR _
theorem qH {op : Int} {vs : List Int} {w x : Int} (h : Ih op vs w = some x) : 0 ≤ x := by
 unfold Ih at h
 split at h
 · rw [← Option.some.inj h]; exact gL _
 split at h
 · rw [← Option.some.inj h]; exact Lg _ _ _
 split at h
 · rw [← Option.some.inj h]; exact OI _ _
 split at h
 · rw [← Option.some.inj h]; exact OI _ _
 split at h
 · rw [← Option.some.inj h]; exact PR _
 split at h
 · rw [← Option.some.inj h]; exact W2 _
 split at h
 · rw [← Option.some.inj h]; exact Int.natCast_nonneg _
 split at h
 · exact absurd h.symm (Option.some_ne_none _)
 split at h
 · rw [← Option.some.inj h]; exact Lg _ _ _
 split at h
 · rw [← Option.some.inj h]; exact qF _
 · rw [← Option.some.inj h]; exact Lg _ _ _
theorem Tv (op a b : Int) : 0 ≤ (Ii op a b).1 := by
 unfold Ii
 split
 · exact Lg _ _ _
 · show 0 ≤ (if _ then BN 1 else BN 0)
   split <;> exact PR _
theorem MJ {l m : List El} (h : Ca FF l = some m) : m.Perm l := by
 unfold Ca at h
 split at h
 · cases h; exact HI l
 · cases h
theorem gM {l m : List El} (h : Ca FF l = some m) (hl : ∀ e ∈ l,OH e) : (∀ e ∈ m,OH e) ∧ m.length = l.length :=
 ⟨fun e he => hl e ((MJ h).mem_iff.1 he),(MJ h).length_eq⟩
theorem uu {n : Nd} {x : Vv} (hx : VG x) : (∀ e ∈ TR FF n x,OH e) ∧ (TR FF n x).length ≤ EM x := by
 refine ⟨fun e he => ?_,?_⟩
 · rcases List.mem_append.1 he with he | he
   · obtain ⟨y,hy,rfl⟩ := List.mem_map.1 he
     refine ⟨(hx.el y hy).1.bare,?_⟩
     show 0 ≤ (if n.op = 11 then Wq y.v else NI y.v)
     split <;> exact Int.natCast_nonneg _
   · obtain ⟨y,hy,h1⟩ := List.mem_filterMap.1 he
     have h2 : (Ih n.op y.vs x.v).map (fun v => (⟨BF y.ls,v⟩ : El)) = some e := h1
     cases ho : Ih n.op y.vs x.v with
     | none => rw [ho] at h2; cases h2
     | some z =>
       rw [ho] at h2
       simp only [Option.map_some,Option.some.injEq] at h2
       subst h2
       exact ⟨(hx.rg y hy).1.bare,qH ho⟩
 · unfold TR EM
   rw [List.length_append,List.length_map]
   have := List.length_filterMap_le (fun s : Rg => (FF.over n.op s.vs x.v).map fun v => (⟨BF s.ls,v⟩ : El)) x.Ow
   omega
theorem ABP {n : Nd} {x : Vv} (hx : VG x) : (∀ e ∈ cz FF n x,OH e) ∧ (cz FF n x).length ≤ EM x := by
 obtain ⟨h1,h2⟩ := qD (n := n) (fun e he => (hx.el e he).1) x.vec.length (Nat.le_refl _)
 rw [List.take_length] at h1 h2
 have hA : cz FF n x = (W1 n x.vec).map fun g => ⟨g.ls,foldI n.op g.vs⟩ := rfl
 rw [hA]
 refine ⟨fun e he => ?_,by rw [List.length_map]; unfold EM; omega⟩
 obtain ⟨g,hg,rfl⟩ := List.mem_map.1 he
 exact ⟨(h1 g hg).2.2,qG _ _⟩
theorem qI {n : Nd} {l : List El} {f : Int → Int × Bool} (hl : ∀ e ∈ l,OH e) (hf : ∀ v,0 ≤ (f v).1) : (∀ e ∈ TS n l f,OH e) ∧ (TS n l f).length ≤ l.length := by
 refine ⟨fun e he => ?_,List.length_filterMap_le _ _⟩
 obtain ⟨y,hy,h1⟩ := List.mem_filterMap.1 he
 split at h1
 · simp only [Option.some.injEq] at h1
   subst h1
   exact ⟨(hl y hy).1.bare,hf _⟩
 · split at h1
   · simp only [Option.some.injEq] at h1
     subst h1; exact hl y hy
   · cases h1
theorem uw {n : Nd} {x y : List El} (hx : ∀ e ∈ x,OH e) (hy : ∀ e ∈ y,OH e) : (∀ e ∈ E6 n x y,OH e) ∧ (E6 n x y).length ≤ x.length + y.length := by
 unfold E6
 refine ⟨fun e he => ?_,?_⟩
 · rcases List.mem_append.1 he with he | he
   · exact hx e (List.mem_filter.1 he).1
   · exact hy e (List.mem_filter.1 he).1
 · rw [List.length_append]
   exact Nat.add_le_add (List.length_filter_le _ _) (List.length_filter_le _ _)
theorem ux {n : Nd} {x y m : List El} (hx : ∀ e ∈ x,OH e) (h : N8 FF n x y = some m) : (∀ e ∈ m,OH e) ∧ m.length ≤ x.length := by
 unfold N8 at h
 split at h
 · simp only [Option.some.injEq] at h
   subst h
   refine ⟨fun e he => ?_,List.length_filterMap_le _ _⟩
   obtain ⟨z,hz,h1⟩ := List.mem_filterMap.1 he
   split at h1
   · cases h1
   · split at h1
     · simp only [Option.some.injEq] at h1
       subst h1
       exact ⟨(hx z hz).1.Ed,Tv _ _ _⟩
     · split at h1
       · simp only [Option.some.injEq] at h1
         subst h1; exact hx z hz
       · cases h1
 · cases h
theorem NM {l m : List El} (h : Ca FF l = some m) (hl : ∀ e ∈ l,OH e) : VG ⟨2,0,m,[]⟩ ∧ EM ⟨2,0,m,[]⟩ = l.length :=
 ⟨⟨(gM h hl).1,fun r hr => (by cases hr),.inr (.inl ⟨rfl,rfl⟩)⟩,by show m.length + 0 = _; rw [(gM h hl).2]; omega⟩
theorem map_some {α β : Type} {o : Option α} {f : α → β} {y : β} (h : o.map f = some y) : ∃ x,o = some x ∧ f x = y := by
 cases o with
 | none => cases h
 | some x => exact ⟨x,rfl,by simpa using h⟩
theorem gN {n : Nd} {ss : List Sr} {t : Int} {L : List Vv} {v : Vv} (hS : ua ss) (hp : ∀ s ∈ ss,∀ p ∈ s.ps,0 ≤ p.2) (hf : FL n = true) (hT : (Oa n (L.map (·.kind))).2 = 0) (hL : (L.length : Int) = n.parts) (hV : ∀ x ∈ L,VG x) (h : Gb FF ss t n L = some v) :
   VG v ∧ v.kind = (Oa n (L.map (·.kind))).1 ∧ EM v ≤ ss.length + (L.map EM).sum := by
 have DB := Ie hf
 unfold Gb at h
 by_cases h1 : n.kind = 1
 · rw [if_pos h1] at h; cases h
   exact ⟨⟨fun e he => (by cases he),fun r hr => (by cases hr),.inl ⟨rfl,rfl,rfl⟩⟩,by unfold Oa; rw [if_pos h1],Nat.zero_le _⟩
 rw [if_neg h1] at h
 by_cases h2 : n.kind = 2
 · rw [if_pos h2] at h; cases h
   refine ⟨⟨fun e he => ?_,fun r hr => (by cases hr),.inr (.inl ⟨rfl,rfl⟩)⟩,by unfold Oa; rw [if_neg h1,if_pos h2],?_⟩
   · obtain ⟨s,hs,XO⟩ := List.mem_filterMap.1 he
     split at XO
     · cases XO
     · rename_i p AIN
       split at XO
       · cases XO
       · simp only [Option.some.injEq] at XO
         subst XO
         exact ⟨hS.sm s hs,hp s hs p (List.mem_filter.1 (List.mem_of_getLast? AIN)).1⟩
   · show (List.filterMap _ ss).length + 0 ≤ _
     exact Nat.le_trans (Nat.le_of_eq (Nat.add_zero _)) (Nat.le_trans (List.length_filterMap_le _ _) (Nat.le_add_right _ _))
 rw [if_neg h2] at h
 by_cases h3 : n.kind = 3
 · rw [if_pos h3] at h; cases h
   refine ⟨⟨fun e he => (by cases he),fun r hr => ?_,.inr (.inr ⟨rfl,rfl⟩)⟩,by unfold Oa; rw [if_neg h1,if_neg h2,if_pos h3],?_⟩
   · obtain ⟨s,hs,XO⟩ := List.mem_filterMap.1 hr
     dsimp only at XO
     generalize ((F5 s.ps (t - n.back - n.width) (t - n.back)).filter fun p => decide (p.2 ≠ IV)).map Prod.snd = vs at XO
     cases vs with
     | nil => cases XO
     | cons a l =>
       simp only [List.isEmpty_cons,Bool.not_false,Bool.true_and] at XO
       cases kK : FF.ZL n.mt s.ls with
       | false => rw [kK] at XO; cases XO
       | true =>
         rw [kK] at XO
         simp only [cond_true,Option.some.injEq] at XO
         subst XO
         exact ⟨hS.sm s hs,by simp⟩
   · show 0 + (List.filterMap _ ss).length ≤ _
     exact Nat.le_trans (Nat.le_of_eq (Nat.zero_add _)) (Nat.le_trans (List.length_filterMap_le _ _) (Nat.le_add_right _ _))
 rw [if_neg h3] at h
 unfold GB at DB
 rw [if_neg h1,if_neg h2,if_neg h3] at DB
 by_cases h4 : n.kind = 4
 · rw [if_pos h4] at DB
   have dZ := (of_decide_eq_true DB).1
   match L,hL with
   | [x],_ =>
     have hx := hV x (by simp)
     dsimp only at h
     rw [if_pos h4] at h
     obtain ⟨m,hm,rfl⟩ := map_some h
     obtain ⟨c1,c2⟩ := uu (n := n) hx
     obtain ⟨d1,d2⟩ := NM hm c1
     refine ⟨d1,?_,by rw [d2]; simp; omega⟩
     unfold Oa at hT ⊢
     rw [if_neg h1,if_neg h2,if_neg h3,if_pos h4] at hT ⊢
     unfold Za at hT ⊢
     by_cases hc : ([x].map (·.kind))[0]?.getD 0 = (if n.op = 11 ∨ n.op = 12 then 2 else 3)
     · rw [if_pos hc]
     · rw [if_neg hc] at hT; exact absurd hT (by decide)
   | [],hL => simp at hL; omega
   | _ :: _ :: _,hL => simp at hL; omega
 rw [if_neg h4] at DB
 by_cases h5 : n.kind = 5
 · rw [if_pos h5] at DB
   have dZ := (of_decide_eq_true DB).1
   match L,hL with
   | [x],_ =>
     have hx := hV x (by simp)
     dsimp only at h
     rw [if_neg h4,if_pos h5] at h
     obtain ⟨m,hm,rfl⟩ := map_some h
     obtain ⟨c1,c2⟩ := ABP (n := n) hx
     obtain ⟨d1,d2⟩ := NM hm c1
     refine ⟨d1,?_,by rw [d2]; simp; omega⟩
     unfold Oa at hT ⊢
     rw [if_neg h1,if_neg h2,if_neg h3,if_neg h4,if_pos h5] at hT ⊢
     unfold gE at hT ⊢
     by_cases hc : ([x].map (·.kind))[0]?.getD 0 = 2
     · rw [if_pos hc]
     · rw [if_neg hc] at hT; exact absurd hT (by decide)
   | [],hL => simp at hL; omega
   | _ :: _ :: _,hL => simp at hL; omega
 rw [if_neg h5] at DB
 by_cases h6 : n.kind = 6
 · rw [if_pos h6,Bool.and_eq_true] at DB
   have dZ := (of_decide_eq_true DB.1).1
   match L,hL with
   | [x,y],_ =>
     have hx := hV x (by simp)
     have hy := hV y (by simp)
     dsimp only at h
     rw [if_pos h6] at h
     have hTy : (Oa n ([x,y].map (·.kind))) = jO n x.kind y.kind := by unfold Oa; rw [if_neg h1,if_neg h2,if_neg h3,if_neg h4,if_neg h5,if_pos h6]; rfl
     rw [hTy] at hT ⊢
     unfold jO at hT ⊢
     split at hT
     · cases hT
     · rename_i EA
       rw [if_neg EA]
       simp only [not_or] at EA
       have sx := hx.sh
       have sy := hy.sh
       unfold ZN at h
       have hvx : EM x + EM y = ([x,y].map EM).sum := by simp
       rw [← hvx]
       split at h
       · rename_i hk
         cases h
         exact ⟨⟨fun e he => (by cases he),fun r hr => (by cases hr),.inl ⟨rfl,rfl,rfl⟩⟩,by simp [hk.1,hk.2],Nat.zero_le _⟩
       · rename_i hk
         obtain ⟨m,hm,rfl⟩ := map_some h
         have AIO : (2 : Int) = (if x.kind < y.kind then y.kind else x.kind) := by
           unfold Sh at sx sy
           split <;> omega
         refine (fun hh : VG ⟨2,0,m,[]⟩ ∧ EM ⟨2,0,m,[]⟩ ≤ EM x + EM y => ⟨hh.1,AIO,by have := hh.2; omega⟩) ?_
         split at hm
         · obtain ⟨c1,c2⟩ := qI (n := n) (f := FF.N7 n.op x.v) hy.el (fun v => Tv _ _ _)
           obtain ⟨d1,d2⟩ := NM (show Ca FF (TS n y.vec (FF.N7 n.op x.v)) = some m from hm) c1
           exact ⟨d1,by rw [d2]; unfold EM; omega⟩
         · split at hm
           · obtain ⟨c1,c2⟩ := qI (n := n) (f := fun v => FF.N7 n.op v y.v) hx.el (fun v => Tv _ _ _)
             obtain ⟨d1,d2⟩ := NM (show Ca FF (TS n x.vec fun v => FF.N7 n.op v y.v) = some m from hm) c1
             exact ⟨d1,by rw [d2]; unfold EM; omega⟩
           · split at hm
             · obtain ⟨c1,c2⟩ := uw (n := n) hx.el hy.el
               obtain ⟨d1,d2⟩ := NM (show Ca FF (E6 n x.vec y.vec) = some m from hm) c1
               exact ⟨d1,by rw [d2]; unfold EM; omega⟩
             · cases hq : N8 FF n x.vec y.vec with
               | none => rw [hq] at hm; cases hm
               | some w =>
                 rw [hq] at hm
                 obtain ⟨c1,c2⟩ := ux hx.el hq
                 obtain ⟨d1,d2⟩ := NM (show Ca FF w = some m from hm) c1
                 exact ⟨d1,by rw [d2]; unfold EM; omega⟩
   | [],hL => simp at hL; omega
   | [_],hL => simp at hL; omega
   | _ :: _ :: _ :: _,hL => simp at hL; omega
 rw [if_neg h6] at DB
 have h7 := (of_decide_eq_true DB).1
 have dZ := (of_decide_eq_true DB).2
 match L,hL with
 | [x],_ =>
   have hx := hV x (by simp)
   dsimp only at h
   rw [if_neg h4,if_neg h5,if_pos h7] at h
   have hTy : (Oa n ([x].map (·.kind))) = pP x.kind := by unfold Oa; rw [if_neg h1,if_neg h2,if_neg h3,if_neg h4,if_neg h5,if_neg h6]; rfl
   rw [hTy] at hT ⊢
   unfold pP at hT ⊢
   have sx := hx.sh
   unfold Sh at sx
   split at hT
   · cases hT
   · rename_i EA
     rw [if_neg EA]
     unfold jD at h
     split at h
     · rename_i hk
       cases h
       exact ⟨⟨fun e he => (by cases he),fun r hr => (by cases hr),.inl ⟨rfl,rfl,rfl⟩⟩,hk.symm,Nat.zero_le _⟩
     · obtain ⟨m,hm,rfl⟩ := map_some h
       have c1 : ∀ e ∈ x.vec.map (fun x => (⟨BF x.ls,FF.pA x.v⟩ : El)),OH e := fun e he => by
         obtain ⟨y,hy,rfl⟩ := List.mem_map.1 he
         exact ⟨(hx.el y hy).1.bare,W2 _⟩
       obtain ⟨d1,d2⟩ := NM hm c1
       refine ⟨d1,by show (2 : Int) = x.kind; omega,by rw [d2,List.length_map]; simp [EM]; omega⟩
 | [],hL => simp at hL; omega
 | _ :: _ :: _,hL => simp at hL; omega
end TwW
end
section
namespace TwW
open Go Tw Go.RowKit Go.Proofs.Tryz
theorem Zo {n : Nd} (ht : FL n = true) : 0 ≤ n.parts := by
 have DB := Ie ht
 unfold GB at DB
 have hp := PM ht
 by_cases h1 : n.kind = 1
 · unfold GU BO at hp; simp [h1] at hp; omega
 by_cases h2 : n.kind = 2
 · unfold GU BO at hp; simp [h2] at hp; omega
 by_cases h3 : n.kind = 3
 · unfold GU BO at hp; simp [h3] at hp; omega
 rw [if_neg h1,if_neg h2,if_neg h3] at DB
 split at DB
 · simp at DB; omega
 · split at DB
   · simp at DB; omega
   · split at DB
     · simp at DB; omega
     · simp at DB; omega
theorem gO {n : Nd} {ty : List Int} (h : (BS n ty).1 = 0) : FL n = true ∧ n.parts ≤ ty.length ∧ HJ CD n.mt = 0 ∧ (Oa n (ty.drop (ty.length - n.parts.toNat))).2 = 0 ∧ (BS n ty).2 = ty.take (ty.length - n.parts.toNat) ++ [(Oa n (ty.drop (ty.length - n.parts.toNat))).1] := by
 unfold BS at h ⊢
 split at h
 · exact absurd h (by dsimp only; decide)
 · rename_i h1
   split at h
   · exact absurd h (by dsimp only; decide)
   · rename_i h2
     simp only [not_or] at h1
     rw [if_neg (by simp only [not_or]; exact h1),if_neg h2]
     exact ⟨by simpa using h1.1,by omega,Decidable.not_not.1 h2,h,rfl⟩
theorem gP {n : Nd} (hf : FL n = true) (hm : HJ CD n.mt = 0) (hk : n.kind = 2 ∨ n.kind = 3) : ABD n := by
 have DB := Ie hf
 have hp := PM hf
 have hmt : n.mt.all dL = true := by
   unfold HJ at hm
   split at hm
   · exact absurd hm (by decide)
   · cases ha : n.mt.all dL with
     | true => rfl
     | false =>
       have : (if n.mt.all dL = true then (0 : Int) else 40) = 0 := hm
       rw [ha] at this; exact absurd this (by decide)
 have hx : ∀ x ∈ n.mt,dL x = true := List.all_eq_true.1 hmt
 have hbw : (0 ≤ n.back ∧ n.back < 2147483648) ∧ (0 ≤ n.width ∧ n.width < 2147483648) := by
   unfold GB at DB
   rcases hk with hk | hk
   · rw [if_neg (by omega),if_pos hk] at DB
     unfold Mp at DB
     simp only [Bool.and_eq_true,decide_eq_true_eq] at DB
     unfold GU BO at hp
     simp [hk] at hp
     omega
   · rw [if_neg (by omega),if_neg (by omega),if_pos hk] at DB
     unfold Mp at DB
     simp only [Bool.and_eq_true,decide_eq_true_eq] at DB
     omega
 refine ⟨fun x rq => ?_,fun x rq => ?_,hbw.1,hbw.2⟩
 · have := hx x rq
   unfold dL at this
   simp only [Bool.and_eq_true,decide_eq_true_eq] at this
   exact this.1.1
 · have := hx x rq
   unfold dL at this
   simp only [Bool.and_eq_true,decide_eq_true_eq] at this
   omega
def uy : List Nat := [100,101,102,103,104,105,106]
structure rv (ss : List Sr) : Prop where
 ok : ua ss
 nn : ∀ s ∈ ss,∀ p ∈ s.ps,0 ≤ p.2
 pl : ∀ s ∈ ss,s.ps.length ≤ 1000000000
section
variable {ρ σ σ' σ0 : Hp} {R : Rr}
theorem ji {n : Nd} {p q l : Option Addr} {k c m d j e ab : Nat} {ss : List Sr} {t : Int} {L : List Vv} (hA : QF ρ ab ss t) (hg : Gl ρ) (hm : Ab 3 OZ ρ p k n.mt) (hs : FC 1 ρ q m (n.names.map .string)) (hf : FL n = true) (hmt : HJ CD n.mt = 0)
   (hT : (Oa n (L.map (·.kind))).2 = 0) (hL : (L.length : Int) = n.parts) (hV : ∀ x ∈ L,VG x) (hlen : ∀ x ∈ L,EM x ≤ 100000000000) (hr : Ab 4 NH ρ l j L) (hS : rv ss) (ht : -4611686018427387904 ≤ t ∧ t ≤ 4611686018427387904) (h : Ig R ρ (Gb FF ss t n L)) :
   ∃ f,1 ≤ n.kind ∧ n.kind ≤ 7 ∧ uy[n.kind.toNat - 1]? = some f ∧ Enters prog f ∧ Spec prog f #[.pointer (some ⟨ab,0,none⟩),MZ n p k c q m d,.slice l j e] ρ R := by
 have DB := Ie hf
 have vok : ∀ x ∈ L,jc x := fun x hx => ⟨(hV x hx).el,(hV x hx).rg,hlen x hx⟩
 unfold Gb at h
 by_cases h1 : n.kind = 1
 · rw [if_pos h1] at h
   refine ⟨_,by omega,by omega,by rw [h1]; rfl,B4.en,OG hg ?_ h⟩
   unfold GB at DB; rw [if_pos h1] at DB; exact DB
 rw [if_neg h1] at h
 by_cases h2 : n.kind = 2
 · rw [if_pos h2] at h
   exact ⟨_,by omega,by omega,by rw [h2]; rfl,Ae.en,Zl hA hg hm hS.ok (gP hf hmt (.inl h2)) ht h⟩
 rw [if_neg h2] at h
 by_cases h3 : n.kind = 3
 · rw [if_pos h3] at h
   exact ⟨_,by omega,by omega,by rw [h3]; rfl,AQ.en,dW hA hg hm hS.ok (gP hf hmt (.inr h3)) ht hS.pl h⟩
 rw [if_neg h3] at h
 unfold GB at DB
 rw [if_neg h1,if_neg h2,if_neg h3] at DB
 by_cases h4 : n.kind = 4
 · rw [if_pos h4] at DB
   obtain ⟨dZ,br,Ba⟩ := of_decide_eq_true DB
   match L,hL with
   | [x],_ =>
     have hx := hV x (by simp)
     dsimp only at h
     rw [if_pos h4] at h
     have sx := hx.sh
     unfold Sh at sx
     unfold Oa at hT
     rw [if_neg h1,if_neg h2,if_neg h3,if_pos h4] at hT
     unfold Za at hT
     have hc : x.kind = (if n.op = 11 ∨ n.op = 12 then 2 else 3) := by
       by_cases hc : ([x].map (·.kind))[0]?.getD 0 = (if n.op = 11 ∨ n.op = 12 then 2 else 3)
       · exact hc
       · rw [if_neg hc] at hT; exact absurd hT (by decide)
     refine ⟨_,by omega,by omega,by rw [h4]; rfl,AU.en,jd hr rfl (vok x (by simp)) (fun A5 => ?_) (fun A5 => ?_) h⟩
     · rcases sx with ⟨_,h9,_⟩ | ⟨h9,_⟩ | ⟨h9,h8⟩
       · exact absurd h9 A5
       · rw [h9] at hc
         split at hc
         · assumption
         · omega
       · exact absurd h8 A5
     · rcases sx with ⟨_,_,h9⟩ | ⟨h9,h8⟩ | ⟨h9,_⟩
       · exact absurd h9 A5
       · exact absurd h8 A5
       · rw [h9] at hc
         split at hc
         · omega
         · omega
   | [],hL => simp at hL; omega
   | _ :: _ :: _,hL => simp at hL; omega
 rw [if_neg h4] at DB
 by_cases h5 : n.kind = 5
 · rw [if_pos h5] at DB
   obtain ⟨dZ,br,Ba,_⟩ := of_decide_eq_true DB
   match L,hL with
   | [x],_ =>
     dsimp only at h
     rw [if_neg h4,if_pos h5] at h
     exact ⟨_,by omega,by omega,by rw [h5]; rfl,AO.en,qE hs hr rfl (vok x (by simp)) ⟨br,Ba⟩ h⟩
   | [],hL => simp at hL; omega
   | _ :: _ :: _,hL => simp at hL; omega
 rw [if_neg h5] at DB
 by_cases h6 : n.kind = 6
 · rw [if_pos h6,Bool.and_eq_true] at DB
   have dZ := (of_decide_eq_true DB.1).1
   match L,hL with
   | [x,y],_ =>
     dsimp only at h
     rw [if_pos h6] at h
     exact ⟨_,by omega,by omega,by rw [h6]; rfl,DM.en,qA hs hr rfl rfl (vok x (by simp)) (vok y (by simp)) h⟩
   | [],hL => simp at hL; omega
   | [_],hL => simp at hL; omega
   | _ :: _ :: _ :: _,hL => simp at hL; omega
 rw [if_neg h6] at DB
 have h7 := (of_decide_eq_true DB).1
 have dZ := (of_decide_eq_true DB).2
 match L,hL with
 | [x],_ =>
   dsimp only at h
   rw [if_neg h4,if_neg h5,if_pos h7] at h
   exact ⟨_,by omega,by omega,by rw [h7]; rfl,BJ.en,pq hr rfl (vok x (by simp)) h⟩
 | [],hL => simp at hL; omega
 | _ :: _ :: _,hL => simp at hL; omega
end
end TwW
end
section
namespace TwW
open Go Tw Go.RowKit Go.Proofs.Tryz
theorem Spec.ABQ {P : Program} {f : FuncId} {args : Array Value} {σ : Hp} {p : Option Addr} {R : Rr} (hk : ∀ a,p = some a → ∃ o,σ a.block = some o)
   (h : Spec P f args (σ.del p) (fun e τ' => ∀ σ',(∀ a,p = some a → σ' a.block = σ a.block) → σ'.del p = τ' → R e σ')) : Spec P f args σ R := by
 cases p with
 | none => exact h.mono fun e τ' hh => hh τ' (fun a ha => by cases ha) rfl
 | some a =>
   obtain ⟨o,ho⟩ := hk a rfl
   have e1 : (σ.del (some a)).set a.block o = σ := by
     funext k
     by_cases kN : k = a.block
     · subst kN; rw [Hp.AB,ho]
     · rw [Hp.AI kN]; simp [Hp.del,kN]
   have e2 : (σ.del (some a)) a.block = none := by simp [Hp.del]
   rw [← e1]
   refine Spec.Ap e2 (h.mono fun e τ' hh hn => hh _ (fun a' au => by cases au; rw [Hp.AB,ho]) ?_)
   funext k
   by_cases kN : k = a.block
   · subst kN; simp [Hp.del,hn]
   · simp [Hp.del,kN,Hp.set]
theorem FC.sub {s : Nat} {σ : Hp} {p : Option Addr} {n c i m : Nat} {cs : List Value} (h : FC s σ p n cs) (him : i + m ≤ n) (hc : n ≤ c) : FC s σ (Ir p i c s) m ((cs.drop (i * s)).take (m * s)) := by
 obtain ⟨h2,h3,h4⟩ := h
 have hle : i * s + m * s ≤ n * s := by rw [← Nat.add_mul]; exact Nat.mul_le_mul_right _ him
 refine ⟨by rw [List.length_take,List.length_drop]; omega,by omega,?_⟩
 rcases Nat.eq_zero_or_pos m with hm | hm
 · exact .inl hm
 · rcases h4 with h4 | ⟨b,o,rfl,h4⟩
   · omega
   · refine .inr ⟨b,o + i * s,?_,h4.part⟩
     unfold Ir
     rw [if_neg (by omega)]
     simp [Bt]
theorem NH.one (σ : Hp) (vs : List Value) (x : Vv) (h : NH σ vs x) : Gd vs := by
 obtain ⟨p,n,c,q,m,d,rfl,_⟩ := h
 intro u hu
 simp only [List.mem_cons,List.not_mem_nil,or_false] at hu
 rcases hu with rfl | rfl | rfl | rfl <;> rfl
theorem AW.take {α : Type} {s : Nat} {E : Hp → List Value → α → Prop} {σ0 σ : Hp} {p : Option Addr} {n c m : Nat} {xs : List α} (h : AW s E σ0 σ p n c xs) (hm : m ≤ n) : AW s E σ0 σ p m c (xs.take m) := by
 obtain ⟨⟨hl,cs,ho,hc⟩,hx⟩ := h
 exact ⟨⟨by rw [List.length_take]; omega,_,BB.take ho hm,hc.take m⟩,hx⟩
section
variable {σ σ' σ0 : Hp} {R : Rr}
theorem PS {p7 q : Option Addr} {j d b : Nat} {cs : List Value} {L : List Vv} {Φ : Value → Hp → Prop} (NU : FC 4 σ q j cs) (hc : Ch 4 NH (σ.del p7) cs L) (hp7 : ∀ a,p7 = some a → σ a.block ≠ none) (hn : σ b = none) (hj : j ≤ 1000000000)
   (hΦ : ∀ p' c' y,Ab 4 NH (y.del p7) p' j L → Ext σ y → Φ (.slice p' j c') y) : AK prog (Builtin.append_ #[136,136] 136 #[.slice (some ⟨b,0,none⟩) 0 0,.slice q j d]) (σ.set b (.cells #[] 93 (0,0))) Φ := by
 have hx := Ext.set (o := .cells #[] 93 (0,0)) hn
 refine DQ BB.empty (NU.mono hx) (Ch.ki NH.one hc (by decide)) (by omega) fun p' c' y Bg JO => ?_
 have hq : ∀ a : Addr,(some (⟨b,0,none⟩ : Addr)) = some a → σ a.block = none := fun a ha => by cases ha; exact hn
 rw [Nat.zero_add] at Bg ⊢
 rw [List.nil_append] at Bg
 have hXY : Ext σ y := I0 hq JO hx
 have uQ : ∀ a,p' = some a → σ a.block = none := FP hq JO hx
 refine hΦ p' c' y ⟨?_,cs,BB.rd (BB.pd Bg fun a ha a' au e => hp7 a' au (by rw [← e]; exact uQ a ha)),hc.mono NH.mono (hXY.del _)⟩ hXY
 have := hc.1
 have := NU.1
 omega
theorem gQ {α : Type} {f : α → Nat} : ∀ {l : List α} {y : α},y ∈ l → f y ≤ (l.map f).sum
 | a :: l,y,h => by
   rw [List.map_cons,List.sum_cons]
   rcases List.mem_cons.1 h with rfl | h
   · omega
   · have := gQ (f := f) h
     omega
structure uz (R : Rr) (σ : Hp) (X : Option Vv) : Prop where
 ok : ∀ x σ' p n c q m d,X = some x → Ext σ σ' → Ab 2 CC σ' p n x.vec → Ab 2 TU σ' q m x.Ow → R (.returned (.tuple #[.agg #[.int .i64 x.kind,.int .u64 x.v,.slice p n c,.slice q m d],.int .i64 0])) σ'
 no : X = none → ∀ σ',Ext σ σ' → R (.returned (.tuple #[.agg #[.int .i64 0,.int .u64 0,.slice none 0 0,.slice none 0 0],.int .i64 223])) σ'
theorem uz.jX {X : Option Vv} (h : uz R σ X) (hx : Ext σ σ') : uz R σ' X := ⟨fun x σ2 p n c q m d h0 h1 h2 h3 => h.ok x σ2 p n c q m d h0 (hx.trans h1) h2 h3,fun h0 σ2 h1 => h.no h0 σ2 (hx.trans h1)⟩
theorem ABR {i f : Nat} (h : uy[i]? = some f) : Enters prog f := by
 have Aq : i < 7 := (List.getElem?_eq_some_iff.1 h).1
 match i,h with
 | 0,h => cases h; exact B4.en
 | 1,h => cases h; exact Ae.en
 | 2,h => cases h; exact AQ.en
 | 3,h => cases h; exact AU.en
 | 4,h => cases h; exact AO.en
 | 5,h => cases h; exact DM.en
 | 6,h => cases h; exact BJ.en
abbrev AIQ : Obj := .cells #[.int .i64 0,.int .u64 0,.slice none 0 0,.slice none 0 0] 93 (0,0)
theorem qJ {ab n c : Nat} {p : Option Addr} {ss : List Sr} {t : Int} {T : List Nd} {kf : Int} (hA : QF σ ab ss t) (hg : Gl σ) (hr : Ab 10 NG σ p n T) (hS : rv ss) (hn : n ≤ 4096) (ht : -4611686018427387904 ≤ t ∧ t ≤ 4611686018427387904) (hty : C8 T [] = some [kf])
   (h : uz R σ ((JQ FF ss t T []).bind List.head?)) : Spec prog 47 #[.pointer (some ⟨ab,0,none⟩),.slice p n c] σ R := by
 have hTl : T.length = n := hr.1
 have AN6 := hS.ok.len
 refine CJ.start fun _ => R3.start fun rb hrb => ⟨_,_,_,rfl,?_⟩
 have xb := Ext.set (o := .cells #[.nilFunc,.func (.func 100) #[] #[],.func (.func 101) #[] #[],.func (.func 102) #[] #[],.func (.func 103) #[] #[],.func (.func 104) #[] #[],.func (.func 105) #[] #[],.func (.func 106) #[] #[]] 137 (0,0)) hrb
 have AN7 : ∀ (kind : Int) f,1 ≤ kind → kind ≤ 7 → uy[kind.toNat - 1]? = some f → Hp.ld (σ.set rb (.cells #[.nilFunc,.func (.func 100) #[] #[],.func (.func 101) #[] #[],.func (.func 102) #[] #[],.func (.func 103) #[] #[],.func (.func 104) #[] #[],.func (.func 105) #[] #[],.func (.func 106) #[] #[]] 137 (0,0))) ⟨rb,0 + kind.toNat * 1,none⟩ = some (.func (.func f) #[] #[]) := fun kind f h1 h7 hf => by
   refine Ad (Hp.AB _ _ _) ?_
   rw [show 0 + kind.toNat * 1 = (kind.toNat - 1) + 1 by omega]
   have Aq : kind.toNat - 1 < 7 := by omega
   generalize kind.toNat - 1 = i at *
   match i,hf with
   | 0,hf => cases hf; rfl
   | 1,hf => cases hf; rfl
   | 2,hf => cases hf; rfl
   | 3,hf => cases hf; rfl
   | 4,hf => cases hf; rfl
   | 5,hf => cases hf; rfl
   | 6,hf => cases hf; rfl
 generalize σ.set rb _ = σb at *
 replace h := h.jX xb
 suffices H : ∀ g i : Nat,∀ p7 n7 c7 σ' st,n - i = g → i ≤ n → AW 4 NH σb σ' p7 n7 c7 st → (∀ x ∈ st,VG x) → st.length ≤ i → (st.map EM).sum ≤ i * ss.length → C8 (T.drop i) (st.map (·.kind)) = some [kf] → JQ FF ss t T [] = JQ FF ss t (T.drop i) st → CJ.FI R (aD ab 0) 0 0 none 0 0 none 0 0 (aD rb 0) 8 8 p7 n7 c7 p n c n i σ' from
   H n 0 none 0 0 σb [] rfl (Nat.zero_le _) (AW.nil (.refl _)) (fun x hx => (by cases hx)) (Nat.zero_le _) (Nat.zero_le _) hty rfl
 intro g
 induction g with
 | zero =>
   intro i p7 n7 c7 σ' st uc hi ho hV hsl AN8 hT Cr
   rw [List.drop_eq_nil_of_le (by omega)] at hT Cr
   have hk : st.map (·.kind) = [kf] := by simpa [C8] using hT
   have AIR : JQ FF ss t T [] = some st := by rw [Cr]; rfl
   rw [AIR] at h
   match st,hk with
   | [x],_ =>
     obtain ⟨b,o,pv,nv,cv,qv,mv,dv,rfl,h1,h2,h3,h4,h5,h6⟩ := NH.at (ho.rd NH.mono) (i := 0) (x := x) rfl
     have hn7 : 1 = n7 := ho.1.1
     simp only [Nat.zero_mul,Nat.add_zero] at h1 h2 h3 h4
     exact CJ.Fg ⟨fun Aq => by omega,fun _ => ⟨b,o,rfl,by omega,x.kind,x.v,pv,nv,cv,qv,mv,dv,⟨h1,h2,h3,h4,trivial⟩,h.ok x σ' pv nv cv qv mv dv rfl ho.up h5 h6⟩⟩
 | succ g ih =>
   intro i p7 n7 c7 σ' st uc hi ho hV hsl AN8 hT Cr
   have B9 : i < n := by omega
   obtain ⟨x,hx⟩ := hr.ex B9
   obtain ⟨b,o,p1,k1,c1,q1,m1,d1,rfl,Eb,hmt,hnm⟩ := NG.at hr hx
   have hX := xb.trans ho.up
   rw [BD hx] at hT Cr
   have Jf : (BS x (st.map (·.kind))).1 = 0 := Decidable.byContradiction fun A5 => by
     rw [C8,if_neg A5] at hT; cases hT
   rw [C8,if_pos Jf] at hT
   obtain ⟨hf,hpl,hmo,yH,hT1⟩ := gO Jf
   have hpn := Zo hf
   obtain ⟨tp,htp⟩ : ∃ tp : Nat,x.parts = tp := ⟨x.parts.toNat,by omega⟩
   have hpt : x.parts.toNat = tp := by omega
   have Cj : st.length = n7 := ho.1.1
   rw [List.length_map,Cj,hpt] at yH hT1
   rw [List.length_map] at hpl
   rw [hT1] at hT
   rw [← List.map_drop] at yH hT
   rw [← List.map_take] at hT
   rw [JQ,Cj,hpt] at Cr
   have hLl : (st.drop (n7 - tp)).length = tp := by rw [List.length_drop]; omega
   have hLV : ∀ y ∈ st.drop (n7 - tp),VG y := fun y hy => hV y (List.mem_of_mem_drop hy)
   have NK : (st.map EM).sum = ((st.take (n7 - tp)).map EM).sum + ((st.drop (n7 - tp)).map EM).sum := by
     rw [← List.sum_append,← List.map_append,List.take_append_drop]
   have hsb : i * ss.length ≤ 4096 * 10000000 := Nat.mul_le_mul (by omega) AN6
   have pQ : ∀ y ∈ st.drop (n7 - tp),EM y ≤ 100000000000 := fun y hy => by
     have := gQ (f := EM) (List.mem_of_mem_drop hy)
     omega
   have EA := ho.1.2
   obtain ⟨cs,XN,hcc⟩ := EA
   have ABS := BB.cap XN
   have e1 : Int.toNat ((n7 : Int) - x.parts) = n7 - tp := by omega
   have NU : FC 4 σ' (Ir p7 (Int.toNat ((n7 : Int) - x.parts)) c7 4) (n7 - Int.toNat ((n7 : Int) - x.parts)) ((cs.drop ((n7 - tp) * 4)).take ((n7 - (n7 - tp)) * 4)) := by
     rw [e1]; exact FC.sub XN.rd (by omega) ABS
   have hcd : Ch 4 NH (σ'.del p7) ((cs.drop ((n7 - tp) * 4)).take ((n7 - (n7 - tp)) * 4)) (st.drop (n7 - tp)) := by
     have h9 := hcc.drop (n7 - tp)
     rwa [List.take_of_length_le (by have := XN.1; rw [List.length_drop,this,← Nat.sub_mul]; exact Nat.le_refl _)]
   have hp7 : ∀ a,p7 = some a → σ' a.block ≠ none := ho.1.block
   have hk7 : ∀ {y : Hp},Ext σ' y → ∀ a,p7 = some a → ∃ o,y a.block = some o := fun {y} hy a ha => by
     cases hh : σ' a.block with
     | none => exact absurd hh (hp7 a ha)
     | some u => exact ⟨u,hy _ _ hh⟩
   let AIT : Hp → Int → Int → Option Addr → Nat → Option Addr → Nat → Int → Prop := fun y2 k v pv nv qv mv e =>
     (∃ z,Gb FF ss t x (st.drop (n7 - tp)) = some z ∧ k = z.kind ∧ v = z.v ∧ e = 0 ∧ AW 4 NH σb y2 p7 n7 c7 st ∧ Ab 2 CC (y2.del p7) pv nv z.vec ∧ Ab 2 TU (y2.del p7) qv mv z.Ow) ∨ (Gb FF ss t x (st.drop (n7 - tp)) = none ∧ e = 223 ∧ k = 0 ∧ v = 0 ∧ Ext σb y2)
   have rm : 1 ≤ x.kind ∧ x.kind ≤ 7 := by
     have DB := Ie hf
     unfold GB at DB
     by_cases h1 : x.kind = 1
     · omega
     by_cases h2 : x.kind = 2
     · omega
     by_cases h3 : x.kind = 3
     · omega
     by_cases h4 : x.kind = 4
     · omega
     by_cases h5 : x.kind = 5
     · omega
     by_cases h6 : x.kind = 6
     · omega
     rw [if_neg h1,if_neg h2,if_neg h3,if_neg h4,if_neg h5,if_neg h6] at DB
     have := (of_decide_eq_true DB).1
     omega
   obtain ⟨f0,hf0⟩ : ∃ f0,uy[x.kind.toNat - 1]? = some f0 := ⟨_,List.getElem?_eq_getElem (show x.kind.toNat - 1 < 7 by omega)⟩
   have uG := (ho.up).ld (AN7 x.kind f0 rm.1 rm.2 hf0)
   have u4 := ABR hf0
   have gR : ∀ (y : Hp) (VF : Option Addr) (VH : Nat),Ext σ' y → Ab 4 NH (y.del p7) VF (n7 - Int.toNat ((n7 : Int) - x.parts)) (st.drop (n7 - tp)) → ∀ (R' : Rr),(∀ y2 k v pv nv cv qv mv dv e,AIT y2 k v pv nv qv mv e → R' (.returned (.tuple #[.agg #[.int .i64 k,.int .u64 v,.slice pv nv cv,.slice qv mv dv],.int .i64 e])) y2) →
       Spec prog f0 #[.pointer (some ⟨ab,0,none⟩),MZ x p1 k1 c1 q1 m1 d1,.slice VF (n7 - Int.toNat ((n7 : Int) - x.parts)) VH] y R' := fun y VF VH hy yI R' MD => by
     have qK : Ext σb (y.del p7) := ho.2.trans (hy.del p7)
     have hσ : Ext σ (y.del p7) := xb.trans qK
     have hRV : Ig (fun e τ' => ∀ y2,(∀ a,p7 = some a → y2 a.block = y a.block) → y2.del p7 = τ' → R' e y2) (y.del p7) (Gb FF ss t x (st.drop (n7 - tp))) := by
       refine ⟨fun z τ' pv nv cv qv mv dv hz A9 GC HN _ _ y2 hy2 ABT => ?_,fun hz τ' A9 y2 hy2 ABT => ?_⟩
       · subst ABT
         refine MD y2 _ _ _ _ _ _ _ _ _ (.inl ⟨z,hz,rfl,rfl,rfl,⟨⟨ho.1.1,cs,?_,hcc.mono NH.mono ((hy.del p7).trans A9)⟩,qK.trans A9⟩,GC,HN⟩)
         exact BB.of_eq (BB.mono hy XN) hy2
       · subst ABT
         exact MD y2 _ _ _ _ _ _ _ _ _ (.inr ⟨hz,rfl,rfl,rfl,(qK.trans A9).trans (Ext.Iy _ _)⟩)
     obtain ⟨f,hf1,hf2,hf3,aW,u5⟩ := ji (p := p1) (c := c1) (q := q1) (d := d1) (e := VH) (hA.mono hσ) (hg.mono hσ) (hmt.mono OZ.mono hσ) (hnm.mono hσ) hf hmo yH (by rw [hLl,htp]) hLV pQ yI hS ht hRV
     rw [hf0] at hf3
     cases hf3
     exact Spec.ABQ (hk7 hy) u5
   have tail : ∀ (y2 : Hp) (BG : Nat) (k v : Int) (pv : Option Addr) (nv cv : Nat) (qv : Option Addr) (mv dv : Nat) (e : Int),y2 BG = none → AIT y2 k v pv nv qv mv e → AK prog (Instr.storeAt 93 (.pointer (aD BG 0)) (.agg #[.int .i64 k,.int .u64 v,.slice pv nv cv,.slice qv mv dv])) (Hp.set y2 BG AIQ) (fun _ AH => Br (e ≠ 0) (R (.returned (.tuple #[.agg #[.int .i64 0,.int .u64 0,.slice none 0 0,.slice none 0 0],.int .i64 e])) AH) (((0 : Int) ≤ ((n7 : Int) - x.parts) ∧ ((n7 : Int) - x.parts) ≤ (c7 : Int)) ∧ ∃ Nr Ns Nt Nu Nv Nw Nx Ny,Ay AH BG 0 [.int .i64 Nr,.int .u64 Ns,.slice Nt Nu Nv,.slice Nw Nx Ny] ∧ Al AH fun Ps => AK prog (Builtin.append_ #[136,136] 136 #[(.slice p7 (Int.toNat ((n7 : Int) - x.parts)) c7),(.slice (aD Ps 0) 1 1)]) (Hp.set AH Ps (.cells #[.int .i64 Nr,.int .u64 Ns,.slice Nt Nu Nv,.slice Nw Nx Ny] 93 (0,0))) (CS fun cL n50 cM Ac => AJ ((i : Int) + 1) ∧ CJ.FI R (aD ab 0) 0 0 none 0 0 none 0 0 (aD rb 0) 8 8 cL n50 cM (aD b o) n c n ((i : Int) + 1) Ac))) := fun y2 BG k v pv nv cv qv mv dv e hb hC => by
     refine Ts rfl (Hp.AB _ _ _) (by simp [Value.oneCell']) rfl ?_
     rw [Hp.set_set]
     have x3 := Ext.set (o := .cells #[.int .i64 k,.int .u64 v,.slice pv nv cv,.slice qv mv dv] 93 (0,0)) hb
     rcases hC with ⟨z,hz,rfl,rfl,rfl,Ba,GC,HN⟩ | ⟨hz,rfl,rfl,rfl,A9⟩
     · refine ⟨fun hh => absurd rfl hh,fun _ => ⟨by omega,z.kind,z.v,pv,nv,cv,qv,mv,dv,Ay.GD (Hp.AB _ _ _),fun Ps pw => ?_⟩⟩
       obtain ⟨w1,w2,w3⟩ := gN hS.ok hS.nn hf yH (by rw [hLl,htp]) hLV hz
       rw [hz] at Cr
       have EB := (Ba.mono NH.mono x3).take (m := n7 - tp) (by omega)
       have hxd := x3.del p7
       have he : NH ((y2.set BG (.cells #[.int .i64 z.kind,.int .u64 z.v,.slice pv nv cv,.slice qv mv dv] 93 (0,0))).del p7) [.int .i64 z.kind,.int .u64 z.v,.slice pv nv cv,.slice qv mv dv] z := ⟨pv,nv,cv,qv,mv,dv,rfl,GC.mono CC.mono hxd,HN.mono TU.mono hxd⟩
       rw [e1]
       refine AW.Jt NH.mono EB rfl (NH.one _ _ _ he) he (by omega) (fun p' c' y4 Mn _ => ⟨_,_,_,rfl,AL B9 hr.big,ih (i + 1) _ _ _ _ (st.take (n7 - tp) ++ [z]) (by omega) (by omega) Mn (fun u hu => ?_) (by rw [List.length_append,List.length_take,List.length_singleton]; omega) ?_ ?_ ?_⟩) pw
       · rcases List.mem_append.1 hu with hu | hu
         · exact hV u (List.mem_of_mem_take hu)
         · rw [List.mem_singleton] at hu; rw [hu]; exact w1
       · rw [List.map_append,List.sum_append,List.map_singleton,List.sum_singleton,Nat.succ_mul]
         omega
       · rw [List.map_append,List.map_singleton,w2]; exact hT
       · exact Cr
     · refine ⟨fun _ => h.no ?_ _ (A9.trans x3),fun hh => absurd (by decide) hh⟩
       rw [Cr,hz]; rfl
   have AOA : ∃ u,σ' rb = some u := by
     unfold Hp.ld at uG
     cases hq : σ' rb with
     | none => rw [hq] at uG; cases uG
     | some u => exact ⟨u,rfl⟩
   obtain ⟨urb,Uj⟩ := AOA
   refine CJ.Fg ⟨fun _ => ⟨b,o,rfl,by omega,_,_,_,_,_,_,_,_,_,_,_,_,_,_,by simpa using Eb.mono hX,fun _ => ⟨by unfold AJ; omega,rb,0,rfl,by omega,_,uG,by omega,fun fW jj => ⟨?_,fun BG Tx => ?_⟩,fun BG Tx fW jj => ?_⟩⟩,fun hh => by omega⟩
   · refine PS NU hcd hp7 jj (by omega) fun VF VH y yI hy => ⟨VF,_,VH,rfl,fun k hk u hu => ?_,?_,fun BG Tx => ?_⟩
     · rw [List.mem_singleton] at hk
       subst hk
       rw [(Ext.set jj) _ _ Uj] at hu
       rw [hy _ _ Uj]; exact hu
     · exact ⟨f0,#[],#[],rfl,u4,gR y VF VH hy yI _ fun y2 k v pv nv cv qv mv dv e hC => ⟨k,v,pv,nv,cv,qv,mv,dv,e,rfl,fun BG Tx => tail y2 BG k v pv nv cv qv mv dv e Tx hC⟩⟩
     · exact ⟨f0,#[],#[],rfl,u4,Spec.Ap Tx (gR y VF VH hy yI _ fun y2 k v pv nv cv qv mv dv e hC Ty => ⟨k,v,pv,nv,cv,qv,mv,dv,e,rfl,tail y2 BG k v pv nv cv qv mv dv e Ty hC⟩)⟩
   · have ud := (Hp.AS Tx)
     refine AK.Ap Tx (PS NU hcd hp7 jj (by omega) fun VF VH y yI hy hny => ⟨VF,_,VH,rfl,fun k hk u hu => ?_,?_⟩)
     · rw [List.mem_singleton] at hk
       subst hk
       have A5 : k ≠ BG := fun e => by rw [e,ud.2] at Uj; cases Uj
       rw [Hp.AI A5] at hu ⊢
       rw [(Ext.set jj) _ _ Uj] at hu
       rw [hy _ _ Uj]; exact hu
     · exact ⟨f0,#[],#[],rfl,u4,Spec.Ap hny (gR y VF VH hy yI _ fun y2 k v pv nv cv qv mv dv e hC Ty => ⟨k,v,pv,nv,cv,qv,mv,dv,e,rfl,tail y2 BG k v pv nv cv qv mv dv e Ty hC⟩)⟩
   · have u6 := (Hp.AS jj)
     have ud : (σ'.set fW (.cells #[] 93 (0,0))) BG = none := by rw [Hp.AI (Ne.symm u6.1)]; exact Tx
     dsimp only
     rw [Hp.BQ (Ne.symm u6.1)]
     refine AK.Ap ud (PS NU hcd hp7 u6.2 (by omega) fun VF VH y yI hy hny => ⟨VF,_,VH,rfl,fun k hk u hu => ?_,?_⟩)
     · rw [List.mem_singleton] at hk
       subst hk
       have A5 : k ≠ BG := fun e => by rw [e,Tx] at Uj; cases Uj
       rw [Hp.AI A5] at hu ⊢
       rw [(Ext.set u6.2) _ _ Uj] at hu
       rw [hy _ _ Uj]; exact hu
     · exact ⟨f0,#[],#[],rfl,u4,Spec.Ap hny (gR y VF VH hy yI _ fun y2 k v pv nv cv qv mv dv e hC Ty => ⟨k,v,pv,nv,cv,qv,mv,dv,e,rfl,tail y2 BG k v pv nv cv qv mv dv e Ty hC⟩)⟩
end
end TwW
end
section
namespace TwW
open Go Tw Go.RowKit Go.Proofs.Tryz
def FN (T : List Nd) (ss : List Sr) : Int := match Ld T with
 | none => 220
 | some k => if k = 3 then 220 else if Cy none ss = true then 0 else 224
def instF (T : List Nd) (ss : List Sr) (t : Int) : Int × List El :=
 if FN T ss ≠ 0 then (FN T ss,[]) else if ¬ (-1099511627776 ≤ t ∧ t ≤ 1099511627776) then (221,[]) else match A7 FF T ss t with
   | none => (223,[])
   | some l => (0,l)
structure Modest (T : List Nd) (ss : List Sr) : Prop where
 t : T.length ≤ 2000000
 tx : ∀ x ∈ T,x.text.size ≤ 4611686018427387904
 s : ss.length ≤ 10000000
 ps : ∀ s ∈ ss,s.ps.length ≤ 1000000000
 nn : ∀ s ∈ ss,∀ p ∈ s.ps,0 ≤ p.2
theorem Lh : ∀ {ss : List Sr} {q : Option (List Lb)},Cy q ss = true → ∀ s ∈ ss,Dr s.ls = 0 ∧ OA s.ps = true
 | s :: l,q,h,x,hx => by
   rw [IY] at h
   simp only [Bool.and_eq_true,decide_eq_true_eq] at h
   rcases List.mem_cons.1 hx with rfl | hx
   · exact ⟨h.1.1.1,h.1.1.2⟩
   · exact Lh h.2 x hx
theorem rv.of {T : List Nd} {ss : List Sr} (hM : Modest T ss) (h : Cy none ss = true) : rv ss :=
 ⟨⟨fun s hs => jJ (Lh h s hs).2,fun s hs => Ao.of (Lh h s hs).1,hM.s⟩,hM.nn,hM.ps⟩
section
variable {σ σ' σ0 : Hp} {R : Rr}
theorem QI {p q : Option Addr} {n c m d : Nat} {T : List Nd} {ss : List Sr} {t kf : Int} (hg : Gl σ) (hr : Ab 10 NG σ p n T) (hs : Ab 2 Bp σ q m ss) (hS : rv ss) (hn : n ≤ 4096) (ht : -4611686018427387904 ≤ t ∧ t ≤ 4611686018427387904) (hty : C8 T [] = some [kf])
   (h : ∀ l p' n' c' σ',A7 FF T ss t = some l → Ext σ σ' → Ab 2 CC σ' p' n' l → R (.returned (.tuple #[.slice p' n' c',.int .i64 0])) σ') (h' : A7 FF T ss t = none → ∀ σ',Ext σ σ' → R (.returned (.tuple #[.slice none 0 0,.int .i64 223])) σ') :
   Spec prog 30 #[.slice p n c,.slice q m d,.int .i64 t] σ R := by
 refine Fs.start fun ab XM => ?_
 have xa := Ext.set (o := .cells #[.slice q m d,.int .i64 t] 97 (0,0)) XM
 have hA : QF (σ.set ab (.cells #[.slice q m d,.int .i64 t] 97 (0,0))) ab ss t := ⟨⟨q,m,d,Ad (Hp.AB _ _ _) rfl,hs.mono Bp.mono xa⟩,Ad (Hp.AB _ _ _) rfl⟩
 refine qJ hA (hg.mono xa) (hr.mono NG.mono xa) hS hn ht hty ⟨fun x σ1 pv nv cv qv mv dv hx CO h1 h2 => ?_,fun EA σ1 CO => ?_⟩
 · have hm : A7 FF T ss t = some (if x.kind = 1 then [⟨[],x.v⟩] else x.vec) := by
     unfold A7
     cases Cr : JQ FF ss t T [] with
     | none => rw [Cr] at hx; cases hx
     | some st =>
       rw [Cr] at hx
       show (st.head?.map _) = _
       rw [show st.head? = some x from hx]; rfl
   refine ⟨_,_,_,_,_,_,_,_,_,rfl,fun _ => ⟨fun hk => fun Lv AOB => Fs.A3 ?_,fun hk => Fs.A3 ?_⟩⟩
   · rw [if_pos hk] at hm
     refine h _ _ _ _ _ hm (xa.trans (CO.trans (.set AOB))) ⟨rfl,[.slice none 0 0,.int .u64 x.v],⟨rfl,by omega,.inr ⟨Lv,0,rfl,Ay.GD (c := [.slice none 0 0,.int .u64 x.v]) (Hp.AB _ _ _)⟩⟩,rfl,fun i y hy => ?_⟩
     cases i with
     | zero =>
       simp only [List.getElem?_cons_zero,Option.some.injEq] at hy
       subst hy
       exact ⟨none,0,0,rfl,Ab.nil⟩
     | succ i => simp at hy
   · rw [if_neg hk] at hm
     exact h _ _ _ _ _ hm (xa.trans CO) h1
 · have hm : A7 FF T ss t = none := by
     unfold A7
     cases Cr : JQ FF ss t T [] with
     | none => rfl
     | some st =>
       rw [Cr] at EA
       show (st.head?.map _) = _
       rw [show st.head? = none from EA]; rfl
   exact ⟨_,_,_,_,_,_,_,_,_,rfl,fun _ => ⟨fun hk => absurd hk (by decide),fun _ => Fs.A3 (h' hm _ (xa.trans CO))⟩⟩
theorem Vh {p q : Option Addr} {n c m d : Nat} {T : List Nd} {ss : List Sr} (hr : Ab 10 NG σ p n T) (hs : Ab 2 Bp σ q m ss) (hM : Modest T ss) (h : ∀ σ',Ext σ σ' → R (.returned (.int .i64 (FN T ss))) σ') : Spec prog 28 #[.slice p n c,.slice q m d] σ R := by
 have hl : T.length = n := hr.1
 have hMt := hM.t
 refine VN.start (Th hr (by omega) hM.tx (fun k σ1 hk CO => ⟨_,_,_,rfl,fun hh => absurd rfl hh,fun _ => ⟨fun h3 => ?_,fun h3 => ZQ (hs.mono Bp.mono CO) fun σ2 A9 => ⟨_,rfl,fun A5 => ?_,fun h0 => ?_⟩⟩⟩) fun k j e σ1 hk he CO => ⟨_,_,_,rfl,fun _ => ?_,fun hh => absurd he hh⟩)
 · have := h σ1 CO
   rwa [show FN T ss = 220 by unfold FN; rw [hk]; exact if_pos h3] at this
 · have := h σ2 (CO.trans A9)
   have ho : ¬ Cy none ss = true := fun ho => A5 (by rw [ho]; rfl)
   rwa [show FN T ss = 224 by unfold FN; rw [hk]; show (if k = 3 then _ else _) = _; rw [if_neg h3,if_neg ho]] at this
 · have := h σ2 (CO.trans A9)
   have ho : Cy none ss = true := by
     cases hq : Cy none ss with
     | true => rfl
     | false => rw [hq] at h0; exact absurd (by decide) h0
   rwa [show FN T ss = 0 by unfold FN; rw [hk]; show (if k = 3 then _ else _) = _; rw [if_neg h3,if_pos ho]] at this
 · have := h σ1 CO
   rwa [show FN T ss = 220 by unfold FN; rw [hk]] at this
def EIn (τ : Hp) (vs : List Value) (x : El × Nat) : Prop := ∃ p n c,vs = [.slice p n c,.slice (aD x.2 0) 1 1] ∧ Dq τ p n x.1.ls
theorem EIn.mono : HO EIn := fun _ _ _ _ hx ⟨p,n,c,hv,h⟩ => ⟨p,n,c,hv,h.mono Bs.mono hx⟩
structure aw (t : Int) (τ σ : Hp) (p : Option Addr) (n c : Nat) (l : List El) (bs : List Nat) : Prop where
 len : bs.length = l.length
 own : ∃ cs,BB 2 σ p n c cs ∧ Ch 2 EIn τ cs (l.zip bs)
 pts : ∀ (i b : Nat) (e : El),bs[i]? = some b → l[i]? = some e → σ b = some (.cells #[.int .i64 t,.int .u64 e.v] 50 (0,0))
 op : ∀ a,p = some a → τ a.block = none ∧ a.block ∉ bs
 tb : ∀ b ∈ bs,τ b = none
 nd : bs.Nodup
 ext : Ext τ σ
theorem aw.known {t : Int} {τ : Hp} {p : Option Addr} {n c : Nat} {l : List El} {bs : List Nat} (h : aw t τ σ p n c l bs) : ∀ b ∈ bs,∃ u,σ b = some u := fun b hb => by
 obtain ⟨i,hi⟩ := List.mem_iff_getElem?.1 hb
 have Aq := (List.getElem?_eq_some_iff.1 hi).1
 exact ⟨_,h.pts i b _ hi (List.getElem?_eq_getElem (by rw [← h.len]; exact Aq))⟩
theorem aw.mono {t : Int} {τ : Hp} {p : Option Addr} {n c : Nat} {l : List El} {bs : List Nat} (h : aw t τ σ p n c l bs) (hx : Ext σ σ') : aw t τ σ' p n c l bs :=
 ⟨h.len,let ⟨cs,h1,h2⟩ := h.own; ⟨cs,h1.mono hx,h2⟩,fun i b e hb he => hx _ _ (h.pts i b e hb he),h.op,h.tb,h.nd,h.ext.trans hx⟩
theorem aw.rd {t : Int} {τ : Hp} {p : Option Addr} {n c : Nat} {l : List El} {bs : List Nat} (h : aw t τ σ p n c l bs) : Ab 2 Bp σ p n (l.map fun e => ⟨e.ls,[(t,e.v)]⟩) := by
 obtain ⟨cs,h1,h2⟩ := h.own
 have hz : (l.zip bs).length = l.length := by rw [List.length_zip,h.len,Nat.min_self]
 have hln : l.length = n := by
   have a1 := h1.1
   have a2 := h2.1
   rw [hz] at a2; omega
 refine ⟨by rw [List.length_map]; exact hln,cs,h1.rd,by rw [h2.1,hz,List.length_map],fun i s hs => ?_⟩
 rw [List.getElem?_map] at hs
 cases he : l[i]? with
 | none => rw [he] at hs; cases hs
 | some e =>
   rw [he] at hs
   simp only [Option.map_some,Option.some.injEq] at hs
   subst hs
   have Aq := (List.getElem?_eq_some_iff.1 he).1
   obtain ⟨b,hb⟩ : ∃ b,bs[i]? = some b := ⟨_,List.getElem?_eq_getElem (by rw [h.len]; exact Aq)⟩
   obtain ⟨p1,n1,c1,hv,av⟩ := h2.2 i (e,b) (List.getElem?_zip_eq_some.2 ⟨he,hb⟩)
   refine ⟨p1,n1,c1,aD b 0,1,1,hv,av.mono Bs.mono h.ext,⟨rfl,[.int .i64 t,.int .u64 e.v],⟨rfl,by omega,.inr ⟨b,0,rfl,Ay.GD (c := [.int .i64 t,.int .u64 e.v]) (h.pts i b e hb he)⟩⟩,rfl,fun j y hy => ?_⟩,Nat.le_refl _⟩
   cases j with
   | zero => simp only [List.getElem?_cons_zero,Option.some.injEq] at hy; subst hy; rfl
   | succ j => simp at hy
theorem aw.add {t : Int} {τ : Hp} {p : Option Addr} {n c b : Nat} {l : List El} {bs : List Nat} {e : El} {pl : Option Addr} {nl cl : Nat} {y : Hp} {Φ : Value → Hp → Prop} (h : aw t τ σ p n c l bs) (hy : Ext σ y) (hr : Dq (σ.new y) pl nl e.ls) (hb : y b = none) (hn : n ≤ 1000000000000)
   (hΦ : ∀ τ' p' c' σ',aw t τ' σ' p' (n + 1) c' (l ++ [e]) (bs ++ [b]) → Ext τ τ' → Φ (.slice p' (n + 1) c') σ') :
   Al (Hp.set y b (.cells #[.int .i64 t,.int .u64 e.v] 50 (0,0))) fun WS => AK prog (Builtin.append_ #[23,23] 23 #[.slice p n c,(.slice (aD WS 0) 1 1)]) (Hp.set (Hp.set y b (.cells #[.int .i64 t,.int .u64 e.v] 50 (0,0))) WS (.cells #[.slice pl nl cl,.slice (aD b 0) 1 1] 40 (0,0))) Φ := fun WS ABW => by
 obtain ⟨cs,h1,h2⟩ := h.own
 have xb := Ext.set (o := .cells #[.int .i64 t,.int .u64 e.v] 50 (0,0)) hb
 have xc := Ext.set (o := .cells #[.slice pl nl cl,.slice (aD b 0) 1 1] 40 (0,0)) ABW
 have X := hy.trans (xb.trans xc)
 have hz : (l.zip bs).length = l.length := by rw [List.length_zip,h.len,Nat.min_self]
 have ABX : σ b = none := BE hy hb
 have Ob : b ≠ WS := fun e => by rw [← e,Hp.AB] at ABW; cases ABW
 refine DQ (h1.mono X) (q := aD WS 0) (ys := [.slice pl nl cl,.slice (aD b 0) 1 1]) ⟨rfl,by omega,.inr ⟨WS,0,rfl,Ay.GD (c := [.slice pl nl cl,.slice (aD b 0) 1 1]) (Hp.AB _ _ _)⟩⟩ (fun u hu => by
   simp only [List.mem_cons,List.not_mem_nil,or_false] at hu
   rcases hu with rfl | rfl <;> rfl) (by omega) fun p' c' σ5 RD Ud => ?_
 have T : ∀ k u,σ k = some u → (∀ a,p = some a → k ≠ a.block) → σ5 k = some u ∧ ∀ a,p' = some a → k ≠ a.block := fun k u hk A5 => by
   obtain ⟨a1,a2⟩ := AR.1 (Ud k u (AR.2 ⟨A5,X _ _ hk⟩))
   exact ⟨a2,a1⟩
 have Tb := AR.1 (Ud b _ (AR.2 ⟨fun a ha e => h1.block a ha (by rw [← e]; exact ABX),xc _ _ (Hp.AB _ _ _)⟩))
 have tt : Ext τ (τ.or (σ.new y)) := Ext.uE _ _
 have nt : Ext (σ.new y) (τ.or (σ.new y)) := Ext.cp fun k hk => by
   cases hh : τ k with
   | none => rfl
   | some u =>
     have h3 := h.ext _ _ hh
     cases h4 : (σ.new y) k with
     | none => exact absurd h4 hk
     | some v => rw [(AV.1 h4).1] at h3; cases h3
 have kn : ∀ k,(∃ u,σ k = some u) → τ k = none → (τ.or (σ.new y)) k = none := fun k ⟨u,hu⟩ hk => by
   rw [Hp.cp hk]
   cases hh : (σ.new y) k with
   | none => rfl
   | some v => rw [(AV.1 hh).1] at hu; cases hu
 have tb : (τ.or (σ.new y)) b = none := by
   rw [Hp.cp (BE h.ext ABX)]
   cases hh : (σ.new y) b with
   | none => rfl
   | some v => rw [(AV.1 hh).2] at hb; cases hb
 have va : b ∉ bs := fun hc => by obtain ⟨u,hu⟩ := h.known b hc; rw [ABX] at hu; cases hu
 have hE5 : Ext (τ.or (σ.new y)) σ5 := fun k u hk => by
   have hyk : y k = some u := (Ext.ow (h.ext.trans hy) (Ext.Cs _ _)) _ _ hk
   refine (AR.1 (Ud k u (AR.2 ⟨fun a ha e => ?_,xc _ _ (xb _ _ hyk)⟩))).2
   have kN : ∃ u,σ a.block = some u := by
     cases hh : σ a.block with
     | none => exact absurd hh (h1.block a ha)
     | some u => exact ⟨u,rfl⟩
   rw [e,kn a.block kN (h.op a ha).1] at hk; cases hk
 refine hΦ (τ.or (σ.new y)) p' c' σ5 ⟨by simp [h.len],⟨_,RD,?_⟩,fun i b' e' MO Qf => ?_,fun a ha => ⟨?_,fun hc => ?_⟩,fun b' MO => ?_,?_,hE5⟩ tt
 · rw [List.zip_append h.len.symm]
   exact (h2.mono EIn.mono tt).snoc rfl ⟨pl,nl,cl,rfl,hr.mono Bs.mono nt⟩
 · rw [List.getElem?_append] at MO Qf
   split at MO
   · rename_i Aq
     rw [if_pos (by rw [← h.len]; exact Aq)] at Qf
     have := h.pts i b' e' MO Qf
     exact (T b' _ this fun a ha e => (h.op a ha).2 (e ▸ List.mem_of_getElem? MO)).1
   · rename_i Aq
     rw [if_neg (by rw [← h.len]; exact Aq),← h.len] at Qf
     cases hq : i - bs.length with
     | zero =>
       rw [hq] at MO Qf
       simp only [List.getElem?_cons_zero,Option.some.injEq] at MO Qf
       subst MO; subst Qf
       exact Tb.2
     | succ j => rw [hq] at MO; simp at MO
 · cases hh : (τ.or (σ.new y)) a.block with
   | none => rfl
   | some u =>
     exfalso
     have hyk : y a.block = some u := (Ext.ow (h.ext.trans hy) (Ext.Cs _ _)) _ _ hh
     refine (AR.1 (Ud a.block u (AR.2 ⟨fun a' au e => ?_,xc _ _ (xb _ _ hyk)⟩))).1 a ha rfl
     have kN : ∃ u,σ a'.block = some u := by
       cases hh : σ a'.block with
       | none => exact absurd hh (h1.block a' au)
       | some u => exact ⟨u,rfl⟩
     rw [e,kn a'.block kN (h.op a' au).1] at hh; cases hh
 · rcases List.mem_append.1 hc with hc | hc
   · obtain ⟨u,hu⟩ := h.known _ hc
     exact (T a.block u hu fun a' au e => (h.op a' au).2 (e ▸ hc)).2 a ha rfl
   · rw [List.mem_singleton] at hc
     exact Tb.1 a ha hc.symm
 · rcases List.mem_append.1 MO with MO | MO
   · exact kn b' (h.known _ MO) (h.tb _ MO)
   · rw [List.mem_singleton] at MO; rw [MO]; exact tb
 · rw [List.nodup_append]
   exact ⟨h.nd,by simp,fun a ha b' MO e => by rw [List.mem_singleton] at MO; rw [e,MO] at ha; exact va ha⟩
end
end TwW
end
section
namespace TwW
open Go Tw Go.RowKit Go.Proofs.Tryz
theorem qL {ss : List Sr} {t : Int} (hS : rv ss) : ∀ (T : List Nd) (st r : List Vv) (ty : List Int),C8 T (st.map (·.kind)) = some ty → JQ FF ss t T st = some r → (∀ x ∈ st,VG x) → (∀ x ∈ r,VG x) ∧ (r.map EM).sum ≤ (st.map EM).sum + T.length * ss.length
 | [],st,r,ty,_,hr,hV => by
   cases hr
   exact ⟨hV,by omega⟩
 | x :: T,st,r,ty,hT,hr,hV => by
   have Jf : (BS x (st.map (·.kind))).1 = 0 := Decidable.byContradiction fun A5 => by
     rw [C8,if_neg A5] at hT; cases hT
   rw [C8,if_pos Jf] at hT
   obtain ⟨hf,hpl,hmo,yH,hT1⟩ := gO Jf
   have hpn := Zo hf
   rw [List.length_map] at yH hT1 hpl
   rw [hT1,← List.map_drop,← List.map_take] at hT
   rw [← List.map_drop] at yH
   rw [JQ] at hr
   have hLl : ((st.drop (st.length - x.parts.toNat)).length : Int) = x.parts := by rw [List.length_drop]; omega
   have hLV : ∀ y ∈ st.drop (st.length - x.parts.toNat),VG y := fun y hy => hV y (List.mem_of_mem_drop hy)
   have NK : (st.map EM).sum = ((st.take (st.length - x.parts.toNat)).map EM).sum + ((st.drop (st.length - x.parts.toNat)).map EM).sum := by
     rw [← List.sum_append,← List.map_append,List.take_append_drop]
   cases hz : Gb FF ss t x (st.drop (st.length - x.parts.toNat)) with
   | none => rw [hz] at hr; cases hr
   | some z =>
     rw [hz] at hr
     obtain ⟨w1,w2,w3⟩ := gN hS.ok hS.nn hf yH hLl hLV hz
     obtain ⟨g1,g2⟩ := qL hS T (st.take (st.length - x.parts.toNat) ++ [z]) r ty (by rw [List.map_append,List.map_singleton,w2]; exact hT) hr (fun u hu => by
       rcases List.mem_append.1 hu with hu | hu
       · exact hV u (List.mem_of_mem_take hu)
       · rw [List.mem_singleton] at hu; rw [hu]; exact w1)
     refine ⟨g1,?_⟩
     rw [List.map_append,List.sum_append,List.map_singleton,List.sum_singleton] at g2
     rw [List.length_cons,Nat.succ_mul]
     omega
theorem jl {ss : List Sr} {t k : Int} {T : List Nd} {l : List El} (hS : rv ss) (hT : C8 T [] = some [k]) (h : A7 FF T ss t = some l) : (∀ e ∈ l,Ao e.ls) ∧ l.length ≤ 1 + T.length * ss.length := by
 unfold A7 at h
 cases hr : JQ FF ss t T [] with
 | none => rw [hr] at h; cases h
 | some st =>
   rw [hr] at h
   obtain ⟨g1,g2⟩ := qL hS T [] st _ hT hr (fun x hx => by cases hx)
   change (st.head?.map fun v : Vv => if v.kind = 1 then [(⟨[],v.v⟩ : El)] else v.vec) = some l at h
   cases st with
   | nil => cases h
   | cons v st =>
     simp only [List.head?_cons,Option.map_some,Option.some.injEq] at h
     have hv := g1 v (by simp)
     rw [List.map_cons,List.sum_cons] at g2
     simp only [List.map_nil,List.sum_nil] at g2
     unfold EM at g2
     split at h
     · subst h
       exact ⟨fun e he => by rw [List.mem_singleton] at he; subst he; exact ⟨Nat.zero_le _,fun x hx => by cases hx⟩,by simp⟩
     · subst h
       exact ⟨fun e he => (hv.el e he).1,by omega⟩
section
variable {σ σ' σ0 : Hp} {R : Rr}
theorem PT {t : Int} (h : R (.returned (.bool (decide (-1099511627776 ≤ t ∧ t ≤ 1099511627776)))) σ) : Spec prog 29 #[.int .i64 t] σ R := by
 refine VO.start ⟨fun h1 => ?_,fun h1 => ?_⟩
 · rw [show decide (-1099511627776 ≤ t ∧ t ≤ 1099511627776) = decide (t ≤ 1099511627776) from decide_eq_decide.2 ⟨fun h => h.2,fun h => ⟨h1,h⟩⟩] at h; exact h
 · rw [show decide (-1099511627776 ≤ t ∧ t ≤ 1099511627776) = false from decide_eq_false fun hh => h1 hh.1] at h; exact h
theorem qM {T : List Nd} {k : Int} (h : Ld T = some k) : C8 T [] = some [k] ∧ T.length ≤ 4096 := by
 unfold Ld at h
 cases hr : C8 T [] with
 | none => rw [hr] at h; cases h
 | some st =>
   rw [hr] at h
   match st with
   | [] => cases h
   | [x] =>
     change (if T.length ≤ 4096 then some x else none) = some k at h
     split at h
     · rename_i h4
       cases h
       exact ⟨rfl,h4⟩
     · cases h
   | _ :: _ :: _ => cases h
theorem inst_spec {p q : Option Addr} {n c m d : Nat} {T : List Nd} {ss : List Sr} {t : Int} (hg : Gl σ) (hr : Ab 10 NG σ p n T) (hs : Ab 2 Bp σ q m ss) (hM : Modest T ss)
   (h : ∀ τ p' n' c' σ' bs,(instF T ss t).1 = 0 → aw t τ σ' p' n' c' (instF T ss t).2 bs → Ext σ τ → R (.returned (.tuple #[.slice p' n' c',.int .i64 0])) σ') (h' : ∀ σ',(instF T ss t).1 ≠ 0 → Ext σ σ' → R (.returned (.tuple #[.slice none 0 0,.int .i64 (instF T ss t).1])) σ') :
   Spec prog 11 #[.slice p n c,.slice q m d,.int .i64 t] σ R := by
 refine DW.start (Vh hr hs hM fun σ1 CO => ⟨_,rfl,fun A5 => ?_,fun h0 => PT ⟨_,rfl,fun htf => ?_,fun htt => ?_⟩⟩)
 · have e : instF T ss t = (FN T ss,[]) := by unfold instF; rw [if_pos A5]
   rw [e] at h'
   exact h' σ1 A5 CO
 · have e : instF T ss t = (221,[]) := by unfold instF; rw [if_neg h0,if_pos (of_decide_eq_false htf)]
   rw [e] at h'
   exact h' σ1 (by dsimp only; decide) CO
 have fy := Decidable.not_not.1 h0
 have ht := of_decide_eq_true htt
 obtain ⟨k,hk,hk3,Cz⟩ : ∃ k,Ld T = some k ∧ k ≠ 3 ∧ Cy none ss = true := by
   unfold FN at fy
   cases hq : Ld T with
   | none => rw [hq] at fy; dsimp only at fy; exact absurd fy (by decide)
   | some k =>
     rw [hq] at fy
     dsimp only at fy
     by_cases h3 : k = 3
     · rw [if_pos h3] at fy; exact absurd fy (by decide)
     · rw [if_neg h3] at fy
       cases ho : Cy none ss with
       | true => exact ⟨k,rfl,h3,rfl⟩
       | false => rw [ho] at fy; exact absurd fy (by decide)
 have hS := rv.of hM Cz
 obtain ⟨Cr,hlen⟩ := qM hk
 have hl : T.length = n := hr.1
 refine QI (hg.mono CO) (hr.mono NG.mono CO) (hs.mono Bp.mono CO) hS (by omega) (by omega) Cr (fun l p' n' c' σ2 hm A9 av => ⟨_,_,_,_,rfl,fun hh => absurd rfl hh,fun _ => ?_⟩) fun hm σ2 A9 => ⟨_,_,_,_,rfl,fun _ => ?_,fun hh => absurd (by decide) hh⟩
 · have e : instF T ss t = (0,l) := by unfold instF; rw [if_neg h0,if_neg (by rw [Decidable.not_not]; exact ht),hm]
   rw [e] at h
   dsimp only at h
   have hll : l.length = n' := av.1
   have hX := CO.trans A9
   obtain ⟨mo1,mo2⟩ := jl hS Cr hm
   have AOC : n' ≤ 100000000000 := by
     have := Nat.mul_le_mul hlen hS.ok.len
     omega
   suffices H : ∀ g i : Nat,∀ τ p1 n1 c1 σ3 bs,n' - i = g → i ≤ n' → aw t τ σ3 p1 n1 c1 (l.take i) bs → Ext σ2 τ → DW.QY R t p1 n1 c1 p' n' c' n' i σ3 from
     H n' 0 σ2 none 0 0 σ2 [] rfl (Nat.zero_le _) ⟨rfl,⟨[],BB.nil,by simp [Ch]⟩,fun i b e hb => (by simp at hb),fun a ha => (by cases ha),fun b hb => (by cases hb),List.nodup_nil,.refl _⟩ (.refl _)
   intro g
   induction g with
   | zero =>
     intro i τ p1 n1 c1 σ3 bs uc hi hA C5
     rw [List.take_of_length_le (by omega)] at hA
     exact DW.RA ⟨fun Aq => by omega,fun _ => h τ p1 n1 c1 σ3 bs rfl hA (hX.trans C5)⟩
   | succ g ih =>
     intro i τ p1 n1 c1 σ3 bs uc hi hA C5
     have B9 : i < n' := by omega
     obtain ⟨x,hx⟩ := av.ex B9
     obtain ⟨b,o,q1,m1,d1,rfl,Eb,Wz⟩ := CC.at av hx
     have hX3 := C5.trans hA.ext
     have ABY := Wz.mono Bs.mono hX3
     have de : m1 ≤ 1000000000 := by
       have := (mo1 x (List.mem_of_getElem? hx)).rd Wz
       omega
     have Zp : n1 = i := by
       obtain ⟨cs,a1,a2⟩ := hA.own
       have a3 := a1.1
       have a4 := a2.1
       rw [List.length_zip,hA.len,Nat.min_self,List.length_take] at a4
       omega
     have next : ∀ τ' p2 c2 σ4 bs',aw t τ' σ4 p2 (n1 + 1) c2 (l.take i ++ [x]) bs' → Ext τ τ' → AJ ((i : Int) + 1) ∧ DW.QY R t p2 (n1 + 1) c2 (aD b o) n' c' n' ((i : Int) + 1) σ4 := fun τ' p2 c2 σ4 bs' hA' NV =>
       ⟨AL B9 av.big,ih (i + 1) τ' p2 (n1 + 1) c2 σ4 bs' (by omega) (by omega) (by rw [Aa hx]; exact hA') (C5.trans NV)⟩
     refine DW.RA ⟨fun _ => ⟨b,o,rfl,by omega,q1,m1,d1,x.v,by simpa using Eb.mono hX3,fun _ => ⟨fun VE je => ⟨?_,fun QZ jm => ?_⟩,fun QZ jm VE je => ?_⟩⟩,fun hh => by omega⟩
     · refine FZ ABY de (fun kG kH y ho hy => ⟨_,_,_,rfl,fun QZ jm => aw.add hA hy (ho.rd Bs.mono) jm (by omega) fun τ' p2 c2 σ4 hA' NV => ⟨_,_,_,rfl,next _ _ _ _ _ hA' NV⟩⟩) je
     · have AIU := (Hp.AS jm)
       refine AK.Ap jm (FZ ABY de (fun kG kH y ho hy hny => ⟨_,_,_,rfl,aw.add hA hy (ho.rd Bs.mono) hny (by omega) fun τ' p2 c2 σ4 hA' NV => ⟨_,_,_,rfl,next _ _ _ _ _ hA' NV⟩⟩) je)
     · have ABa := (Hp.AS je)
       have AIU : (σ3.set VE (.cells #[] 56 (0,0))) QZ = none := by rw [Hp.AI (Ne.symm ABa.1)]; exact jm
       dsimp only
       rw [Hp.BQ (Ne.symm ABa.1)]
       refine AK.Ap AIU (FZ ABY de (fun kG kH y ho hy hny => ⟨_,_,_,rfl,aw.add hA hy (ho.rd Bs.mono) hny (by omega) fun τ' p2 c2 σ4 hA' NV => ⟨_,_,_,rfl,next _ _ _ _ _ hA' NV⟩⟩) ABa.2)
 · have e : instF T ss t = (223,[]) := by unfold instF; rw [if_neg h0,if_neg (by rw [Decidable.not_not]; exact ht),hm]
   rw [e] at h'
   exact h' σ2 (by dsimp only; decide) (CO.trans A9)
end
end TwW
end
section
namespace TwW
open Go Tw Go.RowKit Go.Proofs.Tryz
theorem BB.ABb {P : Program} {s : Nat} {σ : Hp} {b o n c j : Nat} {cs : List Value} {v : Value} {T : TypeId} {Φ : Unit → Hp → Prop} (ho : BB s σ (some ⟨b,o,none⟩) n c cs) (hj : j < n * s) (hz : ∀ w,(Go.sizeOf T).run P w = .ok 1 w) (hv : v.cells = #[v]) (h1 : v.oneCell' = true)
   (hΦ : ∀ obj,BB s (σ.set b obj) (some ⟨b,o,none⟩) n c (cs.set j v) → Φ () (σ.set b obj)) : AK P (Instr.storeAt T (.pointer (some ⟨b,o + j,none⟩)) v) σ Φ := by
 obtain ⟨hl,ye,h⟩ := ho
 rcases h with ⟨hp,_⟩ | ⟨b',o',arr,T',hp,hb,j5,GX,NU⟩
 · cases hp
 · cases hp
   have hns : n * s ≤ c * s := Nat.mul_le_mul_right s j5
   refine AK.store hz hb (by rw [hv]; rfl) (by omega) (by rw [hv]; simpa using h1) (hΦ _ ⟨by rw [List.length_set]; exact hl,ye,.inr ⟨b,o,_,T',rfl,Hp.AB _ _ _,j5,by simp [IB]; exact GX,?_⟩⟩)
   rw [hv,← NU]
   refine List.ext_getElem? fun i => ?_
   simp only [NT,Array.toList_setIfInBounds]
   rw [List.getElem?_take,List.getElem?_set,List.getElem?_take]
   by_cases hi : i < n * s
   · rw [if_pos hi,if_pos hi,List.getElem?_drop,List.getElem?_drop,List.getElem?_set]
     by_cases eZ : j = i
     · subst eZ
       have Aq : o + j < arr.size := by omega
       simp [Aq]
       exact Nat.lt_min.2 ⟨hj,by omega⟩
     · rw [if_neg (by omega),if_neg eZ]
   · rw [if_neg hi,if_neg hi]
     split
     · omega
     · rfl
theorem GK.one (σ : Hp) (vs : List Value) (x : Pt) (h : GK σ vs x) : Gd vs := by
 rw [show vs = [.int .i64 x.1,.int .u64 x.2] from h]
 intro u hu
 simp only [List.mem_cons,List.not_mem_nil,or_false] at hu
 rcases hu with rfl | rfl <;> rfl
section
variable {σ σ' σ0 : Hp} {R : Rr}
theorem Vi {T Et ty : TypeId} {s bs : Nat} [J2 prog T Et s bs] {q : Option Addr} {j c b : Nat} {cs : List Value} {Φ : Value → Hp → Prop} (NU : FC s σ q j cs) (h1 : Gd cs) (hb : j * bs ≤ 140737488355328)
   (hΦ : ∀ p' c' σ',BB s (σ.new σ') p' j c' cs → Ext σ σ' → Φ (.slice p' j c') σ') (hn : σ b = none) :
   AK prog (Builtin.append_ #[T,T] ty #[.slice (some ⟨b,0,none⟩) 0 0,.slice q j c]) (σ.set b (.cells #[] Et (0,0))) Φ := by
 refine DQ BB.empty (NU.mono (.set hn)) h1 (by rw [Nat.zero_add]; exact hb) fun p' c' σ' Bg JO => ?_
 have hq : ∀ a : Addr,(some (⟨b,0,none⟩ : Addr)) = some a → σ a.block = none := fun a ha => by cases ha; exact hn
 rw [Nat.zero_add] at Bg ⊢
 rw [List.nil_append] at Bg
 exact hΦ p' c' σ' (BB.Om Bg (FP hq JO (.set hn))) (I0 hq JO (.set hn))
theorem W3 {p : Option Addr} {n c : Nat} {ls : List Lb} (hr : Dq σ p n ls) (hn : n ≤ 1000000000) (h : ∀ p' c' σ',Dq (σ.new σ') p' n ls → Ext σ σ' → R (.returned (.slice p' n c')) σ') : Spec prog 33 #[.slice p n c] σ R :=
 Jn.start fun b hb => FZ hr hn (fun p' c' σ' ho hx => ⟨_,_,_,rfl,h p' c' σ' (ho.rd Bs.mono) hx⟩) hb
theorem W4 {p : Option Addr} {n c : Nat} {ps : List Pt} (hr : Ab 2 GK σ p n ps) (hn : n ≤ 1000000000) (h : ∀ p' c' σ',Ge 2 GK (σ.new σ') p' n c' ps → Ext σ σ' → R (.returned (.slice p' n c')) σ') : Spec prog 34 #[.slice p n c] σ R := by
 obtain ⟨h1,cs,h2,h3⟩ := hr
 exact Jg.start fun b hb => Vi h2 (Ch.ki GK.one h3 (by decide)) (by omega) (fun p' c' σ' ho hx => ⟨_,_,_,rfl,h p' c' σ' ⟨h1,cs,ho,h3.1,fun i x hx => h3.2 i x hx⟩ hx⟩) hb
theorem Bp.one (σ : Hp) (vs : List Value) (x : Sr) (h : Bp σ vs x) : Gd vs := by
 obtain ⟨p,n,c,q,m,d,rfl,_⟩ := h
 intro u hu
 simp only [List.mem_cons,List.not_mem_nil,or_false] at hu
 rcases hu with rfl | rfl <;> rfl
structure TOk (T : List Nd) : Prop where
 t : T.length ≤ 2000000
 mt : ∀ x ∈ T,x.mt.length ≤ 1000000000
 nm : ∀ x ∈ T,x.names.length ≤ 1000000000
structure SOk (ss : List Sr) : Prop where
 s : ss.length ≤ 1000000000000
 ls : ∀ s ∈ ss,s.ls.length ≤ 1000000000
 ps : ∀ s ∈ ss,s.ps.length ≤ 1000000000
theorem W5 {p : Option Addr} {n c : Nat} {ss : List Sr} (hr : Ab 2 Bp σ p n ss) (hS : SOk ss) (h : ∀ p' c' σ',Ab 2 Bp σ' p' n ss → Ext σ σ' → R (.returned (.slice p' n c')) σ') : Spec prog 13 #[.slice p n c] σ R := by
 have hl : ss.length = n := hr.1
 have ht := hS.s
 refine Cb.start ?_
 suffices H : ∀ g i : Nat,∀ p3 n3 c3 σ',n - i = g → i ≤ n → AW 2 Bp σ σ' p3 n3 c3 (ss.take i) → Cb.Bh R p n c p3 n3 c3 i σ' from H n 0 none 0 0 σ rfl (Nat.zero_le _) (AW.nil (.refl _))
 intro g
 induction g with
 | zero =>
   intro i p3 n3 c3 σ' hg hi ho
   rw [List.take_of_length_le (by omega)] at ho
   have rn : n = n3 := hl.symm.trans ho.1.1
   subst rn
   exact Cb.A3 ⟨fun Aq => by omega,fun _ => h p3 c3 σ' (ho.rd Bp.mono) ho.up⟩
 | succ g ih =>
   intro i p3 n3 c3 σ' hg hi ho
   have B9 : i < n := by omega
   obtain ⟨x,hx⟩ := hr.ex B9
   obtain ⟨b,o,p1,k1,c1,q1,m1,d1,rfl,Eb,H8,hps,yC⟩ := Bp.at hr hx
   have rq := List.mem_of_getElem? hx
   have a1 := hS.ls x rq
   have a2 := hS.ps x rq
   have a3 : x.ls.length = k1 := H8.1
   have a4 : x.ps.length = m1 := hps.1
   have rn : n3 = i := by have := ho.1.1; rw [List.length_take] at this; omega
   have AIW := Eb.mono ho.up
   refine Cb.A3 ⟨fun _ => ⟨b,o,rfl,by omega,p1,k1,c1,by simpa using AIW.1,by omega,q1,m1,d1,by simpa using AIW.2.1,W3 (H8.mono Bs.mono ho.up) (by omega) fun p4 c4 σ2 HN A9 => ⟨_,_,_,rfl,Kp.Ho A9,W4 ((hps.mono GK.mono ho.up).mono GK.mono A9) (by omega) fun p5 c5 σ3 dX C5 => ⟨_,_,_,rfl,fun RB AOE => ?_⟩⟩⟩,fun hh => by omega⟩
   have EB := ho.mono Bp.mono (A9.trans C5)
   have he : Bp (σ3.del p3) [.slice p4 k1 c4,.slice p5 m1 c5] x :=
     ⟨p4,k1,c4,p5,m1,c5,rfl,HN.mono Bs.mono ((Ext.IC C5).trans (ho.new (A9.trans C5))),(dX.rd GK.mono).mono GK.mono ((Ext.Ck A9).trans (ho.new (A9.trans C5))),by obtain ⟨cs,XN,_⟩ := dX.2; exact BB.cap XN⟩
   refine AW.Jt Bp.mono EB rfl (Bp.one _ _ _ he) he (by omega) (fun p' c' σ4 Mn _ => ⟨_,_,_,rfl,AL B9 hr.big,ih (i + 1) _ _ _ _ (by omega) (by omega) (by rw [Aa hx]; exact Mn)⟩) AOE
end
end TwW
end
section
namespace TwW
open Go Tw Go.RowKit Go.Proofs.Tryz
def Awk : Prop := ∀ (σ : Hp) (R : Rr),Gl σ → (∀ σ',Ext σ σ' → R (.returned (.bool true)) σ') → Spec prog 14 #[] σ R
end TwW
end
section
namespace TwW
open Go Tw Go.RowKit Go.Proofs.Tryz
def sX : ByteArray := ⟨#[120]⟩
def sA : ByteArray := ⟨#[97]⟩
def s1_ : ByteArray := ⟨#[49]⟩
def s2_ : ByteArray := ⟨#[50]⟩
def nV : Nd := ⟨2,0,ByteArray.mk #[],[⟨1,A4,sX⟩],0,0,0,[],false,0⟩
def nA : Nd := ⟨5,1,ByteArray.mk #[],[],0,0,0,[],false,1⟩
def T0 : List Nd := [nV,nA]
def ABd : List Lb := [(A4,sX),(sA,s1_)]
def ABe : List Lb := [(A4,sX),(sA,s2_)]
abbrev v1 : Int := 4607182418800017408
abbrev v3 : Int := 4613937818241073152
abbrev v5 : Int := 4617315517961601024
abbrev v8 : Int := 4620693217682128896
def ax : List Sr := [⟨ABd,[(0,v1),(60,v3)]⟩,⟨ABe,[(60,v5)]⟩]
theorem ty0 : Ld T0 = some 2 := by kernel_rfl
theorem AOF : Cy none ax = true := by kernel_rfl
theorem AIX : A7 FF T0 ax 60 = some [⟨[],v8⟩] := by kernel_rfl
theorem AOG : A7 FF T0 ax 0 = some [⟨[],v1⟩] := by kernel_rfl
theorem AOH : C8 T0 [] = some [2] := by kernel_rfl
theorem RI : Modest T0 ax := by
 refine ⟨by decide,fun x hx => ?_,by decide,fun s hs => ?_,fun s hs p hp => ?_⟩
 · simp only [T0,List.mem_cons,List.not_mem_nil,or_false] at hx
   rcases hx with rfl | rfl <;> decide
 · simp only [ax,List.mem_cons,List.not_mem_nil,or_false] at hs
   rcases hs with rfl | rfl <;> decide
 · simp only [ax,List.mem_cons,List.not_mem_nil,or_false] at hs
   rcases hs with rfl | rfl <;> simp at hp <;> (try rcases hp with rfl | rfl) <;> (try subst hp) <;> decide
theorem inst60 : instF T0 ax 60 = (0,[⟨[],v8⟩]) := by kernel_rfl
end TwW
end
section
namespace TwW
open Go Tw Go.RowKit Go.Proofs.Tryz
structure Bx where
 b5 : Nat
 b6 : Nat
 Cm : Nat
 BG : Nat
 Cn : Nat
 BY : Nat
 D : Nat
 l : Nat
 m : Nat
 p : Option Addr
 n : Nat
 c : Nat
 q : Option Addr
 k : Nat
 d : Nat
 r0 : Loop
abbrev Bx.L (X : Bx) (w : Option Addr) (k e : Nat) (lo : Loop) : List (Nat × Obj) :=
 [(X.l,.loop lo),(X.D,.deferred (some [])),(X.BY,.cells #[.slice w k e] 23 (0,0)),(X.Cn,.cells #[.map (some X.m)] 99 (0,0)),(X.BG,.cells #[.int .i64 0] 24 (0,0)),(X.Cm,.cells #[.slice none 0 0] 23 (0,0)),(X.b6,.cells #[.slice X.q X.k X.d] 23 (0,0)),(X.b5,.cells #[.slice X.p X.n X.c] 22 (0,0))]
abbrev Bx.bl (X : Bx) : List Nat := [X.l,X.D,X.BY,X.Cn,X.BG,X.Cm,X.b6,X.b5]
def Bx.nd (X : Bx) : Prop := X.bl.Nodup
def Bx.off (X : Bx) (B : Hp) : Prop := ∀ b ∈ X.bl,B b = none
theorem BB.here {s : Nat} {σ σ' : Hp} {p : Option Addr} {n c : Nat} {cs : List Value} (h : BB s σ p n c cs) (hs : ∀ a,p = some a → σ' a.block = σ a.block) : BB s σ' p n c cs := by
 obtain ⟨h1,h2,h3 | ⟨b,o,arr,T,rfl,hb,r⟩⟩ := h
 · exact ⟨h1,h2,.inl h3⟩
 · exact ⟨h1,h2,.inr ⟨b,o,arr,T,rfl,(hs _ rfl).trans hb,r⟩⟩
theorem vo {A B : Hp} {L : List (Nat × Obj)} {i b : Nat} {o : Obj} (hn : (names L).Nodup) (hi : L[i]? = some (b,o)) : Kp [b] (A2 A L) (A2 B L) := fun x hx u hu => by
 rw [List.mem_singleton] at hx; subst hx
 rw [E3 hn hi] at hu ⊢; exact hu
structure St (σ B : Hp) (m b o e k : Nat) : Prop where
 ext : Ext σ B
 own : ∃ pl cl pp cc ds,BB 2 B (some ⟨b,o,none⟩) 1 e [.slice pl 0 cl,.slice pp k cc] ∧ BB 2 B pp k cc ds ∧ (∀ a,pp = some a → a.block ≠ b ∧ a.block ≠ m ∧ σ a.block = none)
 map : MS (fun v _ => v = .int .i64 0) B m [(D8 [],(0 : Int))]
 hb : σ b = none
 hm : σ m = none
 ne : m ≠ b
theorem St.mono {σ B B' : Hp} {m b o e k : Nat} (h : St σ B m b o e k) (hx : Ext B B') : St σ B' m b o e k :=
 ⟨h.ext.trans hx,let ⟨pl,cl,pp,cc,ds,h1,h2,h3⟩ := h.own; ⟨pl,cl,pp,cc,ds,h1.mono hx,h2.mono hx,h3⟩,h.map.mono hx,h.hb,h.hm,h.ne⟩
theorem ABf (w : World) : (Go.sizeOf 71).run prog w = .ok 2 w := by kernel_rfl
theorem ABg (w : World) : (Go.sizeOf 38).run prog w = .ok 1 w := by kernel_rfl
theorem gS (w : World) : (Go.sizeOf 23).run prog w = .ok 1 w := by kernel_rfl
theorem u7 (w : World) : (Go.sizeOf 24).run prog w = .ok 1 w := by kernel_rfl
section
variable {σ B : Hp} {R : Rr} {X : Bx}
theorem Tz {Cc b o e k YD aX : Nat} {t v : Int} {vl : Value} {j9 : Option Addr} (hn : (Cc :: X.bl).Nodup) (Ua : X.off B) (h19 : B Cc = none) (h : St σ B X.m b o e k) (hk : k ≤ 10)
   (next : ∀ B',X.off B' → St σ B' X.m b o e (k + 1) → R (.returned (.bool true)) (A2 B' (X.L (some ⟨b,o,none⟩) 1 e (lp X.r0 .ready none)))) :
   CA.sd R X.l X.r0 X.Cn X.BY t Cc 0 j9 YD aX 1 0 (A2 B ((Cc,.cells #[vl,.int .u64 v] 71 (0,0)) :: X.L (some ⟨b,o,none⟩) 1 e (lp X.r0 .busy none))) := by
 obtain ⟨pl,cl,pp,cc,ds,h1,h2,h3⟩ := h.own
 let L : List (Nat × Obj) := (Cc,.cells #[vl,.int .u64 v] 71 (0,0)) :: X.L (some ⟨b,o,none⟩) 1 e (lp X.r0 .busy none)
 have hL : (names L).Nodup := hn
 have ho : P5 L B := fun x hx => by
   rcases List.mem_cons.1 hx with rfl | hx
   · exact h19
   · exact Ua x hx
 have xy : Ext B (A2 B L) := P5.ext hL ho
 have e14 : Hp.ld (A2 B L) ⟨X.BY,0,none⟩ = some (.slice (some ⟨b,o,none⟩) 1 e) := ZJ (i := 3) hL rfl rfl
 have Eb : Hp.ld (A2 B L) ⟨b,(o + Int.toNat 0 * 2) + 1,none⟩ = some (.slice pp k cc) := by
   obtain ⟨_,_,h0 | ⟨b',o',hp,hl⟩⟩ := h1.rd.mono xy
   · cases h0
   · cases hp
     simpa using hl.2.1
 refine CA.sr ⟨_,1,e,e14,_,1,e,e14,b,o,rfl,by decide,pp,k,cc,Eb,v,ZJ (i := 0) hL rfl rfl,fun O3 AOJ => ?_⟩
 obtain ⟨n109,hB9⟩ := CN (L := L) AOJ
 have x9 := Ext.set (o := .cells #[.int .i64 t,.int .u64 v] 50 (0,0)) hB9
 show AK prog (Builtin.append_ #[38,38] 38 #[.slice pp k cc,.slice (some ⟨O3,0,none⟩) 1 1]) ((A2 B L).set O3 (.cells #[.int .i64 t,.int .u64 v] 50 (0,0))) _
 rw [HG n109]
 have key : ∀ y,B y ≠ none → (∀ a,pp = some a → y ≠ a.block) → ∀ (p' : Option Addr) (σ5 : Hp),Ext ((B.set O3 (.cells #[.int .i64 t,.int .u64 v] 50 (0,0))).del pp) (σ5.del p') → σ5 y = B y ∧ ∀ a,p' = some a → y ≠ a.block := fun y hy A5 p' σ5 hx => by
   cases hh : B y with
   | none => exact absurd hh hy
   | some u =>
     obtain ⟨a1,a2⟩ := AR.1 (hx y u (AR.2 ⟨A5,x9 _ _ hh⟩))
     exact ⟨a2,a1⟩
 have hbB : B b ≠ none := h1.block _ rfl
 have hmB := h.map.known
 refine AK.E4 hL (ho.set n109) (DQ (h2.mono x9) (q := some ⟨O3,0,none⟩) (ys := [.int .i64 t,.int .u64 v]) ⟨rfl,by omega,.inr ⟨O3,0,rfl,Ay.GD (c := [.int .i64 t,.int .u64 v]) (Hp.AB _ _ _)⟩⟩ (fun u hu => by
   simp only [List.mem_cons,List.not_mem_nil,or_false] at hu
   rcases hu with rfl | rfl <;> rfl) (by omega) fun p' c' σ5 RD Ud AIY => ⟨p',k + 1,c',rfl,vo (i := 3) hL rfl,b,o,rfl,by decide,?_⟩)
 obtain ⟨kb1,kb2⟩ := key b hbB (fun a ha e => (h3 a ha).1 e.symm) p' σ5 Ud
 obtain ⟨km1,km2⟩ := key X.m hmB (fun a ha e => (h3 a ha).2.1 e.symm) p' σ5 Ud
 have AOK : Ext σ σ5 := fun y u hy => by
   obtain ⟨a1,_⟩ := key y (by rw [h.ext _ _ hy]; simp) (fun a ha e => by rw [e,(h3 a ha).2.2] at hy; cases hy) p' σ5 Ud
   rw [a1]; exact h.ext _ _ hy
 have h15 : BB 2 σ5 (some ⟨b,o,none⟩) 1 e [.slice pl 0 cl,.slice pp k cc] := BB.here h1 fun a ha => by cases ha; exact kb1
 rw [show (o + Int.toNat 0 * 2) + 1 = o + 1 by simp]
 refine AK.E4 hL AIY (BB.ABb h15 (j := 1) (by decide) ABg rfl rfl fun obj h16 gT => ⟨by unfold AJ; omega,?_⟩)
 have gT : P5 L (σ5.set b obj) := gT
 refine CA.Q4 ⟨fun hh => absurd hh (by decide),fun _ => ⟨E3 (L := L) (i := 1) hL rfl,?_⟩⟩
 have AOL : (σ5.set b obj) Cc = none := gT Cc (List.mem_cons_self ..)
 have n19 : Cc ∉ X.bl := (List.nodup_cons.1 hn).1
 have hX : X.nd := (List.nodup_cons.1 hn).2
 have e1 : (A2 (σ5.set b obj) L).set X.l (.loop (lp X.r0 .ready none)) = A2 ((σ5.set b obj).set Cc (.cells #[vl,.int .u64 v] 71 (0,0))) (X.L (some ⟨b,o,none⟩) 1 e (lp X.r0 .ready none)) := by
   rw [N4 (L := L) (i := 1) hL rfl]
   exact HG (L := X.L (some ⟨b,o,none⟩) 1 e (lp X.r0 .ready none)) n19
 rw [e1]
 have DU := Ext.set (o := .cells #[vl,.int .u64 v] 71 (0,0)) AOL
 refine next _ (fun y hy => ?_) (St.mono ⟨?_,⟨pl,cl,p',c',_,h16,BB.here RD ?_,fun a ha => ⟨?_,?_,?_⟩⟩,h.map.loc ?_,h.hb,h.hm,h.ne⟩ DU)
 · rw [Hp.AI (show y ≠ Cc from fun e => n19 (e ▸ hy))]; exact gT y (List.mem_cons_of_mem _ hy)
 · intro y u hy
   rw [Hp.AI (fun e => by rw [e,h.hb] at hy; cases hy)]; exact AOK y u hy
 · intro a ha
   exact Hp.AI (fun e => kb2 a ha e.symm)
 · exact fun e => kb2 a ha e.symm
 · exact fun e => km2 a ha e.symm
 · cases hh : σ a.block with
   | none => rfl
   | some u =>
     exfalso
     exact (key a.block (by rw [h.ext _ _ hh]; simp) (fun a' au e => by rw [e,(h3 a' au).2.2] at hh; cases hh) p' σ5 Ud).2 a ha rfl
 · rw [Hp.AI h.ne]; exact km1
theorem jn {w : Option Addr} {k e : Nat} {x v : Int} (hn : X.nd) (Ua : X.off B) (hx : Ext σ B) (hg : Gl σ) (hr : Ab 10 NG σ X.p X.n T0) (hs : Ab 2 Bp σ X.q X.k ax) (hM : A7 FF T0 ax x = some [⟨[],v⟩]) (ru : 0 ≤ x ∧ x ≤ 60)
   (next : ∀ B' p1 c1,Ext B B' → X.off B' → Ab 2 CC B' p1 1 [⟨[],v⟩] → CA.QQ R X.l X.r0 X.Cn X.BY x p1 1 c1 1 0 (A2 B' (X.L w k e (lp X.r0 .busy none)))) :
   CA.J6 R X.l X.r0 X.b5 X.b6 X.Cm X.BG X.Cn X.BY x (A2 B (X.L w k e (lp X.r0 .ready none))) := by
 have hL : (names (X.L w k e (lp X.r0 .busy none))).Nodup := hn
 have hL' : (names (X.L w k e (lp X.r0 .ready none))).Nodup := hn
 have el : (A2 B (X.L w k e (lp X.r0 .ready none))).set X.l (.loop (lp X.r0 .busy none)) = A2 B (X.L w k e (lp X.r0 .busy none)) := Hp.set_set
 have Wx : T0.length = X.n := hr.1
 have hl3 : T0.length = 2 := rfl
 have QJ : rv ax := rv.of (T := T0) RI AOF
 refine CA.Lw ⟨E3 (i := 0) hL' rfl,?_⟩
 rw [el]
 refine ⟨X.p,X.n,X.c,ZJ (i := 7) hL rfl rfl,X.q,X.k,X.d,ZJ (i := 6) hL rfl rfl,?_⟩
 refine Spec.E4 hL Ua (QI (hg.mono hx) (hr.mono NG.mono hx) (hs.mono Bp.mono hx) QJ (by omega) (by omega) AOH (fun l p' n' c' σ1 hm CO av Li => ?_) fun hm => ?_)
 · rw [hM] at hm; cases hm
   have Zp : 1 = n' := av.1
   subst Zp
   exact ⟨_,_,_,_,rfl,fun hh => absurd rfl hh,fun _ => next σ1 p' c' CO Li av⟩
 · rw [hM] at hm; cases hm
def vA (σ B : Hp) (m : Nat) (w : Option Addr) (j e k : Nat) : Prop :=
 (k = 0 ∧ w = none ∧ j = 0 ∧ e = 0 ∧ Ext σ B ∧ σ m = none ∧ MS (fun v _ => v = .int .i64 0) B m ([] : List (ByteArray × Int))) ∨ (0 < k ∧ ∃ b o,w = some ⟨b,o,none⟩ ∧ j = 1 ∧ St σ B m b o e k)
theorem vA.ext {m j e k : Nat} {w : Option Addr} (h : vA σ B m w j e k) : Ext σ B := by
 rcases h with ⟨_,_,_,_,hx,_⟩ | ⟨_,b,o,_,_,h⟩
 · exact hx
 · exact h.ext
theorem vA.mono {B' : Hp} {m j e k : Nat} {w : Option Addr} (h : vA σ B m w j e k) (hx : Ext B B') : vA σ B' m w j e k := by
 rcases h with ⟨h0,h1,h2,h3,h4,h5,h6⟩ | ⟨h0,b,o,h1,h2,h⟩
 · exact .inl ⟨h0,h1,h2,h3,h4.trans hx,h5,h6.mono hx⟩
 · exact .inr ⟨h0,b,o,h1,h2,h.mono hx⟩
theorem df {w p1 : Option Addr} {j e k c1 : Nat} {t v : Int} (hn : X.nd) (Ua : X.off B) (h : vA σ B X.m w j e k) (hk : k ≤ 10) (hr : Ab 2 CC B p1 1 [⟨[],v⟩])
   (next : ∀ B' b o e',X.off B' → St σ B' X.m b o e' (k + 1) → R (.returned (.bool true)) (A2 B' (X.L (some ⟨b,o,none⟩) 1 e' (lp X.r0 .ready none)))) :
   CA.QQ R X.l X.r0 X.Cn X.BY t p1 1 c1 1 0 (A2 B (X.L w j e (lp X.r0 .busy none))) := by
 have hL : (names (X.L w j e (lp X.r0 .busy none))).Nodup := hn
 have xy : Ext B (A2 B (X.L w j e (lp X.r0 .busy none))) := P5.ext hL Ua
 obtain ⟨WC,lV,q,m',d,rfl,hl,av⟩ := CC.at hr (i := 0) (x := ⟨[],v⟩) rfl
 have hm0 : 0 = m' := av.1
 subst hm0
 refine CA.Q4 ⟨fun _ => ⟨WC,lV,rfl,by decide,q,0,d,v,by simpa using hl.mono xy,fun Cc h19 => ?_⟩,fun hh => absurd (by decide) hh⟩
 obtain ⟨n19,AOM⟩ := CN (L := X.L w j e (lp X.r0 .busy none)) h19
 have Ty : (Cc :: X.bl).Nodup := List.nodup_cons.2 ⟨n19,hn⟩
 let L : Value → List (Nat × Obj) := fun lo => (Cc,.cells #[.slice q 0 d,.int .u64 v] 71 (0,0)) :: X.L w j e (lp X.r0 .busy none)
 let L0 : List (Nat × Obj) := (Cc,.cells #[.slice none 0 0,.int .u64 0] 71 (0,0)) :: X.L w j e (lp X.r0 .busy none)
 let L1 : List (Nat × Obj) := (Cc,.cells #[.slice q 0 d,.int .u64 v] 71 (0,0)) :: X.L w j e (lp X.r0 .busy none)
 have ay : (names L1).Nodup := Ty
 have Li : ∀ {B'},X.off B' → B' Cc = none → P5 L1 B' := fun ho h9 x hx => by
   rcases List.mem_cons.1 hx with rfl | hx
   · exact h9
   · exact ho x hx
 show AK prog (Instr.storeAt 71 (.pointer (some ⟨Cc,0,none⟩)) (.agg #[.slice q 0 d,.int .u64 v])) (A2 B L0) _
 refine AK.TL (L := L0) (i := 0) (c := #[.slice none 0 0,.int .u64 0]) (c' := #[.slice q 0 d,.int .u64 v]) ABf Ty rfl rfl rfl rfl rfl ?_
 show ∃ cE : Option Nat,Hp.ld (A2 B L1) ⟨X.Cn,0,none⟩ = some (.map cE) ∧ ∃ lZ : Option Addr,∃ lf : Nat,∃ lg : Nat,Hp.ld (A2 B L1) ⟨Cc,0,none⟩ = some (.slice lZ lf lg) ∧ Spec prog 49 #[.slice lZ lf lg] (A2 B L1) _
 have AIZ : ∀ {B' : Hp} {R' : Rr},Ext B B' → X.off B' → B' Cc = none → (∀ B2,Ext B' B2 → X.off B2 → B2 Cc = none → R' (.returned (.string (D8 []))) (A2 B2 L1)) → Spec prog 49 #[.slice q 0 d] (A2 B' L1) R' := fun hx ho h9 hh =>
   Spec.E4 ay (Li ho h9) (Fa (av.mono Bs.mono hx) ⟨Nat.zero_le _,fun x hx => by cases hx⟩ fun B2 A9 Ba => hh B2 A9 (fun x hx => Ba x (List.mem_cons_of_mem _ hx)) (Ba Cc (List.mem_cons_self ..)))
 refine ⟨some X.m,ZJ (L := L1) (i := 4) ay rfl rfl,q,0,d,ZJ (L := L1) (i := 0) ay rfl rfl,AIZ (.refl _) Ua AOM fun B2 A9 Ba h92 => ⟨_,rfl,vo (L := L1) (i := 4) ay rfl,?_⟩⟩
 have AIa : Ext B2 (A2 B2 L1) := P5.ext ay (Li Ba h92)
 rcases (h.mono A9) with ⟨rfl,rfl,rfl,rfl,zS,hm,kX⟩ | ⟨hk0,b,o,rfl,rfl,Cj⟩
 · refine (kX.mono AIa).Zc (z := .int .i64 0) (fun w => by kernel_rfl) (fun EA => ⟨0,false,rfl,fun _ => ?_,fun hh => (by cases hh)⟩) fun v' x' hh => (by cases hh)
   refine ⟨none,0,0,ZJ (L := L1) (i := 3) ay rfl rfl,some X.m,ZJ (L := L1) (i := 4) ay rfl rfl,q,0,d,ZJ (L := L1) (i := 0) ay rfl rfl,AIZ A9 Ba h92 fun B3 C5 EB h93 => ⟨_,rfl,vo (L := L1) (i := 4) ay rfl,?_⟩⟩
   refine AK.E4 ay (Li EB h93) ((kX.mono C5).put (x := (0 : Int)) rfl fun om hm4 AOO => ?_)
   have Mn : P5 L1 (B3.set X.m om) := AOO
   have yJ : MS (fun v _ => v = .int .i64 0) (B3.set X.m om) X.m [(D8 [],(0 : Int))] := hm4
   have ABL : Ext σ (B3.set X.m om) := fun y u hy => by
     rw [Hp.AI (show y ≠ X.m from fun e => by rw [e,hm] at hy; cases hy)]; exact C5 _ _ (zS _ _ hy)
   have AOP : Dq (B3.set X.m om) q 0 [] := Ab.nil
   refine ⟨none,0,0,ZJ (L := L1) (i := 3) ay rfl rfl,q,0,d,ZJ (L := L1) (i := 0) ay rfl rfl,fun kB h91 => ?_⟩
   obtain ⟨n91,AOQ⟩ := CN (L := L1) h91
   rw [HG n91]
   refine AK.E4 ay (Mn.set n91) (FZ AOP (by decide) (fun p5 c5 B5 RD Ud ABh => ⟨p5,0,c5,rfl,vo (L := L1) (i := 3) ay rfl,fun sq h96 => ?_⟩) AOQ)
   obtain ⟨n96,AOR⟩ := CN (L := L1) h96
   have ABh : P5 L1 B5 := ABh
   rw [HG n96]
   refine AK.E4 ay (ABh.set n96) (DQ (BB.nil (s := 2)) (q := some ⟨sq,0,none⟩) (ys := [.slice p5 0 c5,.slice none 0 0]) ⟨rfl,by omega,.inr ⟨sq,0,rfl,Ay.GD (c := [.slice p5 0 c5,.slice none 0 0]) (Hp.AB _ _ _)⟩⟩ (fun u hu => by
     simp only [List.mem_cons,List.not_mem_nil,or_false] at hu
     rcases hu with rfl | rfl <;> rfl) (by decide) fun p6 c6 B6 ho6 hx6 AIb => ⟨p6,1,c6,rfl,?_⟩)
   obtain ⟨b,o,rfl⟩ : ∃ b o,p6 = some ⟨b,o,none⟩ := by
     rcases ho6.2.2 with ⟨_,h2,_⟩ | ⟨b,o,_,_,hp,_⟩
     · cases h2
     · exact ⟨b,o,hp⟩
   have kk : ∀ y u,B5 y = some u → B6 y = some u ∧ y ≠ b := fun y u hy => by
     obtain ⟨a1,a2⟩ := AR.1 (hx6 y u (AR.2 ⟨fun a ha => (by cases ha),Ext.set AOR _ _ hy⟩))
     exact ⟨a2,fun e => a1 _ rfl e⟩
   refine AK.TL (L := L1) (i := 3) (c := #[.slice none 0 0]) (c' := #[.slice (some ⟨b,o,none⟩) 1 c6]) gS ay rfl rfl rfl rfl rfl ?_
   have rJ : ∃ u,B5 X.m = some u := by
     cases hh : B5 X.m with
     | none => exact absurd hh (yJ.mono Ud).known
     | some u => exact ⟨u,rfl⟩
   obtain ⟨um,hum⟩ := rJ
   have Cj : St σ B6 X.m b o c6 0 := ⟨fun y u hy => (kk y u (Ud _ _ (ABL _ _ hy))).1,⟨p5,c5,none,0,[],ho6,BB.nil,fun a ha => (by cases ha)⟩,(yJ.mono Ud).loc (by rw [(kk _ _ hum).1,hum]),?_,hm,(kk _ _ hum).2⟩
   · exact Tz Ty (fun x hx => AIb x (List.mem_cons_of_mem _ hx)) (AIb Cc (List.mem_cons_self ..)) Cj (by decide) fun B7 ho7 AOS => next B7 b o c6 ho7 AOS
   · cases hh : σ b with
     | none => rfl
     | some u => exact absurd rfl (kk b u (Ud _ _ (ABL _ _ hh))).2
 · refine (Cj.map.mono AIa).Zc (z := .int .i64 0) (fun w => by kernel_rfl) (fun EA => by simp [C6] at EA) fun v' x' hh hv => ?_
   subst hv
   exact ⟨0,true,rfl,fun hh => (by cases hh),fun _ => Tz Ty Ba h92 Cj hk fun B3 EB AOT => next B3 b o e EB AOT⟩
end
end TwW
end
section
namespace TwW
open Go Tw Go.RowKit Go.Proofs.Tryz
theorem AIc : FN T0 ax = 0 := by kernel_rfl
theorem jo [FB] {R : Rr} {σ : Hp} {p q : Option Addr} {c d : Nat} {p1 q1 : Option Addr} {n1 c1 m1 d1 : Nat} (h : ∀ σ',Ext σ σ' → R (.returned (.int .i64 0)) σ') : Spec prog 51 #[.agg #[.slice p 0 c,.slice p1 n1 c1],.agg #[.slice q 0 d,.slice q1 m1 d1]] σ R :=
 Nz.start fun _ _ => ME (ls := []) (ms := []) Ab.nil Ab.nil fun σ' hx => ⟨_,rfl,h σ' hx⟩
theorem jq {R : Rr} {σ0 : Hp} {b1 b2 b3 l : Nat} {I : Nat → Hp → Prop} (h0 : I 0 σ0) (hI : ∀ j σ,I j σ → Hp.ld σ ⟨b1,0,none⟩ = some (.int .i64 0) ∧ Hp.ld σ ⟨b2,0,none⟩ = some (.int .i64 60) ∧ Hp.ld σ ⟨b3,0,none⟩ = some (.int .i64 60))
   (s0 : ∀ σ,I 0 σ → ID prog l #[.int .i64 0] σ (fun e σ' => e = .returned (.bool true) ∧ I 1 σ')) (s1 : ∀ σ,I 1 σ → ID prog l #[.int .i64 60] σ (fun e σ' => e = .returned (.bool true) ∧ I 2 σ')) (ko : ∀ σ,I 2 σ → R (.returned (.tuple #[])) σ) :
   Spec prog 71 #[.func (.yield l) #[] #[],.pointer (aD b1 0),.pointer (aD b2 0),.pointer (aD b3 0)] σ0 R := by
 obtain ⟨a1,a2,a3⟩ := hI 0 σ0 h0
 refine CM.start ⟨0,a1,CM.PA ⟨l,rfl,(s0 σ0 h0).mono fun e σ1 he => ?_⟩⟩
 obtain ⟨rfl,hi⟩ := he
 obtain ⟨c1,c2,c3⟩ := hI 1 σ1 hi
 refine ⟨true,rfl,fun _ => ⟨60,c2,60,c3,by unfold AJ; omega,fun _ => ⟨60,c2,by unfold AJ; omega,CM.PA ⟨l,rfl,(s1 σ1 hi).mono fun e σ2 he => ?_⟩⟩,fun hh => absurd (by decide) hh⟩,fun hh => absurd hh (by decide)⟩
 obtain ⟨rfl,hi2⟩ := he
 obtain ⟨d1,d2,d3⟩ := hI 2 σ2 hi2
 exact ⟨true,rfl,fun _ => ⟨60,d2,60,d3,by unfold AJ; omega,fun hh => absurd hh (by decide),fun _ => ko σ2 hi2⟩,fun hh => absurd hh (by decide)⟩
section
variable {σ : Hp} {R : Rr}
theorem AOU : Sort.SWO (Proofs.ltOf fun (_ _ : Unit) => (0 : Int)) := ⟨fun _ => rfl,fun _ _ _ h => (by cases h),fun _ _ _ _ _ => rfl⟩
theorem qN {p q : Option Addr} {n c k d : Nat} (hg : Gl σ) (hr : Ab 10 NG σ p n T0) (hs : Ab 2 Bp σ q k ax) (h : ∀ b o e p2 c2 σ',Ext σ σ' → Hp.ld σ' ⟨b,o + 1,none⟩ = some (.slice p2 2 c2) → R (.returned (.tuple #[.slice (some ⟨b,o,none⟩) 1 e,.int .i64 0])) σ') :
   Spec prog 35 #[.slice p n c,.slice q k d,.int .i64 0,.int .i64 60,.int .i64 60] σ R := by
 refine CA.start fun b5 hb5 b6 hb6 Cm ABi BG Tx => ?_
 let L1 : List (Nat × Obj) := [(b5,.cells #[.slice p n c] 22 (0,0))]
 let L2 : List (Nat × Obj) := (b6,.cells #[.slice q k d] 23 (0,0)) :: L1
 let L3 : List (Nat × Obj) := (Cm,.cells #[.slice none 0 0] 23 (0,0)) :: L2
 let L4 : List (Nat × Obj) := (BG,.cells #[.int .i64 0] 24 (0,0)) :: L3
 obtain ⟨n6,h6⟩ := CN (L := L1) hb6
 obtain ⟨n10,TP⟩ := CN (L := L2) ABi
 obtain ⟨n11,gJ⟩ := CN (L := L3) Tx
 have kP : (names L4).Nodup := List.nodup_cons.2 ⟨n11,List.nodup_cons.2 ⟨n10,List.nodup_cons.2 ⟨n6,by simp [L1,names]⟩⟩⟩
 have Mn : P5 L4 σ := fun b hb => by
   simp only [L4,L3,L2,L1,names,List.map_cons,List.map_nil,List.mem_cons,List.not_mem_nil,or_false] at hb
   rcases hb with rfl | rfl | rfl | rfl
   · exact gJ
   · exact TP
   · exact h6
   · exact hb5
 refine ⟨p,n,c,ZJ (L := L4) (i := 3) kP rfl rfl,q,k,d,ZJ (L := L4) (i := 2) kP rfl rfl,?_⟩
 show Spec prog 28 #[.slice p n c,.slice q k d] (A2 σ L4) _
 refine Spec.E4 kP Mn (Vh hr hs RI fun σ1 CO Li => ⟨_,rfl,fun A5 => absurd AIc A5,fun _ => PT ⟨_,rfl,fun hh => absurd hh (by decide),fun _ => PT ⟨_,rfl,fun hh => absurd hh (by decide),fun _ => ⟨fun hh => absurd hh (by decide),fun _ => ⟨fun hh => absurd hh (by decide),fun _ => ⟨by unfold AJ; omega,by decide,fun Rp e49 => ⟨fun hh => ?_,fun _ => ?_⟩⟩⟩⟩⟩⟩⟩)
 · have e1 : Rp = 1 := e49.trans (by decide)
   rw [e1] at hh; exact absurd hh (by decide)
 have Li : P5 L4 σ1 := Li
 refine AK.E4 kP Li (EW fun m hm qO => ⟨m,rfl,fun Cn AOV => ?_⟩)
 have qO : P5 L4 (σ1.set m (.map #[] 0)) := qO
 have xm := Ext.set (o := .map #[] 0) hm
 have AOW : σ m = none := BE CO hm
 obtain ⟨n13,h13⟩ := CN (L := L4) AOV
 let L5 : List (Nat × Obj) := (Cn,.cells #[.map none] 99 (0,0)) :: L4
 let L5' : List (Nat × Obj) := (Cn,.cells #[.map (some m)] 99 (0,0)) :: L4
 have hn5 : (names L5').Nodup := List.nodup_cons.2 ⟨n13,kP⟩
 show AK prog (Instr.storeAt 99 (.pointer (some ⟨Cn,0,none⟩)) (.map (some m))) (A2 (σ1.set m (.map #[] 0)) L5) _
 refine AK.TL (L := L5) (i := 0) (c := #[.map none]) (c' := #[.map (some m)]) (fun w => by kernel_rfl) (List.nodup_cons.2 ⟨n13,kP⟩) rfl rfl rfl rfl rfl fun BY AOY => ?_
 obtain ⟨n14,h14⟩ := CN (L := L5') AOY
 let L6 : List (Nat × Obj) := (BY,.cells #[.slice none 0 0] 23 (0,0)) :: L5'
 have hn6 : (names L6).Nodup := List.nodup_cons.2 ⟨n14,hn5⟩
 have ho6 : P5 L6 (σ1.set m (.map #[] 0)) := fun b hb => by
   rcases List.mem_cons.1 hb with rfl | hb
   · exact h14
   rcases List.mem_cons.1 hb with rfl | hb
   · exact h13
   exact qO b hb
 show Spec prog 48 #[.int .i64 0,.int .i64 60,.int .i64 60] (A2 (σ1.set m (.map #[] 0)) L6) _
 refine Spec.E4 hn6 ho6 (No.start fun c3 hc3 c4 hc4 c5 hc5 qP => ⟨_,_,_,rfl,_,_,rfl,CM.en,fun D l r0 hDl hD hl hy => ?_⟩)
 have qP : P5 L6 ((((σ1.set m (.map #[] 0)).set c3 (.cells #[.int .i64 0] 2 (0,0))).set c4 (.cells #[.int .i64 60] 2 (0,0))).set c5 (.cells #[.int .i64 60] 2 (0,0))) := qP
 have x3 := Ext.set (o := .cells #[.int .i64 0] 2 (0,0)) hc3
 have x4 := Ext.set (o := .cells #[.int .i64 60] 2 (0,0)) hc4
 have x5 := Ext.set (o := .cells #[.int .i64 60] 2 (0,0)) hc5
 have g3 := (x4.trans x5) c3 _ (Hp.AB _ _ _)
 have g4 := x5 c4 _ (Hp.AB _ _ _)
 have g5 : ((((σ1.set m (.map #[] 0)).set c3 (.cells #[.int .i64 0] 2 (0,0))).set c4 (.cells #[.int .i64 60] 2 (0,0))).set c5 (.cells #[.int .i64 60] 2 (0,0))) c5 = some (.cells #[.int .i64 60] 2 (0,0)) := Hp.AB _ _ _
 have AOZ : MS (fun v _ => v = .int .i64 0) _ m ([] : List (ByteArray × Int)) := (MS.fresh (E := fun v _ => v = .int .i64 0) (σ := σ1)).mono (x3.trans (x4.trans x5))
 have gm := (x3.trans (x4.trans x5)) m _ (Hp.AB _ _ _)
 have xy := CO.trans (xm.trans (x3.trans (x4.trans x5)))
 generalize hB0 : ((((σ1.set m (.map #[] 0)).set c3 (.cells #[.int .i64 0] 2 (0,0))).set c4 (.cells #[.int .i64 60] 2 (0,0))).set c5 (.cells #[.int .i64 60] 2 (0,0))) = B0 at *
 clear x3 x4 x5 hc3 hc4 hc5 xm
 obtain ⟨nD,hDB⟩ := CN (L := L6) hD
 obtain ⟨nl,hlB⟩ := CN (L := L6) hl
 let X : Bx := ⟨b5,b6,Cm,BG,Cn,BY,D,l,m,p,n,c,q,k,d,r0⟩
 have hX : X.nd := List.nodup_cons.2 ⟨fun hm => by
   rcases List.mem_cons.1 hm with e | hm
   · exact hDl e.symm
   · exact nl hm,List.nodup_cons.2 ⟨nD,hn6⟩⟩
 have hoX : X.off B0 := fun b hb => by
   rcases List.mem_cons.1 hb with rfl | hb
   · exact hlB
   rcases List.mem_cons.1 hb with rfl | hb
   · exact hDB
   exact qP b hb
 let σb := B0.del (some ⟨m,0,none⟩)
 have pS : σb m = none := by
   cases hh : σb m with
   | none => rfl
   | some u => exact absurd rfl ((AR.1 hh).1 _ rfl)
 have xb : Ext σb B0 := Ext.Iy _ _
 have xσ : Ext σ σb := fun y u hy => AR.2 ⟨fun a ha e => (by cases ha; rw [e,AOW] at hy; cases hy),xy _ _ hy⟩
 have db : ∀ {y : Nat} {a : Array Value} {t : Nat},B0 y = some (.cells a t (0,0)) → σb y = some (.cells a t (0,0)) := fun {y a t} hy => AR.2 ⟨fun a' ha e => (by cases ha; rw [e,gm] at hy; cases hy),hy⟩
 show Spec prog 71 #[.func (.yield l) #[] #[],.pointer (aD c3 0),.pointer (aD c5 0),.pointer (aD c4 0)] (A2 B0 (X.L none 0 0 (lp X.r0 .ready none))) _
 have AOa : ∀ {B w j e lo},X.off B → Ext B (A2 B (X.L w j e lo)) := fun {B w j e lo} ho => P5.ext (L := X.L w j e lo) hX ho
 have step : ∀ (x v : Int) (j : Nat),j ≤ 10 → 0 ≤ x ∧ x ≤ 60 → A7 FF T0 ax x = some [⟨[],v⟩] → ∀ σ',(∃ B w i e,σ' = A2 B (X.L w i e (lp X.r0 .ready none)) ∧ X.off B ∧ vA σb B X.m w i e j) → ID prog l #[.int .i64 x] σ' (fun e σ' => e = .returned (.bool true) ∧ ∃ B w i e,σ' = A2 B (X.L w i e (lp X.r0 .ready none)) ∧ X.off B ∧ vA σb B X.m w i e (j + 1)) := by
   rintro x v j hj hx hM _ ⟨B,w,i,e,rfl,hoB,Cj⟩
   refine hy _ _ x (E3 (L := X.L w i e (lp X.r0 .ready none)) (i := 0) hX rfl) ?_
   refine jn (X := X) hX hoB Cj.ext (hg.mono xσ) (hr.mono NG.mono xσ) (hs.mono Bp.mono xσ) hM hx fun B1 p1 c1 CO br av => ?_
   exact df hX br (Cj.mono CO) hj av fun B2 b o e2 Ba AOb => ⟨rfl,B2,_,1,e2,rfl,Ba,.inr ⟨Nat.succ_pos _,b,o,rfl,rfl,AOb⟩⟩
 refine jq (I := fun j σ' => ∃ B w i e,σ' = A2 B (X.L w i e (lp X.r0 .ready none)) ∧ X.off B ∧ vA σb B X.m w i e j) ⟨B0,none,0,0,rfl,hoX,.inl ⟨rfl,rfl,rfl,rfl,xb,pS,AOZ⟩⟩ ?_ (step 0 v1 0 (by decide) (by decide) AOG) (step 60 v8 1 (by decide) (by decide) AIX) ?_
 · rintro j _ ⟨B,w,i,e,rfl,hoB,Cj⟩
   have hx := Cj.ext.trans (AOa (w := w) (j := i) (e := e) (lo := lp X.r0 .ready none) hoB)
   exact ⟨Ad (hx _ _ (db g3)) rfl,Ad (hx _ _ (db g5)) rfl,Ad (hx _ _ (db g4)) rfl⟩
 rintro _ ⟨B,w,i,e,rfl,hoB,⟨h0,_⟩ | ⟨_,b,o,rfl,rfl,Cj⟩⟩
 · cases h0
 have eL : ∀ lo,(A2 B (X.L (some ⟨b,o,none⟩) 1 e (lp X.r0 .ready none))).set l (.loop lo) = A2 B (X.L (some ⟨b,o,none⟩) 1 e lo) := fun lo => Hp.set_set
 refine ⟨_,.ready,none,rfl,E3 (L := X.L (some ⟨b,o,none⟩) 1 e (lp X.r0 .ready none)) (i := 0) hX rfl,by decide,.inl ⟨rfl,?_⟩⟩
 rw [eL]
 have hXe : (names (X.L (some ⟨b,o,none⟩) 1 e (lp X.r0 .exhausted none))).Nodup := hX
 refine ⟨_,1,e,ZJ (L := X.L (some ⟨b,o,none⟩) 1 e (lp X.r0 .exhausted none)) (i := 2) hXe rfl rfl,?_⟩
 obtain ⟨pl,cl,pp,cc,ds,k1,k2,k3⟩ := Cj.own
 refine Spec.E4 hXe hoB (gH (ρ := Go.Proofs.Tryz.Tp) Go.Proofs.Tryz.ABG (fun w => by kernel_rfl) (fun w => by kernel_rfl) (α := Unit) (enc := fun _ => [.slice pl 0 cl,.slice pp 2 cc]) (fun _ => rfl) (fun _ u hu => by
   simp only [List.mem_cons,List.not_mem_nil,or_false] at hu
   rcases hu with rfl | rfl <;> rfl) (cf := fun _ _ => (0 : Int)) AOU (g := 51) (fun args w => call51 args w) (b := b) (o := o) (ds := [()]) k1 rfl (by decide) (by decide) (fun w hw x y => ?_) fun B1 ds' hp kL Bg JO Li => ⟨rfl,?_⟩)
 · exact Spec.pg (R := fun e => e = .returned (.int .i64 0)) (@jo ⟨True⟩ _ _ _ _ _ _ _ _ _ _ _ _ fun σ' Wl => ⟨rfl,Wl⟩) hw
 have hds : ds' = [()] := by
   have := hp.length_eq
   match ds',this with
   | [()],_ => rfl
 subst hds
 have hXL : ∀ {w' j' e' lo'},(names (X.L w' j' e' lo')).Nodup := hX
 refine ⟨_,1,e,ZJ (L := X.L (some ⟨b,o,none⟩) 1 e (lp X.r0 .exhausted none)) (i := 2) hXe rfl rfl,?_⟩
 refine AK.TL (L := X.L (some ⟨b,o,none⟩) 1 e (lp X.r0 .exhausted none)) (i := 5) (c := #[.slice none 0 0]) (c' := #[.slice (some ⟨b,o,none⟩) 1 e]) gS hXe rfl rfl rfl rfl rfl ?_
 let L7 : List (Nat × Obj) := (X.L (some ⟨b,o,none⟩) 1 e (lp X.r0 .exhausted none)).set 5 (X.Cm,.cells #[.slice (some ⟨b,o,none⟩) 1 e] 23 (0,0))
 let L8 : List (Nat × Obj) := L7.set 1 (X.D,.deferred none)
 refine AK.TL (L := L7) (i := 4) (c := #[.int .i64 0]) (c' := #[.int .i64 0]) u7 hX rfl rfl rfl rfl rfl ?_
 show ∃ Ct : Option Addr,∃ Cu : Nat,∃ Cv : Nat,∃ Cw : Int,A2 B1 L7 D = some (.deferred (some [])) ∧ Hp.ld ((A2 B1 L7).set D (.deferred none)) ⟨Cm,0,none⟩ = some (.slice Ct Cu Cv) ∧ Hp.ld ((A2 B1 L7).set D (.deferred none)) ⟨BG,0,none⟩ = some (.int .i64 Cw) ∧ R (.returned (.tuple #[.slice Ct Cu Cv,.int .i64 Cw])) ((A2 B1 L7).set D (.deferred none))
 rw [show (A2 B1 L7).set D (.deferred none) = A2 B1 L8 from N4 (L := L7) (i := 1) hX rfl]
 refine ⟨some ⟨b,o,none⟩,1,e,0,E3 (L := L7) (i := 1) hX rfl,ZJ (L := L8) (i := 5) hX rfl rfl,ZJ (L := L8) (i := 4) hX rfl rfl,?_⟩
 have AId : P5 L8 B1 := Li
 have x8 : Ext B1 (A2 B1 L8) := P5.ext (L := L8) hX AId
 refine h b o e pp cc _ (fun y u hyu => x8 _ _ ?_) ?_
 · refine (AR.1 (JO y u (AR.2 ⟨fun a ha e => ?_,Cj.ext _ _ (xσ _ _ hyu)⟩))).2
   cases ha
   have := xσ _ _ hyu
   rw [e,Cj.hb] at this; cases this
 · obtain ⟨_,_,h0 | ⟨b',o',hp,hl⟩⟩ := (BB.rd Bg).mono x8
   · cases h0
   · cases hp
     exact hl.2.1
end
end TwW
end
section
namespace TwW
open Go Tw Go.RowKit Go.Proofs.Tryz
section
variable {σ : Hp} {R : Rr}
theorem OJ {b : Nat} (h : R (.returned (.int .u64 b)) σ) : Spec prog 25 #[.float .f64 b] σ R := VM.start (.y OB ⟨_,rfl,h⟩)
set_option maxRecDepth 100000 in
theorem AIe {x y : Operand} {a b a' b' : Int} : YF prog (do eqGuard .neq 50 x y (.agg #[.int .i64 a,.int .u64 b]) (.agg #[.int .i64 a',.int .u64 b']); binOp .neq 50 (.agg #[.int .i64 a,.int .u64 b]) (.agg #[.int .i64 a',.int .u64 b'])) σ (.bool (!(a == a' && b == b'))) := fun w _ => by
 have u1 := underlying2
 have u2 := underlying48
 have hS : prog.underlying 50 = some (.struct (prog.fieldsOf 50)) := by kernel_rfl
 have hp : prog.stoodInHeld 50 = false := by kernel_rfl
 have hf : (prog.fieldsOf 50).toList = [{ name := "T",type := 2,offset := 0,embedded := false,tag := "",pkgPath := "",byteOffset := 0 },{ name := "V",type := 48,offset := 1,embedded := false,tag := "",pkgPath := "",byteOffset := 8 }] := by kernel_rfl
 simp only [Sem.run_bind,run_eqGuard_agg _ _ _ _ _ _ _ (show prog.eqGuardType prog.depth 50 = false by kernel_rfl),Result.andThen_ok,run_neq_struct]
 rw [show (10000 : Nat) = 9999 + 1 from rfl,run_equalIn_agg w 9999 50 _ _ hS hp,hf]
 simp only [Op.eqFields]
 go_simp
 by_cases h1 : a = a' <;> by_cases h2 : b = b' <;> simp [h1,h2]
theorem QK {p p' : Option Addr} {n n' c c' : Nat} {ps : List Pt} (h1 : Ab 2 GK σ p n ps) (h2 : Ab 2 GK σ p' n' ps) (hR : R (.returned (.bool true)) σ) : Spec prog 36 #[.slice p n c,.slice p' n' c'] σ R := by
 have e1 : ps.length = n := h1.1
 have e2 : ps.length = n' := h2.1
 refine Cg.start ⟨fun A5 => absurd (by omega) A5,fun _ => ?_⟩
 suffices H : ∀ d i : Nat,n - i = d → i ≤ n → Cg.A0 R p n c p' n' c' i σ from H n 0 rfl (Nat.zero_le _)
 intro d
 induction d with
 | zero => exact fun i hd hi => Cg.BC ⟨fun Aq => by omega,fun _ => hR⟩
 | succ d ih =>
   intro i hd hi
   obtain ⟨x,hx⟩ := h1.ex (show i < n by omega)
   obtain ⟨b,o,rfl,l1⟩ := GK.at h1 hx
   obtain ⟨b',o',rfl,l2⟩ := GK.at h2 hx
   exact Cg.BC ⟨fun _ => ⟨b,o,rfl,by omega,x.1,x.2,by simpa using l1,b',o',rfl,by omega,x.1,x.2,by simpa using l2,_,AIe,fun hh => by simp at hh,fun _ => ⟨AL (by omega) h1.big,ih (i + 1) (by omega) (by omega)⟩⟩,fun hh => by omega⟩
theorem AOc : AJ ((0 : Int) + 0) := by unfold AJ; omega
theorem AIf : AJ ((0 : Int) + 0 + 300) := by unfold AJ; omega
theorem qQ {p : Option Addr} {n c : Nat} (hr : Ab 10 NG σ p n T0) (h : ∀ σ',Ext σ σ' → R (.returned (.tuple #[.int .i64 300,.int .i64 0])) σ') : Spec prog 15 #[.slice p n c] σ R := by
 have hn : 2 = n := hr.1
 subst hn
 refine Bz.start (Th hr (by decide) RI.tx (fun k σ' hk hx => ⟨_,_,_,rfl,fun hh => absurd rfl hh,fun _ => ?_⟩) fun k j e σ' hk => by rw [ty0] at hk; cases hk)
 have GC := hr.mono NG.mono hx
 obtain ⟨b,o,p1,k1,c1,q1,m1,d1,rfl,uG,_,_⟩ := NG.at GC (i := 0) (x := nV) rfl
 obtain ⟨b',o',p2,k2,c2,q2,m2,d2,he,QN,_,_⟩ := NG.at GC (i := 1) (x := nA) rfl
 cases he
 refine Bz.We ⟨fun _ => ⟨b,o,rfl,by decide,_,_,_,_,_,_,_,_,_,_,_,_,_,_,uG,fun _ => ⟨fun hh => absurd rfl hh,fun _ => ⟨AOc,fun _ => ⟨AIf,Bz.Wd ?_⟩,fun hh => absurd rfl hh⟩⟩⟩,fun hh => absurd (by decide) hh⟩
 refine ⟨fun _ => Bz.WR (Bz.fc ⟨by unfold AJ; omega,Bz.We ⟨fun _ => ⟨b,o,rfl,by decide,_,_,_,_,_,_,_,_,_,_,_,_,_,_,QN,fun _ => ⟨fun _ => ⟨fun _ => Bz.fc ⟨by unfold AJ; omega,Bz.We ⟨fun hh => absurd hh (by decide),fun _ => h _ hx⟩⟩,fun hh => absurd (by decide) hh⟩,fun hh => absurd (by decide) hh⟩⟩,fun hh => absurd (by decide) hh⟩⟩),fun hh => by cases hh⟩
theorem Zq {σ : Hp} {b : Nat} {o : Obj} (h : σ b = none) : Ext σ (σ.set b o) ∧ σ.set b o b = some o := ⟨.set h,Hp.AB _ _ _⟩
theorem Lj {α : Type} {s b n : Nat} {T : TypeId} {E : Hp → List Value → α → Prop} {cs : List Value} {xs : List α} (h : σ b = some (.cells cs.toArray T (0,0))) (hl : cs.length = n * s) (hn : xs.length = n) (hb : n ≤ 1000) (hE : ∀ (i : Nat) (x : α),xs[i]? = some x → E σ ((cs.drop (i * s)).take s) x) : Ab s E σ (aD b 0) n xs :=
 ⟨hn,cs,⟨hl,by omega,.inr ⟨b,0,rfl,Ay.GD h⟩⟩,by rw [hl,hn],hE⟩
theorem dg : Awk := fun σ R hg h => by
 refine P0.start fun BG gJ => OJ ⟨_,rfl,OJ ⟨_,rfl,fun Hy h16 Ym h20 => OJ ⟨_,rfl,fun OX h23 Lv h25 O4 h27 ic h30 => ?_⟩⟩⟩
 have x11 := Ext.set (o := .cells #[(.string (ByteArray.mk #[95,95,110,97,109,101,95,95])),(.string (ByteArray.mk #[120])),(.string (ByteArray.mk #[97])),(.string (ByteArray.mk #[49]))] 56 (0,0)) gJ
 have x16 := Ext.set (o := .cells #[.int .i64 0,.int .u64 v1,.int .i64 60,.int .u64 v3] 50 (0,0)) h16
 have Hv := Ext.set (o := .cells #[(.string (ByteArray.mk #[95,95,110,97,109,101,95,95])),(.string (ByteArray.mk #[120])),(.string (ByteArray.mk #[97])),(.string (ByteArray.mk #[50]))] 56 (0,0)) h20
 have EJ := Ext.set (o := .cells #[.int .i64 60,.int .u64 v5] 50 (0,0)) h23
 have P1 := Ext.set (o := .cells #[(.slice (aD BG 0) 2 2),(.slice (aD Hy 0) 2 2),(.slice (aD Ym 0) 2 2),(.slice (aD OX 0) 1 1)] 40 (0,0)) h25
 have Jz := Ext.set (o := .cells #[.int .i64 1,(.string (ByteArray.mk #[95,95,110,97,109,101,95,95])),(.string (ByteArray.mk #[120]))] 77 (0,0)) h27
 obtain ⟨SF,g30⟩ := Zq (o := .cells #[.int .i64 2,.int .i64 0,(.string (ByteArray.mk #[])),(.slice (aD O4 0) 1 1),.int .i64 0,.int .i64 0,.int .i64 0,.slice none 0 0,.bool false,.int .i64 0,.int .i64 5,.int .i64 1,(.string (ByteArray.mk #[])),.slice none 0 0,.int .i64 0,.int .i64 0,.int .i64 0,.slice none 0 0,.bool false,.int .i64 1] 36 (0,0)) h30
 have g11 := (x16.trans (Hv.trans (EJ.trans (P1.trans (Jz.trans SF))))) BG _ (Hp.AB _ _ _)
 have g16 := (Hv.trans (EJ.trans (P1.trans (Jz.trans SF)))) Hy _ (Hp.AB _ _ _)
 have g20 := (EJ.trans (P1.trans (Jz.trans SF))) Ym _ (Hp.AB _ _ _)
 have g23 := (P1.trans (Jz.trans SF)) OX _ (Hp.AB _ _ _)
 have g25 := (Jz.trans SF) Lv _ (Hp.AB _ _ _)
 have g27 := SF O4 _ (Hp.AB _ _ _)
 have hx := x11.trans (x16.trans (Hv.trans (EJ.trans (P1.trans (Jz.trans SF)))))
 change Spec prog 11 #[.slice (aD ic 0) 2 2,.slice (aD Lv 0) 2 2,.int .i64 60] (Hp.set _ ic _) _
 generalize hτ : Hp.set _ ic _ = τ at *
 have rA : Dq τ (aD BG 0) 2 ABd := Lj g11 rfl rfl (by decide) fun i x hx => match i,hx with
   | 0,hx => by cases hx; rfl
   | 1,hx => by cases hx; rfl
   | i + 2,hx => by simp [ABd] at hx
 have rB : Dq τ (aD Ym 0) 2 ABe := Lj g20 rfl rfl (by decide) fun i x hx => match i,hx with
   | 0,hx => by cases hx; rfl
   | 1,hx => by cases hx; rfl
   | i + 2,hx => by simp [ABe] at hx
 have rP : Ab 2 GK τ (aD Hy 0) 2 [(0,v1),(60,v3)] := Lj g16 rfl rfl (by decide) fun i x hx => match i,hx with
   | 0,hx => by cases hx; rfl
   | 1,hx => by cases hx; rfl
   | i + 2,hx => by simp at hx
 have rQ : Ab 2 GK τ (aD OX 0) 1 [(60,v5)] := Lj g23 rfl rfl (by decide) fun i x hx => match i,hx with
   | 0,hx => by cases hx; rfl
   | i + 1,hx => by simp at hx
 have rS : Ab 2 Bp τ (aD Lv 0) 2 ax := Lj g25 rfl rfl (by decide) fun i x hx => match i,hx with
   | 0,hx => by cases hx; exact ⟨_,_,_,_,_,_,rfl,rA,rP,by decide⟩
   | 1,hx => by cases hx; exact ⟨_,_,_,_,_,_,rfl,rB,rQ,by decide⟩
   | i + 2,hx => by simp [ax] at hx
 have rM : Ab 3 OZ τ (aD O4 0) 1 [⟨1,A4,sX⟩] := Lj g27 rfl rfl (by decide) fun i x hx => match i,hx with
   | 0,hx => by cases hx; rfl
   | i + 1,hx => by simp at hx
 have rN : FC 1 τ none 0 (([] : List ByteArray).map .string) := ⟨rfl,by decide,.inl rfl⟩
 have rT : Ab 10 NG τ (aD ic 0) 2 T0 := Lj g30 rfl rfl (by decide) fun i x hx => match i,hx with
   | 0,hx => by cases hx; exact ⟨_,_,_,_,_,_,rfl,rM,rN⟩
   | 1,hx => by cases hx; exact ⟨_,_,_,_,_,_,rfl,Ab.nil,rN⟩
   | i + 2,hx => by simp [T0] at hx
 have AIg := hg.mono hx
 refine inst_spec AIg rT rS RI (fun τ1 p' n' c' σ1 bs h0 hA CO => ⟨_,_,_,_,rfl,?_⟩) fun σ1 A5 => absurd (by rw [inst60]) A5
 rw [inst60] at hA
 have X1 := CO.trans hA.ext
 refine qN (AIg.mono X1) (rT.mono NG.mono X1) (rS.mono Bp.mono X1) fun b o e p2 c2 σ2 A9 Wx => ⟨_,_,_,_,rfl,qQ (rT.mono NG.mono (X1.trans A9)) fun σ3 C5 => ⟨_,_,rfl,?_⟩⟩
 have hA3 := (hA.mono (A9.trans C5)).rd
 have Zp : 1 = n' := hA3.1
 subst Zp
 obtain ⟨w9,o57,p1,n1,c1,q1,m1,d1,rfl,hl,_,HN,_⟩ := Bp.at hA3 (i := 0) (s := ⟨[],[(60,v8)]⟩) rfl
 have de : 1 = m1 := HN.1
 subst de
 refine ⟨fun _ => ⟨fun _ => ⟨w9,o57,rfl,by decide,q1,1,d1,by simpa using hl.2.1,OJ ⟨_,rfl,.Ho (.refl _),fun zc h62 => ?_⟩⟩,fun hh => absurd rfl hh⟩,fun hh => absurd rfl hh⟩
 obtain ⟨kJ,g62⟩ := Zq (o := .cells #[.int .i64 60,.int .u64 v8] 50 (0,0)) h62
 refine QK (ps := [(60,v8)]) (HN.mono GK.mono kJ) (Lj g62 rfl rfl (by decide) fun i x hx => match i,hx with
   | 0,hx => by cases hx; rfl
   | i + 1,hx => by simp at hx) ⟨_,rfl,fun _ => ⟨fun _ => ⟨fun _ => ⟨b,o,rfl,by decide,p2,2,c2,(C5.trans kJ).ld Wx,fun _ => ⟨fun _ => ?_,fun hh => absurd rfl hh⟩,fun hh => absurd rfl hh⟩,fun hh => absurd rfl hh⟩,fun hh => absurd rfl hh⟩,fun hh => by cases hh⟩
 exact h _ (hx.trans (X1.trans (A9.trans (C5.trans kJ))))
end
end TwW
end
section
namespace TwW.Rw
open Go Tw Go.RowKit Go.ChangeShapes Go.WideShapes Go.ChangeAt Go.Deep Go.Proofs.Tryz Go.Proofs.YtlmhidjgplomgaaGreatDoor
theorem own : ownKnob prog.godebug = none := by kernel_rfl
theorem laidOut : laidOutB prog = true := by kernel_rfl
theorem Lk {H : Type} (d : DataW H) : 1 ≤ Rows.uptoBulk d := by
 cases d with
 | lit l => cases l <;> simp [Rows.uptoBulk]
 | _ => simp [Rows.uptoBulk]
theorem PU {H : Type} {d : DataW H} : ∀ {l : List (DataW H)},d ∈ l → Rows.uptoBulk d ≤ Rows.uptoBulkAll l
 | x :: l,h => by
   simp only [Rows.uptoBulkAll]
   rcases List.mem_cons.1 h with rfl | h
   · omega
   · have := PU h; omega
theorem Zr {H : Type} (l r : List (DataW H)) : Rows.uptoBulkAll (l ++ r) = Rows.uptoBulkAll l + Rows.uptoBulkAll r := by
 induction l with
 | nil => simp [Rows.uptoBulkAll]
 | cons x l ih => simp only [List.cons_append,Rows.uptoBulkAll,ih]; omega
theorem qR {H : Type} (l : List (DataW H)) : l.length ≤ Rows.uptoBulkAll l := by
 induction l with
 | nil => simp
 | cons x l ih => have := Lk x; simp only [Rows.uptoBulkAll,List.length_cons]; omega
def NN {α : Type} (t : TypeId) (E : Hp → List Value → α → Prop) (I : α → Prop) (sz : α → Nat) : Prop :=
 ∀ {H : Type} {enc : TypeId × Value → H} {w : World} {base : Nat} {sp : Nat → Bool} {held : Bool} {fuel : Nat} {cs : List Value} {x : DataW H × List MemPlace},
   DataW.trod enc prog w base sp held fuel t cs = some x → Rows.uptoBulk x.1 ≤ 1048576 → ∃ y,E (full w) cs y ∧ I y ∧ sz y ≤ Rows.uptoBulk x.1
theorem mkB {α : Type} {s : Nat} {E : Hp → List Value → α → Prop} {I : α → Prop} {sz : α → Nat} {σ : Hp} {b o : Nat} {H : Type} {D : Nat → DataW H} : ∀ {n : Nat},n ≤ 4611686018427387904 → (∀ i,i < n → ∃ vs x,vs.length = s ∧ Ay σ b (o + i * s) vs ∧ E σ vs x ∧ I x ∧ sz x ≤ Rows.uptoBulk (D i)) →
   ∃ xs,Ab s E σ (some ⟨b,o,none⟩) n xs ∧ (∀ x ∈ xs,I x) ∧ (xs.map sz).sum ≤ Rows.uptoBulkAll ((List.range n).map D)
 | 0,_,_ => ⟨[],Ab.nil,by simp,by simp⟩
 | n + 1,hn,h => by
   obtain ⟨xs,⟨h1,cs,⟨hl,_,h2⟩,h3⟩,hI,hs⟩ := mkB (n := n) (D := D) (by omega) (fun i hi => h i (by omega))
   obtain ⟨vs,x,hv,Eb,hE,hx,hz⟩ := h n (by omega)
   have NU : Ay σ b o cs := by
     rcases h2 with rfl | ⟨b',o',hp,fH⟩
     · have : cs = [] := List.eq_nil_of_length_eq_zero (by simpa using hl)
       subst this; trivial
     · cases hp; exact fH
   refine ⟨xs ++ [x],⟨by simp [h1],cs ++ vs,⟨by rw [List.length_append,hl,hv,Nat.add_mul]; omega,hn,.inr ⟨b,o,rfl,NU.snoc (by rw [hl]; exact Eb)⟩⟩,h3.snoc hv hE⟩,fun y hy => ?_,?_⟩
   · rcases List.mem_append.1 hy with hy | hy
     · exact hI y hy
     · simp at hy; subst hy; exact hx
   · rw [List.range_succ,List.map_append,List.map_append,Zr,List.sum_append]
     simp only [List.map_cons,List.map_nil,List.sum_cons,List.sum_nil,Rows.uptoBulkAll]
     omega
def ESc {α : Type} (s : Nat) (E : Hp → List Value → α → Prop) (σ : Hp) (vs : List Value) (xs : List α) : Prop := ∃ p n c,vs = [.slice p n c] ∧ n ≤ c ∧ Ab s E σ p n xs
theorem NN.slice {α : Type} {t e : TypeId} {s : Nat} {E : Hp → List Value → α → Prop} {I : α → Prop} {sz : α → Nat} (ht : prog.underlying t = some (.slice e)) (hs : prog.cellsOf e = s) (hs0 : 0 < s) (he : NN e E I sz) :
   NN t (ESc s E) (fun xs => ∀ x ∈ xs,I x) (fun xs => (xs.map sz).sum + 1) := by
 intro H enc w base sp held fuel cs x h hw
 subst hs
 rcases open_slice ht h with ⟨rfl,rfl⟩ | ⟨a,len,cap,m,n,D,Pl,rfl,hb,hl,hm,hmm,rfl,hi⟩
 · exact ⟨[],⟨none,0,0,rfl,Nat.le_refl _,Ab.nil⟩,by simp,by simp [Rows.uptoBulk]⟩
 · have hlm : len ≤ m := by rw [hmm]; split <;> omega
   have bB : Rows.uptoBulkAll ((List.range len).map D) + 1 ≤ Rows.uptoBulk (DataW.slice ((List.range len).map D) ((List.range (m - len)).map fun j => D (len + j))) := by
     simp only [Rows.uptoBulk]; omega
   have hlen := qR ((List.range len).map D)
   rw [List.length_map,List.length_range] at hlen
   have hwD : ∀ i,i < len → Rows.uptoBulk (D i) ≤ 1048576 := fun i B9 => by
     have := PU (List.mem_map.2 ⟨i,List.mem_range.2 B9,rfl⟩ : D i ∈ (List.range len).map D)
     simp only at hw
     omega
   by_cases h0 : len = 0
   · subst h0
     exact ⟨[],⟨some a,0,cap,rfl,Nat.zero_le _,Ab.nil⟩,by simp,by simp only [Rows.uptoBulk,List.map_nil,List.sum_nil]; omega⟩
   · have Zs : a.spot = none := by
       obtain ⟨cs',hc,_⟩ := hi 0 (by omega)
       obtain ⟨_,Xq,yi⟩ := World.cells?_some hc
       have h1 := yi 0 hs0
       rw [List.getElem?_eq_getElem (by omega)] at h1
       have := Uo h1
       simpa [Addr.add] using this
     obtain ⟨b,o,sp'⟩ := a
     simp only at Zs
     subst Zs
     obtain ⟨xs,hr,hI,hz⟩ := mkB (s := prog.cellsOf e) (E := E) (I := I) (sz := sz) (σ := full w) (b := b) (o := o) (D := D) (n := len) (by simp only at hw; omega) (fun i B9 => by
       obtain ⟨cs',hc,kM⟩ := hi i (by omega)
       obtain ⟨_,Xq,yi⟩ := World.cells?_some hc
       obtain ⟨y,hE,hy,dA⟩ := he kM (hwD i B9)
       refine ⟨cs',y,Xq,Ay.of fun j v hj => ?_,hE,hy,dA⟩
       have RR : j < prog.cellsOf e := by have := (List.getElem?_eq_some_iff.1 hj).1; omega
       have h1 := yi j RR
       rw [hj,Bt,Bt] at h1
       exact Qy h1)
     exact ⟨xs,⟨some ⟨b,o,none⟩,len,cap,rfl,hl,hr⟩,hI,by simp only at hz bB ⊢; omega⟩
theorem gU {H : Type} {l : List (DataW H)} {d : DataW H} (h : Rows.uptoBulk (DataW.agg l) ≤ 1048576) (hd : d ∈ l) : Rows.uptoBulk d ≤ 1048576 := by
 have := PU hd
 simp only [Rows.uptoBulk] at h
 omega
theorem vB {α : Type} : ∀ l : List α,(l.map fun _ => 1).sum = l.length := fun l => by induction l with
 | nil => rfl
 | cons a l ih => simp; omega
theorem NN.len {α : Type} {t e : TypeId} {s : Nat} {E : Hp → List Value → α → Prop} {I : α → Prop} (ht : prog.underlying t = some (.slice e)) (hs : prog.cellsOf e = s) (hs0 : 0 < s) (he : NN e E I (fun _ => 1)) :
   NN t (ESc s E) (fun xs => (∀ x ∈ xs,I x) ∧ xs.length ≤ 1048576) (fun _ => 1) := fun h hw => by
 obtain ⟨xs,h1,h2,h3⟩ := NN.slice ht hs hs0 he h hw
 dsimp only at h3
 rw [vB] at h3
 exact ⟨xs,h1,⟨h2,by omega⟩,Lk _⟩
theorem Mr {t : TypeId} (h : prog.cellsOf t = 1) {c : Value} {l : List Value} : (c :: l).take (prog.cellsOf t) = [c] := by rw [h]; rfl
set_option maxRecDepth 100000
set_option linter.unusedSimpArgs false
theorem ABj : NN 50 GK (fun p => 0 ≤ p.2 ∧ p.2 < 18446744073709551616) (fun _ => 1) := by
 intro H enc w base sp held fuel cs x h hw
 obtain ⟨xs,n,_,rfl,hlen,xo,hg⟩ := DataW.trod_struct underlying50 h
 rw [show prog.cellsOf 50 = 2 by kernel_rfl] at hlen
 match cs,hlen,xs,xo with
 | [c0,c1],_,[y0,y1],_ =>
   have h0 := hg 0 _ rfl
   have h1 := hg 1 _ rfl
   simp only [show prog.cellsOf 2 = 1 by kernel_rfl,show prog.cellsOf 48 = 1 by kernel_rfl,List.drop,List.take,List.getElem?_cons_zero,List.getElem?_cons_succ] at h0 h1
   obtain ⟨a,e0,_,_⟩ := DataW.trod_int underlying2 h0
   obtain ⟨b,e1,_,wb⟩ := DataW.trod_int underlying48 h1
   cases e0; cases e1
   refine ⟨(a,b),rfl,?_,Lk _⟩
   simp [Lit.wf,IntKind.min,IntKind.max,IntKind.signed,IntKind.bits] at wb
   exact ⟨wb.1,by omega⟩
theorem ABk : NN 56 Bs (fun _ => True) (fun _ => 1) := by
 intro H enc w base sp held fuel cs x h hw
 obtain ⟨xs,n,_,rfl,hlen,xo,hg⟩ := DataW.trod_struct underlying56 h
 rw [show prog.cellsOf 56 = 2 by kernel_rfl] at hlen
 match cs,hlen,xs,xo with
 | [c0,c1],_,[y0,y1],_ =>
   have h0 := hg 0 _ rfl
   have h1 := hg 1 _ rfl
   simp only [show prog.cellsOf 9 = 1 by kernel_rfl,List.drop,List.take,List.getElem?_cons_zero,List.getElem?_cons_succ] at h0 h1
   obtain ⟨a,e0,_⟩ := DataW.trod_string underlying9 h0
   obtain ⟨b,e1,_⟩ := DataW.trod_string underlying9 h1
   cases e0; cases e1
   exact ⟨(a,b),rfl,trivial,Lk _⟩
def vC {α : Type} (I : α → Prop) (xs : List α) : Prop := (∀ x ∈ xs,I x) ∧ xs.length ≤ 1048576
theorem ABl : NN 37 (ESc 2 Bs) (vC fun _ => True) (fun _ => 1) := NN.len (s := 2) underlying37 (by kernel_rfl) (by decide) ABk
theorem ABm : NN 38 (ESc 2 GK) (vC fun p => 0 ≤ p.2 ∧ p.2 < 18446744073709551616) (fun _ => 1) := NN.len (s := 2) underlying38 (by kernel_rfl) (by decide) ABj
theorem ABn : NN 40 Bp (fun s => s.ls.length ≤ 1048576 ∧ s.ps.length ≤ 1048576 ∧ ∀ p ∈ s.ps,0 ≤ p.2 ∧ p.2 < 18446744073709551616) (fun _ => 1) := by
 intro H enc w base sp held fuel cs x h hw
 obtain ⟨xs,n,_,rfl,hlen,xo,hg⟩ := DataW.trod_struct underlying40 h
 rw [show prog.cellsOf 40 = 2 by kernel_rfl] at hlen
 match cs,hlen,xs,xo with
 | [c0,c1],_,[y0,y1],_ =>
   have h0 := hg 0 _ rfl
   have h1 := hg 1 _ rfl
   simp only [show prog.cellsOf 37 = 1 by kernel_rfl,show prog.cellsOf 38 = 1 by kernel_rfl,List.drop,List.take,List.getElem?_cons_zero,List.getElem?_cons_succ] at h0 h1
   obtain ⟨ls,⟨p,k,c,e0,hc0,r0⟩,⟨_,l0⟩,_⟩ := ABl h0 (gU hw (by simp))
   obtain ⟨ps,⟨q,m,d,e1,hc1,r1⟩,⟨i1,l1⟩,_⟩ := ABm h1 (gU hw (by simp))
   cases e0; cases e1
   exact ⟨⟨ls,ps⟩,⟨p,k,c,q,m,d,rfl,r0,r1,hc1⟩,⟨l0,l1,i1⟩,Lk _⟩
section
variable {H : Type} {enc : TypeId × Value → H} {W : World} {base : Nat} {v v' : Value} {d d' : DataW H} {ps ps' : List MemPlace} {r : Reach}
theorem qS (hv : Value.okWide prog W r base 23 v) (h : DataW.Trod enc prog W 0 (fun _ => true) true 23 v d ps) (hw : Rows.uptoBulk d ≤ 1048576) : ∃ p n c ss,v = .slice p n c ∧ Ab 2 Bp (full W) p n ss ∧ vC (fun s : Sr => s.ls.length ≤ 1048576 ∧ s.ps.length ≤ 1048576 ∧ ∀ p ∈ s.ps,0 ≤ p.2 ∧ p.2 < 18446744073709551616) ss := by
 obtain ⟨a,l,c,rfl⟩ := okWide_slice underlying23 hv
 obtain ⟨fuel,hf⟩ := h
 obtain ⟨xs,⟨p,n,c',e,_,hr⟩,hI,_⟩ := NN.len (s := 2) underlying23 (by kernel_rfl) (by decide) ABn hf hw
 have e' : [Value.slice a l c] = [.slice p n c'] := by simpa [Value.cells] using e
 cases e'
 exact ⟨a,l,c,xs,rfl,hr,hI⟩
end
theorem ABo {f : FuncId} {fn : Func} {s : ChangeSpec} {H : Type} {enc : TypeId × Value → H} {W : World} {args : Array Value} {ds gs : List (DataW H)} {before : List MemPlace} (hr : (fn.params.toList.all fun t => prog.readableRec t && Nat.blt t prog.types.size) = true)
   (hrt : fn.resultTypes = #[4]) (hv : s.vars = []) (Qu : (s.fn H (ds ++ gs)).results = [.lit (.bool true)] ∧ (s.fn H (ds ++ gs)).args = ds ∧ (s.fn H (ds ++ gs)).vars = [])
   (hW : DataW.Whole enc prog fn.params.toList s.vars false W args.toList ds gs before) (h : Lawful prog f args W) :
   Calls prog f args W fun e W' => ∃ v,e = .returned v ∧ s.post enc prog fn false true false false W args v W' :=
 h.calls.mono fun e W' ⟨he,hb⟩ => ⟨_,he,kt laidOut hr hrt underlying4 hv Qu hW hb⟩
end TwW.Rw
end
section
namespace TwW.Rw
open Go Go.Proofs.Tryz Go.Proofs.YtlmhidjgplomgaaGreatDoor
def fl0 : DataW Unit → List Value
 | .lit (.int k z) => [.int k z]
 | .lit (.bool b) => [.bool b]
 | .lit (.float k b) => [.float k b]
 | .lit (.string s) => [.string ⟨s.toArray⟩]
 | _ => []
def jr : DataW Unit → List Value
 | .agg l => l.flatMap fl0
 | x => fl0 x
def fl2 : DataW Unit → List Value
 | .agg l => l.flatMap jr
 | x => fl0 x
def fls : DataW Unit → List Value
 | .slice l _ => l.flatMap jr
 | .iface _ (.ptr d) => jr d
 | _ => []
def lns : DataW Unit → Nat
 | .slice l _ => l.length
 | _ => 0
noncomputable def MK (os : Os) : World :=
 let N := (World.settled prog os).heap.size
 let ob (x : DataW Unit) (t : TypeId) : Obj := .cells (fls x).toArray t (0,0)
 let w0 := World.holding prog os ⟨#[ob Rows.laid_strconv_ErrSyntax 317,ob Rows.laid_strconv_ErrRange 317,ob Rows.laid_internal_strconv_float32pow10 280,ob Rows.laid_internal_strconv_powtab 3,ob Rows.laid_internal_strconv_float64pow10 51,ob Rows.laid_internal_strconv_leftcheats 358],#[],[]⟩
 let put (h : Array Obj) (g : Nat) (cs : List Value) : Array Obj := h.modify g fun
   | .cells _ t frozen => .cells cs.toArray t frozen
   | o => o
 let sl (i : Nat) (x : DataW Unit) : List Value := [.slice (some ⟨N + i,0,none⟩) (lns x) (lns x)]
 let h1 := put (put w0.heap 2 [.iface 315 (.pointer (some ⟨N,0,none⟩))]) 3 [.iface 315 (.pointer (some ⟨N + 1,0,none⟩))]
 let h2 := put (put (put (put h1 7 (sl 2 Rows.laid_internal_strconv_float32pow10)) 8 (sl 3 Rows.laid_internal_strconv_powtab)) 9 (sl 4 Rows.laid_internal_strconv_float64pow10)) 13 (sl 5 Rows.laid_internal_strconv_leftcheats)
 let h3 := put (put (put h2 4 (jr Rows.laid_internal_strconv_float32info)) 5 (jr Rows.laid_internal_strconv_optimize)) 6 (jr Rows.laid_internal_strconv_float64info)
 let h4 := put (put (put h3 10 (fl2 Rows.laid_internal_strconv_pow10Tab)) 11 (jr Rows.laid_unicode_utf8_first)) 12 (fl2 Rows.laid_unicode_utf8_acceptRanges)
 { w0 with heap := put (put (put h4 14 (jr Rows.laid_internal_strconv_uint64pow10)) 15 (jr Rows.laid_math_bits_deBruijn32tab)) 16 (jr Rows.laid_math_bits_deBruijn64tab) }
abbrev Laid : List (String × DataW Unit) := Rows.evalGroupsUptoRow.laid
noncomputable abbrev LW (os : Os) (args : Array Value) : World := ((MK os).forCall (fun _ _ => 0) ⟨#[],args,[]⟩).memory
set_option maxRecDepth 1000000
theorem AOh (os : Os) (args : Array Value) : (DataW.laidRun prog (LW os args) 8 (Laid.map (·.1))).map (·.1) = some Laid := by kernel_rfl
noncomputable def LBk (os : Os) : List (Nat × Nat) :=
 let N := (World.settled prog os).heap.size
 [(15,32),(16,64),(4,3),(6,3),(5,1),(8,1),(N + 3,lns Rows.laid_internal_strconv_powtab),(9,1),(N + 4,lns Rows.laid_internal_strconv_float64pow10),(7,1),(N + 2,lns Rows.laid_internal_strconv_float32pow10),(14,20),(12,32),(3,1),(N + 1,1),(2,1),(N,1),(13,1),(N + 5,lns Rows.laid_internal_strconv_leftcheats * 2),(10,1392),(11,256)]
theorem AOi (os : Os) (args : Array Value) : (DataW.laidRun prog (LW os args) 8 (Laid.map (·.1))).map (·.2) = some ((LBk os).flatMap fun x => MemPlace.row ⟨x.1,0,none⟩ x.2) := by kernel_rfl
end TwW.Rw
end
section
namespace TwW
open Go
def rowsOf (L : List (Nat × Nat)) : List MemPlace := L.flatMap fun x => MemPlace.row ⟨x.1,0,none⟩ x.2
theorem W6 {b n : Nat} {p : MemPlace} : p ∈ MemPlace.row ⟨b,0,none⟩ n ↔ ∃ i,i < n ∧ p = .cell b i := by
 unfold MemPlace.row
 simp only [List.mem_map,List.mem_range,Nat.zero_add]
 exact ⟨fun ⟨i,h,e⟩ => ⟨i,h,e.symm⟩,fun ⟨i,h,e⟩ => ⟨i,h,e.symm⟩⟩
theorem js (b n : Nat) : (MemPlace.row ⟨b,0,none⟩ n).Nodup := by
 unfold MemPlace.row
 refine List.pairwise_map.2 ((List.nodup_range (n := n)).imp fun {i j} A5 e => A5 ?_)
 simpa using e
theorem T1 : ∀ {L : List (Nat × Nat)},(L.map Prod.fst).Nodup → (rowsOf L).Nodup
 | [],_ => List.nodup_nil
 | x :: L,h => by
   have h := List.nodup_cons.1 (show (x.1 :: L.map Prod.fst).Nodup from h)
   unfold rowsOf
   rw [List.flatMap_cons,List.nodup_append]
   refine ⟨js _ _,T1 h.2,fun p hp q hq e => ?_⟩
   subst e
   obtain ⟨i,_,rfl⟩ := W6.1 hp
   obtain ⟨y,hy,hq⟩ := List.mem_flatMap.1 hq
   obtain ⟨j,_,e⟩ := W6.1 hq
   simp only [MemPlace.cell.injEq] at e
   exact h.1 (List.mem_map.2 ⟨y,hy,e.1.symm⟩)
def laidB (P : Program) (w : World) (b : Nat) : Bool :=
 match w.heap[b]? with
 | some (.cells c _ (0,0)) => c.toList.all fun | .iface u v => Value.okWideB P w u v | _ => true
 | _ => false
theorem W7 {P : Program} {w : World} {l : List (String × DataW Unit)} (fuel : Nat) (L : List (Nat × Nat)) (h1 : (DataW.laidRun P w fuel (l.map (·.1))).map (·.1) = some l) (h2 : (DataW.laidRun P w fuel (l.map (·.1))).map (·.2) = some (rowsOf L))
   (hn : (L.map Prod.fst).Nodup) (hb : ∀ x ∈ L,laidB P w x.1 = true) : laidMet P l w := by
 cases hx : DataW.laidRun P w fuel (l.map (·.1)) with
 | none => rw [hx] at h1; cases h1
 | some x =>
   obtain ⟨l',ps⟩ := x
   rw [hx] at h1 h2
   simp only [Option.map_some,Option.some.injEq] at h1 h2
   subst h1; subst h2
   refine ⟨_,DataW.LaidVars_of_laidRun hx,T1 hn,fun b off hp => ?_⟩
   obtain ⟨y,hy,hp⟩ := List.mem_flatMap.1 hp
   obtain ⟨i,hi,e⟩ := W6.1 hp
   simp only [MemPlace.cell.injEq] at e
   obtain ⟨rfl,rfl⟩ := e
   have := hb y hy
   unfold laidB at this
   split at this
   · rename_i c t hh
     refine ⟨⟨c,t,hh⟩,fun u v hc => ?_⟩
     have hc' : c[off]? = some (.iface u v) := by simpa [World.cell?,hh] using hc
     have hm : Value.iface u v ∈ c.toList := Array.mem_toList_iff.2 (Array.mem_of_getElem? hc')
     exact Value.okWide_of_okWideB (List.all_eq_true.1 this _ hm)
   · cases this
end TwW
end
section
namespace TwW.Rw
open Go TwW Go.Proofs.Tryz Go.Proofs.YtlmhidjgplomgaaGreatDoor
set_option maxRecDepth 1000000
theorem ABp (os : Os) : nodupB ((LBk os).map Prod.fst) = true := by kernel_rfl
theorem ABq (os : Os) (args : Array Value) : ((LBk os).all fun x => laidB prog (LW os args) x.1) = true := by kernel_rfl
theorem qT (os : Os) (args : Array Value) : laidMet prog Laid (LW os args) := W7 8 (LBk os) (AOh os args) (AOi os args) (nodup_of_nodupB (ABp os)) (fun x hx => List.all_eq_true.1 (ABq os args) x hx)
end TwW.Rw
end
section
namespace TwW.Rw
open Go Tw TwW Go.RowKit Go.Deep Go.Proofs.Tryz Go.Proofs.YtlmhidjgplomgaaGreatDoor
theorem dh {H : Type} {enc : TypeId × Value → H} {w : World} {base : Nat} {sp : Nat → Bool} {held : Bool} {fuel : Nat} {t : TypeId} {cs : List Value} {x : DataW H × List MemPlace} {k : FloatKind} (ht : prog.underlying t = some (.float k)) (h : DataW.trod enc prog w base sp held fuel t cs = some x) : ∃ n,cs = [.float k n] ∧ x = (.lit (.float k n),[]) := by
 cases fuel with
 | zero => simp [DataW.trod] at h
 | succ n =>
   unfold DataW.trod at h
   rw [ht] at h
   split at h <;> simp_all
theorem gV {P : Program} {w : World} : ∀ {l : List (String × DataW Unit)} {ps : List MemPlace} {i : Nat} {n : String} {d : DataW Unit},DataW.LaidVars P w l ps → l[i]? = some (n,d) →
   ∃ g t cs fuel p,P.globalNamed n = some g ∧ (P.globals[g]?).map (·.type) = some t ∧ w.var? P n = some cs ∧ DataW.trod (fun _ => ()) P w 0 (fun _ => true) false fuel t cs.toList = some (d,p)
 | [],_,_,_,_,_,h => by simp at h
 | (m,e) :: r,ps,0,n,d,h,hi => by
   cases hi
   obtain ⟨g,t,cs,fuel,p,q,h1,h2,h3,h4,_⟩ := h
   exact ⟨g,t,cs,fuel,p,h1,h2,h3,h4⟩
 | (m,e) :: r,ps,i + 1,n,d,h,hi => by
   obtain ⟨g,t,cs,fuel,p,q,h1,h2,h3,h4,h5,_⟩ := h
   exact gV h5 hi
theorem W8 {P : Program} {w : World} {l : List (String × DataW Unit)} {i g t : Nat} {n : String} {d : DataW Unit} (h : laidMet P l w) (hi : l[i]? = some (n,d)) (hg : P.globalNamed n = some g) (ht : (P.globals[g]?).map (·.type) = some t) :
   ∃ cs fuel p,(∀ (j : Nat) v,cs[j]? = some v → (full w).ld ⟨g,j,none⟩ = some v) ∧ DataW.trod (fun _ => ()) P w 0 (fun _ => true) false fuel t cs = some (d,p) := by
 obtain ⟨ps,hv,_⟩ := h
 obtain ⟨g',t',cs,fuel,p,h1,h2,h3,h4⟩ := gV hv hi
 obtain rfl := Option.some.inj (hg.symm.trans h1)
 obtain rfl := Option.some.inj (ht.symm.trans h2)
 refine ⟨cs.toList,fuel,p,fun j v hj => Qy ?_,h4⟩
 unfold World.var? at h3
 rw [hg] at h3
 simp only [Option.bind_some] at h3
 split at h3
 · rename_i c T fr hc
   cases h3
   simpa [World.cell?,hc] using hj
 · cases h3
theorem qU {W : World} (h : laidMet prog Laid W) : (full W).ld ⟨5,0,none⟩ = some (.bool true) := by
 obtain ⟨cs,fuel,p,h1,h2⟩ := W8 (i := 4) (n := "internal/strconv.optimize") (d := .lit (.bool true)) (g := 5) (t := 4) h rfl (by kernel_rfl) (by kernel_rfl)
 obtain ⟨b,rfl,e⟩ := DataW.trod_bool underlying4 h2
 cases e
 exact h1 0 _ rfl
set_option maxRecDepth 100000 in
theorem jt {W : World} (h : laidMet prog Laid W) : (full W).ld ⟨6,0,none⟩ = some (.int .u64 52) := by
 obtain ⟨cs,fuel,p,h1,h2⟩ := W8 (i := 3) (n := "internal/strconv.float64info") (d := .agg [.lit (.int .u64 52),.lit (.int .u64 11),.lit (.int .i64 (-1023))]) (g := 6) (t := 300) h rfl (by kernel_rfl) (by kernel_rfl)
 obtain ⟨xs,n,_,e,hlen,xo,hg⟩ := DataW.trod_struct underlying300 h2
 rw [show prog.cellsOf 300 = 3 by kernel_rfl] at hlen
 match cs,hlen,xs,xo with
 | [c0,c1,c2],_,[y0,y1,y2],_ =>
   have h0 := hg 0 _ rfl
   simp only [show prog.cellsOf 141 = 1 by kernel_rfl,List.drop,List.take,List.getElem?_cons_zero] at h0
   obtain ⟨a,e0,e1,_⟩ := DataW.trod_int underlying141 h0
   cases e0
   have e2 : y0.1 = .lit (.int .u64 52) := by
     have := congrArg Prod.fst e
     simp only [List.map_cons,DataW.agg.injEq,List.cons.injEq] at this
     exact this.1.symm
   rw [e1] at e2
   cases e2
   exact h1 0 _ rfl
set_option maxRecDepth 100000 in
theorem qV {W : World} (h : laidMet prog Laid W) : ∃ b o n c,(full W).ld ⟨9,0,none⟩ = some (.slice (some ⟨b,o,none⟩) n c) ∧ 16 ≤ n ∧ ∀ i v,Ti[i]? = some v → (full W).ld ⟨b,o + i * 1,none⟩ = some (.float .f64 v) := by
 obtain ⟨cs,fuel,p,h1,h2⟩ := W8 (i := 6) (n := "internal/strconv.float64pow10") (d := Rows.laid_internal_strconv_float64pow10) (g := 9) (t := 63) h rfl (by kernel_rfl) (by kernel_rfl)
 rcases open_slice underlying63 h2 with ⟨_,e⟩ | ⟨a,len,cap,m,n,D,Pl,rfl,hb,hl,hm,hmm,e,hi⟩
 · have := congrArg Prod.fst e
   simp [Rows.laid_internal_strconv_float64pow10] at this
 have e1 := congrArg Prod.fst e
 simp only [Rows.laid_internal_strconv_float64pow10,DataW.slice.injEq] at e1
 obtain ⟨e1,_⟩ := e1
 have hlen := congrArg List.length e1
 rw [List.length_map,List.length_range] at hlen
 simp only [List.length_cons,List.length_nil] at hlen
 have hlm : len ≤ m := by rw [hmm]; split <;> omega
 have Ul : ∀ i,i < len → ∃ v,W.cell? (a.add (i * 1)) = some (.float .f64 v) ∧ D i = .lit (.float .f64 v) := fun i B9 => by
   obtain ⟨cs',hc,kM⟩ := hi i (by omega)
   rw [show prog.cellsOf 51 = 1 by kernel_rfl] at hc
   obtain ⟨_,Xq,yi⟩ := World.cells?_some hc
   obtain ⟨v,rfl,ev⟩ := dh underlying51 kM
   have h0 := yi 0 (by decide)
   simp only [List.getElem?_cons_zero] at h0
   exact ⟨v,h0,(congrArg Prod.fst ev)⟩
 have Zs : a.spot = none := by
   obtain ⟨v,hv,_⟩ := Ul 0 (by omega)
   have := Uo hv
   simpa [Addr.add] using this
 obtain ⟨b,o,sp⟩ := a
 simp only at Zs
 subst Zs
 refine ⟨b,o,len,cap,h1 0 _ rfl,by omega,fun i v hv => ?_⟩
 have AOj : i < 16 := (List.getElem?_eq_some_iff.1 hv).1
 obtain ⟨u,hu,hD⟩ := Ul i (by omega)
 have hDi : ((List.range len).map D)[i]? = some (D i) := by rw [List.getElem?_map,List.getElem?_range (by omega)]; rfl
 rw [← e1,hD] at hDi
 have huv : u = v := by
   match i,AOj with
   | 0,_ | 1,_ | 2,_ | 3,_ | 4,_ | 5,_ | 6,_ | 7,_ | 8,_ | 9,_ | 10,_ | 11,_ | 12,_ | 13,_ | 14,_ | 15,_ =>
     simp [Ti] at hv hDi
     omega
 subst huv
 have h9 := Qy hu
 rw [Bt] at h9
 exact h9
theorem AIi {W : World} (h : laidMetH prog Laid W) (hs : W.ShapedOpen prog) : Gl (full W) := by
 have h : laidMet prog Laid W := by
   rw [MakeChecks.laidMetH_plain _ _ _ (by kernel_rfl)] at h
   exact h
 exact ⟨let ⟨m,hm⟩ := Go.Proofs.cell_of_shapedOpen_int (g := 1) (zero := #[.int .i64 0]) (t := 3) hs (of_decide_eq_true (by kernel_rfl)) (by kernel_rfl) rfl (by kernel_rfl) (by kernel_rfl) underlying3; ⟨m,Qy hm⟩,qU h,jt h,qV h⟩
end TwW.Rw
end
section
namespace TwW.Rw
open Go Tw TwW Go.Proofs.Tryz Go.Proofs.YtlmhidjgplomgaaGreatDoor
theorem Be {a b : Bool} (h1 : a = true) (h2 : b = true) : (a && b) = true := by rw [h1,h2]; rfl
theorem AIj : mapsRowed prog = true := by kernel_rfl
theorem heard : prog.stopsHeard = true := by kernel_rfl
theorem enters : prog.mayEnter = true := by kernel_rfl
theorem ABr : (prog.stops == []) = true := by kernel_rfl
theorem ABs : (prog.stopKnobs == []) = true := by kernel_rfl
theorem AIk : (Rows.evalGroupsRow.lifted == prog.liftsFinal) = true := by kernel_rfl
theorem keys : (Rows.evalGroupsRow.plainKeys == prog.plainKeys) = true := by kernel_rfl
theorem makes : (prog.make == some Rows.evalGroupsRow.make) = true := by kernel_rfl
end TwW.Rw
end
section
namespace TwW.Rw
open Go Tw TwW Go.ChangeShapes Go.WideShapes Go.ChangeAt Go.RowKit Go.Deep Go.Proofs.Tryz Go.Proofs.YtlmhidjgplomgaaGreatDoor
noncomputable abbrev wV (os : Os) (args : Array Value) : World := (MK os).forCall (fun _ _ => 0) ⟨#[],args,[]⟩
def vD (P : Program) (w : World) (g : Nat) : Bool :=
 match ((begin P (fun _ _ => 0) default).world.heap[g]?).bind Obj.row? with
 | none => true
 | some (zero,t) =>
   match w.heap[g]? with
   | some (.cells cs t' frozen) => decide (t' = t) && decide (frozen = (0,0)) && cs.size == zero.size && (!P.buildable t || Row.okRefB P w t cs)
   | _ => false
theorem qW {P : Program} {w : World} (h : ∀ g,g < P.globals.size → vD P w g = true) : w.variablesRefB P = true :=
 List.all_eq_true.2 fun g hg => h g (List.mem_range.1 hg)
theorem di {P : Program} {w : World} {t e : TypeId} {cs : Array Value} {n : Nat} (XG : P.cellTypes P.depth t = some (List.replicate n e)) (hs : cs.size = n) (Js : (cs.toList.all fun v => Cell.okRefB P w e v) = true) : Row.okRefB P w t cs = true := by
 unfold Row.okRefB
 rw [XG]
 simp only [List.length_replicate,hs,Nat.mod_self,Bool.and_eq_true,beq_iff_eq,List.all_eq_true,List.mem_range,true_and]
 intro i hi
 have B9 : i < cs.size := by omega
 rw [Array.getElem?_eq_getElem B9,Nat.mod_eq_of_lt hi,List.getElem?_replicate,if_pos hi]
 exact List.all_eq_true.1 Js _ (by simp)
theorem gW {P : Program} {w : World} {g n : Nat} {t e : TypeId} {cs : Array Value} (h0 : (((begin P (fun _ _ => 0) default).world.heap[g]?).bind Obj.row?).map (fun x => (x.1.size,x.2)) = some (n,t)) (h1 : w.heap[g]? = some (.cells cs t (0,0))) (hs : cs.size = n) (XG : P.cellTypes P.depth t = some (List.replicate n e)) (Js : (cs.toList.all fun v => Cell.okRefB P w e v) = true) : vD P w g = true := by
 unfold vD
 cases hb : ((begin P (fun _ _ => 0) default).world.heap[g]?).bind Obj.row? with
 | none => rfl
 | some x =>
   obtain ⟨zero,t'⟩ := x
   rw [hb] at h0
   simp only [Option.map_some,Option.some.injEq,Prod.mk.injEq] at h0
   obtain ⟨h2,rfl⟩ := h0
   simp only [h1,di XG hs Js,hs,h2]
   simp
set_option maxRecDepth 1000000
theorem AIl (os : Os) {args : Array Value} : ((List.range 17).all fun g => (g == 10 || g == 11) || vD prog (wV os args) g) = true := by kernel_rfl
theorem AOk (os : Os) {args : Array Value} : (wV os args).heap[10]? = some (.cells (fl2 Rows.laid_internal_strconv_pow10Tab).toArray 342 (0,0)) := by kernel_rfl
theorem AOl (os : Os) {args : Array Value} : (wV os args).heap[11]? = some (.cells (jr Rows.laid_unicode_utf8_first).toArray 351 (0,0)) := by kernel_rfl
theorem z10 : (((begin prog (fun _ _ => 0) default).world.heap[10]?).bind Obj.row?).map (fun x => (x.1.size,x.2)) = some (1392,342) := by kernel_rfl
theorem z11 : (((begin prog (fun _ _ => 0) default).world.heap[11]?).bind Obj.row?).map (fun x => (x.1.size,x.2)) = some (256,351) := by kernel_rfl
theorem t10 : prog.cellTypes prog.depth 342 = some (List.replicate 1392 48) := by kernel_rfl
theorem t11 : prog.cellTypes prog.depth 351 = some (List.replicate 256 5) := by kernel_rfl
theorem s10 : (fl2 Rows.laid_internal_strconv_pow10Tab).toArray.size = 1392 := by kernel_rfl
theorem s11 : (jr Rows.laid_unicode_utf8_first).toArray.size = 256 := by kernel_rfl
theorem a10 (os : Os) {args : Array Value} : ((fl2 Rows.laid_internal_strconv_pow10Tab).toArray.toList.all fun v => Cell.okRefB prog (wV os args) 48 v) = true := by kernel_rfl
theorem a11 (os : Os) {args : Array Value} : ((jr Rows.laid_unicode_utf8_first).toArray.toList.all fun v => Cell.okRefB prog (wV os args) 5 v) = true := by kernel_rfl
theorem AOm (os : Os) {args : Array Value} : (wV os args).variablesRefB prog = true := qW fun g hg => by
 by_cases TP : g = 10
 · subst TP; exact gW z10 (AOk os) s10 t10 (a10 os)
 by_cases gJ : g = 11
 · subst gJ; exact gW z11 (AOl os) s11 t11 (a11 os)
 have h17 : g < 17 := hg
 have := List.all_eq_true.1 (AIl os (args := args)) g (List.mem_range.2 h17)
 simpa [TP,gJ] using this
theorem Vj {H : Type} {s : ByteArray} (h : Rows.uptoBulk (DataW.lit (H := H) (.string s.data.toList)) ≤ 1048576) : s.size ≤ 1048576 := by
 have e : s.data.toList.length = s.size := Array.length_toList
 have h' : s.data.toList.length + 1 ≤ 1048576 := h
 omega
abbrev SrI (ss : List Sr) : Prop := vC (fun s : Sr => s.ls.length ≤ 1048576 ∧ s.ps.length ≤ 1048576 ∧ ∀ p ∈ s.ps,0 ≤ p.2 ∧ p.2 < 18446744073709551616) ss
theorem ABt {ss : List Sr} (h : SrI ss) : Modest [] ss := ⟨Nat.zero_le _,fun x hx => (by cases hx),Nat.le_trans h.2 (by decide),fun s hs => Nat.le_trans (h.1 s hs).2.1 (by decide),fun s hs p hp => ((h.1 s hs).2.2 p hp).1⟩
theorem ABu {ss : List Sr} (h : SrI ss) : SOk ss := ⟨Nat.le_trans h.2 (by decide),fun s hs => Nat.le_trans (h.1 s hs).1 (by decide),fun s hs => Nat.le_trans (h.1 s hs).2.1 (by decide)⟩
end TwW.Rw
end
section
namespace TwW
open Go Tw Go.RowKit Go.Proofs.Tryz
def OK (v : Int) : Prop := (IZ v.toNat = false ∧ 0 ≤ v) ∨ v = 9221120237041090560
theorem qX {x : Nat} (h : IZ x = false ∨ x = 9221120237041090560) : OK (x : Nat) := by
 rcases h with h | h
 · exact .inl ⟨by rw [Int.toNat_natCast]; exact h,Int.natCast_nonneg _⟩
 · exact .inr (by rw [h]; rfl)
theorem PW (x : Nat) : OK (toF x : Nat) := qX (by
 unfold toF
 split
 · exact .inr rfl
 · rename_i h; exact .inl (by simpa using h))
theorem W9 (x : Int) : OK (dF x) := PW _
theorem dj (op : Int) (a b : Nat) : OK (Wp op a b : Nat) := by
 unfold Wp
 cases fAr op a b with
 | none => exact .inr rfl
 | some r => exact PW r
theorem Ll (op a b : Int) : OK (RF op a b) := dj _ _ _
theorem Vk {neg : Bool} {r : Nat} (h : r ≤ 9218868437227405312) : IZ (Ieee.double.word neg r) = false := by
 cases hf : IZ (Ieee.double.word neg r) with
 | false => rfl
 | true =>
   rw [LV] at hf
   have e : Ieee.double.word neg r = if neg then 9223372036854775808 + r else r := by cases neg <;> rfl
   rw [e] at hf
   cases neg
   · simp only [Bool.false_eq_true,if_false] at hf; omega
   · simp only [if_true] at hf; omega
theorem PY (n : Int) : OK (BN n) := qX (.inl (by
 show IZ (Ieee.double.nearest (n < 0) n.natAbs 0) = false
 unfold Ieee.Format.nearest
 dsimp only
 split
 · exact Vk (Nat.zero_le _)
 · exact Vk (Nat.le_trans (Nat.min_le_right ..) (by decide))))
theorem AIm : OK 0 := .inl ⟨by decide,by decide⟩
theorem Zt {f : Int → Int → Int} (hf : ∀ a b,OK a → OK (f a b)) : ∀ (l : List Int) (a : Int),OK a → OK (l.foldl f a)
 | [],a,h => h
 | x :: l,a,h => Zt hf l _ (hf a x h)
theorem gX : ∀ vs,OK (Uf vs)
 | [] => AIm
 | v :: l => Zt (fun a b _ => Ll 1 a b) l _ (W9 v)
theorem OL (op : Int) : ∀ vs,OK (LY op vs)
 | [] => AIm
 | v :: l => W9 _
theorem qY (vs : List Int) : OK (La vs) := by
 unfold La
 have : ∀ (l : List (Int × Int)) (a : Int),OK a → OK (l.foldl LZ a) := fun l => by
   induction l with
   | nil => intro a h; exact h
   | cons x l ih =>
     intro a h
     refine ih _ ?_
     unfold LZ
     split
     · exact Ll _ _ _
     · exact h
 exact this _ _ (Ll _ _ _)
theorem qZ (op : Int) (vs : List Int) : OK (foldI op vs) := by
 unfold foldI
 split
 · exact gX _
 · split
   · exact OL _ _
   · split
     · exact OL _ _
     · split
       · exact Ll _ _ _
       · exact PY _
theorem qa {op : Int} {vs : List Int} {w x : Int} (h : Ih op vs w = some x) : OK x := by
 unfold Ih at h
 split at h
 · rw [← Option.some.inj h]; exact gX _
 split at h
 · rw [← Option.some.inj h]; exact Ll _ _ _
 split at h
 · rw [← Option.some.inj h]; exact OL _ _
 split at h
 · rw [← Option.some.inj h]; exact OL _ _
 split at h
 · rw [← Option.some.inj h]; exact PY _
 split at h
 · rw [← Option.some.inj h]; exact W9 _
 split at h
 · rw [← Option.some.inj h]; exact dj _ _ _
 split at h
 · exact absurd h.symm (Option.some_ne_none _)
 split at h
 · rw [← Option.some.inj h]; exact Ll _ _ _
 split at h
 · rw [← Option.some.inj h]; exact qY _
 · rw [← Option.some.inj h]; exact Ll _ _ _
theorem OM (op a b : Int) : OK (Ii op a b).1 := by
 unfold Ii
 split
 · exact Ll _ _ _
 · show OK (if _ then BN 1 else BN 0)
   split <;> exact PY _
theorem vE (s : ByteArray) : OK (Zi s) := by
 unfold Zi
 dsimp only
 split
 · exact PW _
 · split
   · exact PW _
   · exact dj _ _ _
theorem ju (x : Int) : OK (NI x) := by
 unfold NI LX
 split
 · exact .inr rfl
 · exact PW _
theorem vF (x : Int) : OK (Wq x) := PW _
theorem Zu (x : Int) : OK (pJ x) := W9 _
theorem qb : ∀ x y : List UInt8,Op.bytesLess x y = true ∨ x = y ∨ Op.bytesLess y x = true
 | [],[] => .inr (.inl rfl)
 | [],_ :: _ => .inl rfl
 | _ :: _,[] => .inr (.inr rfl)
 | a :: x,b :: y => by
   simp only [Op.bytesLess,Bool.or_eq_true,Bool.and_eq_true,decide_eq_true_eq,beq_iff_eq]
   rcases Nat.lt_trichotomy a.toNat b.toNat with h | h | h
   · exact .inl (.inl (UInt8.lt_iff_toNat_lt.2 h))
   · have e : a = b := UInt8.toNat_inj.1 h
     subst e
     rcases qb x y with h | h | h
     · exact .inl (.inr ⟨rfl,h⟩)
     · exact .inr (.inl (by rw [h]))
     · exact .inr (.inr (.inr ⟨rfl,h⟩))
   · exact .inr (.inr (.inl (UInt8.lt_iff_toNat_lt.2 h)))
theorem T3 : ∀ x y z : List UInt8,Op.bytesLess x y = true → Op.bytesLess y z = true → Op.bytesLess x z = true
 | _,_,[],_,h => by cases ‹List UInt8› <;> simp [Op.bytesLess] at h
 | [],_,_ :: _,_,_ => rfl
 | _ :: _,[],_,h,_ => by simp [Op.bytesLess] at h
 | a :: x,b :: y,c :: z,h1,h2 => by
   simp only [Op.bytesLess,Bool.or_eq_true,Bool.and_eq_true,decide_eq_true_eq,beq_iff_eq,UInt8.lt_iff_toNat_lt] at h1 h2 ⊢
   rcases h1 with h1 | ⟨rfl,h1⟩
   · rcases h2 with h2 | ⟨rfl,h2⟩
     · exact .inl (by omega)
     · exact .inl h1
   · rcases h2 with h2 | ⟨rfl,h2⟩
     · exact .inl h2
     · exact .inr ⟨rfl,T3 x y z h1 h2⟩
theorem dn : ∀ x : List UInt8,Op.bytesLess x x = false
 | [] => rfl
 | a :: x => by simp [Op.bytesLess,dn x]
theorem qc {a b : ByteArray} (h : sle b a = false) : Op.bytesLess a.toList b.toList = true := by
 unfold sle at h
 simp only [Bool.or_eq_false_iff,beq_eq_false_iff_ne] at h
 rcases qb a.toList b.toList with h1 | h1 | h1
 · exact h1
 · exact absurd h1.symm h.2
 · rw [h1] at h; exact absurd h.1 (by decide)
theorem T5 {p x y : ByteArray} (h1 : sle x p = false) (h2 : sle y x = false) : sle y p = false := by
 have h3 := T3 _ _ _ (qc h1) (qc h2)
 cases h : sle y p with
 | false => rfl
 | true =>
   unfold sle at h
   simp only [Bool.or_eq_true,beq_iff_eq] at h
   rcases h with h | h
   · have := T3 _ _ _ h3 h
     rw [dn] at this; cases this
   · rw [h,dn] at h3; cases h3
theorem GF {pv : Option ByteArray} {x : Lb} {l : List Lb} : C4 pv (x :: l) = 0 ↔ ¬ CD x.1 = false ∧ ¬ (x.2.size = 0 ∨ 256 < x.2.size ∨ ND x.2 = false) ∧ ¬ pv.any (sle x.1 ·) = true ∧ C4 (some x.1) l = 0 := by
 have e : C4 pv (x :: l) = if CD x.1 = false then 31 else if x.2.size = 0 ∨ 256 < x.2.size ∨ ND x.2 = false then 32 else if pv.any (sle x.1 ·) = true then 33 else C4 (some x.1) l := by cases pv <;> rfl
 rw [e]
 constructor
 · intro h
   split at h
   · cases h
   split at h
   · cases h
   split at h
   · cases h
   exact ⟨by assumption,by assumption,by assumption,h⟩
 · rintro ⟨h1,h2,h3,h4⟩
   rw [if_neg h1,if_neg h2,if_neg h3]; exact h4
theorem qd {pv : Option ByteArray} {k : ByteArray} (hk : ∀ p,pv = some p → sle k p = false) : ∀ {l : List Lb},C4 (some k) l = 0 → C4 pv l = 0
 | [],_ => by cases pv <;> rfl
 | x :: l,h => by
   obtain ⟨h1,h2,h3,h4⟩ := GF.1 h
   refine GF.2 ⟨h1,h2,?_,h4⟩
   cases pv with
   | none => simp
   | some p =>
     simp only [Option.any_some,Bool.not_eq_true] at h3 ⊢
     exact T5 (hk p rfl) h3
theorem T6 (g : Lb → Bool) : ∀ (ls : List Lb) (pv : Option ByteArray),C4 pv ls = 0 → C4 pv (ls.filter g) = 0
 | [],pv,_ => by cases pv <;> rfl
 | x :: l,pv,h => by
   obtain ⟨h1,h2,h3,h4⟩ := GF.1 h
   have ih := T6 g l _ h4
   rw [List.filter_cons]
   split
   · exact GF.2 ⟨h1,h2,h3,ih⟩
   · refine qd (fun p hp => ?_) ih
     subst hp
     simpa using h3
theorem GG {ls : List Lb} (g : Lb → Bool) (h : Dr ls = 0) : Dr (ls.filter g) = 0 := by
 unfold Dr at h ⊢
 split at h
 · cases h
 · rename_i h16
   have := List.length_filter_le g ls
   rw [if_neg (by omega)]
   exact T6 g ls none h
theorem Gy {ls : List Lb} (h : Dr ls = 0) : Dr (BF ls) = 0 := GG _ h
theorem vG {n : Nd} {ls : List Lb} (h : Dr ls = 0) : Dr (Ed n ls) = 0 := by
 unfold Ed
 split
 · exact GG _ h
 · exact Gy (GG _ h)
theorem dq {n : Nd} {ls : List Lb} (h : Dr ls = 0) : Dr (EL n ls) = 0 := by
 unfold EL
 split
 · exact GG _ h
 · split
   · exact Gy (GG _ h)
   · rfl
def Lm (l : List El) : Prop := l.Pairwise fun a b => Aw a.ls b.ls < 0
def kQ (ss : List Sr) (e : El) : Prop := Dr e.ls = 0 ∧ (OK e.v ∨ ∃ s ∈ ss,∃ p ∈ s.ps,p.2 = e.v)
structure VS (ss : List Sr) (x : Vv) : Prop where
 el : ∀ e ∈ x.vec,kQ ss e
 up : Lm x.vec
 rg : ∀ r ∈ x.Ow,Dr r.ls = 0
 one : x.kind = 1 → OK x.v
theorem JZ {l m : List El} (h : Ca FF l = some m) : Lm m := by
 have hp := MJ h
 unfold Ca at h
 split at h
 · rename_i hd
   cases h
   have h1 := JS (F := FF) rfl l
   have h2 : (ZM FF l).Pairwise fun a b => Aw a.ls b.ls ≠ 0 := (hp.pairwise_iff (fun {x y} Ue hyx => Ue (by rw [(AY.eq _ _).1 hyx]; exact (AY.eq _ _).2 rfl))).2 hd
   exact (h1.and h2).imp fun {a b} XM => by
     have h3 : Aw a.ls b.ls ≤ 0 := XM.1
     have h4 := XM.2
     omega
 · cases h
theorem NO {ss : List Sr} {l m : List El} (h : Ca FF l = some m) (hl : ∀ e ∈ l,kQ ss e) : VS ss ⟨2,0,m,[]⟩ :=
 ⟨fun e he => hl e ((MJ h).mem_iff.1 he),JZ h,fun r hr => (by cases hr),fun hh => absurd (show (2 : Int) = 1 from hh) (by decide)⟩
theorem dt {ss : List Sr} {v : Int} (h : OK v) : VS ss ⟨1,v,[],[]⟩ := ⟨fun e he => (by cases he),.nil,fun r hr => (by cases hr),fun _ => h⟩
theorem Ij : ∀ {ss : List Sr} {q : Option (List Lb)},Cy q ss = true → (∀ k,q = some k → ∀ s ∈ ss,Aw k s.ls < 0) ∧ ss.Pairwise fun a b => Aw a.ls b.ls < 0
 | [],q,_ => ⟨fun k _ s hs => (by cases hs),.nil⟩
 | s :: l,q,h => by
   rw [IY] at h
   simp only [Bool.and_eq_true] at h
   obtain ⟨h1,h2⟩ := Ij h.2
   refine ⟨fun k hk u hu => ?_,List.pairwise_cons.2 ⟨fun u hu => h1 s.ls rfl u hu,h2⟩⟩
   subst hk
   have h3 : Aw k s.ls < 0 := of_decide_eq_true h.1.2
   rcases List.mem_cons.1 hu with rfl | hu
   · exact h3
   · exact AY.trans _ _ _ h3 (h1 s.ls rfl u hu)
theorem Vm {ss : List Sr} {n : Nd} {t : Int} (h : Cy none ss = true) : VS ss ⟨2,0,As FF n ss t,[]⟩ := by
 have key : ∀ (s : Sr) (e : El),(match (F5 s.ps (t - n.back - 300) (t - n.back)).getLast? with
   | none => none
   | some p => if p.2 = IV ∨ FF.ZL n.mt s.ls = false then none else some (⟨s.ls,p.2⟩ : El)) = some e → e.ls = s.ls ∧ ∃ p ∈ s.ps,p.2 = e.v := fun s e he => by
   split at he
   · cases he
   · rename_i p hl
     split at he
     · cases he
     · simp only [Option.some.injEq] at he
       subst he
       exact ⟨rfl,p,(List.mem_filter.1 (List.mem_of_getLast? hl)).1,rfl⟩
 refine ⟨fun e he => ?_,?_,fun r hr => (by cases hr),fun hh => absurd (show (2 : Int) = 1 from hh) (by decide)⟩
 · obtain ⟨s,hs,h1⟩ := List.mem_filterMap.1 he
   obtain ⟨h2,p,hp,hv⟩ := key s e h1
   exact ⟨by rw [h2]; exact (Lh h s hs).1,.inr ⟨s,hs,p,hp,hv⟩⟩
 · show (List.filterMap _ ss).Pairwise _
   refine List.pairwise_filterMap.2 ((Ij h).2.imp fun {a b} XM e he e' Qf => ?_)
   rw [(key a e he).1,(key b e' Qf).1]; exact XM
theorem qe {ss : List Sr} {n : Nd} {t : Int} (h : Cy none ss = true) : VS ss ⟨3,FF.whole n.width,[],Wn FF n ss t⟩ := by
 refine ⟨fun e he => (by cases he),.nil,fun r hr => ?_,fun hh => absurd (show (3 : Int) = 1 from hh) (by decide)⟩
 obtain ⟨s,hs,h1⟩ := List.mem_filterMap.1 hr
 dsimp only at h1
 generalize (!_ && FF.ZL n.mt s.ls) = b at h1
 cases b with
 | false => cases h1
 | true =>
   simp only [cond_true,Option.some.injEq] at h1
   subst h1
   exact (Lh h s hs).1
theorem qf {ss : List Sr} {n : Nd} {x : Vv} (hx : VS ss x) : ∀ e ∈ TR FF n x,kQ ss e := fun e he => by
 rcases List.mem_append.1 he with he | he
 · obtain ⟨y,hy,rfl⟩ := List.mem_map.1 he
   refine ⟨Gy (hx.el y hy).1,.inl ?_⟩
   show OK (if n.op = 11 then Wq y.v else NI y.v)
   split
   · exact vF _
   · exact ju _
 · obtain ⟨y,hy,h1⟩ := List.mem_filterMap.1 he
   have h2 : (Ih n.op y.vs x.v).map (fun v => (⟨BF y.ls,v⟩ : El)) = some e := h1
   cases ho : Ih n.op y.vs x.v with
   | none => rw [ho] at h2; cases h2
   | some z =>
     rw [ho] at h2
     simp only [Option.map_some,Option.some.injEq] at h2
     subst h2
     exact ⟨Gy (hx.rg y hy),.inl (qa ho)⟩
theorem Zv {ls : List Lb} {v : Int} : ∀ {l : List Rg} {g : Rg},g ∈ IW ls v l → g.ls = ls ∨ ∃ y ∈ l,y.ls = g.ls
 | [],g,h => by
   unfold IW at h
   rw [List.mem_singleton] at h
   exact .inl (by rw [h])
 | y :: l,g,h => by
   unfold IW at h
   split at h
   · rcases List.mem_cons.1 h with rfl | h
     · exact .inr ⟨y,by simp,rfl⟩
     · exact .inr ⟨g,List.mem_cons_of_mem _ h,rfl⟩
   · rcases List.mem_cons.1 h with rfl | h
     · exact .inr ⟨g,by simp,rfl⟩
     · rcases Zv h with h | ⟨z,hz,h⟩
       · exact .inl h
       · exact .inr ⟨z,List.mem_cons_of_mem _ hz,h⟩
theorem Vn {n : Nd} : ∀ (l : List El) (gs : List Rg),(∀ e ∈ l,Dr e.ls = 0) → (∀ g ∈ gs,Dr g.ls = 0) → ∀ g ∈ l.foldl (fun gs x => IW (EL n x.ls) x.v gs) gs,Dr g.ls = 0
 | [],gs,_,h => h
 | x :: l,gs,hl,h => by
   refine Vn l _ (fun e he => hl e (List.mem_cons_of_mem _ he)) fun g hg => ?_
   rcases Zv hg with h1 | ⟨y,hy,h1⟩
   · rw [h1]; exact dq (hl x (by simp))
   · rw [← h1]; exact h y hy
theorem vH {ss : List Sr} {n : Nd} {x : Vv} (hx : VS ss x) : ∀ e ∈ cz FF n x,kQ ss e := fun e he => by
 obtain ⟨g,hg,rfl⟩ := List.mem_map.1 he
 exact ⟨Vn (n := n) x.vec [] (fun e he => (hx.el e he).1) (fun g hg => by cases hg) g hg,.inl (qZ _ _)⟩
theorem gY {ss : List Sr} {n : Nd} {l : List El} {f : Int → Int × Bool} (hl : ∀ e ∈ l,kQ ss e) (hf : ∀ v,OK (f v).1) : ∀ e ∈ TS n l f,kQ ss e := fun e he => by
 obtain ⟨y,hy,h1⟩ := List.mem_filterMap.1 he
 split at h1
 · simp only [Option.some.injEq] at h1
   subst h1
   exact ⟨Gy (hl y hy).1,.inl (hf _)⟩
 · split at h1
   · simp only [Option.some.injEq] at h1
     subst h1; exact hl y hy
   · cases h1
theorem qg {ss : List Sr} {n : Nd} {x y : List El} (hx : ∀ e ∈ x,kQ ss e) (hy : ∀ e ∈ y,kQ ss e) : ∀ e ∈ E6 n x y,kQ ss e := fun e he => by
 unfold E6 at he
 rcases List.mem_append.1 he with he | he
 · exact hx e (List.mem_filter.1 he).1
 · exact hy e (List.mem_filter.1 he).1
theorem qh {ss : List Sr} {n : Nd} {x y m : List El} (hx : ∀ e ∈ x,kQ ss e) (h : N8 FF n x y = some m) : ∀ e ∈ m,kQ ss e := by
 unfold N8 at h
 split at h
 · simp only [Option.some.injEq] at h
   subst h
   intro e he
   obtain ⟨z,hz,h1⟩ := List.mem_filterMap.1 he
   split at h1
   · cases h1
   · split at h1
     · simp only [Option.some.injEq] at h1
       subst h1
       exact ⟨vG (hx z hz).1,.inl (OM _ _ _)⟩
     · split at h1
       · simp only [Option.some.injEq] at h1
         subst h1; exact hx z hz
       · cases h1
 · cases h
theorem ABv {ss : List Sr} {n : Nd} {x y v : Vv} (hx : VS ss x) (hy : VS ss y) (h : ZN FF n x y = some v) : VS ss v := by
 unfold ZN at h
 split at h
 · cases h; exact dt (OM _ _ _)
 · obtain ⟨m,hm,rfl⟩ := map_some h
   split at hm
   · exact NO (show Ca FF (TS n y.vec (FF.N7 n.op x.v)) = some m from hm) (gY hy.el fun v => OM _ _ _)
   · split at hm
     · exact NO (show Ca FF (TS n x.vec fun v => FF.N7 n.op v y.v) = some m from hm) (gY hx.el fun v => OM _ _ _)
     · split at hm
       · exact NO (show Ca FF (E6 n x.vec y.vec) = some m from hm) (qg hx.el hy.el)
       · cases hq : N8 FF n x.vec y.vec with
         | none => rw [hq] at hm; cases hm
         | some w =>
           rw [hq] at hm
           exact NO (show Ca FF w = some m from hm) (qh hx.el hq)
theorem vI {ss : List Sr} {n : Nd} {t : Int} {L : List Vv} {v : Vv} (hs : Cy none ss = true) (hV : ∀ x ∈ L,VS ss x) (h : Gb FF ss t n L = some v) : VS ss v := by
 unfold Gb at h
 split at h
 · cases h; exact dt (vE _)
 split at h
 · cases h; exact Vm hs
 split at h
 · cases h; exact qe hs
 match L with
 | [x] =>
   have hx := hV x (by simp)
   dsimp only at h
   split at h
   · obtain ⟨m,hm,rfl⟩ := map_some h
     exact NO hm (qf hx)
   split at h
   · obtain ⟨m,hm,rfl⟩ := map_some h
     exact NO hm (vH hx)
   split at h
   · unfold jD at h
     split at h
     · cases h; exact dt (Zu _)
     · obtain ⟨m,hm,rfl⟩ := map_some h
       refine NO hm fun e he => ?_
       obtain ⟨y,hy,rfl⟩ := List.mem_map.1 he
       exact ⟨Gy (hx.el y hy).1,.inl (Zu _)⟩
   · cases h
 | [x,y] =>
   dsimp only at h
   split at h
   · exact ABv (hV x (by simp)) (hV y (by simp)) h
   · cases h
 | [] => cases h
 | _ :: _ :: _ :: _ => cases h
theorem qi {ss : List Sr} {t : Int} (hs : Cy none ss = true) : ∀ (T : List Nd) (st r : List Vv),JQ FF ss t T st = some r → (∀ x ∈ st,VS ss x) → ∀ x ∈ r,VS ss x
 | [],st,r,hr,hV => by cases hr; exact hV
 | x :: T,st,r,hr,hV => by
   rw [JQ] at hr
   cases hz : Gb FF ss t x (st.drop (st.length - x.parts.toNat)) with
   | none => rw [hz] at hr; cases hr
   | some z =>
     rw [hz] at hr
     refine qi hs T _ r hr fun u hu => ?_
     rcases List.mem_append.1 hu with hu | hu
     · exact hV u (List.mem_of_mem_take hu)
     · rw [List.mem_singleton] at hu
       rw [hu]
       exact vI hs (fun y hy => hV y (List.mem_of_mem_drop hy)) hz
theorem ON {ss : List Sr} {t : Int} {T : List Nd} {l : List El} (hs : Cy none ss = true) (h : A7 FF T ss t = some l) : (∀ e ∈ l,kQ ss e) ∧ Lm l := by
 unfold A7 at h
 cases hr : JQ FF ss t T [] with
 | none => rw [hr] at h; cases h
 | some st =>
   rw [hr] at h
   have hV := qi hs T [] st hr (fun x hx => by cases hx)
   change (st.head?.map fun v : Vv => if v.kind = 1 then [(⟨[],v.v⟩ : El)] else v.vec) = some l at h
   cases st with
   | nil => cases h
   | cons v st =>
     simp only [List.head?_cons,Option.map_some,Option.some.injEq] at h
     have hv := hV v (by simp)
     split at h
     · rename_i hk
       subst h
       exact ⟨fun e he => by rw [List.mem_singleton] at he; subst he; exact ⟨rfl,.inl (hv.one hk)⟩,List.pairwise_singleton _ _⟩
     · subst h
       exact ⟨hv.el,hv.up⟩
theorem OO {t : Int} : ∀ {l : List El} {q : Option (List Lb)},(∀ e ∈ l,Dr e.ls = 0) → Lm l → (∀ k,q = some k → ∀ e ∈ l,Aw k e.ls < 0) → Cy q (l.map fun e => ⟨e.ls,[(t,e.v)]⟩) = true
 | [],q,_,_,_ => by cases q <;> rfl
 | e :: l,q,h1,h2,h3 => by
   have h2 := List.pairwise_cons.1 h2
   rw [List.map_cons,IY]
   simp only [Bool.and_eq_true,decide_eq_true_eq]
   refine ⟨⟨⟨h1 e (by simp),rfl⟩,?_⟩,OO (fun u hu => h1 u (List.mem_cons_of_mem _ hu)) h2.2 fun k hk u hu => by cases hk; exact h2.1 u hu⟩
   cases q with
   | none => rfl
   | some k => exact decide_eq_true (h3 k rfl e (by simp))
end TwW
end
section
namespace TwW
open Ieee
theorem lp : double.leastPlace = -1074 := rfl
theorem fb : ((double.fractionBits : Nat) : Int) = 52 := by kernel_rfl
end TwW
end
section
namespace TwW
open Go Tw Go.RowKit Go.Proofs.Tryz
def Zw : List ByteArray := [⟨#[]⟩,⟨#[114,97,116,101]⟩,⟨#[105,110,99,114,101,97,115,101]⟩,⟨#[100,101,108,116,97]⟩,⟨#[115,117,109,95,111,118,101,114,95,116,105,109,101]⟩,⟨#[97,118,103,95,111,118,101,114,95,116,105,109,101]⟩,⟨#[109,105,110,95,111,118,101,114,95,116,105,109,101]⟩,⟨#[109,97,120,95,111,118,101,114,95,116,105,109,101]⟩,⟨#[99,111,117,110,116,95,111,118,101,114,95,116,105,109,101]⟩,⟨#[108,97,115,116,95,111,118,101,114,95,116,105,109,101]⟩,⟨#[119,97,118,101]⟩,⟨#[97,98,115]⟩,⟨#[102,108,111,111,114]⟩]
def Zx : List ByteArray := [⟨#[]⟩,⟨#[115,117,109]⟩,⟨#[109,105,110]⟩,⟨#[109,97,120]⟩,⟨#[97,118,103]⟩,⟨#[99,111,117,110,116]⟩]
def vJ : List ByteArray := [⟨#[]⟩,⟨#[43]⟩,⟨#[45]⟩,⟨#[42]⟩,⟨#[47]⟩,⟨#[61,61]⟩,⟨#[33,61]⟩,⟨#[60]⟩,⟨#[60,61]⟩,⟨#[62]⟩,⟨#[62,61]⟩,⟨#[97,110,100]⟩,⟨#[111,114]⟩,⟨#[117,110,108,101,115,115]⟩]
def XA : List ByteArray → ByteArray → Nat → Nat
 | [],_,_ => 0
 | x :: l,s,k => if x = s ∧ s ≠ ⟨#[]⟩ then k else XA l s (k + 1)
def Gk (l : List ByteArray) (s : ByteArray) : Nat := XA l s 0
def Qm : List ByteArray := [⟨#[111,114]⟩,⟨#[97,110,100]⟩,⟨#[117,110,108,101,115,115]⟩,⟨#[98,111,111,108]⟩,⟨#[111,110]⟩,⟨#[105,103,110,111,114,105,110,103]⟩,⟨#[98,121]⟩,⟨#[119,105,116,104,111,117,116]⟩,⟨#[111,102,102,115,101,116]⟩]
def Ms (s : ByteArray) : Bool := DA s Qm || decide (0 < Gk Zw s) || decide (0 < Gk Zx s)
structure Cl where
 kind : Int
 text : ByteArray
 span : Int
 op : Nat
 fn : Nat
 ag : Nat
 kept : Bool
 big : Bool
 name : Bool
 lp : Bool
 rp : Bool
 comma : Bool
 lsq : Bool
 rsq : Bool
 lbr : Bool
 minus : Bool
 bool : Bool
 on : Bool
 ign : Bool
 yK : Bool
 out : Bool
 off : Bool
def Iw (k : Int) (s : ByteArray) (j : Int) (t : ByteArray) : Bool := decide (k = j) && decide (s = t)
def Uk (k : Int) (s : ByteArray) (v : Int) : Cl where
 kind := k
 text := s
 span := v
 op := Gk vJ s
 fn := Gk Zw s
 ag := Gk Zx s
 kept := Ms s
 big := decide (256 < s.size)
 name := decide (k = 3) && CD s
 lp := Iw k s 5 ⟨#[40]⟩
 rp := Iw k s 5 ⟨#[41]⟩
 comma := Iw k s 5 ⟨#[44]⟩
 lsq := Iw k s 5 ⟨#[91]⟩
 rsq := Iw k s 5 ⟨#[93]⟩
 lbr := Iw k s 5 ⟨#[123]⟩
 minus := Iw k s 5 ⟨#[45]⟩
 bool := Iw k s 3 ⟨#[98,111,111,108]⟩
 on := Iw k s 3 ⟨#[111,110]⟩
 ign := Iw k s 3 ⟨#[105,103,110,111,114,105,110,103]⟩
 yK := Iw k s 3 ⟨#[98,121]⟩
 out := Iw k s 3 ⟨#[119,105,116,104,111,117,116]⟩
 off := Iw k s 3 ⟨#[111,102,102,115,101,116]⟩
def Ag (op : Nat) (b : Bool) : Nd := ⟨6,op,⟨#[]⟩,[],0,0,0,[],b,2⟩
def qj : Nd := ⟨7,0,⟨#[]⟩,[],0,0,0,[],false,1⟩
def ABx (s : ByteArray) : Nd := ⟨1,0,s,[],0,0,0,[],false,0⟩
def qk (op : Nat) : Nd := ⟨4,op,⟨#[]⟩,[],0,0,0,[],false,1⟩
def ABy (op : Nat) (g : Int) (ns : List ByteArray) : Nd := ⟨5,op,⟨#[]⟩,[],0,0,g,ns,false,1⟩
def Ak (s : ByteArray) : Nd := ⟨2,0,⟨#[]⟩,[⟨1,A4,s⟩],0,0,0,[],false,0⟩
def AOn (s : ByteArray) (w : Int) : Nd := ⟨3,0,⟨#[]⟩,[⟨1,A4,s⟩],w,0,0,[],false,0⟩
def vK : Nat → List Cl → List ByteArray → Option (List ByteArray × List Cl)
 | 0,_,_ => none
 | _ + 1,[],_ => none
 | f + 1,c :: r,ns => if c.rp then some (ns,r) else if ns.length = 0 then (if c.name then vK f r (ns ++ [c.text]) else none) else if c.comma then (match r with
   | [] => none
   | w :: r' => if w.name then vK f r' (ns ++ [w.text]) else none) else none
def du : List Cl → Option (Int × List ByteArray × List Cl)
 | [] => none
 | c :: r => if c.yK || c.out then match r with
     | [] => none
     | e :: r => if e.lp then (vK 8 r []).map fun x => (if c.yK then 1 else 2,x.1,x.2) else none
   else some (0,[],c :: r)
def vL (c : Cl) (r : List Cl) : Option (List Cl × List Nd) := match r with
 | [] => none
 | a :: r' => if a.lbr then none else if a.lsq then match r' with
     | s :: e :: o :: ql => if s.kind = 2 ∧ e.rsq = true ∧ o.off = false then some (o :: ql,[AOn c.text s.span]) else none
     | _ => none
   else if a.off then none else some (a :: r',[Ak c.text])
def Jy : Nat → Int × Int
 | 0 => (12,12)
 | 1 => (11,13)
 | 2 => (5,10)
 | 3 => (1,2)
 | _ => (3,4)
def pz : Nat → Nat → Int → List Cl → Option (List Cl × List Nd)
 | 0,_,_,_ => none
 | f + 1,l,d,ts =>
   if l < 5 then (pz f (l + 1) d ts).bind fun x => (pz f (l + 10) d x.1).map fun y => (y.1,x.2 ++ y.2)
   else if 10 ≤ l then match ts with
     | [] => none
     | c :: r => if (c.kind ≠ 5 ∧ c.kind ≠ 3) ∨ (c.op : Int) < (Jy (l - 10)).1 ∨ (Jy (l - 10)).2 < (c.op : Int) ∨ (l = 11 ∧ c.op = 12) then some (c :: r,[])
       else match r with
         | [] => none
         | b :: r' => let bl := decide (5 ≤ c.op) && decide (c.op ≤ 10) && b.bool
           match (bif bl then r' else b :: r') with
           | [] => none
           | g :: ql => if g.on || g.ign then none else
             (pz f (l - 9) d (g :: ql)).bind fun x => (pz f l d x.1).map fun y => (y.1,x.2 ++ Ag c.op bl :: y.2)
   else match ts with
     | [] => none
     | c :: r =>
       if l = 5 then if c.minus then if d = 64 then none else (pz f 5 (d + 1) r).map fun x => (x.1,x.2 ++ [qj]) else pz f 6 d (c :: r)
       else if l = 6 then
         if c.kind = 1 then some (r,[ABx c.text])
         else if c.lp then pz f 7 d (c :: r)
         else if c.kind ≠ 3 then none
         else if 0 < c.fn then (pz f 7 d r).map fun x => (x.1,x.2 ++ [qk c.fn])
         else if 0 < c.ag then (du r).bind fun g => (pz f 7 d g.2.2).map fun x => (x.1,x.2 ++ [ABy c.ag g.1 g.2.1])
         else if c.kept || c.big then none
         else vL c r
       else if c.lp = true ∧ d ≠ 64 then (pz f 0 (d + 1) r).bind fun x => match x.1 with
           | [] => none
           | e :: r' => if e.rp then some (r',x.2) else none
         else none
end TwW
end
section
namespace TwW
open Go Tw
theorem Ik {k : ByteArray} {l : List Lb} (h : C4 (some k) l = 0) : ∀ x ∈ l,sle x.1 k = false := by
 induction l generalizing k with
 | nil => intro x hx; cases hx
 | cons y l ih =>
   obtain ⟨_,_,h3,h4⟩ := GF.1 h
   simp only [Option.any_some,Bool.not_eq_true] at h3
   intro x hx
   rcases List.mem_cons.1 hx with rfl | hx
   · exact h3
   · exact T5 h3 (ih h4 x hx)
theorem Zy (a : ByteArray) : sle a a = true := by unfold sle; simp
theorem Zz {a b : ByteArray} (h : sle a b = false) : sle b a = true := by
 cases hb : sle b a with
 | true => rfl
 | false => have := T5 h hb; rw [Zy] at this; cases this
theorem dw {ls : List Lb} {k : ByteArray} (h : DE ls k ≠ ⟨#[]⟩) : (k,DE ls k) ∈ ls := by
 induction ls with
 | nil => exact absurd rfl h
 | cons x l ih =>
   unfold DE at h ⊢
   split
   · rename_i e; rw [← e]; exact List.mem_cons_self ..
   · rename_i e; rw [if_neg e] at h; exact List.mem_cons_of_mem _ (ih h)
theorem Ja {ls : List Lb} (h : ∀ x ∈ ls,x.1 ≠ A4) : BF ls = ls := List.filter_eq_self.2 fun x hx => by
 unfold DA
 simp [h x hx]
theorem Vo (x : Lb) (l : List Lb) : BF (x :: l) = if x.1 = A4 then BF l else x :: BF l := by
 unfold BF
 rw [List.filter_cons]
 by_cases h : x.1 = A4
 · rw [if_pos h,if_neg (by simp [DA,h])]
 · rw [if_neg h,if_pos (by simp [DA,h])]
theorem Z0 {w : ByteArray} (hw : w ≠ ⟨#[]⟩) : ∀ {a b : List Lb} {p q : Option ByteArray},C4 p a = 0 → C4 q b = 0 → (A4,w) ∈ a → (A4,w) ∈ b → BF a = BF b → a = b
 | [],_,_,_,_,_,ha,_,_ => by cases ha
 | _ :: _,[],_,_,_,_,_,hb,_ => by cases hb
 | x :: a,y :: b,p,q,h1,h2,ha,hb,h => by
   obtain ⟨_,_,_,g1⟩ := GF.1 h1
   obtain ⟨_,_,_,g2⟩ := GF.1 h2
   have no : ∀ {k : ByteArray} {l : List Lb},k = A4 → C4 (some k) l = 0 → ∀ z ∈ l,z.1 ≠ A4 := fun {k l} hk hl z hz e => by
     have := Ik hl z hz
     rw [e,hk,Zy] at this; cases this
   rw [Vo,Vo] at h
   by_cases hx : x.1 = A4
   · have hxw : x = (A4,w) := by
       rcases List.mem_cons.1 ha with rfl | ha
       · rfl
       · exact absurd rfl (no hx g1 _ ha)
     by_cases hy : y.1 = A4
     · have hyw : y = (A4,w) := by
         rcases List.mem_cons.1 hb with rfl | hb
         · rfl
         · exact absurd rfl (no hy g2 _ hb)
       rw [if_pos hx,if_pos hy,Ja (no hx g1),Ja (no hy g2)] at h
       rw [hxw,hyw,h]
     · exfalso
       rw [if_pos hx,if_neg hy,Ja (no hx g1)] at h
       have h3 : sle y.1 x.1 = false := Ik g1 y (by rw [h]; exact List.mem_cons_self ..)
       have hbm : (A4,w) ∈ b := by
         rcases List.mem_cons.1 hb with e | hb
         · exact absurd (by rw [← e]) hy
         · exact hb
       have h4 : sle A4 y.1 = false := Ik g2 _ hbm
       rw [hx] at h3
       have := Zz h3
       rw [this] at h4; cases h4
   · by_cases hy : y.1 = A4
     · exfalso
       rw [if_neg hx,if_pos hy,Ja (no hy g2)] at h
       have h3 : sle x.1 y.1 = false := Ik g2 x (by rw [← h]; exact List.mem_cons_self ..)
       have ham : (A4,w) ∈ a := by
         rcases List.mem_cons.1 ha with e | ha
         · exact absurd (by rw [← e]) hx
         · exact ha
       have h4 : sle A4 x.1 = false := Ik g1 _ ham
       rw [hy] at h3
       have := Zz h3
       rw [this] at h4; cases h4
     · rw [if_neg hx,if_neg hy,List.cons.injEq] at h
       have ham : (A4,w) ∈ a := by
         rcases List.mem_cons.1 ha with e | ha
         · exact absurd (by rw [← e]) hx
         · exact ha
       have hbm : (A4,w) ∈ b := by
         rcases List.mem_cons.1 hb with e | hb
         · exact absurd (by rw [← e]) hy
         · exact hb
       rw [h.1,Z0 hw g1 g2 ham hbm h.2]
def ry (l : List Int) : Prop := ∀ x ∈ l,0 ≤ x ∧ x < 256
theorem OP {l : List Int} (h : ry l) : (l.map fun x => UInt8.ofNat x.toNat).map (fun b => (b.toNat : Int)) = l := by
 rw [List.map_map]
 conv => rhs; rw [← List.map_id l]
 refine List.map_congr_left fun x hx => ?_
 have := h x hx
 simp only [Function.comp,id,UInt8.toNat_ofNat']
 omega
theorem str_inj {l m : List Int} (hl : ry l) (hm : ry m) (h : strOfNums l = strOfNums m) : l = m := by
 rw [← OP hl,← OP hm,TO,TO] at h
 have := congrArg (fun b : ByteArray => b.data.toList) h
 rw [← OP hl,← OP hm]
 exact congrArg _ this
theorem dz : ∀ n : Nat,ry (uv n) := by
 intro n
 induction n using Nat.strongRecOn with
 | _ n ih =>
   by_cases h : 128 ≤ n
   · rw [NC h]
     intro x hx
     rcases List.mem_cons.1 hx with rfl | hx
     · omega
     · exact ih _ (by omega) x hx
   · rw [E5 h]
     intro x hx
     rw [List.mem_singleton] at hx; omega
theorem gZ (s : ByteArray) : ry (ak s) := fun x hx => by
 obtain ⟨u,_,rfl⟩ := List.mem_map.1 hx
 have := u.toNat_lt; omega
theorem ry.app {l m : List Int} (h : ry l) (g : ry m) : ry (l ++ m) := fun x hx => by
 rcases List.mem_append.1 hx with hx | hx
 · exact h x hx
 · exact g x hx
theorem Z1 (ls : List Lb) : ry (iy ls) := by
 unfold iy
 refine (dz _).app fun x hx => ?_
 obtain ⟨y,_,hy⟩ := List.mem_flatMap.1 hx
 exact (((dz _).app (gZ _)).app ((dz _).app (gZ _))) x hy
theorem Z2 : ∀ {a b : List Lb},a.length = b.length → a.flatMap Mm = b.flatMap Mm → a = b
 | [],[],_,_ => rfl
 | [],_ :: _,h,_ => by simp at h
 | _ :: _,[],h,_ => by simp at h
 | x :: a,y :: b,hl,h => by
   rw [List.flatMap_cons,List.flatMap_cons,show Mm x = uv x.1.size ++ ak x.1 ++ (uv x.2.size ++ ak x.2) from rfl,show Mm y = uv y.1.size ++ ak y.1 ++ (uv y.2.size ++ ak y.2) from rfl] at h
   simp only [List.append_assoc] at h
   obtain ⟨h1,h⟩ := cu _ _ _ _ h
   obtain ⟨h2,h⟩ := List.append_inj h (by rw [MC,MC]; exact h1)
   obtain ⟨h3,h⟩ := cu _ _ _ _ h
   obtain ⟨h4,h⟩ := List.append_inj h (by rw [MC,MC]; exact h3)
   have e : x = y := Prod.ext (fq h2) (fq h4)
   rw [e,Z2 (by simpa using hl) h]
theorem Z3 {a b : List Lb} (h : D8 a = D8 b) : a = b := by
 have := str_inj (Z1 a) (Z1 b) h
 unfold iy at this
 obtain ⟨h1,h2⟩ := cu _ _ _ _ this
 exact Z2 h1 h2
theorem ABz {w : ByteArray} {ss : List Sr} {t : Int} {e : El} (h : e ∈ As FF (Ak w) ss t) : ∃ s ∈ ss,s.ls = e.ls ∧ DE e.ls A4 = w ∧ ∃ p ∈ s.ps,p.2 = e.v := by
 obtain ⟨s,hs,h1⟩ := List.mem_filterMap.1 h
 split at h1
 · cases h1
 · rename_i p hl
   split at h1
   · cases h1
   · rename_i hn
     simp only [Option.some.injEq] at h1
     subst h1
     refine ⟨s,hs,rfl,?_,p,(List.mem_filter.1 (List.mem_of_getLast? hl)).1,rfl⟩
     simp only [not_or,Bool.not_eq_false] at hn
     have h2 : Jr [⟨1,A4,w⟩] s.ls = true := hn.2
     unfold Jr at h2
     simp only [List.all_cons,List.all_nil,Bool.and_true] at h2
     unfold N9 at h2
     simp only [if_true,decide_eq_true_eq] at h2
     exact h2
theorem eA {w : ByteArray} {T : List Nd} {st : List Int} (hw : w.size ≤ 256) : C8 (Ak w :: T) st = C8 T (st ++ [2]) := by
 have hf : FL (Ak w) = true := by kernel_rfl
 have hm : HJ CD (Ak w).mt = 0 := by
   show HJ CD [⟨1,A4,w⟩] = 0
   unfold HJ
   simp only [List.length_singleton,List.all_cons,List.all_nil,Bool.and_true]
   rw [if_neg (by decide),if_pos]
   rw [show CD A4 = true by decide,decide_eq_true hw]; rfl
 have hs : BS (Ak w) st = (0,st ++ [2]) := by
   unfold BS
   rw [if_neg (by rw [hf]; simp [Ak]),if_neg (by rw [hm]; decide)]
   simp [Ak,Oa]
 rw [C8,hs]
 rfl
theorem XB {w : ByteArray} {ss : List Sr} {t : Int} {T : List Nd} {st : List Vv} : JQ FF ss t (Ak w :: T) st = JQ FF ss t T (st ++ [⟨2,0,As FF (Ak w) ss t,[]⟩]) := by
 rw [JQ]
 have : Gb FF ss t (Ak w) (st.drop (st.length - (Ak w).parts.toNat)) = some ⟨2,0,As FF (Ak w) ss t,[]⟩ := by
   unfold Gb; rfl
 rw [this,Option.bind_some,show (Ak w).parts.toNat = 0 from rfl,Nat.sub_zero,List.take_length]
end TwW
end
section
namespace TwW
open Go Tw
theorem qm {ls : List Lb} (h : Dr ls = 0) : C4 none ls = 0 := by
 unfold Dr at h
 split at h
 · cases h
 · exact h
section
variable {w : ByteArray} {ss : List Sr} {t : Int}
theorem Z4 (Cz : Cy none ss = true) (hw : w ≠ ⟨#[]⟩) : (As FF (Ak w) ss t).Pairwise fun a b => BF a.ls ≠ BF b.ls := by
 have hV := Vm (n := Ak w) (t := t) Cz
 refine (List.Pairwise.and_mem.1 hV.up).imp fun {a b} hh e => ?_
 obtain ⟨ha,hb,Aq⟩ := hh
 have mem : ∀ {x : El},x ∈ As FF (Ak w) ss t → (A4,w) ∈ x.ls ∧ C4 none x.ls = 0 := fun {x} hx => by
   obtain ⟨_,_,_,hg,_⟩ := ABz hx
   refine ⟨?_,qm (hV.el x hx).1⟩
   have := dw (ls := x.ls) (k := A4) (by rw [hg]; exact hw)
   rw [hg] at this; exact this
 have := Z0 hw (mem ha).2 (mem hb).2 (mem ha).1 (mem hb).1 e
 rw [(AY.eq _ _).2 this] at Aq
 exact absurd Aq (by decide)
theorem T7 {l : List El} (h : l.Pairwise fun a b => a.ls ≠ b.ls) : ∃ m,Ca FF l = some m ∧ m.Perm l := by
 refine ⟨ZM FF l,?_,HI l⟩
 unfold Ca
 rw [if_pos]
 exact h.imp fun XM e => XM ((AY.eq _ _).1 e)
theorem XC : A7 FF [Ak w] ss t = some (As FF (Ak w) ss t) := by
 unfold A7
 rw [XB]; rfl
theorem Z5 {α : Type} {k : ByteArray} {x : α} : ∀ {m : List (ByteArray × α)},(∀ y ∈ m,y.1 ≠ k) → Qi m k x = m ++ [(k,x)]
 | [],_ => rfl
 | (a,b) :: m,h => by
   unfold Qi
   rw [if_neg (h (a,b) (List.mem_cons_self ..)),Z5 fun y hy => h y (List.mem_cons_of_mem _ hy)]; rfl
theorem Z6 {n : Nd} : ∀ {L : List El} {m : List (ByteArray × El)},L.Pairwise (fun a b => Ed n a.ls ≠ Ed n b.ls) → (∀ y ∈ m,∀ x ∈ L,y.1 ≠ D8 (Ed n x.ls)) → L.foldl (fun m x => Qi m (D8 (Ed n x.ls)) x) m = m ++ L.map fun x => (D8 (Ed n x.ls),x)
 | [],m,_,_ => by simp
 | x :: L,m,h,hm => by
   obtain ⟨h1,h2⟩ := List.pairwise_cons.1 h
   rw [List.foldl_cons,Z5 fun y hy => hm y hy x (List.mem_cons_self ..),Z6 h2 (fun y hy z hz => ?_),List.map_cons,List.append_assoc]
   · rfl
   · rcases List.mem_append.1 hy with hy | hy
     · exact hm y hy z (List.mem_cons_of_mem _ hz)
     · rw [List.mem_singleton] at hy
       subst hy
       exact fun e => h1 z hz (Z3 e)
theorem Z7 {n : Nd} : ∀ {L : List El},L.Pairwise (fun a b => Ed n a.ls ≠ Ed n b.ls) → ∀ {x : El},x ∈ L → C6 (L.map fun x => (D8 (Ed n x.ls),x)) (D8 (Ed n x.ls)) = some x
 | [],_,x,hx => by cases hx
 | y :: L,h,x,hx => by
   obtain ⟨h1,h2⟩ := List.pairwise_cons.1 h
   rw [List.map_cons]
   unfold C6
   rcases List.mem_cons.1 hx with rfl | hx
   · rw [if_pos rfl]
   · rw [if_neg (fun e => h1 x hx (Z3 e)),Z7 h2 hx]
theorem ga {op : Nat} {b : Bool} (ls : List Lb) : Ed (Ag op b) ls = BF ls := by
 show (if (0 : Int) = 3 then VT [] ls else BF (TQ [] ls)) = BF ls
 rw [if_neg (by decide)]
 unfold TQ
 rw [List.filter_eq_self.2 fun x _ => by simp [DA]]
theorem Ln {T : List Nd} (hT : Ld T = some 2) (h : ¬ (Cy none ss = true ∧ -1099511627776 ≤ t ∧ t ≤ 1099511627776)) : (instF T ss t).1 = if Cy none ss = true then 221 else 224 := by
 have ha : FN T ss = if Cy none ss = true then 0 else 224 := by
   unfold FN; rw [hT]; rfl
 unfold instF
 rw [ha]
 by_cases ho : Cy none ss = true
 · rw [if_pos ho,if_neg (by decide),if_pos (fun hh => h ⟨ho,hh⟩),if_pos ho]
 · rw [if_neg ho,if_pos (by decide),if_neg ho]
theorem Il {T : List Nd} {l : List El} (hT : Ld T = some 2) (h : Cy none ss = true ∧ -1099511627776 ≤ t ∧ t ≤ 1099511627776) (hm : A7 FF T ss t = some l) : instF T ss t = (0,l) := by
 have ha : FN T ss = 0 := by
   unfold FN; rw [hT,h.1]; rfl
 unfold instF
 rw [ha,if_neg (by decide),if_neg (not_not_intro h.2),hm]
theorem gb {T : List Nd} (hw : w.size ≤ 256) (hl : T.length < 4096) (h : C8 T [2] = some [2]) : Ld (Ak w :: T) = some 2 := by
 unfold Ld
 rw [eA hw,List.nil_append,h]
 show (if (Ak w :: T).length ≤ 4096 then some (2 : Int) else none) = some 2
 rw [if_pos (by rw [List.length_cons]; omega)]
end
theorem T8 {α : Type} {f : α → Bool} : ∀ l : List α,(l.filter f).length + (l.filter fun e => !f e).length = l.length
 | [] => rfl
 | x :: l => by
   have := T8 (f := f) l
   rw [List.filter_cons,List.filter_cons,List.length_cons]
   cases f x <;> simp <;> omega
end TwW
end
section
namespace TwW
open Go Tw Go.RowKit Go.Proofs.Tryz
theorem qo : ∀ x y : List UInt8,Lib.compareBytes x y = if Op.bytesLess x y = true then -1 else if x = y then 0 else 1
 | [],[] => rfl
 | [],_ :: _ => rfl
 | _ :: _,[] => by simp [Lib.compareBytes,Op.bytesLess]
 | a :: x,b :: y => by
   have ih := qo x y
   unfold Lib.compareBytes Op.bytesLess
   by_cases h : a = b
   · subst h
     simp [ih]
   · by_cases hl : a < b
     · simp [h,hl]
     · have : b < a := by
         have h1 : a.toNat ≠ b.toNat := fun e => h (UInt8.toNat_inj.1 e)
         have h2 : ¬ a.toNat < b.toNat := hl
         show b.toNat < a.toNat
         omega
       simp [h,hl,this]
theorem toList_eq (a : ByteArray) : a.toList = a.data.toList := by
 exact ByteArray.toList_eq a
section
variable {σ : Hp} {R : Rr}
theorem T9 {a b : ByteArray} (h : R (.returned (.int .i64 (Dj a b))) σ) : Spec prog 89 #[.string a,.string b] σ R := by
 have e : Dj a b = if Op.bytesLess a.toList b.toList = true then -1 else if a.toList = b.toList then 0 else 1 := by
   unfold Dj
   rw [qo,toList_eq,toList_eq]
 rw [e] at h
 refine SA.start ⟨Op.bytesLess a.toList b.toList,fun w _ => by simp [eqGuard,binOp,Op.stringOp],fun ht => ?_,fun hf => ⟨!(sle a b),fun w _ => by simp [eqGuard,binOp,Op.stringOp,sle],fun ht => ?_,fun hf2 => ?_⟩⟩
 · rw [if_pos ht] at h; exact h
 · have hs : sle a b = false := by simpa using ht
   rw [if_neg (by rw [hf]; decide),if_neg (fun e => by unfold sle at hs; rw [e] at hs; simp at hs)] at h; exact h
 · have hs : sle a b = true := by simpa using hf2
   have : a.toList = b.toList := by
     unfold sle at hs
     rw [hf] at hs
     simpa using hs
   rw [if_neg (by rw [hf]; decide),if_pos this] at h; exact h
theorem ML {p q : Option Addr} {n c m d : Nat} {ls ms : List Lb} (hr : Dq σ p n ls) (hs : Dq σ q m ms) (h : R (.returned (.int .i64 (Aw ls ms))) σ) : Spec prog 57 #[.slice p n c,.slice q m d] σ R := by
 have hl : ls.length = n := hr.1
 have hm : ms.length = m := hs.1
 refine Dg.start ?_
 suffices H : ∀ g k : Nat,n - k = g → k ≤ n → k ≤ m → Aw ls ms = Aw (ls.drop k) (ms.drop k) → Dg.ES R p n c q m d (k : Int) σ from H n 0 rfl (Nat.zero_le _) (Nat.zero_le _) rfl
 intro g
 induction g with
 | zero =>
   intro k hg hk fx he
   have XF : k = n := by omega
   rw [List.drop_eq_nil_of_le (by omega)] at he
   refine Dg.Af ⟨fun hh => by omega,fun _ => ⟨fun h1 => ?_,fun h1 => ⟨fun h2 => by omega,fun h2 => ?_⟩⟩⟩
   · obtain ⟨y,hy⟩ := hs.ex (k := k) (by omega)
     rw [BI hy] at he
     rw [he] at h; exact h
   · rw [List.drop_eq_nil_of_le (by omega)] at he
     rw [he] at h; exact h
 | succ g ih =>
   intro k hg hk fx he
   have XF : k < n := by omega
   obtain ⟨x,hx⟩ := hr.ex XF
   obtain ⟨b,o,hp,Qk⟩ := Dq.at hr hx
   by_cases xw : k < m
   · obtain ⟨y,hy⟩ := hs.ex xw
     obtain ⟨b',o',hq,UL⟩ := Dq.at hs hy
     subst hp
     subst hq
     rw [BI hx,BI hy] at he
     have he : Aw ls ms = if JR Dj Dj x y = 0 then Aw (ls.drop (k + 1)) (ms.drop (k + 1)) else JR Dj Dj x y := he
     refine Dg.Af ⟨fun _ => ⟨fun _ => ⟨b,o,rfl,by omega,x.1,by simpa using Qk.1,b',o',rfl,by omega,y.1,by simpa using UL.1,T9 ⟨_,rfl,fun A5 => ?_,fun heq => ⟨by omega,x.2,by simpa using Qk.2.1,by omega,y.2,by simpa using UL.2.1,T9 ⟨_,rfl,fun A5 => ?_,fun AOp => ⟨AL XF hr.big,ih (k + 1) (by omega) (by omega) (by omega) ?_⟩⟩⟩⟩⟩,fun hh => by omega⟩,fun hh => by omega⟩
     · have e2 : JR Dj Dj x y = Dj x.1 y.1 := by unfold JR; rw [if_neg A5]
       rw [e2,if_neg A5] at he
       rw [he] at h; exact h
     · have e2 : JR Dj Dj x y = Dj x.2 y.2 := by unfold JR; rw [if_pos (Decidable.not_not.1 heq)]
       rw [e2,if_neg A5] at he
       rw [he] at h; exact h
     · have e2 : JR Dj Dj x y = Dj x.2 y.2 := by unfold JR; rw [if_pos (Decidable.not_not.1 heq)]
       rw [e2,if_pos (Decidable.not_not.1 AOp)] at he
       exact he
   · rw [BI hx,show ms.drop k = [] from List.drop_eq_nil_of_le (by omega)] at he
     refine Dg.Af ⟨fun _ => ⟨fun hh => by omega,fun _ => ⟨fun h1 => by omega,fun h1 => ⟨fun h2 => ?_,fun h2 => by omega⟩⟩⟩,fun hh => by omega⟩
     rw [he] at h; exact h
theorem UA {p : Nat → Bool} (h : (List.range 256).all p = true) (u : UInt8) : p u.toNat = true := List.all_eq_true.1 h _ (List.mem_range.2 u.toNat_lt)
theorem AIp (u : UInt8) : Go.bits .and .u8 ((u.toNat : Nat) : Int) 31 = ((u.toNat % 32 : Nat) : Int) := of_decide_eq_true (UA (p := fun n => decide (Go.bits .and .u8 (n : Int) 31 = ((n % 32 : Nat) : Int))) (by kernel_rfl) u)
theorem AIq (u : UInt8) : Go.bits .and .u8 ((u.toNat : Nat) : Int) 15 = ((u.toNat % 16 : Nat) : Int) := of_decide_eq_true (UA (p := fun n => decide (Go.bits .and .u8 (n : Int) 15 = ((n % 16 : Nat) : Int))) (by kernel_rfl) u)
theorem AOq (u : UInt8) : Go.bits .and .u8 ((u.toNat : Nat) : Int) 7 = ((u.toNat % 8 : Nat) : Int) := of_decide_eq_true (UA (p := fun n => decide (Go.bits .and .u8 (n : Int) 7 = ((n % 8 : Nat) : Int))) (by kernel_rfl) u)
theorem AIr (u : UInt8) : Go.bits .and .u8 ((u.toNat : Nat) : Int) 63 = ((u.toNat % 64 : Nat) : Int) := of_decide_eq_true (UA (p := fun n => decide (Go.bits .and .u8 (n : Int) 63 = ((n % 64 : Nat) : Int))) (by kernel_rfl) u)
theorem AB0 (u : UInt8) : Go.bits .and .u8 ((u.toNat : Nat) : Int) 192 = ((u.toNat / 64 * 64 : Nat) : Int) := of_decide_eq_true (UA (p := fun n => decide (Go.bits .and .u8 (n : Int) 192 = ((n / 64 * 64 : Nat) : Int))) (by kernel_rfl) u)
theorem wrap32 {x : Int} (h : 0 ≤ x ∧ x < 2147483648) : IntKind.i32.wrap x = x := by
 simp [IntKind.wrap,IntKind.bits,IntKind.signed]; omega
theorem AOr {a b : Nat} (ha : a < 1048576) (hb : b < 64) : Go.bits .or .i32 ((a * 64 : Nat) : Int) (b : Int) = ((a * 64 + b : Nat) : Int) := by
 have e : Go.bits .or .i32 ((a * 64 : Nat) : Int) (b : Int) = IntKind.i32.wrap (((BitVec.ofInt 32 ((a * 64 : Nat) : Int)) ||| (BitVec.ofInt 32 (b : Int))).toNat : Int) := rfl
 have h1 : (BitVec.ofInt 32 ((a * 64 : Nat) : Int)).toNat = a * 64 := by
   rw [BitVec.toNat_ofInt]
   have : (((2 ^ 32 : Nat) : Int)) = 4294967296 := by decide
   omega
 have h2 : (BitVec.ofInt 32 (b : Int)).toNat = b := by
   rw [BitVec.toNat_ofInt]
   have : (((2 ^ 32 : Nat) : Int)) = 4294967296 := by decide
   omega
 have h3 := Nat.two_pow_add_eq_or_of_lt (i := 6) hb a
 rw [e,BitVec.toNat_or,h1,h2,Nat.mul_comm a 64,show (64 : Nat) = 2 ^ 6 from rfl,← h3,Nat.mul_comm (2 ^ 6) a]
 exact wrap32 (by omega)
theorem Gz {s : ByteArray} {k i n v : Nat} {least : Int} {u : UInt8} (hk : k + i ≤ 1000000000) (hi : i < n) (hu : s.data.toList[k + i]? = some u) (h1 : 128 ≤ u.toNat ∧ u.toNat ≤ 191) (hv : v < 32768)
   (h : BW.ik R s (k : Int) (n : Int) least ((v * 64 + (u.toNat - 128) : Nat) : Int) ((i + 1 : Nat) : Int) σ) : BW.ik R s (k : Int) (n : Int) least (v : Int) (i : Int) σ := by
 have CP : s.data[Int.toNat ((k : Int) + (i : Int))]? = some u := by
   rw [show Int.toNat ((k : Int) + (i : Int)) = k + i by omega]; simpa using hu
 refine BW.fg ⟨fun _ => ⟨by unfold AJ; omega,u,by omega,CP,fun kJ h62 => ⟨fun A5 => ?_,fun _ => ⟨by decide,fun zl h65 => ⟨by unfold AJ; omega,u,by omega,CP,fun wy h71 rW h72 x73 h73 => ?_⟩⟩⟩⟩,fun hh => by omega⟩
 · rw [h62,AB0] at A5
   exact absurd (by omega) A5
 · have e65 : zl = ((v * 64 : Nat) : Int) := by
     rw [h65]
     have : (v : Int) * 2 ^ Int.toNat 6 = ((v * 64 : Nat) : Int) := by
       show (v : Int) * 64 = _
       omega
     rw [this]
     exact wrap32 (by omega)
   rw [AIr] at h71
   have e72 : rW = ((u.toNat % 64 : Nat) : Int) := by
     rw [h72,h71]; exact wrap32 (by omega)
   have e73 : x73 = ((v * 64 + (u.toNat - 128) : Nat) : Int) := by
     rw [h73,e65,e72,AOr (by omega) (by omega)]
     omega
   rw [e73]
   refine ⟨by unfold AJ; omega,?_⟩
   rw [show ((i + 1 : Nat) : Int) = (i : Int) + 1 by omega] at h
   exact h
theorem MM {m lo hi : Nat} {L : List UInt8} {k : Nat} (h : vl (m + 1) lo hi (L.drop k) = true) : ∃ u,L[k]? = some u ∧ (lo ≤ u.toNat ∧ u.toNat ≤ hi) ∧ vl m 128 191 (L.drop (k + 1)) = true := by
 cases hq : L[k]? with
 | none =>
   rw [List.drop_eq_nil_of_le (List.getElem?_eq_none_iff.1 hq)] at h
   cases h
 | some u =>
   rw [BI hq,vl] at h
   by_cases hc : u.toNat < lo ∨ hi < u.toNat
   · rw [if_pos hc] at h; cases h
   · rw [if_neg hc] at h
     exact ⟨u,rfl,by omega,h⟩
theorem UB {s : ByteArray} {k : Int} {n : Nat} {least v : Int} (h : R (.returned (.int .i64 (n : Int))) σ) (h1 : least ≤ v) (h2 : v ≤ 1114111) (h3 : ¬ (55296 ≤ v ∧ v ≤ 57343)) : BW.ik R s k (n : Int) least v (n : Int) σ :=
 BW.fg ⟨fun hh => by omega,fun _ => ⟨fun hh => by omega,fun _ => ⟨fun hh => by omega,fun _ => ⟨fun h4 => ⟨fun h5 => absurd ⟨h4,h5⟩ h3,fun _ => h⟩,fun _ => h⟩⟩⟩⟩
theorem vM {s : ByteArray} {k : Nat} (hk : k < s.size) (hs : s.size ≤ 1000000) (hv : vl 0 128 191 (s.data.toList.drop k) = true) :
   ∃ m : Nat,1 ≤ m ∧ k + m ≤ s.size ∧ vl 0 128 191 (s.data.toList.drop (k + m)) = true ∧ ∀ {σ : Hp} {R : Rr},R (.returned (.int .i64 (m : Int))) σ → Spec prog 129 #[.string s,.int .i64 (k : Int)] σ R := by
 have GX : s.data.toList.length = s.size := rfl
 obtain ⟨u,hu⟩ : ∃ u,s.data.toList[k]? = some u := ⟨_,List.getElem?_eq_getElem (by omega)⟩
 have CP : s.data[Int.toNat (k : Int)]? = some u := by simpa using hu
 rw [BI hu,vl] at hv
 have lt : ∀ {j : Nat} {w : UInt8},s.data.toList[j]? = some w → j < s.size := fun h => by
   have := (List.getElem?_eq_some_iff.1 h).1; omega
 have two : ∀ {lo hi : Nat},192 ≤ u.toNat ∧ u.toNat < 224 → vl 1 lo hi (s.data.toList.drop (k + 1)) = true → 128 ≤ lo → hi ≤ 191 → (∀ v : Nat,lo ≤ v → v ≤ hi → 128 ≤ (u.toNat % 32) * 64 + (v - 128)) → ∃ m : Nat,1 ≤ m ∧ k + m ≤ s.size ∧ vl 0 128 191 (s.data.toList.drop (k + m)) = true ∧ ∀ {σ : Hp} {R : Rr},R (.returned (.int .i64 (m : Int))) σ → Spec prog 129 #[.string s,.int .i64 (k : Int)] σ R := fun {lo hi} hc h1 hlo hhi hb => by
   obtain ⟨u1,a1,b1,c1⟩ := MM h1
   have d1 := hb u1.toNat b1.1 b1.2
   have := lt a1
   refine ⟨2,by decide,by omega,c1,fun {σ R} h => BW.start ⟨u,by omega,CP,fun hh => by omega,fun _ => ⟨fun _ => ⟨fun _ IL h24 P1 h25 => ?_,fun hh => by omega⟩,fun hh => by omega⟩⟩⟩
   rw [AIp] at h24
   have e : P1 = ((u.toNat % 32 : Nat) : Int) := by rw [h25,h24]; exact wrap32 (by omega)
   rw [e]
   refine BW.Wh ⟨by unfold AJ; omega,fun hh => by omega,fun _ => ?_⟩
   refine Gz (n := 2) (i := 1) (by omega) (by decide) a1 (by omega) (by omega) ?_
   exact UB (n := 2) h (by omega) (by omega) (by omega)
 have three : ∀ {lo hi : Nat},224 ≤ u.toNat ∧ u.toNat < 240 → vl 2 lo hi (s.data.toList.drop (k + 1)) = true → 128 ≤ lo → hi ≤ 191 → (∀ v w : Nat,lo ≤ v → v ≤ hi → 128 ≤ w → w ≤ 191 → 2048 ≤ ((u.toNat % 16) * 64 + (v - 128)) * 64 + (w - 128) ∧ ¬ (55296 ≤ ((u.toNat % 16) * 64 + (v - 128)) * 64 + (w - 128) ∧ ((u.toNat % 16) * 64 + (v - 128)) * 64 + (w - 128) ≤ 57343)) → ∃ m : Nat,1 ≤ m ∧ k + m ≤ s.size ∧ vl 0 128 191 (s.data.toList.drop (k + m)) = true ∧ ∀ {σ : Hp} {R : Rr},R (.returned (.int .i64 (m : Int))) σ → Spec prog 129 #[.string s,.int .i64 (k : Int)] σ R := fun {lo hi} hc h1 hlo hhi hb => by
   obtain ⟨u1,a1,b1,c1⟩ := MM h1
   obtain ⟨u2,a2,b2,c2⟩ := MM c1
   have d1 := hb u1.toNat u2.toNat b1.1 b1.2 b2.1 b2.2
   have := lt a2
   refine ⟨3,by decide,by omega,c2,fun {σ R} h => BW.start ⟨u,by omega,CP,fun hh => by omega,fun _ => ⟨fun _ => ⟨fun hh => by omega,fun _ => ⟨fun _ => ⟨fun _ kF h34 Q9 h35 => ?_,fun hh => by omega⟩,fun hh => by omega⟩⟩,fun hh => by omega⟩⟩⟩
   rw [AIq] at h34
   have e : Q9 = ((u.toNat % 16 : Nat) : Int) := by rw [h35,h34]; exact wrap32 (by omega)
   rw [e]
   refine BW.Wh ⟨by unfold AJ; omega,fun hh => by omega,fun _ => ?_⟩
   refine Gz (n := 3) (i := 1) (by omega) (by decide) a1 (by omega) (by omega) ?_
   refine Gz (n := 3) (i := 2) (by omega) (by decide) a2 (by omega) (by omega) ?_
   exact UB (n := 3) h (by omega) (by omega) (by omega)
 have four : ∀ {lo hi : Nat},240 ≤ u.toNat ∧ u.toNat < 248 → vl 3 lo hi (s.data.toList.drop (k + 1)) = true → 128 ≤ lo → hi ≤ 191 → (∀ v w y : Nat,lo ≤ v → v ≤ hi → 128 ≤ w → w ≤ 191 → 128 ≤ y → y ≤ 191 → 65536 ≤ (((u.toNat % 8) * 64 + (v - 128)) * 64 + (w - 128)) * 64 + (y - 128) ∧ (((u.toNat % 8) * 64 + (v - 128)) * 64 + (w - 128)) * 64 + (y - 128) ≤ 1114111) → ∃ m : Nat,1 ≤ m ∧ k + m ≤ s.size ∧ vl 0 128 191 (s.data.toList.drop (k + m)) = true ∧ ∀ {σ : Hp} {R : Rr},R (.returned (.int .i64 (m : Int))) σ → Spec prog 129 #[.string s,.int .i64 (k : Int)] σ R := fun {lo hi} hc h1 hlo hhi hb => by
   obtain ⟨u1,a1,b1,c1⟩ := MM h1
   obtain ⟨u2,a2,b2,c2⟩ := MM c1
   obtain ⟨u3,a3,b3,c3⟩ := MM c2
   have d1 := hb u1.toNat u2.toNat u3.toNat b1.1 b1.2 b2.1 b2.2 b3.1 b3.2
   have := lt a3
   refine ⟨4,by decide,by omega,c3,fun {σ R} h => BW.start ⟨u,by omega,CP,fun hh => by omega,fun _ => ⟨fun _ => ⟨fun hh => by omega,fun _ => ⟨fun _ => ⟨fun hh => by omega,fun _ => ⟨fun _ => ⟨fun _ nY h44 fN h45 => ?_,fun hh => by omega⟩,fun hh => by omega⟩⟩,fun hh => by omega⟩⟩,fun hh => by omega⟩⟩⟩
   rw [AOq] at h44
   have e : fN = ((u.toNat % 8 : Nat) : Int) := by rw [h45,h44]; exact wrap32 (by omega)
   rw [e]
   refine BW.Wh ⟨by unfold AJ; omega,fun hh => by omega,fun _ => ?_⟩
   refine Gz (n := 4) (i := 1) (by omega) (by decide) a1 (by omega) (by omega) ?_
   refine Gz (n := 4) (i := 2) (by omega) (by decide) a2 (by omega) (by omega) ?_
   refine Gz (n := 4) (i := 3) (by omega) (by decide) a3 (by omega) (by omega) ?_
   exact UB (n := 4) h (by omega) (by omega) (by omega)
 by_cases h1 : u.toNat < 128
 · rw [if_pos h1] at hv
   exact ⟨1,by decide,by omega,hv,fun {σ R} h => BW.start ⟨u,by omega,CP,fun _ => h,fun hh => by omega⟩⟩
 rw [if_neg h1] at hv
 by_cases h2 : 194 ≤ u.toNat ∧ u.toNat ≤ 223
 · rw [if_pos h2] at hv
   exact two (by omega) hv (by decide) (by decide) fun v a b => by omega
 rw [if_neg h2] at hv
 by_cases h3 : 224 ≤ u.toNat ∧ u.toNat ≤ 239
 · rw [if_pos h3] at hv
   by_cases h4 : u.toNat = 224
   · rw [if_pos h4] at hv
     exact three (by omega) hv (by decide) (by decide) fun v w a b c d => by omega
   rw [if_neg h4] at hv
   by_cases h5 : u.toNat = 237
   · rw [if_pos h5] at hv
     exact three (by omega) hv (by decide) (by decide) fun v w a b c d => by omega
   rw [if_neg h5] at hv
   exact three (by omega) hv (by decide) (by decide) fun v w a b c d => by omega
 rw [if_neg h3] at hv
 by_cases h6 : 240 ≤ u.toNat ∧ u.toNat ≤ 244
 · rw [if_pos h6] at hv
   by_cases h7 : u.toNat = 240
   · rw [if_pos h7] at hv
     exact four (by omega) hv (by decide) (by decide) fun v w y a b c d e f => by omega
   rw [if_neg h7] at hv
   by_cases h8 : u.toNat = 244
   · rw [if_pos h8] at hv
     exact four (by omega) hv (by decide) (by decide) fun v w y a b c d e f => by omega
   rw [if_neg h8] at hv
   exact four (by omega) hv (by decide) (by decide) fun v w y a b c d e f => by omega
 rw [if_neg h6] at hv
 cases hv
theorem Z8 {s : ByteArray} (h1 : ¬ (s.size = 0 ∨ 256 < s.size)) (h2 : ND s = true) (h : R (.returned (.bool true)) σ) : Spec prog 88 #[.string s] σ R := by
 refine G9.start ⟨fun hh => by omega,fun _ => ⟨fun hh => by omega,fun _ => ?_⟩⟩
 suffices H : ∀ g k : Nat,s.size - k = g → k ≤ s.size → vl 0 128 191 (s.data.toList.drop k) = true → G9.A0 R s (k : Int) σ from H s.size 0 rfl (Nat.zero_le _) h2
 intro g
 induction g using Nat.strongRecOn with
 | ind g ih =>
   intro k hg hk hv
   by_cases Aq : k < s.size
   · obtain ⟨m,m1,m2,m3,m4⟩ := vM Aq (by omega) hv
     refine G9.BC ⟨fun _ => m4 ⟨_,rfl,fun hh => by omega,fun _ => ⟨by unfold AJ; omega,?_⟩⟩,fun hh => by omega⟩
     have := ih (s.size - (k + m)) (by omega) (k + m) rfl m2 m3
     rw [show ((k + m : Nat) : Int) = (k : Int) + (m : Int) by omega] at this
     exact this
   · exact G9.BC ⟨fun hh => by omega,fun _ => h⟩
end
end TwW
end
section
namespace TwW
open Go Tw Go.RowKit Go.Proofs.Tryz
def XQ (_ : Hp) (vs : List Value) (c : Cl) : Prop := c = Uk c.kind c.text c.span ∧ ∃ a : Int,vs = [.int .i64 c.kind,.int .i64 a,.string c.text,.int .i64 c.span]
theorem XQ.mono : HO XQ := fun _ _ _ _ _ h => h
abbrev pO (p : Option Addr) (n c : Nat) (d : Int) (q : Option Addr) (m e : Nat) : Obj := .cells #[.slice p n c,.int .i64 d,.slice q m e] 126 (0,0)
structure Dk (τ ρ : Hp) (pb : Nat) (p : Option Addr) (n c : Nat) (q : Option Addr) (m e : Nat) (ts : List Cl) (out : List Nd) : Prop where
 pb : ρ pb = none
 GH : Ab 4 XQ (ρ.del q) p n ts
 cap : n ≤ c
 out : AW 10 NG τ ρ q m e out
theorem OQ {σ : Hp} {b : Nat} {c : List Value} {T : TypeId} (h : σ b = some (.cells c.toArray T (0,0))) : Ay σ b 0 c := Ay.of fun j v hj => by
 rw [Nat.zero_add]; exact Ad h (by simpa using hj)
theorem PZ {σ : Hp} {b T : Nat} {l : List ByteArray} (h : σ b = some (.cells (l.map Value.string).toArray T (0,0))) (hl : l.length ≤ 1000) : FC 1 σ (aD b 0) l.length (l.map .string) :=
 ⟨by simp,by omega,.inr ⟨b,0,rfl,OQ h⟩⟩
theorem st1 {σ : Hp} {b T U o : Nat} {c c' : Array Value} {v : Value} {Φ : Unit → Hp → Prop} (hz : ∀ w,(Go.sizeOf U).run prog w = .ok 1 w) (hb : σ b = some (.cells c T (0,0))) (hv : v.cells = #[v]) (h1 : v.oneCell' = true) (ho : o < c.size) (hc : c.setIfInBounds o v = c') (hΦ : Φ () (σ.set b (.cells c' T (0,0)))) :
   AK prog (Instr.storeAt U (.pointer (aD b o)) v) σ Φ := by
 refine AK.store hz hb (by rw [hv]; rfl) ho (fun u hu => by rw [hv] at hu; simp at hu; rw [hu]; exact h1) ?_
 rw [hv]
 subst hc
 exact hΦ
theorem vN : ∀ w,(Go.sizeOf 121).run prog w = .ok 1 w := fun w => by kernel_rfl
theorem AB1 : ∀ w,(Go.sizeOf 22).run prog w = .ok 1 w := fun w => by kernel_rfl
section
variable {τ ρ ρ' : Hp} {pb n c m e : Nat} {p q : Option Addr} {ts : List Cl} {out : List Nd} {d : Int} {t : Cl} {R : Rr}
theorem Dk.grow (h : Dk τ ρ pb p n c q m e ts out) (hx : Ext ρ ρ') (hn : ρ' pb = none) : Dk τ ρ' pb p n c q m e ts out := ⟨hn,h.GH.mono XQ.mono (hx.del q),h.cap,h.out.mono NG.mono hx⟩
theorem Dk.ext (h : Dk τ ρ pb p n c q m e ts out) (o : Obj) : Ext ρ (ρ.set pb o) := .set h.pb
theorem Dk.box {b : Nat} {o u : Obj} (h : Dk τ ρ pb p n c q m e ts out) (hb : (ρ.set pb o) b = none) : Dk τ (ρ.set b u) pb p n c q m e ts out ∧ (ρ.set pb o).set b u = (ρ.set b u).set pb o := by
 obtain ⟨h1,h2⟩ := Hp.AS hb
 exact ⟨h.grow (.set h2) (by rw [Hp.AI (Ne.symm h1)]; exact h.pb),Hp.BQ (Ne.symm h1)⟩
theorem Dk.tok (h : Dk τ ρ pb p n c q m e (t :: ts) out) : t = Uk t.kind t.text t.span ∧ ∃ b o,∃ a : Int,p = some ⟨b,o,none⟩ ∧ 0 < n ∧ Ay ρ b o [.int .i64 t.kind,.int .i64 a,.string t.text,.int .i64 t.span] := by
 obtain ⟨b,o,vs,hp,⟨ht,a,rfl⟩,hl⟩ := Ab.idx h.GH (i := 0) (x := t) rfl
 have hn : (t :: ts).length = n := h.GH.1
 rw [List.length_cons] at hn
 exact ⟨ht,b,o,a,hp,by omega,by simpa using hl.mono (Ext.Iy _ _)⟩
theorem DO (h : Dk τ ρ pb p n c q m e (t :: ts) out) (hR : ∀ a : Int,R (.returned (.agg #[.int .i64 t.kind,.int .i64 a,.string t.text,.int .i64 t.span])) (ρ.set pb (pO p n c d q m e))) : Spec prog 66 #[.pointer (aD pb 0)] (ρ.set pb (pO p n c d q m e)) R := by
 obtain ⟨_,b,o,a,rfl,hn,hl⟩ := h.tok
 exact IM.start fun _ => ⟨pb,0,rfl,aD b o,n,c,by simp [Hp.ld,Hp.AB],b,o,rfl,by omega,_,_,_,_,hl.mono (h.ext _),hR a⟩
theorem Dk.step (h : Dk τ ρ pb p n c q m e (t :: ts) out) : Dk τ ρ pb (Ir p 1 c 4) (n - 1) (c - 1) q m e ts out := by
 have hc := h.cap
 have hln : (t :: ts).length = n := h.GH.1
 rw [List.length_cons] at hln
 have hs := Ab.sub h.GH (i := 1) (m := n - 1) (by decide) (by omega) hc
 rw [List.drop_succ_cons,List.drop_zero,List.take_of_length_le (by omega)] at hs
 exact ⟨h.pb,hs,by omega,h.out⟩
theorem Dk.qp (h : Dk τ ρ pb p n c q m e ts out) : Dk (ρ.del q) ρ pb p n c q m e ts out := ⟨h.pb,h.GH,h.cap,⟨h.out.1,.refl _⟩⟩
theorem Dk.base {τ' : Hp} (h : Dk τ' ρ pb p n c q m e ts out) (hx : Ext τ τ') : Dk τ ρ pb p n c q m e ts out := ⟨h.pb,h.GH,h.cap,⟨h.out.1,hx.trans h.out.2⟩⟩
theorem Dl (h : Dk τ ρ pb p n c q m e (t :: ts) out) (hR : ∀ a : Int,R (.returned (.agg #[.int .i64 t.kind,.int .i64 a,.string t.text,.int .i64 t.span])) (ρ.set pb (pO (Ir p 1 c 4) (n - 1) (c - 1) d q m e))) :
   Spec prog 135 #[.pointer (aD pb 0)] (ρ.set pb (pO p n c d q m e)) R := by
 obtain ⟨_,b,o,a,rfl,hn,hl⟩ := h.tok
 have hc := h.cap
 have hln : (t :: ts).length = n := h.GH.1
 rw [List.length_cons] at hln
 refine Jq.start fun _ => ⟨pb,0,rfl,aD b o,n,c,by simp [Hp.ld,Hp.AB],b,o,rfl,by omega,_,_,_,_,hl.mono (h.ext _),fun _ => ⟨aD b o,n,c,by simp [Hp.ld,Hp.AB],by omega,?_⟩⟩
 refine st1 vN (Hp.AB _ _ _) rfl rfl (by simp) rfl ?_
 rw [Hp.set_set]
 exact hR a
theorem Ci {k : Int} {s : ByteArray} (h : Dk τ ρ pb p n c q m e (t :: ts) out) (hR : R (.returned (.bool (Iw t.kind t.text k s))) (ρ.set pb (pO p n c d q m e))) : Spec prog 136 #[.pointer (aD pb 0),.int .i64 k,.string s] (ρ.set pb (pO p n c d q m e)) R := by
 refine Jo.start (DO h fun a => ⟨_,_,_,_,rfl,fun hk => DO h fun a' => ⟨_,_,_,_,rfl,?_⟩,fun hk => ?_⟩)
 · rw [Ub]
   unfold Iw at hR
   rw [decide_eq_true hk,Bool.true_and] at hR
   exact hR
 · unfold Iw at hR
   rw [decide_eq_false hk,Bool.false_and] at hR
   exact hR
theorem MN {s : ByteArray} (h : Dk τ ρ pb p n c q m e (t :: ts) out) (hs : Iw t.kind t.text 5 s = true) (hR : R (.returned (.tuple #[])) (ρ.set pb (pO (Ir p 1 c 4) (n - 1) (c - 1) d q m e))) :
   Spec prog 210 #[.pointer (aD pb 0),.string s] (ρ.set pb (pO p n c d q m e)) R :=
 Ey.start (Ci h ⟨_,rfl,fun hf => absurd (hs.symm.trans hf) (by decide),fun _ => Ey.PA (Dl h fun a => ⟨_,_,_,_,rfl,hR⟩)⟩)
theorem Fc {x : Nd} {pm pn : Option Addr} {km cm kn cn : Nat} (h : Dk τ ρ pb p n c q m e ts out) (hb : m ≤ 1000000) (h1 : Ab 3 OZ (ρ.del q) pm km x.mt) (h2 : FC 1 (ρ.del q) pn kn (x.names.map .string))
   (hR : ∀ (ρ' : Hp) (q' : Option Addr) (e' : Nat),Dk τ ρ' pb p n c q' (m + 1) e' ts (out ++ [x]) → R (.returned (.tuple #[])) (ρ'.set pb (pO p n c d q' (m + 1) e'))) :
   Spec prog 138 #[.pointer (aD pb 0),MZ x pm km cm pn kn cn] (ρ.set pb (pO p n c d q m e)) R := by
 refine Hj.start fun _ => ⟨pb,0,rfl,q,m,e,by simp [Hp.ld,Hp.AB],fun b ABi => ?_⟩
 obtain ⟨e1,e2⟩ := Hp.AS ABi
 rw [Hp.BQ (Ne.symm e1)]
 refine AK.Ap (by rw [Hp.AI (Ne.symm e1)]; exact h.pb) ?_
 have he : NG (ρ.del q) [.int .i64 x.kind,.int .i64 x.op,.string x.text,.slice pm km cm,.int .i64 x.width,.int .i64 x.back,.int .i64 x.Ec,.slice pn kn cn,.bool x.bool,.int .i64 x.parts] x := ⟨pm,km,cm,pn,kn,cn,rfl,h1,h2⟩
 refine AW.Jt NG.mono h.out rfl (fun u hu => ?_) he (by omega) (fun q' e' ρ' ho hx hn => ⟨_,_,_,rfl,?_⟩) e2
 · simp only [List.mem_cons,List.not_mem_nil,or_false] at hu
   rcases hu with rfl | rfl | rfl | rfl | rfl | rfl | rfl | rfl | rfl | rfl <;> rfl
 · refine st1 AB1 (Hp.AB _ _ _) rfl rfl (by simp) rfl ?_
   rw [Hp.set_set]
   exact hR ρ' q' e' ⟨hn,h.GH.mono XQ.mono hx,h.cap,ho⟩
theorem E7 {l : List ByteArray} {s : ByteArray} {σ : Hp} {pt : Option Addr} {k j : Nat} (hr : FC 1 σ pt k (l.map .string)) (hR : R (.returned (.int .i64 (Gk l s))) σ) : Spec prog 133 #[.slice pt k j,.string s] σ R := by
 have hl : l.length = k := by have := hr.1; simpa using this
 have NF : k ≤ 4611686018427387904 := hr.2.1
 refine Dh.start ?_
 suffices H : ∀ g i : Nat,k - i = g → i ≤ k → Gk l s = XA (l.drop i) s i → Dh.Hz R s pt k j k i σ from H k 0 rfl (Nat.zero_le _) rfl
 intro g
 induction g with
 | zero =>
   intro i hg hi he
   rw [List.drop_eq_nil_of_le (by omega)] at he
   refine Dh.Bl ⟨fun Aq => by omega,fun _ => ?_⟩
   rw [he] at hR; exact hR
 | succ g ih =>
   intro i hg hi he
   have B9 : i < k := by omega
   obtain ⟨x,hx⟩ : ∃ x,l[i]? = some x := ⟨_,List.getElem?_eq_getElem (by omega)⟩
   obtain ⟨b,o,rfl,Eb⟩ := FC.at1 hr (k := i) (v := .string x) (by simp [hx])
   rw [BD hx] at he
   have next : ¬ (x = s ∧ s ≠ ⟨#[]⟩) → AJ ((i : Int) + 1) ∧ Dh.Hz R s (aD b o) k j k ((i : Int) + 1) σ := fun A5 => ⟨AL B9 NF,ih (i + 1) (by omega) (by omega) (by rw [he,XA,if_neg A5])⟩
   refine Dh.Bl ⟨fun _ => ⟨b,o,rfl,by omega,x,by simpa using Eb,fun ht => ⟨fun hf => ?_,fun hf => next fun hh => ?_⟩,fun hf => next fun hh => ?_⟩,fun hh => by omega⟩
   · rw [Ub,decide_eq_true_eq] at ht
     rw [Ub,decide_eq_false_iff_not] at hf
     rw [he,XA,if_pos ⟨ht,hf⟩] at hR; exact hR
   · rw [Ub,decide_eq_true_eq] at hf
     exact hh.2 hf
   · rw [Ub,decide_eq_false_iff_not] at hf
     exact hf hh.1
theorem qq (h : Dk τ ρ pb p n c q m e ts out) (hR : ∀ ρ' b,Dk τ ρ' pb p n c q m e ts out → Ext ρ ρ' → FC 1 (ρ'.set pb (pO p n c d q m e)) (aD b 0) 14 (vJ.map .string) → R (.returned (.slice (aD b 0) 14 14)) (ρ'.set pb (pO p n c d q m e))) : Spec prog 134 #[] (ρ.set pb (pO p n c d q m e)) R := by
 refine VD.start fun b hb => ?_
 obtain ⟨h1,h2⟩ := h.box (u := .cells (vJ.map Value.string).toArray 9 (0,0)) hb
 have := hR _ b h1 (.set (Hp.AS hb).2) (by rw [← h2]; exact PZ (Hp.AB _ _ _) (by decide))
 rw [← h2] at this
 exact this
theorem Z9 (h : Dk τ ρ pb p n c q m e ts out) (hR : ∀ ρ' b,Dk τ ρ' pb p n c q m e ts out → Ext ρ ρ' → FC 1 (ρ'.set pb (pO p n c d q m e)) (aD b 0) 13 (Zw.map .string) → R (.returned (.slice (aD b 0) 13 13)) (ρ'.set pb (pO p n c d q m e))) : Spec prog 267 #[] (ρ.set pb (pO p n c d q m e)) R := by
 refine P2.start fun b hb => ?_
 obtain ⟨h1,h2⟩ := h.box (u := .cells (Zw.map Value.string).toArray 9 (0,0)) hb
 have := hR _ b h1 (.set (Hp.AS hb).2) (by rw [← h2]; exact PZ (Hp.AB _ _ _) (by decide))
 rw [← h2] at this
 exact this
theorem aA (h : Dk τ ρ pb p n c q m e ts out) (hR : ∀ ρ' b,Dk τ ρ' pb p n c q m e ts out → Ext ρ ρ' → FC 1 (ρ'.set pb (pO p n c d q m e)) (aD b 0) 6 (Zx.map .string) → R (.returned (.slice (aD b 0) 6 6)) (ρ'.set pb (pO p n c d q m e))) : Spec prog 268 #[] (ρ.set pb (pO p n c d q m e)) R := by
 refine TF.start fun b hb => ?_
 obtain ⟨h1,h2⟩ := h.box (u := .cells (Zx.map Value.string).toArray 9 (0,0)) hb
 have := hR _ b h1 (.set (Hp.AS hb).2) (by rw [← h2]; exact PZ (Hp.AB _ _ _) (by decide))
 rw [← h2] at this
 exact this
theorem jv {s : ByteArray} {b : Bool} (h : Dk τ ρ pb p n c q m e ts out) (hR : ∀ ρ',Dk τ ρ' pb p n c q m e ts out → Ext ρ ρ' → R (.returned (.bool (b || decide (0 < Gk Zw s) || decide (0 < Gk Zx s)))) (ρ'.set pb (pO p n c d q m e))) : HD.Qe R s b (ρ.set pb (pO p n c d q m e)) := by
 refine HD.tz ⟨fun hb => ?_,fun hb => ?_⟩
 · have := hR ρ h (.refl _)
   rw [hb] at this
   simpa using this
 · subst hb
   refine Z9 h fun ρ1 b1 h1 x1 GC => ⟨_,_,_,rfl,E7 GC ⟨_,rfl,fun hp => ?_,fun hp => aA h1 fun ρ2 b2 h2 x2 HN => ⟨_,_,_,rfl,E7 HN ⟨_,rfl,?_⟩⟩⟩⟩
   · have := hR ρ1 h1 x1
     rw [decide_eq_true (show 0 < Gk Zw s by omega)] at this
     simpa using this
   · have := hR ρ2 h2 (x1.trans x2)
     rw [decide_eq_false (show ¬ 0 < Gk Zw s by omega)] at this
     have e : decide ((0 : Int) < ((Gk Zx s : Nat) : Int)) = decide (0 < Gk Zx s) := decide_eq_decide.2 (by omega)
     dsimp only
     simp only [Bool.false_or] at this
     rw [← e] at this
     exact this
theorem jw {s : ByteArray} (h : Dk τ ρ pb p n c q m e ts out) (hR : ∀ ρ',Dk τ ρ' pb p n c q m e ts out → Ext ρ ρ' → R (.returned (.bool (Ms s))) (ρ'.set pb (pO p n c d q m e))) : Spec prog 295 #[.string s] (ρ.set pb (pO p n c d q m e)) R := by
 have tl : ∀ b,DA s Qm = b → HD.Qe R s b (ρ.set pb (pO p n c d q m e)) := fun b hb => jv h fun ρ' h' x' => by
   have := hR ρ' h' x'
   unfold Ms at this
   rw [hb] at this; exact this
 have hm : DA s Qm = (decide (s = ⟨#[111,114]⟩) || (decide (s = ⟨#[97,110,100]⟩) || (decide (s = ⟨#[117,110,108,101,115,115]⟩) || (decide (s = ⟨#[98,111,111,108]⟩) || (decide (s = ⟨#[111,110]⟩) || (decide (s = ⟨#[105,103,110,111,114,105,110,103]⟩) || (decide (s = ⟨#[98,121]⟩) || (decide (s = ⟨#[119,105,116,104,111,117,116]⟩) || decide (s = ⟨#[111,102,102,115,101,116]⟩))))))))) := by
   unfold DA Qm
   simp only [List.any_cons,List.any_nil,Bool.or_false]
 refine HD.start ⟨fun h1 => tl _ ?_,fun h1 => ⟨fun h2 => tl _ ?_,fun h2 => ⟨fun h3 => tl _ ?_,fun h3 => ⟨fun h4 => tl _ ?_,fun h4 => ⟨fun h5 => tl _ ?_,fun h5 => ⟨fun h6 => tl _ ?_,fun h6 => ⟨fun h7 => tl _ ?_,fun h7 => ⟨fun h8 => tl _ ?_,fun h8 => tl _ ?_⟩⟩⟩⟩⟩⟩⟩⟩ <;>
 · simp only [Ub] at *
   simp only [hm, *,Bool.true_or,Bool.or_true,Bool.false_or]
theorem eB (h : Dk τ ρ pb p n c q m e (t :: ts) out) (hk : t.kind = 2) (hR : R (.returned (.int .i64 t.span)) (ρ.set pb (pO (Ir p 1 c 4) (n - 1) (c - 1) d q m e))) : Spec prog 298 #[.pointer (aD pb 0)] (ρ.set pb (pO p n c d q m e)) R :=
 Em.start (DO h fun a => ⟨_,_,_,_,rfl,fun A5 => absurd hk A5,fun _ => Em.Af (Dl h fun a => ⟨_,_,_,_,rfl,hR⟩)⟩)
theorem eC (h : Dk τ ρ pb p n c q m e (t :: ts) out) (hk : t.name = true) (hR : R (.returned (.string t.text)) (ρ.set pb (pO (Ir p 1 c 4) (n - 1) (c - 1) d q m e))) : Spec prog 211 #[.pointer (aD pb 0)] (ρ.set pb (pO p n c d q m e)) R := by
 have ht := h.tok.1
 have HM : (decide (t.kind = 3) && CD t.text) = true := by rw [← hk]; exact (congrArg Cl.name ht).symm
 rw [Bool.and_eq_true,decide_eq_true_eq] at HM
 exact Ep.start (DO h fun a => ⟨_,_,_,_,rfl,fun A5 => absurd HM.1 A5,fun _ => DO h fun a => ⟨_,_,_,_,rfl,PK ⟨_,rfl,fun hf => absurd (HM.2.symm.trans hf) (by decide),fun _ => Ep.Af (Dl h fun a => ⟨_,_,_,_,rfl,hR⟩)⟩⟩⟩)
def aB (_ : Hp) (vs : List Value) (x : ByteArray) : Prop := vs = [.string x]
theorem aB.mono : HO aB := fun _ _ _ _ _ h => h
theorem AB2 {σ : Hp} : ∀ {l : List ByteArray} {cs : List Value},Ch 1 aB σ cs l → cs = l.map .string := by
 intro l cs h
 refine List.ext_getElem? fun i => ?_
 have hl : cs.length = l.length := by have := h.1; omega
 by_cases hi : i < l.length
 · have := h.2 i l[i] (List.getElem?_eq_getElem hi)
   rw [List.getElem?_map,List.getElem?_eq_getElem hi]
   unfold aB at this
   have h2 := congrArg (·[0]?) this
   simpa [List.getElem?_take,List.getElem?_drop] using h2
 · rw [List.getElem?_eq_none (by omega),List.getElem?_eq_none (by simp; omega)]
theorem BB.AB3 {s : Nat} {σ σ' : Hp} {p : Option Addr} {n c : Nat} {cs : List Value} (ho : BB s σ p n c cs) (h : ∀ a,p = some a → σ' a.block = σ a.block) : BB s σ' p n c cs :=
 ⟨ho.1,ho.2.1,ho.2.2.imp id fun ⟨b',o',arr,T,hp,hb,r⟩ => ⟨b',o',arr,T,hp,by rw [h _ hp]; exact hb,r⟩⟩
theorem Hp.vO {σ σ' : Hp} {p : Option Addr} (hx : Ext σ (σ'.del p)) : ∀ a,p = some a → (σ.new σ') a.block = σ' a.block := fun a ha => by
 subst ha
 cases h1 : σ a.block with
 | none => simp only [Hp.new,h1]
 | some u =>
   have := hx _ _ h1
   simp [Hp.del] at this
theorem AW.qs {α : Type} {s : Nat} {E : Hp → List Value → α → Prop} {σ0 σ : Hp} {p : Option Addr} {n c : Nat} {xs : List α} (hE : ∀ σ σ' vs x,E σ vs x → E σ' vs x) (h : AW s E σ0 σ p n c xs) : Ab s E (σ0.new σ) p n xs := by
 obtain ⟨⟨h1,cs,h2,h3⟩,h4⟩ := h
 exact ⟨h1,cs,(BB.AB3 h2 (Hp.vO h4)).rd,h3.1,fun i x hi => hE _ _ _ _ (h3.2 i x hi)⟩
theorem vP {σ : Hp} {p : Option Addr} {n : Nat} {l : List ByteArray} (h : Ab 1 aB σ p n l) : FC 1 σ p n (l.map .string) := by
 obtain ⟨h1,cs,h2,h3⟩ := h
 rw [← AB2 h3]; exact h2
theorem eD {ρ0 : Hp} : ∀ (f : Nat) (ts : List Cl) (ns : List ByteArray) (x : List ByteArray × List Cl),vK f ts ns = some x → ns.length + f ≤ 1000 → ∀ {ρ : Hp} {p pn : Option Addr} {n c kn cn : Nat},Dk τ ρ0 pb p n c q m e ts out → ρ pb = none → AW 1 aB ρ0 ρ pn kn cn ns →
   (∀ (ρ' : Hp) (p' pn' : Option Addr) (n' c' kn' cn' : Nat),Dk τ ρ0 pb p' n' c' q m e x.2 out → ρ' pb = none → AW 1 aB ρ0 ρ' pn' kn' cn' x.1 → R (.returned (.slice pn' kn' cn')) (ρ'.set pb (pO p' n' c' d q m e))) →
   BH.Bh R (aD pb 0) pn kn cn (ρ.set pb (pO p n c d q m e)) := by
 intro f
 induction f with
 | zero => intro ts ns x h; cases h
 | succ f ih =>
   intro ts ns x h hb ρ p pn n c kn cn h0 hn ho hR
   cases ts with
   | nil => cases h
   | cons c0 r =>
     have hu := h0.grow ho.up hn
     have ht := hu.tok.1
     have XF : ns.length = kn := ho.1.1
     have cD : c0.rp = Iw c0.kind c0.text 5 ⟨#[41]⟩ := congrArg Cl.rp ht
     have hcm : c0.comma = Iw c0.kind c0.text 5 ⟨#[44]⟩ := congrArg Cl.comma ht
     unfold vK at h
     have app : ∀ (w : Cl) (r' : List Cl) (p1 : Option Addr) (n1 c1 : Nat),w.name = true → vK f r' (ns ++ [w.text]) = some x → Dk τ ρ0 pb p1 n1 c1 q m e (w :: r') out → BH.WJ R (aD pb 0) pn kn cn (ρ.set pb (pO p1 n1 c1 d q m e)) := fun w r' p1 n1 c1 hw hz jA =>
       BH.Q6 (eC (jA.grow ho.up hn) hw ⟨_,rfl,fun b MO => by
         obtain ⟨e1,e2⟩ := Hp.AS MO
         rw [Hp.BQ (Ne.symm e1)]
         refine AK.Ap (by rw [Hp.AI (Ne.symm e1)]; exact hn) ?_
         refine AW.Jt aB.mono ho rfl (fun u hu => by rw [List.mem_singleton] at hu; subst hu; rfl) rfl (by omega) (fun pn' cn' ρ' MP Wl XR => ⟨_,_,_,rfl,?_⟩) e2
         exact ih r' _ x hz (by rw [List.length_append,List.length_singleton]; omega) jA.step XR MP hR⟩)
     refine BH.A3 (Ci hu ⟨_,rfl,fun r8 => ?_,fun kM => Dl hu fun a => ⟨_,_,_,_,rfl,?_⟩⟩)
     · rw [← cD] at r8
       rw [if_neg (by rw [r8]; decide)] at h
       refine ⟨fun Oj => ?_,fun Oj => ?_⟩
       · rw [if_neg (by omega)] at h
         split at h
         · rename_i hc
           split at h
           · cases h
           · rename_i w r'
             split at h
             · rename_i hw
               exact MN hu (by rw [← hcm]; exact hc) ⟨rfl,app w r' _ _ _ hw h h0.step⟩
             · cases h
         · cases h
       · rw [if_pos (by omega)] at h
         split at h
         · rename_i hc
           exact app c0 r p n c hc h h0
         · cases h
     · rw [← cD] at kM
       rw [if_pos kM] at h
       cases h
       exact hR ρ _ pn _ _ kn cn h0.step hn ho
theorem aC {x : List ByteArray × List Cl} (h : Dk τ ρ pb p n c q m e (t :: ts) out) (hl : t.lp = true) (hz : vK 8 ts [] = some x)
   (hR : ∀ (ρ' : Hp) (p' pn : Option Addr) (n' c' kn cn : Nat),Dk τ ρ' pb p' n' c' q m e x.2 out → Ext ρ ρ' → FC 1 (ρ.new ρ') pn kn (x.1.map .string) → R (.returned (.slice pn kn cn)) (ρ'.set pb (pO p' n' c' d q m e))) :
   Spec prog 170 #[.pointer (aD pb 0)] (ρ.set pb (pO p n c d q m e)) R := by
 have fH : Iw t.kind t.text 5 ⟨#[40]⟩ = true := by rw [← hl]; exact (congrArg Cl.lp h.tok.1).symm
 refine BH.start (MN h fH ⟨rfl,eD 8 ts [] x hz (by decide) h.step h.pb (AW.nil (.refl _)) fun ρ' p2 pn n2 c2 kn cn hu hn ho => hR ρ' p2 pn n2 c2 kn cn (hu.grow ho.up hn) ho.up (vP (ho.qs fun _ _ _ _ h => h))⟩)
end
end TwW
end
section
namespace TwW
open Go Tw Go.RowKit Go.Proofs.Tryz
abbrev eE (k op : Int) (pm : Option Addr) (km cm : Nat) (w g : Int) (pn : Option Addr) (kn cn : Nat) (b : Bool) (ps : Int) : Obj := .cells #[.int .i64 k,.int .i64 op,.string (ByteArray.mk #[]),.slice pm km cm,.int .i64 w,.int .i64 0,.int .i64 g,.slice pn kn cn,.bool b,.int .i64 ps] 36 (0,0)
theorem AB4 : ∀ w,(Go.sizeOf 2).run prog w = .ok 1 w := fun w => by kernel_rfl
theorem AB5 : ∀ w,(Go.sizeOf 33).run prog w = .ok 1 w := fun w => by kernel_rfl
theorem AB6 : ∀ w,(Go.sizeOf 34).run prog w = .ok 1 w := fun w => by kernel_rfl
section
variable {τ ρ ρ' : Hp} {pb nb n c m e : Nat} {p q : Option Addr} {ts : List Cl} {out : List Nd} {d : Int} {t : Cl} {R : Rr}
theorem eF {σ : Hp} {k op : Int} {ps : Int} {b : Bool} {Φ : Unit → Hp → Prop} (h : Φ () (σ.set nb (eE k op none 0 0 0 0 none 0 0 b ps))) :
   AK prog (Instr.storeAt 36 (.pointer (aD nb 0)) (.agg #[.int .i64 k,.int .i64 op,(.string (ByteArray.mk #[])),.slice none 0 0,.int .i64 0,.int .i64 0,.int .i64 0,.slice none 0 0,.bool b,.int .i64 ps])) (σ.set nb (eE 0 0 none 0 0 0 0 none 0 0 false 0)) Φ := by
 refine AK.store pL (Hp.AB _ _ _) rfl (by simp) (by simp [Value.cells,Value.oneCell']) ?_
 rw [Hp.set_set]
 show Φ () (σ.set nb (.cells (NT _ 0 [.int .i64 k,.int .i64 op,(.string (ByteArray.mk #[])),.slice none 0 0,.int .i64 0,.int .i64 0,.int .i64 0,.slice none 0 0,.bool b,.int .i64 ps]) 36 (0,0)))
 rw [Te (by rfl)]
 exact h
theorem jx {s : ByteArray} {k v a : Int} {s' : ByteArray} (h : Dk τ ρ pb p n c q m e ts out) (Ob : (ρ.set pb (pO p n c d q m e)) nb = none) (hs : s.size ≤ 256)
   (hR : ∀ (ρ' : Hp) (pm : Option Addr) (cm : Nat),Dk τ ρ' pb p n c q m e ts out → Ext ρ ρ' → (ρ'.set pb (pO p n c d q m e)) nb = none → Ab 3 OZ (ρ.new ρ') pm 1 [⟨1,A4,s⟩] → R (.returned (.tuple #[])) ((ρ'.set pb (pO p n c d q m e)).set nb (eE 2 0 pm 1 cm 0 0 none 0 0 false 0))) :
   Spec prog 296 #[.pointer (aD pb 0),.pointer (aD nb 0),.agg #[.int .i64 1,.string (ByteArray.mk #[95,95,110,97,109,101,95,95]),.string s],.agg #[.int .i64 k,.int .i64 a,.string s',.int .i64 v]] ((ρ.set pb (pO p n c d q m e)).set nb (eE 2 0 none 0 0 0 0 none 0 0 false 0)) R := by
 refine IT.start fun _ _ => ⟨nb,0,rfl,none,0,0,by simp [Hp.ld,Hp.AB],fun b hb => ?_⟩
 obtain ⟨e1,M4⟩ := Hp.AS hb
 obtain ⟨e2,al⟩ := Hp.AS M4
 obtain ⟨e3,rn⟩ := Hp.AS Ob
 rw [Hp.BQ (Ne.symm e1)]
 refine AK.Ap (by rw [Hp.AI (Ne.symm e1)]; exact Ob) ?_
 rw [Hp.BQ (Ne.symm e2)]
 refine AK.Ap (by rw [Hp.AI (Ne.symm e2)]; exact h.pb) ?_
 refine AW.Jt (vs := [.int .i64 1,.string A4,.string s]) (x := (⟨1,A4,s⟩ : Mt)) OZ.mono (AW.nil (s := 3) (E := OZ) (.refl ρ)) rfl (fun u hu => ?_) rfl (by decide) (fun pm cm ρ' ho hx ph Zp => ⟨_,_,_,rfl,?_⟩) al
 · simp only [List.mem_cons,List.not_mem_nil,or_false] at hu
   rcases hu with rfl | rfl | rfl <;> rfl
 · have hr := ho.qs fun _ _ _ _ h => h
   refine st1 AB5 (Hp.AB _ _ _) rfl rfl (by simp) rfl ?_
   rw [Hp.set_set]
   have RL := hR ρ' pm cm (h.grow ho.up ph) ho.up Zp hr
   refine ⟨pm,1,cm,by simp [Hp.ld,Hp.AB],QD (ms := [⟨1,A4,s⟩]) ((hr.mono OZ.mono ((Ext.Cs _ _).trans ((Ext.set ph).trans (Ext.set Zp))))) ⟨_,rfl,fun A5 => absurd ?_ A5,fun _ => RL⟩⟩
   have : HJ CD [⟨1,A4,s⟩] = 0 := by
     unfold HJ
     simp only [List.length_singleton,List.all_cons,List.all_nil,Bool.and_true]
     rw [if_neg (by decide),if_pos]
     rw [show CD A4 = true by decide,decide_eq_true hs]; rfl
   exact this
theorem UC {k w : Int} {s : ByteArray} {pm : Option Addr} {cm : Nat} (h : Dk τ ρ pb p n c q m e (t :: ts) out) (Ob : (ρ.set pb (pO p n c d q m e)) nb = none) (ho : t.off = false) (hb : m ≤ 1000000) (hr : Ab 3 OZ (ρ.del q) pm 1 [⟨1,A4,s⟩])
   (hR : ∀ (ρ' : Hp) (q' : Option Addr) (e' : Nat),Dk τ ρ' pb p n c q' (m + 1) e' (t :: ts) (out ++ [⟨k,0,⟨#[]⟩,[⟨1,A4,s⟩],w,0,0,[],false,0⟩]) → R (.returned (.tuple #[])) (ρ'.set pb (pO p n c d q' (m + 1) e'))) :
   An.QY R (aD pb 0) nb ((ρ.set pb (pO p n c d q m e)).set nb (eE k 0 pm 1 cm w 0 none 0 0 false 0)) := by
 have MP : Iw t.kind t.text 3 ⟨#[111,102,102,115,101,116]⟩ = false := by rw [← ho]; exact (congrArg Cl.off h.tok.1).symm
 refine An.RA (Spec.Ap Ob (Ci h fun hn => ⟨_,rfl,fun ht => absurd (MP.symm.trans ht) (by decide),fun _ => An.Wd ⟨_,_,_,_,_,_,_,_,_,_,_,_,_,_,OQ (Hp.AB _ _ _),?_⟩⟩))
 refine Spec.Ap hn (Fc (x := ⟨k,0,⟨#[]⟩,[⟨1,A4,s⟩],w,0,0,[],false,0⟩) h hb hr ⟨rfl,by omega,.inl rfl⟩ fun ρ' q' e' hu XR => ⟨rfl,?_⟩)
 obtain ⟨h1,h2⟩ := hu.box (u := eE k 0 pm 1 cm w 0 none 0 0 false 0) XR
 rw [h2]
 exact hR _ q' e' h1
theorem choose_spec {r : List Cl} {x : Nd} (h : Dk τ ρ pb p n c q m e (t :: ts) out) (hk : t.kind = 3) (hke : t.kept = false) (hs : t.text.size ≤ 256) (hb : m ≤ 1000000)
   (hz : vL t ts = some (r,[x]))
   (hR : ∀ (ρ' : Hp) (p' q' : Option Addr) (n' c' e' : Nat),Dk τ ρ' pb p' n' c' q' (m + 1) e' r (out ++ [x]) → R (.returned (.tuple #[])) (ρ'.set pb (pO p' n' c' d q' (m + 1) e'))) :
   Spec prog 270 #[.pointer (aD pb 0)] (ρ.set pb (pO p n c d q m e)) R := by
 have AOu : Ms t.text = false := by rw [← hke]; exact (congrArg Cl.kept h.tok.1).symm
 unfold vL at hz
 cases ts with
 | nil => cases hz
 | cons a r' =>
   refine An.start fun nb Ob => eF ?_
   refine Spec.Ap Ob (DO h fun a' Zp => ⟨_,_,_,_,rfl,fun _ => ⟨fun _ => ?_,fun A5 => absurd hk A5⟩⟩)
   refine Spec.Ap Zp (jw h fun ρ1 h1 x1 Ty => ⟨_,rfl,fun _ => ?_,fun ht => absurd (AOu.symm.trans ht) (by decide)⟩)
   have h2 := h1.step
   refine Spec.Ap Ty (Dl h1 fun a' rn => ⟨_,_,_,_,rfl,?_⟩)
   refine jx h2 rn hs fun ρ2 pm cm h3 x2 kP hr => ⟨rfl,?_⟩
   have ht := h3.tok.1
   have e1 : a.lbr = Iw a.kind a.text 5 ⟨#[123]⟩ := congrArg Cl.lbr ht
   have e2 : a.lsq = Iw a.kind a.text 5 ⟨#[91]⟩ := congrArg Cl.lsq ht
   have HN : Ab 3 OZ (ρ2.del q) pm 1 [⟨1,A4,t.text⟩] := hr.mono OZ.mono (h2.out.new x2)
   dsimp only at hz
   split at hz
   · cases hz
   rename_i xu
   refine An.I4 (Spec.Ap kP (Ci h3 fun hn5 => ⟨_,rfl,fun kM => absurd (e1.trans kM) xu,fun _ => ⟨fun hh => (by cases hh),fun _ => ?_⟩⟩))
   split at hz
   · rename_i H8
     split at hz
     · rename_i s ee o ql
       split at hz
       · rename_i hc
         obtain ⟨hs2,hrs,hof⟩ := hc
         simp only [Option.some.injEq,Prod.mk.injEq,List.cons.injEq,and_true] at hz
         obtain ⟨rfl,rfl⟩ := hz
         refine An.JK (Spec.Ap hn5 (Ci h3 fun hn6 => ⟨_,rfl,fun _ => ?_,fun hf => absurd (H8.symm.trans (e2.trans hf)) (by decide)⟩))
         have h4 := h3.step
         have h5 := h4.step
         have h6 := h5.step
         refine Spec.Ap hn6 (Dl h3 fun a2 hn7 => ⟨_,_,_,_,rfl,?_⟩)
         refine Spec.Ap hn7 (eB h4 hs2 fun QG => ⟨_,rfl,?_⟩)
         refine st1 Ic (Hp.AB _ _ _) rfl rfl (by simp) rfl ?_
         rw [Hp.set_set]
         refine st1 AB4 (Hp.AB _ _ _) rfl rfl (by simp) rfl ?_
         rw [Hp.set_set]
         have e3 : Iw ee.kind ee.text 5 ⟨#[93]⟩ = true := by rw [← hrs]; exact (congrArg Cl.rsq h5.tok.1).symm
         refine Spec.Ap QG (MN h5 e3 fun hn9 => ⟨rfl,?_⟩)
         exact UC (k := 3) (w := s.span) h6 hn9 hof hb HN fun ρ' q' e' hu => hR ρ' _ q' _ _ e' hu
       · cases hz
     · cases hz
   · rename_i H8
     split at hz
     · cases hz
     rename_i hof
     simp only [Option.some.injEq,Prod.mk.injEq,List.cons.injEq,and_true] at hz
     obtain ⟨rfl,rfl⟩ := hz
     refine An.JK (Spec.Ap hn5 (Ci h3 fun hn6 => ⟨_,rfl,fun kM => absurd (e2.trans kM) H8,fun _ => ?_⟩))
     exact UC (k := 2) (w := 0) h3 hn6 (by simpa using hof) hb HN fun ρ' q' e' hu => hR ρ' _ q' _ _ e' hu
end
end TwW
end
section
namespace TwW
open Go Tw Go.RowKit Go.Proofs.Tryz
section
variable {τ ρ ρ' : Hp} {pb nb n c m e : Nat} {p q : Option Addr} {ts : List Cl} {out : List Nd} {d : Int} {t : Cl} {R : Rr}
theorem aF {k op x0 x1 v ps : Int} {b : Bool} {i b7 : Nat} {s0 s1 s : ByteArray} {r : List Cl} {l : Cl} {x : List ByteArray × List Cl} (h : Dk τ ρ pb p n c q m e (t :: l :: r) out) (Ob : (ρ.set pb (pO p n c d q m e)) nb = none) (hb7 : ρ b7 = some (.cells #[.int .i64 x0,.int .i64 x1] 182 (0,0)))
   (hi : i < 2) (hs : [s0,s1][i]? = some s) (hv : (#[Value.int .i64 x0,.int .i64 x1])[i]? = some (.int .i64 v)) (ht : Iw t.kind t.text 3 s = true) (hl : l.lp = true) (hz : vK 8 r [] = some x)
   (hR : ∀ (ρ' : Hp) (p' pn : Option Addr) (n' c' kn cn : Nat),Dk τ ρ' pb p' n' c' q m e x.2 out → Ext ρ ρ' → (ρ'.set pb (pO p' n' c' d q m e)) nb = none → FC 1 (ρ.new ρ') pn kn (x.1.map .string) → R (.returned (.tuple #[])) ((ρ'.set pb (pO p' n' c' d q m e)).set nb (eE k op none 0 0 0 v pn kn cn b ps))) :
   Ai.rR R (aD pb 0) (aD nb 0) b7 s0 s1 (i : Int) ((ρ.set pb (pO p n c d q m e)).set nb (eE k op none 0 0 0 0 none 0 0 b ps)) := by
 have kn7 : ∀ {ρ2 : Hp} {o u : Obj},Ext ρ ρ2 → ρ2 pb = none → (ρ2.set pb o) nb = none → ((ρ2.set pb o).set nb u) b7 = some (.cells #[.int .i64 x0,.int .i64 x1] 182 (0,0)) := fun hx h1 h2 => (Ext.set h2) _ _ ((Ext.set h1) _ _ (hx _ _ hb7))
 refine Ai.R8 ⟨fun _ => ⟨by omega,s,by simpa using hs,Spec.Ap Ob (Ci h fun hn => ⟨_,rfl,fun _ => Spec.Ap hn (Dl h fun a Zp => ⟨_,_,_,_,rfl,by omega,v,?_,Spec.Ap Zp (aC h.step hl hz fun ρ2 p2 pn n2 c2 kn cn hu hx hr Ty => ⟨_,_,_,rfl,?_,nb,0,rfl,?_⟩)⟩),fun hf => absurd (ht.symm.trans hf) (by decide)⟩)⟩,fun hh => by omega⟩
 · exact Ad (kn7 (.refl _) h.pb Zp) (by simpa using hv)
 · intro j hj o ho
   rw [List.mem_singleton] at hj
   subst hj
   rw [kn7 (.refl _) h.pb Zp] at ho
   rw [kn7 hx hu.pb Ty]
   exact ho
 · refine st1 Ic (Hp.AB _ _ _) rfl rfl (by simp) rfl ?_
   rw [Hp.set_set]
   refine st1 AB6 (Hp.AB _ _ _) rfl rfl (by simp) rfl ?_
   rw [Hp.set_set]
   exact hR ρ2 p2 pn n2 c2 kn cn hu hx Ty hr
theorem NQ {i b7 : Nat} {s0 s1 s : ByteArray} {o : Obj} {qn : Option Addr} (h : Dk τ ρ pb p n c q m e (t :: ts) out) (Ob : (ρ.set pb (pO p n c d q m e)) nb = none)
   (hi : i < 2) (hs : [s0,s1][i]? = some s) (ht : Iw t.kind t.text 3 s = false) (hR : Ai.rR R (aD pb 0) qn b7 s0 s1 ((i + 1 : Nat) : Int) ((ρ.set pb (pO p n c d q m e)).set nb o)) :
   Ai.rR R (aD pb 0) qn b7 s0 s1 (i : Int) ((ρ.set pb (pO p n c d q m e)).set nb o) :=
 Ai.R8 ⟨fun _ => ⟨by omega,s,by simpa using hs,Spec.Ap Ob (Ci h fun hn => ⟨_,rfl,fun hh => absurd (ht.symm.trans hh) (by decide),fun _ => ⟨by unfold AJ; omega,hR⟩⟩)⟩,fun hh => by omega⟩
theorem UD {x0 x1 : Int} {s0 s1 : ByteArray} {o : Obj} (h : Dk τ ρ pb p n c q m e (t :: ts) out) (Ob : (ρ.set pb (pO p n c d q m e)) nb = none) (h0 : Iw t.kind t.text 3 s0 = false) (h1 : Iw t.kind t.text 3 s1 = false)
   (hR : ∀ ρ',Dk τ ρ' pb p n c q m e (t :: ts) out → Ext ρ ρ' → (ρ'.set pb (pO p n c d q m e)) nb = none → R (.returned (.tuple #[])) ((ρ'.set pb (pO p n c d q m e)).set nb o)) :
   Spec prog 137 #[.pointer (aD pb 0),.pointer (aD nb 0),.agg #[.string s0,.string s1],.agg #[.int .i64 x0,.int .i64 x1]] ((ρ.set pb (pO p n c d q m e)).set nb o) R := by
 refine Ai.start fun _ b7 hb => ?_
 obtain ⟨e1,M4⟩ := Hp.AS hb
 obtain ⟨e2,al⟩ := Hp.AS M4
 rw [Hp.BQ (Ne.symm e1),Hp.BQ (Ne.symm e2)]
 have hu := h.grow (.set (o := .cells #[.int .i64 x0,.int .i64 x1] 182 (0,0)) al) (by rw [Hp.AI (Ne.symm e2)]; exact h.pb)
 have XR : ((ρ.set b7 (.cells #[.int .i64 x0,.int .i64 x1] 182 (0,0))).set pb (pO p n c d q m e)) nb = none := by
   rw [Hp.BQ e2,Hp.AI (Ne.symm e1)]; exact Ob
 refine NQ (i := 0) hu XR (by decide) rfl h0 (NQ (i := 1) hu XR (by decide) rfl h1 (Ai.R8 ⟨fun hh => by omega,fun _ => ?_⟩))
 exact hR _ hu (.set al) XR
theorem eG {op : Int} {g : Int × List ByteArray × List Cl} (h : Dk τ ρ pb p n c q m e ts out) (Ob : (ρ.set pb (pO p n c d q m e)) nb = none) (hg : du ts = some g)
   (hR : ∀ (ρ' : Hp) (p' pn : Option Addr) (n' c' kn cn : Nat),Dk τ ρ' pb p' n' c' q m e g.2.2 out → Ext ρ ρ' → (ρ'.set pb (pO p' n' c' d q m e)) nb = none → FC 1 (ρ.new ρ') pn kn (g.2.1.map .string) → R (.returned (.tuple #[])) ((ρ'.set pb (pO p' n' c' d q m e)).set nb (eE 5 op none 0 0 0 g.1 pn kn cn false 1))) :
   Spec prog 137 #[.pointer (aD pb 0),.pointer (aD nb 0),(.agg #[(.string (ByteArray.mk #[98,121])),(.string (ByteArray.mk #[119,105,116,104,111,117,116]))]),.agg #[.int .i64 1,.int .i64 2]] ((ρ.set pb (pO p n c d q m e)).set nb (eE 5 op none 0 0 0 0 none 0 0 false 1)) R := by
 cases ts with
 | nil => cases hg
 | cons t r =>
   have ht := h.tok.1
   have e1 : t.yK = Iw t.kind t.text 3 ⟨#[98,121]⟩ := congrArg Cl.yK ht
   have e2 : t.out = Iw t.kind t.text 3 ⟨#[119,105,116,104,111,117,116]⟩ := congrArg Cl.out ht
   unfold du at hg
   dsimp only at hg
   split at hg
   · rename_i kO
     cases r with
     | nil => cases hg
     | cons l r =>
       dsimp only at hg
       split at hg
       · rename_i hl
         cases hz : vK 8 r [] with
         | none => rw [hz] at hg; cases hg
         | some x =>
           rw [hz] at hg
           simp only [Option.map_some,Option.some.injEq] at hg
           subst hg
           refine Ai.start fun _ b7 hb => ?_
           obtain ⟨n1,M4⟩ := Hp.AS hb
           obtain ⟨n2,al⟩ := Hp.AS M4
           rw [Hp.BQ (Ne.symm n1),Hp.BQ (Ne.symm n2)]
           have x0 := Ext.set (o := .cells #[.int .i64 1,.int .i64 2] 182 (0,0)) al
           have hu := h.grow x0 (by rw [Hp.AI (Ne.symm n2)]; exact h.pb)
           have XR : ((ρ.set b7 (.cells #[.int .i64 1,.int .i64 2] 182 (0,0))).set pb (pO p n c d q m e)) nb = none := by
             rw [Hp.BQ n2,Hp.AI (Ne.symm n1)]; exact Ob
           by_cases hb : t.yK = true
           · refine aF (i := 0) (v := 1) hu XR (Hp.AB _ _ _) (by decide) rfl rfl (by rw [← e1]; exact hb) hl hz fun ρ' p' pn n' c' kn cn CP hx Ty hr => ?_
             have := hR ρ' p' pn n' c' kn cn CP (x0.trans hx) Ty (hr.mono (Ext.Ck x0))
             rw [if_pos hb] at this; exact this
           · have MO : t.yK = false := by simpa using hb
             have ho : t.out = true := by rw [MO,Bool.false_or] at kO; exact kO
             refine NQ (i := 0) hu XR (by decide) rfl (by rw [← e1]; exact MO) ?_
             refine aF (i := 1) (v := 2) hu XR (Hp.AB _ _ _) (by decide) rfl rfl (by rw [← e2]; exact ho) hl hz fun ρ' p' pn n' c' kn cn CP hx Ty hr => ?_
             have := hR ρ' p' pn n' c' kn cn CP (x0.trans hx) Ty (hr.mono (Ext.Ck x0))
             rw [if_neg hb] at this; exact this
       · cases hg
   · rename_i kO
     simp only [Option.some.injEq] at hg
     subst hg
     rw [Bool.not_eq_true,Bool.or_eq_false_iff] at kO
     refine UD h Ob (by rw [← e1]; exact kO.1) (by rw [← e2]; exact kO.2) fun ρ' hu hx hn => ?_
     exact hR ρ' p none n c 0 0 hu hx hn ⟨rfl,by omega,.inl rfl⟩
theorem Vp {g : Nat} {fst cap : Array Value} (Og : Enters prog g) (h : Dk τ ρ pb p n c q m e (t :: ts) out) (hd : 0 ≤ d ∧ d < 64)
   (hR : Spec prog g (fst ++ #[] ++ cap) (ρ.set pb (pO (Ir p 1 c 4) (n - 1) (c - 1) (d + 1) q m e)) (AA R fun z y => z = .tuple #[] ∧ ∃ (ρ' : Hp) (p' q' : Option Addr) (n' c' m' e' : Nat),y = ρ'.set pb (pO p' n' c' (d + 1) q' m' e') ∧ R (.returned (.tuple #[])) (ρ'.set pb (pO p' n' c' d q' m' e')))) :
   Spec prog 251 #[.pointer (aD pb 0),.func (.func g) fst cap] (ρ.set pb (pO p n c d q m e)) R := by
 refine Er.start ⟨pb,0,rfl,d,by simp [Hp.ld,Hp.AB],fun hh => by omega,fun _ => Er.R8 ⟨pb,0,rfl,d,by simp [Hp.ld,Hp.AB],by unfold AJ; omega,?_⟩⟩
 refine st1 Ic (Hp.AB _ _ _) rfl rfl (by simp) rfl ?_
 rw [Hp.set_set]
 refine Dl h fun a => ⟨_,_,_,_,rfl,g,fst,cap,rfl,Og,hR.cont fun z y hy => ?_⟩
 obtain ⟨rfl,ρ2,p2,q2,n2,c2,m2,e2,rfl,hr⟩ := hy
 refine ⟨rfl,d + 1,by simp [Hp.ld,Hp.AB],by unfold AJ; omega,?_⟩
 refine st1 Ic (Hp.AB _ _ _) rfl rfl (by simp) rfl ?_
 rw [Hp.set_set,show d + 1 - 1 = d by omega]
 exact hr
end
end TwW
end
